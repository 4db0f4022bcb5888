/- The one form of ranges, as the program makes it. The one form of ranges: the walk. -/
import Derived.Test.YtnmojicfmcbgmaaGreatQRangesF
import Derived.Test.YtnmojicfmcbgmaaGreatQRound
namespace Go.Proofs.YtnmojicfmcbgmaaGreat
open Go.RowKit Go.Sort Go.Lib Go.Shelf

attribute [local go_sem] Oper.semAt_some

/-- One range more: it is taken into the last one, or stands behind it. -/
def addF (out : Array (Int × Int)) (x : Int × Int) : Array (Int × Int) :=
  if 0 < out.size ∧ x.1 ≤ out[out.size - 1]!.2 + 1 then out.set! (out.size - 1) (out[out.size - 1]!.1, max out[out.size - 1]!.2 x.2) else out.push x
def formF (l : List (Int × Int)) : Array (Int × Int) := l.foldl addF #[]
def formN (pre : List NR) : Array (Int × Int) := formF (pre.map (·.1))
theorem formN_snoc (pre : List NR) (x : NR) : formN (pre ++ [x]) = addF (formN pre) x.1 := by unfold formN formF; simp
theorem addF_size (out : Array (Int × Int)) (x : Int × Int) : (addF out x).size ≤ out.size + 1 := by unfold addF; split <;> simp
theorem foldF_size : ∀ (l : List (Int × Int)) (out : Array (Int × Int)), (l.foldl addF out).size ≤ out.size + l.length
  | [], _ => by simp
  | x :: l, out => by
    have := foldF_size l (addF out x)
    have := addF_size out x
    simp only [List.foldl_cons, List.length_cons]
    omega
theorem formN_size (pre : List NR) : (formN pre).size ≤ pre.length := by
  have := foldF_size (pre.map (·.1)) #[]
  simpa [formN, formF] using this
theorem set_other_R (out : Array (Int × Int)) (i k : Nat) (v : Int × Int) (h : k ≠ i) : (out.set! i v)[k]! = out[k]! := by
  rw [Array.getElem!_eq_getD, Array.getElem!_eq_getD, Array.getD_eq_getD_getElem?, Array.getD_eq_getD_getElem?]
  congr 1
  simp only [Array.set!_eq_setIfInBounds]
  rw [Array.getElem?_setIfInBounds_ne (Ne.symm h)]
theorem addF_last {out : Array (Int × Int)} {x : Int × Int} (hx : 1 ≤ x.2 ∧ x.2 ≤ 1000000) (h : ∀ k, k < out.size → 1 ≤ out[k]!.2 ∧ out[k]!.2 ≤ 1000000) : ∀ k, k < (addF out x).size → 1 ≤ (addF out x)[k]!.2 ∧ (addF out x)[k]!.2 ≤ 1000000 := by
  intro k hk
  unfold addF at hk ⊢
  split at hk
  · rename_i hc
    rw [if_pos hc]
    have hk' : k < out.size := by simpa using hk
    by_cases e : k = out.size - 1
    · subst e
      have : (out.set! (out.size - 1) (out[out.size - 1]!.1, max out[out.size - 1]!.2 x.2))[out.size - 1]! = (out[out.size - 1]!.1, max out[out.size - 1]!.2 x.2) := by simp [hk']
      rw [this]
      have := h _ hk'
      simp only
      omega
    · have := set_other_R out (out.size - 1) k (out[out.size - 1]!.1, max out[out.size - 1]!.2 x.2) e
      rw [this]
      exact h k hk'
  · rename_i hc
    rw [if_neg hc]
    rcases Nat.lt_or_ge k out.size with hk' | hk'
    · have : (out.push x)[k]! = out[k]! := by rw [getElem!_pos _ k (by simp; omega), getElem!_pos out k hk', Array.getElem_push_lt]
      rw [this]; exact h k hk'
    · obtain rfl : k = out.size := by simp at hk; omega
      have : (out.push x)[out.size]! = x := by rw [getElem!_pos (out.push x) out.size (by simp)]; simp
      rw [this]; exact hx
theorem foldF_last : ∀ (l : List NR) (out : Array (Int × Int)), (∀ k, k < out.size → 1 ≤ out[k]!.2 ∧ out[k]!.2 ≤ 1000000) → ∀ k, k < ((l.map (·.1)).foldl addF out).size → 1 ≤ ((l.map (·.1)).foldl addF out)[k]!.2 ∧ ((l.map (·.1)).foldl addF out)[k]!.2 ≤ 1000000
  | [], _, h => h
  | x :: l, out, h => foldF_last l (addF out x.1) (addF_last ⟨by have := x.2; omega, x.2.2.2⟩ h)
theorem formN_last (pre : List NR) : ∀ k, k < (formN pre).size → 1 ≤ (formN pre)[k]!.2 ∧ (formN pre)[k]!.2 ≤ 1000000 := foldF_last pre #[] (fun k hk => absurd hk (by simp))
theorem flatK_setHi (d : Array (Int × Int)) (k : Nat) (hk : k < d.size) (h : Int) : (flatK encR 2 (d.set! k (d[k]!.1, h))).toList = (flatK encR 2 d).toList.set (k * 2 + 1) (.int .i64 h) := by
  apply List.ext_getElem?
  intro t
  rcases Nat.lt_or_ge t (d.size * 2) with h1 | h1
  · have hs : (d.set! k (d[k]!.1, h)).size = d.size := by simp
    rw [getK_some _ _ _ _ (by rw [hs]; exact h1), List.getElem?_set]
    by_cases e : k * 2 + 1 = t
    · rw [if_pos e, if_pos (by simp; omega)]
      have e1 : t / 2 = k := by omega
      have e2 : t % 2 = 1 := by omega
      have e3 : (d.set! k (d[k]!.1, h))[k]! = (d[k]!.1, h) := by simp [hk]
      rw [e1, e2, e3]; rfl
    · rw [if_neg e, getK_some _ _ _ _ h1]
      by_cases e4 : t / 2 = k
      · have e2 : t % 2 = 0 := by omega
        have e3 : (d.set! k (d[k]!.1, h))[k]! = (d[k]!.1, h) := by simp [hk]
        rw [e4, e2, e3]; rfl
      · rw [set_other_R _ _ _ _ e4]
  · rw [List.getElem?_eq_none (by simpa using h1), List.getElem?_eq_none (by simpa using h1)]
theorem all2_stops (b g : Nat) (A : Option Addr) (c : Nat) (d : Array (Int × Int)) (hd : d.size ≤ 1000000) (w : World) (n : Nat) (hn : 1 ≤ n) (hb : b < w.heap.size) (hg : g < w.heap.size) (hcell : w.cell? ⟨b, 0, none⟩ = some (.slice A d.size c))
    (hr : RdK encR 2 w.heap.size w A d) (hA : 0 < d.size → ∃ off, A = some ⟨g, off, none⟩) (hok : ∀ x ∈ d, isR x = true → 1 ≤ x.1 ∧ x.1 ≤ x.2 ∧ x.2 ≤ 1000000) :
    SeqStopsK Fence.wide n Tryz.prog 189 #[.pointer (some ⟨b, 0, none⟩)] encN (Kg g) (fun ys => ys.map (·.1) = d.toList.filter isR) (fun _ => True) d.size w := fun l J Jx W hW hJ _ hY h0 => by
  refine all2_in Fence.wide n trivial rfl hn l b g A c d hd J Jx hY W hJ (Nat.lt_of_lt_of_le hg hW.size) ((hW.cell (p := ⟨b, 0, none⟩) hb).trans hcell) (fun wr hk => ?_) hok h0
  rcases Nat.eq_zero_or_pos d.size with h' | h'
  · exact fun h => absurd h (by omega)
  · obtain ⟨off, rfl⟩ := hA h'
    exact hk.rd (Nat.lt_of_lt_of_le hg hW.size) ((hr.below hW).mono hW.size)
theorem Kg.putObj {g s : Nat} (hg : g < s) (W : World) (l : Nat) (o o' : Obj) (hl : s ≤ l) (_ : W.heap[l]? = some o) (_ : o.isCells = false) (_ : o.isWalk = false) : Kg g W (W.putObj l o') :=
  ⟨by simp [World.putObj], World.putObj_heap_other (by omega)⟩
end Go.Proofs.YtnmojicfmcbgmaaGreat
namespace Go.Proofs.YtnmojicfmcbgmaaGreat
open Go.RowKit Go.Sort Go.Lib Go.Shelf

attribute [local go_sem] Oper.semAt_some

theorem own_mono_R {w : World} {base base' : Nat} {e : TypeId} {size : Nat} {v : Value} {n : Nat} {xs : List Value} (h : w.ownsRow base e size v n xs) (hb : base' ≤ base) : w.ownsRow base' e size v n xs :=
  ⟨h.1, h.2.imp id fun ⟨g, cap, cur, q1, q2, q3⟩ => ⟨g, cap, cur, q1, Nat.le_trans hb q2, q3⟩⟩
theorem kg_app {W w2 : World} {g B : Nat} {v v' : Value} {o : Obj} (hg : g < W.heap.size) (hgB : g ≠ B) (hne : v.ownBlock = some g → False) (hgrow : (W.alloc o).grownBy w2 v.ownBlock) : Kg g W (w2.setCell ⟨B, 0, none⟩ v') := by
  have h1 := hgrow.size
  have h2 := hgrow.block g (by simp; omega) (fun e => hne e.symm)
  have h3 := (grownBy_setCell' w2 B v').block g (by simp at h1; omega) (fun e => hgB (by injection e))
  have h4 := (grownBy_setCell' w2 B v').size
  exact ⟨by simp at h1; omega, h3.trans (h2.trans (Below.heap_alloc W o g hg))⟩
theorem addF_push {out : Array (Int × Int)} {x : Int × Int} (h : ¬ (0 < out.size ∧ x.1 ≤ out[out.size - 1]!.2 + 1)) : addF out x = out.push x := by unfold addF; rw [if_neg h]
theorem keeps_drewN {W W' : World} {n : Nat} (h : KeepsOthers (W.drewN n) W') : KeepsOthers W W' := ⟨h.1, h.2⟩
theorem two_new_R (W : World) (p q : Value) (t : TypeId) : ∀ j u, [p, q][j]? = some u → (W.alloc (.cells #[p, q] t)).cell? ((⟨W.heap.size, 0, none⟩ : Addr).add j) = some u := by
  intro j u hj
  rw [Addr.add_lit, Nat.zero_add, cell_new]
  rw [← hj]
  simp
set_option maxRecDepth 100000 in
set_option maxHeartbeats 4000000 in
theorem form_any (A1 : Option Addr) (c1 : Nat) (d1 : Array (Int × Int)) (A2 : Option Addr) (c2 : Nat) (d2 : Array (Int × Int)) (w : World) (h1 : RdK encR 2 w.heap.size w A1 d1) (h2 : RdK encR 2 w.heap.size w A2 d2) (hd1 : d1.size ≤ 1000000) (hd2 : d2.size ≤ 1000000)
    (hok : ∀ x ∈ d1, isR x = true → 1 ≤ x.1 ∧ x.1 ≤ x.2 ∧ x.2 ≤ 1000000) :
    Calls Tryz.prog 130 #[.slice A1 d1.size c1, .slice A2 d2.size c2] w fun e w' => ∃ d' v out, e = .returned v ∧ SortR d1 d' ∧ out = (if (formF (d'.toList.filter isR)).size ≤ 1000 then formF (d'.toList.filter isR) else d2) ∧ w'.ownsRow w.heap.size 81 2 v out.size (flatK encR 2 out).toList ∧ Below w.heap.size w w' := by
  obtain ⟨i0, hi0, hz0, hz1, hz2⟩ := info_parts range_info
  have hA := all_any A1 c1 d1 (w.alloc (.cells #[.slice none 0 0] 51)) ((h1.alloc (Nat.le_refl _) _).mono (by simp)) hd1
  have HA := Lib.hid hA
  have HOK := Lib.hid hok
  have H2 := Lib.hid h2
  clear hA hok h1 h2
  refine (callsIn_wide (n := 3)).1 ?_
  refine callsIn_of_wp_marks Tryz.func130 rfl trivial ?_ rfl
  simp only [Tryz.ntmps130, List.size_toArray, List.length_cons, List.length_nil, Nat.reduceAdd, Nat.reduceSub, Array.replicate_succ, Array.replicate_zero, List.push_toArray, List.append_toArray, List.nil_append, List.cons_append]
  gi_wp2_with fail
  refine ⟨trivial, ?_⟩
  gi_at_call 168
  refine (callsIn_wide.2 HA.out).mono ?_
  rintro e w1 ⟨d', A', c', b, rfl, hS, hb1, hb2, hcb, hr', hg', hB1⟩
  have hz : w.heap.size + 1 ≤ w1.heap.size := by have := hB1.size; simpa using this
  have bO : Boxed w1 w.heap.size 51 (.slice none 0 0) := (hB1.block _ (by simp)).trans (Boxed.new w _ _)
  have hB : Below w.heap.size w w1 := (bel1 w _).trans (hB1.mono (by simp))
  obtain ⟨g, hg1, hg2, hgA⟩ : ∃ g, w.heap.size + 1 ≤ g ∧ g < w1.heap.size ∧ (0 < d'.size → ∃ off, A' = some ⟨g, off, none⟩) := by
    rcases Nat.eq_zero_or_pos d'.size with h' | h'
    · exact ⟨b, by simpa using hb1, hb2, fun h => absurd h (by omega)⟩
    · obtain ⟨g, off, e, _⟩ := hr' h'
      have := hg' g off e
      exact ⟨g, by simpa using this.1, this.2, fun _ => ⟨off, e⟩⟩
  have hok' : ∀ x ∈ d', isR x = true → 1 ≤ x.1 ∧ x.1 ≤ x.2 ∧ x.2 ≤ 1000000 := fun x hx => HOK.out x ((hS.2.1 x).1 hx)
  have hd' : d'.size ≤ 1000000 := by have := hS.1; omega
  have HS := Lib.hid hS
  have H2b := Lib.hid (H2.out.below hB)
  clear hS hB1 hg'
  gi_wp2
  refine wpIn_rangeFunc_ownH rfl (by omega) (gf := 189) (lb := #[.pointer (some ⟨b, 0, none⟩)]) rfl trivial (enters_of Tryz.func189 (by kernel_rfl) rfl)
    (all2_stops b g A' c' d' hd' w1 _ (by omega) hb2 hg2 hcb hr' hgA hok') Kg.trans (Kg.putObj hg2) (Below.refl _ _) (fun _ => rfl)
    (fun pre W => (∃ v, Boxed W w.heap.size 51 v ∧ W.ownsRow w1.heap.size 81 2 v (formN pre).size (flatK encR 2 (formN pre)).toList ∧ True) ∧ (Below w.heap.size w W ∧ w1.heap.size ≤ W.heap.size))
    (fun _ _ _ => False)
    (OwnFrom.and (Own.from (holdsRow_own w1.heap.size w.heap.size 51 81 2 (fun pre => (formN pre).size) (fun pre => (flatK encR 2 (formN pre)).toList) (fun _ _ => True)) _) (OwnFrom.and (ownFrom_below (Nat.le_refl _) (by omega)) (fun _ _ _ _ hs hg _ => Nat.le_trans hs hg.size)))
    (fun _ _ _ _ _ hs _ _ => hs)
    ⟨⟨_, bO, nil_ownsK _ _ _ _ _, trivial⟩, hB, Nat.le_refl _⟩
    (fun x a' W => ∃ Bx, W.cell? ⟨Bx, 0, none⟩ = some (.int .i64 x.1.1) ∧ W.cell? ⟨Bx, 1, none⟩ = some (.int .i64 x.1.2) ∧ a' = { tmps := #[.slice A1 d1.size c1, .slice A2 d2.size c2, undef, undef, .slice none 0 0, .pointer (some ⟨w.heap.size, 0, none⟩), .pointer (some ⟨Bx, 0, none⟩), undef, .slice A1 d1.size c1, .func (.func 189) #[] #[.pointer (some ⟨b, 0, none⟩)], .agg #[.int .i64 x.1.1, .int .i64 x.1.2], undef, undef, undef, undef, undef, undef, undef, undef, undef, undef, undef, undef, undef, undef, undef, undef, undef, undef, undef, undef, undef, undef, undef, undef, undef, undef, undef, undef, undef, undef, undef, undef, undef, undef, undef, undef, undef, undef], defers := [] })
    (fun x a' _ X Y row hs hg hr => by obtain ⟨Bx, q1, q2, q3⟩ := hs; exact ⟨Bx, cell_kept q1 hg (fun r e => (hr r e).2), cell_kept q2 hg (fun r e => (hr r e).2), q3⟩)
    ?assign ?body ?done ?stop
  case assign =>
    rintro l pre x W K ⟨⟨v, bV, row, _⟩, hBW, hsW⟩ hK
    simp only [encN]
    gi_wp2
    exact hK _ _ ((KeepsOthers.alloc _ _).from _) ((Kg.refl g W).alloc (by omega) _) ⟨⟨v, bV.alloc _, row.alloc _, trivial⟩, hBW.alloc (by omega) _, by simp; omega⟩ ⟨W.heap.size, cell_new W #[.int .i64 x.1.1, .int .i64 x.1.2] _ 0, cell_new W #[.int .i64 x.1.1, .int .i64 x.1.2] _ 1, rfl⟩
  case body =>
    rintro l pre x a' W hl _ ⟨⟨v, bV, row, _⟩, hBW, hsW⟩ ⟨Bx, q1, q2, rfl⟩ hlt
    have hsz := formN_size pre
    have HL := Lib.hid (formN_last pre)
    have HN := Lib.hid (formN_snoc pre x)
    generalize formN pre = out at hsz HL HN row
    have hx := x.2
    have cV := bV.cell
    have fV := bV.frozen
    rcases Nat.eq_zero_or_pos out.size with h0 | h0
    · obtain rfl : out = #[] := Array.eq_empty_of_size_eq_zero h0
      obtain ⟨A, c, rfl, _, _⟩ := rdK_of_owns row
      simp only [List.size_toArray, List.length_nil] at cV
      gi_wp2_with fail
      refine wpIn_round_quiet (by rintro ⟨_, _, h⟩; exact h.elim) (by kernel_rfl) (by kernel_rfl) (by kernel_rfl) ?_
      repeat (go_big_quiet_step (fail))
      refine wpQuiet_nil ?_
      intro _ hw'
      obtain ⟨nq, rfl⟩ := hw'
      have row' : (W.drewN nq).ownsRow w1.heap.size 81 2 (.slice A 0 c) 0 [] := by have := row; rw [flatK_nil] at this; exact this
      have bV' : Boxed (W.drewN nq) w.heap.size 51 (.slice A 0 c) := bV
      gi_wp2_with (gi_at_builtin; refine wpListIn_append_own _ rfl _ _ 51 rfl w1.heap.size 81 i0 (.agg #[.int .i64 0, .int .i64 0]) 2 16 Tryz.underlying51 hi0 hz0 hz1 hz2 rfl (by decide) _ _ _ rfl (row'.alloc _) ⟨W.heap.size, 0, none⟩ 1 1 [.int .i64 x.1.1, .int .i64 x.1.2] rfl rfl (two_new_R (W.drewN nq) _ _ _) (by simp [Value.oneCell']) (by unfold maxLen; omega) (by omega) (by simp; omega) ?_; intro v' w2 hown' hgrow _; obtain ⟨g', cap', rfl⟩ := ownsRow_succ hown'; obtain ⟨hv1, hv2, hr2, hk2, hb2⟩ := bV'.appended (by decide) (own_mono_R row' (show w.heap.size ≤ w1.heap.size by omega)) hBW.size (Nat.le_refl _) (own_mono_R hown' (show w.heap.size ≤ w1.heap.size by omega)) hgrow; have hc1 := hv1.cell; have hf1 := hv1.frozen)
      have hr3 := hown'.kept (grownBy_setCell' w2 w.heap.size (.slice (some ⟨g', 0, none⟩) (0 + 1) cap')) (.inr (hv1.not_row (by decide) hown').symm)
      have hkg := kg_app (B := w.heap.size) (v := .slice A 0 c) (v' := .slice (some ⟨g', 0, none⟩) (0 + 1) cap') (show g < (W.drewN nq).heap.size from Nat.lt_of_lt_of_le hg2 hsW) (by omega) (fun e => by have := (row'.lt _ e).1; omega) hgrow
      refine ⟨(keeps_drewN hk2).from _, hkg, ⟨⟨_, hv2, ?_, trivial⟩, (belDrewN hBW nq).trans hb2, ?_⟩⟩
      · rw [HN.out, addF_push (by simp), Array.size_push, flatK_push encR_len, flatK_nil]
        simpa [encR] using hr3
      · have := hkg.1
        exact Nat.le_trans hsW this
    · obtain ⟨g0, cap, rfl, hgb, hgl, hH⟩ := holds_of_owns row (by
        rintro rfl
        obtain ⟨_, ⟨_, h'⟩ | ⟨_, _, _, e, _⟩⟩ := row
        · omega
        · cases e)
      have hlo := HL.out (out.size - 1) (by omega)
      have hc5 := (hH ((out.size - 1) * 2 + 1) (by rw [size_flatK]; omega)).1
      rw [Nat.zero_add, flat_at _ _ _ _ _ (by omega) (by decide)] at hc5
      have HP : Hid (¬ (x.1.1 ≤ out[out.size - 1]!.2 + 1) → addF out x.1 = out.push x.1) := fun h => addF_push (fun h' => h h'.2)
      have HJ : Hid (x.1.1 ≤ out[out.size - 1]!.2 + 1 → addF out x.1 = out.set! (out.size - 1) (out[out.size - 1]!.1, max out[out.size - 1]!.2 x.1.2)) := fun h => by unfold addF; rw [if_pos ⟨h0, h⟩]
      have HF : ∀ h, Hid ((flatK encR 2 (out.set! (out.size - 1) (out[out.size - 1]!.1, h))).toList = (flatK encR 2 out).toList.set ((out.size - 1) * 2 + 1) (.int .i64 h)) := fun h => flatK_setHi out (out.size - 1) (by omega) h
      have hf5 := row.frozenAt ((out.size - 1) * 2 + 1)
      clear hH
      generalize out[out.size - 1]! = y at hlo hc5 HP HJ HF
      simp only [encR, List.getElem!_cons_zero, List.getElem!_cons_succ] at hc5
      have p0 : (0 : Int) ≤ (out.size : Int) - 1 := by omega
      have p1 : (out.size : Int) - 1 < (out.size : Int) := by omega
      have p2 : (1 : Int) ≤ (out.size : Int) := by omega
      have hix : ((out.size : Int) - 1).toNat = out.size - 1 := by omega
      have hwp : IntKind.i64.wrap ((out.size : Int) - 1) = (out.size : Int) - 1 := by rw [IntKind.wrap_i64]; omega
      have hwy : IntKind.i64.wrap (y.2 + 1) = y.2 + 1 := by rw [IntKind.wrap_i64]; omega
      by_cases hj : x.1.1 ≤ y.2 + 1
      · gi_wp2_with fail
        refine wpIn_round_quiet (by rintro ⟨_, _, h⟩; exact h.elim) (by kernel_rfl) (by kernel_rfl) (by kernel_rfl) ?_
        repeat (go_big_quiet_step (fail))
        refine wpQuiet_nil ?_
        intro _ hw'
        obtain ⟨nq, rfl⟩ := hw'
        gi_wp2_with fail
        refine wpIn_round_tail 12 (by rintro ⟨_, _, h⟩; exact h.elim) (by kernel_rfl) (by kernel_rfl) (by kernel_rfl) ?_
        simp only [List.take_succ_cons, List.take_zero, List.drop_succ_cons, List.drop_zero]
        repeat still_step
        try refine wpStill_nil ?_
        go_wp2
        obtain ⟨hs1, hs2⟩ := World.ownsRow.stored (w := (W.drewN nq).drew) (by exact row) ((out.size - 1) * 2 + 1) (.int .i64 (max y.2 x.1.2))
        have hk := KeepsOthers.setCell (W.drewN nq).drew ⟨g0, (out.size - 1) * 2 + 1, none⟩ (.int .i64 (max y.2 x.1.2))
        have hk' : KeepsOthers W _ := ⟨hk.1, hk.2⟩
        refine ⟨hk'.from _, ⟨hs2.size, hs2.block g (show g < W.heap.size by omega) (fun e => by injection e; omega)⟩, ⟨⟨_, Boxed.kept (W := (W.drewN nq).drew) bV hs2 (fun e => by injection e; omega), ?_, trivial⟩, (belDrewN hBW nq).drew.setCell (p := ⟨g0, _, none⟩) (show w.heap.size ≤ g0 by omega) _, Nat.le_trans hsW hs2.size⟩⟩
        rw [HN.out, HJ.out hj, (HF _).out]
        simpa using hs1
      · have hjb : decide (x.1.1 ≤ y.2 + 1) = false := by simp; omega
        gi_wp2_with fail
        refine wpIn_round_quiet (by rintro ⟨_, _, h⟩; exact h.elim) (by kernel_rfl) (by kernel_rfl) (by kernel_rfl) ?_
        repeat (go_big_quiet_step (fail))
        refine wpQuiet_nil ?_
        intro _ hw'
        obtain ⟨nq, rfl⟩ := hw'
        have row' : (W.drewN nq).ownsRow w1.heap.size 81 2 (.slice (some ⟨g0, 0, none⟩) out.size cap) out.size (flatK encR 2 out).toList := row
        have bV' : Boxed (W.drewN nq) w.heap.size 51 (.slice (some ⟨g0, 0, none⟩) out.size cap) := bV
        gi_wp2_with (gi_at_builtin; refine wpListIn_append_own _ rfl _ _ 51 rfl w1.heap.size 81 i0 (.agg #[.int .i64 0, .int .i64 0]) 2 16 Tryz.underlying51 hi0 hz0 hz1 hz2 rfl (by decide) _ _ _ rfl (row'.alloc _) ⟨W.heap.size, 0, none⟩ 1 1 [.int .i64 x.1.1, .int .i64 x.1.2] rfl rfl (two_new_R (W.drewN nq) _ _ _) (by simp [Value.oneCell']) (by unfold maxLen; omega) (by omega) (by simp; omega) ?_; intro v' w2 hown' hgrow _; obtain ⟨g', cap', rfl⟩ := ownsRow_succ hown'; obtain ⟨hv1, hv2, hr2, hk2, hb2⟩ := bV'.appended (by decide) (own_mono_R row' (show w.heap.size ≤ w1.heap.size by omega)) hBW.size (Nat.le_refl _) (own_mono_R hown' (show w.heap.size ≤ w1.heap.size by omega)) hgrow; have hc1 := hv1.cell; have hf1 := hv1.frozen)
        have hr3 := hown'.kept (grownBy_setCell' w2 w.heap.size (.slice (some ⟨g', 0, none⟩) (out.size + 1) cap')) (.inr (hv1.not_row (by decide) hown').symm)
        have hkg := kg_app (B := w.heap.size) (v := .slice (some ⟨g0, 0, none⟩) out.size cap) (v' := .slice (some ⟨g', 0, none⟩) (out.size + 1) cap') (show g < (W.drewN nq).heap.size from Nat.lt_of_lt_of_le hg2 hsW) (by omega) (fun e => by have := (row'.lt _ e).1; omega) hgrow
        refine ⟨(keeps_drewN hk2).from _, hkg, ⟨⟨_, hv2, ?_, trivial⟩, (belDrewN hBW nq).trans hb2, ?_⟩⟩
        · rw [HN.out, HP.out hj, Array.size_push, flatK_push encR_len]
          exact hr3
        · have := hkg.1
          exact Nat.le_trans hsW this
  case done =>
    rintro D ys W hD hys ⟨⟨v, bV, row, _⟩, hBW, hsW⟩ hK
    have HY : Hid (formN ys = formF (d'.toList.filter isR)) := by show _ = _; unfold formN; rw [hys]
    obtain ⟨A, c, rfl, _, _⟩ := rdK_of_owns row
    have cV := bV.cell
    by_cases h1000 : (formN ys).size ≤ 1000
    · have ht : decide ((1000 : Int) < ((formN ys).size : Int)) = false := by simp; omega
      generalize hgen : formN ys = out at *
      gi_wp2
      refine ⟨by simp, .inl ⟨_, _, rfl, run_takeDeferred hK, ?_⟩⟩
      exact ⟨_, results_tmp rfl _ _ _, d', _, out, rfl, HS.out, by rw [← HY.out, if_pos h1000], ownsRow_putObj (own_mono_R row (show w.heap.size ≤ w1.heap.size by omega)) _ hK rfl, hBW.trans (belowK_b (w := w) (Nat.le_refl _) W D _ _ (by omega) hK rfl rfl)⟩
    · have ht : (1000 : Int) < ((formN ys).size : Int) := by omega
      generalize hgen : formN ys = out at *
      have hC := CloneR A2 c2 d2 W ((H2.out.below hBW).mono hBW.size) hd2
      have HC := Lib.hid hC
      clear hC
      gi_wp2_with fail
      refine ⟨trivial, ?_⟩
      gi_at_call 128
      refine (callsIn_wide.2 HC.out).mono ?_
      rintro e w3 ⟨v3, rfl, hown3, hb3⟩
      have hlD : D < W.heap.size := (Array.getElem?_eq_some_iff.1 hK).1
      have hK3 : w3.heap[D]? = some (.deferred (some [])) := (hb3.block D hlD).trans hK
      gi_wp2
      refine ⟨by simp, .inl ⟨_, _, rfl, run_takeDeferred hK3, ?_⟩⟩
      exact ⟨_, results_tmp rfl _ _ _, d', v3, d2, rfl, HS.out, by rw [← HY.out, if_neg h1000], ownsRow_putObj (own_mono_R hown3 hBW.size) _ hK3 rfl, (belStep hBW hb3).trans (belowK_b (w := w) (Nat.le_refl _) w3 D _ _ (by omega) hK3 rfl rfl)⟩
  case stop =>
    rintro D c pre W _ _ h _
    exact h.elim
end Go.Proofs.YtnmojicfmcbgmaaGreat
