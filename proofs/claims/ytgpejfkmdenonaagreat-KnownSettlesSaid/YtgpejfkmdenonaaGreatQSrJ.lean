/- The sort of commands at times, of any length: slices.SortFunc, a clone, ident.Sort. The document's sort of commands at times: each put into its place. The document's sort of commands at times: its walk. -/
import Derived.Test.YtgpejfkmdenonaaGreatQSrE
import Derived.Test.YtgpejfkmdenonaaGreatQId
import Derived.Test.YtgpejfkmdenonaaGreatOwnK
import Derived.Deep.RegionHeld3
import Derived.Deep.DrawnRows
import Derived.Deep.AppendLies
import Derived.Deep.CutRange
import Derived.Deep.CutBlock
namespace Go.Proofs.YtgpejfkmdenonaaGreat
open Go.RowKit Go.Sort Go.Lib
set_option maxRecDepth 100000

theorem encA_len_I (x : Int × Int) : (encA_I x).length = 2 := rfl
theorem encA_1_I (x : Int × Int) : ∀ u ∈ encA_I x, u.oneCell' = true := by
  intro u hu
  simp only [encA_I, List.mem_cons, List.not_mem_nil, or_false] at hu
  rcases hu with rfl | rfl <;> rfl
/-- The same commands, in their order. -/
def srtA (d : Array (Int × Int)) : Array (Int × Int) := (d.toList.mergeSort (fun x y => !lessA y x)).toArray
theorem lessA_eq {x y : Int × Int} (h1 : lessA x y = false) (h2 : lessA y x = false) : x = y := by
  obtain ⟨x1, x2⟩ := x
  obtain ⟨y1, y2⟩ := y
  unfold lessA at *
  simp at *
  omega
theorem srtA_of {d d' : Array (Int × Int)} (hp : PermIn 0 d.size d d') (hs : SortedIn lessA 0 d.size d') : d' = srtA d := by
  have := sorted_unique_holds (lt := lessA) swoL (fun x y h1 h2 => lessA_eq h1 h2) d d' hp hs
  unfold srtA
  rw [← this]
theorem srtA_size (d : Array (Int × Int)) : (srtA d).size = d.size := by
  unfold srtA
  simp [List.length_mergeSort]
set_option maxRecDepth 100000 in
theorem bitAux_le : ∀ f n : Nat, bitLenAux f n ≤ f
  | 0, _ => Nat.le_refl _
  | f + 1, n => by
    unfold bitLenAux
    have := bitAux_le f (n / 2)
    split <;> omega
set_option maxRecDepth 100000 in
theorem bitLen_64 (n : Nat) : Lib.bitLen n ≤ 64 := bitAux_le 64 n
set_option maxRecDepth 100000 in
theorem srtA_nil : srtA #[] = #[] := Array.eq_empty_of_size_eq_zero (by rw [srtA_size]; rfl)
set_option maxRecDepth 100000 in
set_option maxHeartbeats 1000000 in
theorem ins_nil (fv : Value) (w : World) :
    Calls Tryz.prog 103 #[.slice none 0 0, .int .i64 0, .int .i64 0, fv] w fun e w' => e = .returned (.tuple #[]) ∧ w' = w := by
  go_enter Tryz.func103, Tryz.ntmps103
  go_wp2
  refine wp_loop_rounds 1 ?_
  rw [rounds_succ]
  go_wp2
  go_end0
  exact ⟨rfl, rfl⟩
set_option maxRecDepth 100000 in
set_option maxHeartbeats 1000000 in
theorem pdq_nil (fv : Value) (l : Int) (w : World) :
    Calls Tryz.prog 93 #[.slice none 0 0, .int .i64 0, .int .i64 0, .int .i64 l, fv] w fun e w' => e = .returned (.tuple #[]) ∧ w' = w := by
  go_enter Tryz.func93, Tryz.ntmps93
  go_wp2
  refine wp_loop_rounds 1 ?_
  rw [rounds_succ]
  go_wp2_with fail
  refine (ins_nil fv _).mono ?_
  rintro e w' ⟨rfl, rfl⟩
  go_wp2
  refine bodyPost_ret (results_none0 rfl _ _ _) rfl ?_
  exact ⟨rfl, rfl⟩
set_option maxRecDepth 100000 in
set_option maxHeartbeats 1000000 in
theorem SortFunc_nil (fv : Value) (w : World) :
    Calls Tryz.prog 75 #[.slice none 0 0, fv] w fun e w' => e = .returned (.tuple #[]) ∧ w' = w := by
  go_enter Tryz.func75, Tryz.ntmps75
  go_wp2_with fail
  refine (Tryz.bits_Len _ _ (by omega) (by omega)).mono ?_
  rintro e w' ⟨rfl, rfl⟩
  go_wp2_with fail
  refine (pdq_nil fv _ _).mono ?_
  rintro e w' ⟨rfl, rfl⟩
  go_wp2
  go_end0
  exact ⟨rfl, rfl⟩
set_option maxRecDepth 100000 in
set_option maxHeartbeats 1000000 in
theorem SortFunc_any (blk off cap : Nat) (d : Array (Int × Int)) (w : World) (hH : HoldsK encA_I 2 w blk off d) (hblk : blk < w.heap.size) (hsz : d.size ≤ 1000000) :
    Calls Tryz.prog 75 #[.slice (some ⟨blk, off, none⟩) d.size cap, .func (.func 74) #[.agg #[]] #[]] w fun e w' =>
      e = .returned (.tuple #[]) ∧ Srt w blk off (srtA d) w' := by
  have HP := Lib.hid (fun (l : Nat) (hl : l ≤ 64) => pdq_any d.size blk off cap 0 d.size d.size l d w (Nat.le_refl _) hH hblk rfl (Nat.zero_le _) (Nat.le_refl _) hsz hl (Or.inl rfl))
  clear hH
  go_enter Tryz.func75, Tryz.ntmps75
  go_wp2_with fail
  refine (Tryz.bits_Len _ _ (by omega) (by omega)).mono ?_
  rintro e w' ⟨rfl, rfl⟩
  go_wp2_with fail
  refine (HP.out _ ?_).mono ?_
  · exact bitLen_64 _
  rintro e w' ⟨rfl, d', hp, hs, hS⟩
  obtain rfl := srtA_of hp hs
  go_wp2
  go_end0
  exact ⟨rfl, hS⟩
set_option maxRecDepth 100000 in
set_option maxHeartbeats 1000000 in
/-- A clone: nothing, or a row of its own that holds the same. -/
theorem CloneAny (A : Option Addr) (c : Nat) (d : Array (Int × Int)) (w : World) (h : RdK encA_I 2 w.heap.size w A d) (hd : d.size ≤ 1000000) :
    Calls Tryz.prog 24 #[.slice A d.size c] w fun e w' => ∃ v, e = .returned v ∧ w'.ownsRow w.heap.size 50 2 v d.size (flatK encA_I 2 d).toList ∧ Below w.heap.size w w' := by
  obtain ⟨i0, hi0, hz0, hz1, hz2⟩ := info_parts att_info_I
  cases A with
  | none =>
    have h0 : d.size = 0 := by
      rcases Nat.eq_zero_or_pos d.size with h0 | h0
      · exact h0
      · obtain ⟨b, off, e, _⟩ := h h0; cases e
    obtain rfl : d = #[] := Array.eq_empty_of_size_eq_zero h0
    exact (AnyE.slices_Clone_nil Tryz.laysClone 0 c w).mono fun e w' ⟨he, hw⟩ => ⟨_, he, nil_ownsK _ _ _ _ _, by rw [hw]; exact Below.refl _ _⟩
  | some ad =>
    have HR := Lib.hid h
    clear h
    have q33 : ∀ (w : World) (a : Option Addr) (n c n' c' : Nat), (binOp .eql 23 (.slice a n c) (.slice none n' c')).run Tryz.prog w = .ok (.bool a.isNone) w := fun w a n c n' c' => Lib.run_eql_slice_nil w _ _ a n c n' c' Tryz.underlying23
    go_enter Tryz.func24, Tryz.ntmps24
    go_wp2_with (at_builtin; refine append_rdK encA_1_I encA_len_I (by decide) rfl (.tmp 5) (.tmp 6) 23 rfl w.heap.size 50 i0 (.agg #[.int .i64 0, .int .i64 0]) 16 Tryz.underlying23 hi0 hz0 hz1 hz2 rfl _ #[] rfl (empty_ownsK w 50 encA_I 2) w.heap.size (some ad) c d rfl (HR.out.alloc (Nat.le_refl _) _) (fun h => by cases h) (by simp; omega) (by decide) (by simp) ?_; intro v1 w1 hown1 hg1 _)
    go_ret
    have hb1 : Below w.heap.size w w1 := (bel1 w _).grown hg1 (by simp) (fun k hk => ((empty_ownsK w 50 encA_I 2).lt k hk).1)
    exact ⟨v1, rfl, by simpa using hown1, hb1⟩
set_option maxRecDepth 100000 in
set_option maxHeartbeats 1000000 in
/-- ident.Sort: the same commands, in their order, in memory of its own. -/
theorem Sort_any (A : Option Addr) (c : Nat) (d : Array (Int × Int)) (w : World) (h : RdK encA_I 2 w.heap.size w A d) (hd : d.size ≤ 1000000) :
    Calls Tryz.prog 57 #[.slice A d.size c] w fun e w' => ∃ A' c', e = .returned (.slice A' d.size c') ∧ RdK encA_I 2 w'.heap.size w' A' (srtA d) ∧ (A' = none → c' = 0) ∧ (∀ g off, A' = some ⟨g, off, none⟩ → w.heap.size ≤ g) ∧ Below w.heap.size w w' := by
  have HC := Lib.hid (CloneAny A c d w h hd)
  clear h
  go_enter Tryz.func57, Tryz.ntmps57
  go_wp2_with fail
  refine HC.out.mono ?_
  rintro e w1 ⟨v, rfl, hown, hb⟩
  by_cases hn : v = .slice none 0 0
  · subst hn
    have h0 : d.size = 0 := by
      obtain ⟨_, ⟨_, h0⟩ | ⟨g, cap, cur, hv, _⟩⟩ := hown
      · exact h0
      · cases hv
    clear hown
    obtain rfl : d = #[] := Array.eq_empty_of_size_eq_zero h0
    go_wp2_with fail
    refine (SortFunc_nil _ _).mono ?_
    rintro e w2 ⟨rfl, rfl⟩
    go_wp2
    go_ret
    exact ⟨none, 0, rfl, (by rw [srtA_nil]; exact fun h => absurd h (by decide)), fun _ => rfl, (fun _ _ e => by cases e), hb⟩
  · obtain ⟨g, cap, rfl, hg1, hg2, hH⟩ := holds_of_owns hown hn
    clear hown hn
    have HS := Lib.hid (SortFunc_any g 0 cap d w1 hH hg2 hd)
    clear hH
    go_wp2_with fail
    refine HS.out.mono ?_
    rintro e w2 ⟨rfl, hS⟩
    go_wp2
    go_ret
    refine ⟨some ⟨g, 0, none⟩, cap, rfl, RdK.of_holds hS.holds hS.lt1, (fun e => by cases e), ?_, ?_⟩
    · intro g' off' e
      injection e with e
      injection e with e1
      omega
    · exact hb.trans ⟨hS.os, hS.tape, hS.output, hS.size, fun i hi => hS.block i (Nat.lt_of_lt_of_le hi hb.size) (by omega)⟩
end Go.Proofs.YtgpejfkmdenonaaGreat
namespace Go.Proofs.YtgpejfkmdenonaaGreat
open Go.RowKit Go.Sort Go.Lib
set_option maxRecDepth 100000

/-- o is the first m of d, in order. -/
structure InsP (d : Array (Int × Int)) (m : Nat) (o : Array (Int × Int)) : Prop where
  perm : o.toList.Perm (d.toList.take m)
  sorted : o.toList.Pairwise fun x y => lessA y x = false
theorem InsP.nil (d : Array (Int × Int)) : InsP d 0 #[] := ⟨by simp, by simp⟩
theorem InsP.size {d o : Array (Int × Int)} {m : Nat} (h : InsP d m o) (hm : m ≤ d.size) : o.size = m := by
  have := h.perm.length_eq
  simp at this
  omega
theorem lessA_as {x y : Int × Int} (h : lessA x y = true) : lessA y x = false := by
  unfold lessA at *; simp at *; omega
theorem InsP.put {d o : Array (Int × Int)} {m k : Nat} (h : InsP d m o) (hm : m < d.size) (hk : k ≤ m) (h1 : ∀ j, j < k → lessA d[m]! o[j]! = false) (h2 : k < m → lessA d[m]! o[k]! = true) :
    InsP d (m + 1) (#[] ++ (o.toList.take k).toArray ++ #[d[m]!] ++ (o.toList.drop k).toArray) := by
  have hs := h.size (by omega)
  have e : (#[] ++ (o.toList.take k).toArray ++ #[d[m]!] ++ (o.toList.drop k).toArray).toList = o.toList.take k ++ d[m]! :: o.toList.drop k := by simp
  constructor
  · rw [e]
    refine List.perm_middle.trans ?_
    rw [List.take_append_drop]
    have : d.toList.take (m + 1) = d.toList.take m ++ [d[m]!] := by
      rw [List.take_add_one]
      simp [hm]
    rw [this]
    exact (List.Perm.cons _ h.perm).trans (List.perm_append_singleton _ _).symm
  · rw [e]
    have hp := h.sorted
    rw [← List.take_append_drop k o.toList] at hp
    obtain ⟨p1, p2, p3⟩ := List.pairwise_append.1 hp
    have t1 : ∀ y ∈ o.toList.take k, lessA d[m]! y = false := fun y hy => by
      obtain ⟨j, hj, rfl⟩ := List.mem_take_iff_getElem.1 hy
      have hj' : j < o.size := by simp at hj; omega
      have := h1 j (by simp at hj; omega)
      rw [getElem!_pos o j hj'] at this
      simpa using this
    have t2 : ∀ y ∈ o.toList.drop k, lessA y d[m]! = false := fun y hy => by
      rcases Nat.lt_or_ge k m with hlt | hge
      · have hk' : k < o.toList.length := by simp; omega
        rw [List.drop_eq_getElem_cons hk'] at hy p2
        have hk2 := h2 hlt
        rw [getElem!_pos o k (by omega)] at hk2
        rcases List.mem_cons.1 hy with rfl | hy
        · exact lessA_as (by simpa using hk2)
        · have a1 := (List.pairwise_cons.1 p2).1 y hy
          have a2 : lessA d[m]! o[k] = true := hk2
          have a3 : lessA y o.toList[k] = false := a1
          simp only [Array.getElem_toList] at a3
          unfold lessA at *
          simp at *
          omega
      · rw [List.drop_of_length_le (by simp; omega)] at hy
        cases hy
    refine List.pairwise_append.2 ⟨p1, List.pairwise_cons.2 ⟨t2, p2⟩, fun y hy z hz => ?_⟩
    rcases List.mem_cons.1 hz with rfl | hz
    · exact t1 y hy
    · exact p3 y hy z hz
theorem InsP.fin {d o : Array (Int × Int)} (h : InsP d d.size o) : o = srtA d := by
  have hs := h.size (Nat.le_refl _)
  refine srtA_of ⟨hs, fun i hi => ?_, ?_⟩ ?_
  · have h1 : d.size ≤ i := by omega
    simp [h1, hs]
  · have e1 : o.extract 0 d.size = o := by rw [← hs]; simp
    have e2 : d.extract 0 d.size = d := by simp
    rw [e1, e2]
    have := h.perm
    rwa [List.take_of_length_le (by simp)] at this
  · intro i j _ hij hj
    have := List.pairwise_iff_getElem.1 h.sorted i j (by simp; omega) (by simp; omega) hij
    rw [getElem!_pos o j (by omega), getElem!_pos o i (by omega)]
    simpa using this
section
variable {α : Type} [Inhabited α] {enc : α → List Value} {k : Nat}
/-- A slice that reads as d is appended to a row of the call's own, at a step of a region that draws its order. -/
theorem step_append_R {P : Program} {w : World} {ops : Array Oper} {o : Oper} {a : Act} {K : Act → World → Prop} {Q : Exit → Act → World → Prop} {E : Prop} (h1 : ∀ x, ∀ u ∈ enc x, u.oneCell' = true) (hk : ∀ x, (enc x).length = k) (hk0 : 0 < k) (hgd : o.guard = none) (s x : Operand) (t : TypeId)
    (ho : o.op = .call { callee := .builtin .append, args := #[s, x], argTypes := #[t, t] })
    (w0 : World) (e : TypeId) (i : TypeInfo) (z : Value) (bytes : Nat) (ht : P.underlying t = some (.slice e)) (hi : P.info? e = some i) (hz : i.zero = some z)
    (hsize : i.size = k) (hby : i.bytes = bytes) (hzs : z.cells.size = k)
    (v : Value) (d0 : Array α) (hs : a.eval s = v) (hown : w.ownsRow w0.heap.size e k v d0.size (flatK enc k d0).toList)
    (A : Option Addr) (n c B : Nat) (d : Array α) (hx : a.eval x = .slice A n c) (hn : n = d.size) (hr : RdK enc k B w A d) (hnil : A = none → c = 0)
    (h63 : d0.size + d.size ≤ 100000000) (hbb : bytes ≤ 100000) (hB : Below w0.heap.size w0 w)
    (h : ∀ v' w', w'.ownsRow w0.heap.size e k v' (d0 ++ d).size (flatK enc k (d0 ++ d)).toList → w.grownBy w' v.ownBlock → Below w0.heap.size w0 w' → K (a.put o.dst v') w') :
    if Region.wanted o (yielded ops a.tmps) = true then Oper.wp P o a w K Q else E := by
  subst hn
  have hw : Region.wanted o (yielded ops a.tmps) = true := by simp [Region.wanted, hgd]
  rw [if_pos hw]
  cases A with
  | none =>
    have h0 : d.size = 0 := by
      rcases Nat.eq_zero_or_pos d.size with h0 | h0
      · exact h0
      · obtain ⟨b, off, e, _⟩ := hr h0; cases e
    obtain rfl : d = #[] := Array.eq_empty_of_size_eq_zero h0
    rw [hnil rfl] at hx
    have hx' : a.eval x = .slice none 0 0 := hx
    have hrun := run_append_owned_none (P := P) (w := w) w0.heap.size t o.type e i k ht hi v d0.size _ hown
    unfold Oper.wp execOp
    simp only [ho, resolve, invoke, builtin, Sem.run_bind, Sem.run_pure, Result.andThen_ok, List.map_toArray, List.map_cons, List.map_nil, hs, hx', hrun]
    exact h v w (by simpa using hown) (World.grownBy.refl w _) hB
  | some ad =>
    obtain ⟨v', w', hr', h2, h3, _, _⟩ := run_append_own_at (P := P) w w0.heap.size t o.type e i z k bytes ht hi hz hsize hby hzs hk0 v d0.size _ hown ad d.size c (flatK enc k d).toList (by simp) (fun j u hj => by
      have hlt : j < d.size * k := by
        rcases Nat.lt_or_ge j (d.size * k) with h' | h'
        · exact h'
        · rw [List.getElem?_eq_none (by simpa using h')] at hj; cases hj
      have hd0 : 0 < d.size := by
        rcases Nat.eq_zero_or_pos d.size with h' | h'
        · rw [h', Nat.zero_mul] at hlt; omega
        · exact h'
      obtain ⟨b, off, e1, _, hc⟩ := hr hd0
      injection e1 with e1
      subst e1
      rw [Addr.add_lit, hc j hlt]
      rw [getK_some _ _ _ _ hlt] at hj
      rw [get_flatK _ _ _ _ hlt]
      exact hj) (one_flat h1 hk) (by unfold maxLen; omega) (by
      have : (d0.size + d.size) * bytes ≤ 100000000 * 100000 := Nat.mul_le_mul h63 hbb
      omega) hB.size
    unfold Oper.wp execOp
    simp only [ho, resolve, invoke, builtin, Sem.run_bind, Sem.run_pure, Result.andThen_ok, List.map_toArray, List.map_cons, List.map_nil, hs, hx, hr']
    exact h v' w' (by rw [flatK_append hk, Array.size_append]; exact h2) h3 (hB.grown h3 hB.size (fun k hk => (hown.lt k hk).1))
end
end Go.Proofs.YtgpejfkmdenonaaGreat
namespace Go.Proofs.YtgpejfkmdenonaaGreat
open Go.RowKit Go.Sort Go.Lib
set_option maxRecDepth 100000

attribute [local go_sem ↓] Go.wp_at_zero Go.wp_at_succ
theorem own_mono_I {w : World} {base base' : Nat} {e : TypeId} {size : Nat} {v : Value} {n : Nat} {xs : List Value} (h : w.ownsRow base e size v n xs) (hb : base' ≤ base) : w.ownsRow base' e size v n xs :=
  ⟨h.1, h.2.imp id fun ⟨g, cap, cur, q1, q2, q3⟩ => ⟨g, cap, cur, q1, Nat.le_trans hb q2, q3⟩⟩
section
variable {w W W' : World} {x : Int × Int} {e : TypeId} {o : Obj} {H : Nat}
theorem one2 (h0 : W.cell? ⟨H, 0, none⟩ = some (.int .i64 x.1)) (h1 : W.cell? ⟨H, 1, none⟩ = some (.int .i64 x.2)) : RdK encA_I 2 (H + 1) W (some ⟨H, 0, none⟩) #[x] := fun _ =>
  ⟨H, 0, rfl, Nat.lt_succ_self _, fun t ht => by
    have ht' : t = 0 ∨ t = 1 := by simp at ht; omega
    rcases ht' with rfl | rfl
    · rw [get_flatK _ _ _ _ (by simp)]; exact h0
    · rw [get_flatK _ _ _ _ (by simp)]; exact h1⟩
theorem one2A (w1 : World) (x : Int × Int) (e : TypeId) : RdK encA_I 2 (w1.heap.size + 1) (w1.alloc (.cells #[.int .i64 x.1, .int .i64 x.2] e)).drew (some ⟨w1.heap.size, 0, none⟩) #[x] := one2 (cell_new w1 _ _ 0) (cell_new w1 _ _ 1)
theorem one2B (hg : ((w.alloc o).alloc (.cells #[.int .i64 x.1, .int .i64 x.2] e)).drew.grownBy W' (Value.slice (some ⟨w.heap.size, 0, none⟩) 0 0).ownBlock) : RdK encA_I 2 (w.heap.size + 1 + 1) W' (some ⟨w.heap.size + 1, 0, none⟩) #[x] := by
  have e1 : w.heap.size + 1 = (w.alloc o).heap.size := by simp
  refine one2 ?_ ?_
  · rw [hg.cell_far ⟨w.heap.size + 1, 0, none⟩ (by simp) (by simp [Value.ownBlock]), e1]
    exact cell_new (w.alloc o) _ _ 0
  · rw [hg.cell_far ⟨w.heap.size + 1, 1, none⟩ (by simp) (by simp [Value.ownBlock]), e1]
    exact cell_new (w.alloc o) _ _ 1
theorem one2C (hg : ((w.alloc (.cells #[.int .i64 x.1, .int .i64 x.2] e)).alloc o).drew.grownBy W' (Value.slice (some ⟨w.heap.size + 1, 0, none⟩) 0 0).ownBlock) : RdK encA_I 2 (w.heap.size + 1) W' (some ⟨w.heap.size, 0, none⟩) #[x] := by
  refine one2 ?_ ?_
  · rw [hg.cell_far ⟨w.heap.size, 0, none⟩ (by simp; omega) (by simp [Value.ownBlock])]
    exact (World.cell?_alloc_lt (w.alloc (.cells #[.int .i64 x.1, .int .i64 x.2] e)) o ⟨w.heap.size, 0, none⟩ (by simp)).trans (cell_new w _ _ 0)
  · rw [hg.cell_far ⟨w.heap.size, 1, none⟩ (by simp; omega) (by simp [Value.ownBlock])]
    exact (World.cell?_alloc_lt (w.alloc (.cells #[.int .i64 x.1, .int .i64 x.2] e)) o ⟨w.heap.size, 1, none⟩ (by simp)).trans (cell_new w _ _ 1)
theorem em2A (w : World) (e : TypeId) : (w.alloc (.cells #[] e)).drew.ownsRow w.heap.size e 2 (.slice (some ⟨w.heap.size, 0, none⟩) 0 0) (#[] : Array (Int × Int)).size (flatK encA_I 2 #[]).toList := (empty_ownsK w e encA_I 2).drew
theorem em2B (w : World) (e : TypeId) (o : Obj) : ((w.alloc (.cells #[] e)).alloc o).drew.ownsRow w.heap.size e 2 (.slice (some ⟨w.heap.size, 0, none⟩) 0 0) (#[] : Array (Int × Int)).size (flatK encA_I 2 #[]).toList := ((empty_ownsK w e encA_I 2).alloc o).drew
theorem em2C (w : World) (e : TypeId) (o : Obj) (H : (w.alloc o).heap.size = w.heap.size + 1) : ((w.alloc o).alloc (.cells #[] e)).drew.ownsRow w.heap.size e 2 (.slice (some ⟨w.heap.size + 1, 0, none⟩) 0 0) (#[] : Array (Int × Int)).size (flatK encA_I 2 #[]).toList := by
  have := own_mono_I (empty_ownsK (w.alloc o) e encA_I 2).drew (base' := w.heap.size) (by simp)
  rw [H] at this
  exact this
theorem rd_take {g m k B o0 : Nat} {oo : Array (Int × Int)} (hH : HoldsK encA_I 2 W g o0 oo) (hg : g < W.heap.size) (hb : Below W.heap.size W W') (hm : oo.size = m) (hk : k ≤ m) (hB : g < B) : RdK encA_I 2 B W' (some ⟨g, o0, none⟩) (oo.toList.take k).toArray := fun _ =>
  ⟨g, o0, rfl, hB, fun t ht => by
    have hl : (oo.toList.take k).toArray.size = k := by simp; omega
    rw [hl] at ht
    rw [hb.cell (p := ⟨g, o0 + t, none⟩) hg, (hH t (by rw [size_flatK]; omega)).1, get_flatK _ _ oo _ (by omega), get_flatK _ _ (oo.toList.take k).toArray _ (by rw [hl]; exact ht)]
    have e1 : (oo.toList.take k).toArray[t / 2]! = oo[t / 2]! := by
      rw [getElem!_pos _ _ (by rw [hl]; omega), getElem!_pos oo _ (by omega)]
      simp
    rw [e1]; rfl⟩
theorem rd_drop {g m k B o0 off : Nat} {oo : Array (Int × Int)} (hH : HoldsK encA_I 2 W g o0 oo) (hg : g < W.heap.size) (hb : Below W.heap.size W W') (hm : oo.size = m) (hk : k ≤ m) (hB : g < B) (ho : off = o0 + k * 2 ∨ k = m) : RdK encA_I 2 B W' (some ⟨g, off, none⟩) (oo.toList.drop k).toArray := fun h0 =>
  ⟨g, off, rfl, hB, fun t ht => by
    have hl : (oo.toList.drop k).toArray.size = m - k := by simp; omega
    rw [hl] at ht h0
    obtain rfl : off = o0 + k * 2 := by omega
    have e0 : o0 + k * 2 + t = o0 + (k * 2 + t) := by omega
    rw [hb.cell (p := ⟨g, o0 + k * 2 + t, none⟩) hg, e0, (hH (k * 2 + t) (by rw [size_flatK]; omega)).1, get_flatK _ _ oo _ (by omega), get_flatK _ _ (oo.toList.drop k).toArray _ (by rw [hl]; exact ht)]
    have e2 : (k * 2 + t) / 2 = k + t / 2 := by omega
    have e3 : (k * 2 + t) % 2 = t % 2 := by omega
    have e1 : (oo.toList.drop k).toArray[t / 2]! = oo[k + t / 2]! := by
      rw [getElem!_pos _ _ (by rw [hl]; omega), getElem!_pos oo _ (by omega)]
      simp
    rw [e1, e2, e3]; rfl⟩
theorem own_parts {base m : Nat} {v : Value} {oo : Array (Int × Int)} (h : W.ownsRow base e 2 v m (flatK encA_I 2 oo).toList) (hm : oo.size = m) (hn : v ≠ .slice none 0 0) : ∃ g cap o0, v = .slice (some ⟨g, o0, none⟩) m cap ∧ m ≤ cap ∧ g < W.heap.size ∧ HoldsK encA_I 2 W g o0 oo := by
  subst hm
  obtain ⟨g, cap, hv, h1, h2, h3⟩ := holds_of_owns h hn
  refine ⟨g, cap, 0, hv, ?_, h2, h3⟩
  obtain ⟨_, ⟨h1, _⟩ | ⟨g', cap', cur, hv', hb, hh, hnc, _⟩⟩ := h
  · exact absurd h1 hn
  · rw [hv] at hv'
    injection hv' with _ _ e3
    omega
theorem cellsE {g k o0 : Nat} {oo : Array (Int × Int)} (hH : HoldsK encA_I 2 w g o0 oo) (hg : g < w.heap.size) (hb : Below w.heap.size w W) (hi : k < oo.size) (p : ExtW W) : p.to.cell? ⟨g, o0 + k * 2, none⟩ = some (.int .i64 oo[k]!.1) ∧ p.to.cell? ⟨g, o0 + k * 2 + 1, none⟩ = some (.int .i64 oo[k]!.2) := by
  have hB := hb.trans (p.h.mono hb.size)
  exact ⟨(hB.cell (p := ⟨g, o0 + k * 2, none⟩) hg).trans ((hH.cell (i := k) (c := 0) hi (by decide)).1), (hB.cell (p := ⟨g, o0 + k * 2 + 1, none⟩) hg).trans ((hH.cell (i := k) (c := 1) hi (by decide)).1)⟩
theorem holdsBel {g o0 : Nat} {oo : Array (Int × Int)} (hH : HoldsK encA_I 2 w g o0 oo) (hg : g < w.heap.size) (hb : Below w.heap.size w W) : HoldsK encA_I 2 W g o0 oo := fun t ht =>
  ⟨(hb.cell (p := ⟨g, o0 + t, none⟩) hg).trans (hH t ht).1, (hb.frozen (p := ⟨g, o0 + t, none⟩) hg).trans (hH t ht).2⟩
theorem keep3 {b q : Nat} {u v : Value} (h : b < W.heap.size ∧ W.cell? ⟨b, q, none⟩ = some u ∧ W.cell? ⟨b, q + 1, none⟩ = some v) (hb : Below W.heap.size W W') : Below W.heap.size W W' ∧ W'.cell? ⟨b, q, none⟩ = some u ∧ W'.cell? ⟨b, q + 1, none⟩ = some v :=
  ⟨hb, (hb.cell (p := ⟨b, q, none⟩) h.1).trans h.2.1, (hb.cell (p := ⟨b, q + 1, none⟩) h.1).trans h.2.2⟩
end
end Go.Proofs.YtgpejfkmdenonaaGreat
