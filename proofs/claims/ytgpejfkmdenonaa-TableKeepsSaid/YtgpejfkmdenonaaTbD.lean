/- Commands forgotten: slices.Clone at commands, table.Drop, rubatoref21.Drop. -/
import Derived.Test.YtgpejfkmdenonaaDelN
import Derived.Lib.SliceRun
namespace Go.Proofs.Ytgpejfkmdenonaa
open Go.RowKit Go.Sort Go.Lib
set_option maxRecDepth 100000
theorem ent_info : (Try.prog.info? 25).map (fun i => (i.zero, i.size, i.bytes)) = some (some (.agg #[.int .i64 0, .int .i64 0, .int .i64 0, .int .i64 0, .int .i64 0, .int .i64 0, .int .i64 0, .int .i64 0, .string ⟨#[]⟩, .slice none 0 0]), 10, 104) := by kernel_rfl
theorem newL (W : World) (l : List Value) (t : TypeId) : ∀ j u, l[j]? = some u → (W.alloc (.cells l.toArray t)).cell? ((⟨W.heap.size, 0, none⟩ : Addr).add j) = some u := by
  intro j u hj
  rw [Addr.add_lit, Nat.zero_add, cell_new]
  rw [← hj]
  simp
theorem own_app_E {w wr w1 : World} {B : Nat} {o : Obj} {e : TypeId} {s n : Nat} {v : Value} {xs : List Value} (hb : Below B w wr) (hB : B ≤ wr.heap.size) (hown : wr.ownsRow B e s v n xs) (hg : (wr.alloc o).grownBy w1 v.ownBlock) : Below B w w1 :=
  (hb.alloc hB o).grown hg (by simp; omega) (fun k hk => (hown.lt k hk).1)
theorem own_belE {w W : World} {B s n : Nat} {e : TypeId} {v : Value} {xs : List Value} (h : w.ownsRow B e s v n xs) (hb : Below w.heap.size w W) : W.ownsRow B e s v n xs := by
  obtain ⟨h0, h1 | ⟨g, cap, cur, hv, hB, hh, hr⟩⟩ := h
  · exact ⟨h0, Or.inl h1⟩
  · exact ⟨h0, Or.inr ⟨g, cap, cur, hv, hB, (hb.block g (blkL hh)).trans hh, hr⟩⟩
set_option maxHeartbeats 2000000 in
theorem CloneN (A : Option Addr) (c : Nat) (d : Array EN) (w : World) (h : RdK encE 10 w.heap.size w A d) (hd : d.size ≤ 1000000) :
    Calls Try.prog 30 #[.slice A d.size c] w fun e w' => ∃ v, e = .returned v ∧ w'.ownsRow w.heap.size 25 10 v d.size (flatK encE 10 d).toList ∧ Below w.heap.size w w' := by
  obtain ⟨i0, hi0, hz0, hz1, hz2⟩ := info_parts ent_info
  cases A with
  | none =>
    have h0 : d.size = 0 := by
      rcases Nat.eq_zero_or_pos d.size with h0 | h0
      · exact h0
      · obtain ⟨b, off, e, _⟩ := h h0; cases e
    obtain rfl : d = #[] := Array.eq_empty_of_size_eq_zero h0
    exact (AnyE.slices_Clone_nil Try.laysCloneN 0 c w).mono fun e w' ⟨he, hw⟩ => ⟨_, he, nil_ownsK _ _ _ _ _, by rw [hw]; exact Below.refl _ _⟩
  | some ad =>
    have HR := Lib.hid h
    clear h
    have q33 : ∀ (w : World) (a : Option Addr) (n c n' c' : Nat), (binOp .eql 22 (.slice a n c) (.slice none n' c')).run Try.prog w = .ok (.bool a.isNone) w := fun w a n c n' c' => Lib.run_eql_slice_nil w _ _ a n c n' c' Try.underlying22
    go_enter Try.func30, Try.ntmps30
    go_wp2_with (at_builtin; refine append_rdK encE_1 encE_len (by decide) rfl (.tmp 5) (.tmp 6) 22 rfl w.heap.size 25 i0 (.agg #[.int .i64 0, .int .i64 0, .int .i64 0, .int .i64 0, .int .i64 0, .int .i64 0, .int .i64 0, .int .i64 0, .string ⟨#[]⟩, .slice none 0 0]) 104 Try.underlying22 hi0 hz0 hz1 hz2 rfl _ #[] rfl (empty_ownsK w 25 encE 10) w.heap.size (some ad) c d rfl (HR.out.alloc (Nat.le_refl _) _) (fun h => by cases h) (by simp; omega) (by decide) (by simp) ?_; intro v1 w1 hown1 hg1 _)
    go_ret
    have hb1 : Below w.heap.size w w1 := (bel1 w _).grown hg1 (by simp) (fun k hk => ((empty_ownsK w 25 encE 10).lt k hk).1)
    exact ⟨v1, rfl, by simpa using hown1, hb1⟩
def dropB (upto : Int) (x : EN) : Bool := decide (x.ph = 6 ∧ x.t ≤ upto)
theorem drop1_any (x : EN) (n : Int) (g : Nat) (w : World) (hg : g < w.heap.size) (hc : w.cell? ⟨g, 0, none⟩ = some (.int .i64 n)) :
    Calls Try.prog 37 #[.agg (encE x).toArray, .pointer (some ⟨g, 0, none⟩)] w fun e w' => e = .returned (.bool (dropB n x)) ∧ Below w.heap.size w w' := by
  have hc' : ∀ o, (w.alloc o).cell? ⟨g, 0, none⟩ = some (.int .i64 n) := fun o => (World.cell?_alloc_lt w _ _ hg).trans hc
  have HB : Hid (∀ o, Below w.heap.size w (w.alloc o)) := Lib.hid (fun o => bel1 w o)
  simp only [encE]
  go_enter Try.func37, Try.ntmps37
  go_wp2
  all_goals
    go_ret
    refine ⟨ret_dec ?_, HB.out _⟩
    grind
theorem delNil (g : Nat) (lb : Array Value) (w : World) :
    Calls Try.prog 36 #[.slice none 0 0, .func (.func g) #[] lb] w fun e w' => e = .returned (.slice none 0 0) ∧ Below w.heap.size w w' := by
  have HI : Hid (Calls Try.prog 33 #[.slice none 0 0, .func (.func g) #[] lb] w fun e w' => e = .returned (.int .i64 (-1)) ∧ w' = w) := by
    show Calls _ _ _ _ _
    go_enter Try.func33, Try.ntmps33
    go_wp2
    refine wp_loop_rounds 1 ?_; rw [rounds_succ]
    go_wp2
    go_ret
    exact ⟨rfl, rfl⟩
  go_enter Try.func36, Try.ntmps36
  go_wp2_with fail
  refine HI.out.mono ?_
  rintro e w1 ⟨rfl, rfl⟩
  go_wp2
  go_ret
  exact ⟨rfl, Below.refl _ _⟩
/-- What is left of the commands. -/
def keepT (upto : Int) (d : Array EN) : Array EN := (d.toList.filter fun x => !dropB upto x).toArray
theorem keepT_size (upto : Int) (d : Array EN) : (keepT upto d).size ≤ d.size := by
  unfold keepT
  simpa using List.length_filter_le (fun x => !dropB upto x) d.toList
/-- Rows of commands of such a row. -/
theorem RdT.sub {w w' : World} {A A' : Option Addr} {d d' : Array EN} (h : RdT w A d) (hb : Below w.heap.size w w') (hr : RdK encE 10 w'.heap.size w' A' d') (hs : d'.size ≤ 100) (hm : ∀ x ∈ d'.toList, x ∈ d.toList) : RdT w' A' d' := by
  refine ⟨hr, fun i hi => ?_, hs⟩
  have h1 := hm d'[i]! (by rw [getElem!_pos d' i hi]; simp)
  obtain ⟨j, hj, e⟩ := List.getElem_of_mem h1
  have hj' : j < d.size := by simpa using hj
  have := h.el j hj'
  rw [getElem!_pos d j hj'] at this
  have e' : d[j] = d'[i]! := by rw [← e]; simp
  rw [e'] at this
  exact this.below hb
theorem keepT_mem {upto : Int} {d : Array EN} : ∀ x ∈ (keepT upto d).toList, x ∈ d.toList := by
  intro x hx
  unfold keepT at hx
  simp only [List.mem_filter] at hx
  exact hx.1
set_option maxHeartbeats 4000000 in
theorem tDrop_any (A : Option Addr) (c : Nat) (d : Array EN) (n : Int) (w : World) (h : RdT w A d) :
    Calls Try.prog 17 #[.slice A d.size c, .int .i64 n] w fun e w' => ∃ A' c', e = .returned (.slice A' (keepT n d).size c') ∧ RdT w' A' (keepT n d) ∧ Below w.heap.size w w' := by
  have HR := Lib.hid h
  have HC := Lib.hid (CloneN A c d (w.alloc (.cells #[.int .i64 n] 3)) (h.below (bel1 w _)).rd (by have := h.sz; omega))
  have HB0 := Lib.hid (bel1 w (.cells #[.int .i64 n] 3))
  have hd0 := h.sz
  clear h
  go_enter Try.func17, Try.ntmps17
  go_wp2_with fail
  refine HC.out.mono ?_
  rintro e w1 ⟨v, rfl, hown, hb1⟩
  have HB1 := Lib.hid (belStep HB0.out hb1)
  have hgl : w.heap.size < w1.heap.size := by have := hb1.size; simp at this; omega
  have hgc : w1.cell? ⟨w.heap.size, 0, none⟩ = some (.int .i64 n) := (hb1.cell (p := ⟨w.heap.size, 0, none⟩) (by simp)).trans (cell_new w _ _ 0)
  clear hb1 HC
  by_cases hv : v = .slice none 0 0
  · subst hv
    have hd : d = #[] := by
      obtain ⟨_, ⟨_, h0⟩ | ⟨g, cap, cur, hv, _⟩⟩ := hown
      · exact Array.eq_empty_of_size_eq_zero h0
      · cases hv
    subst hd
    have HD := Lib.hid (delNil 37 #[.pointer (some ⟨w.heap.size, 0, none⟩)] w1)
    clear hown
    go_wp2_with fail
    refine HD.out.mono ?_
    rintro e w2 ⟨rfl, hb2⟩
    have HB2 := Lib.hid (belStep HB1.out hb2)
    clear hb2
    go_wp2
    go_ret
    exact ⟨none, 0, rfl, ⟨fun h => absurd h (by simp [keepT]), fun i hi => absurd hi (by simp [keepT]), by simp [keepT]⟩, HB2.out⟩
  · obtain ⟨g, cap, rfl, hg, hgl2, hH⟩ := holds_of_owns hown hv
    have hcap : d.size ≤ cap := by
      obtain ⟨_, ⟨h1, _⟩ | ⟨g', cap', cur, hv', _, _, hnc, _⟩⟩ := hown
      · exact absurd h1 hv
      · injection hv' with _ _ hc'
        rw [hc']; exact hnc
    have hgw : w.heap.size < g := by simp at hg; omega
    have HD := Lib.hid (entDel (dropB n) 37 #[.pointer (some ⟨w.heap.size, 0, none⟩)] (enters_of Try.func37 (by kernel_rfl) rfl) g 0 cap d w1
      (fun W x hW => drop1_any x n w.heap.size W (Nat.lt_of_lt_of_le hgl hW.size) (by
        have := hW.block w.heap.size hgl (by intro e; injection e with e; omega)
        unfold World.cell? at hgc ⊢
        simp only [this]
        exact hgc)) hH hgl2 (by omega) hcap)
    clear hown hv
    go_wp2_with fail
    refine HD.out.mono ?_
    rintro e w2 ⟨rfl, hgr, hrd⟩
    have HB2 := Lib.hid (HB1.out.grown hgr (by omega) (fun k hk => by injection hk with hk; omega))
    have HRD := Lib.hid hrd
    clear hgr hrd HD
    go_wp2
    go_ret
    exact ⟨_, cap, rfl, HR.out.sub HB2.out HRD.out (by have := keepT_size n d; omega) keepT_mem, HB2.out⟩
/-- What is left of the first k commands. -/
def keepK (upto : Int) (d : Array EN) (k : Nat) : Array EN := ((d.toList.take k).filter fun x => !dropB upto x).toArray
theorem keepK_succ {upto : Int} {d : Array EN} {k : Nat} (hk : k < d.size) : keepK upto d (k + 1) = if dropB upto d[k]! = true then keepK upto d k else (keepK upto d k).push d[k]! := by
  unfold keepK
  rw [List.take_add_one, List.getElem?_eq_getElem (by simpa using hk), List.filter_append]
  rw [getElem!_pos d k hk]
  have e : d.toList[k]'(by simpa using hk) = d[k] := by simp
  rw [e]
  cases hb : dropB upto d[k] <;> simp [hb]
theorem keepK_all {upto : Int} {d : Array EN} : keepK upto d d.size = keepT upto d := by
  unfold keepK keepT
  rw [List.take_of_length_le (by simp)]
theorem keepK_size (upto : Int) (d : Array EN) (k : Nat) : (keepK upto d k).size ≤ k := by
  unfold keepK
  have := List.length_filter_le (fun x => !dropB upto x) (d.toList.take k)
  have h2 : (d.toList.take k).length ≤ k := by rw [List.length_take]; omega
  simpa using Nat.le_trans this h2
set_option maxHeartbeats 4000000 in
theorem rDrop_any (A : Option Addr) (c : Nat) (d : Array EN) (n : Int) (w : World) (h : RdT w A d) :
    Calls Try.prog 18 #[.slice A d.size c, .int .i64 n] w fun e w' => ∃ A' c', e = .returned (.slice A' (keepT n d).size c') ∧ RdT w' A' (keepT n d) ∧ Below w.heap.size w w' := by
  obtain ⟨i0, hi0, hz0, hz1, hz2⟩ := info_parts ent_info
  have HR := Lib.hid h
  have hd0 := h.sz
  clear h
  go_enter Try.func18, Try.ntmps18
  go_wp2
  go_loopw [5, 6] (fun m i wr => ∃ (k : Nat) (out : Array EN), i = .int .i64 k ∧ k ≤ d.size ∧ out.size ≤ k ∧ Hid (out = keepK n d k) ∧ wr.ownsRow w.heap.size 25 10 m out.size (flatK encE 10 out).toList ∧ Hid (Below w.heap.size w wr)) (fun _ i _ => d.size - (intOf i).toNat)
  case atStart => exact ⟨0, #[], rfl, Nat.zero_le _, Nat.le_refl _, rfl, nil_ownsK _ _ _ _ _, Lib.hid (Below.refl _ _)⟩
  case round =>
    obtain ⟨k, out, rfl, hk, hos, HO, hown, HB⟩ := hrel
    obtain ⟨Am, cm, rfl, _, _⟩ := rdK_of_owns hown
    by_cases hlt : k < d.size
    · have kz : (k : Int) < (d.size : Int) := by omega
      obtain ⟨b, off, rfl, hbl, f⟩ := (HR.out.below HB.out).rd.at_ (i := k) (by omega)
      have e0 := f 0 (by omega)
      have e1 := f 1 (by omega)
      have e2 := f 2 (by omega)
      have e3 := f 3 (by omega)
      have e4 := f 4 (by omega)
      have e5 := f 5 (by omega)
      have e6 := f 6 (by omega)
      have e7 := f 7 (by omega)
      have e8 := f 8 (by omega)
      have e9 := f 9 (by omega)
      have HS : Hid (keepK n d (k + 1) = if dropB n d[k]! = true then out else out.push d[k]!) := by
        show _ = _
        rw [keepK_succ hlt, HO.out]
      obtain ⟨x, hx⟩ : ∃ x, d[k]! = x := ⟨_, rfl⟩
      rw [hx] at e0 e1 e2 e3 e4 e5 e6 e7 e8 e9 HS
      clear f hx
      simp only [Nat.add_zero, encE, List.getElem!_cons_zero, List.getElem!_cons_succ] at e0 e1 e2 e3 e4 e5 e6 e7 e8 e9
      obtain ⟨b1, h1⟩ : ∃ b, (x.ph != 6) = b := ⟨_, rfl⟩
      obtain ⟨b2, h2⟩ : ∃ b, decide (n < x.t) = b := ⟨_, rfl⟩
      have HQ : Hid (dropB n x = !(b1 || b2)) := by
        show _ = _
        rw [← h1, ← h2]
        unfold dropB
        by_cases g1 : x.ph = 6 <;> by_cases g2 : n < x.t <;> simp [g1, g2] <;> omega
      cases b1 <;> cases b2
      · have HN : Hid (out = keepK n d (k + 1)) := by show _ = _; rw [HS.out, HQ.out]; rfl
        go_wp2
        go_roundw
        case rel => exact ⟨k + 1, out, by go_num, by omega, by omega, HN, hown, HB⟩
        case measure => simp [intOf]; omega
      all_goals
        have HN : Hid (out.push x = keepK n d (k + 1)) := by show _ = _; rw [HS.out, HQ.out]; rfl
        go_wp2_with (at_builtin; refine wpList_append_own _ rfl _ _ 22 rfl w.heap.size 25 i0 (.agg #[.int .i64 0, .int .i64 0, .int .i64 0, .int .i64 0, .int .i64 0, .int .i64 0, .int .i64 0, .int .i64 0, .string ⟨#[]⟩, .slice none 0 0]) 10 104 Try.underlying22 hi0 hz0 hz1 hz2 rfl (by decide) _ _ _ rfl (hown.alloc _) ⟨wr.heap.size, 0, none⟩ 1 1 [.int .i64 x.id, .int .i64 x.ph, .int .i64 x.qu, .int .i64 x.t, .int .i64 x.bal, .int .i64 x.abal, .int .i64 x.seen, .int .i64 x.age, .string x.pay, .slice x.A x.z.size x.c] rfl rfl (newL wr _ _) (by simp [Value.oneCell']) (by unfold maxLen; omega) (by omega) (by have := HB.out.size; simp; omega) ?_; intro v' w4 hown' hgrow _)
        exact ⟨⟨k + 1, out.push x, by go_num, by omega, by simp; omega, HN, (by rw [Array.size_push, flatK_push encE_len]; exact hown'), Lib.hid (own_app_E HB.out HB.out.size hown hgrow)⟩, by simp [intOf]; omega⟩
    · have hlt' : decide ((k : Int) < (d.size : Int)) = false := by simp; omega
      have hkd : k = d.size := by omega
      have HE : Hid (out = keepT n d) := by show _ = _; rw [HO.out, hkd, keepK_all]
      go_wp2
      go_ret
      obtain ⟨A', c', e', hr, _⟩ := rdK_of_owns hown
      have he := HE.out
      subst he
      exact ⟨A', c', congrArg Ending.returned e', HR.out.sub HB.out hr (by omega) keepT_mem, HB.out⟩
end Go.Proofs.Ytgpejfkmdenonaa
