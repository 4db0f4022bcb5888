/- A replica is asked: state.Check, rubatoref25.Check, rubatolaw25.Few, state.Done, rubatoref25.Done. A replica's marks: state.Marks, rubatoref25.Marks. What may be of a replica stays so when it is brought to the present: plain laws. Two replicas are the same: state.Same, rubatoref25.Same, joined with the contracts of what they ask. A replica that is made: what it is; a row of pairs is no row of structs with slices. A replica is made: state.New, rubatoref25.New. What of a Known is settled, or done: state.over. -/
import Derived.Test.YtnmojicfmcbgmaaGreatQStA
import Derived.Test.YtnmojicfmcbgmaaGreatQStC
import Derived.Test.YtnmojicfmcbgmaaGreatQStD
import Derived.Test.YtnmojicfmcbgmaaGreatQStE
import Derived.Test.YtnmojicfmcbgmaaGreatQStF
import Derived.Test.YtnmojicfmcbgmaaGreatQKnJ
import Derived.Test.YtnmojicfmcbgmaaGreatQRpA
import Derived.Test.YtnmojicfmcbgmaaGreatQStableF
import Derived.Test.YtnmojicfmcbgmaaGreatQOpenK
import Derived.Test.YtnmojicfmcbgmaaGreatQTbH
import Derived.Test.YtnmojicfmcbgmaaGreatQStI
import Derived.Test.YtnmojicfmcbgmaaGreatQTbB
import Derived.Test.YtnmojicfmcbgmaaGreatQRangesO
import Derived.Test.YtnmojicfmcbgmaaGreatQIdentE
import Derived.Test.YtnmojicfmcbgmaaGreatQRead
import Derived.Test.YtnmojicfmcbgmaaGreatShelf
import Derived.Test.YtnmojicfmcbgmaaGreatQDelI
namespace Go.Proofs.YtnmojicfmcbgmaaGreat
open Go.RowKit Go.Sort Go.Lib
set_option maxRecDepth 100000
theorem rszCheck_any (n f : Int) (w : World) (hf : f ≤ 9) : Calls Tryz.prog 72 #[.int .i64 n, .int .i64 f] w fun e w' => e = .returned (.int .i64 (sizeE n f)) ∧ w = w' := by
  have h1 : 1 ≤ f → 3 ≤ n → n ≤ 9 → True := fun _ _ _ => trivial
  go_enter Tryz.func72, Tryz.ntmps72
  go_wp2
  all_goals
    go_ret
    refine ⟨ret_int ?_, rfl⟩
    unfold sizeE sizeP
    first
      | exact (if_pos (show 3 ≤ n ∧ n ≤ 9 ∧ 1 ≤ f ∧ 2 * f ≤ n - 1 by omega)).symm
      | exact (if_neg (show ¬ (3 ≤ n ∧ n ≤ 9 ∧ 1 ≤ f ∧ 2 * f ≤ n - 1) by omega)).symm
def fastN (n f : Int) : Int := if sizeP n f then n / 2 + f else 0
def slowN (n f : Int) : Int := if sizeP n f then f + 1 else 0
def backN (n f : Int) : Int := if sizeP n f then n - f else 0
theorem szRef_any (n f : Int) (w : World) : Calls Tryz.prog 26 #[.int .i64 n, .int .i64 f] w fun e w' => e = .returned (.tuple #[.int .i64 (fastN n f), .int .i64 (slowN n f), .int .i64 (backN n f)]) ∧ w = w' := by
  have hb := sizeE_bool n f
  have HF : Hid (fastN n f = if sizeP n f then n / 2 + f else 0) := Lib.hid rfl
  have HS : Hid (slowN n f = if sizeP n f then f + 1 else 0) := Lib.hid rfl
  have HB : Hid (backN n f = if sizeP n f then n - f else 0) := Lib.hid rfl
  by_cases h : sizeP n f
  · rw [if_pos h] at HF HS HB
    have h9 : decide (9 < f) = false := by unfold sizeP at h; simp; omega
    rw [decide_eq_true h] at hb
    unfold sizeP at h
    obtain ⟨a, b, c, d⟩ := h
    go_enter Tryz.func26, Tryz.ntmps26
    go_wp2_with (go_at_call 72; refine (rszCheck_any _ _ _ (by omega)).mono ?_; rintro _ _ ⟨rfl, rfl⟩)
    go_ret3
    exact ⟨by rw [HF.out, HS.out, HB.out]; rfl, rfl⟩
  · rw [if_neg h] at HF HS HB
    rw [decide_eq_false h] at hb
    clear h
    by_cases h9 : 9 < f
    · have h9' : decide (9 < f) = true := decide_eq_true h9
      go_enter Tryz.func26, Tryz.ntmps26
      go_wp2
      go_ret3
      exact ⟨by rw [HF.out, HS.out, HB.out]; rfl, rfl⟩
    · have h9' : decide (9 < f) = false := decide_eq_false h9
      go_enter Tryz.func26, Tryz.ntmps26
      go_wp2_with (go_at_call 72; refine (rszCheck_any _ _ _ (by omega)).mono ?_; rintro _ _ ⟨rfl, rfl⟩)
      go_ret3
      exact ⟨by rw [HF.out, HS.out, HB.out]; rfl, rfl⟩
theorem fastN_0 (n f : Int) : fastN n f ≠ 0 ↔ sizeP n f := by
  unfold fastN
  by_cases h : sizeP n f
  · rw [if_pos h]; unfold sizeP at h ⊢; constructor
    · intro _; exact h
    · intro _; omega
  · rw [if_neg h]; simp [h]
/-- The last range of a set is the greatest. -/
theorem set_last {d : Array (Int × Int)} (h : setE_R d = 0) : (∀ j, j < d.size → d[j]!.2 ≤ 99999) ↔ ¬ (0 < d.size ∧ 99999 < d[d.size - 1]!.2) := by
  have hn := NL.of_set h
  constructor
  · rintro g ⟨h0, h1⟩
    have := g (d.size - 1) (by omega)
    omega
  · intro g j hj
    rcases Nat.lt_or_ge j (d.size - 1) with hlt | hge
    · have hp := List.pairwise_iff_getElem.1 hn.2 j (d.size - 1) (by simpa using hj) (by simp; omega) hlt
      have hm := hn.1 (d[d.size - 1]!) (by rw [getElem!_pos d (d.size - 1) (by omega)]; simp)
      rw [getElem!_pos d j hj]
      rw [getElem!_pos d (d.size - 1) (by omega)] at hm g
      simp only [Array.getElem_toList] at hp
      have : ¬ 99999 < d[d.size - 1].2 := fun h => g ⟨by omega, h⟩
      omega
    · obtain rfl : j = d.size - 1 := by omega
      have : ¬ 99999 < d[d.size - 1]!.2 := fun h => g ⟨by omega, h⟩
      omega
theorem wrongD_iff (d : Array (Int × Int)) : wrongD d = false ↔ setE_R d = 0 ∧ ∀ j, j < d.size → d[j]!.2 ≤ 99999 := by
  unfold wrongD
  by_cases h : setE_R d = 0
  · rw [set_last h]
    simp [h]
  · have hb : (setE_R d != 0) = true := bne_iff_ne.2 h
    simp [h, hb]
theorem anyN_false {n : Nat} {p : Nat → Bool} : anyN n p = false ↔ ∀ j, j < n → p j = false := by
  constructor
  · intro h j hj
    cases hp : p j
    · rfl
    · rw [anyN_yes j hj hp] at h; cases h
  · exact anyN_no
theorem chkR_iff (r : RP) : chkR r = true ↔ RckA r (fastN r.n r.f) (clkE r.clock r.floor r.o.z) (tabE r.e.z) (rowsE r.m.z r.n) (marksE r.fr.z r.n) ∧ RckB r (fun i => chkE r.k.z[i]!.kn) (fun i => setE_R r.d.z[i]!.z) ∧ RckC r := by
  have h1 := fastN_0 r.n r.f
  have h2 : clkE r.clock r.floor r.o.z = 0 ↔ clkB r.clock r.floor r.o.z = true := by unfold clkE; cases clkB r.clock r.floor r.o.z <;> simp
  have h3 : tabE r.e.z = 0 ↔ chkT r.e.z = true := by unfold tabE; cases chkT r.e.z <;> simp
  have h4 : rowsE r.m.z r.n = 0 ↔ rowsB r.m.z r.n = true := by unfold rowsE; cases rowsB r.m.z r.n <;> simp
  have h5 : ∀ k : KN, chkE k = 0 ↔ chkB k = true := fun k => by unfold chkE; cases chkB k <;> simp
  unfold chkR countsB cmdsB hearsB finB RckA RckB RckC lastB
  simp only [Bool.and_eq_true, decide_eq_true_eq, Bool.not_eq_true', anyN_false, farB, decide_eq_false_iff_not, wrongD_iff, Bool.not_eq_false', h1, h2, h3, h4, h5]
  constructor
  · rintro ⟨⟨⟨⟨⟨⟨a, b⟩, c⟩, d⟩, e, f⟩, ⟨⟨g, i⟩, j⟩, k⟩, ⟨l, m⟩, n⟩
    exact ⟨⟨a, b.1, b.2, d, c.1, c.2.1, c.2.2.1, c.2.2.2.1, c.2.2.2.2.1, c.2.2.2.2.2, e, g, j, k, l⟩, ⟨fun q hq => Int.not_lt.1 (f q hq), fun q hq => ⟨i q hq, (m q (by omega)).1, (m q (by omega)).2⟩⟩, n⟩
  · rintro ⟨⟨a, b1, b2, d, c1, c2, c3, c4, c5, c6, e, g, j, k, l⟩, ⟨f, i⟩, n⟩
    exact ⟨⟨⟨⟨⟨⟨a, b1, b2⟩, c1, c2, c3, c4, c5, c6⟩, d⟩, e, fun q hq => Int.not_lt.2 (f q hq)⟩, ⟨⟨g, fun q hq => (i q hq).1⟩, j⟩, k⟩, ⟨l, fun q hq => (i q (by omega)).2⟩, n⟩
theorem repE_yes {r : RP} (h : chkR r = true) : repE r = 0 := by unfold repE; rw [if_pos h]
theorem repE_no {r : RP} (h : ¬ chkR r = true) : repE r = 2 := by unfold repE; rw [if_neg h]
theorem stCheck_any (r : RP) (w : World) (h : RdP w r) (hf : FewC r) :
    Calls Tryz.prog 9 #[.agg (encP r).toArray] w fun e w' => e = .returned (.int .i64 (repE r)) ∧ Below w.heap.size w w' :=
  stCheck_core r w _ _ _ _ (fun W hb => counts_any r W (h.below hb) (by have := hf.o; omega)) (fun W hb => cmds_any r W (h.below hb) hf) (fun W hb => hears_any r W (h.below hb) hf) (fun W hb => fin_any r W (h.below hb) hf)
theorem rstCheck_any (r : RP) (w : World) (h : RdP w r) (hf : FewC r) :
    Calls Tryz.prog 10 #[.agg (encP r).toArray] w fun e w' => e = .returned (.int .i64 (repE r)) ∧ Below w.heap.size w w' := by
  have hi := chkR_iff r
  refine rstCheck_core r w (fastN r.n r.f) (slowN r.n r.f) (backN r.n r.f) (clkE r.clock r.floor r.o.z) (tabE r.e.z) (rowsE r.m.z r.n) (marksE r.fr.z r.n) (fun i => chkE r.k.z[i]!.kn) (fun i => setE_R r.d.z[i]!.z) (repE r)
    h.e.rd h.k.rd h.d.rd (fun i hi => (h.dd i hi).rd) ⟨by have := hf.es; omega, by have := hf.k; omega, by have := hf.d; omega⟩ hf.dd ?_ ?_ ?_ ?_ ?_ ?_ ?_ ?_ ?_ ?_ ?_
  · exact fun W _ => (szRef_any _ _ W).mono fun _ _ ⟨he, hw⟩ => ⟨he, hw ▸ Below.refl _ _⟩
  · exact fun W hb => rClk_any _ _ _ _ _ W (h.o.below hb).rd (by have := hf.o; omega)
  · exact fun W hb => rtCheck_any _ _ _ W ((h.below hb).tab hf)
  · exact fun W hb => rSw_any _ _ _ _ W (h.m.below hb).rd (fun i hi => (h.mm i hi).below hb) (by have := hf.m; omega) (fun i hi => by have := hf.mm i hi; omega)
  · exact fun W hb => (rCheck_any_S _ _ _ _ _ W (h.fr.below hb).rd (by have := hf.fr; omega)).mono fun _ _ ⟨he, hw⟩ => ⟨he, hw ▸ Below.refl _ _⟩
  · exact fun i hi W hb => rChk16_any _ _ W ((h.kk i hi).below hb).knV
  · exact fun i hi W hb => (r4Check_any _ _ _ _ W ((h.dd i hi).below hb).rd).mono fun _ _ ⟨he, n, hw⟩ => ⟨he, hw ▸ belDrewN (Below.refl _ _) n⟩
  · exact fun a b c => repE_yes (hi.2 ⟨a, b, c⟩)
  · exact fun a => repE_no fun h => a (hi.1 h).1
  · exact fun a => repE_no fun h => a (hi.1 h).2.1
  · exact fun a => repE_no fun h => a (hi.1 h).2.2
theorem few25_any (r : RP) (w : World) (h : RdP w r) :
    Calls Tryz.prog 5 #[.agg (encP r).toArray] w fun e w' => e = .returned (.bool (fewR r)) ∧ Below w.heap.size w w' := by
  have hi : fewR r = true ↔ (FewA r (fewT r.e.z) (fewM r.m.z) ∧ (∀ i, i < r.k.z.size → fewK r.k.z[i]!.kn = true) ∧ (∀ i, i < r.d.z.size → r.d.z[i]!.z.size ≤ 100) ∧ r.it.z.size ≤ 60 ∧ r.ss.z.size ≤ 60) := by
    rw [fewR_iff]
    exact ⟨fun h => ⟨⟨h.e, h.o, h.k, h.m, h.fr, h.d⟩, h.kk, h.dd, h.it, h.ss⟩, fun ⟨⟨a, b, c, d, e, f⟩, g, i, j, k⟩ => ⟨a, b, c, d, e, f, g, i, j, k⟩⟩
  refine few25_core r w (fewT r.e.z) (fewM r.m.z) (fun i => fewK r.k.z[i]!.kn) (fewR r) h.k.rd h.d.rd ?_ ?_ ?_ ?_ ?_ ?_ ?_
  · exact fun W hb => few21_any _ _ _ W (h.e.below hb)
  · exact fun W hb => few18_any _ _ _ W (h.m.below hb).rd
  · exact fun i hi W hb => Few16_any _ _ W ((h.kk i hi).below hb).knV
  · intro a b c
    by_cases hd : r.it.z.size ≤ 60 ∧ r.ss.z.size ≤ 60
    · rw [decide_eq_true hd]; exact hi.2 ⟨a, b, c, hd⟩
    · rw [decide_eq_false hd]; exact Bool.eq_false_iff.2 fun h => hd (hi.1 h).2.2.2
  · exact fun a => Bool.eq_false_iff.2 fun h => a (hi.1 h).1
  · exact fun a => Bool.eq_false_iff.2 fun h => a (hi.1 h).2.1
  · exact fun a => Bool.eq_false_iff.2 fun h => a (hi.1 h).2.2.1
theorem chkR_d {r : RP} (h : chkR r = true) : (r.d.z.size : Int) = r.n := ((chkR_iff r).1 h).1.2.2.2.2.2.2.2.2.2.2.2.2.2.2
theorem repE_0 {r : RP} (h : repE r = 0) : chkR r = true := by
  cases hc : chkR r
  · rw [repE_no (by simp [hc])] at h; cases h
  · rfl
def doneB (r : RP) (id : Int) : Bool := chkR r && doneI r id
theorem stDone_any (r : RP) (id : Int) (w : World) (h : RdP w r) (hf : FewC r) :
    Calls Tryz.prog 11 #[.agg (encP r).toArray, .int .i64 id] w fun e w' => e = .returned (.bool (doneB r id)) ∧ Below w.heap.size w w' := by
  have := stDone_core r id w (repE r) (fun W hb => stCheck_any r W (h.below hb) hf) (fun h0 W hb => done0_any r id W (h.d.below hb).rd (fun i hi => ((h.dd i hi).below hb).rd) (chkR_d (repE_0 h0)) (by have := hf.d; omega))
  rw [repE_bool0] at this
  exact this
theorem rDone_any (r : RP) (id : Int) (w : World) (h : RdP w r) (hf : FewC r) :
    Calls Tryz.prog 12 #[.agg (encP r).toArray, .int .i64 id] w fun e w' => e = .returned (.bool (doneB r id)) ∧ Below w.heap.size w w' := by
  have := rDone_core r id w (repE r) h.d.rd (fun i hi => (h.dd i hi).rd) (fun h0 => chkR_d (repE_0 h0)) (by have := hf.d; omega) (fun W hb => rstCheck_any r W (h.below hb) hf)
  rw [repE_bool0] at this
  exact this
end Go.Proofs.YtnmojicfmcbgmaaGreat
namespace Go.Proofs.YtnmojicfmcbgmaaGreat
open Go.RowKit Go.Sort Go.Lib
set_option maxRecDepth 100000
attribute [local go_sem ↓] execOp_loadRep execOp_storeRep
attribute [local go_sem] run_loadBox run_storeBox_new
/-- A row of n numbers that is being filled: the first k are there. -/
def fcs (n : Nat) (f : Nat → Int) (k : Nat) : Array Value := ((List.range n).map fun t => if t < k then Value.int .i64 (f t) else .int .i64 0).toArray
theorem fcs_at (n : Nat) (f : Nat → Int) (k t : Nat) : (fcs n f k)[t]? = if t < n then some (if t < k then Value.int .i64 (f t) else .int .i64 0) else none := by
  unfold fcs
  by_cases h : t < n <;> simp [h]
theorem fcs_set (n : Nat) (f : Nat → Int) (k : Nat) : (fcs n f k).setIfInBounds k (.int .i64 (f k)) = fcs n f (k + 1) := by
  apply Array.ext_getElem?
  intro t
  rw [Array.getElem?_setIfInBounds, fcs_at, fcs_at]
  have hs : (fcs n f k).size = n := by simp [fcs]
  by_cases h : k = t
  · subst h
    rw [if_pos rfl, hs, if_pos (Nat.lt_succ_self k)]
  · rw [if_neg h]
    by_cases ht : t < n
    · rw [if_pos ht, if_pos ht]
      by_cases h1 : t < k
      · rw [if_pos h1, if_pos (by omega)]
      · rw [if_neg h1, if_neg (by omega)]
    · rw [if_neg ht, if_neg ht]
theorem fcs_all (d : Array Int) : fcs d.size (fun j => d[j]!) d.size = d.map encI_R := by
  apply Array.ext_getElem?
  intro t
  rw [fcs_at]
  by_cases h : t < d.size <;> simp [h, encI_R]
theorem fcs_0 (n : Nat) (f : Nat → Int) : ((List.range n).map fun _ => Value.int .i64 0).toArray = fcs n f 0 := by unfold fcs; simp
def basesK (d : Array KE) : Array Int := d.map (·.base)
theorem basesK_size (d : Array KE) : (basesK d).size = d.size := by simp [basesK]
theorem basesK_at (d : Array KE) {j : Nat} (h : j < d.size) : (basesK d)[j]! = d[j]!.base := by
  rw [getElem!_pos _ j (by rw [basesK_size]; exact h), getElem!_pos d j h]
  simp [basesK]
/-- The marks of a replica, if it may be. -/
def marksR (r : RP) : Array Int := if chkR r = true then basesK r.k.z else #[]
def MarkQ (r : RP) (e : Ending) (w' : World) : Prop := ∃ x : RW Int, e = .returned x.v ∧ x.z = marksR r ∧ RdJ w' x
theorem markQ_nil {r : RP} (h : chkR r = false) (w' : World) : MarkQ r (.returned (.slice none 0 0)) w' :=
  ⟨⟨none, 0, #[]⟩, rfl, by unfold marksR; rw [h]; rfl, ⟨fun h0 => absurd h0 (by decide), Nat.le_refl _, fun _ => rfl⟩⟩
theorem chkR_k {r : RP} (h : chkR r = true) : (r.k.z.size : Int) = r.n := ((chkR_iff r).1 h).1.2.2.2.2.2.2.2.2.2.2.2.1
set_option maxHeartbeats 8000000 in
theorem stMarks_any (r : RP) (w : World) (h : RdP w r) (hf : FewC r) :
    Calls Tryz.prog 14 #[.agg (encP r).toArray] w fun e w' => MarkQ r e w' ∧ Below w.heap.size w w' := by
  have HC : Hid (∀ W, Below w.heap.size w W → Calls Tryz.prog 9 #[.agg (encP r).toArray] W fun e w' => e = .returned (.int .i64 (repE r)) ∧ Below W.heap.size W w') := fun W hb => stCheck_any r W (h.below hb) hf
  have HRK := Lib.hid h.k.rd
  obtain ⟨A, hA⟩ : ∃ A, r.k.A = A := ⟨_, rfl⟩
  rw [hA] at HRK
  obtain ⟨cs, hcs⟩ : ∃ cs, cs = (encP r).toArray := ⟨_, rfl⟩
  have HI : cs.size = 18 := by rw [hcs]; rfl
  have q9 : cs[9]? = some (.slice A r.k.z.size r.k.c) := by rw [hcs, ← hA]; rfl
  have q0 : cs[0]? = some (.int .i64 r.n) := by rw [hcs]; rfl
  have HQ9 := Lib.hid q9
  have hk20 := hf.k
  rw [← hcs] at HC ⊢
  simp only [encP] at hcs
  rw [hcs]
  clear h hf hA q9
  cases hc : chkR r
  · rw [repE_no (by simp [hc])] at HC
    have HF := Lib.hid (markQ_nil hc)
    clear hc q0
    go_enter Tryz.func14, Tryz.ntmps14
    rw [← hcs]
    clear hcs
    have HX := Lib.hid (BoxR.init w cs 35)
    have x1 := HX.out.box HI
    have x2 := HX.out.rowAt
    go_wp2_with (go_at_call 9; refine (HC.out _ HX.out.b).mono ?_; rintro _ w1 ⟨rfl, hb⟩; have HX := Lib.hid (HX.out.next hb); clear hb)
    go_ret
    exact ⟨HF.out _, HX.out.b⟩
  · rw [repE_yes hc] at HC
    have hkn := chkR_k hc
    have HM : Hid (marksR r = basesK r.k.z) := by show _ = _; unfold marksR; rw [if_pos hc]
    rw [← hkn] at q0
    have HQ0 := Lib.hid q0
    have hmk := fun W => make_ints r.k.z.size (by omega) W
    clear hc q0 hkn
    go_enter Tryz.func14, Tryz.ntmps14
    rw [← hcs]
    clear hcs
    have HX := Lib.hid (BoxR.init w cs 35)
    have x1 := HX.out.box HI
    have x2 := HX.out.rowAt
    go_wp2_with (go_at_call 9; refine (HC.out _ HX.out.b).mono ?_; rintro _ w1 ⟨rfl, hb⟩; have HX := Lib.hid (HX.out.next hb); clear hb x1 x2; have c0 := HX.out.at_ 0 HQ0.out; have c9 := HX.out.at_ 9 HQ9.out; have hlt1 := HX.out.lt)
    clear hmk c0 c9
    have HB1 := Lib.hid HX.out.b
    have HL1 := Lib.hid HX.out.lt
    clear HX hlt1
    go_loopw [15] (fun i wr => ∃ k : Nat, i = .int .i64 k ∧ k ≤ r.k.z.size ∧ Hid (wr.heap[w1.heap.size]? = some (.cells (fcs r.k.z.size (fun j => r.k.z[j]!.base) k) 3 (0, 0))) ∧ Hid (Below w1.heap.size w1 wr)) (fun i _ => r.k.z.size - (intOf i).toNat)
    case atStart => exact ⟨0, rfl, Nat.zero_le _, Lib.hid (by rw [fcs_0 _ (fun j => r.k.z[j]!.base)]; exact heap_alloc_new w1 _), Lib.hid (bel1 w1 _)⟩
    case round =>
      obtain ⟨k, rfl, hk, HK, HB⟩ := hrel
      by_cases hlt : k < r.k.z.size
      · have kz : (k : Int) < (r.k.z.size : Int) := by omega
        obtain ⟨b, off, rfl, hbl, f⟩ := (HRK.out.below (belStep HB1.out HB.out)).at_ (i := k) (by omega)
        have e0 := f 0 (by omega)
        have e1 := f 1 (by omega)
        have e2 := f 2 (by omega)
        have HN := Lib.hid (fcs_set r.k.z.size (fun j => r.k.z[j]!.base) k)
        have cg : wr.cell? ⟨w1.heap.size, k, none⟩ = some (.int .i64 0) := by
          rw [cell_of_row wr _ k _ _ (0, 0) HK.out, fcs_at, if_pos hlt, if_neg (by omega)]
        have fg : wr.frozen? ⟨w1.heap.size, k, none⟩ = false := by
          have := HK.out
          simp [World.frozen?, this]
        have hgs : w1.heap.size < wr.heap.size := blk_lt HK.out
        obtain ⟨x, hx⟩ : ∃ x, r.k.z[k]! = x := ⟨_, rfl⟩
        rw [hx] at e0 e1 e2
        simp only [hx] at HN
        clear f hx
        simp only [Nat.add_zero, encKE, List.getElem!_cons_zero, List.getElem!_cons_succ] at e0 e1 e2
        obtain ⟨G, hG⟩ : ∃ G, w1.heap.size = G := ⟨_, rfl⟩
        rw [hG] at cg fg hgs HK ⊢
        rw [hG] at HB
        have HG := Lib.hid hG
        clear hG
        go_wp2
        go_roundw
        case rel =>
          refine ⟨k + 1, by go_num, by omega, Lib.hid ?_, Lib.hid ?_⟩
          · rw [← HN.out]; exact blk_put HK.out _ k _
          · exact (HB.out.setCell (p := ⟨G, k, none⟩) (Nat.le_refl _) _).alloc (by simp; omega) _
        case measure => simp [intOf]; omega
      · have hlt' : decide ((k : Int) < (r.k.z.size : Int)) = false := by simp; omega
        have HE : Hid (wr.heap[w1.heap.size]? = some (.cells ((basesK r.k.z).map encI_R) 3 (0, 0))) := by
          show _ = _
          rw [HK.out, ← fcs_all, basesK_size]
          have : k = r.k.z.size := by omega
          rw [this]
          congr 2
          unfold fcs
          congr 1
          refine List.map_congr_left fun t ht => ?_
          simp only [basesK_at _ (List.mem_range.1 ht)]
        have HT := Lib.hid (basesK_size r.k.z)
        go_wp2
        go_ret
        refine ⟨⟨⟨some ⟨w1.heap.size, 0, none⟩, r.k.z.size, basesK r.k.z⟩, ?_, HM.out.symm, rdI_blk HE.out, by rw [HT.out]; exact Nat.le_refl _, fun h => by cases h⟩, belStep HB1.out HB.out⟩
        unfold RW.v
        rw [HT.out]
        rfl
theorem bas_take (d : Array KE) {k : Nat} (h : k < d.size) : (basesK d).toList.take (k + 1) = (basesK d).toList.take k ++ [d[k]!.base] := by
  have hs := basesK_size d
  rw [List.take_add_one, List.getElem?_eq_getElem (by simpa [hs] using h)]
  have := basesK_at d h
  rw [getElem!_pos _ k (by rw [hs]; exact h)] at this
  simp [← this]
set_option maxHeartbeats 8000000 in
theorem rStMarks_any (r : RP) (w : World) (h : RdP w r) (hf : FewC r) :
    Calls Tryz.prog 15 #[.agg (encP r).toArray] w fun e w' => MarkQ r e w' ∧ Below w.heap.size w w' := by
  obtain ⟨i0, hi0, hz0, hz1, hz2⟩ := info_parts int_info_R
  have HC : Hid (∀ W, Below w.heap.size w W → Calls Tryz.prog 10 #[.agg (encP r).toArray] W fun e w' => e = .returned (.int .i64 (repE r)) ∧ Below W.heap.size W w') := fun W hb => rstCheck_any r W (h.below hb) hf
  have HRK := Lib.hid h.k.rd
  obtain ⟨A, hA⟩ : ∃ A, r.k.A = A := ⟨_, rfl⟩
  rw [hA] at HRK
  obtain ⟨cs, hcs⟩ : ∃ cs, cs = (encP r).toArray := ⟨_, rfl⟩
  have HI : cs.size = 18 := by rw [hcs]; rfl
  have q9 : cs[9]? = some (.slice A r.k.z.size r.k.c) := by rw [hcs, ← hA]; rfl
  have HQ9 := Lib.hid q9
  have hk20 := hf.k
  rw [← hcs] at HC ⊢
  simp only [encP] at hcs
  rw [hcs]
  clear h hf hA q9
  cases hc : chkR r
  · rw [repE_no (by simp [hc])] at HC
    have HF := Lib.hid (markQ_nil hc)
    clear hc
    go_enter Tryz.func15, Tryz.ntmps15
    rw [← hcs]
    clear hcs
    have HX := Lib.hid (BoxR.init w cs 35)
    go_wp2
    go_loopw [3, 4] (fun v i wr => v = .slice none 0 0 ∧ i = .int .i64 0 ∧ Hid (BoxR w cs 35 wr)) (fun _ _ _ => 0)
    case atStart => exact ⟨rfl, rfl, HX⟩
    case round =>
      obtain ⟨rfl, rfl, HX⟩ := hrel
      have x1 := HX.out.box HI
      have x2 := HX.out.rowAt
      have c9 := HX.out.at_ 9 HQ9.out
      by_cases h0 : 0 < r.k.z.size
      · go_wp2_with (go_at_call 10; refine (HC.out _ HX.out.b).mono ?_; rintro _ w1 ⟨rfl, hb⟩; have HX := Lib.hid (HX.out.next hb); clear hb)
        go_ret
        exact ⟨HF.out _, HX.out.b⟩
      · have h0' : r.k.z.size = 0 := by omega
        go_wp2
        go_ret
        exact ⟨HF.out _, HX.out.b⟩
  · rw [repE_yes hc] at HC
    have HM : Hid (marksR r = basesK r.k.z) := by show _ = _; unfold marksR; rw [if_pos hc]
    clear hc
    go_enter Tryz.func15, Tryz.ntmps15
    rw [← hcs]
    clear hcs
    have HX := Lib.hid (BoxR.init w cs 35)
    go_wp2
    obtain ⟨w1, hw1⟩ : ∃ W, W = w.alloc (.cells cs 35) := ⟨_, rfl⟩
    rw [← hw1] at HX ⊢
    clear hw1
    go_loopw [3, 4] (fun v i wr => ∃ (k : Nat) (l : List Int), i = .int .i64 k ∧ k ≤ r.k.z.size ∧ l.length = k ∧ Hid (l = (basesK r.k.z).toList.take k) ∧ wr.ownsRow w1.heap.size 3 1 v l.length (l.map (Value.int .i64)) ∧ Hid (Below w1.heap.size w1 wr)) (fun _ i _ => r.k.z.size - (intOf i).toNat)
    case atStart => exact ⟨0, [], rfl, Nat.zero_le _, rfl, rfl, World.ownsRow_nil _ _ _ _, Below.refl _ _⟩
    case round =>
      obtain ⟨k, l, rfl, hk, hl, HL, hown, HB⟩ := hrel
      have HX2 := Lib.hid (HX.out.next HB.out)
      have x1 := HX2.out.box HI
      have x2 := HX2.out.rowAt
      have c9 := HX2.out.at_ 9 HQ9.out
      by_cases hlt : k < r.k.z.size
      · have kz : (k : Int) < (r.k.z.size : Int) := by omega
        have HS : Hid ((basesK r.k.z).toList.take (k + 1) = l ++ [r.k.z[k]!.base]) := by show _ = _; rw [bas_take _ hlt, ← HL.out]
        obtain ⟨b, off, rfl, hbl, f⟩ := HRK.out.at_ (i := k) (by omega)
        have e0 := f 0 (by omega)
        obtain ⟨x, hx⟩ : ∃ x, r.k.z[k]! = x := ⟨_, rfl⟩
        rw [hx] at e0 HS
        clear hx f
        simp only [Nat.add_zero, encKE, List.getElem!_cons_zero] at e0
        have HE0 : Hid (∀ W, Below w.heap.size w W → W.cell? ⟨b, off + k * 3, none⟩ = some (.int .i64 x.base)) := fun W hb => (hb.cell (p := ⟨b, off + k * 3, none⟩) hbl).trans e0
        clear e0
        go_wp2_with (first
          | (go_at_call 10; refine (HC.out _ HX2.out.b).mono ?_; rintro _ w2 ⟨rfl, hb⟩; have HX3 := Lib.hid (HX2.out.next hb); have HB2 := Lib.hid (belStep HB.out hb); have hown2 := Lib.hid (own_heap hown (fun g _ hl => hb.block g hl)); clear hb hown x1 x2 c9; have c9 := HX3.out.at_ 9 HQ9.out; have e0 := HE0.out _ HX3.out.b)
          | (at_builtin; refine wpList_append_own _ rfl _ _ 26 rfl w1.heap.size 3 i0 (.int .i64 0) 1 8 Tryz.underlying26 hi0 hz0 hz1 hz2 rfl (by decide) _ _ _ rfl (World.ownsRow.alloc hown2.out _) ⟨w2.heap.size, 0, none⟩ 1 1 [.int .i64 x.base] rfl rfl (app_cell _ _ _) (by simp [Value.oneCell']) (by unfold maxLen; omega) (by omega) (Nat.le_trans HB2.out.size (by simp)) ?_; intro v' w3 hown3 hgrow _))
        go_roundw
        case rel => exact ⟨k + 1, l ++ [x.base], by go_num, by omega, by simp [hl], Lib.hid HS.out.symm, own_snoc hown3, Lib.hid (app_below HB2.out hown2.out hgrow)⟩
        case measure => simp [intOf]; omega
      · have hlt' : decide ((k : Int) < (r.k.z.size : Int)) = false := decide_eq_false (by omega)
        have hlt2 : decide (k < r.k.z.size) = false := decide_eq_false hlt
        have HE : Hid (l = (basesK r.k.z).toList) := by
          show _ = _
          rw [HL.out, List.take_of_length_le]
          have := basesK_size r.k.z
          simp
          omega
        obtain ⟨x, rfl, hxz, hxr⟩ := rdJ_of_owns hown
        have HXZ := Lib.hid hxz
        have HXR := Lib.hid hxr
        clear hxz hxr hown HL hl hlt
        go_wp2
        go_ret
        exact ⟨⟨x, rfl, by rw [HXZ.out, HE.out, HM.out], HXR.out⟩, belStep HX.out.b HB.out⟩
end Go.Proofs.YtnmojicfmcbgmaaGreat
namespace Go.Proofs.YtnmojicfmcbgmaaGreat
open Go.RowKit Go.Sort Go.Lib
theorem up_all {d : Array (Int × Int)} (h : ∀ i, i < d.size → 0 < i → d[i - 1]!.1 < d[i]!.1) : ∀ j i, i < j → j < d.size → d[i]!.1 < d[j]!.1 := by
  intro j
  induction j with
  | zero => intro i hij; omega
  | succ j ih =>
    intro i hij hj
    have h1 := h (j + 1) hj (by omega)
    rw [Nat.add_sub_cancel] at h1
    rcases Nat.lt_or_ge i j with h' | h'
    · have := ih i h' (by omega); omega
    · obtain rfl : i = j := by omega
      exact h1
theorem get_tl (d : Array (Int × Int)) {i : Nat} (hi : i < d.size) : d.toList[i]'(by simpa using hi) = d[i]! := by
  rw [getElem!_pos d i hi]; simp
/-- Promises that are right, as a list. -/
theorem clk_list {now floor : Int} {d : Array (Int × Int)} : clkB now floor d = true ↔ (0 ≤ floor ∧ floor ≤ now ∧ now ≤ 1000000) ∧ d.toList.Pairwise (fun x y => x.1 < y.1) ∧ (∀ x ∈ d.toList, floor < x.1 ∧ x.1 ≤ now ∧ okI x.2 = true) ∧ (d.toList.map (·.2)).Nodup := by
  rw [clk_iff]
  constructor
  · rintro ⟨h, g⟩
    have g1 : ∀ i, i < d.size → (floor < d[i]!.1 ∧ (0 < i → d[i - 1]!.1 < d[i]!.1) ∧ d[i]!.1 ≤ now) ∧ (10 ≤ d[i]!.2 ∧ d[i]!.2 ≤ 999999 ∧ d[i]!.2 % 10 ≠ 0) ∧ ¬ (idsU d i).contains d[i]!.2 = true := fun i hi => by
      have := g i hi
      unfold clkAt at this
      simp only [Bool.and_eq_true, decide_eq_true_eq, Bool.not_eq_true', Bool.not_eq_true] at this ⊢
      exact ⟨this.1.1, this.1.2, this.2⟩
    have hup := up_all (d := d) (fun i hi h0 => (g1 i hi).1.2.1 h0)
    refine ⟨h, ?_, ?_, ?_⟩
    · rw [List.pairwise_iff_getElem]
      intro i j hi hj hij
      have hi' : i < d.size := by simpa using hi
      have hj' : j < d.size := by simpa using hj
      rw [get_tl d hi', get_tl d hj']
      exact hup j i hij hj'
    · intro x hx
      obtain ⟨i, hi, rfl⟩ := List.mem_iff_getElem.1 hx
      have hi' : i < d.size := by simpa using hi
      rw [get_tl d hi']
      obtain ⟨a, b, _⟩ := g1 i hi'
      exact ⟨a.1, a.2.2, by unfold okI; exact decide_eq_true b⟩
    · unfold List.Nodup
      rw [List.pairwise_map, List.pairwise_iff_getElem]
      intro i j hi hj hij he
      have hi' : i < d.size := by simpa using hi
      have hj' : j < d.size := by simpa using hj
      rw [get_tl d hi', get_tl d hj'] at he
      exact (g1 j hj').2.2 ((idsU_mem (by omega)).2 ⟨i, hij, he⟩)
  · rintro ⟨h, hp, ha, hn⟩
    refine ⟨h, fun i hi => ?_⟩
    have hm : d[i]! ∈ d.toList := by rw [getElem!_pos d i hi]; simp
    obtain ⟨a, b, c⟩ := ha _ hm
    unfold okI at c
    have hc : (idsU d i).contains d[i]!.2 = false := by
      rw [Bool.eq_false_iff]
      intro hc
      obtain ⟨j, hj, e⟩ := (idsU_mem (by omega)).1 hc
      unfold List.Nodup at hn
      rw [List.pairwise_map, List.pairwise_iff_getElem] at hn
      refine hn j i (by simp; omega) (by simp; omega) hj ?_
      rw [get_tl d (by omega), get_tl d hi]
      exact e
    unfold clkAt
    have hc' : ((d.toList.take i).map Prod.snd).contains d[i]!.2 = false := hc
    rw [hc', c, Bool.and_true, decide_eq_true (show floor < d[i]!.1 ∧ (0 < i → d[i - 1]!.1 < d[i]!.1) ∧ d[i]!.1 ≤ now from ⟨a, fun h0 => ?_, b⟩)]
    · rfl
    · rw [List.pairwise_iff_getElem] at hp
      have := hp (i - 1) i (by simp; omega) (by simp; omega) (by omega)
      rwa [get_tl d (by omega), get_tl d hi] at this
/-- Its own promises may be added. -/
theorem addA_of {k : KN} {now floor : Int} {own : Array (Int × Int)} (hk : ChkP k) (hc : clkB now floor own = true) : AddA k floor now own := by
  obtain ⟨⟨a, b, c⟩, hp, ha, _⟩ := clk_list.1 hc
  exact ⟨hk, a, b, c, (riseL_iff _ _ _).2 ⟨hp, ha⟩⟩
/-- The promises that are kept above a greater floor. -/
def keptO (own : Array (Int × Int)) (floor : Int) : Array (Int × Int) := (own.toList.filter fun a => !decide (a.1 ≤ floor)).toArray
theorem clk_kept {now floor f2 : Int} {own : Array (Int × Int)} (hc : clkB now floor own = true) (h1 : floor ≤ f2) (h2 : f2 ≤ now) : clkB now f2 (keptO own f2) = true := by
  obtain ⟨⟨a, b, c⟩, hp, ha, hn⟩ := clk_list.1 hc
  refine clk_list.2 ⟨⟨by omega, h2, c⟩, ?_, ?_, ?_⟩
  · show List.Pairwise _ (List.filter _ _)
    exact hp.filter _
  · intro x hx
    have hx' : x ∈ own.toList.filter fun a => !decide (a.1 ≤ f2) := hx
    obtain ⟨m, q⟩ := List.mem_filter.1 hx'
    have := ha x m
    simp at q
    exact ⟨q, this.2⟩
  · show List.Nodup (List.map _ (List.filter _ _))
    unfold List.Nodup at hn ⊢
    rw [List.pairwise_map] at hn ⊢
    exact hn.filter _
theorem marksE_iff {d : Array Int} {n : Int} : marksE d n = 0 ↔ mostN n ≠ 0 ∧ (d.size : Int) = n ∧ ∀ x ∈ d.toList, 0 ≤ x ∧ x ≤ 1000000 := by
  unfold marksE badMark
  by_cases h : mostN n = 0
  · simp [h]
  · by_cases h2 : (d.size : Int) = n
    · by_cases h3 : (d.toList.any fun t => decide (t < 0 ∨ 1000000 < t)) = true
      · rw [if_pos (Or.inr (Or.inr h3))]
        simp only [List.any_eq_true, decide_eq_true_eq] at h3
        obtain ⟨x, hx, h3⟩ := h3
        constructor
        · intro h0; cases h0
        · rintro ⟨_, _, g⟩
          have := g x hx
          omega
      · rw [if_neg (by rintro (a | a | a); exact h a; exact a h2; exact h3 a)]
        refine ⟨fun _ => ⟨h, h2, fun x hx => ?_⟩, fun _ => rfl⟩
        refine Classical.byContradiction fun hc => h3 ?_
        simp only [List.any_eq_true, decide_eq_true_eq]
        exact ⟨x, hx, by omega⟩
    · rw [if_pos (Or.inr (Or.inl h2))]
      constructor
      · intro h0; cases h0
      · rintro ⟨_, g, _⟩; exact absurd g h2
theorem marks_merge_S {d1 d2 : Array Int} {n : Int} (h1 : marksE d1 n = 0) (h2 : marksE d2 n = 0) : marksE (mergeN d1 d2) n = 0 := by
  obtain ⟨a, b, c⟩ := marksE_iff.1 h1
  obtain ⟨_, b2, c2⟩ := marksE_iff.1 h2
  refine marksE_iff.2 ⟨a, by rw [mergeN_size]; omega, fun x hx => ?_⟩
  obtain ⟨i, hi, rfl⟩ := List.mem_iff_getElem.1 hx
  have hi' : i < (mergeN d1 d2).size := by simpa using hi
  have hi2 : i < max d1.size d2.size := by rwa [mergeN_size] at hi'
  have e : (mergeN d1 d2).toList[i] = mrgAt d1 d2 i := by
    have := mergeN_at d1 d2 i hi2
    rw [getElem!_pos _ i hi'] at this
    simpa using this
  rw [e]
  unfold mrgAt
  rw [if_pos (by omega), if_pos (by omega)]
  have q1 := c d1[i]! (by rw [getElem!_pos d1 i (by omega)]; simp)
  have q2 := c2 d2[i]! (by rw [getElem!_pos d2 i (by omega)]; simp)
  omega
theorem mem_at {α : Type} [Inhabited α] {d : Array α} {x : α} (h : x ∈ d.toList) : ∃ i, i < d.size ∧ d[i]! = x := by
  obtain ⟨i, hi, rfl⟩ := List.mem_iff_getElem.1 h
  have hi' : i < d.size := by simpa using hi
  exact ⟨i, hi', by rw [getElem!_pos d i hi']; simp⟩
/-- The bases of what is known, and right, are marks. -/
theorem marks_bases {k : Array KE} {n : Int} (hn : 3 ≤ n ∧ n ≤ 9) (hs : (k.size : Int) = n) (h : ∀ i, i < k.size → chkB k[i]!.kn = true) : marksE (basesK k) n = 0 := by
  refine marksE_iff.2 ⟨?_, by rw [basesK_size]; exact hs, fun x hx => ?_⟩
  · unfold mostN
    first | (rw [if_pos (by omega)]; omega) | (rw [if_neg (by omega)]; omega) | (split <;> omega)
  · obtain ⟨i, hi, rfl⟩ := mem_at hx
    rw [basesK_size] at hi
    rw [basesK_at k hi]
    have := chk_iff.1 (h i hi)
    exact ⟨this.b0, this.b1⟩
/-- What is settled of a replica's commands, or done. -/
def overB (r : RP) (id : Int) : Bool := (r.e.z.toList.any fun x => setlB x.ph && (x.id == id)) || doneI r id
/-- What is open of k, and settled, or done. -/
def OverR (r : RP) (k : KN) (ids : Array Int) : Prop := ∀ x, x ∈ ids.toList ↔ (x ∈ k.ats.toList.map (·.2) ∧ overB r x = true)
/-- A column of numbers. -/
def colM (m : Array (RW Int)) (c : Nat) : Array Int := m.map fun x => x.z[c]!
/-- What a replica is that is brought to the present. -/
structure RefR (r s : RP) : Prop where
  eq : s = { r with k := s.k, m := s.m, floor := s.floor, o := s.o }
  ks : s.k.z.size = r.k.z.size
  kk : ∀ i, i < r.k.z.size → ∃ k1 ids, (if (i : Int) + 1 = r.self then AddR r.k.z[i]!.kn r.floor r.clock r.o.z k1 else k1 = r.k.z[i]!.kn) ∧ OverR r k1 ids ∧ SetR k1 ids s.k.z[i]!.kn
  ms : s.m.z.size = r.m.z.size
  mm : ∀ i, i < r.m.z.size → s.m.z[i]!.z = if (i : Int) + 1 = r.self then mergeN r.m.z[i]!.z (basesK s.k.z) else r.m.z[i]!.z
  floor : s.floor = max r.floor (min (leastN (colM s.m.z (r.self.toNat - 1))) r.clock)
  o : s.o.z = keptO r.o.z s.floor
/-- So much that the promises can be added. -/
structure FewM (r : RP) : Prop where
  c : FewC r
  k : ∀ i, i < r.k.z.size → r.k.z[i]!.r.z.size ≤ 400 ∧ r.k.z[i]!.a.z.size ≤ 250
  s : ∀ i, i < r.k.z.size → (i : Int) + 1 = r.self → r.k.z[i]!.r.z.size ≤ 150 ∧ r.k.z[i]!.a.z.size ≤ 150
  o : r.o.z.size ≤ 150
theorem FewP.m' {r : RP} (h : FewP r) : FewM r :=
  have hk : ∀ i, i < r.k.z.size → r.k.z[i]!.r.z.size ≤ 100 ∧ r.k.z[i]!.a.z.size ≤ 100 := fun i hi => fewK_iff.1 (h.kk i hi)
  ⟨h.c, fun i hi => by have := hk i hi; omega, fun i hi _ => by have := hk i hi; omega, by have := h.o; omega⟩
theorem chkR_clk {r : RP} (h : chkR r = true) : clkB r.clock r.floor r.o.z = true := by
  have h15 : clkE r.clock r.floor r.o.z = 0 := ((chkR_iff r).1 h).1.2.2.2.1
  unfold clkE at h15
  cases hc : clkB r.clock r.floor r.o.z
  · rw [hc] at h15; cases h15
  · rfl
theorem chkR_kk {r : RP} (h : chkR r = true) : ∀ i, i < r.k.z.size → chkB r.k.z[i]!.kn = true := fun i hi => by
  have h16 : chkE r.k.z[i]!.kn = 0 := (((chkR_iff r).1 h).2.1.2 i hi).1
  unfold chkE at h16
  cases hc : chkB r.k.z[i]!.kn
  · rw [hc] at h16; cases h16
  · rfl
theorem chkR_n {r : RP} (h : chkR r = true) : (3 ≤ r.n ∧ r.n ≤ 9) ∧ 1 ≤ r.self ∧ r.self ≤ r.n := by
  obtain ⟨a, b, c, _⟩ := ((chkR_iff r).1 h).1
  have := (fastN_0 _ _).1 a
  unfold sizeP at this
  exact ⟨⟨this.1, this.2.1⟩, b, c⟩
theorem chkR_rows {r : RP} (h : chkR r = true) : rowsB r.m.z r.n = true := by
  have h18 : rowsE r.m.z r.n = 0 := ((chkR_iff r).1 h).1.2.2.2.2.2.2.2.2.2.2.2.2.1
  unfold rowsE at h18
  cases hc : rowsB r.m.z r.n
  · rw [hc] at h18; cases h18
  · rfl
theorem rows_iff {m : Array (RW Int)} {n : Int} : rowsB m n = true ↔ (3 ≤ n ∧ n ≤ 9) ∧ (m.size : Int) = n ∧ ∀ i, i < m.size → marksE m[i]!.z n = 0 := by
  unfold rowsB
  rw [Bool.and_eq_true, Bool.and_eq_true, decide_eq_true_eq, decide_eq_true_eq, List.all_eq_true]
  constructor
  · rintro ⟨⟨a, b⟩, c⟩; exact ⟨a, b, fun i hi => of_decide_eq_true (c i (List.mem_range.2 hi))⟩
  · rintro ⟨a, b, c⟩; exact ⟨⟨a, b⟩, fun i hi => decide_eq_true (c i (List.mem_range.1 hi))⟩
theorem RefR.known {r s : RP} (h : RefR r s) (hc : chkR r = true) (hf : FewM r) : ∀ i, i < r.k.z.size → chkB s.k.z[i]!.kn = true ∧ r.k.z[i]!.base ≤ s.k.z[i]!.base ∧ s.k.z[i]!.r.z.size ≤ 1000 ∧ s.k.z[i]!.a.z.size ≤ 400 := by
  intro i hi
  obtain ⟨k1, ids, h1, _, h3⟩ := h.kk i hi
  have hk := chk_iff.1 (chkR_kk hc i hi)
  have hcl := chkR_clk hc
  have hk1 : ChkP k1 ∧ r.k.z[i]!.kn.base ≤ k1.base := by
    by_cases hs : (i : Int) + 1 = r.self
    · rw [if_pos hs] at h1
      have hz : r.k.z[i]!.kn.ats.size + r.o.z.size ≤ 400 := by
        have g1 := (hf.s i hi hs).2
        have g2 := hf.o
        show r.k.z[i]!.a.z.size + r.o.z.size ≤ 400
        omega
      have := grow_add (addA_of hk hcl) h1 hz
      exact ⟨this.1, this.2.1⟩
    · rw [if_neg hs] at h1
      rw [h1]
      exact ⟨hk, Int.le_refl _⟩
  have h4 := grow_set hk1.1 h3
  obtain ⟨l, _, l2, l3⟩ := h3.ok hk1.1
  have e1 : s.k.z[i]!.kn.rs.size ≤ 1000 := Nat.le_trans l3.sz l2
  exact ⟨chk_iff.2 h4.1, Int.le_trans hk1.2 h4.2.1, e1, h4.1.sz⟩
theorem RefR.fl {r s : RP} (h : RefR r s) (hc : chkR r = true) : r.floor ≤ s.floor ∧ s.floor ≤ r.clock := by
  have h1 := (clk_list.1 (chkR_clk hc)).1
  rw [h.floor]
  omega
theorem RefR.chk {r s : RP} (h : RefR r s) (hc : chkR r = true) (hf : FewM r) : chkR s = true := by
  have hK := h.known hc hf
  have hF := h.fl hc
  have hN := (chkR_n hc).1
  have hkn := chkR_k hc
  have hR := rows_iff.1 (chkR_rows hc)
  have hcl := clk_kept (chkR_clk hc) hF.1 hF.2
  obtain ⟨hA, hB, hC⟩ := (chkR_iff r).1 hc
  have en : s.n = r.n := by rw [h.eq]
  have ef : s.f = r.f := by rw [h.eq]
  have es : s.self = r.self := by rw [h.eq]
  have ec : s.clock = r.clock := by rw [h.eq]
  have eq' : s.seq = r.seq := by rw [h.eq]
  have et : s.ticks = r.ticks := by rw [h.eq]
  have ee : s.e = r.e := by rw [h.eq]
  have er : s.fr = r.fr := by rw [h.eq]
  have ed : s.d = r.d := by rw [h.eq]
  have e1 : s.lt = r.lt := by rw [h.eq]
  have e2 : s.lid = r.lid := by rw [h.eq]
  have e3 : s.count = r.count := by rw [h.eq]
  have hmb : marksE (basesK s.k.z) r.n = 0 := marks_bases hN (by rw [h.ks]; exact hkn) (fun i hi => (hK i (by rw [← h.ks]; exact hi)).1)
  have hrow : rowsB s.m.z r.n = true := by
    refine rows_iff.2 ⟨hN, by rw [h.ms]; exact hR.2.1, fun i hi => ?_⟩
    have hi' : i < r.m.z.size := by rw [← h.ms]; exact hi
    rw [h.mm i hi']
    split
    · exact marks_merge_S (hR.2.2 i hi') hmb
    · exact hR.2.2 i hi'
  obtain ⟨a1, a2, a3, a4, a5, a6, a7, a8, a9, a10, a11, a12, a13, a14, a15⟩ := hA
  refine (chkR_iff s).2 ⟨⟨?_, ?_, ?_, ?_, ?_, ?_, ?_, ?_, ?_, ?_, ?_, ?_, ?_, ?_, ?_⟩, ⟨?_, ?_⟩, ?_⟩
  · rw [en, ef]; exact a1
  · rw [es]; exact a2
  · rw [es, en]; exact a3
  · unfold clkE
    rw [ec, h.o, if_pos hcl]
  · rw [eq']; exact a5
  · rw [eq']; exact a6
  · rw [et]; exact a7
  · rw [et]; exact a8
  · rw [e3]; exact a9
  · rw [e3]; exact a10
  · rw [ee]; exact a11
  · rw [h.ks, en]; exact a12
  · unfold rowsE
    rw [en, if_pos hrow]
  · rw [er, en]; exact a14
  · rw [ed, en]; exact a15
  · rw [ee, en]; exact hB.1
  · intro i hi
    rw [h.ks] at hi
    have hk := (hK i hi).1
    refine ⟨?_, ?_⟩
    · exact if_pos hk
    · rw [ed]; exact (hB.2 i hi).2
  · unfold RckC at hC ⊢
    rw [e1, e2]; exact hC
theorem RefR.few {r s : RP} (h : RefR r s) (hc : chkR r = true) (hf : FewM r) : FewC s := by
  have hK := h.known hc hf
  have hR := rows_iff.1 (chkR_rows hc)
  have hkn := chkR_k hc
  have ee : s.e = r.e := by rw [h.eq]
  have er : s.fr = r.fr := by rw [h.eq]
  have ed : s.d = r.d := by rw [h.eq]
  refine ⟨?_, ?_, ?_, ?_, ?_, ?_, ?_, ?_, ?_, ?_⟩
  · rw [ee]; exact hf.c.es
  · rw [ee]; exact hf.c.ee
  · rw [h.o]
    have := List.length_filter_le (fun a : Int × Int => !decide (a.1 ≤ s.floor)) r.o.z.toList
    have := hf.o
    unfold keptO
    simp at *
    omega
  · rw [h.ks]; exact hf.c.k
  · rw [h.ms]; exact hf.c.m
  · intro i hi
    have hi' : i < r.m.z.size := by rw [← h.ms]; exact hi
    rw [h.mm i hi']
    have hz := hf.c.mm i hi'
    split
    · rw [mergeN_size, basesK_size, h.ks]
      have := hf.c.k
      omega
    · exact hz
  · rw [er]; exact hf.c.fr
  · rw [ed]; exact hf.c.d
  · rw [ed]; exact hf.c.dd
  · intro i hi
    rw [h.ks] at hi
    have := hK i hi
    omega
/-- Its own mark is its clock then, if nothing is open in its own promises. -/
theorem RefR.own {r s : RP} (h : RefR r s) (hc : chkR r = true) (hf : FewM r) {i : Nat} (hi : i < r.k.z.size) (hs : (i : Int) + 1 = r.self) (he : s.k.z[i]!.a.z.size = 0) (hl : r.floor ≤ r.k.z[i]!.base) : r.clock ≤ s.k.z[i]!.base := by
  obtain ⟨k1, ids, h1, _, h3⟩ := h.kk i hi
  have hk := chk_iff.1 (chkR_kk hc i hi)
  rw [if_pos hs] at h1
  have hz : r.k.z[i]!.kn.ats.size + r.o.z.size ≤ 400 := by
    have g1 := (hf.s i hi hs).2
    have g2 := hf.o
    show r.k.z[i]!.a.z.size + r.o.z.size ≤ 400
    omega
  exact own_mark (addA_of hk (chkR_clk hc)) h1 hz h3 he hl
end Go.Proofs.YtnmojicfmcbgmaaGreat
namespace Go.Proofs.YtnmojicfmcbgmaaGreat
open Go.RowKit Go.Sort Go.Lib
set_option maxRecDepth 100000
/-- slices.Equal at numbers. -/
theorem EqInts_any (A1 A2 : Option Addr) (c1 c2 : Nat) (d1 d2 : Array Int) (B1 B2 : Nat) (w : World) (h1 : RdI_R B1 w A1 d1) (h2 : RdI_R B2 w A2 d2) (hn : d1.size ≤ 100000000) (hm : d2.size ≤ 100000000) :
    Calls Tryz.prog 47 #[.slice A1 d1.size c1, .slice A2 d2.size c2] w fun e w' => e = .returned (.bool (decide (d1 = d2))) ∧ Below w.heap.size w w' := by
  by_cases hs : d1.size = d2.size
  · rcases Nat.eq_zero_or_pos d1.size with h0 | h0
    · obtain rfl : d1 = #[] := Array.eq_empty_of_size_eq_zero h0
      obtain rfl : d2 = #[] := Array.eq_empty_of_size_eq_zero (by rw [← hs]; rfl)
      exact (Tryz.slices_Equal_int_empty A1 A2 c1 0 c2 w (by decide)).mono fun _ _ ⟨he, hw⟩ => ⟨by rw [he]; simp, by rw [hw]; exact Below.refl _ _⟩
    · obtain ⟨b1, o1, rfl, _, f1⟩ := h1 h0
      obtain ⟨b2, o2, rfl, _, f2⟩ := h2 (by omega)
      refine (Tryz.slices_Equal_int b1 o1 d1.size c1 b2 o2 d2.size c2 d1.toList d2.toList w (by simp) (by simp) (by omega) (by omega) (fun j hj => ?_) (fun j hj => ?_)).mono fun _ _ ⟨he, q, hw⟩ => ⟨?_, by rw [hw]; exact belDrewN (Below.refl _ _) q⟩
      · have hj' : j < d1.size := by simpa using hj
        rw [f1 j hj', getElem!_pos d1 j hj']; simp [hj']
      · have hj' : j < d2.size := by simpa using hj
        rw [f2 j hj', getElem!_pos d2 j hj']; simp [hj']
      · rw [he, List.take_of_length_le (by simp), List.take_of_length_le (by simp)]
        congr 2
        rw [Bool.eq_iff_iff]
        simp
  · exact (Tryz.slices_Equal_int_lens A1 A2 d1.size c1 d2.size c2 w hs).mono fun _ _ ⟨he, hw⟩ => ⟨by rw [he, decide_eq_false (fun h => hs (by rw [h]))], by rw [hw]; exact Below.refl _ _⟩
/-- Rows of rows, held against each other. -/
def sameM (m1 m2 : Array (RW Int)) : Bool := allN m1.size m2.size fun i => decide (m1[i]!.z = m2[i]!.z)
def sameD (m1 m2 : Array (RW (Int × Int))) : Bool := allN m1.size m2.size fun i => decide (m1[i]!.z = m2[i]!.z)
def sameKs (m1 m2 : Array KE) : Bool := allN m1.size m2.size fun i => sameK m1[i]!.kn m2[i]!.kn
/-- Two replicas are the same. -/
def sameRP (a b : RP) : Bool := decide (sameH a b) && (sameT a.e.z b.e.z && decide (a.o.z = b.o.z) && sameKs a.k.z b.k.z && sameM a.m.z b.m.z && decide (a.fr.z = b.fr.z) && sameD a.d.z b.d.z)
theorem eqEnt_any (A1 A2 : Option Addr) (c1 c2 : Nat) (d1 d2 : Array EN) (w : World) (h1 : RdT w A1 d1) (h2 : RdT w A2 d2) :
    Calls Tryz.prog 41 #[.slice A1 d1.size c1, .slice A2 d2.size c2, .func (.func 42) #[] #[]] w fun e w' => e = .returned (.bool (sameT d1 d2)) ∧ Below w.heap.size w w' := by
  have HE := Lib.hid (EqFn_any A1 A2 c1 c2 d1 d2 w h1 h2)
  clear h1 h2
  go_enter Tryz.func41, Tryz.ntmps41
  go_wp2_with fail
  refine HE.out.mono ?_
  rintro e w' ⟨rfl, hb⟩
  have HB := Lib.hid hb
  clear hb
  go_wp2
  go_ret
  exact ⟨rfl, HB.out⟩
theorem eqKno_any (A1 A2 : Option Addr) (c1 c2 : Nat) (d1 d2 : Array KE) (w : World) (h1 : RdW encKE 3 w ⟨A1, c1, d1⟩) (h2 : RdW encKE 3 w ⟨A2, c2, d2⟩) (k1 : ∀ i, i < d1.size → RdKE w d1[i]!) (k2 : ∀ i, i < d2.size → RdKE w d2[i]!) (hs : d1.size ≤ 1000)
    (z1 : ∀ i, i < d1.size → d1[i]!.r.z.size ≤ 1000 ∧ d1[i]!.a.z.size ≤ 1000) (z2 : ∀ i, i < d2.size → d2[i]!.r.z.size ≤ 1000 ∧ d2[i]!.a.z.size ≤ 1000) :
    Calls Tryz.prog 44 #[.slice A1 d1.size c1, .slice A2 d2.size c2, .func (.func 45) #[] #[]] w fun e w' => e = .returned (.bool (sameKs d1 d2)) ∧ Below w.heap.size w w' := by
  have HE := Lib.hid (keEq (fun i => sameK d1[i]!.kn d2[i]!.kn) 45 (enters_of Tryz.func45 (by kernel_rfl) rfl) A1 A2 c1 c2 d1 d2 w h1.rd h2.rd (by omega) (fun i i1 i2 W hb => kSame_any _ _ _ _ W ((k1 i i1).below hb).knV ((k2 i i2).below hb).knV (by have := (z1 i i1).1; simp only [KE.kn]; omega) (by have := (z1 i i1).2; simp only [KE.kn]; omega) (by have := (z2 i i2).1; simp only [KE.kn]; omega) (by have := (z2 i i2).2; simp only [KE.kn]; omega)))
  clear h1 h2 k1 k2 z1 z2
  go_enter Tryz.func44, Tryz.ntmps44
  go_wp2_with fail
  refine HE.out.mono ?_
  rintro e w' ⟨rfl, hb⟩
  have HB := Lib.hid hb
  clear hb
  go_wp2
  go_ret
  exact ⟨rfl, HB.out⟩
theorem stSame1_any (A1 A2 : Option Addr) (c1 c2 : Nat) (d1 d2 : Array (Int × Int)) (w : World) (h1 : RdK encR 2 w.heap.size w A1 d1) (h2 : RdK encR 2 w.heap.size w A2 d2) (hn : d1.size ≤ 100000000) (hm : d2.size ≤ 100000000) :
    Calls Tryz.prog 49 #[.slice A1 d1.size c1, .slice A2 d2.size c2] w fun e w' => e = .returned (.bool (decide (d1 = d2))) ∧ Below w.heap.size w w' := by
  have HE := Lib.hid (EqRngsK_any A1 A2 c1 c2 d1 d2 _ _ w h1 h2 hn hm)
  clear h1 h2
  go_enter Tryz.func49, Tryz.ntmps49
  go_wp2_with fail
  refine HE.out.mono ?_
  rintro e w' ⟨rfl, hb⟩
  have HB := Lib.hid hb
  clear hb
  go_wp2
  go_ret
  exact ⟨rfl, HB.out⟩
theorem eqDone_any (A1 A2 : Option Addr) (c1 c2 : Nat) (d1 d2 : Array (RW (Int × Int))) (w : World) (h1 : RdW encW 1 w ⟨A1, c1, d1⟩) (h2 : RdW encW 1 w ⟨A2, c2, d2⟩) (k1 : ∀ i, i < d1.size → RdW encR 2 w d1[i]!) (k2 : ∀ i, i < d2.size → RdW encR 2 w d2[i]!) (hs : d1.size ≤ 1000)
    (z1 : ∀ i, i < d1.size → d1[i]!.z.size ≤ 1000) (z2 : ∀ i, i < d2.size → d2[i]!.z.size ≤ 1000) :
    Calls Tryz.prog 48 #[.slice A1 d1.size c1, .slice A2 d2.size c2, .func (.func 49) #[] #[]] w fun e w' => e = .returned (.bool (sameD d1 d2)) ∧ Below w.heap.size w w' := by
  have HE := Lib.hid (rrEq (fun i => decide (d1[i]!.z = d2[i]!.z)) 49 (enters_of Tryz.func49 (by kernel_rfl) rfl) A1 A2 c1 c2 d1 d2 w h1.rd h2.rd (by omega) (fun i i1 i2 W hb => stSame1_any _ _ _ _ _ _ W ((k1 i i1).below hb).rd ((k2 i i2).below hb).rd (by have := z1 i i1; omega) (by have := z2 i i2; omega)))
  clear h1 h2 k1 k2 z1 z2
  go_enter Tryz.func48, Tryz.ntmps48
  go_wp2_with fail
  refine HE.out.mono ?_
  rintro e w' ⟨rfl, hb⟩
  have HB := Lib.hid hb
  clear hb
  go_wp2
  go_ret
  exact ⟨rfl, HB.out⟩
theorem swSame1_any (A1 A2 : Option Addr) (c1 c2 : Nat) (d1 d2 : Array Int) (w : World) (h1 : RdI_R w.heap.size w A1 d1) (h2 : RdI_R w.heap.size w A2 d2) (hn : d1.size ≤ 100000000) (hm : d2.size ≤ 100000000) :
    Calls Tryz.prog 96 #[.slice A1 d1.size c1, .slice A2 d2.size c2] w fun e w' => e = .returned (.bool (decide (d1 = d2))) ∧ Below w.heap.size w w' := by
  have HE := Lib.hid (EqInts_any A1 A2 c1 c2 d1 d2 _ _ w h1 h2 hn hm)
  clear h1 h2
  go_enter Tryz.func96, Tryz.ntmps96
  go_wp2_with fail
  refine HE.out.mono ?_
  rintro e w' ⟨rfl, hb⟩
  have HB := Lib.hid hb
  clear hb
  go_wp2
  go_ret
  exact ⟨rfl, HB.out⟩
theorem swSame_any (A1 A2 : Option Addr) (c1 c2 : Nat) (d1 d2 : Array (RW Int)) (w : World) (h1 : RdW encW 1 w ⟨A1, c1, d1⟩) (h2 : RdW encW 1 w ⟨A2, c2, d2⟩) (k1 : ∀ i, i < d1.size → RdJ w d1[i]!) (k2 : ∀ i, i < d2.size → RdJ w d2[i]!) (hs : d1.size ≤ 1000)
    (z1 : ∀ i, i < d1.size → d1[i]!.z.size ≤ 1000) (z2 : ∀ i, i < d2.size → d2[i]!.z.size ≤ 1000) :
    Calls Tryz.prog 46 #[.slice A1 d1.size c1, .slice A2 d2.size c2] w fun e w' => e = .returned (.bool (sameM d1 d2)) ∧ Below w.heap.size w w' := by
  have HE := Lib.hid (irEq (fun i => decide (d1[i]!.z = d2[i]!.z)) 96 (enters_of Tryz.func96 (by kernel_rfl) rfl) A1 A2 c1 c2 d1 d2 w h1.rd h2.rd (by omega) (fun i i1 i2 W hb => swSame1_any _ _ _ _ _ _ W ((k1 i i1).below hb).rd ((k2 i i2).below hb).rd (by have := z1 i i1; omega) (by have := z2 i i2; omega)))
  clear h1 h2 k1 k2 z1 z2
  go_enter Tryz.func46, Tryz.ntmps46
  go_wp2_with fail
  refine HE.out.mono ?_
  rintro e w' ⟨rfl, hb⟩
  have HB := Lib.hid hb
  clear hb
  go_wp2
  go_ret
  exact ⟨rfl, HB.out⟩
theorem stSame_any (a b : RP) (w : World) (ha : RdP w a) (hb : RdP w b) (fa : FewC a) (fb : FewC b) :
    Calls Tryz.prog 16 #[.agg (encP a).toArray, .agg (encP b).toArray] w fun e w' => e = .returned (.bool (sameRP a b)) ∧ Below w.heap.size w w' :=
  stSame_core a b w _ _ _ _ _ _
    (fun W h => eqEnt_any _ _ _ _ _ _ W ((ha.below h).tab fa) ((hb.below h).tab fb))
    (fun W h => EqAttsK_any _ _ _ _ _ _ _ _ W (ha.o.below h).rd (hb.o.below h).rd (by have := fa.o; omega) (by have := fb.o; omega))
    (fun W h => eqKno_any _ _ _ _ _ _ W (ha.k.below h) (hb.k.below h) (fun i hi => (ha.kk i hi).below h) (fun i hi => (hb.kk i hi).below h) (by have := fa.k; omega) fa.kk fb.kk)
    (fun W h => swSame_any _ _ _ _ _ _ W (ha.m.below h) (hb.m.below h) (fun i hi => (ha.mm i hi).below h) (fun i hi => (hb.mm i hi).below h) (by have := fa.m; omega) (fun i hi => by have := fa.mm i hi; omega) (fun i hi => by have := fb.mm i hi; omega))
    (fun W h => EqInts_any _ _ _ _ _ _ _ _ W (ha.fr.below h).rd (hb.fr.below h).rd (by have := fa.fr; omega) (by have := fb.fr; omega))
    (fun W h => eqDone_any _ _ _ _ _ _ W (ha.d.below h) (hb.d.below h) (fun i hi => (ha.dd i hi).below h) (fun i hi => (hb.dd i hi).below h) (by have := fa.d; omega) fa.dd fb.dd)
theorem drewB {w w' : World} : (∃ n, w' = w.drewN n) → Below w.heap.size w w' := by
  rintro ⟨n, rfl⟩
  exact belDrewN (Below.refl _ _) n
theorem rStSame_any (a b : RP) (w : World) (ha : RdP w a) (hb : RdP w b) (fa : FewC a) (fb : FewC b) :
    Calls Tryz.prog 17 #[.agg (encP a).toArray, .agg (encP b).toArray] w fun e w' => e = .returned (.bool (sameRP a b)) ∧ Below w.heap.size w w' :=
  rStSame_core a b w _ _ _ _ _ _
    (fun W h => rSame21_any _ _ _ _ _ _ W ((ha.below h).tab fa) ((hb.below h).tab fb))
    (fun W h => (SameAtts_any_I _ _ _ _ _ _ _ W (ha.o.below h).rd (hb.o.below h).rd (by have := fa.o; omega) (by have := fb.o; omega)).mono fun _ _ ⟨he, hw⟩ => ⟨he, drewB hw⟩)
    (fun W h => rSameKnown (fun i => sameK a.k.z[i]!.kn b.k.z[i]!.kn) _ _ _ _ _ _ W (ha.k.below h).rd (hb.k.below h).rd (by have := fa.k; omega) (fun i i1 i2 W' h' => rSame16_any _ _ _ _ W' (((ha.kk i i1).below h).below h').knV (((hb.kk i i2).below h).below h').knV (by have := (fa.kk i i1).1; simp only [KE.kn]; omega) (by have := (fa.kk i i1).2; simp only [KE.kn]; omega) (by have := (fb.kk i i2).1; simp only [KE.kn]; omega) (by have := (fb.kk i i2).2; simp only [KE.kn]; omega)))
    (fun W h => rSame18 (fun i => decide (a.m.z[i]!.z = b.m.z[i]!.z)) _ _ _ _ _ _ W (ha.m.below h).rd (hb.m.below h).rd (by have := fa.m; omega) (fun i i1 i2 W' h' => (SameInts_any_R _ _ _ _ _ _ _ _ W' (((ha.mm i i1).below h).below h').rd (((hb.mm i i2).below h).below h').rd (by have := fb.mm i i2; omega)).mono fun _ _ ⟨he, hw⟩ => ⟨he, drewB hw⟩))
    (fun W h => (SameInts_any_R _ _ _ _ _ _ _ _ W (ha.fr.below h).rd (hb.fr.below h).rd (by have := fb.fr; omega)).mono fun _ _ ⟨he, hw⟩ => ⟨he, drewB hw⟩)
    (fun W h => rSameDone (fun i => decide (a.d.z[i]!.z = b.d.z[i]!.z)) _ _ _ _ _ _ W (ha.d.below h).rd (hb.d.below h).rd (by have := fa.d; omega) (fun i i1 i2 W' h' => (r4Same_any _ _ _ _ _ _ _ _ W' (((ha.dd i i1).below h).below h').rd (((hb.dd i i2).below h).below h').rd (by have := fb.dd i i2; omega)).mono fun _ _ ⟨he, hw⟩ => ⟨he, drewB hw⟩))
theorem allN_self {n : Nat} {p : Nat → Bool} (h : ∀ i, i < n → p i = true) : allN n n p = true := allN_yes rfl h
theorem sameRP_self (a : RP) : sameRP a a = true := by
  unfold sameRP sameKs sameM sameD
  rw [sameT_self, allN_self (fun i _ => sameK_self _), allN_self (fun i _ => by simp), allN_self (fun i _ => by simp)]
  simp [sameH]
end Go.Proofs.YtnmojicfmcbgmaaGreat
namespace Go.Proofs.YtnmojicfmcbgmaaGreat
open Go.RowKit Go.Sort Go.Lib
/-- A replica that is made: k rows, all empty. -/
structure NewR (n f me : Int) (N : Nat) (s : RP) : Prop where
  h : s.n = n ∧ s.f = f ∧ s.self = me ∧ s.clock = 0 ∧ s.seq = 0 ∧ s.floor = 0 ∧ s.ticks = 0 ∧ s.lt = 0 ∧ s.lid = 0 ∧ s.count = 0
  e : s.e.z = #[]
  o : s.o.z = #[]
  k : s.k.z.size = N ∧ ∀ i, i < N → s.k.z[i]!.kn = ⟨0, #[], #[]⟩
  m : NewM N s.m.z
  fr : s.fr.z = (List.replicate N 0).toArray
  d : s.d.z.size = N ∧ ∀ i, i < N → s.d.z[i]!.z = #[]
  it : s.it.z = #[]
  ss : s.ss.z = #[]
def rp0 : RP := ⟨0, 0, 0, 0, 0, 0, 0, ⟨none, 0, #[]⟩, ⟨none, 0, #[]⟩, ⟨none, 0, #[]⟩, ⟨none, 0, #[]⟩, ⟨none, 0, #[]⟩, ⟨none, 0, #[]⟩, 0, 0, 0, ⟨none, 0, #[]⟩, ⟨none, 0, #[]⟩⟩
theorem newR_none : NewR 0 0 0 0 rp0 :=
  ⟨⟨rfl, rfl, rfl, rfl, rfl, rfl, rfl, rfl, rfl, rfl⟩, rfl, rfl, ⟨rfl, fun i hi => absurd hi (Nat.not_lt_zero i)⟩, ⟨rfl, fun i hi => absurd hi (Nat.not_lt_zero i)⟩, rfl, ⟨rfl, fun i hi => absurd hi (Nat.not_lt_zero i)⟩, rfl, rfl⟩
theorem NewR.same {n f self : Int} {k : Nat} {a b : RP} (h : NewR n f self k a) (g : NewR n f self k b) : sameRP a b = true := by
  obtain ⟨h1, h2, h3, h4, h5, h6, h7, h8, h9, h10⟩ := h.h
  obtain ⟨g1, g2, g3, g4, g5, g6, g7, g8, g9, g10⟩ := g.h
  have e0 : decide (sameH a b) = true := decide_eq_true ⟨by rw [h1, g1], by rw [h2, g2], by rw [h3, g3], by rw [h4, g4], by rw [h5, g5], by rw [h6, g6], by rw [h7, g7], by rw [h8, g8], by rw [h9, g9], by rw [h10, g10]⟩
  have e1 : sameT a.e.z b.e.z = true := by rw [h.e, g.e]; exact sameT_self _
  have e2 : sameKs a.k.z b.k.z = true := allN_yes (by rw [h.k.1, g.k.1]) fun i hi => by
    rw [h.k.1] at hi
    rw [h.k.2 i hi, g.k.2 i hi]; exact sameK_self _
  have e3 : sameM a.m.z b.m.z = true := allN_yes (by rw [h.m.1, g.m.1]) fun i hi => by
    rw [h.m.1] at hi
    rw [h.m.2 i hi, g.m.2 i hi]; exact decide_eq_true rfl
  have e4 : sameD a.d.z b.d.z = true := allN_yes (by rw [h.d.1, g.d.1]) fun i hi => by
    rw [h.d.1] at hi
    rw [h.d.2 i hi, g.d.2 i hi]; exact decide_eq_true rfl
  unfold sameRP
  rw [e0, e1, e2, e3, e4, h.o, g.o, h.fr, g.fr]
  simp
theorem NewR.few {n f self : Int} {k : Nat} {a : RP} (h : NewR n f self k a) (hk : k ≤ 20) : FewP a where
  e := by rw [h.e]; rfl
  o := by rw [h.o]; exact Nat.zero_le _
  k := by rw [h.k.1]; exact hk
  m := fewM_iff.2 ⟨by rw [h.m.1]; exact hk, fun i hi => by rw [h.m.1] at hi; rw [h.m.2 i hi]; simpa using hk⟩
  fr := by rw [h.fr]; simpa using hk
  d := by rw [h.d.1]; exact hk
  kk := fun i hi => by rw [h.k.1] at hi; rw [h.k.2 i hi]; rfl
  dd := fun i hi => by rw [h.d.1] at hi; rw [h.d.2 i hi]; exact Nat.zero_le _
  it := by rw [h.it]; exact Nat.zero_le _
  ss := by rw [h.ss]; exact Nat.zero_le _
/-- May a replica be made? -/
def newP (n f self : Int) : Prop := sizeP n f ∧ 1 ≤ self ∧ self ≤ n
instance (n f self : Int) : Decidable (newP n f self) := by unfold newP sizeP; infer_instance
def NewQ (n f self : Int) (e : Ending) (w' : World) : Prop := ∃ s : RP, e = .returned (.tuple #[.agg (encP s).toArray, .int .i64 (if newP n f self then 0 else 2)]) ∧ (if newP n f self then NewR n f self n.toNat s else NewR 0 0 0 0 s) ∧ RdP w' s
theorem rdW_none {α : Type} [Inhabited α] (en : α → List Value) (k : Nat) (w : World) : RdW en k w ⟨none, 0, #[]⟩ := ⟨fun h => absurd h (Nat.not_lt_zero _), Nat.le_refl _, fun _ => rfl⟩
theorem rdN_none {α : Type} [Inhabited α] (en : α → List Value) (k : Nat) (w : World) : RdN en k w ⟨none, 0, #[]⟩ := ⟨fun h => absurd h (Nat.not_lt_zero _), fun _ => rfl⟩
theorem rdJ_none (w : World) : RdJ w ⟨none, 0, #[]⟩ := ⟨fun h => absurd h (by decide), Nat.le_refl _, fun _ => rfl⟩
theorem rdP_none (w : World) : RdP w rp0 where
  e := ⟨fun h => absurd h (Nat.not_lt_zero _), fun i hi => absurd hi (Nat.not_lt_zero i)⟩
  o := rdN_none _ _ _
  k := rdW_none _ _ _
  kk := fun i hi => absurd hi (Nat.not_lt_zero i)
  m := rdW_none _ _ _
  mm := fun i hi => absurd hi (Nat.not_lt_zero i)
  fr := rdJ_none _
  d := rdW_none _ _ _
  dd := fun i hi => absurd hi (Nat.not_lt_zero i)
  it := rdW_none _ _ _
  ss := rdW_none _ _ _
theorem newQ_none {n f self : Int} (h : ¬ newP n f self) (w : World) : NewQ n f self (.returned (.tuple #[.agg #[.int .i64 0, .int .i64 0, .int .i64 0, .int .i64 0, .int .i64 0, .int .i64 0, .int .i64 0, .slice none 0 0, .slice none 0 0, .slice none 0 0, .slice none 0 0, .slice none 0 0, .slice none 0 0, .int .i64 0, .int .i64 0, .int .i64 0, .slice none 0 0, .slice none 0 0], .int .i64 2])) w :=
  ⟨rp0, by rw [if_neg h]; rfl, by rw [if_neg h]; exact newR_none, rdP_none w⟩
/-- A row of pairs of numbers stays when a struct (number, slice, slice) is written elsewhere. -/
theorem pairs_keep {enc : Int × Int → List Value} (he : ∀ x, ∃ a b : Int, enc x = [.int .i64 a, .int .i64 b]) {W W' : World} {B K : Nat} {ks : Array KE} (hH : ∀ t, t < ks.size * 3 → W.cell? ⟨K, t, none⟩ = some (flatK encKE 3 ks)[t]!) {A : Option Addr} {d : Array (Int × Int)} (h : RdK enc 2 B W A d) {i : Nat} (hi : i < ks.size) (hW : ∀ b t, (b ≠ K ∨ t < i * 3 ∨ i * 3 + 3 ≤ t) → W'.cell? ⟨b, t, none⟩ = W.cell? ⟨b, t, none⟩) : RdK enc 2 B W' A d := by
  have hint : ∀ t, t < d.size * 2 → ∃ a : Int, (flatK enc 2 d)[t]! = .int .i64 a := by
    intro t ht
    have hj : t / 2 < d.size := by omega
    obtain ⟨a, b, e⟩ := he d[t / 2]!
    have := flat_at enc 2 d (t / 2) (t % 2) hj (by omega)
    rw [show t / 2 * 2 + t % 2 = t by omega, e] at this
    rcases Nat.mod_two_eq_zero_or_one t with h0 | h0 <;> rw [h0] at this
    · exact ⟨a, this⟩
    · exact ⟨b, this⟩
  have hkind : ∀ t, t < ks.size * 3 → ∀ a : Int, W.cell? ⟨K, t, none⟩ = some (.int .i64 a) → t % 3 = 0 := by
    intro t ht a ha
    rw [hH t ht] at ha
    injection ha with ha
    have hj : t / 3 < ks.size := by omega
    have := flat_at encKE 3 ks (t / 3) (t % 3) hj (by omega)
    rw [show t / 3 * 3 + t % 3 = t by omega, ha] at this
    have h3 : t % 3 = 0 ∨ t % 3 = 1 ∨ t % 3 = 2 := by omega
    rcases h3 with h0 | h0 | h0
    · exact h0
    · rw [h0] at this; cases this
    · rw [h0] at this; cases this
  intro h0
  obtain ⟨b, off, e, hlt, hc⟩ := h h0
  refine ⟨b, off, e, hlt, fun t ht => ?_⟩
  rw [hW b (off + t) ?_]
  · exact hc t ht
  · refine Classical.byContradiction fun hn => ?_
    have hb : b = K := Classical.byContradiction fun h => hn (Or.inl h)
    have h1 : i * 3 ≤ off + t := Nat.le_of_not_lt fun h => hn (Or.inr (Or.inl h))
    have h2 : off + t < i * 3 + 3 := Nat.lt_of_not_le fun h => hn (Or.inr (Or.inr h))
    subst hb
    have hx : ∀ s, s < d.size * 2 → off + s < ks.size * 3 → (off + s) % 3 = 0 := fun s hs hs3 => by
      obtain ⟨a, ea⟩ := hint s hs
      exact hkind _ hs3 a (by rw [← ea]; exact hc s hs)
    have k1 := hx t ht (by omega)
    rcases Nat.mod_two_eq_zero_or_one t with p0 | p0
    · have := hx (t + 1) (by omega) (by omega)
      omega
    · have := hx (t - 1) (by omega) (by omega)
      omega
theorem encR_pair (x : Int × Int) : ∃ a b : Int, encR x = [.int .i64 a, .int .i64 b] := ⟨_, _, rfl⟩
theorem encA_pair (x : Int × Int) : ∃ a b : Int, encA_I x = [.int .i64 a, .int .i64 b] := ⟨_, _, rfl⟩
end Go.Proofs.YtnmojicfmcbgmaaGreat
namespace Go.Proofs.YtnmojicfmcbgmaaGreat
open Go.RowKit Go.Sort Go.Lib
set_option maxRecDepth 100000
/-- May each of these cells be written? -/
def allOne (cs : Array Value) : Bool := cs.all (·.oneCell')
theorem allOne_lit (a0 a1 a2 a3 a4 a5 a6 a13 a14 a15 : Int) (A7 A8 A9 A10 A11 A12 A16 A17 : Option Addr) (n7 c7 n8 c8 n9 c9 n10 c10 n11 c11 n12 c12 n16 c16 n17 c17 : Nat) : allOne #[.int .i64 a0, .int .i64 a1, .int .i64 a2, .int .i64 a3, .int .i64 a4, .int .i64 a5, .int .i64 a6, .slice A7 n7 c7, .slice A8 n8 c8, .slice A9 n9 c9, .slice A10 n10 c10, .slice A11 n11 c11, .slice A12 n12 c12, .int .i64 a13, .int .i64 a14, .int .i64 a15, .slice A16 n16 c16, .slice A17 n17 c17] = true := by simp [allOne, Value.oneCell']
theorem size_lit (a0 a1 a2 a3 a4 a5 a6 a13 a14 a15 : Int) (A7 A8 A9 A10 A11 A12 A16 A17 : Option Addr) (n7 c7 n8 c8 n9 c9 n10 c10 n11 c11 n12 c12 n16 c16 n17 c17 : Nat) : (#[.int .i64 a0, .int .i64 a1, .int .i64 a2, .int .i64 a3, .int .i64 a4, .int .i64 a5, .int .i64 a6, .slice A7 n7 c7, .slice A8 n8 c8, .slice A9 n9 c9, .slice A10 n10 c10, .slice A11 n11 c11, .slice A12 n12 c12, .int .i64 a13, .int .i64 a14, .int .i64 a15, .slice A16 n16 c16, .slice A17 n17 c17] : Array Value).size = 18 := rfl
theorem run_storeBox_any (W : World) (g : Nat) (cs : Array Value) (h : boxAt W g 18 = true) (hc : cs.size = 18) (h1 : allOne cs = true) :
    (storeBox 35 (.pointer (some ⟨g, 0, none⟩)) (.agg cs)).run Tryz.prog W = .ok () (W.setRow g cs) := by
  obtain ⟨t, h2, h3⟩ := of_boxAt h
  simp only [storeBox, Instr.storeAt, Instr.sureAddr, Sem.run_bind, Sem.run_pure, Result.andThen]
  exact run_storeVar_row W g t 35 _ cs h2 (by rw [hc]; kernel_rfl) (by rw [h3, hc]) h1
theorem run_storeBox_newA (W : World) (g : Nat) (zs cs : Array Value) (hg : W.heap.size = g) (hz : zs.size = 18) (hc : cs.size = 18) (h1 : allOne cs = true) :
    (storeBox 35 (.pointer (some ⟨g, 0, none⟩)) (.agg cs)).run Tryz.prog (W.alloc (.cells zs 35)) = .ok () (W.alloc (.cells cs 35)) := run_storeBox_new W g zs cs hg hz hc h1
theorem run_loadRep {W : World} {g : Nat} {cs : Array Value} {T : TypeId} (h : W.heap[g]? = some (.cells cs T (0, 0))) (hc : cs.size = 18) : (loadVar 35 ⟨g, 0, none⟩).run Tryz.prog W = .ok (.agg cs) W :=
  run_loadVar_row W g T 35 cs (0, 0) _ h Tryz.underlying35 rfl (by rw [hc]; kernel_rfl)
theorem results_rep {fn : Func} {t : Tmp} (hf : fn.results = #[.cell t 35]) {tm : Array Value} {W : World} {g : Nat} {cs : Array Value} {T : TypeId} (hg : tm.getD t undef = .pointer (some ⟨g, 0, none⟩)) (h : W.heap[g]? = some (.cells cs T (0, 0))) (hc : cs.size = 18) : (results fn tm).run Tryz.prog W = .ok (.agg cs) W := by
  have hg2 : tm[t]?.getD undef = .pointer (some ⟨g, 0, none⟩) := by rw [← Array.getD_eq_getD_getElem?]; exact hg
  simp [results, hf, hg2, asAddr, run_loadRep h hc]
theorem results_rep2 {fn : Func} {t u : Tmp} (hf : fn.results = #[.cell t 35, .tmp u]) {tm : Array Value} {W : World} {g : Nat} {cs : Array Value} {T : TypeId} (hg : tm.getD t undef = .pointer (some ⟨g, 0, none⟩)) (h : W.heap[g]? = some (.cells cs T (0, 0))) (hc : cs.size = 18) : (results fn tm).run Tryz.prog W = .ok (.tuple #[.agg cs, tm.getD u undef]) W := by
  have hg2 : tm[t]?.getD undef = .pointer (some ⟨g, 0, none⟩) := by rw [← Array.getD_eq_getD_getElem?]; exact hg
  simp [results, hf, hg2, asAddr, run_loadRep h hc]
theorem kno_info : (Tryz.prog.info? 53).map (fun i => (i.zero, i.size, i.bytes)) = some (some (.agg #[.int .i64 0, .slice none 0 0, .slice none 0 0]), 3, 56) := by kernel_rfl
theorem rngs_info : (Tryz.prog.info? 51).map (fun i => (i.zero, i.size, i.bytes)) = some (some (.slice none 0 0), 1, 24) := by kernel_rfl
def ke0 : KE := ⟨0, ⟨none, 0, #[]⟩, ⟨none, 0, #[]⟩⟩
def kes (n : Nat) : Array KE := (List.replicate n ke0).toArray
def rws (n : Nat) : Array (RW (Int × Int)) := (List.replicate n ⟨none, 0, #[]⟩).toArray
theorem rep_get {α : Type} [Inhabited α] (n i : Nat) (x : α) (h : i < n) : ((List.replicate n x).toArray)[i]! = x := by
  rw [getElem!_pos _ i (by simpa using h)]
  simp
theorem make_kes (n : Nat) (hn : n ≤ 1000) (W : World) : (Instr.makeSlice 24 (.int .i64 (n : Int)) (.int .i64 (n : Int))).run Tryz.prog W = .ok (.slice (some ⟨W.heap.size, 0, none⟩) n n) (W.alloc (.cells (flatK encKE 3 (kes n)) 53)) := by
  obtain ⟨i0, hi0, hz0, hz1, hz2⟩ := info_parts kno_info
  have h := run_make (P := Tryz.prog) W 24 53 i0 (.agg #[.int .i64 0, .slice none 0 0, .slice none 0 0]) Tryz.underlying24 hi0 hz0 .i64 .i64 (n : Int) (n : Int) (by omega) (by omega) (by rw [hz2]; omega) (by omega)
  rw [h]
  have : madeCells (Value.agg #[.int .i64 0, .slice none 0 0, .slice none 0 0]).cells ((n : Int).toNat * i0.size) = flatK encKE 3 (kes n) := by
    rw [hz1, Int.toNat_natCast]
    have hs : (kes n).size = n := by simp [kes]
    apply Array.ext (by rw [size_madeCells, size_flatK, hs])
    intro t h1 h2
    rw [size_madeCells] at h1
    rw [← getElem!_pos (flatK encKE 3 (kes n)) t h2, get_flatK _ _ _ _ (by rw [hs]; exact h1)]
    have e : (kes n)[t / 3]! = ke0 := rep_get n _ _ (by omega)
    rw [e]
    simp only [madeCells, Array.getElem_map, Array.getElem_range]
    have h3 : t % 3 = 0 ∨ t % 3 = 1 ∨ t % 3 = 2 := by omega
    rcases h3 with h0 | h0 | h0 <;> rw [show (Value.agg #[.int .i64 0, .slice none 0 0, .slice none 0 0]).cells.size = 3 from rfl, h0] <;> rfl
  rw [this, Int.toNat_natCast]
theorem make_rws (n : Nat) (hn : n ≤ 1000) (W : World) : (Instr.makeSlice 27 (.int .i64 (n : Int)) (.int .i64 (n : Int))).run Tryz.prog W = .ok (.slice (some ⟨W.heap.size, 0, none⟩) n n) (W.alloc (.cells (flatK encW 1 (rws n)) 51)) := by
  obtain ⟨i0, hi0, hz0, hz1, hz2⟩ := info_parts rngs_info
  have h := run_make (P := Tryz.prog) W 27 51 i0 (.slice none 0 0) Tryz.underlying27 hi0 hz0 .i64 .i64 (n : Int) (n : Int) (by omega) (by omega) (by rw [hz2]; omega) (by omega)
  rw [h]
  have : madeCells (Value.slice none 0 0).cells ((n : Int).toNat * i0.size) = flatK encW 1 (rws n) := by
    rw [hz1, Int.toNat_natCast]
    have hs : (rws n).size = n := by simp [rws]
    apply Array.ext (by rw [size_madeCells, size_flatK, hs])
    intro t h1 h2
    rw [size_madeCells] at h1
    rw [← getElem!_pos (flatK encW 1 (rws n)) t h2, get_flatK _ _ _ _ (by rw [hs]; exact h1)]
    have e : (rws n)[t / 1]! = ⟨none, 0, #[]⟩ := rep_get n _ _ (by omega)
    rw [e, Nat.mod_one]
    simp [madeCells, Value.cells, encW, RW.v, Nat.mod_one]
  rw [this, Int.toNat_natCast]
/-- What lies in three new blocks, and a table, is a replica that is made. -/
theorem newQ_of {N : Nat} {f self : Int} (hp : newP (N : Int) f self) {w1 W : World} {g a b d B : Nat} {x : RW (RW Int)} (hm : NewM N x.z) (hx : OwnMM B w1 x) (hgB : g < B) (hbw : ∀ j, B ≤ j → j < w1.heap.size → W.heap[j]? = w1.heap[j]?) (hs : w1.heap.size ≤ W.heap.size) {T1 T2 T3 : TypeId}
    (ha : W.heap[a]? = some (.cells (flatK encKE 3 (kes N)) T1 (0, 0))) (hb : W.heap[b]? = some (.cells ((List.range N).map fun _ => Value.int .i64 0).toArray T2 (0, 0))) (hd : W.heap[d]? = some (.cells (flatK encW 1 (rws N)) T3 (0, 0))) (hga : g ≠ a) (hgb : g ≠ b) (hgd : g ≠ d) (cs : Array Value) :
    NewQ (N : Int) f self (.returned (.tuple #[.agg #[.int .i64 (N : Int), .int .i64 f, .int .i64 self, .int .i64 0, .int .i64 0, .int .i64 0, .int .i64 0, .slice none 0 0, .slice none 0 0, .slice (some ⟨a, 0, none⟩) N N, x.v, .slice (some ⟨b, 0, none⟩) N N, .slice (some ⟨d, 0, none⟩) N N, .int .i64 0, .int .i64 0, .int .i64 0, .slice none 0 0, .slice none 0 0], .int .i64 0])) (W.setRow g cs) := by
  have hks : (kes N).size = N := by simp [kes]
  have hrs : (rws N).size = N := by simp [rws]
  have hzs : ((List.replicate N (0 : Int)).toArray).size = N := by simp
  have ha' : (W.setRow g cs).heap[a]? = some (.cells (flatK encKE 3 (kes N)) T1 (0, 0)) := (setRow_other W g a cs (Ne.symm hga)).trans ha
  have hb' : (W.setRow g cs).heap[b]? = some (.cells ((List.range N).map fun _ => Value.int .i64 0).toArray T2 (0, 0)) := (setRow_other W g b cs (Ne.symm hgb)).trans hb
  have hd' : (W.setRow g cs).heap[d]? = some (.cells (flatK encW 1 (rws N)) T3 (0, 0)) := (setRow_other W g d cs (Ne.symm hgd)).trans hd
  have hx' : RdMM (W.setRow g cs) x := hx _ (fun j h1 h2 => (setRow_other W g j cs (by omega)).trans (hbw j h1 h2)) (by simpa using hs)
  refine ⟨⟨(N : Int), f, self, 0, 0, 0, 0, ⟨none, 0, #[]⟩, ⟨none, 0, #[]⟩, ⟨some ⟨a, 0, none⟩, N, kes N⟩, x, ⟨some ⟨b, 0, none⟩, N, (List.replicate N (0 : Int)).toArray⟩, ⟨some ⟨d, 0, none⟩, N, rws N⟩, 0, 0, 0, ⟨none, 0, #[]⟩, ⟨none, 0, #[]⟩⟩, ?_, ?_, ?_⟩
  · rw [if_pos hp]
    simp only [encP, hks, hrs, hzs]
    rfl
  · rw [if_pos hp, Int.toNat_natCast]
    exact ⟨⟨rfl, rfl, rfl, rfl, rfl, rfl, rfl, rfl, rfl, rfl⟩, rfl, rfl, ⟨hks, fun i hi => by show (kes N)[i]!.kn = _; rw [show (kes N)[i]! = ke0 from rep_get N i _ hi]; rfl⟩, hm, rfl, ⟨hrs, fun i hi => by show (rws N)[i]!.z = _; rw [show (rws N)[i]! = ⟨none, 0, #[]⟩ from rep_get N i _ hi]⟩, rfl, rfl⟩
  · refine ⟨⟨fun h => absurd h (Nat.not_lt_zero _), fun i hi => absurd hi (Nat.not_lt_zero i)⟩, rdN_none _ _ _, ⟨fun _ => ⟨a, 0, rfl, blk_lt ha', fun t ht => ?_⟩, ?_, fun h => by cases h⟩, fun i hi => ?_, hx'.1, hx'.2, ⟨fun _ => ⟨b, 0, rfl, blk_lt hb', fun i hi => ?_⟩, ?_, fun h => by cases h⟩, ⟨fun _ => ⟨d, 0, rfl, blk_lt hd', fun t ht => ?_⟩, ?_, fun h => by cases h⟩, fun i hi => ?_, rdW_none _ _ _, rdW_none _ _ _⟩
    · rw [Nat.zero_add, cell_of_row _ _ t _ _ (0, 0) ha']
      have : t < (flatK encKE 3 (kes N)).size := by rw [size_flatK]; exact ht
      rw [getElem!_pos _ t this, Array.getElem?_eq_getElem this]
    · show (kes N).size ≤ N
      omega
    · have hi' : i < (kes N).size := hi
      rw [show (kes N)[i]! = ke0 from rep_get N i _ (by omega)]
      exact ⟨rdN_none _ _ _, rdN_none _ _ _⟩
    · have hi' : i < ((List.replicate N (0 : Int)).toArray).size := hi
      rw [Nat.zero_add, cell_of_row _ _ i _ _ (0, 0) hb']
      show _ = some (Value.int .i64 ((List.replicate N (0 : Int)).toArray)[i]!)
      rw [rep_get N i _ (by omega)]
      have hi2 : i < N := by omega
      simp [hi2]
    · show ((List.replicate N (0 : Int)).toArray).size ≤ N
      omega
    · rw [Nat.zero_add, cell_of_row _ _ t _ _ (0, 0) hd']
      have : t < (flatK encW 1 (rws N)).size := by rw [size_flatK]; exact ht
      rw [getElem!_pos _ t this, Array.getElem?_eq_getElem this]
    · show (rws N).size ≤ N
      omega
    · have hi' : i < (rws N).size := hi
      rw [show (rws N)[i]! = ⟨none, 0, #[]⟩ from rep_get N i _ (by omega)]
      exact rdW_none _ _ _
attribute [local go_sem ↓] execOp_loadRep execOp_storeRep
attribute [local go_sem] run_loadBox run_storeBox_any run_storeBox_newA allOne_lit size_lit
theorem three_blocks (w : World) (o1 o2 o3 : Obj) : (((w.alloc o1).alloc o2).alloc o3).drew.heap[w.heap.size]? = some o1 ∧ (((w.alloc o1).alloc o2).alloc o3).drew.heap[w.heap.size + 1]? = some o2 ∧ (((w.alloc o1).alloc o2).alloc o3).drew.heap[w.heap.size + 1 + 1]? = some o3 := by
  refine ⟨blk_alloc (blk_alloc (heap_alloc_new w o1)), blk_alloc ?_, ?_⟩
  · have := heap_alloc_new (w.alloc o1) o2
    simpa using this
  · have := heap_alloc_new ((w.alloc o1).alloc o2) o3
    rwa [show ((w.alloc o1).alloc o2).heap.size = w.heap.size + 1 + 1 by simp] at this
theorem three_below (w : World) (o1 o2 o3 : Obj) : Below w.heap.size w (((w.alloc o1).alloc o2).alloc o3).drew := (belAlloc (belAlloc (bel1 w o1) o2) o3).drew
set_option maxHeartbeats 8000000 in
theorem stNew_any (n f self : Int) (w : World) : Calls Tryz.prog 7 #[.int .i64 n, .int .i64 f, .int .i64 self] w fun e w' => NewQ n f self e w' ∧ Below w.heap.size w w' := by
  have hE := sizeE_bool n f
  by_cases hP : newP n f self
  · obtain ⟨h1, h2, h3⟩ := hP
    have h1' := h1
    unfold sizeP at h1'
    have HP : Hid (newP n f self) := ⟨h1, h2, h3⟩
    rw [decide_eq_true h1] at hE
    have hmost : ¬ mostN n = 0 := by
      unfold mostN
      rw [if_neg (by omega)]
      omega
    have HN : Hid (∀ W, Calls Tryz.prog 25 #[.int .i64 n] W fun e w' => (∃ x : RW (RW Int), e = .returned (.tuple #[.slice x.A x.z.size x.c, .int .i64 0]) ∧ NewM n.toNat x.z ∧ OwnMM W.heap.size w' x) ∧ Below W.heap.size W w') := fun W => by
      have := swNew_any n W
      rwa [if_neg hmost, if_neg hmost] at this
    obtain ⟨N, rfl⟩ : ∃ N : Nat, n = (N : Int) := ⟨n.toNat, by omega⟩
    rw [Int.toNat_natCast] at HN
    have hN9 : N ≤ 9 := by omega
    have e2 : decide (self < 1) = false := decide_eq_false (by omega)
    have e3 : decide ((N : Int) < self) = false := decide_eq_false (by omega)
    have mk1 := fun W => make_kes N (by omega) W
    have mk2 := fun W => make_ints N (by omega) W
    have mk3 := fun W => make_rws N (by omega) W
    clear h1 h1' h2 h3 hmost
    go_enter Tryz.func7, Tryz.ntmps7
    go_wp2_with (first
      | (go_at_call 24; refine (szCheck_any _ _ _).mono ?_; rintro _ _ ⟨rfl, rfl⟩)
      | (go_at_call 25; refine (HN.out _).mono ?_; rintro _ w1 ⟨⟨x, rfl, hm, hx⟩, hb⟩; have HM := Lib.hid hm; have HX := Lib.hid hx; have HB := Lib.hid hb; clear hm hx hb))
    have hlt : w.heap.size < w1.heap.size := Nat.lt_of_lt_of_le (by simp) HB.out.size
    obtain ⟨zs, hrow, hzs⟩ : ∃ zs, w1.heap[w.heap.size]? = some (.cells zs 35 (0, 0)) ∧ zs.size = 18 := ⟨_, (HB.out.block _ (by simp)).trans (heap_alloc_new w _), rfl⟩
    have hrow3 : ∀ o1 o2 o3, (((w1.drew.alloc o1).alloc o2).alloc o3).heap[w.heap.size]? = some (.cells zs 35 (0, 0)) := fun o1 o2 o3 => blk_alloc (blk_alloc (blk_alloc (W := w1.drew) hrow))
    have hbox : ∀ o1 o2 o3, boxAt (((w1.drew.alloc o1).alloc o2).alloc o3) w.heap.size 18 = true := fun o1 o2 o3 => boxAt_of (hrow3 o1 o2 o3) hzs
    have hboxd : ∀ o1 o2 o3, boxAt (((w1.alloc o1).alloc o2).alloc o3).drew w.heap.size 18 = true := fun o1 o2 o3 => boxAt_of (W := (((w1.alloc o1).alloc o2).alloc o3).drew) (blk_alloc (blk_alloc (blk_alloc hrow))) hzs
    have HR3 := Lib.hid hrow3
    have HR4 : Hid (∀ o1 o2 o3, (((w1.alloc o1).alloc o2).alloc o3).drew.heap[w.heap.size]? = some (.cells zs 35 (0, 0))) := Lib.hid (fun o1 o2 o3 => blk_alloc (blk_alloc (blk_alloc hrow)))
    have HLT := Lib.hid hlt
    clear hrow hrow3 hzs hlt
    go_region_law (fail)
    all_goals
      go_wp2
      refine bodyPost_ret (results_rep2 rfl rfl (setRow_heap _ _ _ _ _ _ (HR4.out _ _ _)) rfl) rfl ?_
      show NewQ _ _ _ (Ending.returned (.tuple #[_, .int .i64 0])) _ ∧ _
      refine ⟨newQ_of (T1 := 53) (T2 := 3) (T3 := 51) HP.out HM.out HX.out ?_ (fun j h1 h2 => (three_below w1 _ _ _).block j h2) (three_below w1 _ _ _).size ?_ ?_ ?_ ?_ ?_ ?_ _, ?_⟩
      · simp
      · first | exact (three_blocks w1 _ _ _).1 | exact (three_blocks w1 _ _ _).2.1 | exact (three_blocks w1 _ _ _).2.2
      · first | exact (three_blocks w1 _ _ _).1 | exact (three_blocks w1 _ _ _).2.1 | exact (three_blocks w1 _ _ _).2.2
      · first | exact (three_blocks w1 _ _ _).1 | exact (three_blocks w1 _ _ _).2.1 | exact (three_blocks w1 _ _ _).2.2
      · have := HLT.out; omega
      · have := HLT.out; omega
      · have := HLT.out; omega
      · exact (belStep (belStep (bel1 w _) HB.out) (three_below w1 _ _ _)).trans ⟨rfl, rfl, rfl, by simp, fun j hj => setRow_other _ _ j _ (by omega)⟩
  · have HF := Lib.hid (newQ_none hP)
    by_cases h1 : sizeP n f
    · rw [decide_eq_true h1] at hE
      by_cases h2 : 1 ≤ self
      · have h3 : ¬ self ≤ n := fun h3 => hP ⟨h1, h2, h3⟩
        have e2 : decide (self < 1) = false := decide_eq_false (by omega)
        have e3 : decide (n < self) = true := decide_eq_true (by omega)
        clear hP h1 h2 h3
        go_enter Tryz.func7, Tryz.ntmps7
        go_wp2_with (go_at_call 24; refine (szCheck_any _ _ _).mono ?_; rintro _ _ ⟨rfl, rfl⟩)
        refine bodyPost_ret (results_rep2 rfl rfl (heap_alloc_new _ _) rfl) rfl ?_
        exact ⟨HF.out _, bel1 _ _⟩
      · have e2 : decide (self < 1) = true := decide_eq_true (by omega)
        clear hP h1 h2
        go_enter Tryz.func7, Tryz.ntmps7
        go_wp2_with (go_at_call 24; refine (szCheck_any _ _ _).mono ?_; rintro _ _ ⟨rfl, rfl⟩)
        refine bodyPost_ret (results_rep2 rfl rfl (heap_alloc_new _ _) rfl) rfl ?_
        exact ⟨HF.out _, bel1 _ _⟩
    · rw [decide_eq_false h1] at hE
      clear hP h1
      go_enter Tryz.func7, Tryz.ntmps7
      go_wp2_with (go_at_call 24; refine (szCheck_any _ _ _).mono ?_; rintro _ _ ⟨rfl, rfl⟩)
      refine bodyPost_ret (results_rep2 rfl rfl (heap_alloc_new _ _) rfl) rfl ?_
      exact ⟨HF.out _, bel1 _ _⟩
end Go.Proofs.YtnmojicfmcbgmaaGreat
namespace Go.Proofs.YtnmojicfmcbgmaaGreat
open Go.RowKit Go.Sort Go.Lib
set_option maxRecDepth 100000
attribute [local go_sem ↓] execOp_loadRep execOp_storeRep
attribute [local go_sem] run_loadBox run_storeBox_new
/-- slices.Contains at numbers. -/
theorem HasInts_any (A : Option Addr) (c : Nat) (s : Array Int) (x : Int) (B : Nat) (w : World) (h : RdI_R B w A s) (hs : s.size ≤ 100000000) :
    Calls Tryz.prog 110 #[.slice A s.size c, .int .i64 x] w fun e w' => e = .returned (.bool (s.toList.contains x)) ∧ w' = w := by
  rcases Nat.eq_zero_or_pos s.size with h0 | h0
  · obtain rfl : s = #[] := Array.eq_empty_of_size_eq_zero h0
    exact Tryz.slices_Contains_int_empty A c x w
  · obtain ⟨b, o, rfl, _, f⟩ := h h0
    have := Tryz.slices_Contains_int b o s.size c s.toList x w (by simp) (by omega) (fun j hj => by
      have hj' : j < s.size := by simpa using hj
      rw [f j hj', getElem!_pos s j hj']; simp [hj'])
    rw [List.take_of_length_le (by simp)] at this
    exact this
/-- What is settled of a replica's commands. -/
def setlT (r : RP) : Array Int := fmT (fun x => setlB x.ph) EN.id r.e.z
theorem setlT_size (r : RP) : (setlT r).size ≤ r.e.z.size := fmT_size _ _ _
theorem overB_iff (r : RP) (id : Int) : overB r id = ((setlT r).toList.contains id || doneI r id) := by
  unfold overB setlT fmT
  congr 1
  rw [Bool.eq_iff_iff]
  simp only [List.any_eq_true, Bool.and_eq_true, beq_iff_eq, List.contains_iff_mem, List.mem_map, List.mem_filter]
  constructor
  · rintro ⟨x, hx, h1, h2⟩; exact ⟨x, ⟨hx, h1⟩, h2⟩
  · rintro ⟨x, ⟨hx, h1⟩, h2⟩; exact ⟨x, hx, h1, h2⟩
set_option maxHeartbeats 2000000 in
theorem over1_any (r : RP) (x : Int) (A : Option Addr) (c : Nat) (g1 g2 : Nat) (w : World) (h1 : g1 < w.heap.size) (q1 : w.cell? ⟨g1, 0, none⟩ = some (.slice A (setlT r).size c)) (q2 : w.heap[g2]? = some (.cells (encP r).toArray 35 (0, 0))) (hs : RdI_R w.heap.size w A (setlT r)) (h : RdP w r) (hf : FewC r) (hd : (r.d.z.size : Int) = r.n) :
    Calls Tryz.prog 114 #[.int .i64 x, .pointer (some ⟨g1, 0, none⟩), .pointer (some ⟨g2, 0, none⟩)] w fun e w' => e = .returned (.bool (!overB r x)) ∧ Below w.heap.size w w' := by
  have HV : Hid (overB r x = ((setlT r).toList.contains x || doneI r x)) := overB_iff r x
  have HC := Lib.hid (HasInts_any A c (setlT r) x _ w hs (by have := setlT_size r; have := hf.es; omega))
  have HD := Lib.hid (done0_any r x w h.d.rd (fun i hi => (h.dd i hi).rd) hd (by have := hf.d; omega))
  obtain ⟨cs, hcs⟩ : ∃ cs, cs = (encP r).toArray := ⟨_, rfl⟩
  have HI : cs.size = 18 := by rw [hcs]; rfl
  rw [← hcs] at q2 HD
  have x1 := boxAt_of q2 HI
  have x2 := rowAt_of q2
  generalize (setlT r).toList.contains x = p1 at HV HC
  generalize doneI r x = p2 at HV HD
  clear hs h hf hd q2 hcs
  cases p1 <;> cases p2
  all_goals
    go_enter Tryz.func114, Tryz.ntmps114
    go_wp2_with (first
      | (go_at_call 110; refine HC.out.mono ?_; rintro _ _ ⟨rfl, rfl⟩)
      | (go_at_call 39; refine HD.out.mono ?_; rintro _ w1 ⟨rfl, hb⟩; have HB := Lib.hid hb; clear hb))
    go_ret
    exact ⟨ret_bool (by rw [HV.out]; rfl), by first | exact HB.out | exact Below.refl _ _⟩
set_option maxHeartbeats 1000000 in
theorem idxJ_0 (A : Option Addr) (fv : Value) (c : Nat) (w : World) :
    Calls Tryz.prog 153 #[.slice A 0 c, fv] w fun e w' => e = .returned (.int .i64 (-1)) ∧ w = w' := by
  go_enter Tryz.func153, Tryz.ntmps153
  go_wp2
  refine wp_loop_rounds 1 ?_; rw [rounds_succ]
  go_wp2
  go_ret
  exact ⟨rfl, rfl⟩
set_option maxHeartbeats 1000000 in
theorem delJ_0 (A : Option Addr) (fv : Value) (c : Nat) (w : World) :
    Calls Tryz.prog 112 #[.slice A 0 c, fv] w fun e w' => e = .returned (.slice A 0 c) ∧ w = w' := by
  go_enter Tryz.func112, Tryz.ntmps112
  go_wp2_with (go_at_call 153; refine (idxJ_0 _ _ _ _).mono ?_; rintro e w' ⟨rfl, rfl⟩)
  go_ret
  exact ⟨rfl, rfl⟩
theorem holdsJ {w : World} {g : Nat} {s : Array Int} (h : Holds (Value.int .i64) w g 0 s) : HoldsK encJ_T 1 w g 0 s := by
  intro t ht
  rw [size_flatK] at ht
  have h' := h t (by omega)
  rw [get_flatK _ _ _ _ (by omega), Nat.mod_one, Nat.div_one]
  exact h'
theorem delJ_own (p : Int → Bool) (g : Nat) (lb : Array Value) (eg : ∀ args w, (callFunc g args).run Tryz.prog w = .ok (.enter g args) w) (A : Option Addr) (c B : Nat) (s : Array Int) (w : World)
    (hp : ∀ W x, (∀ i, i < B → W.heap[i]? = w.heap[i]?) → B ≤ W.heap.size → W.os = w.os → W.tape = w.tape → W.output = w.output → Calls Tryz.prog g (#[.int .i64 x] ++ lb) W fun e w' => e = .returned (.bool (p x)) ∧ Below W.heap.size W w')
    (hA : OwnB B w A c s) (hB : B ≤ w.heap.size) (hsz : s.size ≤ 1000000) :
    Calls Tryz.prog 112 #[.slice A s.size c, .func (.func g) #[] lb] w fun e w' => e = .returned (.slice A (s.toList.filter fun x => !p x).toArray.size c) ∧ RdI_R w'.heap.size w' A (s.toList.filter fun x => !p x).toArray ∧ Below B w w' := by
  rcases hA with rfl | ⟨b, rfl, hBb, hlt, hH, hc⟩
  · exact (delJ_0 A _ c w).mono fun e w' ⟨he, hw⟩ => ⟨he, fun h => by simp at h, hw ▸ Below.refl _ _⟩
  · refine (intDel p g lb eg b 0 c s w (fun W x hg => hp W x (fun i hi => hg.block i (by omega) (by simp; omega)) (Nat.le_trans hB hg.size) hg.os hg.tape hg.output) (holdsJ hH) hlt hsz hc).mono fun e w' ⟨he, hg, hr⟩ => ⟨he, rdJ_T hr, (Below.refl B w).grown hg hB (fun k hk => ?_)⟩
    injection hk with hk
    omega
theorem over_of {r : RP} {k : KN} {s : Array Int} (hc : chkB k = true) (h : OpenR k s) : OverR r k (s.toList.filter fun x => overB r x).toArray := by
  intro x
  show x ∈ List.filter _ _ ↔ _
  rw [List.mem_filter, h.mem, hc]
  simp
set_option maxHeartbeats 4000000 in
theorem over_any (r : RP) (v : Value) (k : KN) (w : World) (h : RdP w r) (hk : KnV w v k) (hf : FewC r) (hd : (r.d.z.size : Int) = r.n) (hc : chkB k = true) (s2 : k.ats.size ≤ 1000) :
    Calls Tryz.prog 59 #[.agg (encP r).toArray, v] w fun e w' => (∃ A s c, e = .returned (.slice A s.size c) ∧ OverR r k s ∧ RdI_R w'.heap.size w' A s ∧ s.size ≤ 1000) ∧ Below w.heap.size w w' := by
  have HOV : Hid (∀ s, OpenR k s → OverR r k (s.toList.filter fun x => overB r x).toArray) := fun s hs => over_of hc hs
  have HKO : Hid (∀ W, Below w.heap.size w W → Calls Tryz.prog 113 #[v] W fun e w' => (∃ A s c, e = .returned (.slice A s.size c) ∧ OpenR k s ∧ RdI_R w'.heap.size w' A s ∧ s.size ≤ k.ats.size ∧ OwnB W.heap.size w' A c s) ∧ Below W.heap.size W w') := fun W hb => kOpenB_any v k W (hk.below hb) (by omega)
  have HTS : Hid (∀ W, Below w.heap.size w W → Calls Tryz.prog 111 #[.slice r.e.A r.e.z.size r.e.c] W fun e w' => (∃ A' c', e = .returned (.slice A' (setlT r).size c') ∧ RdK encJ_T 1 w'.heap.size w' A' (setlT r)) ∧ Below W.heap.size W w') := fun W hb => tSetl_any r.e.A r.e.c r.e.z W (h.e.below hb).rd (by have := hf.es; omega)
  have H1 : Hid (∀ (W : World) (x : Int) (A : Option Addr) (c g1 g2 : Nat), Below w.heap.size w W → g1 < W.heap.size → W.cell? ⟨g1, 0, none⟩ = some (.slice A (setlT r).size c) → W.heap[g2]? = some (.cells (encP r).toArray 35 (0, 0)) → RdI_R W.heap.size W A (setlT r) → Calls Tryz.prog 114 #[.int .i64 x, .pointer (some ⟨g1, 0, none⟩), .pointer (some ⟨g2, 0, none⟩)] W fun e w' => e = .returned (.bool (!overB r x)) ∧ Below W.heap.size W w') :=
    fun W x A c g1 g2 hb a1 a2 a3 a4 => over1_any r x A c g1 g2 W a1 a2 a3 a4 (h.below hb) hf hd
  obtain ⟨cs, hcs⟩ : ∃ cs, cs = (encP r).toArray := ⟨_, rfl⟩
  have q7 : cs[7]? = some (.slice r.e.A r.e.z.size r.e.c) := by rw [hcs]; rfl
  have HQ7 := Lib.hid q7
  rw [← hcs] at H1 ⊢
  obtain ⟨base, rs, ats⟩ := k
  obtain ⟨A1, c1, A2, c2, rfl, k1, k2, n1, n2⟩ := hk
  generalize setlT r = sl at HTS H1
  clear h hf hd hc k1 k2 n1 n2 q7
  simp only [encP] at hcs
  rw [hcs]
  go_enter Tryz.func59, Tryz.ntmps59
  rw [← hcs]
  clear hcs
  have HX := Lib.hid (BoxG.fst w cs #[.int .i64 base, .slice A1 rs.size c1, .slice A2 ats.size c2] 35 53)
  have HY := Lib.hid (BoxG.snd w cs #[.int .i64 base, .slice A1 rs.size c1, .slice A2 ats.size c2] 35 53)
  have c7 := HX.out.at_ 7 HQ7.out
  go_wp2_with fail
  refine (HTS.out _ HX.out.b).mono ?_
  rintro _ w1 ⟨⟨A', c', rfl, hr⟩, hb⟩
  have HX1 := Lib.hid (HX.out.next hb)
  have HY1 := Lib.hid (HY.out.next hb)
  have HR1 := Lib.hid (rdJ_T hr)
  have z0 := HY1.out.at_ 0 (v := .int .i64 base) rfl
  have z1 := HY1.out.at_ 1 (v := .slice A1 rs.size c1) rfl
  have z2 := HY1.out.at_ 2 (v := .slice A2 ats.size c2) rfl
  have hlt1 := HX1.out.lt
  have hlt2 := HY1.out.lt
  clear hr hb c7
  go_wp2_with fail
  have HX2 := Lib.hid (HX1.out.next (bel1 w1 (.cells #[.slice A' sl.size c'] 26)))
  have HG2 : Hid ((w1.alloc (.cells #[.slice A' sl.size c'] 26)).heap[w1.heap.size]? = some (.cells #[.slice A' sl.size c'] 26 (0, 0))) := heap_alloc_new w1 _
  have HR2 := Lib.hid ((HR1.out.below (bel1 w1 (.cells #[.slice A' sl.size c'] 26))).mono (bel1 w1 (.cells #[.slice A' sl.size c'] 26)).size)
  refine (HKO.out _ HX2.out.b).mono ?_
  rintro _ w2 ⟨⟨A3, s3, c3, rfl, ho, hr3, hs3, hown⟩, hb⟩
  have HB2 := Lib.hid (HX2.out.next hb)
  have hg1 : w1.heap.size < (w1.alloc (.cells #[.slice A' sl.size c'] 26)).heap.size := by simp
  have hg2 : w.heap.size < (w1.alloc (.cells #[.slice A' sl.size c'] 26)).heap.size := by simp; omega
  have HD := Lib.hid (delJ_own (fun x => !overB r x) 114 #[.pointer (some ⟨w1.heap.size, 0, none⟩), .pointer (some ⟨w.heap.size, 0, none⟩)] (enters_of Tryz.func114 (by kernel_rfl) rfl) A3 c3 _ s3 w2
    (fun W x hW hWs ho ht hu => by
      have hbW : Below (w1.alloc (.cells #[.slice A' sl.size c'] 26)).heap.size (w1.alloc (.cells #[.slice A' sl.size c'] 26)) W := ⟨ho.trans hb.os, ht.trans hb.tape, hu.trans hb.output, hWs, fun i hi => (hW i hi).trans (hb.block i hi)⟩
      refine H1.out W x A' c' _ _ (belStep HX2.out.b hbW) (Nat.lt_of_lt_of_le hg1 hWs) ?_ ?_ ((HR2.out.below hbW).mono hWs)
      · rw [hbW.cell (p := ⟨w1.heap.size, 0, none⟩) hg1, cell_of_row _ _ 0 _ _ (0, 0) HG2.out]; rfl
      · exact (hbW.block _ hg2).trans HX2.out.row)
    hown hb.size (by omega))
  simp only [Bool.not_not] at HD
  have HBw := Lib.hid hb
  have HOV2 := Lib.hid (HOV.out s3 ho)
  have hs4 := List.length_filter_le (fun x => overB r x) s3.toList
  have HS4 : Hid ((s3.toList.filter fun x => overB r x).toArray.size ≤ 1000) := by
    show _ ≤ _
    simp at hs4 ⊢
    omega
  clear ho hr3 hs3 hown hb hs4 HKO HTS H1
  go_wp2_with fail
  refine HD.out.mono ?_
  rintro _ w3 ⟨rfl, hr4, hb⟩
  have HR4 := Lib.hid hr4
  have HB4 := Lib.hid hb
  clear hr4 hb
  go_wp2
  go_ret
  exact ⟨⟨A3, _, c3, rfl, HOV2.out, HR4.out, HS4.out⟩, belStep HX2.out.b (HBw.out.trans HB4.out)⟩
end Go.Proofs.YtnmojicfmcbgmaaGreat
