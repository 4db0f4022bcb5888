/- record.Event, record.Check: the program's. -/
import Derived.Test.YtlpplnmmcgdooaaDoorRecP
import Derived.Test.YtlpplnmmcgdooaaDoorMsgT
import Derived.Test.YtlpplnmmcgdooaaDoorFew
import Derived.Test.YtlpplnmmcgdooaaDoorSame
import Derived.Deep.CutRange
import Derived.Deep.CutBlock
namespace Go.Proofs.YtlpplnmmcgdooaaDoor
open Go.RowKit Go.Sort Nb

def recV (r : PR) : Value := .agg #[.int .i64 r.ep, .int .i64 r.sq, .bool r.sn, .int .i64 r.k, .string r.dt, .string r.st]
/-- The bytes of 'event', of 'record'. -/
def eventW : ByteArray := ⟨#[101, 118, 101, 110, 116]⟩
def recordW : ByteArray := ⟨#[114, 101, 99, 111, 114, 100]⟩
/-- A code, told as an error. -/
def ErP (op : ByteArray) (c : Nat) (e : Ending) (w' : World) : Prop := ∃ v, e = .returned v ∧ ErrV w' (if c = 0 then [] else [op]) (c : Int) v
theorem erp_ok (op : ByteArray) (w' : World) : ErP op 0 (.returned .nilIface) w' := ⟨_, rfl, Or.inl ⟨rfl, by simp, rfl⟩⟩
theorem erp_bad {op : ByteArray} {c : Nat} {d : Int} {v : Value} {w' : World} (hd : d = c) (hc : c ≠ 0) (h : Chain w' [op] d v) : ErP op c (.returned v) w' := ⟨v, rfl, Or.inr ⟨by omega, by rw [if_neg hc, ← hd]; exact h⟩⟩
theorem evGuard : Tryd.prog.eqGuardType Tryd.prog.depth 40 = false := by kernel_rfl
theorem eqEv_run (k k' : Int) (d d' : ByteArray) (w : World) : (binOp .eql 40 (.agg #[.int .i64 k, .string d]) (.agg #[.int .i64 k', .string d'])).run Tryd.prog w = .ok (.bool (decide (k = k') && decide (d = d'))) w := by
  have hS : Tryd.prog.underlying 40 = some (.struct (Tryd.prog.fieldsOf 40)) := by kernel_rfl
  have hp : Tryd.prog.stoodInHeld 40 = false := by kernel_rfl
  have u3 := Tryd.underlying3
  have u9 := Tryd.underlying9
  rw [run_eql_struct, show (10000 : Nat) = 9999 + 1 from rfl, run_equalIn_agg w 9999 40 _ _ hS hp]
  simp only [Program.fieldsOf, Tryd.underlying40]
  go_simp
  have hdd : (d.toList = d'.toList) ↔ d = d' := by
    rw [Lib.toList_data, Lib.toList_data]
    obtain ⟨⟨x⟩⟩ := d
    obtain ⟨⟨y⟩⟩ := d'
    simp
  by_cases h1 : k = k' <;> by_cases h2 : d = d' <;> simp [h1, h2, hdd]
theorem errNilR {w : World} {ops : List ByteArray} {v : Value} (h : ErrV w ops 0 v) : v = .nilIface := by
  rcases h with ⟨_, _, h⟩ | ⟨h, _⟩
  · exact h
  · exact absurd rfl h
theorem sz0 {d : ByteArray} : d.toList.isEmpty = decide (d.size = 0) := by
  rw [Lib.toList_data]
  obtain ⟨⟨x⟩⟩ := d
  rw [Bool.eq_iff_iff]
  simp [ByteArray.size]
set_option maxRecDepth 100000 in
set_option maxHeartbeats 1000000 in
theorem evt_any (k : Int) (d : ByteArray) (w : World) (hg : Glob w) (hd : d.size ≤ 1000000) :
    Calls Tryd.prog 39 #[.agg #[.int .i64 k, .string d]] w fun e w' => ErP eventW (evC k d) e w' ∧ Below w.heap.size w w' := by
  have HN2 : Hid (∀ W : World, Calls Tryd.prog 28 #[.string ⟨#[101, 118, 101, 110, 116]⟩, .int .i64 2] W fun e w' => ∃ v, e = .returned v ∧ Chain w' [eventW] 2 v ∧ Below W.heap.size W w') := fun W => New_any eventW 2 W (by omega)
  have HN30 : Hid (∀ W : World, Calls Tryd.prog 28 #[.string ⟨#[101, 118, 101, 110, 116]⟩, .int .i64 30] W fun e w' => ∃ v, e = .returned v ∧ Chain w' [eventW] 30 v ∧ Below W.heap.size W w') := fun W => New_any eventW 30 W (by omega)
  have HE : Hid (evC k d = if k = 1 then (if d.size ≤ 300 then 0 else 2) else if k = 2 then (if takeC d.data.toList = 0 then 0 else 2) else if k = 3 then (if d.size = 0 then 0 else 2) else 30) := rfl
  generalize evC k d = c at HE ⊢
  by_cases h1 : k = 1
  · subst h1
    rw [if_pos rfl] at HE
    clear hg
    by_cases h3 : d.size ≤ 300
    · rw [if_pos h3] at HE
      have h3' : decide ((d.size : Int) ≤ 300) = true := by simp; omega
      clear h3
      go_enter Tryd.func39, Tryd.ntmps39
      go_wp2
      go_ret
      rw [HE.out]
      exact ⟨erp_ok _ _, bel1 w _⟩
    · rw [if_neg h3] at HE
      have h3' : decide ((d.size : Int) ≤ 300) = false := by simp; omega
      clear h3
      go_enter Tryd.func39, Tryd.ntmps39
      go_wp2_with (go_at_call 28; refine (HN2.out _).mono ?_; rintro e w1 ⟨v, rfl, hch, hb1⟩; have HCH := Lib.hid hch; have HB1 := Lib.hid (belStep (bel1 w _) hb1); clear hch hb1)
      go_ret
      rw [HE.out]
      exact ⟨erp_bad rfl (by omega) HCH.out, HB1.out⟩
  · rw [if_neg h1] at HE
    have h1' : (k == 1) = false := by simpa using h1
    clear h1
    by_cases h2 : k = 2
    · subst h2
      rw [if_pos rfl] at HE
      have HTK := Lib.hid (fun (W : World) (hb : Below w.heap.size w W) => mTake_any d W (hg.below hb) hd)
      clear hg h1'
      go_enter Tryd.func39, Tryd.ntmps39
      go_wp2_with fail
      refine (HTK.out _ (bel1 w _)).mono ?_
      rintro e w1 ⟨⟨m, v1, ops1, rfl, -, hev, -, -, -⟩, hb1⟩
      have HB1 := Lib.hid (belStep (bel1 w _) hb1)
      clear hb1
      obtain ⟨t, ht⟩ : ∃ t, takeC d.data.toList = t := ⟨_, rfl⟩
      rw [ht] at HE hev
      clear ht
      unfold msgV
      by_cases h0 : t = 0
      · subst h0
        have hv1 := errNilR hev
        subst hv1
        rw [if_pos rfl] at HE
        clear hev
        go_wp2
        go_ret
        rw [HE.out]
        exact ⟨erp_ok _ _, belAlloc HB1.out _⟩
      · rw [if_neg h0] at HE
        obtain ⟨t1, u1, rfl⟩ : ∃ t u, v1 = .iface t u := by
          rcases hev with ⟨h, -⟩ | ⟨-, h⟩
          · omega
          · exact chain_iface h
        clear hev h0
        go_wp2_with (go_at_call 28; refine (HN2.out _).mono ?_; rintro e w1 ⟨v, rfl, hch, hb1⟩; have HCH := Lib.hid hch; have HB2 := Lib.hid (belStep (belAlloc HB1.out _) hb1); clear hch hb1)
        go_ret
        rw [HE.out]
        exact ⟨erp_bad rfl (by omega) HCH.out, HB2.out⟩
    · rw [if_neg h2] at HE
      have h2' : (k == 2) = false := by simpa using h2
      clear h2 hg
      by_cases h3 : k = 3
      · subst h3
        rw [if_pos rfl] at HE
        clear h1' h2'
        by_cases h4 : d.size = 0
        · rw [if_pos h4] at HE
          have h4' : d.toList.isEmpty = true := by rw [sz0]; simpa using h4
          clear h4
          go_enter Tryd.func39, Tryd.ntmps39
          go_wp2
          go_ret
          rw [HE.out]
          exact ⟨erp_ok _ _, bel1 w _⟩
        · rw [if_neg h4] at HE
          have h4' : d.toList.isEmpty = false := by rw [sz0]; simpa using h4
          clear h4
          go_enter Tryd.func39, Tryd.ntmps39
          go_wp2_with (go_at_call 28; refine (HN2.out _).mono ?_; rintro e w1 ⟨v, rfl, hch, hb1⟩; have HCH := Lib.hid hch; have HB1 := Lib.hid (belStep (bel1 w _) hb1); clear hch hb1)
          go_ret
          rw [HE.out]
          exact ⟨erp_bad rfl (by omega) HCH.out, HB1.out⟩
      · rw [if_neg h3] at HE
        have h3' : (k == 3) = false := by simpa using h3
        clear h3
        go_enter Tryd.func39, Tryd.ntmps39
        go_wp2_with (go_at_call 28; refine (HN30.out _).mono ?_; rintro e w1 ⟨v, rfl, hch, hb1⟩; have HCH := Lib.hid hch; have HB1 := Lib.hid (belStep (bel1 w _) hb1); clear hch hb1)
        go_ret
        rw [HE.out]
        exact ⟨erp_bad rfl (by omega) HCH.out, HB1.out⟩
end Go.Proofs.YtlpplnmmcgdooaaDoor
