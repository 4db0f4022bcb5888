/- Contracts of the layer 'ranges': Add. -/
import Derived.Test.YtpnjodefnpphkaaRangesI
namespace Go.Proofs.Ytpnjodefnpphkaa
open Go.RowKit Go.Sort Go.Lib

def addsN (d1 d2 : Array (Int × Int)) : Nat → Array (Int × Int)
  | 0 => d1
  | k + 1 => (addsN d1 d2 k).push (heldR d2[k]!)
theorem addsN_size (d1 d2 : Array (Int × Int)) : ∀ k, (addsN d1 d2 k).size = d1.size + k
  | 0 => rfl
  | k + 1 => by simp [addsN, addsN_size d1 d2 k]; omega
/-- What the one form of ranges is, or what was there. -/
def Formed (m was out : Array (Int × Int)) : Prop := ∃ d', SortR m d' ∧ out = (if (formF (d'.toList.filter isR)).size ≤ 1000 then formF (d'.toList.filter isR) else was)
theorem addsN_ok {d1 d2 : Array (Int × Int)} (h : setE d1 = 0) : ∀ k, ∀ x ∈ addsN d1 d2 k, isR x = true → 1 ≤ x.1 ∧ x.1 ≤ x.2 ∧ x.2 ≤ 1000000
  | 0, x, hx, _ => by
    obtain ⟨i, hi, rfl⟩ := Array.mem_iff_getElem.1 (show x ∈ d1 from hx)
    have := ok_at h hi
    rw [getElem!_pos d1 i hi] at this
    omega
  | k + 1, x, hx, hr => by
    rcases Array.mem_push.1 hx with h' | rfl
    · exact addsN_ok h k x h' hr
    · unfold isR heldR at hr
      simp only [decide_eq_true_eq] at hr
      unfold heldR
      simp only
      omega
theorem own_below {w w' : World} {base : Nat} {e : TypeId} {size : Nat} {v : Value} {n : Nat} {xs : List Value} (h : w.ownsRow base e size v n xs) (hb : Below w.heap.size w w') : w'.ownsRow base e size v n xs :=
  ⟨h.1, h.2.imp id fun ⟨g, cap, cur, q1, q2, q3, q4⟩ => ⟨g, cap, cur, q1, q2, (hb.block g (Array.getElem?_eq_some_iff.1 q3).1).trans q3, q4⟩⟩
theorem own_app {w wr w1 : World} {o : Obj} {e : TypeId} {s n : Nat} {v : Value} {xs : List Value} (hb : Below w.heap.size w wr) (hown : wr.ownsRow w.heap.size e s v n xs) (hg : (wr.alloc o).grownBy w1 v.ownBlock) : Below w.heap.size w w1 :=
  (belAlloc hb o).grown hg (belAlloc hb o).size (fun k hk => (hown.lt k hk).1)
set_option maxRecDepth 100000 in
set_option maxHeartbeats 4000000 in
theorem gAdd_any (A1 : Option Addr) (c1 : Nat) (d1 : Array (Int × Int)) (A2 : Option Addr) (c2 : Nat) (d2 : Array (Int × Int)) (w : World) (h1 : RdK encR 2 w.heap.size w A1 d1) (h2 : RdK encR 2 w.heap.size w A2 d2) (hd2 : d2.size ≤ 100000) :
    Calls Try.prog 35 #[.slice A1 d1.size c1, .slice A2 d2.size c2] w fun e w' => ∃ v out, e = .returned v ∧ (setE d1 = 0 → Formed (addsN d1 d2 d2.size) d1 out) ∧ (setE d1 ≠ 0 → out = #[]) ∧ w'.ownsRow w.heap.size 42 2 v out.size (flatK encR 2 out).toList ∧ Below w.heap.size w w' := by
  by_cases hs : setE d1 = 0
  · have hq : (setE d1 == 0) = true := by simp [hs]
    have hd1 := (setE_all hs).1
    have HO := Lib.hid (fun k => addsN_ok (d2 := d2) hs k)
    have HS := Lib.hid hs
    obtain ⟨i0, hi0, hz0, hz1, hz2⟩ := info_parts range_info
    clear hs
    go_enter Try.func35, Try.ntmps35
    go_wp2_with fail
    refine (gmay_any _ _ d1 _ h1).mono ?_
    rintro e w1 ⟨rfl, hb1⟩
    have HC := Lib.hid (CloneR A1 c1 d1 w1 ((h1.below hb1).mono hb1.size) (by omega))
    go_wp2_with fail
    refine HC.out.mono ?_
    rintro e w2 ⟨v0, rfl, hown0, hb2⟩
    have hB2 : Below w.heap.size w w2 := belStep hb1 hb2
    have hown0' := own_mono hown0 hb1.size
    clear hown0 HC
    obtain ⟨A0, c0, rfl, _, _⟩ := rdK_of_owns hown0'
    go_wp2
    go_loopw [5, 15] (fun m i wr => ∃ k : Nat, k ≤ d2.size ∧ i = .int .i64 k ∧ wr.ownsRow w.heap.size 42 2 m (addsN d1 d2 k).size (flatK encR 2 (addsN d1 d2 k)).toList ∧ Below w.heap.size w wr) (fun _ i _ => d2.size - (intOf i).toNat)
    case atStart => exact ⟨0, Nat.zero_le _, rfl, hown0', hB2⟩
    case round =>
      obtain ⟨k, hk, rfl, hown, hb⟩ := hrel
      have ms : (addsN d1 d2 k).size ≤ d1.size + k := Nat.le_of_eq (addsN_size d1 d2 k)
      by_cases hlt : k < d2.size
      · obtain ⟨b, off, rfl, _, f⟩ := (h2.below hb).at_ hlt
        have f0 := f 0 (by omega)
        have f1 := f 1 (by omega)
        have HL : Hid (addsN d1 d2 (k + 1) = (addsN d1 d2 k).push (heldR d2[k]!)) := rfl
        generalize d2[k]! = x at f0 f1 HL
        simp only [Nat.add_zero, encR, List.getElem!_cons_zero, List.getElem!_cons_succ] at f0 f1
        clear f
        generalize addsN d1 d2 k = m at hown HL ms
        obtain ⟨Am, cm, rfl, _, _⟩ := rdK_of_owns hown
        have kz : (k : Int) < (d2.size : Int) := by omega
        go_wp2_with fail
        refine (held_any x _).mono ?_
        rintro e w3 ⟨rfl, hb3⟩
        have hb4 : Below w.heap.size w w3 := belStep (belAlloc hb _) hb3
        have hown3 := own_below (hown.alloc _) hb3
        have hz3 := hb4.size
        go_wp2_with (at_builtin; refine wpList_append_own _ rfl _ _ 33 rfl w.heap.size 42 i0 (.agg #[.int .i64 0, .int .i64 0]) 2 16 Try.underlying33 hi0 hz0 hz1 hz2 rfl (by decide) _ _ _ rfl (hown3.alloc _) ⟨w3.heap.size, 0, none⟩ 1 1 [.int .i64 (heldR x).1, .int .i64 (heldR x).2] rfl rfl (two_new w3 _ _ _) (by simp [Value.oneCell']) (by unfold maxLen; omega) (by omega) (by simp; omega) ?_; intro v' w4 hown' hgrow _)
        exact ⟨⟨k + 1, by omega, by go_num, (by rw [HL.out, Array.size_push, flatK_push encR_len]; exact hown'), own_app hb4 hown3 hgrow⟩, by simp [intOf]; omega⟩
      · obtain rfl : k = d2.size := by omega
        have HR := Lib.hid (HO.out d2.size)
        generalize hm : addsN d1 d2 d2.size = m at hown HR ms
        have HE := Lib.hid hm
        clear hm
        obtain ⟨Am, cm, rfl, hrm, _⟩ := rdK_of_owns hown
        have HF := Lib.hid (form_any Am cm m A1 c1 d1 wr hrm ((h1.below hb).mono hb.size) (by omega) (by omega) HR.out)
        go_wp2_with fail
        refine HF.out.mono ?_
        rintro e w5 ⟨d', v, out, rfl, hS, ho, hown5, hb5⟩
        have HX : Hid (Formed m d1 out) := ⟨d', hS, ho⟩
        clear hS ho
        go_wp2
        go_ret
        exact ⟨_, out, rfl, fun _ => by rw [HE.out]; exact HX.out, fun h => absurd HS.out h, own_mono hown5 hb.size, belStep hb hb5⟩
  · have hq : (setE d1 == 0) = false := by simpa using hs
    have HS := Lib.hid hs
    clear hs
    go_enter Try.func35, Try.ntmps35
    go_wp2_with fail
    refine (gmay_any _ _ d1 _ h1).mono ?_
    rintro e w1 ⟨rfl, hb1⟩
    go_wp2
    go_ret
    exact ⟨_, #[], rfl, fun h => absurd h HS.out, fun _ => rfl, nil_ownsK _ _ _ _ _, hb1⟩
end Go.Proofs.Ytpnjodefnpphkaa
