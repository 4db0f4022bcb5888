/- Flags, laid and read. -/
import Derived.Test.YtlpplnmmcgdooaaDoorWrt
import Derived.Test.YtlpplnmmcgdooaaDoorRdrB
import Derived.IntWalk
namespace Go.Proofs.YtlpplnmmcgdooaaDoor
open Go.RowKit Nb

attribute [local go_sem ↓] Go.wp_at_zero Go.wp_at_succ
set_option maxRecDepth 100000 in
theorem WFlag_any (B b : Nat) (l : List UInt8) (f : Bool) (w : World) (h : Wrt B b l w) (hl : l.length ≤ 900000000) (hB : B ≤ w.heap.size) :
    Calls Tryd.prog 40 #[.pointer (some ⟨b, 0, none⟩), .bool f] w fun e w' => e = .returned (.tuple #[]) ∧ Wrt B b (l ++ flagB f) w' ∧ Below B w w' ∧ KeepT b w w' := by
  cases f
  · have HW : Hid (∀ piece, Calls Tryd.prog 51 #[.pointer (some ⟨b, 0, none⟩), .string piece, .string ⟨#[0]⟩, .int .i64 0] w fun e w' => e = .returned (.tuple #[]) ∧ Wrt B b (l ++ flagB false) w' ∧ Below B w w' ∧ KeepT b w w') := fun piece => put_any B b l piece ⟨#[0]⟩ w h (by show l.length + 1 ≤ _; omega) hB
    clear h
    go_enter Tryd.func40, Tryd.ntmps40
    go_wp2_with (go_at_call 51; refine (HW.out _).mono ?_; rintro e w' ⟨rfl, h2, hb2, hk2⟩; have H2 := Lib.hid h2; have HB2 := Lib.hid hb2; have HK2 := Lib.hid hk2; clear h2 hb2 hk2)
    go_end0
    exact ⟨rfl, H2.out, HB2.out, HK2.out⟩
  · have HW : Hid (∀ piece, Calls Tryd.prog 51 #[.pointer (some ⟨b, 0, none⟩), .string piece, .string ⟨#[1]⟩, .int .i64 0] w fun e w' => e = .returned (.tuple #[]) ∧ Wrt B b (l ++ flagB true) w' ∧ Below B w w' ∧ KeepT b w w') := fun piece => put_any B b l piece ⟨#[1]⟩ w h (by show l.length + 1 ≤ _; omega) hB
    clear h
    go_enter Tryd.func40, Tryd.ntmps40
    go_wp2_with (go_at_call 51; refine (HW.out _).mono ?_; rintro e w' ⟨rfl, h2, hb2, hk2⟩; have H2 := Lib.hid h2; have HB2 := Lib.hid hb2; have HK2 := Lib.hid hk2; clear h2 hb2 hk2)
    go_end0
    exact ⟨rfl, H2.out, HB2.out, HK2.out⟩
theorem flagR_end {s : List UInt8} {r : RS} (hr : r.e = 0) (h : s.length ≤ r.pos) : flagR s r = (⟨r.pos, 4⟩, false) := by
  unfold flagR; rw [if_neg (by simp [hr]), List.drop_eq_nil_of_le h]
theorem drop_atF (s : ByteArray) (p : Nat) (h : p < s.size) : s.data.toList.drop p = s[p] :: s.data.toList.drop (p + 1) := by
  rw [List.drop_eq_getElem_cons (by simpa using h)]; rfl
theorem flagR_form {s : ByteArray} {r : RS} (hr : r.e = 0) (h : r.pos < s.size) (hb : 1 < s[r.pos].toNat) : flagR s.data.toList r = (⟨r.pos, 5⟩, false) := by
  unfold flagR; rw [if_neg (by simp [hr]), drop_atF s _ h]; simp only; rw [if_pos hb]
theorem flagR_fit {s : ByteArray} {r : RS} (hr : r.e = 0) (h : r.pos < s.size) (hb : ¬ 1 < s[r.pos].toNat) : flagR s.data.toList r = (⟨r.pos + 1, 0⟩, s[r.pos].toNat == 1) := by
  unfold flagR; rw [if_neg (by simp [hr]), drop_atF s _ h]; simp only; rw [if_neg hb]
set_option maxRecDepth 100000 in
set_option maxHeartbeats 4000000 in
theorem RFlag_any (b : Nat) (s : ByteArray) (r : RS) (w : World) (h : Rdr b s r w) (hg : Glob w) (hs : s.size ≤ 1000000) :
    Calls Tryd.prog 43 #[.pointer (some ⟨b, 0, none⟩)] w fun e w' => e = .returned (.bool (flagR s.data.toList r).2) ∧ RPost b s (flagR s.data.toList r).1 w w' := by
  have HG := Lib.hid (goes_any b s r w h hg)
  have H := Lib.hid h
  have hsl : s.data.toList.length = s.size := by simp
  clear h hg
  by_cases he : r.e = 0
  · have e0 : (r.e == 0) = true := by simp [he]
    rw [e0] at HG
    have HE := Lib.hid he
    have hp := H.out.pos_le
    clear e0 he
    go_enter Tryd.func43, Tryd.ntmps43
    go_wp2_with fail
    refine HG.out.mono ?_
    rintro e w1 ⟨rfl, hb1⟩
    have h1 := H.out.below hb1
    have HH1 := Lib.hid h1
    have HB1 := Lib.hid hb1
    obtain ⟨ev, hE⟩ := h1
    obtain ⟨c0, c1, _, _⟩ := hE.cells
    have hlt : b < w1.heap.size := lt_of_heap hE.2.1
    clear hE hb1
    by_cases hps : r.pos = s.size
    · have e1 : ((r.pos : Int) == (s.size : Int)) = true := by simp [hps]
      have e2 : (r.pos == s.size) = true := by simp [hps]
      have HNR : Hid (flagR s.data.toList r = (⟨r.pos, 4⟩, false)) := flagR_end HE.out (by omega)
      have HPS := Lib.hid hps
      clear hps hsl
      go_wp2_with fail
      go_quiet (fail)
      go_wp2_with fail
      generalize hw2 : World.drewN w1 _ = w2
      have hb2 : Below w1.heap.size w1 w2 := by rw [← hw2]; exact belDrewN (Below.refl _ _) _
      have HH2 := Lib.hid (HH1.out.below hb2)
      have HB2 := Lib.hid (belStep HB1.out hb2)
      have HD : Hid (∀ (piece : ByteArray) (z : Int), Calls Tryd.prog 69 #[.pointer (some ⟨b, 0, none⟩), .string piece, .int .i64 z, .int .i64 4] w2 fun e w'' => e = .returned (.bool false) ∧ RPost b s ⟨r.pos, 4⟩ w2 w'') := fun piece z => doneBad_any b 4 z s piece r w2 HH2.out (by omega)
      clear hb2 hw2
      refine (HD.out _ _).mono ?_
      rintro e w3 ⟨rfl, hP⟩
      have HP := Lib.hid hP
      clear hP
      go_wp2
      go_ret
      rw [HNR.out]
      exact ⟨rfl, RPost.after HB2.out HP.out⟩
    · have e1 : ((r.pos : Int) == (s.size : Int)) = false := by simp; omega
      have e2 : (r.pos == s.size) = false := by simp; omega
      have hlt2 : r.pos < s.size := by omega
      have kz : (r.pos : Int) < (s.size : Int) := by omega
      have k0 : (0 : Int) ≤ (r.pos : Int) := by omega
      clear hps hsl
      by_cases hx : 1 < s[r.pos].toNat
      · have HNR := Lib.hid (flagR_form HE.out hlt2 hx)
        have hx1 : decide (1 < (s[r.pos].toNat : Int)) = true := by simp; omega
        clear hx
        go_wp2_with fail
        go_quiet (fail)
        go_wp2_with fail
        go_quiet (fail)
        go_wp2_with fail
        generalize hw2 : World.drewN w1 _ = w2
        have hb2 : Below w1.heap.size w1 w2 := by rw [← hw2]; exact belDrewN (Below.refl _ _) _
        have HH2 := Lib.hid (HH1.out.below hb2)
        have HB2 := Lib.hid (belStep HB1.out hb2)
        have HD : Hid (∀ (piece : ByteArray) (z : Int), Calls Tryd.prog 69 #[.pointer (some ⟨b, 0, none⟩), .string piece, .int .i64 z, .int .i64 5] w2 fun e w'' => e = .returned (.bool false) ∧ RPost b s ⟨r.pos, 5⟩ w2 w'') := fun piece z => doneBad_any b 5 z s piece r w2 HH2.out (by omega)
        clear hb2 hw2
        refine (HD.out _ _).mono ?_
        rintro e w3 ⟨rfl, hP⟩
        have HP := Lib.hid hP
        clear hP
        go_wp2
        go_ret
        rw [HNR.out]
        exact ⟨rfl, RPost.after HB2.out HP.out⟩
      · have HNR := Lib.hid (flagR_fit HE.out hlt2 hx)
        have hx1 : decide (1 < (s[r.pos].toNat : Int)) = false := by simp; omega
        clear hx
        go_wp2_with fail
        go_quiet (fail)
        go_wp2_with fail
        go_quiet (fail)
        go_wp2_with fail
        generalize hw2 : World.drewN w1 _ = w2
        have hb2 : Below w1.heap.size w1 w2 := by rw [← hw2]; exact belDrewN (Below.refl _ _) _
        have HH2 := Lib.hid (HH1.out.below hb2)
        have HB2 := Lib.hid (belStep HB1.out hb2)
        obtain ⟨ev2, hE2⟩ := HH2.out
        obtain ⟨d0, d1, _, _⟩ := hE2.cells
        clear hb2 hw2 hE2 c0 c1
        have HD : Hid (∀ (piece : ByteArray) (W : World), Rdr b s r W → Calls Tryd.prog 69 #[.pointer (some ⟨b, 0, none⟩), .string piece, .int .i64 ((r.pos : Int) + 1), .int .i64 0] W fun e w'' => e = .returned (.bool true) ∧ RPost b s ⟨r.pos + 1, 0⟩ W w'') := fun piece W hW => doneOk_any b (r.pos + 1) s piece r W hW HE.out (by omega)
        have wr1 : IntKind.i64.wrap ((r.pos : Int) + 1) = (r.pos : Int) + 1 := IntWalk.i64_in _ (by omega)
        have wr2 : IntKind.i64.wrap ((r.pos : Int) + 1 - 1) = (r.pos : Int) := by rw [IntWalk.i64_in _ (by omega)]; omega
        have wr3 : IntKind.i64.wrap (r.pos : Int) = (r.pos : Int) := IntWalk.i64_in _ (by omega)
        have kz : (r.pos : Int) < (s.size : Int) := by omega
        go_region_with (go_at_call 69; refine (HD.out _ _ (HH2.out.below (belDrewN (Below.refl _ _) _))).mono ?_; rintro e w3 ⟨rfl, hP⟩; have hE3 := hP.1; have HP := Lib.hid hP; obtain ⟨ev3, hE3⟩ := hE3; obtain ⟨f0, f1', _, _⟩ := hE3.cells; have f1 : w3.cell? ⟨b, 1, none⟩ = some (.int .i64 ((r.pos : Int) + 1)) := (by rw [f1']; simp); clear f1' hE3 hP)
        all_goals
          go_wp2
          go_ret
          rw [HNR.out]
          refine ⟨ret_bool ?_, RPost.after (belDrewN HB2.out _) HP.out⟩
          first | rfl | (rw [Bool.eq_iff_iff]; simp; done) | (rw [Bool.eq_iff_iff]; simp; omega)
  · have e0 : (r.e == 0) = false := by simp [he]
    rw [e0] at HG
    have HNR : Hid (flagR s.data.toList r = (r, false)) := flagR_bad he
    clear e0 he
    go_enter Tryd.func43, Tryd.ntmps43
    go_wp2_with (go_at_call 67; refine HG.out.mono ?_; rintro e w1 ⟨rfl, hb1⟩; have HB1 := Lib.hid hb1; clear hb1)
    go_ret
    rw [HNR.out]
    exact ⟨rfl, RPost.of_below H.out HB1.out⟩
end Go.Proofs.YtlpplnmmcgdooaaDoor
