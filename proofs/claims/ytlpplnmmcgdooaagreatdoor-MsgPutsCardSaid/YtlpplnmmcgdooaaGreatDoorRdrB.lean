/- text.Reader: rows, the end, the fault. -/
import Derived.Test.YtlpplnmmcgdooaaGreatDoorRdr
import Derived.Deep.RegionHeld3
import Derived.Deep.DrawnRows
namespace Go.Proofs.YtlpplnmmcgdooaaGreatDoor
open Go.RowKit Nb

attribute [local go_sem ↓] Go.wp_at_zero Go.wp_at_succ
/-- What Row leaves. -/
def RRowP (b : Nat) (s : ByteArray) (r : RS × List Nat) (w : World) (e : Ending) (w' : World) : Prop :=
  ∃ A cp, e = .returned (.slice A r.2.length cp) ∧ RdI w'.heap.size w' A (ints r.2) ∧ (A = none → cp = 0) ∧ (∀ a, A = some a → w.heap.size ≤ a.block) ∧ RPost b s r.1 w w'
theorem RRowP.nil {b : Nat} {s : ByteArray} {r : RS} {w w' : World} (h : RPost b s r w w') : RRowP b s (r, []) w (.returned (.slice none 0 0)) w' :=
  ⟨none, 0, rfl, RdI.none_, (fun _ => rfl), (fun _ h => by cases h), h⟩
set_option maxRecDepth 100000 in
set_option maxHeartbeats 4000000 in
theorem RRow_any (b : Nat) (s : ByteArray) (r : RS) (most : Nat) (w : World) (h : Rdr b s r w) (hg : Glob w) (hs : s.size ≤ 1000000) (hm : most ≤ 1000) :
    Calls Tryz.prog 94 #[.pointer (some ⟨b, 0, none⟩), .int .i64 most] w fun e w' => RRowP b s (rowR s.data.toList most r) w e w' := by
  have HG := Lib.hid (goes_any b s r w h hg)
  have H := Lib.hid h
  clear h hg
  by_cases he : r.e = 0
  · have e0 : (r.e == 0) = true := by simp [he]
    rw [e0] at HG
    have HE := Lib.hid he
    have hp := H.out.pos_le
    clear e0 he
    go_enter Tryz.func94, Tryz.ntmps94
    go_wp2_with fail
    refine HG.out.mono ?_
    rintro e w1 ⟨rfl, hb1⟩
    have h1 := H.out.below hb1
    have HH1 := Lib.hid h1
    have HB1 := Lib.hid hb1
    obtain ⟨ev, hE⟩ := h1
    obtain ⟨c0, c1, _, _⟩ := hE.cells
    have hlt : b < w1.heap.size := lt_of_heap hE.2.1
    have HU := Lib.hid (fun W => Unrow_any s r.pos most W hp hs hm)
    clear hb1
    cases hun : unrow (s.data.toList.drop r.pos) most with
    | no c =>
      have hc := unrow_no hun
      have HNR := Lib.hid (rowR_no HE.out hun)
      rw [hun] at HU
      have hc0 : ((c : Int) != 0) = true := by simp; omega
      have hc1 : c ≠ 0 := by omega
      have HC1 := Lib.hid hc1
      have q0 : ∀ p : ExtW w1, p.to.cell? ⟨b, 0, none⟩ = some (.string s) := fun p => (p.h.cell (p := ⟨b, 0, none⟩) hlt).trans c0
      have q1 : ∀ p : ExtW w1, p.to.cell? ⟨b, 1, none⟩ = some (.int .i64 (r.pos : Int)) := fun p => (p.h.cell (p := ⟨b, 1, none⟩) hlt).trans c1
      have HGE := Lib.hid (fun W => (HU.out W).mono (fun e w' (h : UnR r.pos W (.no c) e w') => (⟨h.2, h.1⟩ : e = .returned (.tuple #[.slice none 0 0, .int .i64 0, .int .i64 (c : Int)]) ∧ Below W.heap.size W w')))
      clear hun hc hc1 hE c0 c1
      go_wp2_with fail
      refine wp_region_ext (by kernel_rfl) (by kernel_rfl) ?_
      repeat (first | go_big_quiet_step ((go_at_call 113; exact Calls.ext_of (HGE.out _))) | quiet_step ((go_at_call 113; exact Calls.ext_of (HGE.out _))))
      refine wpQuiet_nil ?_
      intro w' hw'
      obtain ⟨⟨W, hbW⟩, hw''⟩ := hw'
      have hw3 : w' = W := hw''
      subst hw3
      have HH2 := Lib.hid (HH1.out.below hbW)
      have HB2 := Lib.hid (belStep HB1.out hbW)
      clear hbW hw''
      have HD := Lib.hid (fun (piece : ByteArray) (z : Int) => doneBad_any b c z s piece r w' HH2.out HC1.out)
      go_wp2_with (go_at_call 102; (with_reducible refine (HD.out _ _).mono ?_); rintro e w' ⟨rfl, hP⟩; have HP := Lib.hid hP; clear hP)
      go_ret
      rw [HNR.out]
      exact RRowP.nil (RPost.after HB2.out HP.out)
    | ok l k =>
      have hk := (unrow_ok hun).1
      have hk2 : r.pos + k ≤ s.size := by rw [List.length_drop] at hk; simp at hk; omega
      have HNR := Lib.hid (rowR_fit HE.out hun)
      rw [hun] at HU
      obtain ⟨q, hq⟩ : ∃ q, r.pos + k = q := ⟨_, rfl⟩
      have HGE : Hid (∀ W, Calls Tryz.prog 113 #[.string s, .int .i64 r.pos, .int .i64 most] W fun e w' => Below W.heap.size W w' ∧ ∃ A cp, e = .returned (.tuple #[.slice A l.length cp, .int .i64 (q : Int), .int .i64 0]) ∧ RdI w'.heap.size w' A (ints l) ∧ (A = none → cp = 0) ∧ (∀ a, A = some a → W.heap.size ≤ a.block)) := by
        intro W
        refine (HU.out W).mono ?_
        rintro e w' ⟨h1, A, cp, h2, h3, h4, h5⟩
        rw [hq] at h2
        exact ⟨h1, A, cp, h2, h3, h4, h5⟩
      rw [hq] at HNR hk2
      have z0 := c0
      have z1 := c1
      clear hun hk hq hE HU
      go_wp2_with fail
      go_region_held3 (fun w' => w'.cell? ⟨b, 0, none⟩ = some (.string s) ∧ w'.cell? ⟨b, 1, none⟩ = some (.int .i64 (r.pos : Int))) (first | exact ⟨z0, z1⟩)
        ((go_at_call 113; refine (HGE.out _).mono ?_; rintro e w2 ⟨hb2, A, cp, rfl, hrd, hnil, hlo⟩; have z0 : w2.cell? ⟨b, 0, none⟩ = some (.string s) := (hb2.cell (p := ⟨b, 0, none⟩) hlt).trans c0; have z1 : w2.cell? ⟨b, 1, none⟩ = some (.int .i64 (r.pos : Int)) := (hb2.cell (p := ⟨b, 1, none⟩) hlt).trans c1))
      have hb3 : Below w1.heap.size w1 w2 := ((Below.refl _ _).drew).trans hb2
      have HH2 := Lib.hid (HH1.out.below hb3)
      have HB2 := Lib.hid (belStep HB1.out hb3)
      have HRD := Lib.hid hrd
      have HNI := Lib.hid hnil
      have HLO : Hid (∀ a, A = some a → w1.heap.size ≤ a.block) := hlo
      have HSZ1 := Lib.hid HB1.out.size
      have HD := Lib.hid (fun (piece : ByteArray) => doneOk_any b q s piece r w2 HH2.out HE.out hk2)
      clear hb3 hb2 hrd hnil hlo z0 z1 c0 c1
      go_wp2_with (go_at_call 102; (with_reducible refine (HD.out _).mono ?_); rintro e w3 ⟨rfl, hP⟩; have HP := Lib.hid hP; clear hP)
      go_ret
      rw [HNR.out]
      exact ⟨A, cp, rfl, HRD.out.grown HP.out.2 (fun a ha => by have := HLO.out a ha; omega), HNI.out, (fun a ha => Nat.le_trans HSZ1.out (HLO.out a ha)), RPost.after HB2.out HP.out⟩
  · have e0 : (r.e == 0) = false := by simp [he]
    rw [e0] at HG
    have HNR : Hid (rowR s.data.toList most r = (r, [])) := rowR_bad he
    clear e0 he
    go_enter Tryz.func94, Tryz.ntmps94
    go_wp2_with (go_at_call 100; refine HG.out.mono ?_; rintro e w1 ⟨rfl, hb1⟩; have HB1 := Lib.hid hb1; clear hb1)
    go_ret
    rw [HNR.out]
    exact RRowP.nil (RPost.of_below H.out HB1.out)
set_option maxRecDepth 100000 in
set_option maxHeartbeats 4000000 in
theorem REnd_any (b : Nat) (s : ByteArray) (r : RS) (w : World) (h : Rdr b s r w) (hg : Glob w) :
    Calls Tryz.prog 72 #[.pointer (some ⟨b, 0, none⟩)] w fun e w' => e = .returned (.tuple #[]) ∧ RPost b s (endR s.data.toList r) w w' := by
  have HG := Lib.hid (fun p : ExtW w => goes_any b s r p.to (h.below p.h) (hg.below p.h))
  have H := Lib.hid h
  obtain ⟨ev, hE⟩ := h
  obtain ⟨c0, c1, _, _⟩ := hE.cells
  have hlt : b < w.heap.size := lt_of_heap hE.2.1
  have q0 : ∀ p : ExtW w, p.to.cell? ⟨b, 0, none⟩ = some (.string s) := fun p => (p.h.cell (p := ⟨b, 0, none⟩) hlt).trans c0
  have q1 : ∀ p : ExtW w, p.to.cell? ⟨b, 1, none⟩ = some (.int .i64 (r.pos : Int)) := fun p => (p.h.cell (p := ⟨b, 1, none⟩) hlt).trans c1
  have hsl : s.data.toList.length = s.size := by simp
  clear hg hE c0 c1
  by_cases he : r.e = 0
  · have e0 : (r.e == 0) = true := by simp [he]
    rw [e0] at HG
    by_cases hps : r.pos < s.size
    · have hz : decide ((r.pos : Int) < (s.size : Int)) = true := by simp; omega
      have HNR : Hid (endR s.data.toList r = ⟨r.pos, 6⟩) := by show _ = _; unfold endR; rw [hsl, if_pos ⟨he, hps⟩]
      clear e0 he hsl
      go_enter Tryz.func72, Tryz.ntmps72
      go_wp2_with fail
      refine wp_region_ext (by kernel_rfl) (by kernel_rfl) ?_
      repeat (first | go_big_quiet_step ((go_at_call 100; exact Calls.ext_of (HG.out _))) | quiet_step ((go_at_call 100; exact Calls.ext_of (HG.out _))))
      refine wpQuiet_nil ?_
      intro w' hw'
      obtain ⟨⟨W, hbW⟩, hw''⟩ := hw'
      have hw3 : w' = W := hw''
      subst hw3
      have HH2 := Lib.hid (H.out.below hbW)
      have HB2 := Lib.hid hbW
      clear hbW hw''
      have HD : Hid (∀ (piece : ByteArray) (z : Int), Calls Tryz.prog 102 #[.pointer (some ⟨b, 0, none⟩), .string piece, .int .i64 z, .int .i64 6] w' fun e w'' => e = .returned (.bool false) ∧ RPost b s ⟨r.pos, 6⟩ w' w'') := fun piece z => doneBad_any b 6 z s piece r w' HH2.out (by omega)
      go_wp2_with (go_at_call 102; (with_reducible refine (HD.out _ _).mono ?_); rintro e w' ⟨rfl, hP⟩; have HP := Lib.hid hP; clear hP)
      go_end0
      rw [HNR.out]
      exact ⟨rfl, RPost.after HB2.out HP.out⟩
    · have hz : decide ((r.pos : Int) < (s.size : Int)) = false := by simp; omega
      have hz2 : decide (r.pos < s.size) = false := by simp; omega
      have HNR : Hid (endR s.data.toList r = r) := by show _ = _; unfold endR; rw [hsl, if_neg (fun h => hps h.2)]
      clear e0 he hsl hps
      go_enter Tryz.func72, Tryz.ntmps72
      go_wp2_with fail
      refine wp_region_ext (by kernel_rfl) (by kernel_rfl) ?_
      repeat (first | go_big_quiet_step ((go_at_call 100; exact Calls.ext_of (HG.out _))) | quiet_step ((go_at_call 100; exact Calls.ext_of (HG.out _))))
      refine wpQuiet_nil ?_
      intro w' hw'
      obtain ⟨⟨W, hbW⟩, hw''⟩ := hw'
      have hw3 : w' = W := hw''
      subst hw3
      have HB2 := Lib.hid hbW
      clear hbW hw''
      go_wp2
      go_end0
      rw [HNR.out]
      exact ⟨rfl, RPost.of_below H.out HB2.out⟩
  · have e0 : (r.e == 0) = false := by simp [he]
    rw [e0] at HG
    have HNR : Hid (endR s.data.toList r = r) := by show _ = _; unfold endR; rw [if_neg (fun h => he h.1)]
    clear e0 he hsl
    go_enter Tryz.func72, Tryz.ntmps72
    go_wp2_with fail
    refine wp_region_ext (by kernel_rfl) (by kernel_rfl) ?_
    repeat (first | go_big_quiet_step ((go_at_call 100; exact Calls.ext_of (HG.out _))) | quiet_step ((go_at_call 100; exact Calls.ext_of (HG.out _))))
    refine wpQuiet_nil ?_
    intro w' hw'
    obtain ⟨⟨W, hbW⟩, hw''⟩ := hw'
    have hw3 : w' = W := hw''
    subst hw3
    have HB2 := Lib.hid hbW
    clear hbW hw''
    go_wp2
    go_end0
    rw [HNR.out]
    exact ⟨rfl, RPost.of_below H.out HB2.out⟩
/-- What Done tells. -/
def FaultV (w : World) (c : Nat) (ev : Value) : Prop := (c = 0 ∧ ev = .nilIface) ∨ (c ≠ 0 ∧ ∃ op ops, ops.length ≤ 5 ∧ Chain w (op :: ops) (c : Int) ev)
theorem RDone_any (b : Nat) (s : ByteArray) (r : RS) (w : World) (h : Rdr b s r w) :
    Calls Tryz.prog 59 #[.pointer (some ⟨b, 0, none⟩)] w fun e w' => ∃ ev, e = .returned ev ∧ FaultV w r.e ev ∧ w = w' := by
  obtain ⟨ev, hE⟩ := h
  obtain ⟨c0, c1, c2, c3⟩ := hE.cells
  have HF : Hid (FaultV w r.e ev) := hE.2.2
  clear hE
  go_enter Tryz.func59, Tryz.ntmps59
  go_wp2
  go_ret
  exact ⟨_, rfl, HF.out, rfl⟩
end Go.Proofs.YtlpplnmmcgdooaaGreatDoor
