/- The document's readers (rubatoref06), as plain data. -/
import Derived.Test.YtlpplnmmcgdooaaGreatDoorRowB
namespace Go.Proofs.YtlpplnmmcgdooaaGreatDoor
open Go.RowKit Nb

/-- A reader of the document's: its four cells. -/
def inV (s : ByteArray) (r : RS) (pc : ByteArray) : Value := .agg #[.string s, .int .i64 (r.pos : Int), .string pc, .int .i64 (r.e : Int)]
theorem bcell {W w1 : World} (hb : Below W.heap.size W w1) : (∀ b o, b < W.heap.size → w1.cell? ⟨b, o, none⟩ = W.cell? ⟨b, o, none⟩) ∧ (∀ b o, b < W.heap.size → w1.frozen? ⟨b, o, none⟩ = W.frozen? ⟨b, o, none⟩) :=
  ⟨fun b o h => hb.cell (p := ⟨b, o, none⟩) h, fun b o h => hb.frozen (p := ⟨b, o, none⟩) h⟩
theorem movedBad_any (s pc piece : ByteArray) (p e0 to e : Int) (w : World) (he : e ≠ 0) :
    Calls Tryz.prog 96 #[.agg #[.string s, .int .i64 p, .string pc, .int .i64 e0], .string piece, .int .i64 to, .int .i64 e] w fun ev w' => ev = .returned (.agg #[.string s, .int .i64 p, .string piece, .int .i64 e]) ∧
      w' = (w.alloc (.cells #[.string s, .int .i64 p, .string piece, .int .i64 e] 106)).alloc (.cells #[.string s, .int .i64 p, .string piece, .int .i64 e] 106) := by
  have he0 : (e != 0) = true := by simpa using he
  clear he
  go_enter Tryz.func96, Tryz.ntmps96
  go_wp2
  exact bodyPost_ret (v := .agg #[.string s, .int .i64 p, .string piece, .int .i64 e]) (by simp [results, Tryz.results96, go_sem]) rfl ⟨rfl, rfl⟩
theorem movedOk_any (s pc piece : ByteArray) (p e0 to : Int) (w : World) :
    Calls Tryz.prog 96 #[.agg #[.string s, .int .i64 p, .string pc, .int .i64 e0], .string piece, .int .i64 to, .int .i64 0] w fun ev w' => ev = .returned (.agg #[.string s, .int .i64 to, .string pc, .int .i64 e0]) ∧
      w' = (w.alloc (.cells #[.string s, .int .i64 to, .string pc, .int .i64 e0] 106)).alloc (.cells #[.string s, .int .i64 to, .string pc, .int .i64 e0] 106) := by
  go_enter Tryz.func96, Tryz.ntmps96
  go_wp2
  exact bodyPost_ret (v := .agg #[.string s, .int .i64 to, .string pc, .int .i64 e0]) (by simp [results, Tryz.results96, go_sem]) rfl ⟨rfl, rfl⟩
def InP (s : ByteArray) (r : RS × Nat) (w : World) (e : Ending) (w' : World) : Prop := Below w.heap.size w w' ∧ ∃ pc, e = .returned (.tuple #[inV s r.1 pc, .int .i64 (r.2 : Int)])
set_option maxRecDepth 100000 in
set_option maxHeartbeats 1000000 in
theorem rNum_any (s pc : ByteArray) (r : RS) (most : Nat) (w : World) (hp : r.pos ≤ s.size) (hs : s.size ≤ 1000000) :
    Calls Tryz.prog 61 #[inV s r pc, .int .i64 most] w fun e w' => InP s (numR s.data.toList most r) w e w' := by
  unfold inV
  by_cases he : r.e = 0
  · have e0 : (r.e : Int) = 0 := by omega
    rw [e0]
    cases hgl : getL (s.data.toList.drop r.pos) with
    | no c =>
      have HGE := Lib.hid (fun W => rGet_no s r.pos c W hp hs hgl)
      have hc := getL_no hgl
      have hc0 : ((c : Int) == 0) = false := by simp; omega
      have hc1 : ((c : Int) != 0) = true := by simp; omega
      have HC1 : Hid ((c : Int) ≠ 0) := by show _ ≠ _; omega
      have HNR := Lib.hid (numR_no (most := most) he hgl)
      clear hgl hc he e0
      go_enter Tryz.func61, Tryz.ntmps61
      go_wp2_with (first | (go_at_call 95; refine (HGE.out _).mono ?_; rintro e w' ⟨rfl, rfl⟩) | (go_at_call 96; refine (movedBad_any _ _ _ _ _ _ _ _ HC1.out).mono ?_; rintro e w' ⟨rfl, rfl⟩))
      rw [HNR.out]
      refine bodyPost_ret (v := .tuple #[inV s ⟨r.pos, c⟩ ⟨#[110, 117, 109]⟩, .int .i64 0]) (by simp [results, Tryz.results61, go_sem, inV]) rfl ⟨?_, _, rfl⟩
      exact belAlloc (belAlloc (belAlloc (bel1 w _) _) _) _
    | ok n k =>
      have HGE := Lib.hid (fun W => rGet_ok s r.pos n k W hp hs hgl)
      by_cases hbig : most < n
      · have HNR := Lib.hid (numR_big he hgl hbig)
        have HM : Hid (∀ (s pc piece : ByteArray) (p e0 to : Int) (W : World), Calls Tryz.prog 96 #[.agg #[.string s, .int .i64 p, .string pc, .int .i64 e0], .string piece, .int .i64 to, .int .i64 3] W fun ev w' => ev = .returned (.agg #[.string s, .int .i64 p, .string piece, .int .i64 3]) ∧ w' = (W.alloc (.cells #[.string s, .int .i64 p, .string piece, .int .i64 3] 106)).alloc (.cells #[.string s, .int .i64 p, .string piece, .int .i64 3] 106)) := fun s pc piece p e0 to W => movedBad_any s pc piece p e0 to 3 W (by omega)
        clear hgl he e0
        go_enter Tryz.func61, Tryz.ntmps61
        go_wp2_with (first | (go_at_call 95; refine (HGE.out _).mono ?_; rintro e w' ⟨rfl, rfl⟩) | (go_at_call 96; refine (HM.out _ _ _ _ _ _ _).mono ?_; rintro e w' ⟨rfl, rfl⟩))
        rw [HNR.out]
        refine bodyPost_ret (v := .tuple #[inV s ⟨r.pos, 3⟩ ⟨#[110, 117, 109]⟩, .int .i64 0]) (by simp [results, Tryz.results61, go_sem, inV]) rfl ⟨?_, _, rfl⟩
        exact belAlloc (belAlloc (belAlloc (bel1 w _) _) _) _
      · have HNR := Lib.hid (numR_fit he hgl hbig)
        have hb4 : decide (most < n) = false := by simp; omega
        clear hgl he e0 hbig
        go_enter Tryz.func61, Tryz.ntmps61
        go_wp2_with (first | (go_at_call 95; refine (HGE.out _).mono ?_; rintro e w' ⟨rfl, rfl⟩) | (go_at_call 96; refine (movedOk_any _ _ _ _ _ _ _).mono ?_; rintro e w' ⟨rfl, rfl⟩))
        rw [HNR.out]
        refine bodyPost_ret (v := .tuple #[inV s ⟨r.pos + k, 0⟩ pc, .int .i64 n]) (by simp [results, Tryz.results61, go_sem, inV]) rfl ⟨?_, _, rfl⟩
        exact belAlloc (belAlloc (belAlloc (bel1 w _) _) _) _
  · have HNR : Hid (numR s.data.toList most r = (r, 0)) := numR_bad he
    have e0 : ((r.e : Int) != 0) = true := by simpa using he
    clear he
    go_enter Tryz.func61, Tryz.ntmps61
    go_wp2
    rw [HNR.out]
    refine bodyPost_ret (v := .tuple #[inV s r pc, .int .i64 0]) (by simp [results, Tryz.results61, go_sem, inV]) rfl ⟨?_, _, rfl⟩
    exact belAlloc (bel1 w _) _
end Go.Proofs.YtlpplnmmcgdooaaGreatDoor
