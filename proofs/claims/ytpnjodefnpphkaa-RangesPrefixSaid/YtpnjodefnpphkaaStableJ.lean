/- 'awake' of the laws of layer 17 returns true. -/
import Derived.Test.YtpnjodefnpphkaaStableI
import Derived.Test.YtpnjodefnpphkaaStableD
import Derived.Deep.RegionHeld3
namespace Go.Proofs.Ytpnjodefnpphkaa
open Go.RowKit Go.Sort Go.Lib

theorem aw1 (W : World) : Calls Try.prog 14 #[.slice (some ⟨W.heap.size, 0, none⟩) 3 3, .int .i64 3] (W.alloc (.cells #[.int .i64 5, .int .i64 9, .int .i64 7] 3)) fun e w' => e = .returned (.int .i64 7) ∧ Below W.heap.size W w' :=
  (Of_any (some ⟨W.heap.size, 0, none⟩) 3 #[5, 9, 7] 3 _ ((RdI.new W #[5, 9, 7] 3 #[.int .i64 5, .int .i64 9, .int .i64 7] (by simp [encI])).mono (by simp)) (by decide)).mono fun _ _ ⟨he, hb⟩ => ⟨by rw [he, show ofS #[5, 9, 7] 3 = 7 by rw [ofS_eq]; decide +kernel], belStep (bel1 _ _) hb⟩
theorem aw2 (W : World) : Calls Try.prog 14 #[.slice (some ⟨W.heap.size, 0, none⟩) 4 4, .int .i64 4] (W.alloc (.cells #[.int .i64 5, .int .i64 9, .int .i64 7, .int .i64 1] 3)) fun e w' => e = .returned (.int .i64 5) ∧ Below W.heap.size W w' :=
  (Of_any (some ⟨W.heap.size, 0, none⟩) 4 #[5, 9, 7, 1] 4 _ ((RdI.new W #[5, 9, 7, 1] 3 #[.int .i64 5, .int .i64 9, .int .i64 7, .int .i64 1] (by simp [encI])).mono (by simp)) (by decide)).mono fun _ _ ⟨he, hb⟩ => ⟨by rw [he, show ofS #[5, 9, 7, 1] 4 = 5 by rw [ofS_eq]; decide +kernel], belStep (bel1 _ _) hb⟩
theorem aw3 (W : World) : Calls Try.prog 14 #[.slice (some ⟨W.heap.size, 0, none⟩) 2 2, .int .i64 2] (W.alloc (.cells #[.int .i64 5, .int .i64 9] 3)) fun e w' => e = .returned (.int .i64 0) ∧ Below W.heap.size W w' :=
  (Of_any (some ⟨W.heap.size, 0, none⟩) 2 #[5, 9] 2 _ ((RdI.new W #[5, 9] 3 #[.int .i64 5, .int .i64 9] (by simp [encI])).mono (by simp)) (by decide)).mono fun _ _ ⟨he, hb⟩ => ⟨by rw [he, show ofS #[5, 9] 2 = 0 by rw [ofS_eq]; decide +kernel], belStep (bel1 _ _) hb⟩
theorem aw4 (W : World) : Calls Try.prog 16 #[.slice (some ⟨W.heap.size, 0, none⟩) 3 3, .int .i64 7] (W.alloc (.cells #[.int .i64 5, .int .i64 9, .int .i64 7] 3)) fun e w' => e = .returned (.int .i64 6) ∧ Below W.heap.size W w' :=
  (Who_any (some ⟨W.heap.size, 0, none⟩) 3 #[5, 9, 7] 7 _ ((RdI.new W #[5, 9, 7] 3 #[.int .i64 5, .int .i64 9, .int .i64 7] (by simp [encI])).mono (by simp)) (by decide)).mono fun _ _ ⟨he, hb⟩ => ⟨by rw [he]; rfl, belStep (bel1 _ _) hb⟩
theorem aw5 (W : World) : Calls Try.prog 18 #[.slice (some ⟨W.heap.size, 0, none⟩) 3 3] (W.alloc (.cells #[.int .i64 5, .int .i64 9, .int .i64 7] 3)) fun e w' => e = .returned (.int .i64 5) ∧ Below W.heap.size W w' :=
  (Least_any (some ⟨W.heap.size, 0, none⟩) 3 #[5, 9, 7] _ _ (RdI.new W #[5, 9, 7] 3 #[.int .i64 5, .int .i64 9, .int .i64 7] (by simp [encI])) (by decide)).mono fun _ _ ⟨he, hb⟩ => ⟨by rw [he]; rfl, by rw [← hb]; exact bel1 _ _⟩
theorem aw6 (W : World) : Calls Try.prog 18 #[.slice none 0 0] W fun e w' => e = .returned (.int .i64 0) ∧ Below W.heap.size W w' :=
  (Least_any none 0 #[] 0 W RdI.none_ (by decide)).mono fun _ _ ⟨he, hb⟩ => ⟨by rw [he]; rfl, by rw [← hb]; exact Below.refl _ _⟩
theorem aw8 (W : World) : Calls Try.prog 12 #[.slice (some ⟨W.heap.size, 0, none⟩) 3 3, .int .i64 3] (W.alloc (.cells #[.int .i64 5, .int .i64 9, .int .i64 7] 3)) fun e w' => e = .returned (.int .i64 0) ∧ Below W.heap.size W w' :=
  (sCheck_any (some ⟨W.heap.size, 0, none⟩) 3 #[5, 9, 7] 3 _ _ (RdI.new W #[5, 9, 7] 3 #[.int .i64 5, .int .i64 9, .int .i64 7] (by simp [encI])) (by decide)).mono fun _ _ ⟨he, hb⟩ => ⟨by rw [he, show marksE #[5, 9, 7] 3 = 0 by decide +kernel], belStep (bel1 _ _) hb⟩
theorem aw9 (W : World) : Calls Try.prog 12 #[.slice (some ⟨W.heap.size, 0, none⟩) 3 3, .int .i64 3] (W.alloc (.cells #[.int .i64 5, .int .i64 9, .int .i64 (-1)] 3)) fun e w' => e = .returned (.int .i64 2) ∧ Below W.heap.size W w' :=
  (sCheck_any (some ⟨W.heap.size, 0, none⟩) 3 #[5, 9, -1] 3 _ _ (RdI.new W #[5, 9, -1] 3 #[.int .i64 5, .int .i64 9, .int .i64 (-1)] (by simp [encI])) (by decide)).mono fun _ _ ⟨he, hb⟩ => ⟨by rw [he, show marksE #[5, 9, -1] 3 = 2 by decide +kernel], belStep (bel1 _ _) hb⟩
theorem aw7 (W : World) : Calls Try.prog 21 #[.slice (some ⟨W.heap.size, 0, none⟩) 2 2, .slice (some ⟨W.heap.size + 1, 0, none⟩) 3 3] ((W.alloc (.cells #[.int .i64 5, .int .i64 9] 3)).alloc (.cells #[.int .i64 7, .int .i64 1, .int .i64 2] 3)) fun e w' => ∃ A c, e = .returned (.slice A 3 c) ∧ RdI w'.heap.size w' A #[7, 9, 2] ∧ Below W.heap.size W w' := by
  have r1 := ((RdI.new W #[5, 9] 3 #[.int .i64 5, .int .i64 9] (by simp [encI])).alloc (by simp) (.cells #[.int .i64 7, .int .i64 1, .int .i64 2] 3))
  have r2 := RdI.new (W.alloc (.cells #[.int .i64 5, .int .i64 9] 3)) #[7, 1, 2] 3 #[.int .i64 7, .int .i64 1, .int .i64 2] (by simp [encI])
  have hsz : (W.alloc (.cells #[.int .i64 5, .int .i64 9] 3)).heap.size = W.heap.size + 1 := by simp
  rw [hsz] at r2
  have hm : mergeN #[5, 9] #[7, 1, 2] = #[7, 9, 2] := by decide +kernel
  have hM := Merge_any _ _ 2 3 #[5, 9] #[7, 1, 2] _ (r1.mono (by simp)) (r2.mono (by simp)) (by decide) (by decide)
  rw [hm] at hM
  exact hM.mono fun _ _ ⟨A, c, he, hr, hb⟩ => ⟨A, c, he, hr, belStep (belAlloc (bel1 _ _) _) hb⟩
theorem aw7b (W : World) (A : Option Addr) (c : Nat) (hr : RdI W.heap.size W A #[7, 9, 2]) : Calls Try.prog 20 #[.slice A 3 c, .slice (some ⟨W.heap.size, 0, none⟩) 3 3] (W.alloc (.cells #[.int .i64 7, .int .i64 9, .int .i64 2] 3)) fun e w' => e = .returned (.bool true) ∧ Below W.heap.size W w' :=
  (SameInts_any A _ c 3 #[7, 9, 2] #[7, 9, 2] _ _ _ (hr.alloc (Nat.le_refl _) _) (RdI.new W #[7, 9, 2] 3 #[.int .i64 7, .int .i64 9, .int .i64 2] (by simp [encI])) (by decide)).mono fun _ _ ⟨he, n, hw⟩ => ⟨by rw [he]; simp, by rw [hw]; exact belDrewN (bel1 _ _) _⟩
set_option maxHeartbeats 4000000 in
set_option maxRecDepth 100000 in
theorem awake17_any (w : World) :
    Calls Try.prog 11 #[] w fun e w' => e = .returned (.bool true) ∧ Below w.heap.size w w' := by
  go_enter Try.func11, Try.ntmps11
  go_wp2_with (first
    | (go_at_call_of 14 (Value.int IntKind.i64 3); refine (aw1 _).mono ?_; rintro e w1 ⟨rfl, hb1⟩)
    | (go_at_call_of 14 (Value.int IntKind.i64 4); refine (aw2 _).mono ?_; rintro e w2 ⟨rfl, hb2⟩)
    | (go_at_call_of 14 (Value.int IntKind.i64 2); refine (aw3 _).mono ?_; rintro e w3 ⟨rfl, hb3⟩)
    | (go_at_call 16; refine (aw4 _).mono ?_; rintro e w4 ⟨rfl, hb4⟩)
    | (go_at_call 18; ((with_reducible refine (aw6 _).mono ?_); rintro e w6 ⟨rfl, hb6⟩))
    | (go_at_call 18; refine (aw5 _).mono ?_; rintro e w5 ⟨rfl, hb5⟩)
    | (go_at_call 21; refine (aw7 _).mono ?_; rintro e w7 ⟨A7, c7, rfl, hr7, hb7⟩; have HR7 := Lib.hid hr7; clear hr7)
    | (go_at_call 20; refine (aw7b _ _ _ HR7.out).mono ?_; rintro e w8 ⟨rfl, hb8⟩)
    | (go_at_call 12; ((with_reducible refine (aw8 _).mono ?_); rintro e w9 ⟨rfl, hb9⟩))
    | (go_at_call 12; ((with_reducible refine (aw9 _).mono ?_); rintro e wa ⟨rfl, hba⟩)))
  go_ret
  exact ⟨rfl, belStep (belStep (belStep (belStep (belStep (belStep (belStep (belStep (belStep hb1 hb2) hb3) hb4) hb5) hb6) hb7) hb8) hb9) hba⟩
end Go.Proofs.Ytpnjodefnpphkaa
