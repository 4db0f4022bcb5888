/- The document's flags (rubatoref06): read and laid. -/
import Derived.Test.YtlpplnmmcgdooaaGreatDoorDocR
import Derived.Test.YtlpplnmmcgdooaaGreatDoorRdr
import Derived.Deep.RegionHeld3
import Derived.Deep.DrawnRows
namespace Go.Proofs.YtlpplnmmcgdooaaGreatDoor
open Go.RowKit Nb

attribute [local go_sem ↓] Go.wp_at_zero Go.wp_at_succ
def InBP (s : ByteArray) (r : RS × Bool) (w : World) (e : Ending) (w' : World) : Prop := Below w.heap.size w w' ∧ ∃ pc, e = .returned (.tuple #[inV s r.1 pc, .bool r.2])
set_option maxRecDepth 100000 in
set_option maxHeartbeats 2000000 in
theorem rFlag_any (s pc : ByteArray) (r : RS) (w : World) (hp : r.pos ≤ s.size) (hs : s.size ≤ 1000000) :
    Calls Tryz.prog 73 #[inV s r pc] w fun e w' => InBP s (flagR s.data.toList r) w e w' := by
  unfold inV
  have hsl : s.data.toList.length = s.size := by simp
  have HM : Hid (∀ (c : Int) (hc : c ≠ 0) (s pc piece : ByteArray) (p e0 to : Int) (W : World), Calls Tryz.prog 96 #[.agg #[.string s, .int .i64 p, .string pc, .int .i64 e0], .string piece, .int .i64 to, .int .i64 c] W fun ev w' => ev = .returned (.agg #[.string s, .int .i64 p, .string piece, .int .i64 c]) ∧ w' = (W.alloc (.cells #[.string s, .int .i64 p, .string piece, .int .i64 c] 106)).alloc (.cells #[.string s, .int .i64 p, .string piece, .int .i64 c] 106)) := fun c hc s pc piece p e0 to W => movedBad_any s pc piece p e0 to c W hc
  have HM5 := Lib.hid (HM.out 5 (by omega))
  have HM4 := Lib.hid (HM.out 4 (by omega))
  clear HM
  by_cases he : r.e = 0
  · have e0 : (r.e : Int) = 0 := by omega
    rw [e0]
    by_cases hps : r.pos = s.size
    · have HNR := Lib.hid (flagR_end he (by omega : s.data.toList.length ≤ r.pos))
      have d1 : decide (s.size ≤ r.pos) = true := by simp; omega
      clear he e0 hsl hps
      go_enter Tryz.func73, Tryz.ntmps73
      go_wp2_with (go_at_call 96; refine (HM4.out _ _ _ _ _ _ _).mono ?_; rintro e w' ⟨rfl, rfl⟩)
      rw [HNR.out]
      refine bodyPost_ret (v := .tuple #[inV s ⟨r.pos, 4⟩ ⟨#[102, 108, 97, 103]⟩, .bool false]) (by simp [results, Tryz.results73, go_sem, inV]) rfl ⟨?_, _, rfl⟩
      exact belAlloc (belAlloc (belAlloc (bel1 w _) _) _) _
    · have hlt2 : r.pos < s.size := by omega
      have d1 : decide (s.size ≤ r.pos) = false := by simp; omega
      have kz : (r.pos : Int) < (s.size : Int) := by omega
      have k0 : (0 : Int) ≤ (r.pos : Int) := by omega
      by_cases hx : 1 < s[r.pos].toNat
      · have HNR := Lib.hid (flagR_form he hlt2 hx)
        have hx1 : decide (1 < (s[r.pos].toNat : Int)) = true := by simp; omega
        clear he e0 hsl hps hx
        go_enter Tryz.func73, Tryz.ntmps73
        go_wp2_with (go_at_call 96; refine (HM5.out _ _ _ _ _ _ _).mono ?_; rintro e w' ⟨rfl, rfl⟩)
        rw [HNR.out]
        refine bodyPost_ret (v := .tuple #[inV s ⟨r.pos, 5⟩ ⟨#[102, 108, 97, 103]⟩, .bool false]) (by simp [results, Tryz.results73, go_sem, inV]) rfl ⟨?_, _, rfl⟩
        exact belAlloc (belAlloc (belAlloc (bel1 w _) _) _) _
      · have HNR := Lib.hid (flagR_fit he hlt2 hx)
        have hx1 : decide (1 < (s[r.pos].toNat : Int)) = false := by simp; omega
        have HB1 : Hid (((s[r.pos].toNat : Int) == 1) = (s[r.pos].toNat == 1)) := by show _ = _; rw [Bool.eq_iff_iff]; simp; omega
        clear he e0 hsl hps hx
        go_enter Tryz.func73, Tryz.ntmps73
        go_wp2_with fail
        have hsum : IntKind.i64.wrap ((r.pos : Int) + 1) = (r.pos : Int) + 1 := IntWalk.i64_in _ (by omega)
        have z0 : ((w.alloc (.cells #[.string s, .int .i64 (r.pos : Int), .string pc, .int .i64 0] 106)).alloc (.cells #[.string ⟨#[]⟩, .int .i64 0, .string ⟨#[]⟩, .int .i64 0] 106)).cell? ⟨w.heap.size, 0, none⟩ = some (.string s) := by simp
        have z1 : ((w.alloc (.cells #[.string s, .int .i64 (r.pos : Int), .string pc, .int .i64 0] 106)).alloc (.cells #[.string ⟨#[]⟩, .int .i64 0, .string ⟨#[]⟩, .int .i64 0] 106)).cell? ⟨w.heap.size, 1, none⟩ = some (.int .i64 (r.pos : Int)) := by simp
        have z2 : ((w.alloc (.cells #[.string s, .int .i64 (r.pos : Int), .string pc, .int .i64 0] 106)).alloc (.cells #[.string ⟨#[]⟩, .int .i64 0, .string ⟨#[]⟩, .int .i64 0] 106)).cell? ⟨w.heap.size, 2, none⟩ = some (.string pc) := by simp
        have z3 : ((w.alloc (.cells #[.string s, .int .i64 (r.pos : Int), .string pc, .int .i64 0] 106)).alloc (.cells #[.string ⟨#[]⟩, .int .i64 0, .string ⟨#[]⟩, .int .i64 0] 106)).cell? ⟨w.heap.size, 3, none⟩ = some (.int .i64 0) := by simp
        go_region_held3 (fun w' => w'.cell? ⟨w.heap.size, 0, none⟩ = some (.string s) ∧ w'.cell? ⟨w.heap.size, 1, none⟩ = some (.int .i64 (r.pos : Int)) ∧ w'.cell? ⟨w.heap.size, 2, none⟩ = some (.string pc) ∧ w'.cell? ⟨w.heap.size, 3, none⟩ = some (.int .i64 0)) (first | go_keep | exact ⟨z0, z1, z2, z3⟩)
          ((go_at_call 96; refine (movedOk_any _ _ _ _ _ _ _).mono ?_; rintro e w' ⟨rfl, rfl⟩))
        all_goals
          go_wp2
          rw [HNR.out]
          refine bodyPost_ret (v := .tuple #[inV s ⟨r.pos + 1, 0⟩ pc, .bool (s[r.pos].toNat == 1)]) (by rw [← HB1.out]; simp [results, Tryz.results73, go_sem, inV]) rfl ⟨?_, _, rfl⟩
          exact (belAlloc (belAlloc (belAlloc (bel1 w _) _) _) _).drew
  · have HNR : Hid (flagR s.data.toList r = (r, false)) := flagR_bad he
    have e0 : ((r.e : Int) != 0) = true := by simpa using he
    clear he
    go_enter Tryz.func73, Tryz.ntmps73
    go_wp2
    rw [HNR.out]
    refine bodyPost_ret (v := .tuple #[inV s r pc, .bool false]) (by simp [results, Tryz.results73, go_sem, inV]) rfl ⟨?_, _, rfl⟩
    exact belAlloc (bel1 w _) _
set_option maxRecDepth 100000 in
set_option maxHeartbeats 1000000 in
theorem LayFlag_any (x : ByteArray) (b : Bool) (w : World) (hl : x.size ≤ 900000000) :
    Calls Tryz.prog 68 #[outV x, .bool b] w fun e w' => e = .returned (outV (x ++ ⟨(flagB b).toArray⟩)) ∧ Below w.heap.size w w' := by
  unfold outV
  cases b
  · have hxz : x.size + (⟨#[0]⟩ : ByteArray).size ≤ 1000000000 := by show x.size + 1 ≤ _; omega
    go_enter Tryz.func68, Tryz.ntmps68
    go_wp2_with (go_at_call 81; refine (Lay_any x ⟨#[0]⟩ _ _ hxz).mono ?_; rintro e w' ⟨rfl, rfl⟩)
    refine bodyPost_ret (v := .agg #[.string (x ++ ⟨#[0]⟩), .string ⟨#[]⟩, .int .i64 0]) (by simp [results, Tryz.results68, go_sem]) rfl ⟨rfl, ?_⟩
    exact belAlloc (belAlloc (belAlloc (bel1 w _) _) _) _
  · have hxz : x.size + (⟨#[1]⟩ : ByteArray).size ≤ 1000000000 := by show x.size + 1 ≤ _; omega
    go_enter Tryz.func68, Tryz.ntmps68
    go_wp2_with (go_at_call 81; refine (Lay_any x ⟨#[1]⟩ _ _ hxz).mono ?_; rintro e w' ⟨rfl, rfl⟩)
    refine bodyPost_ret (v := .agg #[.string (x ++ ⟨#[1]⟩), .string ⟨#[]⟩, .int .i64 0]) (by simp [results, Tryz.results68, go_sem]) rfl ⟨rfl, ?_⟩
    exact belAlloc (belAlloc (belAlloc (bel1 w _) _) _) _
end Go.Proofs.YtlpplnmmcgdooaaGreatDoor
