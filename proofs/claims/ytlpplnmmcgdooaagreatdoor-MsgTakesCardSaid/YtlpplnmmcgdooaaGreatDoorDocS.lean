/- The document's readers: texts, rows, the end. -/
import Derived.Test.YtlpplnmmcgdooaaGreatDoorDocR
import Derived.Test.YtlpplnmmcgdooaaGreatDoorErrC
import Derived.Deep.RegionHeld3
import Derived.Deep.DrawnRows
namespace Go.Proofs.YtlpplnmmcgdooaaGreatDoor
open Go.RowKit Nb
attribute [local go_sem ↓] Go.wp_at_zero Go.wp_at_succ

theorem set_other (w : World) (g i j : Nat) (u : Value) (h : i ≠ j) : (w.setCell ⟨g, j, none⟩ u).cell? ⟨g, i, none⟩ = w.cell? ⟨g, i, none⟩ := World.cell?_setCell_other _ _ _ _ (by intro e; injection e with _ e; exact h e.symm)
theorem four_set (w1 : World) (g : Nat) (a b c d a' b' c' d' : Value) (d0 : w1.cell? ⟨g, 0, none⟩ = some a') (d1 : w1.cell? ⟨g, 1, none⟩ = some b') (d2 : w1.cell? ⟨g, 2, none⟩ = some c') (d3 : w1.cell? ⟨g, 3, none⟩ = some d') :
    ((((w1.setCell ⟨g, 0, none⟩ a).setCell ⟨g, 1, none⟩ b).setCell ⟨g, 2, none⟩ c).setCell ⟨g, 3, none⟩ d).cell? ⟨g, 0, none⟩ = some a ∧
    ((((w1.setCell ⟨g, 0, none⟩ a).setCell ⟨g, 1, none⟩ b).setCell ⟨g, 2, none⟩ c).setCell ⟨g, 3, none⟩ d).cell? ⟨g, 1, none⟩ = some b ∧
    ((((w1.setCell ⟨g, 0, none⟩ a).setCell ⟨g, 1, none⟩ b).setCell ⟨g, 2, none⟩ c).setCell ⟨g, 3, none⟩ d).cell? ⟨g, 2, none⟩ = some c ∧
    ((((w1.setCell ⟨g, 0, none⟩ a).setCell ⟨g, 1, none⟩ b).setCell ⟨g, 2, none⟩ c).setCell ⟨g, 3, none⟩ d).cell? ⟨g, 3, none⟩ = some d := by
  refine ⟨?_, ?_, ?_, ?_⟩
  · rw [set_other _ _ _ _ _ (by omega), set_other _ _ _ _ _ (by omega), set_other _ _ _ _ _ (by omega)]
    exact World.cell?_setCell_same _ _ _ d0
  · rw [set_other _ _ _ _ _ (by omega), set_other _ _ _ _ _ (by omega)]
    exact World.cell?_setCell_same (u := b') _ _ _ (by rw [set_other _ _ _ _ _ (by omega)]; exact d1)
  · rw [set_other _ _ _ _ _ (by omega)]
    exact World.cell?_setCell_same (u := c') _ _ _ (by rw [set_other _ _ _ _ _ (by omega), set_other _ _ _ _ _ (by omega)]; exact d2)
  · exact World.cell?_setCell_same (u := d') _ _ _ (by rw [set_other _ _ _ _ _ (by omega), set_other _ _ _ _ _ (by omega), set_other _ _ _ _ _ (by omega)]; exact d3)
theorem four_set2 (w1 : World) (g : Nat) (a b c d a' b' c' d' : Value) (d0 : w1.cell? ⟨g, 0, none⟩ = some a') (d1 : w1.cell? ⟨g, 1, none⟩ = some b') (d2 : w1.cell? ⟨g, 2, none⟩ = some c') (d3 : w1.cell? ⟨g, 3, none⟩ = some d') (o1 o2 : Obj) :
    ((((((w1.setCell ⟨g, 0, none⟩ a).setCell ⟨g, 1, none⟩ b).setCell ⟨g, 2, none⟩ c).setCell ⟨g, 3, none⟩ d).alloc o1).alloc o2).cell? ⟨g, 0, none⟩ = some a ∧
    ((((((w1.setCell ⟨g, 0, none⟩ a).setCell ⟨g, 1, none⟩ b).setCell ⟨g, 2, none⟩ c).setCell ⟨g, 3, none⟩ d).alloc o1).alloc o2).cell? ⟨g, 1, none⟩ = some b ∧
    ((((((w1.setCell ⟨g, 0, none⟩ a).setCell ⟨g, 1, none⟩ b).setCell ⟨g, 2, none⟩ c).setCell ⟨g, 3, none⟩ d).alloc o1).alloc o2).cell? ⟨g, 2, none⟩ = some c ∧
    ((((((w1.setCell ⟨g, 0, none⟩ a).setCell ⟨g, 1, none⟩ b).setCell ⟨g, 2, none⟩ c).setCell ⟨g, 3, none⟩ d).alloc o1).alloc o2).cell? ⟨g, 3, none⟩ = some d := by
  obtain ⟨k0, k1, k2, k3⟩ := four_set w1 g a b c d a' b' c' d' d0 d1 d2 d3
  have hl := lt_of_cell k0
  have e : ∀ i, ((((((w1.setCell ⟨g, 0, none⟩ a).setCell ⟨g, 1, none⟩ b).setCell ⟨g, 2, none⟩ c).setCell ⟨g, 3, none⟩ d).alloc o1).alloc o2).cell? ⟨g, i, none⟩ = ((((w1.setCell ⟨g, 0, none⟩ a).setCell ⟨g, 1, none⟩ b).setCell ⟨g, 2, none⟩ c).setCell ⟨g, 3, none⟩ d).cell? ⟨g, i, none⟩ := fun i => by
    rw [World.cell?_alloc_lt _ _ ⟨g, i, none⟩ (by simp at hl ⊢; omega), World.cell?_alloc_lt _ _ ⟨g, i, none⟩ hl]
  exact ⟨(e 0).trans k0, (e 1).trans k1, (e 2).trans k2, (e 3).trans k3⟩
def InT (s : ByteArray) (r : RS × List UInt8) (w : World) (e : Ending) (w' : World) : Prop := Below w.heap.size w w' ∧ ∃ pc, e = .returned (.tuple #[inV s r.1 pc, .string ⟨r.2.toArray⟩])
def InE (s : ByteArray) (r : RS) (w : World) (e : Ending) (w' : World) : Prop := Below w.heap.size w w' ∧ ∃ pc, e = .returned (inV s r pc)
def InR (s : ByteArray) (r : RS × List Nat) (w : World) (e : Ending) (w' : World) : Prop := Below w.heap.size w w' ∧ ∃ pc A cp, e = .returned (.tuple #[inV s r.1 pc, .slice A r.2.length cp]) ∧ RdI w'.heap.size w' A (ints r.2) ∧ (A = none → cp = 0) ∧ (∀ a, A = some a → w.heap.size ≤ a.block)
set_option maxRecDepth 100000 in
set_option maxHeartbeats 2000000 in
theorem rText_any (s pc : ByteArray) (r : RS) (most : Nat) (w : World) (hp : r.pos ≤ s.size) (hs : s.size ≤ 1000000) :
    Calls Tryz.prog 62 #[inV s r pc, .int .i64 most] w fun e w' => InT s (textR s.data.toList most r) w e w' := by
  unfold inV
  by_cases he : r.e = 0
  · have e0 : (r.e : Int) = 0 := by omega
    rw [e0]
    have hsl : s.data.toList.length = s.size := by simp
    cases hgl : getL (s.data.toList.drop r.pos) with
    | no c =>
      have HGE := Lib.hid (fun W => rGet_no s r.pos c W hp hs hgl)
      have hc := getL_no hgl
      have hc0 : ((c : Int) == 0) = false := by simp; omega
      have hc1 : ((c : Int) != 0) = true := by simp; omega
      have HC1 : Hid ((c : Int) ≠ 0) := by show _ ≠ _; omega
      have HNR := Lib.hid (textR_no (most := most) he hgl)
      clear hgl hc he e0 hsl
      go_enter Tryz.func62, Tryz.ntmps62
      go_wp2_with (first | (go_at_call 95; refine (HGE.out _).mono ?_; rintro e w' ⟨rfl, rfl⟩) | (go_at_call 96; refine (movedBad_any _ _ _ _ _ _ _ _ HC1.out).mono ?_; rintro e w' ⟨rfl, rfl⟩))
      rw [HNR.out]
      refine bodyPost_ret (v := .tuple #[inV s ⟨r.pos, c⟩ ⟨#[116, 101, 120, 116]⟩, .string ⟨#[]⟩]) (by simp [results, Tryz.results62, go_sem, inV]) rfl ⟨?_, _, rfl⟩
      exact belAlloc (belAlloc (belAlloc (bel1 w _) _) _) _
    | ok n k =>
      have HGE := Lib.hid (fun W => rGet_ok s r.pos n k W hp hs hgl)
      obtain ⟨-, -, hk, hn⟩ := getL_ok hgl
      have hk2 : r.pos + k ≤ s.size := by rw [List.length_drop] at hk; simp at hk; omega
      have HM : Hid (∀ (c : Int) (hc : c ≠ 0) (s pc piece : ByteArray) (p e0 to : Int) (W : World), Calls Tryz.prog 96 #[.agg #[.string s, .int .i64 p, .string pc, .int .i64 e0], .string piece, .int .i64 to, .int .i64 c] W fun ev w' => ev = .returned (.agg #[.string s, .int .i64 p, .string piece, .int .i64 c]) ∧ w' = (W.alloc (.cells #[.string s, .int .i64 p, .string piece, .int .i64 c] 106)).alloc (.cells #[.string s, .int .i64 p, .string piece, .int .i64 c] 106)) := fun c hc s pc piece p e0 to W => movedBad_any s pc piece p e0 to c W hc
      have HM3 := Lib.hid (HM.out 3 (by omega))
      have HM4 := Lib.hid (HM.out 4 (by omega))
      clear HM
      by_cases hbig : most < n
      · have HNR := Lib.hid (textR_big he hgl hbig)
        clear hgl he e0 hsl hk hk2 hn
        go_enter Tryz.func62, Tryz.ntmps62
        go_wp2_with (first | (go_at_call 95; refine (HGE.out _).mono ?_; rintro e w' ⟨rfl, rfl⟩) | (go_at_call 96; refine (HM3.out _ _ _ _ _ _ _).mono ?_; rintro e w' ⟨rfl, rfl⟩))
        rw [HNR.out]
        refine bodyPost_ret (v := .tuple #[inV s ⟨r.pos, 3⟩ ⟨#[116, 101, 120, 116]⟩, .string ⟨#[]⟩]) (by simp [results, Tryz.results62, go_sem, inV]) rfl ⟨?_, _, rfl⟩
        exact belAlloc (belAlloc (belAlloc (bel1 w _) _) _) _
      · have hb4 : decide (most < n) = false := by simp; omega
        obtain ⟨q, hq⟩ : ∃ q, r.pos + k = q := ⟨_, rfl⟩
        rw [hq] at HGE hk2
        by_cases hsh : s.size - q < n
        · have HNR := Lib.hid (textR_short he hgl hbig (by rw [hsl, hq]; exact hsh))
          have hb5 : decide ((s.size : Int) - (q : Int) < (n : Int)) = true := by simp; omega
          clear hgl he e0 hsl hk hn hbig hq hsh
          go_enter Tryz.func62, Tryz.ntmps62
          go_wp2_with (first | (go_at_call 95; refine (HGE.out _).mono ?_; rintro e w' ⟨rfl, rfl⟩) | (go_at_call 96; refine (HM4.out _ _ _ _ _ _ _).mono ?_; rintro e w' ⟨rfl, rfl⟩))
          rw [HNR.out]
          refine bodyPost_ret (v := .tuple #[inV s ⟨r.pos, 4⟩ ⟨#[116, 101, 120, 116]⟩, .string ⟨#[]⟩]) (by simp [results, Tryz.results62, go_sem, inV]) rfl ⟨?_, _, rfl⟩
          exact belAlloc (belAlloc (belAlloc (bel1 w _) _) _) _
        · have HNR := Lib.hid (textR_fit he hgl hbig (by rw [hsl, hq]; exact hsh))
          rw [hq] at HNR
          have hb5 : decide ((s.size : Int) - (q : Int) < (n : Int)) = false := by simp; omega
          have hz1 : (q : Int) + (n : Int) ≤ (s.size : Int) := by omega
          have HXS : Hid (s.extract q (q + n) = ⟨((s.data.toList.drop q).take n).toArray⟩) := by
            have e1 : s.extract q (q + n) = ⟨((s.data.toList.drop q).take n).toArray⟩ := by
              apply ByteArray.ext
              apply Array.ext'
              rw [extract_list]
              simp
            exact e1
          clear hgl he e0 hsl hk hk2 hn hbig hq hsh
          go_enter Tryz.func62, Tryz.ntmps62
          go_wp2_with (go_at_call 95; refine (HGE.out _).mono ?_; rintro e w' ⟨rfl, rfl⟩)
          have hsum : IntKind.i64.wrap ((q : Int) + (n : Int)) = (q : Int) + (n : Int) := IntWalk.i64_in _ (by omega)
          have hq0 : (0 : Int) ≤ (q : Int) := by omega
          have hq1 : (0 : Int) ≤ (q : Int) + (n : Int) := by omega
          have hq2 : ((q : Int) + (n : Int)).toNat = q + n := by omega
          have hq3 : (q : Int) ≤ (q : Int) + (n : Int) := by omega
          have z0 : ((w.alloc (.cells #[.string s, .int .i64 (r.pos : Int), .string pc, .int .i64 0] 106)).alloc (.cells #[.string ⟨#[]⟩, .int .i64 0, .string ⟨#[]⟩, .int .i64 0] 106)).cell? ⟨w.heap.size, 0, none⟩ = some (.string s) := by simp
          have z1 : ((w.alloc (.cells #[.string s, .int .i64 (r.pos : Int), .string pc, .int .i64 0] 106)).alloc (.cells #[.string ⟨#[]⟩, .int .i64 0, .string ⟨#[]⟩, .int .i64 0] 106)).cell? ⟨w.heap.size, 1, none⟩ = some (.int .i64 (r.pos : Int)) := by simp
          have z2 : ((w.alloc (.cells #[.string s, .int .i64 (r.pos : Int), .string pc, .int .i64 0] 106)).alloc (.cells #[.string ⟨#[]⟩, .int .i64 0, .string ⟨#[]⟩, .int .i64 0] 106)).cell? ⟨w.heap.size, 2, none⟩ = some (.string pc) := by simp
          have z3 : ((w.alloc (.cells #[.string s, .int .i64 (r.pos : Int), .string pc, .int .i64 0] 106)).alloc (.cells #[.string ⟨#[]⟩, .int .i64 0, .string ⟨#[]⟩, .int .i64 0] 106)).cell? ⟨w.heap.size, 3, none⟩ = some (.int .i64 0) := by simp
          go_region_held3 (fun w' => w'.cell? ⟨w.heap.size, 0, none⟩ = some (.string s) ∧ w'.cell? ⟨w.heap.size, 1, none⟩ = some (.int .i64 (r.pos : Int)) ∧ w'.cell? ⟨w.heap.size, 2, none⟩ = some (.string pc) ∧ w'.cell? ⟨w.heap.size, 3, none⟩ = some (.int .i64 0)) (first | go_keep | exact ⟨z0, z1, z2, z3⟩)
            ((go_at_call 96; refine (movedOk_any _ _ _ _ _ _ _).mono ?_; rintro e w' ⟨rfl, rfl⟩))
          go_wp2
          rw [HNR.out]
          refine bodyPost_ret (v := .tuple #[inV s ⟨q + n, 0⟩ pc, .string (s.extract q (q + n))]) (by simp [results, Tryz.results62, go_sem, inV]) rfl ⟨?_, _, by rw [HXS.out]⟩
          exact (belAlloc (belAlloc (belAlloc (bel1 w _) _) _) _).drew
  · have HNR : Hid (textR s.data.toList most r = (r, [])) := textR_bad he
    have e0 : ((r.e : Int) != 0) = true := by simpa using he
    clear he
    go_enter Tryz.func62, Tryz.ntmps62
    go_wp2
    rw [HNR.out]
    refine bodyPost_ret (v := .tuple #[inV s r pc, .string ⟨#[]⟩]) (by simp [results, Tryz.results62, go_sem, inV]) rfl ⟨?_, _, rfl⟩
    exact belAlloc (bel1 w _) _
set_option maxRecDepth 100000 in
set_option maxHeartbeats 1000000 in
theorem rEnd_any (s pc : ByteArray) (r : RS) (w : World) :
    Calls Tryz.prog 64 #[inV s r pc] w fun e w' => InE s (endR s.data.toList r) w e w' := by
  unfold inV
  have hsl : s.data.toList.length = s.size := by simp
  by_cases h : r.e = 0 ∧ r.pos < s.size
  · have HNR : Hid (endR s.data.toList r = ⟨r.pos, 6⟩) := by show _ = _; unfold endR; rw [hsl, if_pos h]
    have e0 : ((r.e : Int) == 0) = true := by simp; omega
    have hps := h.2
    have HM : Hid (∀ (s pc piece : ByteArray) (p e0 to : Int) (W : World), Calls Tryz.prog 96 #[.agg #[.string s, .int .i64 p, .string pc, .int .i64 e0], .string piece, .int .i64 to, .int .i64 6] W fun ev w' => ev = .returned (.agg #[.string s, .int .i64 p, .string piece, .int .i64 6]) ∧ w' = (W.alloc (.cells #[.string s, .int .i64 p, .string piece, .int .i64 6] 106)).alloc (.cells #[.string s, .int .i64 p, .string piece, .int .i64 6] 106)) := fun s pc piece p e0 to W => movedBad_any s pc piece p e0 to 6 W (by omega)
    clear h hsl
    go_enter Tryz.func64, Tryz.ntmps64
    go_wp2_with (go_at_call 96; refine (HM.out _ _ _ _ _ _ _).mono ?_; rintro e w' ⟨rfl, rfl⟩)
    rw [HNR.out]
    refine bodyPost_ret (v := inV s ⟨r.pos, 6⟩ ⟨#[101, 110, 100]⟩) (by simp [results, Tryz.results64, go_sem, inV]) rfl ⟨?_, _, rfl⟩
    exact belAlloc (belAlloc (belAlloc (bel1 w _) _) _) _
  · have HNR : Hid (endR s.data.toList r = r) := by show _ = _; unfold endR; rw [hsl, if_neg h]
    by_cases he : r.e = 0
    · have e0 : ((r.e : Int) == 0) = true := by simp; omega
      have hps : decide (r.pos < s.size) = false := by simp; omega
      clear h hsl he
      go_enter Tryz.func64, Tryz.ntmps64
      go_wp2
      rw [HNR.out]
      refine bodyPost_ret (v := inV s r pc) (by simp [results, Tryz.results64, go_sem, inV]) rfl ⟨?_, _, rfl⟩
      exact belAlloc (bel1 w _) _
    · have e0 : ((r.e : Int) == 0) = false := by simp; omega
      clear h hsl he
      go_enter Tryz.func64, Tryz.ntmps64
      go_wp2
      rw [HNR.out]
      refine bodyPost_ret (v := inV s r pc) (by simp [results, Tryz.results64, go_sem, inV]) rfl ⟨?_, _, rfl⟩
      exact belAlloc (bel1 w _) _
set_option maxRecDepth 100000 in
set_option maxHeartbeats 2000000 in
theorem rRowR_any (s pc : ByteArray) (r : RS) (most : Nat) (w : World) (hp : r.pos ≤ s.size) (hs : s.size ≤ 1000000) (hm : most ≤ 1000) :
    Calls Tryz.prog 63 #[inV s r pc, .int .i64 most] w fun e w' => InR s (rowR s.data.toList most r) w e w' := by
  unfold inV
  by_cases he : r.e = 0
  · have e0 : (r.e : Int) = 0 := by omega
    rw [e0]
    have HU := Lib.hid (rUnrow_any s r.pos most ((w.alloc (.cells #[.string s, .int .i64 (r.pos : Int), .string pc, .int .i64 0] 106)).alloc (.cells #[.string ⟨#[]⟩, .int .i64 0, .string ⟨#[]⟩, .int .i64 0] 106)) hp hs hm)
    cases hun : unrow (s.data.toList.drop r.pos) most with
    | no c =>
      have hc := unrow_no hun
      have HNR := Lib.hid (rowR_no he hun)
      rw [hun] at HU
      have HC1 : Hid ((c : Int) ≠ 0) := by show _ ≠ _; omega
      clear hun hc he e0
      go_enter Tryz.func63, Tryz.ntmps63
      go_wp2_with fail
      refine HU.out.mono ?_
      rintro e w1 ⟨hb1, rfl⟩
      obtain ⟨hc, hf⟩ := bcell hb1
      have hz : w.heap.size + 1 < w1.heap.size := by have := hb1.size; simp at this; omega
      have hz0 : w.heap.size < w1.heap.size := by omega
      have b0 : w1.cell? ⟨w.heap.size, 0, none⟩ = some (.string s) := by rw [hc _ _ (by simp; omega)]; simp
      have b1 : w1.cell? ⟨w.heap.size, 1, none⟩ = some (.int .i64 (r.pos : Int)) := by rw [hc _ _ (by simp; omega)]; simp
      have b2 : w1.cell? ⟨w.heap.size, 2, none⟩ = some (.string pc) := by rw [hc _ _ (by simp; omega)]; simp
      have b3 : w1.cell? ⟨w.heap.size, 3, none⟩ = some (.int .i64 0) := by rw [hc _ _ (by simp; omega)]; simp
      have d0 : w1.cell? ⟨w.heap.size + 1, 0, none⟩ = some (.string ⟨#[]⟩) := by rw [hc _ _ (by simp)]; simp
      have d1 : w1.cell? ⟨w.heap.size + 1, 1, none⟩ = some (.int .i64 0) := by rw [hc _ _ (by simp)]; simp
      have d2 : w1.cell? ⟨w.heap.size + 1, 2, none⟩ = some (.string ⟨#[]⟩) := by rw [hc _ _ (by simp)]; simp
      have d3 : w1.cell? ⟨w.heap.size + 1, 3, none⟩ = some (.int .i64 0) := by rw [hc _ _ (by simp)]; simp
      have g0 : w1.frozen? ⟨w.heap.size + 1, 0, none⟩ = false := by rw [hf _ _ (by simp)]; simp
      have g1 : w1.frozen? ⟨w.heap.size + 1, 1, none⟩ = false := by rw [hf _ _ (by simp)]; simp
      have g2 : w1.frozen? ⟨w.heap.size + 1, 2, none⟩ = false := by rw [hf _ _ (by simp)]; simp
      have g3 : w1.frozen? ⟨w.heap.size + 1, 3, none⟩ = false := by rw [hf _ _ (by simp)]; simp
      have HB1 := Lib.hid (belStep (belAlloc (bel1 w _) _) hb1)
      clear hb1 hc hf
      go_wp2_with (go_at_call 96; refine (movedBad_any _ _ _ _ _ _ _ _ HC1.out).mono ?_; rintro e w' ⟨rfl, rfl⟩)
      rw [HNR.out]
      obtain ⟨k0, k1, k2, k3⟩ := four_set2 w1 (w.heap.size + 1) (.string s) (.int .i64 (r.pos : Int)) (.string ⟨#[114, 111, 119]⟩) (.int .i64 (c : Int)) _ _ _ _ d0 d1 d2 d3 (.cells #[.string s, .int .i64 (r.pos : Int), .string ⟨#[114, 111, 119]⟩, .int .i64 (c : Int)] 106) (.cells #[.string s, .int .i64 (r.pos : Int), .string ⟨#[114, 111, 119]⟩, .int .i64 (c : Int)] 106)
      refine bodyPost_ret (v := .tuple #[inV s ⟨r.pos, c⟩ ⟨#[114, 111, 119]⟩, .slice none 0 0]) (by simp [results, Tryz.results63, go_sem, inV, k0, k1, k2, k3]) rfl ⟨?_, _, none, 0, rfl, RdI.none_, (fun _ => rfl), fun _ h => by cases h⟩
      repeat' (first | exact HB1.out | (refine Below.setCell ?_ (by simp) _) | (refine belAlloc ?_ _))
    | ok l k =>
      have HNR := Lib.hid (rowR_fit he hun)
      rw [hun] at HU
      clear hun he e0
      go_enter Tryz.func63, Tryz.ntmps63
      go_wp2_with fail
      refine HU.out.mono ?_
      rintro e w1 ⟨hb1, A, cp, rfl, hrd, hnil, hlo⟩
      obtain ⟨hc, hf⟩ := bcell hb1
      have hz : w.heap.size + 1 < w1.heap.size := by have := hb1.size; simp at this; omega
      have hz0 : w.heap.size < w1.heap.size := by omega
      have b0 : w1.cell? ⟨w.heap.size, 0, none⟩ = some (.string s) := by rw [hc _ _ (by simp; omega)]; simp
      have b1 : w1.cell? ⟨w.heap.size, 1, none⟩ = some (.int .i64 (r.pos : Int)) := by rw [hc _ _ (by simp; omega)]; simp
      have b2 : w1.cell? ⟨w.heap.size, 2, none⟩ = some (.string pc) := by rw [hc _ _ (by simp; omega)]; simp
      have b3 : w1.cell? ⟨w.heap.size, 3, none⟩ = some (.int .i64 0) := by rw [hc _ _ (by simp; omega)]; simp
      have d0 : w1.cell? ⟨w.heap.size + 1, 0, none⟩ = some (.string ⟨#[]⟩) := by rw [hc _ _ (by simp)]; simp
      have d1 : w1.cell? ⟨w.heap.size + 1, 1, none⟩ = some (.int .i64 0) := by rw [hc _ _ (by simp)]; simp
      have d2 : w1.cell? ⟨w.heap.size + 1, 2, none⟩ = some (.string ⟨#[]⟩) := by rw [hc _ _ (by simp)]; simp
      have d3 : w1.cell? ⟨w.heap.size + 1, 3, none⟩ = some (.int .i64 0) := by rw [hc _ _ (by simp)]; simp
      have g0 : w1.frozen? ⟨w.heap.size + 1, 0, none⟩ = false := by rw [hf _ _ (by simp)]; simp
      have g1 : w1.frozen? ⟨w.heap.size + 1, 1, none⟩ = false := by rw [hf _ _ (by simp)]; simp
      have g2 : w1.frozen? ⟨w.heap.size + 1, 2, none⟩ = false := by rw [hf _ _ (by simp)]; simp
      have g3 : w1.frozen? ⟨w.heap.size + 1, 3, none⟩ = false := by rw [hf _ _ (by simp)]; simp
      have HB1 := Lib.hid (belStep (belAlloc (bel1 w _) _) hb1)
      clear hb1 hc hf
      have HRD := Lib.hid hrd
      have HNI := Lib.hid hnil
      have HLO := Lib.hid hlo
      clear hrd hnil hlo
      go_wp2_with (go_at_call 96; refine (movedOk_any _ _ _ _ _ _ _).mono ?_; rintro e w' ⟨rfl, rfl⟩)
      rw [HNR.out]
      obtain ⟨k0, k1, k2, k3⟩ := four_set2 w1 (w.heap.size + 1) (.string s) (.int .i64 ((r.pos : Int) + (k : Int))) (.string pc) (.int .i64 0) _ _ _ _ d0 d1 d2 d3 (.cells #[.string s, .int .i64 ((r.pos : Int) + (k : Int)), .string pc, .int .i64 0] 106) (.cells #[.string s, .int .i64 ((r.pos : Int) + (k : Int)), .string pc, .int .i64 0] 106)
      refine bodyPost_ret (v := .tuple #[inV s ⟨r.pos + k, 0⟩ pc, .slice A l.length cp]) (by simp [results, Tryz.results63, go_sem, inV, k0, k1, k2, k3]) rfl ⟨?_, _, A, cp, rfl, ?_, HNI.out, fun a ha => by have := HLO.out a ha; simp at this; omega⟩
      · repeat' (first | exact HB1.out | (refine Below.setCell ?_ (by simp) _) | (refine belAlloc ?_ _))
      · refine HRD.out.grown (g := w.heap.size + 1) ?_ (fun a ha => by have := HLO.out a ha; simp at this; omega)
        repeat' (first | exact World.grownBy.refl _ _ | (refine grown_setCell ?_ rfl _) | (refine grown_alloc ?_ _))
  · have HNR : Hid (rowR s.data.toList most r = (r, [])) := rowR_bad he
    have e0 : ((r.e : Int) != 0) = true := by simpa using he
    clear he
    go_enter Tryz.func63, Tryz.ntmps63
    go_wp2
    rw [HNR.out]
    refine bodyPost_ret (v := .tuple #[inV s r pc, .slice none 0 0]) (by simp [results, Tryz.results63, go_sem, inV]) rfl ⟨?_, _, none, 0, rfl, RdI.none_, (fun _ => rfl), fun _ h => by cases h⟩
    exact belAlloc (bel1 w _) _
end Go.Proofs.YtlpplnmmcgdooaaGreatDoor
