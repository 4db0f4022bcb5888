/- Contracts of the plain functions of ident and of rubatoref02: what each returns, for every input. -/
import Derived.Test.YthgpjbpkcpbcoaaBase
namespace Go.Proofs.Ythgpjbpkcpbcoaa
open Go.RowKit

def makeN (self seq : Int) : Int := if self < 1 ∨ 9 < self ∨ seq < 1 ∨ 99999 < seq then 0 else seq * 10 + self
def makeE (self seq : Int) : Int := if self < 1 ∨ 9 < self ∨ seq < 1 ∨ 99999 < seq then 2 else 0
def badId (id : Int) : Prop := id < 10 ∨ 999999 < id ∨ id % 10 = 0
def checkE (id : Int) : Int := if id < 10 ∨ 999999 < id ∨ id % 10 = 0 then 31 else 0
def selfN (id : Int) : Int := if id < 10 ∨ 999999 < id ∨ id % 10 = 0 then 0 else id % 10
def seqN (id : Int) : Int := if id < 10 ∨ 999999 < id ∨ id % 10 = 0 then 0 else id / 10

set_option maxHeartbeats 400000 in
theorem Make_any (self seq : Int) (w : World) :
    Calls Try.prog 8 #[.int .i64 self, .int .i64 seq] w fun e w' => e = .returned (.tuple #[.int .i64 (makeN self seq), .int .i64 (makeE self seq)]) ∧ w = w' := by
  go_enter Try.func8, Try.ntmps8
  go_wp2
  all_goals
    go_ret2
    exact ⟨ret_int2 (by unfold makeN; split <;> omega) (by unfold makeE; split <;> omega), rfl⟩
set_option maxHeartbeats 400000 in
theorem rMake_any (self seq : Int) (w : World) :
    Calls Try.prog 9 #[.int .i64 self, .int .i64 seq] w fun e w' => e = .returned (.tuple #[.int .i64 (makeN self seq), .int .i64 (makeE self seq)]) ∧ w = w' := by
  go_enter Try.func9, Try.ntmps9
  go_wp2
  all_goals
    go_ret2
    exact ⟨ret_int2 (by unfold makeN; split <;> omega) (by unfold makeE; split <;> omega), rfl⟩
set_option maxHeartbeats 400000 in
theorem Check_any (id : Int) (w : World) :
    Calls Try.prog 13 #[.int .i64 id] w fun e w' => e = .returned (.int .i64 (checkE id)) ∧ w = w' := by
  go_enter Try.func13, Try.ntmps13
  go_wp2
  all_goals
    go_ret
    exact ⟨ret_int (by unfold checkE; split <;> simp_all <;> omega), rfl⟩
theorem checkE_bad {id : Int} (h : id < 10 ∨ 999999 < id ∨ id % 10 = 0) : checkE id = 31 := by unfold checkE; rw [if_pos h]
theorem checkE_ok {id : Int} (h : ¬ (id < 10 ∨ 999999 < id ∨ id % 10 = 0)) : checkE id = 0 := by unfold checkE; rw [if_neg h]
theorem Self_any (id : Int) (w : World) :
    Calls Try.prog 11 #[.int .i64 id] w fun e w' => e = .returned (.int .i64 (selfN id)) ∧ w = w' := by
  by_cases h : id < 10 ∨ 999999 < id ∨ id % 10 = 0
  · have hc := checkE_bad h
    have H := Lib.hid h; clear h
    go_enter Try.func11, Try.ntmps11
    go_wp2_with (go_at_call 13; refine (Check_any _ _).mono ?_; rintro e w' ⟨rfl, rfl⟩)
    go_ret
    exact ⟨ret_int (by unfold selfN; rw [if_pos H.out]), rfl⟩
  · have hc := checkE_ok h
    have h0 : 0 ≤ id := by omega
    have h9 : id ≤ 999999 := by omega
    have H := Lib.hid h; clear h
    go_enter Try.func11, Try.ntmps11
    go_wp2_with (go_at_call 13; refine (Check_any _ _).mono ?_; rintro e w' ⟨rfl, rfl⟩)
    go_ret
    exact ⟨ret_int (by unfold selfN; rw [if_neg H.out]), rfl⟩
theorem Seq_any (id : Int) (w : World) :
    Calls Try.prog 12 #[.int .i64 id] w fun e w' => e = .returned (.int .i64 (seqN id)) ∧ w = w' := by
  by_cases h : id < 10 ∨ 999999 < id ∨ id % 10 = 0
  · have hc := checkE_bad h
    have H := Lib.hid h; clear h
    go_enter Try.func12, Try.ntmps12
    go_wp2_with (go_at_call 13; refine (Check_any _ _).mono ?_; rintro e w' ⟨rfl, rfl⟩)
    go_ret
    exact ⟨ret_int (by unfold seqN; rw [if_pos H.out]), rfl⟩
  · have hc := checkE_ok h
    have h0 : 0 ≤ id := by omega
    have h9 : id ≤ 999999 := by omega
    have H := Lib.hid h; clear h
    go_enter Try.func12, Try.ntmps12
    go_wp2_with (go_at_call 13; refine (Check_any _ _).mono ?_; rintro e w' ⟨rfl, rfl⟩)
    go_ret
    exact ⟨ret_int (by unfold seqN; rw [if_neg H.out]), rfl⟩
set_option maxHeartbeats 400000 in
theorem rSplit_any (id : Int) (w : World) :
    Calls Try.prog 10 #[.int .i64 id] w fun e w' => e = .returned (.tuple #[.int .i64 (selfN id), .int .i64 (seqN id)]) ∧ w = w' := by
  go_enter Try.func10, Try.ntmps10
  go_wp2
  all_goals
    go_ret2
    exact ⟨ret_int2 (by unfold selfN; split <;> simp_all <;> omega) (by unfold seqN; split <;> simp_all <;> omega), rfl⟩

/-! ballots -/
def mayN (n : Int) : Bool := decide (3 ≤ n ∧ n ≤ 9)
def ownS (b n : Int) : Int := (b - 1) % n + 1
theorem ownS_bd (b n : Int) (h : 3 ≤ n) : 1 ≤ ownS b n ∧ ownS b n ≤ n := by
  unfold ownS; have := Int.emod_nonneg (b - 1) (show n ≠ 0 by omega); have := Int.emod_lt_of_pos (b - 1) (show 0 < n by omega); omega
theorem may_any (n : Int) (w : World) :
    Calls Try.prog 29 #[.int .i64 n] w fun e w' => e = .returned (.bool (mayN n)) ∧ w = w' := by
  go_enter Try.func29, Try.ntmps29
  go_wp2
  all_goals
    go_ret
    exact ⟨ret_bool (by unfold mayN; simp <;> omega), rfl⟩
theorem own1_any (b n : Int) (a : Addr) (w : World) (hc : w.cell? a = some (.int .i64 n)) (hb : 1 ≤ b) (hb' : b ≤ 2000000) (hn : 3 ≤ n) (hn' : n ≤ 9) :
    Calls Try.prog 35 #[.int .i64 b, .pointer (some a)] w fun e w' => e = .returned (.int .i64 (ownS b n)) ∧ w = w' := by
  have h1 := Int.emod_nonneg (b - 1) (show n ≠ 0 by omega)
  have h2 := Int.emod_lt_of_pos (b - 1) (show 0 < n by omega)
  go_enter Try.func35, Try.ntmps35
  go_wp2
  go_ret
  exact ⟨rfl, rfl⟩
theorem owners_any (n : Int) (w : World) :
    Calls Try.prog 30 #[.int .i64 n] w fun e w' => e = .returned (.func (.func 35) #[] #[.pointer (some ⟨w.heap.size, 0, none⟩)]) ∧ w' = w.alloc (.cells #[.int .i64 n] 3) := by
  go_enter Try.func30, Try.ntmps30
  go_wp2
  go_ret
  exact ⟨rfl, rfl⟩
def owner (b n : Int) : Int := if n < 3 ∨ 9 < n ∨ b < 1 ∨ 1000000 < b then 0 else ownS b n
theorem mayN_yes {n : Int} (h : 3 ≤ n) (h' : n ≤ 9) : mayN n = true := by unfold mayN; simp; omega
theorem mayN_no {n : Int} (h : n < 3 ∨ 9 < n) : mayN n = false := by unfold mayN; simp; omega
set_option maxHeartbeats 400000 in
theorem Owner_any (b n : Int) (w : World) :
    Calls Try.prog 22 #[.int .i64 b, .int .i64 n] w fun e w' => e = .returned (.int .i64 (owner b n)) ∧ Below w.heap.size w w' := by
  by_cases h1 : n < 3 ∨ 9 < n
  · have hm := mayN_no h1
    have H := Lib.hid h1; clear h1
    go_enter Try.func22, Try.ntmps22
    go_wp2_with (go_at_call 29; refine (may_any _ _).mono ?_; rintro e w' ⟨rfl, rfl⟩)
    go_ret
    exact ⟨ret_int (by unfold owner; rw [if_pos]; have := H.out; omega), Below.refl _ _⟩
  · have h2 : 3 ≤ n := by omega
    have h3 : n ≤ 9 := by omega
    have hm := mayN_yes h2 h3
    clear h1
    go_enter Try.func22, Try.ntmps22
    go_wp2_with (first | (go_at_call 29; refine (may_any _ _).mono ?_; rintro e w' ⟨rfl, rfl⟩) | (go_at_call 30; refine (owners_any _ _).mono ?_; rintro e w' ⟨rfl, rfl⟩) | (go_at_call 35; refine (own1_any _ n _ _ (by simp [go_sem]) (by omega) (by omega) h2 h3).mono ?_; rintro e w' ⟨rfl, rfl⟩))
    all_goals first
      | (exfalso; omega)
      | (go_ret; refine ⟨ret_int ?_, bel1 _ _⟩; unfold owner; rw [if_neg]; omega)
      | (go_ret; refine ⟨ret_int ?_, Below.refl _ _⟩; unfold owner; rw [if_pos]; omega)
def firstS (b n : Int) : Bool := decide (3 ≤ n ∧ n ≤ 9 ∧ 1 ≤ b ∧ b ≤ n)
theorem First_any (b n : Int) (w : World) :
    Calls Try.prog 24 #[.int .i64 b, .int .i64 n] w fun e w' => e = .returned (.bool (firstS b n)) ∧ w = w' := by
  by_cases h1 : n < 3 ∨ 9 < n
  · have hm := mayN_no h1
    have H := Lib.hid h1; clear h1
    go_enter Try.func24, Try.ntmps24
    go_wp2_with (go_at_call 29; refine (may_any _ _).mono ?_; rintro e w' ⟨rfl, rfl⟩)
    go_ret
    exact ⟨ret_bool (by unfold firstS; have := H.out; simp; omega), rfl⟩
  · have h2 : 3 ≤ n := by omega
    have h3 : n ≤ 9 := by omega
    have hm := mayN_yes h2 h3
    clear h1
    go_enter Try.func24, Try.ntmps24
    go_wp2_with (go_at_call 29; refine (may_any _ _).mono ?_; rintro e w' ⟨rfl, rfl⟩)
    all_goals
      go_ret
      refine ⟨ret_bool ?_, rfl⟩
      unfold firstS
      first | (rw [Bool.eq_iff_iff, decide_eq_true_iff, decide_eq_true_iff]; omega) | (symm; rw [decide_eq_true_iff]; omega) | (symm; rw [decide_eq_false_iff_not]; omega)
set_option maxHeartbeats 400000 in
theorem rOwner_any (b n : Int) (w : World) :
    Calls Try.prog 23 #[.int .i64 b, .int .i64 n] w fun e w' => e = .returned (.int .i64 (owner b n)) ∧ w = w' := by
  have h1 : 3 ≤ n → 0 ≤ (b - 1) % n := fun h => Int.emod_nonneg (b - 1) (show n ≠ 0 by omega)
  have h2 : 3 ≤ n → (b - 1) % n < n := fun h => Int.emod_lt_of_pos (b - 1) (show 0 < n by omega)
  go_enter Try.func23, Try.ntmps23
  go_wp2
  all_goals first
    | (exfalso; omega)
    | (go_ret; refine ⟨ret_int ?_, rfl⟩; unfold owner; rw [if_neg]; unfold ownS <;> omega; omega)
    | (go_ret; refine ⟨ret_int ?_, rfl⟩; unfold owner; rw [if_pos]; omega)

/-! the next ballot -/
/-- The first ballot of a replica above m. -/
def cand (m self n : Int) : Int := m + 1 + (self - ownS (m + 1) n) % n
def big (b n : Int) : Int := if b < n then n else b
def nextN (b self n : Int) : Int := if n < 3 ∨ 9 < n ∨ self < 1 ∨ n < self ∨ b < 0 ∨ 1000000 < b then 0 else if 1000000 < cand (big b n) self n then 0 else cand (big b n) self n
def nextE (b self n : Int) : Int := if n < 3 ∨ 9 < n ∨ self < 1 ∨ n < self ∨ b < 0 ∨ 1000000 < b then 2 else if 1000000 < cand (big b n) self n then 8 else 0
set_option maxHeartbeats 1000000 in
theorem Next_any (b self n : Int) (w : World) :
    Calls Try.prog 20 #[.int .i64 b, .int .i64 self, .int .i64 n] w fun e w' => e = .returned (.tuple #[.int .i64 (nextN b self n), .int .i64 (nextE b self n)]) ∧ Below w.heap.size w w' := by
  by_cases h1 : n < 3 ∨ 9 < n
  · have HN : Hid (nextN b self n = 0) := by unfold nextN; rw [if_pos (by omega)]; rfl
    have HE : Hid (nextE b self n = 2) := by unfold nextE; rw [if_pos (by omega)]; rfl
    have hm := mayN_no h1
    clear h1
    go_enter Try.func20, Try.ntmps20
    go_wp2_with (go_at_call 29; refine (may_any _ _).mono ?_; rintro e w' ⟨rfl, rfl⟩)
    go_ret2
    exact ⟨ret_int2 HN.out.symm HE.out.symm, Below.refl _ _⟩
  have h2 : 3 ≤ n := by omega
  have h3 : n ≤ 9 := by omega
  have hm := mayN_yes h2 h3
  clear h1
  by_cases hb : b < n
  · have hB : Hid (big b n = n) := by unfold big; rw [if_pos hb]; rfl
    obtain ⟨o1, o2⟩ := ownS_bd (n + 1) n h2
    have r1 := Int.emod_nonneg (self - ownS (n + 1) n) (show n ≠ 0 by omega)
    have r2 := Int.emod_lt_of_pos (self - ownS (n + 1) n) (show 0 < n by omega)
    go_enter Try.func20, Try.ntmps20
    go_wp2_with (first | (go_at_call 29; refine (may_any _ _).mono ?_; rintro e w' ⟨rfl, rfl⟩) | (go_at_call 30; refine (owners_any _ _).mono ?_; rintro e w' ⟨rfl, rfl⟩) | (go_at_call 35; refine (own1_any _ n _ _ (by simp [go_sem]) (by omega) (by omega) h2 h3).mono ?_; rintro e w' ⟨rfl, rfl⟩))
    all_goals first
      | (exfalso; omega)
      | (go_ret2; refine ⟨ret_int2 ?_ ?_, Below.refl _ _⟩; (unfold nextN; rw [if_pos]; omega); (unfold nextE; rw [if_pos]; omega))
      | (go_ret2; exact ⟨ret_int2 (by unfold nextN; rw [if_neg (by omega), hB.out]; unfold cand; split <;> omega) (by unfold nextE; rw [if_neg (by omega), hB.out]; unfold cand; split <;> omega), bel1 _ _⟩)
  · have hB : Hid (big b n = b) := by unfold big; rw [if_neg hb]; rfl
    obtain ⟨o1, o2⟩ := ownS_bd (b + 1) n h2
    have r1 := Int.emod_nonneg (self - ownS (b + 1) n) (show n ≠ 0 by omega)
    have r2 := Int.emod_lt_of_pos (self - ownS (b + 1) n) (show 0 < n by omega)
    go_enter Try.func20, Try.ntmps20
    go_wp2_with (first | (go_at_call 29; refine (may_any _ _).mono ?_; rintro e w' ⟨rfl, rfl⟩) | (go_at_call 30; refine (owners_any _ _).mono ?_; rintro e w' ⟨rfl, rfl⟩) | (go_at_call 35; refine (own1_any _ n _ _ (by simp [go_sem]) (by omega) (by omega) h2 h3).mono ?_; rintro e w' ⟨rfl, rfl⟩))
    all_goals first
      | (exfalso; omega)
      | (go_ret2; refine ⟨ret_int2 ?_ ?_, Below.refl _ _⟩; (unfold nextN; rw [if_pos]; omega); (unfold nextE; rw [if_pos]; omega))
      | (go_ret2; exact ⟨ret_int2 (by unfold nextN; rw [if_neg (by omega), hB.out]; unfold cand; split <;> omega) (by unfold nextE; rw [if_neg (by omega), hB.out]; unfold cand; split <;> omega), bel1 _ _⟩)
end Go.Proofs.Ythgpjbpkcpbcoaa
