/- Contracts of the plain functions of ident and of rubatoref02: what each returns, for every input. -/
import Derived.Test.YtgpejfkmdenonaaBase
namespace Go.Proofs.Ytgpejfkmdenonaa
open Go.RowKit

def makeN (self seq : Int) : Int := if self < 1 ∨ 9 < self ∨ seq < 1 ∨ 99999 < seq then 0 else seq * 10 + self
def makeE (self seq : Int) : Int := if self < 1 ∨ 9 < self ∨ seq < 1 ∨ 99999 < seq then 2 else 0
def badId (id : Int) : Prop := id < 10 ∨ 999999 < id ∨ id % 10 = 0
def checkE (id : Int) : Int := if id < 10 ∨ 999999 < id ∨ id % 10 = 0 then 31 else 0
def selfN_I (id : Int) : Int := if id < 10 ∨ 999999 < id ∨ id % 10 = 0 then 0 else id % 10
def seqN_I (id : Int) : Int := if id < 10 ∨ 999999 < id ∨ id % 10 = 0 then 0 else id / 10

set_option maxHeartbeats 400000 in
theorem Check_any_I (id : Int) (w : World) :
    Calls Try.prog 50 #[.int .i64 id] w fun e w' => e = .returned (.int .i64 (checkE id)) ∧ w = w' := by
  go_enter Try.func50, Try.ntmps50
  go_wp2
  all_goals
    go_ret
    exact ⟨ret_int (by unfold checkE; split <;> simp_all <;> omega), rfl⟩
theorem checkE_bad {id : Int} (h : id < 10 ∨ 999999 < id ∨ id % 10 = 0) : checkE id = 31 := by unfold checkE; rw [if_pos h]
theorem checkE_ok {id : Int} (h : ¬ (id < 10 ∨ 999999 < id ∨ id % 10 = 0)) : checkE id = 0 := by unfold checkE; rw [if_neg h]
set_option maxHeartbeats 400000 in
theorem rSplit_any_I (id : Int) (w : World) :
    Calls Try.prog 58 #[.int .i64 id] w fun e w' => e = .returned (.tuple #[.int .i64 (selfN_I id), .int .i64 (seqN_I id)]) ∧ w = w' := by
  go_enter Try.func58, Try.ntmps58
  go_wp2
  all_goals
    go_ret2
    exact ⟨ret_int2 (by unfold selfN_I; split <;> simp_all <;> omega) (by unfold seqN_I; split <;> simp_all <;> omega), rfl⟩

/-! ballots -/
def mayN (n : Int) : Bool := decide (3 ≤ n ∧ n ≤ 9)
def ownS (b n : Int) : Int := (b - 1) % n + 1
theorem ownS_bd (b n : Int) (h : 3 ≤ n) : 1 ≤ ownS b n ∧ ownS b n ≤ n := by
  unfold ownS; have := Int.emod_nonneg (b - 1) (show n ≠ 0 by omega); have := Int.emod_lt_of_pos (b - 1) (show 0 < n by omega); omega
def owner (b n : Int) : Int := if n < 3 ∨ 9 < n ∨ b < 1 ∨ 1000000 < b then 0 else ownS b n
theorem mayN_yes {n : Int} (h : 3 ≤ n) (h' : n ≤ 9) : mayN n = true := by unfold mayN; simp; omega
theorem mayN_no {n : Int} (h : n < 3 ∨ 9 < n) : mayN n = false := by unfold mayN; simp; omega
def firstS (b n : Int) : Bool := decide (3 ≤ n ∧ n ≤ 9 ∧ 1 ≤ b ∧ b ≤ n)
/-! the next ballot -/
/-- The first ballot of a replica above m. -/
def cand (m self n : Int) : Int := m + 1 + (self - ownS (m + 1) n) % n
def big_I (b n : Int) : Int := if b < n then n else b
def nextN (b self n : Int) : Int := if n < 3 ∨ 9 < n ∨ self < 1 ∨ n < self ∨ b < 0 ∨ 1000000 < b then 0 else if 1000000 < cand (big_I b n) self n then 0 else cand (big_I b n) self n
def nextE (b self n : Int) : Int := if n < 3 ∨ 9 < n ∨ self < 1 ∨ n < self ∨ b < 0 ∨ 1000000 < b then 2 else if 1000000 < cand (big_I b n) self n then 8 else 0
end Go.Proofs.Ytgpejfkmdenonaa
