/- Messages: their value, and when two are the same. -/
import Derived.Test.YtlpplnmmcgdooaaGreatDoorSame
import Derived.Lib.Strings
namespace Go.Proofs.YtlpplnmmcgdooaaGreatDoor
open Go.RowKit Go.Sort Go.Lib

/-- A message: its fields, and where its rows lie. -/
structure PM where
  k : Int
  fr : Int
  id : Int
  t : Int
  bal : Int
  abal : Int
  ph : Int
  q : Int
  pay : ByteArray
  lo : Int
  hi : Int
  aA : Option Addr
  aC : Nat
  ats : Array (Int × Int)
  mA : Option Addr
  mC : Nat
  mks : Array Int
  dn : Int
def msgV (m : PM) : Value := .agg #[.int .i64 m.k, .int .i64 m.fr, .int .i64 m.id, .int .i64 m.t, .int .i64 m.bal, .int .i64 m.abal, .int .i64 m.ph, .int .i64 m.q, .string m.pay, .int .i64 m.lo, .int .i64 m.hi, .slice m.aA m.ats.size m.aC, .slice m.mA m.mks.size m.mC, .int .i64 m.dn]
def msgC (m : PM) : Array Value := #[.int .i64 m.k, .int .i64 m.fr, .int .i64 m.id, .int .i64 m.t, .int .i64 m.bal, .int .i64 m.abal, .int .i64 m.ph, .int .i64 m.q, .string m.pay, .int .i64 m.lo, .int .i64 m.hi, .slice m.aA m.ats.size m.aC, .slice m.mA m.mks.size m.mC, .int .i64 m.dn]
/-- Its rows read as they should, and are not too long. -/
structure RdM (w : World) (m : PM) : Prop where
  ra : RdK encA 2 w.heap.size w m.aA m.ats
  rm : RdI w.heap.size w m.mA m.mks
  sa : m.ats.size ≤ 1000000
  sm : m.mks.size ≤ 1000000
  sp : m.pay.size ≤ 1000000
theorem RdM.next {w w' : World} {m : PM} (h : RdM w m) (hb : Below w.heap.size w w') : RdM w' m := ⟨h.ra.next hb, h.rm.next hb, h.sa, h.sm, h.sp⟩
/-- Are two the same? -/
def sameM (a b : PM) : Bool := decide (a.k = b.k ∧ a.fr = b.fr ∧ a.id = b.id ∧ a.t = b.t ∧ a.bal = b.bal ∧ a.abal = b.abal ∧ a.ph = b.ph ∧ a.q = b.q ∧ a.pay = b.pay ∧ a.lo = b.lo ∧ a.hi = b.hi ∧ a.dn = b.dn ∧ a.ats = b.ats ∧ a.mks = b.mks)
theorem str_eq {a b : ByteArray} : (a.toList == b.toList) = decide (a = b) := by
  by_cases h : a = b
  · subst h; simp
  · have : a.toList ≠ b.toList := fun e => h (by
      rw [Lib.toList_data, Lib.toList_data] at e
      exact ByteArray.ext (Array.ext' e))
    simp [h, this]
end Go.Proofs.YtlpplnmmcgdooaaGreatDoor
