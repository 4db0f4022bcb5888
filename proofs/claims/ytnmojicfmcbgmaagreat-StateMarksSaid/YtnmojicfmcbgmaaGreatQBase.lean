/- Small words of our own: results, regions that read and call in worlds that have only grown, slices that read as lists. Contracts of the plain functions of ident and of rubatoref02: what each returns, for every input. -/
import Derived.WalkKit
import Derived.WalkSpells
import Derived.Outline
import Derived.Deep.QuietTactic
import Derived.BigQuiet
import Derived.BigGuardPart
import Derived.WalkLawsBesides
import Derived.Lib.Hide
import Derived.Deep.Quiet
import Derived.StillTailTactics
import Derived.Test.YtnmojicfmcbgmaaGreatRows
namespace Go.Proofs.YtnmojicfmcbgmaaGreat
open Go.RowKit

theorem ret_int {k : IntKind} {a b : Int} (h : a = b) : Ending.returned (.int k a) = .returned (.int k b) := by rw [h]
theorem ret_int2 {k k' : IntKind} {a b c d : Int} (h : a = b) (h' : c = d) : Ending.returned (.tuple #[.int k a, .int k' c]) = .returned (.tuple #[.int k b, .int k' d]) := by rw [h, h']
theorem ret_bool {a b : Bool} (h : a = b) : Ending.returned (.bool a) = .returned (.bool b) := by rw [h]
theorem bel1 (w : World) (o : Obj) : Below w.heap.size w (w.alloc o) := (Below.refl _ _).alloc (Nat.le_refl _) _
theorem belDrewN {B : Nat} {a w : World} (h : Below B a w) (n : Nat) : Below B a (w.drewN n) := ⟨h.os, h.tape, h.output, h.size, h.block⟩

theorem belStep {w a b : World} (h : Below w.heap.size w a) (k : Below a.heap.size a b) : Below w.heap.size w b := h.trans (k.mono h.size)
theorem belAlloc {w a : World} (h : Below w.heap.size w a) (o : Obj) : Below w.heap.size w (a.alloc o) := h.alloc h.size o

/-- A world in which all that lay in w is as it was. -/
structure ExtW (w : World) where
  to : World
  h : Below w.heap.size w to

instance (w : World) : Inhabited (ExtW w) := ⟨⟨w, Below.refl _ _⟩⟩

theorem ExtW.cell {w : World} {a : Addr} {v : Value} (hb : a.block < w.heap.size) (h : w.cell? a = some v) (p : ExtW w) : p.to.cell? a = some v := by
  rw [p.h.cell hb]; exact h

/-- A region that draws its order, whose operations read what lay in w and whose callees change nothing that lay there: one walk, in the order of the text. -/
theorem wp_region_ext {P : Program} {id : Nat} {Q : Exit → Act → World → Prop} {a : Act} {w : World} {l : List Oper} (hm : P.follows .mixedOrders = true) (hB : Region.lexB .any l.toArray = true)
    (h : wpQuiet P l.toArray (fun w' => ∃ p : ExtW w, w' = p.to) (fun a' => ∀ w', (∃ p : ExtW w, w' = p.to) → Q .normal a' w') l a) : (Code.region id l.toArray true).wp P Q a w :=
  wp_region_quiet (C := fun w' => ∃ p : ExtW w, w' = p.to) hm hB ⟨⟨w.drew, (Below.refl _ _).drew⟩, rfl⟩ (by simpa using h)

theorem Calls.ext_of {P : Program} {f : FuncId} {args : Array Value} {w : World} {p : ExtW w} {v : Value}
    (h : Calls P f args p.to fun e w' => e = .returned v ∧ Below p.to.heap.size p.to w') : Calls P f args p.to fun e w'' => e = .returned v ∧ ∃ q : ExtW w, w'' = q.to :=
  h.mono fun _ w' ⟨he, hq⟩ => ⟨he, ⟨w', p.h.trans (hq.mono p.h.size)⟩, rfl⟩
theorem Calls.ext_same {P : Program} {f : FuncId} {args : Array Value} {w : World} {p : ExtW w} {v : Value}
    (h : Calls P f args p.to fun e w' => e = .returned v ∧ p.to = w') : Calls P f args p.to fun e w'' => e = .returned v ∧ ∃ q : ExtW w, w'' = q.to :=
  h.mono fun _ _ ⟨he, hq⟩ => ⟨he, p, hq.symm⟩
/-- A region that draws its order: reads and calls that leave the world alone, then a tail in one order. -/
theorem wp_region_tail {P : Program} {id : Nat} {Q : Exit → Act → World → Prop} {a : Act} {w : World} {l : List Oper} (n : Nat) (hm : P.follows .mixedOrders = true) (hB : Region.lexTailB .any l.toArray n = true)
    (h : wpStill P l.toArray w.drew (fun a' => wpList P l.toArray Q (l.drop n) a' w.drew) (l.take n) a) : (Code.region id l.toArray true).wp P Q a w :=
  wp_region_still_tail n hm hB h
theorem results_none0 {fn : Func} (h : fn.results = #[]) (tmps : Array Value) (P : Program) (w : World) : (results fn tmps).run P w = .ok (.tuple #[]) w := by simp [results, h]

end Go.Proofs.YtnmojicfmcbgmaaGreat
namespace Go.Proofs.YtnmojicfmcbgmaaGreat
open Go.RowKit
def checkE (id : Int) : Int := if id < 10 ∨ 999999 < id ∨ id % 10 = 0 then 31 else 0
def selfN_I (id : Int) : Int := if id < 10 ∨ 999999 < id ∨ id % 10 = 0 then 0 else id % 10
def seqN_I (id : Int) : Int := if id < 10 ∨ 999999 < id ∨ id % 10 = 0 then 0 else id / 10

set_option maxHeartbeats 400000 in
theorem Check_any_I (id : Int) (w : World) :
    Calls Tryz.prog 86 #[.int .i64 id] w fun e w' => e = .returned (.int .i64 (checkE id)) ∧ w = w' := by
  go_enter Tryz.func86, Tryz.ntmps86
  go_wp2
  all_goals
    go_ret
    exact ⟨ret_int (by unfold checkE; split <;> simp_all <;> omega), rfl⟩
theorem checkE_bad {id : Int} (h : id < 10 ∨ 999999 < id ∨ id % 10 = 0) : checkE id = 31 := by unfold checkE; rw [if_pos h]
theorem checkE_ok {id : Int} (h : ¬ (id < 10 ∨ 999999 < id ∨ id % 10 = 0)) : checkE id = 0 := by unfold checkE; rw [if_neg h]
theorem Self_any (id : Int) (w : World) :
    Calls Tryz.prog 64 #[.int .i64 id] w fun e w' => e = .returned (.int .i64 (selfN_I id)) ∧ w = w' := by
  by_cases h : id < 10 ∨ 999999 < id ∨ id % 10 = 0
  · have hc := checkE_bad h
    have H := Lib.hid h; clear h
    go_enter Tryz.func64, Tryz.ntmps64
    go_wp2_with (go_at_call 86; refine (Check_any_I _ _).mono ?_; rintro e w' ⟨rfl, rfl⟩)
    go_ret
    exact ⟨ret_int (by unfold selfN_I; rw [if_pos H.out]), rfl⟩
  · have hc := checkE_ok h
    have h0 : 0 ≤ id := by omega
    have h9 : id ≤ 999999 := by omega
    have H := Lib.hid h; clear h
    go_enter Tryz.func64, Tryz.ntmps64
    go_wp2_with (go_at_call 86; refine (Check_any_I _ _).mono ?_; rintro e w' ⟨rfl, rfl⟩)
    go_ret
    exact ⟨ret_int (by unfold selfN_I; rw [if_neg H.out]), rfl⟩
theorem Seq_any (id : Int) (w : World) :
    Calls Tryz.prog 66 #[.int .i64 id] w fun e w' => e = .returned (.int .i64 (seqN_I id)) ∧ w = w' := by
  by_cases h : id < 10 ∨ 999999 < id ∨ id % 10 = 0
  · have hc := checkE_bad h
    have H := Lib.hid h; clear h
    go_enter Tryz.func66, Tryz.ntmps66
    go_wp2_with (go_at_call 86; refine (Check_any_I _ _).mono ?_; rintro e w' ⟨rfl, rfl⟩)
    go_ret
    exact ⟨ret_int (by unfold seqN_I; rw [if_pos H.out]), rfl⟩
  · have hc := checkE_ok h
    have h0 : 0 ≤ id := by omega
    have h9 : id ≤ 999999 := by omega
    have H := Lib.hid h; clear h
    go_enter Tryz.func66, Tryz.ntmps66
    go_wp2_with (go_at_call 86; refine (Check_any_I _ _).mono ?_; rintro e w' ⟨rfl, rfl⟩)
    go_ret
    exact ⟨ret_int (by unfold seqN_I; rw [if_neg H.out]), rfl⟩
set_option maxHeartbeats 400000 in
theorem rSplit_any_I (id : Int) (w : World) :
    Calls Tryz.prog 36 #[.int .i64 id] w fun e w' => e = .returned (.tuple #[.int .i64 (selfN_I id), .int .i64 (seqN_I id)]) ∧ w = w' := by
  go_enter Tryz.func36, Tryz.ntmps36
  go_wp2
  all_goals
    go_ret2
    exact ⟨ret_int2 (by unfold selfN_I; split <;> simp_all <;> omega) (by unfold seqN_I; split <;> simp_all <;> omega), rfl⟩

/-! ballots -/
/-! the next ballot -/
end Go.Proofs.YtnmojicfmcbgmaaGreat
