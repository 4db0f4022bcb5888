/- Small words of our own: results, regions that read and call in worlds that have only grown, slices that read as lists. Numbers as bytes, in plain words: what is laid, what is read, and that the one comes back of the other. Pieces of bytes, in plain words: rows, texts and flags laid and read; what was laid is read, and what is read was laid. num.great, num.Get and the document's Get: what is read as a number. The document's Get: the same numbers. num.Size, num.Put and the document's Put: a number's bytes. num.Put and the document's Put. strings.Builder in a block of the call's own, alone or ahead of other fields: copyCheck, WriteString, String. Contracts of the plain functions of ident and of rubatoref02: what each returns, for every input. -/
import Derived.WalkKit
import Derived.WalkSpells
import Derived.Outline
import Derived.Deep.QuietTactic
import Derived.BigQuiet
import Derived.BigGuardPart
import Derived.WalkLawsBesides
import Derived.Lib.Hide
import Derived.Deep.Quiet
import Derived.StillTailTactics
import Derived.Test.YtnmojicfmcbgmaaGreatDoorRows
import Derived.Laws.BitsAllLaws
import Derived.Laws.BitsLemmas
import Derived.IntWalk
import Derived.Laws.IdiomStrings
import Derived.Laws.MakeOwn
import Derived.Test.YtnmojicfmcbgmaaGreatDoorShelf
import Derived.Lib.Builder
import Derived.Lib.AppendStr
import Derived.Lib.UnsafeStr
import Derived.RegionTactic
import Derived.Laws.Externs
import Derived.OwnWalk
namespace Go.Proofs.YtnmojicfmcbgmaaGreatDoor
open Go.RowKit

theorem ret_int {k : IntKind} {a b : Int} (h : a = b) : Ending.returned (.int k a) = .returned (.int k b) := by rw [h]
theorem ret_bool {a b : Bool} (h : a = b) : Ending.returned (.bool a) = .returned (.bool b) := by rw [h]
theorem bel1 (w : World) (o : Obj) : Below w.heap.size w (w.alloc o) := (Below.refl _ _).alloc (Nat.le_refl _) _
theorem belDrewN {B : Nat} {a w : World} (h : Below B a w) (n : Nat) : Below B a (w.drewN n) := ⟨h.os, h.tape, h.output, h.size, h.block⟩

theorem belStep {w a b : World} (h : Below w.heap.size w a) (k : Below a.heap.size a b) : Below w.heap.size w b := h.trans (k.mono h.size)
theorem belAlloc {w a : World} (h : Below w.heap.size w a) (o : Obj) : Below w.heap.size w (a.alloc o) := h.alloc h.size o

/-- A world in which all that lay in w is as it was. -/
structure ExtW (w : World) where
  to : World
  h : Below w.heap.size w to

instance (w : World) : Inhabited (ExtW w) := ⟨⟨w, Below.refl _ _⟩⟩

theorem ExtW.cell {w : World} {a : Addr} {v : Value} (hb : a.block < w.heap.size) (h : w.cell? a = some v) (p : ExtW w) : p.to.cell? a = some v := by
  rw [p.h.cell hb]; exact h

/-- A region that draws its order, whose operations read what lay in w and whose callees change nothing that lay there: one walk, in the order of the text. -/
theorem wp_region_ext {P : Program} {id : Nat} {Q : Exit → Act → World → Prop} {a : Act} {w : World} {l : List Oper} (hm : P.follows .mixedOrders = true) (hB : Region.lexB .any l.toArray = true)
    (h : wpQuiet P l.toArray (fun w' => ∃ p : ExtW w, w' = p.to) (fun a' => ∀ w', (∃ p : ExtW w, w' = p.to) → Q .normal a' w') l a) : (Code.region id l.toArray true).wp P Q a w :=
  wp_region_quiet (C := fun w' => ∃ p : ExtW w, w' = p.to) hm hB ⟨⟨w.drew, (Below.refl _ _).drew⟩, rfl⟩ (by simpa using h)

theorem Calls.ext_of {P : Program} {f : FuncId} {args : Array Value} {w : World} {p : ExtW w} {v : Value}
    (h : Calls P f args p.to fun e w' => e = .returned v ∧ Below p.to.heap.size p.to w') : Calls P f args p.to fun e w'' => e = .returned v ∧ ∃ q : ExtW w, w'' = q.to :=
  h.mono fun _ w' ⟨he, hq⟩ => ⟨he, ⟨w', p.h.trans (hq.mono p.h.size)⟩, rfl⟩
theorem Calls.ext_same {P : Program} {f : FuncId} {args : Array Value} {w : World} {p : ExtW w} {v : Value}
    (h : Calls P f args p.to fun e w' => e = .returned v ∧ p.to = w') : Calls P f args p.to fun e w'' => e = .returned v ∧ ∃ q : ExtW w, w'' = q.to :=
  h.mono fun _ _ ⟨he, hq⟩ => ⟨he, p, hq.symm⟩
/-- A region that draws its order: reads and calls that leave the world alone, then a tail in one order. -/
theorem wp_region_tail {P : Program} {id : Nat} {Q : Exit → Act → World → Prop} {a : Act} {w : World} {l : List Oper} (n : Nat) (hm : P.follows .mixedOrders = true) (hB : Region.lexTailB .any l.toArray n = true)
    (h : wpStill P l.toArray w.drew (fun a' => wpList P l.toArray Q (l.drop n) a' w.drew) (l.take n) a) : (Code.region id l.toArray true).wp P Q a w :=
  wp_region_still_tail n hm hB h
end Go.Proofs.YtnmojicfmcbgmaaGreatDoor
namespace Go.Proofs.YtnmojicfmcbgmaaGreatDoor.Nb

/-- The bytes of a number, the greatest first, without noughts ahead. -/
def be (n : Nat) : List UInt8 := if _h : n = 0 then [] else be (n / 256) ++ [UInt8.ofNat (n % 256)]
  termination_by n
  decreasing_by omega
def numB (n : Nat) : List UInt8 := if n < 128 then [UInt8.ofNat n] else UInt8.ofNat (128 + (be n).length) :: be n
def val (l : List UInt8) : Nat := l.foldl (fun a b => 256 * a + b.toNat) 0
/-- What is read: a number and how many bytes it took, or an error. -/
inductive GR where
  | ok (n k : Nat)
  | no (e : Nat)
  deriving DecidableEq
def getL : List UInt8 → GR
  | [] => .no 4
  | b :: t => if b.toNat < 128 then .ok b.toNat 1 else if b.toNat = 128 ∨ 136 < b.toNat then .no 5 else if t.length < b.toNat - 128 then .no 4
    else if t.head? = some 0 ∨ val (t.take (b.toNat - 128)) < 128 then .no 5 else if 9223372036854775807 < val (t.take (b.toNat - 128)) then .no 3 else .ok (val (t.take (b.toNat - 128))) (1 + (b.toNat - 128))
theorem be_zero : be 0 = [] := by rw [be]; simp
theorem be_pos {n : Nat} (h : n ≠ 0) : be n = be (n / 256) ++ [UInt8.ofNat (n % 256)] := by rw [be]; simp [h]
theorem val_snoc (l : List UInt8) (b : UInt8) : val (l ++ [b]) = 256 * val l + b.toNat := by simp [val, List.foldl_append]
theorem toNat_ofNat {n : Nat} (h : n < 256) : (UInt8.ofNat n).toNat = n := by
  simp [UInt8.toNat_ofNat']; omega
theorem val_be (n : Nat) : val (be n) = n := by
  induction n using Nat.strongRecOn with
  | _ n ih =>
    by_cases h : n = 0
    · subst h; rw [be_zero]; rfl
    · rw [be_pos h, val_snoc, ih (n / 256) (by omega), toNat_ofNat (by omega)]; omega
theorem be_len (n : Nat) : ∀ k, n < 256 ^ k → (be n).length ≤ k := by
  induction n using Nat.strongRecOn with
  | _ n ih =>
    intro k hk
    by_cases h : n = 0
    · subst h; rw [be_zero]; simp
    · cases k with
      | zero => simp at hk; omega
      | succ k =>
        rw [be_pos h, List.length_append]
        have := ih (n / 256) (by omega) k (by rw [Nat.pow_succ] at hk; exact Nat.div_lt_of_lt_mul (by omega))
        simp; omega
theorem be_pos_len {n : Nat} (h : n ≠ 0) : 0 < (be n).length := by rw [be_pos h]; simp
theorem be_head (n : Nat) : (be n).head? ≠ some 0 := by
  induction n using Nat.strongRecOn with
  | _ n ih =>
    by_cases h : n = 0
    · subst h; rw [be_zero]; simp
    · rw [be_pos h]
      by_cases h2 : n / 256 = 0
      · rw [h2, be_zero]
        simp only [List.nil_append, List.head?_cons]
        intro e
        injection e with e
        have : (UInt8.ofNat (n % 256)).toNat = 0 := by rw [e]; rfl
        rw [toNat_ofNat (by omega)] at this
        omega
      · have := ih (n / 256) (by omega)
        have hl := be_pos_len h2
        match hb : be (n / 256), hl with
        | x :: xs, _ => rw [hb] at this; simpa using this
theorem val_go (l : List UInt8) : ∀ a : Nat, l.foldl (fun a b => 256 * a + b.toNat) a = a * 256 ^ l.length + val l := by
  induction l with
  | nil => intro a; simp [val]
  | cons b l ih =>
    intro a
    have h1 := ih (256 * a + b.toNat)
    have h2 := ih (256 * 0 + b.toNat)
    simp only [val, List.foldl_cons, List.length_cons] at h1 h2 ⊢
    rw [h1, h2, Nat.pow_succ, Nat.mul_zero, Nat.zero_add, Nat.add_mul]
    have : 256 * a * 256 ^ l.length = a * (256 ^ l.length * 256) := by rw [Nat.mul_comm 256 a, Nat.mul_assoc, Nat.mul_comm 256]
    omega
theorem val_cons (b : UInt8) (l : List UInt8) : val (b :: l) = b.toNat * 256 ^ l.length + val l := by
  have := val_go l (256 * 0 + b.toNat)
  simpa [val] using this
theorem val_lt (l : List UInt8) : val l < 256 ^ l.length := by
  induction l with
  | nil => simp [val]
  | cons b l ih =>
    rw [val_cons, List.length_cons, Nat.pow_succ]
    have hb := b.toNat_lt
    have : b.toNat * 256 ^ l.length + 256 ^ l.length ≤ 256 ^ l.length * 256 := by
      rw [← Nat.succ_mul, Nat.mul_comm]
      exact Nat.mul_le_mul_left _ (by omega)
    omega
/-- Bytes with no nought ahead are those of their value. -/
theorem be_val (l : List UInt8) (h : l.head? ≠ some 0) : be (val l) = l := by
  have key : ∀ n, ∀ l : List UInt8, l.length = n → l.head? ≠ some 0 → be (val l) = l := by
    intro n
    induction n with
    | zero => intro l hl _; rw [List.length_eq_zero_iff.1 hl]; exact be_zero
    | succ n ih =>
      intro l hl h
      rcases List.eq_nil_or_concat l with e | ⟨m, b, e⟩
      · subst e; simp at hl
      · rw [List.concat_eq_append] at e
        subst e
        have hb := b.toNat_lt
        have hm : m.head? ≠ some 0 := by
          cases m with
          | nil => simp
          | cons x m => simpa using h
        have hv := ih m (by simpa using hl) hm
        have hne : val (m ++ [b]) ≠ 0 := by
          intro h0
          rw [val_snoc] at h0
          have hm0 : val m = 0 := by omega
          rw [hm0, be_zero] at hv
          subst hv
          have hb0 : b.toNat = 0 := by omega
          exact h (by simp; exact UInt8.toNat_inj.1 hb0)
        rw [be_pos hne, val_snoc]
        have e1 : (256 * val m + b.toNat) / 256 = val m := by omega
        have e2 : (256 * val m + b.toNat) % 256 = b.toNat := by omega
        rw [e1, e2, hv]
        congr 1
        simp
  exact key _ l rfl h
theorem numB_len (n : Nat) (h : n ≤ 9223372036854775807) : (numB n).length ≤ 9 := by
  unfold numB
  split
  · simp
  · have := be_len n 8 (by omega)
    simp; omega
theorem numB_pos (n : Nat) : 0 < (numB n).length := by unfold numB; split <;> simp
/-- A number comes back of its bytes. -/
theorem getL_numB (n : Nat) (h : n ≤ 9223372036854775807) (t : List UInt8) : getL (numB n ++ t) = .ok n (numB n).length := by
  unfold numB
  split
  · rename_i h1
    simp only [List.cons_append, List.nil_append, getL]
    rw [toNat_ofNat (by omega), if_pos h1]
    simp
  · rename_i h1
    have hl := be_len n 8 (by omega)
    have hp := be_pos_len (n := n) (by omega)
    simp only [List.cons_append, getL]
    rw [toNat_ofNat (by omega), if_neg (by omega), if_neg (by omega), if_neg (by simp)]
    have e1 : 128 + (be n).length - 128 = (be n).length := by omega
    rw [e1, List.take_left, val_be, if_neg, if_neg (by omega)]
    · simp <;> omega
    · have := be_head n
      rintro (h2 | h2)
      · match hb : be n, hp with
        | x :: xs, _ => rw [hb] at this h2; simp at this h2; exact this h2
      · exact h1 h2
/-- What is read as a number is just its bytes. -/
theorem getL_ok {s : List UInt8} {n k : Nat} (h : getL s = .ok n k) : s.take k = numB n ∧ k = (numB n).length ∧ k ≤ s.length ∧ n ≤ 9223372036854775807 := by
  cases s with
  | nil => simp [getL] at h
  | cons b t =>
    simp only [getL] at h
    have hb := b.toNat_lt
    split at h
    · rename_i h1
      injection h with h2 h3
      subst h2 h3
      unfold numB
      rw [if_pos h1]
      simp; omega
    · rename_i h1
      split at h
      · cases h
      · rename_i h2
        split at h
        · cases h
        · rename_i h3
          split at h
          · cases h
          · rename_i h4
            split at h
            · cases h
            · rename_i h5
              injection h with h6 h7
              have hd : (t.take (b.toNat - 128)).head? ≠ some 0 := by
                rw [List.head?_take, if_neg (by omega)]
                exact fun e => h4 (Or.inl e)
              have hbv := be_val _ hd
              have e1 : numB n = b :: t.take (b.toNat - 128) := by
                unfold numB
                rw [← h6, if_neg (fun e => h4 (Or.inr e)), hbv, List.length_take, Nat.min_eq_left (by omega)]
                have : 128 + (b.toNat - 128) = b.toNat := by omega
                rw [this, UInt8.ofNat_toNat]
              rw [e1, ← h7]
              refine ⟨?_, ?_, ?_, by omega⟩
              · rw [Nat.add_comm, List.take_succ_cons]
              · simp; omega
              · simp; omega
end Go.Proofs.YtnmojicfmcbgmaaGreatDoor.Nb
namespace Go.Proofs.YtnmojicfmcbgmaaGreatDoor.Nb
def rowB (l : List Nat) : List UInt8 := numB l.length ++ l.flatMap numB
def textB (t : List UInt8) : List UInt8 := numB t.length ++ t
inductive UR where
  | ok (l : List Nat) (k : Nat)
  | no (e : Nat)
def UR.glue (l : List Nat) (k : Nat) : UR → UR
  | .ok m j => .ok (l ++ m) (k + j)
  | .no e => .no e
def unL : Nat → List UInt8 → UR
  | 0, _ => .ok [] 0
  | m + 1, s => match getL s with
    | .no e => .no e
    | .ok n k => (unL m (s.drop k)).glue [n] k
theorem UR.glue_glue (l l' : List Nat) (k k' : Nat) (r : UR) : (r.glue l' k').glue l k = r.glue (l ++ l') (k + k') := by
  cases r <;> simp [UR.glue, Nat.add_assoc]
theorem UR.glue_nil (r : UR) : r.glue [] 0 = r := by cases r <;> simp [UR.glue]
theorem unL_row (l : List Nat) (t : List UInt8) (h : ∀ n ∈ l, n ≤ 9223372036854775807) : unL l.length (l.flatMap numB ++ t) = .ok l (l.flatMap numB).length := by
  induction l with
  | nil => rfl
  | cons n l ih =>
    simp only [List.length_cons, unL, List.flatMap_cons, List.append_assoc]
    rw [getL_numB n (h n (by simp))]
    simp only [List.drop_left]
    rw [ih (fun x hx => h x (by simp [hx]))]
    simp [UR.glue]
theorem unL_ok : ∀ (m : Nat) (s : List UInt8) (l : List Nat) (k : Nat), unL m s = .ok l k → l.length = m ∧ s.take k = l.flatMap numB ∧ k = (l.flatMap numB).length ∧ k ≤ s.length ∧ ∀ n ∈ l, n ≤ 9223372036854775807
  | 0, s, l, k, h => by
    injection h with h1 h2
    subst h1 h2
    simp
  | m + 1, s, l, k, h => by
    simp only [unL] at h
    cases hg : getL s with
    | no e => rw [hg] at h; cases h
    | ok n j =>
      rw [hg] at h
      obtain ⟨g1, g2, g3, g4⟩ := getL_ok hg
      cases hu : unL m (s.drop j) with
      | no e => simp only [hu] at h; cases h
      | ok l' k' =>
        simp only [hu, UR.glue] at h
        injection h with h1 h2
        obtain ⟨a1, a2, a3, a4, a5⟩ := unL_ok m (s.drop j) l' k' hu
        subst h1 h2
        rw [List.length_drop] at a4
        refine ⟨by simp [a1], ?_, ?_, by omega, ?_⟩
        · rw [List.take_add, g1, a2]; simp
        · simp [← g2, ← a3]
        · intro x hx
          simp at hx
          rcases hx with rfl | hx
          · exact g4
          · exact a5 x hx
/-- A reader: a place, and an error's number (0: none). -/
structure RS where
  pos : Nat
  e : Nat
def numR (s : List UInt8) (most : Nat) (r : RS) : RS × Nat := if r.e ≠ 0 then (r, 0) else match getL (s.drop r.pos) with
  | .no e => (⟨r.pos, e⟩, 0)
  | .ok n k => if most < n then (⟨r.pos, 3⟩, 0) else (⟨r.pos + k, 0⟩, n)
def textR (s : List UInt8) (most : Nat) (r : RS) : RS × List UInt8 := if r.e ≠ 0 then (r, []) else match getL (s.drop r.pos) with
  | .no e => (⟨r.pos, e⟩, [])
  | .ok n k => if most < n then (⟨r.pos, 3⟩, []) else if s.length - (r.pos + k) < n then (⟨r.pos, 4⟩, []) else (⟨r.pos + k + n, 0⟩, (s.drop (r.pos + k)).take n)
/-- What is read as a row, at a place. -/
def unrow (s : List UInt8) (top : Nat) : UR := match getL s with
  | .no e => .no e
  | .ok n k => if min top 1000 < n then .no 3 else (unL n (s.drop k)).glue [] k
def rowR (s : List UInt8) (most : Nat) (r : RS) : RS × List Nat := if r.e ≠ 0 then (r, []) else match unrow (s.drop r.pos) most with
  | .no e => (⟨r.pos, e⟩, [])
  | .ok l k => (⟨r.pos + k, 0⟩, l)
def endR (s : List UInt8) (r : RS) : RS := if r.e = 0 ∧ r.pos < s.length then ⟨r.pos, 6⟩ else r
theorem getL_no {s : List UInt8} {e : Nat} (h : getL s = .no e) : e = 3 ∨ e = 4 ∨ e = 5 := by
  cases s with
  | nil => simp [getL] at h; omega
  | cons b t => simp only [getL] at h; (repeat' split at h) <;> first | (cases h; done) | (injection h with h; subst h; simp) 
theorem unL_no : ∀ (m : Nat) (s : List UInt8) (e : Nat), unL m s = .no e → e = 3 ∨ e = 4 ∨ e = 5
  | 0, _, _, h => by cases h
  | m + 1, s, e, h => by
    simp only [unL] at h
    cases hg : getL s with
    | no e' => rw [hg] at h; injection h with h; subst h; exact getL_no hg
    | ok n k =>
      rw [hg] at h
      cases hu : unL m (s.drop k) with
      | no e' => simp only [hu, UR.glue] at h; injection h with h; subst h; exact unL_no m _ _ hu
      | ok l j => simp only [hu, UR.glue] at h; cases h
theorem unrow_no {s : List UInt8} {top e : Nat} (h : unrow s top = .no e) : e = 3 ∨ e = 4 ∨ e = 5 := by
  unfold unrow at h
  cases hg : getL s with
  | no e' => rw [hg] at h; injection h with h; subst h; exact getL_no hg
  | ok n k =>
    rw [hg] at h
    simp only at h
    split at h
    · injection h with h; omega
    · cases hu : unL n (s.drop k) with
      | no e' => simp only [hu, UR.glue] at h; injection h with h; subst h; exact unL_no n _ _ hu
      | ok l j => simp only [hu, UR.glue] at h; cases h
/-! what was laid is read -/
section
variable {s t : List UInt8} {r : RS} {most : Nat}
theorem drop_next {p : List UInt8} (h : s.drop r.pos = p ++ t) : s.drop (r.pos + p.length) = t := by
  rw [← List.drop_drop, h, List.drop_left]
theorem numR_laid {n : Nat} (hr : r.e = 0) (h : s.drop r.pos = numB n ++ t) (hb : n ≤ 9223372036854775807) (hn : n ≤ most) : numR s most r = (⟨r.pos + (numB n).length, 0⟩, n) := by
  unfold numR
  rw [if_neg (by simp [hr]), h, getL_numB n hb]
  simp only
  rw [if_neg (by omega)]
theorem textR_laid {p : List UInt8} (hr : r.e = 0) (h : s.drop r.pos = textB p ++ t) (hb : p.length ≤ 9223372036854775807) (hn : p.length ≤ most) : textR s most r = (⟨r.pos + (textB p).length, 0⟩, p) := by
  unfold textB at h
  rw [List.append_assoc] at h
  have hd := drop_next h
  have hl : s.length - (r.pos + (numB p.length).length) = p.length + t.length := by
    rw [← List.length_drop, hd, List.length_append]
  unfold textR
  rw [if_neg (by simp [hr]), h, getL_numB _ hb]
  simp only
  rw [if_neg (by omega), if_neg (by omega), hd, List.take_left]
  simp [textB, Nat.add_assoc]
theorem rowR_laid {l : List Nat} (hr : r.e = 0) (h : s.drop r.pos = rowB l ++ t) (hl : l.length ≤ most) (hm : most ≤ 1000) (hb : ∀ n ∈ l, n ≤ 9223372036854775807) : rowR s most r = (⟨r.pos + (rowB l).length, 0⟩, l) := by
  unfold rowB at h
  rw [List.append_assoc] at h
  unfold rowR unrow
  rw [if_neg (by simp [hr]), h, getL_numB _ (by omega)]
  simp only
  rw [if_neg (by omega), List.drop_left, unL_row l t hb]
  simp [UR.glue, rowB]
/-! what is read was laid -/
theorem numR_ok {r' : RS} {n : Nat} (h : numR s most r = (r', n)) (he : r'.e = 0) : r.e = 0 ∧ s.drop r.pos = numB n ++ s.drop r'.pos ∧ n ≤ most ∧ n ≤ 9223372036854775807 ∧ (r.pos ≤ s.length → r'.pos ≤ s.length) := by
  unfold numR at h
  split at h
  · rename_i h1; injection h with h2 h3; subst h2; exact absurd he h1
  · rename_i h1
    cases hg : getL (s.drop r.pos) with
    | no e =>
      rw [hg] at h; injection h with h2 h3; subst h2
      have := getL_no hg
      simp at he; omega
    | ok m k =>
      rw [hg] at h
      simp only at h
      split at h
      · injection h with h2 h3; subst h2; simp at he
      · injection h with h2 h3
        subst h2 h3
        obtain ⟨g1, g2, g3, g4⟩ := getL_ok hg
        refine ⟨by simpa using h1, ?_, by omega, g4, ?_⟩
        · rw [← g1, ← List.drop_drop, List.take_append_drop]
        · intro h; simp at g3; simp; omega
theorem textR_ok {r' : RS} {p : List UInt8} (h : textR s most r = (r', p)) (he : r'.e = 0) : r.e = 0 ∧ s.drop r.pos = textB p ++ s.drop r'.pos ∧ p.length ≤ most ∧ (r.pos ≤ s.length → r'.pos ≤ s.length) := by
  unfold textR at h
  split at h
  · rename_i h1; injection h with h2 h3; subst h2; exact absurd he h1
  · rename_i h1
    cases hg : getL (s.drop r.pos) with
    | no e =>
      rw [hg] at h; injection h with h2 h3; subst h2
      have := getL_no hg
      simp at he; omega
    | ok m k =>
      rw [hg] at h
      simp only at h
      split at h
      · injection h with h2 h3; subst h2; simp at he
      · split at h
        · injection h with h2 h3; subst h2; simp at he
        · injection h with h2 h3
          obtain ⟨g1, g2, g3, g4⟩ := getL_ok hg
          have hp : p.length = m := by rw [← h3, List.length_take, List.length_drop]; omega
          subst h2
          refine ⟨by simpa using h1, ?_, by omega, ?_⟩
          · simp only [textB, hp, ← g1]
            have e1 : s.drop (r.pos + k + m) = (s.drop (r.pos + k)).drop m := by rw [List.drop_drop]
            rw [e1, ← h3, List.append_assoc, List.take_append_drop, ← List.drop_drop, List.take_append_drop]
          · intro h; simp at g3; simp; omega
theorem rowR_ok {r' : RS} {l : List Nat} (h : rowR s most r = (r', l)) (he : r'.e = 0) : r.e = 0 ∧ s.drop r.pos = rowB l ++ s.drop r'.pos ∧ l.length ≤ most ∧ (∀ n ∈ l, n ≤ 9223372036854775807) ∧ (r.pos ≤ s.length → r'.pos ≤ s.length) := by
  unfold rowR at h
  split at h
  · rename_i h1; injection h with h2 h3; subst h2; exact absurd he h1
  · rename_i h1
    cases hg : unrow (s.drop r.pos) most with
    | no e =>
      rw [hg] at h; injection h with h2 h3; subst h2
      have := unrow_no hg
      simp at he; omega
    | ok m k =>
      rw [hg] at h
      injection h with h2 h3
      subst h2 h3
      unfold unrow at hg
      cases hn : getL (s.drop r.pos) with
      | no e => rw [hn] at hg; cases hg
      | ok n j =>
        rw [hn] at hg
        simp only at hg
        split at hg
        · cases hg
        · rename_i h4
          obtain ⟨g1, g2, g3, g4⟩ := getL_ok hn
          cases hu : unL n ((s.drop r.pos).drop j) with
          | no e => rw [hu] at hg; cases hg
          | ok l' k' =>
            rw [hu] at hg
            simp only [UR.glue, List.nil_append] at hg
            injection hg with h5 h6
            subst h5 h6
            obtain ⟨a1, a2, a3, a4, a5⟩ := unL_ok n _ _ _ hu
            rw [List.length_drop] at a4
            refine ⟨by simpa using h1, ?_, by omega, a5, ?_⟩
            · simp only [rowB, a1, ← g1, ← a2, List.append_assoc]
              have e1 : s.drop (r.pos + (j + k')) = ((s.drop r.pos).drop j).drop k' := by rw [List.drop_drop, List.drop_drop]
              rw [e1, List.take_append_drop, List.take_append_drop]
            · intro h; rw [List.length_drop] at a4 g3; simp; omega
theorem numR_no {c : Nat} (hr : r.e = 0) (hg : getL (s.drop r.pos) = .no c) : numR s most r = (⟨r.pos, c⟩, 0) := by unfold numR; rw [if_neg (by simp [hr]), hg]
theorem numR_big {n k : Nat} (hr : r.e = 0) (hg : getL (s.drop r.pos) = .ok n k) (hb : most < n) : numR s most r = (⟨r.pos, 3⟩, 0) := by unfold numR; rw [if_neg (by simp [hr]), hg]; simp only; rw [if_pos hb]
theorem numR_fit {n k : Nat} (hr : r.e = 0) (hg : getL (s.drop r.pos) = .ok n k) (hb : ¬ most < n) : numR s most r = (⟨r.pos + k, 0⟩, n) := by unfold numR; rw [if_neg (by simp [hr]), hg]; simp only; rw [if_neg hb]
theorem textR_no {c : Nat} (hr : r.e = 0) (hg : getL (s.drop r.pos) = .no c) : textR s most r = (⟨r.pos, c⟩, []) := by unfold textR; rw [if_neg (by simp [hr]), hg]
theorem textR_big {n k : Nat} (hr : r.e = 0) (hg : getL (s.drop r.pos) = .ok n k) (hb : most < n) : textR s most r = (⟨r.pos, 3⟩, []) := by unfold textR; rw [if_neg (by simp [hr]), hg]; simp only; rw [if_pos hb]
theorem textR_short {n k : Nat} (hr : r.e = 0) (hg : getL (s.drop r.pos) = .ok n k) (hb : ¬ most < n) (hl : s.length - (r.pos + k) < n) : textR s most r = (⟨r.pos, 4⟩, []) := by unfold textR; rw [if_neg (by simp [hr]), hg]; simp only; rw [if_neg hb, if_pos hl]
theorem textR_fit {n k : Nat} (hr : r.e = 0) (hg : getL (s.drop r.pos) = .ok n k) (hb : ¬ most < n) (hl : ¬ s.length - (r.pos + k) < n) : textR s most r = (⟨r.pos + k + n, 0⟩, (s.drop (r.pos + k)).take n) := by unfold textR; rw [if_neg (by simp [hr]), hg]; simp only; rw [if_neg hb, if_neg hl]
theorem rowR_no {c : Nat} (hr : r.e = 0) (hg : unrow (s.drop r.pos) most = .no c) : rowR s most r = (⟨r.pos, c⟩, []) := by unfold rowR; rw [if_neg (by simp [hr]), hg]
theorem rowR_fit {l : List Nat} {k : Nat} (hr : r.e = 0) (hg : unrow (s.drop r.pos) most = .ok l k) : rowR s most r = (⟨r.pos + k, 0⟩, l) := by unfold rowR; rw [if_neg (by simp [hr]), hg]
theorem unrow_ok {top k : Nat} {l : List Nat} (h : unrow s top = .ok l k) : k ≤ s.length ∧ l.length ≤ top := by
  unfold unrow at h
  cases hn : getL s with
  | no e => rw [hn] at h; cases h
  | ok n j =>
    rw [hn] at h
    simp only at h
    split at h
    · cases h
    · obtain ⟨g1, g2, g3, g4⟩ := getL_ok hn
      cases hu : unL n (s.drop j) with
      | no e => rw [hu] at h; cases h
      | ok l' k' =>
        rw [hu] at h
        simp only [UR.glue, List.nil_append] at h
        injection h with h5 h6
        obtain ⟨a1, a2, a3, a4, a5⟩ := unL_ok n _ _ _ hu
        rw [List.length_drop] at a4
        subst h5
        omega
theorem numR_bad (h : r.e ≠ 0) : numR s most r = (r, 0) := by unfold numR; rw [if_pos h]
theorem textR_bad (h : r.e ≠ 0) : textR s most r = (r, []) := by unfold textR; rw [if_pos h]
theorem rowR_bad (h : r.e ≠ 0) : rowR s most r = (r, []) := by unfold rowR; rw [if_pos h]
end
end Go.Proofs.YtnmojicfmcbgmaaGreatDoor.Nb
namespace Go.Proofs.YtnmojicfmcbgmaaGreatDoor
open Go.RowKit Nb

def greatN (l : List UInt8) : Nat := if l.head? = some 0 ∨ val l < 128 then 0 else if 9223372036854775807 < val l then 0 else val l
def greatE (l : List UInt8) : Nat := if l.head? = some 0 ∨ val l < 128 then 5 else if 9223372036854775807 < val l then 3 else 0
theorem take_next (s : ByteArray) (k : Nat) (h : k < s.size) : s.data.toList.take (k + 1) = s.data.toList.take k ++ [s[k]] := by
  rw [List.take_succ_eq_append_getElem (by simpa using h)]; rfl
theorem val_take (s : ByteArray) (k : Nat) (h : k < s.size) : val (s.data.toList.take (k + 1)) = 256 * val (s.data.toList.take k) + s[k].toNat := by
  rw [take_next s k h, val_snoc]
theorem val_take_lt (s : ByteArray) (k : Nat) (h : k ≤ 7) : val (s.data.toList.take k) < 72057594037927936 := by
  have h1 := val_lt (s.data.toList.take k)
  have h2 : (s.data.toList.take k).length ≤ 7 := Nat.le_trans (List.length_take_le _ _) h
  have h3 : 256 ^ (s.data.toList.take k).length ≤ 256 ^ 7 := Nat.pow_le_pow_right (by omega) h2
  omega
theorem or_byte (x : Nat) (b : UInt8) (hx : x < 72057594037927936) : bits .or .u64 ((x : Int) * 256) (IntKind.u64.wrap (b.toNat : Int)) = ((256 * x + b.toNat : Nat) : Int) := by
  have hb := b.toNat_lt
  have e1 : IntKind.u64.wrap (b.toNat : Int) = (b.toNat : Int) := by rw [IntKind.wrap_u64]; omega
  have e2 : (x : Int) * 256 = ((256 * x : Nat) : Int) := by omega
  rw [e1, e2, u64_or_nat _ _ (by omega) (by omega)]
  have e3 := Nat.two_pow_add_eq_or_of_lt (b := b.toNat) (i := 8) (by omega) x
  rw [← e3]
theorem head_of (s : ByteArray) (h : 0 < s.size) : s.data.toList.head? = some s[0] := by
  rw [List.head?_eq_getElem?, List.getElem?_eq_getElem (by simpa using h)]; rfl
theorem ret_two {k k' : IntKind} {a b c d : Int} (h : a = b) (h' : c = d) : Ending.returned (.tuple #[.int k a, .int k' c]) = .returned (.tuple #[.int k b, .int k' d]) := by rw [h, h']
theorem wrap_i64_nat {n : Nat} (h : n ≤ 9223372036854775807) : IntKind.i64.wrap (n : Int) = (n : Int) := IntWalk.i64_in _ (by omega)
set_option maxRecDepth 100000 in
set_option maxHeartbeats 400000 in
theorem great_any (s : ByteArray) (w : World) (h1 : 1 ≤ s.size) (h8 : s.size ≤ 8) :
    Calls Tryz.prog 177 #[.string s] w fun e w' => e = .returned (.tuple #[.int .i64 (greatN s.data.toList : Int), .int .i64 (greatE s.data.toList : Int)]) ∧ w = w' := by
  have hh := head_of s h1
  have HH := Lib.hid hh
  clear hh
  go_enter Tryz.func177, Tryz.ntmps177
  go_wp2
  go_loop [4, 5] (fun n i => ∃ k : Nat, k ≤ s.size ∧ i = .int .i64 k ∧ n = .int .u64 (val (s.data.toList.take k) : Nat)) (fun _ i => s.size - (intOf i).toNat)
  case atStart => exact ⟨0, Nat.zero_le _, rfl, rfl⟩
  case round =>
    obtain ⟨k, hk, rfl, rfl⟩ := hrel
    by_cases hlt : k < s.size
    · have hx := val_take_lt s k (by omega)
      have HV := Lib.hid (val_take s k hlt)
      obtain ⟨x, hx'⟩ : ∃ x, val (s.data.toList.take k) = x := ⟨_, rfl⟩
      rw [hx'] at hx HV
      rw [hx']
      have HX := Lib.hid hx'
      clear hx'
      go_wp2
      go_round
      case rel => exact ⟨k + 1, by omega, by go_num, by rw [HV.out, or_byte x _ hx]⟩
      case measure => simp [intOf]; omega
    · have e1 : s.data.toList.take k = s.data.toList := List.take_of_length_le (by simp; omega)
      rw [e1]
      have HE := Lib.hid e1
      clear e1
      obtain ⟨x, hx'⟩ : ∃ x, val s.data.toList = x := ⟨_, rfl⟩
      rw [hx']
      have HX := Lib.hid hx'
      clear hx'
      obtain ⟨m, hm⟩ : ∃ m : Int, Hid (m = 9223372036854775807) := ⟨_, rfl⟩
      by_cases hz : s[0] = 0
      · have hz0 : ((s[0].toNat : Int) == 0) = true := by rw [hz]; rfl
        go_wp2
        go_ret2
        exact ⟨ret_two (by unfold greatN; rw [if_pos (Or.inl (by rw [HH.out, hz]))]; rfl) (by unfold greatE; rw [if_pos (Or.inl (by rw [HH.out, hz]))]; rfl), rfl⟩
      · have hz0 : ((s[0].toNat : Int) == 0) = false := by
          simp
          intro e
          exact hz (UInt8.toNat_inj.1 (by simpa using e))
        have HN : Hid (¬ s.data.toList.head? = some 0) := by
          rw [HH.out]
          intro e
          injection e with e
          exact hz e
        clear hz
        by_cases h128 : x < 128
        · have hx1 : decide ((x : Int) < 128) = true := by simp; omega
          go_wp2
          go_ret2
          exact ⟨ret_two (by unfold greatN; rw [if_pos (Or.inr (by rw [HX.out]; exact h128))]; rfl) (by unfold greatE; rw [if_pos (Or.inr (by rw [HX.out]; exact h128))]; rfl), rfl⟩
        · have hx1 : decide ((x : Int) < 128) = false := by simp; omega
          have HP : Hid (¬ (s.data.toList.head? = some 0 ∨ val s.data.toList < 128)) := by
            rintro (h | h)
            · exact HN.out h
            · rw [HX.out] at h; exact h128 h
          by_cases hbig : 9223372036854775807 < x
          · have hx2 : decide ((9223372036854775807 : Int) < (x : Int)) = true := by simp; omega
            have HB := Lib.hid hbig
            clear hbig h128
            go_wp2
            go_ret2
            exact ⟨ret_two (by unfold greatN; rw [if_neg HP.out, if_pos (by rw [HX.out]; exact HB.out)]; rfl) (by unfold greatE; rw [if_neg HP.out, if_pos (by rw [HX.out]; exact HB.out)]; rfl), rfl⟩
          · have hx2 : decide ((9223372036854775807 : Int) < (x : Int)) = false := by simp; omega
            have hx3 : IntKind.i64.wrap (x : Int) = (x : Int) := wrap_i64_nat (by omega)
            have HB := Lib.hid hbig
            clear hbig h128
            go_wp2
            go_ret2
            exact ⟨ret_two (by unfold greatN; rw [if_neg HP.out, if_neg (by rw [HX.out]; exact HB.out), HX.out]) (by unfold greatE; rw [if_neg HP.out, if_neg (by rw [HX.out]; exact HB.out)]; rfl), rfl⟩
/-! Get -/
def gN : GR → Nat
  | .ok n _ => n
  | .no _ => 0
def gT (p : Nat) : GR → Nat
  | .ok _ k => p + k
  | .no _ => 0
def gE : GR → Nat
  | .ok _ _ => 0
  | .no e => e
theorem ret_three {k k' k'' : IntKind} {a b c d x y : Int} (h : a = b) (h' : c = d) (h'' : x = y) : Ending.returned (.tuple #[.int k a, .int k' c, .int k'' x]) = .returned (.tuple #[.int k b, .int k' d, .int k'' y]) := by rw [h, h', h'']
theorem drop_at (s : ByteArray) (p : Nat) (h : p < s.size) : s.data.toList.drop p = s[p] :: s.data.toList.drop (p + 1) := by
  rw [List.drop_eq_getElem_cons (by simpa using h)]; rfl
theorem getL_end {s : ByteArray} {p : Nat} (h : s.size ≤ p) : getL (s.data.toList.drop p) = .no 4 := by
  rw [List.drop_of_length_le (by simpa using h)]; rfl
theorem getL_small {s : ByteArray} {p : Nat} (h : p < s.size) (hb : s[p].toNat < 128) : getL (s.data.toList.drop p) = .ok s[p].toNat 1 := by
  rw [drop_at s p h]; simp only [getL]; rw [if_pos hb]
theorem getL_form {s : ByteArray} {p : Nat} (h : p < s.size) (hb : s[p].toNat = 128 ∨ 136 < s[p].toNat) : getL (s.data.toList.drop p) = .no 5 := by
  rw [drop_at s p h]; simp only [getL]; rw [if_neg (by omega), if_pos hb]
theorem getL_short {s : ByteArray} {p : Nat} (h : p < s.size) (hb : 128 < s[p].toNat) (hb' : s[p].toNat ≤ 136) (hl : s.size - p - 1 < s[p].toNat - 128) : getL (s.data.toList.drop p) = .no 4 := by
  have hl2 : s.data.toList.length = s.size := by simp
  rw [drop_at s p h]; simp only [getL]; rw [if_neg (by omega), if_neg (by omega), if_pos (by rw [List.length_drop]; omega)]
theorem extract_list (s : ByteArray) (a b : Nat) : (s.extract a b).data.toList = (s.data.toList.drop a).take (b - a) := by
  simp [ByteArray.data_extract, List.take_drop]
theorem getL_great {s : ByteArray} {p : Nat} (h : p < s.size) (hb : 128 < s[p].toNat) (hb' : s[p].toNat ≤ 136) (hl : ¬ s.size - p - 1 < s[p].toNat - 128) :
    getL (s.data.toList.drop p) = if greatE ((s.data.toList.drop (p + 1)).take (s[p].toNat - 128)) ≠ 0 then .no (greatE ((s.data.toList.drop (p + 1)).take (s[p].toNat - 128))) else .ok (greatN ((s.data.toList.drop (p + 1)).take (s[p].toNat - 128))) (1 + (s[p].toNat - 128)) := by
  have hl2 : s.data.toList.length = s.size := by simp
  have hd : ((s.data.toList.drop (p + 1)).take (s[p].toNat - 128)).head? = (s.data.toList.drop (p + 1)).head? := by rw [List.head?_take, if_neg (by omega)]
  rw [drop_at s p h]; simp only [getL]; rw [if_neg (by omega), if_neg (by omega), if_neg (by rw [List.length_drop]; omega)]
  unfold greatE greatN
  rw [hd]
  split
  · simp
  · split
    · simp
    · simp
theorem greatE_01 (l : List UInt8) : greatE l = 0 ∨ greatE l = 3 ∨ greatE l = 5 := by unfold greatE; (repeat' split) <;> simp
/-- A byte of a string, for the walk to take. -/
theorem idx_str (s : ByteArray) (p : Nat) (h : p < s.size) (b : Nat) (hb : s[p].toNat = b) (z : Int) (hz : z = (p : Int)) (W : World) :
    (Instr.index 9 (.string s) (.int .i64 z)).run Tryz.prog W = .ok (.int .u8 (b : Int)) W := by
  subst hz
  rw [run_index_string W 9 s .i64 _ Tryz.underlying9, dif_pos ⟨by omega, by omega⟩]
  have e : ((p : Int)).toNat = p := by omega
  simp only [e, hb]
set_option maxRecDepth 100000 in
set_option maxHeartbeats 1000000 in
theorem Get_any (s : ByteArray) (p : Nat) (w : World) (hp : p ≤ s.size) (hs : s.size ≤ 1000000) :
    Calls Tryz.prog 132 #[.string s, .int .i64 p] w fun e w' => e = .returned (.tuple #[.int .i64 (gN (getL (s.data.toList.drop p)) : Int), .int .i64 (gT p (getL (s.data.toList.drop p)) : Int), .int .i64 (gE (getL (s.data.toList.drop p)) : Int)]) ∧ w = w' := by
  by_cases hlt : p < s.size
  · have hb := s[p].toNat_lt
    have g1 := getL_small hlt
    have g2 := getL_form hlt
    have g3 := getL_short hlt
    have g4 := getL_great hlt
    have gi := fun b hb' => idx_str s p hlt b hb' (p : Int) rfl
    generalize s[p].toNat = b at hb g1 g2 g3 g4 gi
    have hidx := gi b rfl
    clear gi
    have G1 := Lib.hid g1
    have G2 := Lib.hid g2
    have G3 := Lib.hid g3
    have G4 := Lib.hid g4
    clear g1 g2 g3 g4
    by_cases h1 : b < 128
    · go_enter Tryz.func132, Tryz.ntmps132
      go_wp2
      go_ret3
      exact ⟨by rw [G1.out h1]; exact ret_three rfl (by simp [gT]) rfl, rfl⟩
    · by_cases h2 : b = 128 ∨ 136 < b
      · have hg := Lib.hid (G2.out h2)
        have hq : ((b : Int) - 128 < 1 ∨ 8 < (b : Int) - 128) := by omega
        clear h2
        rcases hq with hq | hq
        · go_enter Tryz.func132, Tryz.ntmps132
          go_wp2
          go_ret3
          exact ⟨by rw [hg.out]; exact ret_three rfl rfl rfl, rfl⟩
        · go_enter Tryz.func132, Tryz.ntmps132
          go_wp2
          go_ret3
          exact ⟨by rw [hg.out]; exact ret_three rfl rfl rfl, rfl⟩
      · have h2a : 129 ≤ b := by omega
        have h2b : b ≤ 136 := by omega
        clear h2 h1
        by_cases h3 : s.size - p - 1 < b - 128
        · have hg := Lib.hid (G3.out (by omega) (by omega) h3)
          have hq : (s.size : Int) - p - 1 < (b : Int) - 128 := by omega
          clear h3
          go_enter Tryz.func132, Tryz.ntmps132
          go_wp2
          go_ret3
          exact ⟨by rw [hg.out]; exact ret_three rfl rfl rfl, rfl⟩
        · have hg := Lib.hid (G4.out (by omega) (by omega) h3)
          have hq : decide ((s.size : Int) - p - 1 < (b : Int) - 128) = false := by simp; omega
          have hq1 : (1 : Int) ≤ (b : Int) - 128 := by omega
          have hq4 : decide ((b : Int) - 128 < 1) = false := by simp; omega
          have hq2 : (0 : Int) ≤ (p : Int) + 1 + ((b : Int) - 128) := by omega
          have hq3 : (p : Int) + 1 + ((b : Int) - 128) ≤ (s.size : Int) := by omega
          clear h3
          have el : (s.extract (p + 1) (p + 1 + (b - 128))).data.toList = (s.data.toList.drop (p + 1)).take (b - 128) := by
            rw [extract_list]; congr 1; omega
          have es : (s.extract (p + 1) (p + 1 + (b - 128))).size = b - 128 := by rw [ByteArray.size_extract]; omega
          have HG := great_any (s.extract (p + 1) (p + 1 + (b - 128))) w (by omega) (by omega)
          rw [el] at HG
          have h01 := greatE_01 ((s.data.toList.drop (p + 1)).take (b - 128))
          generalize greatE ((s.data.toList.drop (p + 1)).take (b - 128)) = e0 at HG hg h01
          generalize greatN ((s.data.toList.drop (p + 1)).take (b - 128)) = n0 at HG hg
          have HG' := Lib.hid HG
          clear HG el es
          by_cases h0 : e0 = 0
          · have h0' : ((e0 : Int) != 0) = false := by simp; omega
            rw [if_neg (by simp [h0])] at hg
            have H0 := Lib.hid h0
            clear h0 h01
            go_enter Tryz.func132, Tryz.ntmps132
            go_wp2_with (go_at_call 177; refine HG'.out.mono ?_; rintro e w' ⟨rfl, rfl⟩)
            go_ret3
            exact ⟨by rw [hg.out]; exact ret_three rfl (by simp [gT]; omega) rfl, rfl⟩
          · have h0' : ((e0 : Int) != 0) = true := by simp; omega
            rw [if_pos h0] at hg
            have H0 := Lib.hid h0
            clear h0 h01
            go_enter Tryz.func132, Tryz.ntmps132
            go_wp2_with (go_at_call 177; refine HG'.out.mono ?_; rintro e w' ⟨rfl, rfl⟩)
            go_ret3
            exact ⟨by rw [hg.out]; exact ret_three (b := 0) (d := 0) (y := e0) rfl rfl rfl, rfl⟩
  · have hg := Lib.hid (getL_end (s := s) (p := p) (by omega))
    obtain rfl : p = s.size := by omega
    go_enter Tryz.func132, Tryz.ntmps132
    go_wp2
    go_ret3
    exact ⟨by rw [hg.out]; exact ret_three rfl rfl rfl, rfl⟩
end Go.Proofs.YtnmojicfmcbgmaaGreatDoor
namespace Go.Proofs.YtnmojicfmcbgmaaGreatDoor
open Go.RowKit Nb
end Go.Proofs.YtnmojicfmcbgmaaGreatDoor
namespace Go.Proofs.YtnmojicfmcbgmaaGreatDoor
open Go.RowKit Nb

theorem bitLen_lo : ∀ n : Fin 256, n.val ≠ 0 → 1 ≤ Lib.bitLen n.val := by decide +kernel
theorem be_bits (n : Nat) : 0 < n → n < 18446744073709551616 → (be n).length = (Lib.bitLen n + 7) / 8 := by
  induction n using Nat.strongRecOn with
  | _ n ih =>
    intro h0 h1
    rw [be_pos (by omega), List.length_append]
    by_cases h : n < 256
    · have h2 := Lib.bitLen_le8 ⟨n, h⟩
      have h3 := bitLen_lo ⟨n, h⟩ (by simp; omega)
      simp only at h2 h3
      have e : n / 256 = 0 := by omega
      rw [e, be_zero]
      simp
      omega
    · rw [ih (n / 256) (by omega) (by omega) (by omega), Lib.bitLen_shift8 n (by omega) h1]
      simp
      omega
theorem be_at (n : Nat) : ∀ i, i < (be n).length → (be n)[i]? = some (UInt8.ofNat (n / 256 ^ ((be n).length - 1 - i) % 256)) := by
  induction n using Nat.strongRecOn with
  | _ n ih =>
    intro i hi
    by_cases h : n = 0
    · subst h; rw [be_zero] at hi; simp at hi
    · have hb := be_pos h
      have hl : (be n).length = (be (n / 256)).length + 1 := by rw [hb]; simp
      rw [hl] at hi ⊢
      rw [hb]
      by_cases h2 : i < (be (n / 256)).length
      · rw [List.getElem?_append_left h2, ih (n / 256) (by omega) i h2]
        obtain ⟨d, hd⟩ : ∃ d, (be (n / 256)).length = i + 1 + d := ⟨(be (n / 256)).length - (i + 1), by omega⟩
        rw [hd]
        have e1 : i + 1 + d - 1 - i = d := by omega
        have e2 : i + 1 + d + 1 - 1 - i = d + 1 := by omega
        rw [e1, e2, Nat.div_div_eq_div_mul, Nat.pow_succ, Nat.mul_comm 256]
      · have : i = (be (n / 256)).length := by omega
        subst this
        rw [List.getElem?_append_right (Nat.le_refl _)]
        simp
theorem numB_size (n : Nat) (h : 128 ≤ n) : (numB n).length = 1 + (be n).length := by unfold numB; rw [if_neg (by omega)]; simp; omega
/-- The bytes of a number not below 128, by their places. -/
theorem numB_at (n : Nat) (h : 128 ≤ n) (hm : n ≤ 9223372036854775807) (t : Nat) (ht : t < (numB n).length) :
    (numB n)[t]? = some (if t = 0 then UInt8.ofNat (127 + (numB n).length) else UInt8.ofNat (n / 256 ^ ((numB n).length - 1 - t) % 256)) := by
  have hs := numB_size n h
  rw [hs] at ht ⊢
  unfold numB
  rw [if_neg (by omega)]
  cases t with
  | zero =>
    rw [List.getElem?_cons_zero, if_pos rfl]
    have : 127 + (1 + (be n).length) = 128 + (be n).length := by omega
    rw [this]
  | succ t =>
    rw [List.getElem?_cons_succ, be_at n t (by omega), if_neg (by omega)]
    have : 1 + (be n).length - 1 - (t + 1) = (be n).length - 1 - t := by omega
    rw [this]
set_option maxRecDepth 100000 in
theorem Size_any (n : Nat) (w : World) (hn : n ≤ 9223372036854775807) :
    Calls Tryz.prog 121 #[.int .i64 n] w fun e w' => e = .returned (.int .i64 ((numB n).length : Int)) ∧ w = w' := by
  by_cases h : n < 128
  · have hs : (numB n).length = 1 := by unfold numB; rw [if_pos h]; rfl
    rw [hs]
    go_enter Tryz.func121, Tryz.ntmps121
    go_wp2
    go_ret
    exact ⟨rfl, rfl⟩
  · have hs := numB_size n (by omega)
    rw [be_bits n (by omega) (by omega)] at hs
    rw [hs]
    have hb : Lib.bitLen n ≤ 64 := by
      have h1 := be_bits n (by omega) (by omega)
      have h2 := be_len n 8 (by omega)
      omega
    have HL := Lib.hid (Tryz.bits_Len (n : Int) w (by omega) (by omega))
    rw [Int.toNat_natCast] at HL
    clear hs
    generalize Lib.bitLen n = q at hb HL
    have hnn : (n : Int) ≤ 9223372036854775807 := by omega
    go_enter Tryz.func121, Tryz.ntmps121
    go_wp2_with (go_at_call 171; refine HL.out.mono ?_; rintro e w' ⟨rfl, rfl⟩)
    go_ret
    exact ⟨ret_int (by omega), rfl⟩
end Go.Proofs.YtnmojicfmcbgmaaGreatDoor
namespace Go.Proofs.YtnmojicfmcbgmaaGreatDoor
open Go.RowKit Nb
/-- The cells of num.Put's buffer behind j rounds. -/
def cellF (N S j t : Nat) : Value := if t = 0 then .int .u8 (128 + (S : Int) - 1) else if t + j < S then .int .u8 0 else .int .u8 ((N / 256 ^ (S - 1 - t) % 256 : Nat) : Int)
def cellsJ (N S j : Nat) : Array Value := ((List.range S).map (cellF N S j)).toArray
def zerosN (S : Nat) : Array Value := ((List.range S).map (fun _ => Value.int .u8 0)).toArray
theorem cellsJ_at (N S j t : Nat) : (cellsJ N S j)[t]? = if t < S then some (cellF N S j t) else none := by
  unfold cellsJ
  by_cases h : t < S
  · simp [h]
  · simp [h]
theorem cells_start (N S : Nat) (hS : 0 < S) : (zerosN S).setIfInBounds 0 (.int .u8 (128 + (S : Int) - 1)) = cellsJ N S 0 := by
  apply Array.ext_getElem?
  intro t
  rw [cellsJ_at, Array.getElem?_setIfInBounds]
  unfold zerosN cellF
  by_cases h0 : t = 0
  · subst h0; simp [hS]
  · rw [if_neg (by omega)]
    by_cases h : t < S
    · simp [h, h0]
    · simp [h]
theorem cells_step (N S i j : Nat) (hi : 0 < i) (hij : i + j + 1 = S) (v : Value) (hv : v = .int .u8 ((N / 256 ^ j % 256 : Nat) : Int)) : (cellsJ N S j).setIfInBounds i v = cellsJ N S (j + 1) := by
  apply Array.ext_getElem?
  intro t
  rw [Array.getElem?_setIfInBounds, cellsJ_at, cellsJ_at]
  have hs : (cellsJ N S j).size = S := by simp [cellsJ]
  rw [hs]
  by_cases h : i = t
  · subst h
    rw [if_pos rfl, if_pos (by omega), if_pos (by omega), hv]
    unfold cellF
    rw [if_neg (by omega), if_neg (by omega)]
    have : S - 1 - i = j := by omega
    rw [this]
  · rw [if_neg h]
    by_cases ht : t < S
    · rw [if_pos ht, if_pos ht]
      unfold cellF
      by_cases h0 : t = 0
      · rw [if_pos h0, if_pos h0]
      · rw [if_neg h0, if_neg h0]
        by_cases h1 : t + j < S
        · rw [if_pos h1, if_pos (by omega)]
        · rw [if_neg h1, if_neg (by omega)]
    · rw [if_neg ht, if_neg ht]
theorem cells_end (N : Nat) (h : 128 ≤ N) (hm : N ≤ 9223372036854775807) (w : World) (t : Nat) (ht : t < (numB N).length) :
    (w.alloc (.cells (cellsJ N (numB N).length ((numB N).length - 1)) 5)).cell? (Addr.add ⟨w.heap.size, 0, none⟩ t) = some (.int .u8 ((numB N)[t].toNat : Int)) := by
  have hl := numB_len N hm
  have e1 : (w.alloc (.cells (cellsJ N (numB N).length ((numB N).length - 1)) 5)).heap[w.heap.size]? = some (.cells (cellsJ N (numB N).length ((numB N).length - 1)) 5 (0, 0)) := by show (w.heap.push _)[w.heap.size]? = _; simp
  have e2 : (w.alloc (.cells (cellsJ N (numB N).length ((numB N).length - 1)) 5)).cell? ⟨w.heap.size, 0 + t, none⟩ = (cellsJ N (numB N).length ((numB N).length - 1))[0 + t]? := by
    unfold World.cell?
    simp only [e1]
    rfl
  rw [Addr.add_lit, e2, Nat.zero_add, cellsJ_at, if_pos ht]
  have e3 := numB_at N h hm t ht
  rw [List.getElem?_eq_getElem ht] at e3
  injection e3 with e3
  rw [e3]
  unfold cellF
  by_cases h0 : t = 0
  · rw [if_pos h0, if_pos h0, toNat_ofNat (by omega)]
    have : (128 + ((numB N).length : Int) - 1) = ((127 + (numB N).length : Nat) : Int) := by omega
    rw [this]
  · rw [if_neg h0, if_neg h0, if_neg (by omega), toNat_ofNat (Nat.mod_lt _ (by omega))]
theorem byte_info : (Tryz.prog.info? 5).map (fun i => (i.zero, i.size, i.bytes)) = some (some (.int .u8 0), 1, 1) := by kernel_rfl
theorem make_bytes (S : Nat) (hS : S ≤ 1000) (W : World) : (Instr.makeSlice 61 (.int .i64 (S : Int)) (.int .i64 (S : Int))).run Tryz.prog W = .ok (.slice (some ⟨W.heap.size, 0, none⟩) S S) (W.alloc (.cells (zerosN S) 5)) := by
  obtain ⟨i0, hi0, hz0, hz1, hz2⟩ := info_parts byte_info
  have h := run_make (P := Tryz.prog) W 61 5 i0 (.int .u8 0) Tryz.underlying61 hi0 hz0 .i64 .i64 (S : Int) (S : Int) (by omega) (by omega) (by rw [hz2]; omega) (by omega)
  rw [h]
  have : madeCells (Value.int .u8 0).cells ((S : Int).toNat * i0.size) = zerosN S := by
    rw [hz1, Int.toNat_natCast, Nat.mul_one]
    unfold madeCells zerosN
    apply Array.ext_getElem?
    intro t
    by_cases ht : t < S
    · simp [ht, Value.cells, Nat.mod_one]
    · simp [ht]
  rw [this, Int.toNat_natCast]
theorem numB_small {n : Nat} (h : n < 128) : numB n = [UInt8.ofNat n] := by unfold numB; rw [if_pos h]
theorem wrap_u8 (n : Nat) : IntKind.u8.wrap (n : Int) = ((n % 256 : Nat) : Int) := by rw [IntKind.wrap_u8]; omega
theorem conv_one (n : Nat) (h : n < 128) (W : World) : (convert 61 9 (.slice (some ⟨W.heap.size, 0, none⟩) 1 1)).run Tryz.prog (W.alloc (.cells #[.int .u8 (n : Int)] 5)) = .ok (.string ⟨(numB n).toArray⟩) (W.alloc (.cells #[.int .u8 (n : Int)] 5)) := by
  rw [numB_small h]
  have := run_convert_bytes_back (P := Tryz.prog) (W.alloc (.cells #[.int .u8 (n : Int)] 5)) 61 9 5 ⟨W.heap.size, 0, none⟩ 1 [UInt8.ofNat n] Tryz.underlying61 Tryz.underlying5 Tryz.underlying9 (by
    intro j hj
    match j, hj with
    | 0, _ => simp [Addr.add]; omega)
  exact this
set_option maxRecDepth 100000 in
set_option maxHeartbeats 1000000 in
theorem Put_any (n : Nat) (w : World) (hn : n ≤ 9223372036854775807) :
    Calls Tryz.prog 63 #[.int .i64 n] w fun e w' => e = .returned (.tuple #[.string ⟨(numB n).toArray⟩, .int .i64 0]) ∧ Below w.heap.size w w' := by
  have HS := Lib.hid (Size_any n w hn)
  by_cases h : n < 128
  · have hs : (numB n).length = 1 := by rw [numB_small h]; rfl
    rw [hs] at HS
    have hw : IntKind.u8.wrap (n : Int) = (n : Int) := by rw [wrap_u8]; omega
    have hc := conv_one n h w
    clear hs
    go_enter Tryz.func63, Tryz.ntmps63
    go_wp2_with (go_at_call 121; refine HS.out.mono ?_; rintro e w' ⟨rfl, rfl⟩)
    go_ret2
    exact ⟨rfl, bel1 w _⟩
  · have hl := numB_len n hn
    have hs := numB_size n (by omega)
    have hp := be_pos_len (n := n) (by omega)
    have hE := fun t ht => cells_end n (by omega) hn w t ht
    have hcv := run_convert_bytes_back (P := Tryz.prog) (w.alloc (.cells (cellsJ n (numB n).length ((numB n).length - 1)) 5)) 61 9 5 ⟨w.heap.size, 0, none⟩ (numB n).length (numB n) Tryz.underlying61 Tryz.underlying5 Tryz.underlying9 hE
    have HB := Lib.hid (bel1 w (.cells (cellsJ n (numB n).length ((numB n).length - 1)) 5))
    clear hE
    have h2 : 2 ≤ (numB n).length := by omega
    clear hs hp
    generalize (numB n).length = S at HS hl h2 hcv HB
    have HCV := Lib.hid hcv
    clear hcv
    have hmk := make_bytes S (by omega)
    have HST := Lib.hid (cells_start n S (by omega))
    have f0 : ((S : Int) == 0) = false := by simp; omega
    have f1 : ((S : Int) == 1) = false := by simp; omega
    have z0 : (zerosN S)[0]? = some (.int .u8 0) := by unfold zerosN; rw [List.getElem?_toArray, List.getElem?_map, List.getElem?_range (by omega)]; rfl
    go_enter Tryz.func63, Tryz.ntmps63
    go_wp2_with (go_at_call 121; refine HS.out.mono ?_; rintro e w' ⟨rfl, rfl⟩)
    go_loopw [0, 6] (fun nv iv wr => ∃ i j : Nat, i + j + 1 = S ∧ iv = .int .i64 i ∧ nv = .int .i64 ((n / 256 ^ j : Nat) : Int) ∧ wr = w.alloc (.cells (cellsJ n S j) 5)) (fun _ i _ => (intOf i).toNat)
    case atStart => exact ⟨S - 1, 0, by omega, by go_num, by simp, by rw [HST.out]⟩
    case round =>
      obtain ⟨i, j, hij, rfl, rfl, rfl⟩ := hrel
      by_cases hi : 0 < i
      · have zc : (cellsJ n S j)[i]? = some (cellF n S j i) := by rw [cellsJ_at, if_pos (by omega)]
        have iz : (i : Int) < (S : Int) := by omega
        have i0 : (0 : Int) < (i : Int) := by omega
        have HST2 := Lib.hid (fun v hv => cells_step n S i j hi hij v hv)
        have e9 : n / 256 ^ j / 256 = n / 256 ^ (j + 1) := by rw [Nat.div_div_eq_div_mul, Nat.pow_succ]
        have HE9 := Lib.hid e9
        have HIJ := Lib.hid hij
        have hw := wrap_u8 (n / 256 ^ j)
        clear e9 hij
        have hy : n / 256 ^ j ≤ n := Nat.div_le_self _ _
        generalize n / 256 ^ j = y at hw HST2 HE9 hy
        have hy2 : y ≤ 9223372036854775807 := by omega
        clear hy
        go_wp2
        go_roundw
        case rel =>
          refine ⟨i - 1, j + 1, by have := HIJ.out; omega, by go_num, ?_, ?_⟩
          · rw [← HE9.out]; congr 1
          · rw [HST2.out (.int .u8 ((y : Int) % 256)) (by congr 1)]
        case measure => simp [intOf]; omega
      · obtain rfl : i = 0 := by omega
        obtain rfl : j = S - 1 := by omega
        have h00 : ¬ ((0 : Int) < ((0 : Nat) : Int)) := by omega
        have hcv := HCV.out
        go_wp2
        go_ret2
        exact ⟨rfl, HB.out⟩
theorem str_size (l : List UInt8) : (⟨l.toArray⟩ : ByteArray).size = l.length := by simp [ByteArray.size]
end Go.Proofs.YtnmojicfmcbgmaaGreatDoor
namespace Go.Proofs.YtnmojicfmcbgmaaGreatDoor
open Go.RowKit Nb

/-- A builder at the head of block b (of type T, behind it the fields r): it holds the bytes l. 'p': what its first field holds. -/
def BldAt (T : TypeId) (r : List Value) (B b : Nat) (p : Value) (l : List UInt8) (w : World) : Prop :=
  B ≤ b ∧ ∃ v, w.heap[b]? = some (.cells (p :: v :: r).toArray T (0, 0)) ∧ w.ownsRow B 5 1 v l.length (Lib.byteCells l) ∧ v.ownBlock ≠ some b
def Bld (T : TypeId) (r : List Value) (B b : Nat) (l : List UInt8) (w : World) : Prop := BldAt T r B b (.pointer none) l w ∨ BldAt T r B b (.pointer (some ⟨b, 0, none⟩)) l w
/-- What the model asks of T: a builder lies at its head. -/
structure LiesB (T : TypeId) (k : Nat) : Prop where
  lies : liesAt Tryz.prog Tryz.prog.depth T (k / Tryz.prog.cellsOf T) 0 63 1 = true
  ne : T ≠ 5
theorem liesB_bare : LiesB 63 2 := ⟨by kernel_rfl, by decide⟩
theorem sizeBld : (Tryz.prog.info? 63).map (fun i => i.size) = some 2 := by kernel_rfl
section
variable {T : TypeId} {r : List Value} {B b : Nat} {p : Value} {l : List UInt8} {w w' : World}
theorem lt_of_heap {o : Obj} (h : w.heap[b]? = some o) : b < w.heap.size := by
  rcases Nat.lt_or_ge b w.heap.size with h1 | h1
  · exact h1
  · rw [Array.getElem?_eq_none h1] at h; cases h
theorem ownsRow_below {base k n : Nat} {e : TypeId} {v : Value} {xs : List Value} (h : w.ownsRow base e k v n xs) (hb : Below w.heap.size w w') : w'.ownsRow base e k v n xs := by
  obtain ⟨h1, h2⟩ := h
  refine ⟨h1, ?_⟩
  rcases h2 with h2 | ⟨g, cap, cur, a1, a2, a3, a4⟩
  · exact Or.inl h2
  · exact Or.inr ⟨g, cap, cur, a1, a2, (hb.block g (lt_of_heap a3)).trans a3, a4⟩
theorem BldAt.below (h : BldAt T r B b p l w) (hb : Below w.heap.size w w') : BldAt T r B b p l w' := by
  obtain ⟨h1, v, h2, h3, h4⟩ := h
  exact ⟨h1, v, (hb.block b (lt_of_heap h2)).trans h2, ownsRow_below h3 hb, h4⟩
theorem Bld.below (h : Bld T r B b l w) (hb : Below w.heap.size w w') : Bld T r B b l w' := by
  rcases h with h | h
  · exact Or.inl (h.below hb)
  · exact Or.inr (h.below hb)
theorem BldAt.lt (h : BldAt T r B b p l w) : b < w.heap.size := by obtain ⟨_, v, h2, _⟩ := h; exact lt_of_heap h2
theorem Bld.lt (h : Bld T r B b l w) : b < w.heap.size := by
  rcases h with h | h
  · exact h.lt
  · exact h.lt
theorem heap_cell {cs : Array Value} {t : TypeId} {fr : Nat × Nat} (h : w.heap[b]? = some (.cells cs t fr)) (j : Nat) : w.cell? ⟨b, j, none⟩ = cs[j]? := Lib.cell_of_heap h j
theorem Bld.field (h : Bld T r B b l w) (j : Nat) : w.cell? ⟨b, j + 2, none⟩ = r[j]? := by
  rcases h with ⟨_, v, h2, _⟩ | ⟨_, v, h2, _⟩ <;> (rw [heap_cell h2]; simp)
/-- Cell j of the block is set: the block is that. -/
theorem heap_set {cs : Array Value} {t : TypeId} (h : w.heap[b]? = some (.cells cs t (0, 0))) (j : Nat) (u : Value) : (w.setCell ⟨b, j, none⟩ u).heap[b]? = some (.cells (cs.setIfInBounds j u) t (0, 0)) := by
  simp [World.setCell, Array.getElem?_modify, h]
theorem owns_set {base k n : Nat} {e : TypeId} {v : Value} {xs : List Value} (h : w.ownsRow base e k v n xs) (hne : v.ownBlock ≠ some b) (j : Nat) (u : Value) : (w.setCell ⟨b, j, none⟩ u).ownsRow base e k v n xs :=
  h.kept (row := some b) ⟨rfl, rfl, rfl, by simp [World.setCell], fun k _ hk => Below.heap_setCell _ _ _ _ (fun e => hk (by simp [e]))⟩ (Or.inr hne)
theorem BldAt.used (h : BldAt T r B b p l w) (q : Value) : BldAt T r B b q l (w.setCell ⟨b, 0, none⟩ q) := by
  obtain ⟨h1, v, h2, h3, h4⟩ := h
  exact ⟨h1, v, by rw [heap_set h2]; rfl, owns_set h3 h4 0 q, h4⟩
theorem BldAt.shape (h : BldAt T r B b p l w) : w.shape? b = some (T, 2 + r.length) := by
  obtain ⟨h1, v, h2, h3, h4⟩ := h
  simp [World.shape?, h2]; omega
theorem BldAt.cell0 (h : BldAt T r B b p l w) : w.cell? ⟨b, 0, none⟩ = some p := by
  obtain ⟨h1, v, h2, h3, h4⟩ := h
  rw [heap_cell h2]; rfl
theorem BldAt.frozen (h : BldAt T r B b p l w) (j : Nat) : w.frozen? ⟨b, j, none⟩ = false := by
  obtain ⟨h1, v, h2, h3, h4⟩ := h
  exact Lib.frozen_of_heap h2 j
end
/-- Blocks of other cells than bytes, but block b, are as they were. -/
def KeepT (b : Nat) (w w' : World) : Prop := ∀ i cs t fr, i ≠ b → t ≠ 5 → w.heap[i]? = some (.cells cs t fr) → w'.heap[i]? = some (.cells cs t fr)
theorem KeepT.refl (b : Nat) (w : World) : KeepT b w w := fun _ _ _ _ _ _ h => h
theorem KeepT.trans {b : Nat} {w w1 w2 : World} (h : KeepT b w w1) (k : KeepT b w1 w2) : KeepT b w w2 := fun i cs t fr hi ht hh => k i cs t fr hi ht (h i cs t fr hi ht hh)
theorem KeepT.of_below {b : Nat} {w w' : World} (h : Below w.heap.size w w') : KeepT b w w' := fun i _ _ _ _ _ hh => (h.block i (lt_of_heap hh)).trans hh
theorem KeepT.set {b : Nat} {w w' : World} (h : KeepT b w w') (j : Nat) (u : Value) : KeepT b w (w'.setCell ⟨b, j, none⟩ u) := fun i cs t fr hi ht hh => (Below.heap_setCell w' ⟨b, j, none⟩ u i hi).trans (h i cs t fr hi ht hh)
theorem KeepT.grown {b n : Nat} {w w1 w2 : World} {B : Nat} {v : Value} {xs : List Value} (h : KeepT b w w1) (hown : w1.ownsRow B 5 1 v n xs) (hg : w1.grownBy w2 v.ownBlock) : KeepT b w w2 := fun i cs t fr hi ht hh => by
  have h1 := h i cs t fr hi ht hh
  rw [hg.block i (lt_of_heap h1) (fun e => Lib.ownBlock_ne hown h1 ht e.symm)]
  exact h1
set_option maxRecDepth 100000 in
theorem copyCheck_any (T : TypeId) (r : List Value) (B b : Nat) (l : List UInt8) (w : World) (hT : LiesB T (2 + r.length)) (h : Bld T r B b l w) :
    Calls Tryz.prog 170 #[.pointer (some ⟨b, 0, none⟩)] w fun e w' => e = .returned (.tuple #[]) ∧ BldAt T r B b (.pointer (some ⟨b, 0, none⟩)) l w' ∧ Below B w w' ∧ KeepT b w w' := by
  obtain ⟨j, hj, hjs⟩ := Option.map_eq_some_iff.1 sizeBld
  rcases h with h | h
  · have h0 := h.cell0
    have hf := h.frozen 0
    have r1 := Lib.run_to_unsafe (P := Tryz.prog) w ⟨b, 0, none⟩ Tryz.underlying60 Tryz.underlying174 hj (by rw [hjs]; decide) h.shape (show 0 < 2 + r.length by omega)
    have r2 := @run_callFunc_extern Tryz.prog 192 _ Extern.AbiNoEscape.same Tryz.func192 (by kernel_rfl) (by kernel_rfl) (by kernel_rfl) (by kernel_rfl)
    have r3 := fun x => Lib.run_noEscape (P := Tryz.prog) w x
    have r4 := Lib.run_from_unsafe (P := Tryz.prog) w ⟨b, 0, none⟩ Tryz.underlying174 Tryz.underlying60 hj h.shape hT.lies
    have H := Lib.hid h
    clear h hj hjs hT
    go_enter Tryz.func170, Tryz.ntmps170
    go_wp2
    go_end0
    exact ⟨rfl, H.out.used _, (Below.refl B w).setCell (p := ⟨b, 0, none⟩) H.out.1 _, (KeepT.refl b w).set 0 _⟩
  · have h0 := h.cell0
    have r1 := Lib.run_neq_ptr_same (P := Tryz.prog) w ⟨b, 0, none⟩ Tryz.underlying60 hj
    have H := Lib.hid h
    clear h hj hjs hT
    go_enter Tryz.func170, Tryz.ntmps170
    go_wp2
    go_end0
    exact ⟨rfl, H.out, Below.refl B _, KeepT.refl b _⟩
set_option maxRecDepth 100000 in
set_option maxHeartbeats 1000000 in
theorem WriteString_any (T : TypeId) (r : List Value) (B b : Nat) (l : List UInt8) (s : ByteArray) (w : World) (hT : LiesB T (2 + r.length)) (h : Bld T r B b l w) (hlen : l.length + s.size ≤ 1000000000) (hBw : B ≤ w.heap.size) :
    Calls Tryz.prog 120 #[.pointer (some ⟨b, 0, none⟩), .string s] w fun e w' => e = .returned (.tuple #[.int .i64 s.size, .nilIface]) ∧ BldAt T r B b (.pointer (some ⟨b, 0, none⟩)) (l ++ s.data.toList) w' ∧ Below B w w' ∧ KeepT b w w' := by
  obtain ⟨i0, hi0, hz0, hz1, hz2⟩ := info_parts byte_info
  have HC := Lib.hid (copyCheck_any T r B b l w hT h)
  have HT := Lib.hid hT.ne
  clear h hT
  go_enter Tryz.func120, Tryz.ntmps120
  go_wp2_with fail
  refine HC.out.mono ?_
  rintro e w1 ⟨rfl, h1, hb1, hk1⟩
  obtain ⟨hB, v, hbk, hown, hne⟩ := h1
  have c1 : w1.cell? ⟨b, 1, none⟩ = some v := by rw [heap_cell hbk]; rfl
  have HBK := Lib.hid hbk
  have HB1 := Lib.hid hb1
  have hsz : B ≤ w1.heap.size := Nat.le_trans hBw hb1.size
  have hl : (Lib.byteCells l).length = l.length := Lib.byteCells_length l
  have HL := Lib.hid hl
  clear hbk hb1 hl
  go_wp2_with (at_builtin; refine Lib.wpList_append_own_string _ rfl _ _ 61 9 rfl B 5 i0 Tryz.underlying61 Tryz.underlying9 hi0 hz0 hz1 hz2 _ _ _ rfl hown s rfl (by unfold maxLen; omega) (by omega) hsz ?_)
  intro v' w2 hown' hgrow _
  have hlt := lt_of_heap HBK.out
  have hb2 : w2.heap[b]? = some (.cells (Value.pointer (some ⟨b, 0, none⟩) :: v :: r).toArray T (0, 0)) := by
    rw [hgrow.block b hlt (fun e => hne e.symm)]
    exact HBK.out
  have d1 : w2.cell? ⟨b, 1, none⟩ = some v := by rw [heap_cell hb2]; rfl
  have f1 : w2.frozen? ⟨b, 1, none⟩ = false := Lib.frozen_of_heap hb2 1
  obtain ⟨ao, n', cap, rfl⟩ : ∃ ao n' cap, v' = .slice ao n' cap := by
    rcases hown'.2 with ⟨hv, _⟩ | ⟨g, cap, cur, hv, _⟩
    · exact ⟨_, _, _, hv⟩
    · exact ⟨_, _, _, hv⟩
  have hne2 := Lib.ownBlock_ne hown' hb2 HT.out
  have hbe : Below B w w2 := HB1.out.grown hgrow hsz (fun k hk => (hown.lt k hk).1)
  have HO := Lib.hid hown'
  have HB2 := Lib.hid hb2
  have HBE := Lib.hid hbe
  have HK := Lib.hid (hk1.grown hown hgrow)
  clear hgrow hown' hb2 hbe hown c1 hne hk1
  go_wp2
  go_ret2
  refine ⟨rfl, ⟨hB, _, by rw [heap_set HB2.out]; rfl, ?_, hne2⟩, HBE.out.setCell (p := ⟨b, 1, none⟩) hB _, HK.out.set 1 _⟩
  refine owns_set ?_ hne2 1 _
  have := HO.out
  rw [Lib.byteCells_append, List.length_append]
  have e1 : s.data.toList.length = s.size := by simp
  rw [e1]
  exact this
set_option maxRecDepth 100000 in
set_option maxHeartbeats 1000000 in
theorem String_any (T : TypeId) (r : List Value) (B b : Nat) (l : List UInt8) (w : World) (h : Bld T r B b l w) (h0 : l ≠ []) :
    Calls Tryz.prog 70 #[.pointer (some ⟨b, 0, none⟩)] w fun e w' => e = .returned (.string ⟨l.toArray⟩) ∧ Below B w w' := by
  obtain ⟨p, hB, v, hbk, hown, hne⟩ : ∃ p, BldAt T r B b p l w := by
    rcases h with h | h
    · exact ⟨_, h⟩
    · exact ⟨_, h⟩
  have hl0 : l.length ≠ 0 := by simpa using h0
  obtain ⟨g, cap, cur, rfl, hbg, hg, hnc, hcm, hcs, htake⟩ : ∃ g cap cur, v = .slice (some ⟨g, 0, none⟩) l.length cap ∧ B ≤ g ∧ w.heap[g]? = some (.cells cur 5 (0, 0)) ∧ l.length ≤ cap ∧ cap ≤ maxLen ∧ cur.size = cap * 1 ∧ cur.toList.take (l.length * 1) = Lib.byteCells l := by
    rcases hown.2 with ⟨_, hz⟩ | ⟨g, cap, cur, hv, r⟩
    · exact absurd hz hl0
    · exact ⟨g, cap, cur, hv, r⟩
  have c1 : w.drew.cell? ⟨b, 1, none⟩ = some (.slice (some ⟨g, 0, none⟩) l.length cap) := by
    have h' : w.drew.heap[b]? = some (.cells (p :: .slice (some ⟨g, 0, none⟩) l.length cap :: r).toArray T (0, 0)) := hbk
    rw [heap_cell h']; rfl
  have hSD : (Builtin.unsafeSliceData_ #[61] 207 #[.slice (some ⟨g, 0, none⟩) l.length cap]).run Tryz.prog w.drew = .ok (.pointer (some ⟨g, 0, none⟩)) w.drew :=
    Lib.run_unsafeSliceData_row _ _ _ _ _ _ (by omega)
  have hUS : (Builtin.unsafeString_ #[207, 3] 9 #[.pointer (some ⟨g, 0, none⟩), .int .i64 l.length]).run Tryz.prog w.drew = .ok (.string ⟨l.toArray⟩) (w.drew.freeze ⟨g, 0, none⟩ l.length) := by
    refine Lib.run_unsafeString_row w.drew 207 3 9 5 Tryz.underlying207 (by kernel_rfl) g cur.size (by have hg' : w.drew.heap[g]? = some (.cells cur 5 (0, 0)) := hg; simp [World.shape?, hg']) l h0 (by omega) (by unfold maxLen at hcm; omega) ?_
    intro j x hx
    exact hown.cells (g := g) rfl j (.int .u8 x.toNat) (by simp [Lib.byteCells, hx])
  have HBG := Lib.hid hbg
  clear hown hne hbk hg hcs htake hcm hl0 h0 h hbg
  go_enter Tryz.func70, Tryz.ntmps70
  go_wp2
  go_region
  all_goals (go_wp2; go_ret; exact ⟨rfl, Lib.below_freeze (Below.drew (Below.refl B w)) (p := ⟨g, 0, none⟩) HBG.out _⟩)
end Go.Proofs.YtnmojicfmcbgmaaGreatDoor
namespace Go.Proofs.YtnmojicfmcbgmaaGreatDoor
open Go.RowKit
def checkE (id : Int) : Int := if id < 10 ∨ 999999 < id ∨ id % 10 = 0 then 31 else 0
def selfN_I (id : Int) : Int := if id < 10 ∨ 999999 < id ∨ id % 10 = 0 then 0 else id % 10
def seqN_I (id : Int) : Int := if id < 10 ∨ 999999 < id ∨ id % 10 = 0 then 0 else id / 10

set_option maxHeartbeats 400000 in
theorem Check_any_I (id : Int) (w : World) :
    Calls Tryz.prog 167 #[.int .i64 id] w fun e w' => e = .returned (.int .i64 (checkE id)) ∧ w = w' := by
  go_enter Tryz.func167, Tryz.ntmps167
  go_wp2
  all_goals
    go_ret
    exact ⟨ret_int (by unfold checkE; split <;> simp_all <;> omega), rfl⟩
theorem checkE_bad {id : Int} (h : id < 10 ∨ 999999 < id ∨ id % 10 = 0) : checkE id = 31 := by unfold checkE; rw [if_pos h]
theorem checkE_ok {id : Int} (h : ¬ (id < 10 ∨ 999999 < id ∨ id % 10 = 0)) : checkE id = 0 := by unfold checkE; rw [if_neg h]
theorem Self_any (id : Int) (w : World) :
    Calls Tryz.prog 156 #[.int .i64 id] w fun e w' => e = .returned (.int .i64 (selfN_I id)) ∧ w = w' := by
  by_cases h : id < 10 ∨ 999999 < id ∨ id % 10 = 0
  · have hc := checkE_bad h
    have H := Lib.hid h; clear h
    go_enter Tryz.func156, Tryz.ntmps156
    go_wp2_with (go_at_call 167; refine (Check_any_I _ _).mono ?_; rintro e w' ⟨rfl, rfl⟩)
    go_ret
    exact ⟨ret_int (by unfold selfN_I; rw [if_pos H.out]), rfl⟩
  · have hc := checkE_ok h
    have h0 : 0 ≤ id := by omega
    have h9 : id ≤ 999999 := by omega
    have H := Lib.hid h; clear h
    go_enter Tryz.func156, Tryz.ntmps156
    go_wp2_with (go_at_call 167; refine (Check_any_I _ _).mono ?_; rintro e w' ⟨rfl, rfl⟩)
    go_ret
    exact ⟨ret_int (by unfold selfN_I; rw [if_neg H.out]), rfl⟩
/-! ballots -/
/-! the next ballot -/
end Go.Proofs.YtnmojicfmcbgmaaGreatDoor
