/- The document's sort of commands at times: each put into its place. -/
import Derived.Test.YthgpjbpkcpbcoaaSortJ
import Derived.Deep.RegionHeld3
import Derived.Deep.DrawnRows
namespace Go.Proofs.Ythgpjbpkcpbcoaa
open Go.RowKit Go.Sort Go.Lib

/-- o is the first m of d, in order. -/
structure InsP (d : Array (Int × Int)) (m : Nat) (o : Array (Int × Int)) : Prop where
  perm : o.toList.Perm (d.toList.take m)
  sorted : o.toList.Pairwise fun x y => lessA y x = false
theorem InsP.nil (d : Array (Int × Int)) : InsP d 0 #[] := ⟨by simp, by simp⟩
theorem InsP.size {d o : Array (Int × Int)} {m : Nat} (h : InsP d m o) (hm : m ≤ d.size) : o.size = m := by
  have := h.perm.length_eq
  simp at this
  omega
theorem lessA_as {x y : Int × Int} (h : lessA x y = true) : lessA y x = false := by
  unfold lessA at *; simp at *; omega
theorem InsP.put {d o : Array (Int × Int)} {m k : Nat} (h : InsP d m o) (hm : m < d.size) (hk : k ≤ m) (h1 : ∀ j, j < k → lessA d[m]! o[j]! = false) (h2 : k < m → lessA d[m]! o[k]! = true) :
    InsP d (m + 1) (#[] ++ (o.toList.take k).toArray ++ #[d[m]!] ++ (o.toList.drop k).toArray) := by
  have hs := h.size (by omega)
  have e : (#[] ++ (o.toList.take k).toArray ++ #[d[m]!] ++ (o.toList.drop k).toArray).toList = o.toList.take k ++ d[m]! :: o.toList.drop k := by simp
  constructor
  · rw [e]
    refine List.perm_middle.trans ?_
    rw [List.take_append_drop]
    have : d.toList.take (m + 1) = d.toList.take m ++ [d[m]!] := by
      rw [List.take_add_one]
      simp [hm]
    rw [this]
    exact (List.Perm.cons _ h.perm).trans (List.perm_append_singleton _ _).symm
  · rw [e]
    have hp := h.sorted
    rw [← List.take_append_drop k o.toList] at hp
    obtain ⟨p1, p2, p3⟩ := List.pairwise_append.1 hp
    have t1 : ∀ y ∈ o.toList.take k, lessA d[m]! y = false := fun y hy => by
      obtain ⟨j, hj, rfl⟩ := List.mem_take_iff_getElem.1 hy
      have hj' : j < o.size := by simp at hj; omega
      have := h1 j (by simp at hj; omega)
      rw [getElem!_pos o j hj'] at this
      simpa using this
    have t2 : ∀ y ∈ o.toList.drop k, lessA y d[m]! = false := fun y hy => by
      rcases Nat.lt_or_ge k m with hlt | hge
      · have hk' : k < o.toList.length := by simp; omega
        rw [List.drop_eq_getElem_cons hk'] at hy p2
        have hk2 := h2 hlt
        rw [getElem!_pos o k (by omega)] at hk2
        rcases List.mem_cons.1 hy with rfl | hy
        · exact lessA_as (by simpa using hk2)
        · have a1 := (List.pairwise_cons.1 p2).1 y hy
          have a2 : lessA d[m]! o[k] = true := hk2
          have a3 : lessA y o.toList[k] = false := a1
          simp only [Array.getElem_toList] at a3
          unfold lessA at *
          simp at *
          omega
      · rw [List.drop_of_length_le (by simp; omega)] at hy
        cases hy
    refine List.pairwise_append.2 ⟨p1, List.pairwise_cons.2 ⟨t2, p2⟩, fun y hy z hz => ?_⟩
    rcases List.mem_cons.1 hz with rfl | hz
    · exact t1 y hy
    · exact p3 y hy z hz
theorem InsP.fin {d o : Array (Int × Int)} (h : InsP d d.size o) : o = srtA d := by
  have hs := h.size (Nat.le_refl _)
  refine srtA_of ⟨hs, fun i hi => ?_, ?_⟩ ?_
  · have h1 : d.size ≤ i := by omega
    simp [h1, hs]
  · have e1 : o.extract 0 d.size = o := by rw [← hs]; simp
    have e2 : d.extract 0 d.size = d := by simp
    rw [e1, e2]
    have := h.perm
    rwa [List.take_of_length_le (by simp)] at this
  · intro i j _ hij hj
    have := List.pairwise_iff_getElem.1 h.sorted i j (by simp; omega) (by simp; omega) hij
    rw [getElem!_pos o j (by omega), getElem!_pos o i (by omega)]
    simpa using this
section
variable {α : Type} [Inhabited α] {enc : α → List Value} {k : Nat}
/-- A slice that reads as d is appended to a row of the call's own, at a step of a region that draws its order. -/
theorem step_append_R {P : Program} {w : World} {ops : Array Oper} {o : Oper} {a : Act} {K : Act → World → Prop} {Q : Exit → Act → World → Prop} {E : Prop} (h1 : ∀ x, ∀ u ∈ enc x, u.oneCell' = true) (hk : ∀ x, (enc x).length = k) (hk0 : 0 < k) (hgd : o.guard = none) (s x : Operand) (t : TypeId)
    (ho : o.op = .call { callee := .builtin .append, args := #[s, x], argTypes := #[t, t] })
    (w0 : World) (e : TypeId) (i : TypeInfo) (z : Value) (bytes : Nat) (ht : P.underlying t = some (.slice e)) (hi : P.info? e = some i) (hz : i.zero = some z)
    (hsize : i.size = k) (hby : i.bytes = bytes) (hzs : z.cells.size = k)
    (v : Value) (d0 : Array α) (hs : a.eval s = v) (hown : w.ownsRow w0.heap.size e k v d0.size (flatK enc k d0).toList)
    (A : Option Addr) (n c B : Nat) (d : Array α) (hx : a.eval x = .slice A n c) (hn : n = d.size) (hr : RdK enc k B w A d) (hnil : A = none → c = 0)
    (h63 : d0.size + d.size ≤ 100000000) (hbb : bytes ≤ 100000) (hB : Below w0.heap.size w0 w)
    (h : ∀ v' w', w'.ownsRow w0.heap.size e k v' (d0 ++ d).size (flatK enc k (d0 ++ d)).toList → w.grownBy w' v.ownBlock → Below w0.heap.size w0 w' → K (a.put o.dst v') w') :
    if Region.wanted o (yielded ops a.tmps) = true then Oper.wp P o a w K Q else E := by
  subst hn
  have hw : Region.wanted o (yielded ops a.tmps) = true := by simp [Region.wanted, hgd]
  rw [if_pos hw]
  cases A with
  | none =>
    have h0 : d.size = 0 := by
      rcases Nat.eq_zero_or_pos d.size with h0 | h0
      · exact h0
      · obtain ⟨b, off, e, _⟩ := hr h0; cases e
    obtain rfl : d = #[] := Array.eq_empty_of_size_eq_zero h0
    rw [hnil rfl] at hx
    have hx' : a.eval x = .slice none 0 0 := hx
    have hrun := run_append_owned_none (P := P) (w := w) w0.heap.size t o.type e i k ht hi v d0.size _ hown
    unfold Oper.wp execOp
    simp only [ho, resolve, invoke, builtin, Sem.run_bind, Sem.run_pure, Result.andThen_ok, List.map_toArray, List.map_cons, List.map_nil, hs, hx', hrun]
    exact h v w (by simpa using hown) (World.grownBy.refl w _) hB
  | some ad =>
    obtain ⟨v', w', hr', h2, h3, _, _⟩ := run_append_own_at (P := P) w w0.heap.size t o.type e i z k bytes ht hi hz hsize hby hzs hk0 v d0.size _ hown ad d.size c (flatK enc k d).toList (by simp) (fun j u hj => by
      have hlt : j < d.size * k := by
        rcases Nat.lt_or_ge j (d.size * k) with h' | h'
        · exact h'
        · rw [List.getElem?_eq_none (by simpa using h')] at hj; cases hj
      have hd0 : 0 < d.size := by
        rcases Nat.eq_zero_or_pos d.size with h' | h'
        · rw [h', Nat.zero_mul] at hlt; omega
        · exact h'
      obtain ⟨b, off, e1, _, hc⟩ := hr hd0
      injection e1 with e1
      subst e1
      rw [Addr.add_lit, hc j hlt]
      rw [getK_some _ _ _ _ hlt] at hj
      rw [get_flatK _ _ _ _ hlt]
      exact hj) (one_flat h1 hk) (by unfold maxLen; omega) (by
      have : (d0.size + d.size) * bytes ≤ 100000000 * 100000 := Nat.mul_le_mul h63 hbb
      omega) hB.size
    unfold Oper.wp execOp
    simp only [ho, resolve, invoke, builtin, Sem.run_bind, Sem.run_pure, Result.andThen_ok, List.map_toArray, List.map_cons, List.map_nil, hs, hx, hr']
    exact h v' w' (by rw [flatK_append hk, Array.size_append]; exact h2) h3 (hB.grown h3 hB.size (fun k hk => (hown.lt k hk).1))
end
end Go.Proofs.Ythgpjbpkcpbcoaa
