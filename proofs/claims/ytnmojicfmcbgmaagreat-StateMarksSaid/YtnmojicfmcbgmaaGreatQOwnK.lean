/- Rows of the call's own whose elements are of k cells: what they hold, and what is appended to them. -/
import Derived.Laws.AppendOwnNone
import Derived.Laws.OwnMore
import Derived.OwnWalk
import Derived.Test.YtnmojicfmcbgmaaGreatQRead
namespace Go.Proofs.YtnmojicfmcbgmaaGreat
open Go.RowKit Go.Sort Go.Lib

section
variable {α : Type} [Inhabited α] {enc : α → List Value} {k : Nat} {w w' : World} {A : Option Addr} {d : Array α} {B base : Nat} {e : TypeId} {v : Value}
theorem getK_some (enc : α → List Value) (k : Nat) (d : Array α) (t : Nat) (h : t < d.size * k) : (flatK enc k d).toList[t]? = some (enc d[t / k]!)[t % k]! := by
  have hs : t < (flatK enc k d).size := by rw [size_flatK]; exact h
  rw [Array.getElem?_toList, Array.getElem?_eq_getElem hs, ← get_flatK enc k d t h, getElem!_pos _ t hs]
theorem flatK_push (hk : ∀ x, (enc x).length = k) (d : Array α) (x : α) : (flatK enc k (d.push x)).toList = (flatK enc k d).toList ++ enc x := by
  apply List.ext_getElem?
  intro t
  have hm : (d.size + 1) * k = d.size * k + k := by rw [Nat.add_mul, Nat.one_mul]
  rcases Nat.lt_or_ge t (d.size * k) with h1 | h1
  · rw [List.getElem?_append_left (by simpa using h1), getK_some _ _ _ _ h1, getK_some _ _ _ _ (by rw [Array.size_push, hm]; omega)]
    have hq : t / k < d.size := by
      rw [Nat.mul_comm] at h1
      exact Nat.div_lt_of_lt_mul h1
    have e1 : (d.push x)[t / k]! = d[t / k]! := by
      rw [getElem!_pos (d.push x) _ (by simp; omega), getElem!_pos d _ hq, Array.getElem_push_lt]
    rw [e1]
  · rw [List.getElem?_append_right (by simpa using h1)]
    have hl : (flatK enc k d).toList.length = d.size * k := by simp
    rw [hl]
    rcases Nat.lt_or_ge t (d.size * k + k) with h2 | h2
    · obtain ⟨c, rfl⟩ : ∃ c, t = d.size * k + c := ⟨t - d.size * k, by omega⟩
      have hc : c < k := by omega
      have hs : d.size * k + c < (flatK enc k (d.push x)).size := by simp [hm]; omega
      rw [Array.getElem?_toList, Array.getElem?_eq_getElem hs, ← getElem!_pos (flatK enc k (d.push x)) _ hs, flat_at _ _ _ _ _ (by simp) hc]
      have e1 : (d.push x)[d.size]! = x := by rw [getElem!_pos (d.push x) d.size (by simp)]; simp
      rw [e1, Nat.add_sub_cancel_left, List.getElem!_eq_getElem?_getD, List.getElem?_eq_getElem (by rw [hk]; exact hc)]
      rfl
    · rw [List.getElem?_eq_none (by simp [hm]; omega), List.getElem?_eq_none (by rw [hk]; omega)]
theorem flatK_list (hk : ∀ x, (enc x).length = k) (d : Array α) : ∀ l : List α, (flatK enc k (d ++ l.toArray)).toList = (flatK enc k d).toList ++ l.flatMap enc
  | [] => by simp
  | x :: l => by
    have := flatK_list hk (d.push x) l
    have e1 : d ++ (x :: l).toArray = d.push x ++ l.toArray := by apply Array.ext'; simp
    rw [e1, this, flatK_push hk, List.flatMap_cons, List.append_assoc]
theorem flatK_nil (enc : α → List Value) (k : Nat) : (flatK enc k #[]).toList = [] := by simp [flatK]
theorem flatK_flatMap (hk : ∀ x, (enc x).length = k) (d : Array α) : (flatK enc k d).toList = d.toList.flatMap enc := by
  have := flatK_list hk #[] d.toList
  simpa [flatK_nil] using this
theorem flatK_append (hk : ∀ x, (enc x).length = k) (a b : Array α) : (flatK enc k (a ++ b)).toList = (flatK enc k a).toList ++ (flatK enc k b).toList := by
  have := flatK_list hk a b.toList
  rw [flatK_flatMap hk b]
  simpa using this
/-- A row of the call's own: it reads as its elements. -/
theorem rdK_of_owns (h : w.ownsRow base e k v d.size (flatK enc k d).toList) :
    ∃ A c, v = .slice A d.size c ∧ RdK enc k w.heap.size w A d ∧ (A = none → c = 0) := by
  by_cases hn : v = .slice none 0 0
  · subst hn
    obtain ⟨_, ⟨_, h0⟩ | ⟨g, cap, cur, hv, _⟩⟩ := h
    · exact ⟨none, 0, by rw [h0], fun h => absurd h0 (by omega), fun _ => rfl⟩
    · cases hv
  · obtain ⟨g, cap, hv, _, hlt, hH⟩ := holds_of_owns h hn
    exact ⟨_, cap, hv, RdK.of_holds hH hlt, fun h => by cases h⟩
theorem one_flat (h1 : ∀ x, ∀ u ∈ enc x, u.oneCell' = true) (hk : ∀ x, (enc x).length = k) : ∀ u ∈ (flatK enc k d).toList, u.oneCell' = true := by
  intro u hu
  rw [flatK_flatMap hk, List.mem_flatMap] at hu
  obtain ⟨x, _, hx⟩ := hu
  exact h1 x u hx
/-- A slice that reads as d is appended to a row of the call's own. -/
theorem append_rdK {P : Program} {ops : Array Oper} {rest : List Oper} {o : Oper} {a : Act} {Q : Exit → Act → World → Prop} (h1 : ∀ x, ∀ u ∈ enc x, u.oneCell' = true) (hk : ∀ x, (enc x).length = k) (hk0 : 0 < k)
    (hgd : o.guard = none) (s x : Operand) (t : TypeId) (ho : o.op = .call { callee := .builtin .append, args := #[s, x], argTypes := #[t, t] })
    (base : Nat) (e : TypeId) (i : TypeInfo) (z : Value) (bytes : Nat) (ht : P.underlying t = some (.slice e)) (hi : P.info? e = some i) (hz : i.zero = some z) (hsize : i.size = k) (hby : i.bytes = bytes) (hzs : z.cells.size = k)
    (v : Value) (d0 : Array α) (hs : a.eval s = v) (hown : w.ownsRow base e k v d0.size (flatK enc k d0).toList) (B : Nat) (A : Option Addr) (c : Nat) (d : Array α) (hx : a.eval x = .slice A d.size c) (hr : RdK enc k B w A d) (hnil : A = none → c = 0)
    (h63 : d0.size + d.size ≤ 100000000) (hbb : bytes ≤ 100000) (hbase : base ≤ w.heap.size)
    (h : ∀ v' w', w'.ownsRow base e k v' (d0 ++ d).size (flatK enc k (d0 ++ d)).toList → w.grownBy w' v.ownBlock → (v' = .slice none 0 0 → v = .slice none 0 0) → wpList P ops Q rest (a.put o.dst v') w') : wpList P ops Q (o :: rest) a w := by
  cases A with
  | none =>
    have h0 : d.size = 0 := by
      rcases Nat.eq_zero_or_pos d.size with h0 | h0
      · exact h0
      · obtain ⟨b, off, e, _⟩ := hr h0; cases e
    obtain rfl : d = #[] := Array.eq_empty_of_size_eq_zero h0
    rw [hnil rfl] at hx
    exact wpList_append_own_none hgd s x t ho base e i k ht hi v d0.size _ hs hown hx (h v w (by simpa using hown) (World.grownBy.refl w _) id)
  | some ad =>
    refine wpList_append_own _ hgd s x t ho base e i z k bytes ht hi hz hsize hby hzs hk0 v d0.size _ hs hown ad d.size c (flatK enc k d).toList hx (by simp) ?_ (one_flat h1 hk) (by unfold maxLen; omega) ?_ hbase fun v' w' h1 h2 h3 => h v' w' (by rw [flatK_append hk, Array.size_append]; exact h1) h2 (fun e => (h3.1 e).1)
    · intro j u hj
      have hlt : j < d.size * k := by
        rcases Nat.lt_or_ge j (d.size * k) with h' | h'
        · exact h'
        · rw [List.getElem?_eq_none (by simpa using h')] at hj; cases hj
      have hd0 : 0 < d.size := by
        rcases Nat.eq_zero_or_pos d.size with h' | h'
        · rw [h', Nat.zero_mul] at hlt; omega
        · exact h'
      obtain ⟨b, off, e1, _, hc⟩ := hr hd0
      injection e1 with e1
      subst e1
      rw [Addr.add_lit, hc j hlt]
      rw [getK_some _ _ _ _ hlt] at hj
      rw [get_flatK _ _ _ _ hlt]
      exact hj
    · have : (d0.size + d.size) * bytes ≤ 100000000 * 100000 := Nat.mul_le_mul h63 hbb
      omega
theorem empty_ownsK (w : World) (e : TypeId) (enc : α → List Value) (k : Nat) : (w.alloc (.cells #[] e)).ownsRow w.heap.size e k (.slice (some ⟨w.heap.size, 0, none⟩) (#[] : Array α).size 0) (#[] : Array α).size (flatK enc k #[]).toList := by
  rw [flatK_nil]
  exact World.ownsRow_made w #[] 0 (Nat.le_refl _) (Nat.zero_le _) (by simp)
theorem nil_ownsK (w : World) (base : Nat) (e : TypeId) (enc : α → List Value) (k : Nat) : w.ownsRow base e k (.slice none 0 0) (#[] : Array α).size (flatK enc k #[]).toList := by
  rw [flatK_nil]
  exact World.ownsRow_nil w base e k
end
end Go.Proofs.YtnmojicfmcbgmaaGreat
