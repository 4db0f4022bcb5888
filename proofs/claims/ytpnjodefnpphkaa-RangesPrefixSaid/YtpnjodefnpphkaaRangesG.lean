/- The one form of ranges, as the program makes it. -/
import Derived.Test.YtpnjodefnpphkaaRangesF
import Derived.Test.YtpnjodefnpphkaaRound
namespace Go.Proofs.Ytpnjodefnpphkaa
open Go.RowKit Go.Sort Go.Lib Go.Shelf

attribute [local go_sem] Oper.semAt_some

/-- One range more: it is taken into the last one, or stands behind it. -/
def addF (out : Array (Int × Int)) (x : Int × Int) : Array (Int × Int) :=
  if 0 < out.size ∧ x.1 ≤ out[out.size - 1]!.2 + 1 then out.set! (out.size - 1) (out[out.size - 1]!.1, max out[out.size - 1]!.2 x.2) else out.push x
def formF (l : List (Int × Int)) : Array (Int × Int) := l.foldl addF #[]
def formN (pre : List NR) : Array (Int × Int) := formF (pre.map (·.1))
theorem formN_snoc (pre : List NR) (x : NR) : formN (pre ++ [x]) = addF (formN pre) x.1 := by unfold formN formF; simp
theorem addF_size (out : Array (Int × Int)) (x : Int × Int) : (addF out x).size ≤ out.size + 1 := by unfold addF; split <;> simp
theorem foldF_size : ∀ (l : List (Int × Int)) (out : Array (Int × Int)), (l.foldl addF out).size ≤ out.size + l.length
  | [], _ => by simp
  | x :: l, out => by
    have := foldF_size l (addF out x)
    have := addF_size out x
    simp only [List.foldl_cons, List.length_cons]
    omega
theorem formN_size (pre : List NR) : (formN pre).size ≤ pre.length := by
  have := foldF_size (pre.map (·.1)) #[]
  simpa [formN, formF] using this
theorem set_other (out : Array (Int × Int)) (i k : Nat) (v : Int × Int) (h : k ≠ i) : (out.set! i v)[k]! = out[k]! := by
  rw [Array.getElem!_eq_getD, Array.getElem!_eq_getD, Array.getD_eq_getD_getElem?, Array.getD_eq_getD_getElem?]
  congr 1
  simp only [Array.set!_eq_setIfInBounds]
  rw [Array.getElem?_setIfInBounds_ne (Ne.symm h)]
theorem addF_last {out : Array (Int × Int)} {x : Int × Int} (hx : 1 ≤ x.2 ∧ x.2 ≤ 1000000) (h : ∀ k, k < out.size → 1 ≤ out[k]!.2 ∧ out[k]!.2 ≤ 1000000) : ∀ k, k < (addF out x).size → 1 ≤ (addF out x)[k]!.2 ∧ (addF out x)[k]!.2 ≤ 1000000 := by
  intro k hk
  unfold addF at hk ⊢
  split at hk
  · rename_i hc
    rw [if_pos hc]
    have hk' : k < out.size := by simpa using hk
    by_cases e : k = out.size - 1
    · subst e
      have : (out.set! (out.size - 1) (out[out.size - 1]!.1, max out[out.size - 1]!.2 x.2))[out.size - 1]! = (out[out.size - 1]!.1, max out[out.size - 1]!.2 x.2) := by simp [hk']
      rw [this]
      have := h _ hk'
      simp only
      omega
    · have := set_other out (out.size - 1) k (out[out.size - 1]!.1, max out[out.size - 1]!.2 x.2) e
      rw [this]
      exact h k hk'
  · rename_i hc
    rw [if_neg hc]
    rcases Nat.lt_or_ge k out.size with hk' | hk'
    · have : (out.push x)[k]! = out[k]! := by rw [getElem!_pos _ k (by simp; omega), getElem!_pos out k hk', Array.getElem_push_lt]
      rw [this]; exact h k hk'
    · obtain rfl : k = out.size := by simp at hk; omega
      have : (out.push x)[out.size]! = x := by rw [getElem!_pos (out.push x) out.size (by simp)]; simp
      rw [this]; exact hx
theorem foldF_last : ∀ (l : List NR) (out : Array (Int × Int)), (∀ k, k < out.size → 1 ≤ out[k]!.2 ∧ out[k]!.2 ≤ 1000000) → ∀ k, k < ((l.map (·.1)).foldl addF out).size → 1 ≤ ((l.map (·.1)).foldl addF out)[k]!.2 ∧ ((l.map (·.1)).foldl addF out)[k]!.2 ≤ 1000000
  | [], _, h => h
  | x :: l, out, h => foldF_last l (addF out x.1) (addF_last ⟨by have := x.2; omega, x.2.2.2⟩ h)
theorem formN_last (pre : List NR) : ∀ k, k < (formN pre).size → 1 ≤ (formN pre)[k]!.2 ∧ (formN pre)[k]!.2 ≤ 1000000 := foldF_last pre #[] (fun k hk => absurd hk (by simp))
theorem flatK_setHi (d : Array (Int × Int)) (k : Nat) (hk : k < d.size) (h : Int) : (flatK encR 2 (d.set! k (d[k]!.1, h))).toList = (flatK encR 2 d).toList.set (k * 2 + 1) (.int .i64 h) := by
  apply List.ext_getElem?
  intro t
  rcases Nat.lt_or_ge t (d.size * 2) with h1 | h1
  · have hs : (d.set! k (d[k]!.1, h)).size = d.size := by simp
    rw [getK_some _ _ _ _ (by rw [hs]; exact h1), List.getElem?_set]
    by_cases e : k * 2 + 1 = t
    · rw [if_pos e, if_pos (by simp; omega)]
      have e1 : t / 2 = k := by omega
      have e2 : t % 2 = 1 := by omega
      have e3 : (d.set! k (d[k]!.1, h))[k]! = (d[k]!.1, h) := by simp [hk]
      rw [e1, e2, e3]; rfl
    · rw [if_neg e, getK_some _ _ _ _ h1]
      by_cases e4 : t / 2 = k
      · have e2 : t % 2 = 0 := by omega
        have e3 : (d.set! k (d[k]!.1, h))[k]! = (d[k]!.1, h) := by simp [hk]
        rw [e4, e2, e3]; rfl
      · rw [set_other _ _ _ _ e4]
  · rw [List.getElem?_eq_none (by simpa using h1), List.getElem?_eq_none (by simpa using h1)]
theorem all2_stops (b g : Nat) (A : Option Addr) (c : Nat) (d : Array (Int × Int)) (hd : d.size ≤ 1000000) (w : World) (n : Nat) (hn : 1 ≤ n) (hb : b < w.heap.size) (hg : g < w.heap.size) (hcell : w.cell? ⟨b, 0, none⟩ = some (.slice A d.size c))
    (hr : RdK encR 2 w.heap.size w A d) (hA : 0 < d.size → ∃ off, A = some ⟨g, off, none⟩) (hok : ∀ x ∈ d, isR x = true → 1 ≤ x.1 ∧ x.1 ≤ x.2 ∧ x.2 ≤ 1000000) :
    SeqStopsK Fence.wide n Try.prog 90 #[.pointer (some ⟨b, 0, none⟩)] encN (Kg g) (fun ys => ys.map (·.1) = d.toList.filter isR) (fun _ => True) d.size w := fun l J Jx W hW hJ _ hY h0 => by
  refine all2_in Fence.wide n trivial rfl hn l b g A c d hd J Jx hY W hJ (Nat.lt_of_lt_of_le hg hW.size) ((hW.cell (p := ⟨b, 0, none⟩) hb).trans hcell) (fun wr hk => ?_) hok h0
  rcases Nat.eq_zero_or_pos d.size with h' | h'
  · exact fun h => absurd h (by omega)
  · obtain ⟨off, rfl⟩ := hA h'
    exact hk.rd (Nat.lt_of_lt_of_le hg hW.size) ((hr.below hW).mono hW.size)
theorem Kg.putObj {g s : Nat} (hg : g < s) (W : World) (l : Nat) (o o' : Obj) (hl : s ≤ l) (_ : W.heap[l]? = some o) (_ : o.isCells = false) (_ : o.isWalk = false) : Kg g W (W.putObj l o') :=
  ⟨by simp [World.putObj], World.putObj_heap_other (by omega)⟩
end Go.Proofs.Ytpnjodefnpphkaa
