/- A map from int to bool of the call's own, as a list of the keys that were laid: look-up and store. clock.Check and rubatoref15.Check: what both tell (plain), the program's walk with its map of what was seen. -/
import Derived.Maps.OwnOps
import Derived.Maps.Views
import Derived.Test.YtnmojicfmcbgmaaGreatQBase
import Derived.Test.YtnmojicfmcbgmaaGreatQOwnK
namespace Go.Proofs.YtnmojicfmcbgmaaGreat
open Go.RowKit Go.Sort Go.Lib Go.Maps
section
variable {H : Type} {P : Program} {w : World}
theorem plainElem_bool_inv {e : TypeId} (he : P.underlying e = some .bool) {v : Value} {z : DataW H × List MemPlace} (h : plainElem P e v = some z) : ∃ x, v = .bool x ∧ z = (.lit (.bool x), []) := by
  unfold plainElem at h
  rw [he] at h
  split at h
  · cases h; exact ⟨_, rfl, rfl⟩
  · rename_i h1; cases h1
  · rename_i h1; cases h1
  · cases h
theorem own_lookup_bool {t e k : TypeId} {b n : Nat} {D : DataW H} (h : w.ownsMap P k (plainElem P e) b n D) (K : Keyed P k) (ht : P.underlying t = some (.map k e)) (he : P.underlying e = some .bool) (hz : (zeroValue e).run P w = .ok (.bool false) w)
    {key : Value} {kl : Lit} (hkey : keyOf P k key = some kl) : ∃ x, (Instr.lookup t (.map (some b)) key false).run P w = .ok (.bool x) w ∧ D.atKey kl (.lit (.bool false)) = .lit (.bool x) := by
  obtain ⟨v, ps, hrun, hv⟩ := h.lookup K ht hz (plainElem_bool he false) hkey
  obtain ⟨x, rfl, hx⟩ := plainElem_bool_inv he hv
  simp only [Prod.mk.injEq] at hx
  exact ⟨x, hrun, hx.1⟩
end
/-- The set of these numbers, as a map's datum. -/
def seenD (ids : List Int) : DataW Unit := ids.foldl (fun D id => D.put (.int .i64 id) (.lit (.bool true))) (.map [])
theorem isMap_put {D : DataW Unit} (h : IsMap D) (k : Lit) (d : DataW Unit) : IsMap (D.put k d) := by
  obtain ⟨es, rfl⟩ := h
  exact ⟨_, rfl⟩
theorem seen_from (id : Int) (hw : (Lit.int .i64 id).wf = true) : ∀ (ids : List Int) (D : DataW Unit), IsMap D → (ids.foldl (fun D id => D.put (.int .i64 id) (.lit (.bool true))) D).atKey (.int .i64 id) (.lit (.bool false)) = if ids.contains id = true then .lit (.bool true) else D.atKey (.int .i64 id) (.lit (.bool false))
  | [], D, _ => by simp
  | x :: r, D, hD => by
    rw [List.foldl_cons, seen_from id hw r _ (isMap_put hD _ _)]
    by_cases h : r.contains id = true
    · rw [if_pos h, if_pos (by rw [List.contains_cons, h, Bool.or_true])]
    · rw [if_neg h]
      by_cases hx : id = x
      · subst hx
        rw [atKey_put_same hD (by first | exact hw | trivial | (unfold WideAt.IsKeyLit; simp)), if_pos (by simp)]
      · rw [atKey_put_other (by intro e; injection e with _ e; exact hx e), if_neg]
        rw [List.contains_cons]
        simp only [Bool.or_eq_true, not_or]
        exact ⟨by simpa using hx, h⟩
theorem seen_at (ids : List Int) (id : Int) (hw : (Lit.int .i64 id).wf = true) : (seenD ids).atKey (.int .i64 id) (.lit (.bool false)) = .lit (.bool (ids.contains id)) := by
  unfold seenD
  rw [seen_from id hw ids _ ⟨[], rfl⟩]
  cases h : ids.contains id
  · rw [if_neg Bool.false_ne_true]; rfl
  · rw [if_pos rfl]
theorem seen_snoc (ids : List Int) (x : Int) : seenD (ids ++ [x]) = (seenD ids).put (.int .i64 x) (.lit (.bool true)) := by
  unfold seenD
  rw [List.foldl_append]
  rfl
end Go.Proofs.YtnmojicfmcbgmaaGreat
namespace Go.Proofs.YtnmojicfmcbgmaaGreat
open Go.RowKit Go.Sort Go.Lib Go.Maps
set_option maxRecDepth 100000
/-- May promise i stand where it stands? -/
def clkAt (now floor : Int) (d : Array (Int × Int)) (i : Nat) : Bool :=
  decide (floor < d[i]!.1 ∧ (0 < i → d[i - 1]!.1 < d[i]!.1) ∧ d[i]!.1 ≤ now) && decide (10 ≤ d[i]!.2 ∧ d[i]!.2 ≤ 999999 ∧ d[i]!.2 % 10 ≠ 0) && !((d.toList.take i).map Prod.snd).contains d[i]!.2
def clkB (now floor : Int) (d : Array (Int × Int)) : Bool := decide (0 ≤ floor ∧ floor ≤ now ∧ now ≤ 1000000) && (List.range d.size).all fun i => clkAt now floor d i
def clkE (now floor : Int) (d : Array (Int × Int)) : Int := if clkB now floor d = true then 0 else 2
theorem clk_iff {now floor : Int} {d : Array (Int × Int)} : clkB now floor d = true ↔ (0 ≤ floor ∧ floor ≤ now ∧ now ≤ 1000000) ∧ ∀ i, i < d.size → clkAt now floor d i = true := by
  unfold clkB
  rw [Bool.and_eq_true, decide_eq_true_eq, List.all_eq_true]
  constructor
  · rintro ⟨h, g⟩; exact ⟨h, fun i hi => g i (List.mem_range.2 hi)⟩
  · rintro ⟨h, g⟩; exact ⟨h, fun i hi => g i (List.mem_range.1 hi)⟩
theorem clkE_yes {now floor : Int} {d : Array (Int × Int)} (h : 0 ≤ floor ∧ floor ≤ now ∧ now ≤ 1000000) (g : ∀ i, i < d.size → clkAt now floor d i = true) : clkE now floor d = 0 := by
  unfold clkE; rw [if_pos (clk_iff.2 ⟨h, g⟩)]
theorem clkE_no {now floor : Int} {d : Array (Int × Int)} (i : Nat) (hi : i < d.size) (h : clkAt now floor d i = false) : clkE now floor d = 2 := by
  unfold clkE
  rw [if_neg]
  intro hc
  rw [(clk_iff.1 hc).2 i hi] at h
  cases h
theorem clkE_out {now floor : Int} {d : Array (Int × Int)} (h : ¬ (0 ≤ floor ∧ floor ≤ now ∧ now ≤ 1000000)) : clkE now floor d = 2 := by
  unfold clkE
  rw [if_neg]
  intro hc
  exact h (clk_iff.1 hc).1
/-- The last time ahead of promise k. -/
def lastT (floor : Int) (d : Array (Int × Int)) (k : Nat) : Int := if k = 0 then floor else d[k - 1]!.1
def idsU (d : Array (Int × Int)) (k : Nat) : List Int := (d.toList.take k).map Prod.snd
theorem idsU_succ {d : Array (Int × Int)} {k : Nat} (h : k < d.size) : idsU d (k + 1) = idsU d k ++ [d[k]!.2] := by
  unfold idsU
  rw [List.take_add_one, List.map_append, List.getElem?_eq_getElem (by simpa using h)]
  simp [getElem!_pos d k h]
theorem idsU_mem {d : Array (Int × Int)} {k : Nat} (h : k ≤ d.size) {n : Int} : (idsU d k).contains n = true ↔ ∃ j, j < k ∧ d[j]!.2 = n := by
  unfold idsU
  rw [List.contains_iff_mem, List.mem_map]
  constructor
  · rintro ⟨x, hx, rfl⟩
    obtain ⟨j, hj, e⟩ := List.mem_iff_getElem.1 hx
    have hj' : j < k ∧ j < d.size := by simp at hj; omega
    refine ⟨j, hj'.1, ?_⟩
    rw [getElem!_pos d j hj'.2, ← e]
    simp
  · rintro ⟨j, hj, rfl⟩
    refine ⟨d[j]!, List.mem_iff_getElem.2 ⟨j, by simp; omega, ?_⟩, rfl⟩
    rw [getElem!_pos d j (by omega)]
    simp
/-- One test at promise k, the ones ahead of it being right. -/
theorem clkAt_eq {now floor : Int} {d : Array (Int × Int)} {k : Nat} (_hk : k < d.size) (hall : ∀ j, j < k → clkAt now floor d j = true) :
    clkAt now floor d k = (decide (lastT floor d k < d[k]!.1 ∧ d[k]!.1 ≤ now) && decide (10 ≤ d[k]!.2 ∧ d[k]!.2 ≤ 999999 ∧ d[k]!.2 % 10 ≠ 0) && !(idsU d k).contains d[k]!.2) := by
  have hl : decide (floor < d[k]!.1 ∧ (0 < k → d[k - 1]!.1 < d[k]!.1) ∧ d[k]!.1 ≤ now) = decide (lastT floor d k < d[k]!.1 ∧ d[k]!.1 ≤ now) := by
    unfold lastT
    rcases Nat.eq_zero_or_pos k with h | h
    · subst h; simp
    · rw [if_neg (by omega)]
      have hp := hall (k - 1) (by omega)
      unfold clkAt at hp
      simp only [Bool.and_eq_true, decide_eq_true_eq] at hp
      have h1 := hp.1.1.1
      congr 1
      apply propext
      constructor
      · rintro ⟨_, b, c⟩; exact ⟨b h, c⟩
      · rintro ⟨b, c⟩; exact ⟨by omega, fun _ => b, c⟩
  show (decide _ && decide _ && !(idsU d k).contains d[k]!.2) = _
  rw [hl]
end Go.Proofs.YtnmojicfmcbgmaaGreat
