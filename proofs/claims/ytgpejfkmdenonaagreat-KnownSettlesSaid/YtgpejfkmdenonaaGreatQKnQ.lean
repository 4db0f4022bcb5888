/- The plain laws of what is added, settled and open. What Add comes to, one for the program and the document. -/
import Derived.Test.YtgpejfkmdenonaaGreatQKnO
import Derived.Test.YtgpejfkmdenonaaGreatQKnX
namespace Go.Proofs.YtgpejfkmdenonaaGreat
open Go.RowKit Go.Sort Go.Lib
section
variable {k r : KN} {lo hi : Int} {atts : Array (Int × Int)}
theorem hide_out (h : AddA k lo hi atts) (hr : AddR k lo hi atts r) (hz : k.ats.size + atts.size ≤ 400) {x : Int × Int} (hx : x ∈ r.ats.toList) : hasK r x.1 = false ∧ r.base < x.1 := by
  obtain ⟨l, _, _, h3⟩ := hr.ok h hz
  have hc := h3.chk
  have h1 := ((riseL_iff _ _ _).1 hc.up).2 x hx
  refine ⟨?_, h1.1⟩
  rw [Bool.eq_false_iff, Ne, hasK_iff hc]
  rintro (h4 | h4)
  · omega
  · rw [hc.out x hx] at h4; cases h4
theorem set_has (hc : ChkP r) {ids : Array Int} {s : KN} (hs : SetR r ids s) {x : Int × Int} (hx : x ∈ r.ats.toList) (hi : x.2 ∈ ids.toList) : hasK s x.1 = true := by
  obtain ⟨l, h1, _, h3⟩ := hs.ok hc
  rw [h3.has]
  exact Or.inr ((h1.2 x.1).trans (pS_iff.2 (Or.inr ⟨x, hx, hi, rfl⟩)))
theorem hide_in (h : AddA k lo hi atts) (hr : AddR k lo hi atts r) (hz : k.ats.size + atts.size ≤ 400) {t : Int} (h1 : lo < t) (h2 : t ≤ hi) (h3 : ∀ x ∈ r.ats.toList, x.1 ≠ t) : hasK r t = true := by
  obtain ⟨l, g1, _, g3⟩ := hr.ok h hz
  have hl0 := h.lo0
  rw [g3.has]
  by_cases hb : t ≤ k.base
  · exact Or.inl ⟨by omega, hb⟩
  · refine Or.inr ((g1.2 t).trans (pK_iff.2 ?_))
    by_cases hin : inR k.rs t = true
    · exact Or.inl hin
    · refine Or.inr ⟨⟨by omega, h2⟩, fun hm => ?_, fun hm => ?_⟩
      · obtain ⟨x, hx, e⟩ := List.mem_map.1 hm
        by_cases hk : x.1 ∈ timesL k.ats.toList
        · obtain ⟨y, hy, e2⟩ := List.mem_map.1 hk
          exact h3 y (by rw [g3.eat]; exact allK_mem.2 (Or.inl hy)) (e2.trans e)
        · refine h3 x ?_ e
          rw [g3.eat]
          exact allK_mem.2 (Or.inr ⟨hx, by omega, by rw [e]; simpa using hin, hk⟩)
      · obtain ⟨y, hy, e⟩ := List.mem_map.1 hm
        exact h3 y (by rw [g3.eat]; exact allK_mem.2 (Or.inl hy)) e
theorem set_all (hc : ChkP r) {o : Array Int} {s : KN} (ho : OpenR r o) (hs : SetR r o s) : s.ats = #[] := by
  obtain ⟨l, _, _, h3⟩ := hs.ok hc
  rw [h3.eat]
  unfold stayK
  have : (r.ats.toList.filter fun a => !doneK o a) = [] := by
    rw [List.filter_eq_nil_iff]
    intro a ha
    have hm : a.2 ∈ o.toList := (ho.mem a.2).2 ⟨chk_iff.2 hc, List.mem_map.2 ⟨a, ha, rfl⟩⟩
    unfold doneK
    rw [List.contains_iff_mem.2 hm]
    decide
  rw [this]
theorem open_none {s : KN} {o : Array Int} (hs : s.ats = #[]) (ho : OpenR s o) : o.size = 0 := by
  rcases Nat.eq_zero_or_pos o.size with h | h
  · exact h
  · have hm : o[0]! ∈ o.toList := by rw [getElem!_pos o 0 h]; simp
    have := ((ho.mem _).1 hm).2
    rw [hs] at this
    simp at this
theorem take_any (d : Array (Int × Int)) (p : Int × Int → Bool) {j : Nat} (hj : j < d.size) : (d.toList.take (j + 1)).any p = ((d.toList.take j).any p || p d[j]!) := by
  rw [List.take_succ_eq_append_getElem (by simpa using hj), List.any_append, getElem!_pos d j hj]
  simp
theorem any_no {d : Array (Int × Int)} {t : Int} (h : d.toList.any (fun x => x.1 == t) = false) : ∀ x ∈ d.toList, x.1 ≠ t := fun x hx e => by
  rw [List.any_eq_false] at h
  exact h x hx (by simp [e])
end
theorem bcell_K {W w1 : World} (hb : Below W.heap.size W w1) : (∀ b o, b < W.heap.size → w1.cell? ⟨b, o, none⟩ = W.cell? ⟨b, o, none⟩) ∧ (∀ b o, b < W.heap.size → w1.frozen? ⟨b, o, none⟩ = W.frozen? ⟨b, o, none⟩) :=
  ⟨fun b o h => hb.cell (p := ⟨b, o, none⟩) h, fun b o h => hb.frozen (p := ⟨b, o, none⟩) h⟩
end Go.Proofs.YtgpejfkmdenonaaGreat
namespace Go.Proofs.YtgpejfkmdenonaaGreat
open Go.RowKit Go.Sort Go.Lib
/-- What Add comes to: what is known then, and the error. -/
def AddQ (k : KN) (lo hi : Int) (atts : Array (Int × Int)) (r : KN) (c : Int) : Prop := (addB k lo hi atts = false ∧ r = ⟨0, #[], #[]⟩ ∧ c = 2) ∨ (AddA k lo hi atts ∧ AddR k lo hi atts r ∧ c = 0)
theorem AddQ.uniq {k : KN} {lo hi : Int} {atts : Array (Int × Int)} {r s : KN} {c d : Int} (h : AddQ k lo hi atts r c) (g : AddQ k lo hi atts s d) : r = s ∧ c = d := by
  rcases h with ⟨h0, rfl, rfl⟩ | ⟨h0, h1, rfl⟩
  · rcases g with ⟨_, rfl, rfl⟩ | ⟨g0, _, _⟩
    · exact ⟨rfl, rfl⟩
    · rw [add_iff.2 g0] at h0
      cases h0
  · rcases g with ⟨g0, _, _⟩ | ⟨_, g1, rfl⟩
    · rw [add_iff.2 h0] at g0
      cases g0
    · exact ⟨h1.uniq g1, rfl⟩
theorem kn_zero (w : World) : KnV w (.agg #[.int .i64 0, .slice none 0 0, .slice none 0 0]) ⟨0, #[], #[]⟩ := ⟨none, 0, none, 0, rfl, fun h => absurd h (by decide), fun h => absurd h (by decide), fun _ => rfl, fun _ => rfl⟩
theorem kAdd_q (v : Value) (k : KN) (lo hi : Int) (atts : Array (Int × Int)) (A3 : Option Addr) (c3 : Nat) (w : World) (h : KnV w v k) (h3 : RdK encA_I 2 w.heap.size w A3 atts) (s1 : k.rs.size ≤ 500) (s2 : k.ats.size ≤ 250) (s3 : atts.size ≤ 150) :
    Calls Tryz.prog 9 #[v, .int .i64 lo, .int .i64 hi, .slice A3 atts.size c3] w fun e w' => ∃ A4 c4 A5 c5 r c, e = .returned (.tuple #[.agg #[.int .i64 r.base, .slice A4 r.rs.size c4, .slice A5 r.ats.size c5], .int .i64 c]) ∧ KnV w' (.agg #[.int .i64 r.base, .slice A4 r.rs.size c4, .slice A5 r.ats.size c5]) r ∧ AddQ k lo hi atts r c ∧ r.rs.size ≤ k.rs.size + k.ats.size + atts.size + 1 ∧ r.ats.size ≤ k.ats.size + atts.size ∧ Below w.heap.size w w' := by
  refine (kAdd_any v k lo hi atts A3 c3 w h h3 s1 s2 s3).mono ?_
  rintro e w' ⟨⟨h0, rfl⟩ | ⟨hA, v', r, rfl, hk, hr, hz⟩, hb⟩
  · exact ⟨none, 0, none, 0, ⟨0, #[], #[]⟩, 2, rfl, kn_zero w', Or.inl ⟨h0, rfl, rfl⟩, by simp, by simp, hb⟩
  · have hk' := hk
    obtain ⟨A4, c4, A5, c5, rfl, _⟩ := hk'
    refine ⟨A4, c4, A5, c5, r, 0, rfl, hk, Or.inr ⟨hA, hr, rfl⟩, hz, ?_, hb⟩
    obtain ⟨l, _, _, hf⟩ := hr.ok hA (by omega)
    have := allK_size k atts
    rw [hf.eat]
    exact this
theorem rAdd_q (v : Value) (k : KN) (lo hi : Int) (atts : Array (Int × Int)) (A3 : Option Addr) (c3 : Nat) (w : World) (h : KnV w v k) (h3 : RdK encA_I 2 w.heap.size w A3 atts) (s1 : k.rs.size ≤ 500) (s2 : k.ats.size ≤ 250) (s3 : atts.size ≤ 150) :
    Calls Tryz.prog 10 #[v, .int .i64 lo, .int .i64 hi, .slice A3 atts.size c3] w fun e w' => ∃ A4 c4 A5 c5 r c, e = .returned (.tuple #[.agg #[.int .i64 r.base, .slice A4 r.rs.size c4, .slice A5 r.ats.size c5], .int .i64 c]) ∧ KnV w' (.agg #[.int .i64 r.base, .slice A4 r.rs.size c4, .slice A5 r.ats.size c5]) r ∧ AddQ k lo hi atts r c ∧ Below w.heap.size w w' := by
  refine (rAdd_any v k lo hi atts A3 c3 w h h3 s1 s2 s3).mono ?_
  rintro e w' ⟨⟨h0, rfl⟩ | ⟨hA, v', r, rfl, hk, hr⟩, hb⟩
  · exact ⟨none, 0, none, 0, ⟨0, #[], #[]⟩, 2, rfl, kn_zero w', Or.inl ⟨h0, rfl, rfl⟩, hb⟩
  · have hk' := hk
    obtain ⟨A4, c4, A5, c5, rfl, _⟩ := hk'
    exact ⟨A4, c4, A5, c5, r, 0, rfl, hk, Or.inr ⟨hA, hr, rfl⟩, hb⟩
theorem sameK_self (k : KN) : sameK k k = true := sameK_iff.2 rfl
end Go.Proofs.YtgpejfkmdenonaaGreat
