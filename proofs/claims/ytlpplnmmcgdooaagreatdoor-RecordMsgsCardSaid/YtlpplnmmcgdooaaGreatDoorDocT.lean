/- Regions that draw their order: a condition on the world that is asked behind an operation only where that operation does not wait for all others. The document's Put: small laws. -/
import Derived.Test.YtlpplnmmcgdooaaGreatDoorBase
import Derived.OrdersHeld
import Derived.Deep.RegionHeld
import Derived.Test.YtlpplnmmcgdooaaGreatDoorMsgG
import Derived.Test.YtlpplnmmcgdooaaGreatDoorAwkA
import Derived.Test.YtlpplnmmcgdooaaGreatDoorDocR
import Derived.Deep.RegionHeld3
import Derived.Deep.DrawnRows
import Derived.Maps.AppendAt
import Derived.Deep.AppendLies
namespace Go.Proofs.YtlpplnmmcgdooaaGreatDoor
open Go

section
variable {P : Program} {ops : Array Oper} {Q : Exit → Act → World → Prop} {md : Region.Mode} {S : World → Prop}
/-- Does operation j wait for all others? -/
def lastB (md : Region.Mode) (ops : Array Oper) (j : Nat) : Bool := match ops[j]? with
  | none => false
  | some o => (List.range ops.size).all fun k => k == j || o.after.any fun e => Region.binds md e && e.on == k
theorem lastB_spec {j k : Nat} {o : Oper} (hj : ops[j]? = some o) (h : lastB md ops j = true) (hk : k < ops.size) (hne : k ≠ j) : ∃ e ∈ o.after, Region.binds md e = true ∧ e.on = k := by
  unfold lastB at h
  rw [hj] at h
  have := List.all_eq_true.1 h k (List.mem_range.2 hk)
  simp only [Bool.or_eq_true, beq_iff_eq, Array.any_eq_true'] at this
  rcases this with h1 | ⟨e, he, hb⟩
  · exact absurd h1 hne
  · simp only [Bool.and_eq_true, beq_iff_eq] at hb
    exact ⟨e, he, hb.1, hb.2⟩
/-- Whatever order is picked from here on; S holds behind every operation but one that waits for all others. -/
def wpAnyE (P : Program) (md : Region.Mode) (ops : Array Oper) (Q : Exit → Act → World → Prop) (S : World → Prop) : Nat → Array Bool → Act → World → Prop
  | 0, listed, a, w => Region.ready md ops listed = [] ∧ Q .normal a w
  | fuel + 1, listed, a, w =>
    (Region.ready md ops listed = [] → Q .normal a w) ∧
    ∀ i ∈ Region.ready md ops listed, wpOp P ops Q i (fun a' w' => (lastB md ops i = false → S w') ∧ wpAnyE P md ops Q S fuel (listed.setIfInBounds i true) a' w') a w
theorem wpAny_of_E : ∀ (fuel : Nat) (listed : Array Bool) (a : Act) (w : World), wpAnyE P md ops Q S fuel listed a w → wpAny P md ops Q fuel listed a w
  | 0, _, _, _, h => h
  | fuel + 1, _, _, _, h => ⟨h.1, fun i hi => wpOp_mono (fun a' w' h' => wpAny_of_E fuel _ a' w' h'.2) (h.2 i hi)⟩
theorem wpAnyE_first {i : Nat} {oi : Oper} {v : Value} (hi : ops[i]? = some oi) (hsel : ∀ (j : Nat) (o : Oper) cs b, ops[j]? = some o → o.op ≠ .select cs b)
    (hQ : ∀ c a w, Q (.panic c) (a.put oi.dst v) w → Q (.panic c) a w) :
    ∀ (fuel : Nat) (listed : Array Bool) (a : Act) (w : World),
      (∀ j oj, ops[j]? = some oj → j ≠ i → listed.getD j true = false → (∀ e ∈ oj.after, Region.binds md e = true → e.on ≠ i) → oi.apart ops oj = true) →
      i ∈ Region.ready md ops listed → YieldsIf P ops S oi v a → S w →
      wpAnyE P md ops Q S fuel (listed.setIfInBounds i true) (a.put oi.dst v) w → wpAnyE P md ops Q S (fuel + 1) listed a w := by
  intro fuel
  induction fuel with
  | zero =>
    intro listed a w _ hr hy hS H
    refine ⟨fun h => (by rw [h] at hr; cases hr), fun j hj => ?_⟩
    by_cases hji : j = i
    · subst hji; exact hy.wpOp hi hS ⟨fun _ => hS, H⟩
    · have := ready_mono hj hji
      rw [H.1] at this
      cases this
  | succ fuel ih =>
    intro listed a w hfree hr hy hS H
    refine ⟨fun h => (by rw [h] at hr; cases hr), fun j hj => ?_⟩
    by_cases hji : j = i
    · subst hji; exact hy.wpOp hi hS ⟨fun _ => hS, H⟩
    · have h1 := H.2 j (ready_mono hj hji)
      obtain ⟨hjun, oj, hoj, hall⟩ := mem_ready.1 hj
      have hnot : ∀ e ∈ oj.after, Region.binds md e = true → e.on ≠ i := fun e he hb heq => by
        have h1 := hall e he hb
        have h0 := (mem_ready.1 hr).1
        rw [heq] at h1
        rcases Nat.lt_or_ge i listed.size with h' | h'
        · simp [h'] at h0 h1; rw [h0] at h1; cases h1
        · simp [Array.getElem?_eq_none h'] at h1
      have hlast : lastB md ops j = false := by
        cases hb : lastB md ops j
        · rfl
        · obtain ⟨e, he, hb1, hb2⟩ := lastB_spec hoj hb (Array.getElem?_eq_some_iff.1 hi).1 (Ne.symm hji)
          exact absurd hb2 (hnot e he hb1)
      have h2 := wpOp_putIf hoj (hfree j oj hoj hji hjun hnot) (fun cs b => hsel i oi cs b hi) (fun cs b => hsel j oj cs b hoj) hQ hy h1
      have hfree' : ∀ k ok, ops[k]? = some ok → k ≠ i → (listed.setIfInBounds j true).getD k true = false →
          (∀ e ∈ ok.after, Region.binds md e = true → e.on ≠ i) → oi.apart ops ok = true := fun k ok hk hki hun hno => by
        refine hfree k ok hk hki ?_ hno
        by_cases hjk : j = k
        · subst hjk; exact hjun
        · rw [getD_set_ne true hjk] at hun; exact hun
      refine wpOp_mono (fun a' w' h3 => ⟨h3.2.1, ih (listed.setIfInBounds j true) a' w' hfree' (ready_mono hr (Ne.symm hji)) h3.1 (h3.2.1 hlast) ?_⟩) h2
      rw [Array.setIfInBounds_comm _ _ hji]
      exact h3.2.2
/-- Take number i first. -/
theorem wpAnyE_take {i : Nat} {oi : Oper} {v : Value} {fuel : Nat} {listed : Array Bool} {a : Act} {w : World} (hi : ops[i]? = some oi)
    (hs : Region.noSelect ops = true) (hf : Region.free md ops listed i = true) (hr : (Region.ready md ops listed).contains i = true)
    (hQ : ∀ c a w, Q (.panic c) (a.put oi.dst v) w → Q (.panic c) a w) (hy : YieldsIf P ops S oi v a) (hS : S w)
    (h : wpAnyE P md ops Q S fuel (listed.setIfInBounds i true) (a.put oi.dst v) w) : wpAnyE P md ops Q S (fuel + 1) listed a w :=
  wpAnyE_first hi (Region.noSelect_spec hs) hQ fuel listed a w (Region.free_spec hi hf) (by simpa using hr) hy hS h
/-- Whichever may come up. -/
theorem wpAnyE_all {rs : List Nat} {fuel : Nat} {listed : Array Bool} {a : Act} {w : World} (hr : Region.ready md ops listed = rs) (hne : rs ≠ [])
    (h : ∀ i ∈ rs, wpOp P ops Q i (fun a' w' => (lastB md ops i = false → S w') ∧ wpAnyE P md ops Q S fuel (listed.setIfInBounds i true) a' w') a w) : wpAnyE P md ops Q S (fuel + 1) listed a w :=
  ⟨fun h0 => absurd (hr ▸ h0) hne, hr ▸ h⟩
/-- All have come up. -/
theorem wpAnyE_done {listed : Array Bool} {a : Act} {w : World} (hr : Region.ready md ops listed = []) (h : Q .normal a w) :
    ∀ fuel, wpAnyE P md ops Q S fuel listed a w
  | 0 => ⟨hr, h⟩
  | _ + 1 => ⟨fun _ => h, by rw [hr]; simp⟩
def AllReadyE (P : Program) (md : Region.Mode) (ops : Array Oper) (Q : Exit → Act → World → Prop) (S : World → Prop) (fuel : Nat) (listed : Array Bool) (a : Act) (w : World) (rs : List Nat) : Prop :=
  ∀ i ∈ rs, wpOp P ops Q i (fun a' w' => (lastB md ops i = false → S w') ∧ wpAnyE P md ops Q S fuel (listed.setIfInBounds i true) a' w') a w
theorem AllReadyE.nil {fuel : Nat} {listed : Array Bool} {a : Act} {w : World} : AllReadyE P md ops Q S fuel listed a w [] := fun _ h => by cases h
theorem AllReadyE.cons {fuel : Nat} {listed : Array Bool} {a : Act} {w : World} {i : Nat} {o : Oper} {rs : List Nat} (ho : ops[i]? = some o)
    (h : ∀ K' : Act → World → Prop, Shut (∀ a w, S w → (S w → wpAnyE P md ops Q S fuel (listed.setIfInBounds i true) a w) → K' a w) → if Region.wanted o (yielded ops a.tmps) = true then Oper.wp P o a w K' Q else K' (a.put o.dst undef) w)
    (hs : AllReadyE P md ops Q S fuel listed a w rs) : AllReadyE P md ops Q S fuel listed a w (i :: rs) := fun j hj => by
  rcases List.mem_cons.1 hj with rfl | hj
  · exact wpOp_step ho (fun K' hK => h K' (fun a w hS hW => hK a w ⟨fun _ => hS, hW hS⟩))
  · exact hs j hj
theorem AllReadyE.last {fuel : Nat} {listed : Array Bool} {a : Act} {w : World} {i : Nat} {o : Oper} (ho : ops[i]? = some o) (hl : lastB md ops i = true)
    (h : ∀ K' : Act → World → Prop, Shut (∀ a w, wpAnyE P md ops Q S fuel (listed.setIfInBounds i true) a w → K' a w) → if Region.wanted o (yielded ops a.tmps) = true then Oper.wp P o a w K' Q else K' (a.put o.dst undef) w) : AllReadyE P md ops Q S fuel listed a w [i] := fun j hj => by
  rcases List.mem_cons.1 hj with rfl | hj
  · exact wpOp_step ho (fun K' hK => h K' (fun a w hW => hK a w ⟨(fun hf => by rw [hl] at hf; cases hf), hW⟩))
  · cases hj
theorem wpAnyE_ready {rs : List Nat} {fuel : Nat} {listed : Array Bool} {a : Act} {w : World} (hr : Region.ready md ops listed = rs) (hne : rs ≠ [])
    (h : AllReadyE P md ops Q S fuel listed a w rs) : wpAnyE P md ops Q S (fuel + 1) listed a w := wpAnyE_all hr hne h
theorem wp_region_E {id : Nat} {a : Act} {w : World} (S : World → Prop) (hm : P.follows .mixedOrders = true)
    (h : wpAnyE P .any ops Q S ops.size (Array.replicate ops.size false) a w.drew) : (Code.region id ops true).wp P Q a w :=
  wp_region_any hm (wpAny_of_E _ _ _ _ h)
end
end Go.Proofs.YtlpplnmmcgdooaaGreatDoor
namespace Go.Proofs.YtlpplnmmcgdooaaGreatDoor
open Go.RowKit Go.Sort Nb

/-- One cell that was built, as what is appended. -/
theorem news_one {W : World} {g : Nat} {x : Value} {e : TypeId} (h : W.heap[g]? = some (.cells #[x] e (0, 0))) : ∀ j u, [x][j]? = some u → W.cell? ((⟨g, 0, none⟩ : Addr).add j) = some u := by
  intro j u hj
  rcases j with _ | j
  · simp at hj
    subst hj
    rw [Addr.add_lit, heap_cell h]
    rfl
  · simp at hj
theorem one_one (x : Int) : ∀ u ∈ [Value.int .i64 x], u.oneCell' = true := by
  intro u hu
  simp at hu
  subst hu
  rfl
theorem hA1 (w : World) (o : Obj) : ((w.alloc o).drew).heap[w.heap.size]? = some o := heap_new w o
theorem hA2 (w : World) (o o' : Obj) : (((w.alloc o).alloc o').drew).heap[w.heap.size]? = some o := (Below.heap_alloc _ _ _ (by simp)).trans (heap_new w o)
theorem hA3 (w : World) (o o' : Obj) : (((w.alloc o).alloc o').drew).heap[w.heap.size + 1]? = some o' := heap_new2 w o o'
/-- The document's Check. -/
def DChk : Prop := ∀ (m : PM) (w : World), RdM w m → Calls Tryz.prog 14 #[msgV m] w fun e w' => e = .returned (.int .i64 (chkM m)) ∧ Below w.heap.size w w'
theorem add0 {H j : Nat} {n : Int} {u : Value} {W : World} (h : [Value.int .i64 n][j]? = some u) (hc : W.cell? ⟨H, 0, none⟩ = some (.int .i64 n)) : W.cell? ((⟨H, 0, none⟩ : Addr).add j) = some u := by
  have hj : j = 0 := by
    rcases Nat.eq_zero_or_pos j with h0 | h0
    · exact h0
    · obtain ⟨i, rfl⟩ : ∃ i, j = i + 1 := ⟨j - 1, by omega⟩
      simp at h
  subst hj
  have : Value.int .i64 n = u := by simpa using h
  rw [← this]
  exact hc
theorem farB {w W' : World} {n : Int} {e : TypeId} {o : Obj} {row : Option Nat} (hl : ∀ t, row = some t → t < w.heap.size) (hg : ((w.alloc o).alloc (.cells #[.int .i64 n] e)).drew.grownBy W' row) : ∀ j u, [Value.int .i64 n][j]? = some u → W'.cell? ((⟨w.heap.size + 1, 0, none⟩ : Addr).add j) = some u := fun j u h => add0 h (by
  have e1 : w.heap.size + 1 = (w.alloc o).heap.size := by simp
  rw [hg.cell_far ⟨w.heap.size + 1, 0, none⟩ (by simp) (by intro e; have := hl _ e.symm; simp at this; omega), e1]
  exact cell_new (w.alloc o) _ _ 0)
theorem farC {w W' : World} {n : Int} {e : TypeId} {o : Obj} {row : Option Nat} (hl : ∀ t, row = some t → t < w.heap.size) (hg : ((w.alloc (.cells #[.int .i64 n] e)).alloc o).drew.grownBy W' row) : ∀ j u, [Value.int .i64 n][j]? = some u → W'.cell? ((⟨w.heap.size, 0, none⟩ : Addr).add j) = some u := fun j u h => add0 h (by
  rw [hg.cell_far ⟨w.heap.size, 0, none⟩ (by simp; omega) (by intro e; have := hl _ e.symm; simp at this)]
  exact (World.cell?_alloc_lt (w.alloc (.cells #[.int .i64 n] e)) o ⟨w.heap.size, 0, none⟩ (by simp)).trans (cell_new w _ _ 0))
theorem step_append_B {P : Program} {w : World} {ops : Array Oper} {o : Oper} {a : Act} {K : Act → World → Prop} {Q : Exit → Act → World → Prop} {E : Prop} (hgd : o.guard = none) (s x : Operand) (t : TypeId)
    (ho : o.op = .call { callee := .builtin .append, args := #[s, x], argTypes := #[t, t] })
    (w0 : World) (e : TypeId) (i : TypeInfo) (z : Value) (size bytes : Nat) (ht : P.underlying t = some (.slice e)) (hi : P.info? e = some i) (hz : i.zero = some z)
    (hsize : i.size = size) (hby : i.bytes = bytes) (hzs : z.cells.size = size) (hsz : 0 < size)
    (v : Value) (n : Nat) (xs : List Value) (hs : a.eval s = v) (hown : w.ownsRow w0.heap.size e size v n xs)
    (ad : Addr) (m c : Nat) (news : List Value) (hx : a.eval x = .slice (some ad) m c) (hl : news.length = m * size) (hnews : ∀ j u, news[j]? = some u → w.cell? (ad.add j) = some u) (h1 : ∀ u ∈ news, u.oneCell' = true)
    (h63 : n + m ≤ maxLen) (hbytes : (n + m) * bytes ≤ 140737488355328) (hB : Below w0.heap.size w0 w)
    (h : ∀ v' w', w'.ownsRow w0.heap.size e size v' (n + m) (xs ++ news) → w.grownBy w' v.ownBlock → Below w0.heap.size w0 w' → K (a.put o.dst v') w') :
    if Region.wanted o (yielded ops a.tmps) = true then Oper.wp P o a w K Q else E := by
  have hw : Region.wanted o (yielded ops a.tmps) = true := by simp [Region.wanted, hgd]
  rw [if_pos hw]
  obtain ⟨v', w', hr, h2, h3, _, _⟩ := run_append_own_at (P := P) w w0.heap.size t o.type e i z size bytes ht hi hz hsize hby hzs hsz v n xs hown ad m c news hl hnews h1 h63 hbytes hB.size
  unfold Oper.wp execOp
  simp only [ho, resolve, invoke, builtin, Sem.run_bind, Sem.run_pure, Result.andThen_ok, List.map_toArray, List.map_cons, List.map_nil, hs, hx, hr]
  exact h v' w' h2 h3 (hB.grown h3 hB.size (fun k hk => (hown.lt k hk).1))
theorem rdI_blk {w : World} {g : Nat} {d : Array Int} (h : w.heap[g]? = some (.cells (d.map encI) 3 (0, 0))) : RdI w.heap.size w (some ⟨g, 0, none⟩) d := fun _ => ⟨g, 0, rfl, lt_of_heap h, fun i hi => by rw [Nat.zero_add]; exact row_cell h hi⟩
set_option maxRecDepth 100000 in
set_option maxHeartbeats 1000000 in
theorem dPutBad_of (HCK : DChk) (m : PM) (w : World) (hm : RdM w m) (h0 : chkM m ≠ 0) :
    Calls Tryz.prog 11 #[msgV m] w fun e w' => e = .returned (.tuple #[.string ⟨#[]⟩, .int .i64 (chkM m)]) ∧ Below w.heap.size w w' := by
  have HC := Lib.hid (fun W (h : Below w.heap.size w W) => HCK m W (hm.next h))
  have hne : (chkM m != 0) = true := by simpa using h0
  generalize chkM m = c at HC hne ⊢
  unfold msgV at HC ⊢
  clear h0 hm
  go_enter Tryz.func11, Tryz.ntmps11
  go_wp2_with (go_at_call 14; refine (HC.out _ (bel1 w _)).mono ?_; rintro e w1 ⟨rfl, hb1⟩; have HB1 := Lib.hid (belStep (bel1 w _) hb1); clear hb1)
  go_ret2
  exact ⟨rfl, HB1.out⟩
end Go.Proofs.YtlpplnmmcgdooaaGreatDoor
