/- The image's reader: rows of groups of numbers. -/
import Derived.Deep.CutRange
import Derived.Lib.SliceRun
import Derived.Test.YtnmojicfmcbgmaaGreatDoorQRdr
import Derived.Test.YtnmojicfmcbgmaaGreatDoorQDrw
import Derived.Test.YtnmojicfmcbgmaaGreatDoorQRead
import Derived.Test.YtnmojicfmcbgmaaGreatDoorQIdentB
namespace Go.Proofs.YtnmojicfmcbgmaaGreatDoor
open Go.RowKit Go.Sort Go.Lib Nb
set_option maxRecDepth 100000
/-- A row of the call's own: it reads as its elements, and has room for them. -/
theorem rdK_own_X {α : Type} [Inhabited α] {enc : α → List Value} {k : Nat} {w : World} {d : Array α} {base : Nat} {e : TypeId} {v : Value} (h : w.ownsRow base e k v d.size (flatK enc k d).toList) :
    ∃ A c, v = .slice A d.size c ∧ RdK enc k w.heap.size w A d ∧ d.size ≤ c ∧ (A = none → c = 0) ∧ Fr base A := by
  by_cases hn : v = .slice none 0 0
  · subst hn
    obtain ⟨_, ⟨_, h0⟩ | ⟨g, cap, cur, hv, _⟩⟩ := h
    · exact ⟨none, 0, by rw [h0], fun h => absurd h0 (by omega), Nat.le_of_eq h0, fun _ => rfl, Fr.none_ _⟩
    · cases hv
  · obtain ⟨g, cap, hv, hb, hlt, hH⟩ := holds_of_owns h hn
    obtain ⟨_, ⟨hv2, _⟩ | ⟨g2, cap2, cur2, hv2, _, _, hcc, _⟩⟩ := h
    · exact absurd hv2 hn
    · rw [hv] at hv2
      injection hv2 with _ _ hc
      exact ⟨_, cap, hv, RdK.of_holds hH hlt, by omega, (fun h => by cases h), fun a ha => by injection ha with ha; subst ha; exact hb⟩
theorem own_bel_X {w a : World} {base : Nat} {e : TypeId} {k n : Nat} {v : Value} {xs : List Value} (h : w.ownsRow base e k v n xs) (hb : Below w.heap.size w a) : a.ownsRow base e k v n xs := by
  refine ⟨h.1, ?_⟩
  rcases h.2 with hn | ⟨g, cap, cur, rfl, hbg, hgg, rest⟩
  · exact .inl hn
  · exact .inr ⟨g, cap, cur, rfl, hbg, (hb.block g (lt_of_heap hgg)).trans hgg, rest⟩
theorem lits_new_X (w : World) (xs : List Value) (e : TypeId) : ∀ j u, xs[j]? = some u → (w.alloc (.cells xs.toArray e)).cell? ((⟨w.heap.size, 0, none⟩ : Addr).add j) = some u := by
  intro j u hj
  rw [Addr.add_lit, Nat.zero_add, cell_new, List.getElem?_toArray]
  exact hj
theorem bel_own_X {w0 w a : World} {base : Nat} {e : TypeId} {k n : Nat} {v : Value} {xs : List Value} (h : Below w0.heap.size w0 w) (ho : w.ownsRow base e k v n xs) (hb : w0.heap.size ≤ base) (hg : w.grownBy a v.ownBlock) : Below w0.heap.size w0 a :=
  ⟨hg.os.trans h.os, hg.tape.trans h.tape, hg.output.trans h.output, Nat.le_trans h.size hg.size, fun i hi => (hg.block i (Nat.lt_of_lt_of_le hi h.size) (by intro e; have := (ho.lt i e.symm).1; omega)).trans (h.block i hi)⟩
/-- What groups leaves: the elements, the reader's state. -/
def GrP {α : Type} [Inhabited α] (en : α → List Value) (k n b B : Nat) (s : ByteArray) (z : Array α) (st' : IS) (w : World) (e : Ending) (w' : World) : Prop :=
  ∃ A c, e = .returned (.slice A z.size c) ∧ RdK en k w'.heap.size w' A z ∧ z.size ≤ c ∧ (A = none → c = 0) ∧ Fr w.heap.size A ∧ IPost n b B s st' w w'
theorem grp_lt {n : Nat} {l : List Nat} {k : Nat} (h : k * n + n ≤ l.length) : ((l.drop (k * n)).take n).length = n := by rw [List.length_take, List.length_drop]; omega
theorem getD_grp {n : Nat} {l : List Nat} {k j : Nat} (h : k * n + n ≤ l.length) (hj : j < n) : ((l.drop (k * n)).take n)[j]! = l.getD (k * n + j) 0 := by
  have h1 : j < ((l.drop (k * n)).take n).length := by rw [grp_lt h]; exact hj
  rw [getElem!_pos ((l.drop (k * n)).take n) j h1, List.getElem_take, List.getElem_drop]
  simp [show k * n + j < l.length by omega]
theorem ints_getD {l : List Nat} {i : Nat} (h : i < l.length) : (ints l)[i]! = ((l.getD i 0 : Nat) : Int) := by
  rw [getElem!_pos (ints l) i (by rw [ints_size]; exact h)]
  simp [ints, h]
/-- A row that was read is short. -/
theorem rowR_few (s : List UInt8) (most : Nat) (r : RS) (hm : most ≤ 1000) : (rowR s most r).2.length ≤ 1000 := by
  by_cases he : (rowR s most r).1.e = 0
  · obtain ⟨_, _, c, _⟩ := rowR_ok (s := s) (most := most) (r := r) (r' := (rowR s most r).1) (l := (rowR s most r).2) rfl he
    omega
  · unfold rowR at he ⊢
    split
    · simp
    · rename_i h1
      split
      · simp
      · rename_i l k h2
        rw [if_neg h1, h2] at he
        exact absurd rfl he
theorem infoA_X : (Tryz.prog.info? 29).map (fun i => (i.zero, i.size, i.bytes)) = some (some (.agg #[.int .i64 0, .int .i64 0]), 2, 16) := by kernel_rfl
/-- An element of its numbers. -/
theorem mkA_any (b off c : Nat) (x0 x1 : Int) (w : World) (h0 : w.cell? ⟨b, off, none⟩ = some (.int .i64 x0)) (h1 : w.cell? ⟨b, off + 1, none⟩ = some (.int .i64 x1)) :
    Calls Tryz.prog 80 #[.slice (some ⟨b, off, none⟩) 2 c] w fun e w' => e = .returned (.agg #[.int .i64 x0, .int .i64 x1]) ∧ Below w.heap.size w w' := by
  have hlt : b < w.heap.size := lt_of_cell h0
  have KS := Lib.hid (fun W (hb : Below w.heap.size w W) => (⟨(hb.cell (p := ⟨b, off, none⟩) hlt).trans h0, (hb.cell (p := ⟨b, off + 1, none⟩) hlt).trans h1⟩ : W.cell? ⟨b, off, none⟩ = some (.int .i64 x0) ∧ W.cell? ⟨b, off + 1, none⟩ = some (.int .i64 x1)))
  clear h0 h1
  go_enter Tryz.func80, Tryz.ntmps80
  go_wp2_with fail
  refine wp_region_E (S := fun W => W.cell? ⟨b, off, none⟩ = some (.int .i64 x0) ∧ W.cell? ⟨b, off + 1, none⟩ = some (.int .i64 x1)) (by kernel_rfl) ?_
  have hS := KS.out _ (bel1 w (.cells #[.int .i64 0, .int .i64 0] 29)).drew
  refine takeD (some 3) (i := 0) (v := ?_) rfl rfl (by kernel_rfl) (by kernel_rfl) (by kernel_rfl) (fun _ _ _ h => h) (Or.inl ⟨by rfl, ?_⟩) hS ?_
  rotate_left
  · (intro W hW; (try dsimp only at hW); go_simp; with_reducible rfl)
  simp only [Act.put, List.setIfInBounds_toArray, List.set_cons_zero, List.set_cons_succ]
  refine takeD (some 4) (i := 1) (v := ?_) rfl rfl (by kernel_rfl) (by kernel_rfl) (by kernel_rfl) (fun _ _ _ h => h) (Or.inl ⟨by rfl, ?_⟩) hS ?_
  rotate_left
  · (intro W hW; (try dsimp only at hW); go_simp; with_reducible rfl)
  simp only [Act.put, List.setIfInBounds_toArray, List.set_cons_zero, List.set_cons_succ]
  refine takeD (some 5) (i := 2) (v := ?_) rfl rfl (by kernel_rfl) (by kernel_rfl) (by kernel_rfl) (fun _ _ _ h => h) (Or.inl ⟨by rfl, ?_⟩) hS ?_
  rotate_left
  · (intro W hW; (try dsimp only at hW); go_simp; with_reducible rfl)
  simp only [Act.put, List.setIfInBounds_toArray, List.set_cons_zero, List.set_cons_succ]
  refine takeD (some 6) (i := 3) (v := ?_) rfl rfl (by kernel_rfl) (by kernel_rfl) (by kernel_rfl) (fun _ _ _ h => h) (Or.inl ⟨by rfl, ?_⟩) hS ?_
  rotate_left
  · (intro W hW; (try dsimp only at hW); go_simp; with_reducible rfl)
  simp only [Act.put, List.setIfInBounds_toArray, List.set_cons_zero, List.set_cons_succ]
  refine takeD (some 7) (i := 4) (v := ?_) rfl rfl (by kernel_rfl) (by kernel_rfl) (by kernel_rfl) (fun _ _ _ h => h) (Or.inl ⟨by rfl, ?_⟩) hS ?_
  rotate_left
  · (intro W hW; (try dsimp only at hW); go_simp; with_reducible rfl)
  simp only [Act.put, List.setIfInBounds_toArray, List.set_cons_zero, List.set_cons_succ]
  refine takeD (some 8) (i := 5) (v := ?_) rfl rfl (by kernel_rfl) (by kernel_rfl) (by kernel_rfl) (fun _ _ _ h => h) (Or.inl ⟨by rfl, ?_⟩) hS ?_
  rotate_left
  · (intro W hW; (try dsimp only at hW); go_simp; with_reducible rfl)
  simp only [Act.put, List.setIfInBounds_toArray, List.set_cons_zero, List.set_cons_succ]
  refine takeD (some 9) (i := 6) (v := ?_) rfl rfl (by kernel_rfl) (by kernel_rfl) (by kernel_rfl) (fun _ _ _ h => h) (Or.inl ⟨by rfl, ?_⟩) hS ?_
  rotate_left
  · (intro W hW; (try dsimp only at hW); go_simp; with_reducible rfl)
  simp only [Act.put, List.setIfInBounds_toArray, List.set_cons_zero, List.set_cons_succ]
  refine wpAnyE_ready (rs := [7]) (by kernel_rfl) (by simp) (AllReadyE.last rfl (by kernel_rfl) (fun K hK => ?_))
  go_simp
  refine hK.out _ _ ?_
  clear hK K
  refine wpAnyE_done (by kernel_rfl) ?_ _
  go_wp2
  have k0 : (w.alloc (.cells #[.int .i64 x0, .int .i64 x1] 29)).drew.cell? ⟨w.heap.size, 0, none⟩ = some (.int .i64 x0) := by rw [heap_cell (hA1 w _)]; rfl
  have k1 : (w.alloc (.cells #[.int .i64 x0, .int .i64 x1] 29)).drew.cell? ⟨w.heap.size, 1, none⟩ = some (.int .i64 x1) := by rw [heap_cell (hA1 w _)]; rfl
  refine bodyPost_ret (v := .agg #[.int .i64 x0, .int .i64 x1]) (by simp [results, Tryz.results80, go_sem, k0, k1]) rfl ⟨rfl, (bel1 w _).drew⟩
set_option maxHeartbeats 4000000 in
theorem groupsA_any (n b B : Nat) (s : ByteArray) (st : IS) (w : World) (h : IRd n b B s st w) (hs : s.size ≤ 1000000) :
    Calls Tryz.prog 79 #[.pointer (some ⟨B, 0, none⟩), .int .i64 2, .func (.func 80) #[] #[]] w fun e w' => GrP encA_I 2 n b B s (pairsOf ((rowC 2 (by decide)).rd s.data.toList st).2) ((rowC 2 (by decide)).rd s.data.toList st).1 w e w' := by
  obtain ⟨i0, hi0, hz0, hz1, hz2⟩ := info_parts infoA_X
  have hll := rowR_few s.data.toList 1000 st.r (by decide)
  obtain ⟨r', l, hR⟩ : ∃ r' l, rowR s.data.toList 1000 st.r = (r', l) := ⟨_, _, rfl⟩
  have HROW : Hid (Calls Tryz.prog 87 #[.pointer (some ⟨b, 0, none⟩), .int .i64 1000] w fun e w' => RRowP b s (r', l) w e w') := by
    have := RRow_any b s st.r 1000 w h.rd h.gl hs (by decide)
    rw [hR] at this
    exact this
  have hV : (rowC 2 (by decide)).rd s.data.toList st = (⟨r', st.odd || decide (l.length % 2 ≠ 0)⟩, grp 2 (l.length / 2) l) := by
    show ((⟨(rowR s.data.toList 1000 st.r).1, st.odd || decide ((rowR s.data.toList 1000 st.r).2.length % 2 ≠ 0)⟩ : IS), grp 2 ((rowR s.data.toList 1000 st.r).2.length / 2) (rowR s.data.toList 1000 st.r).2) = _
    rw [hR]
  obtain ⟨od, hod⟩ : ∃ od, st.odd = od := ⟨_, rfl⟩
  have HOD := Lib.hid hod
  rw [hod] at hV
  rw [hV]
  rw [hR] at hll
  simp only at hll
  have H := Lib.hid h
  have c0 := h.c0
  clear h hV hR hod
  go_enter Tryz.func79, Tryz.ntmps79
  go_wp2_with fail
  refine HROW.out.mono ?_
  rintro _ w1 ⟨A, cp, rfl, hrd, ⟨hnil, hcap⟩, hlo, hP⟩
  simp only at hrd hnil hcap hlo hP
  have HI1 := Lib.hid (H.out.rpost hP)
  rw [HOD.out] at HI1
  have HG1 : Hid (Gr2 b B w w1) := hP.gr2
  have HFr : Hid (Fr n A) := fun a ha => Nat.le_trans H.out.hn (hlo a ha)
  have HRD := Lib.hid hrd
  clear hrd hnil hlo hP c0
  have c0 := HI1.out.c0
  have c1 := HI1.out.c1
  have f1 : w1.frozen? ⟨B, 1, none⟩ = false := Lib.frozen_of_heap HI1.out.bx 1
  have hrem : ((l.length : Int) % 2 != 0) = decide (l.length % 2 ≠ 0) := by
    rw [show (l.length : Int) % 2 = ((l.length % 2 : Nat) : Int) by omega]
    generalize l.length % 2 = q
    by_cases h : q = 0
    · subst h; rfl
    · have h2 : (q : Int) ≠ 0 := by omega
      simp [h]
  have HREM := Lib.hid hrem
  clear hrem
  go_upto_region 2 with (fail)
  go_cut [7] from 15 to 28 (fun v wx => v = .slice A l.length cp ∧ wx = w1.setCell ⟨B, 1, none⟩ (.bool (od || decide (l.length % 2 ≠ 0))))
  case first =>
    cases od
    · go_wp2
      go_meet
      exact ⟨rfl, by rw [HREM.out]; rfl⟩
    · go_wp2
      go_meet
      exact ⟨rfl, rfl⟩
  obtain ⟨rfl, rfl⟩ := hcut
  obtain ⟨od2, hod2⟩ : ∃ x, (od || decide (l.length % 2 ≠ 0)) = x := ⟨_, rfl⟩
  rw [hod2]
  have HOD2 := Lib.hid hod2
  have HI2 := Lib.hid (HI1.out.odds od2)
  have HG2 := Lib.hid (HG1.out.trans (HI1.out.gr_odd od2))
  have HR2 := Lib.hid (HRD.out.gr2 (HI1.out.gr_odd od2) HFr.out H.out.hb H.out.hB)
  obtain ⟨w2, hw2⟩ : ∃ W, W = w1.setCell ⟨B, 1, none⟩ (.bool od2) := ⟨_, rfl⟩
  rw [← hw2] at HI2 HG2 HR2 ⊢
  clear hw2 hod2 HREM c0 c1 f1 HI1 HG1 HRD HROW
  go_wp2_with fail
  go_loopw [8, 9] (fun v i W => ∃ k q : Nat, i = .int .i64 (q : Int) ∧ Hid (q = k * 2) ∧ k * 2 ≤ l.length ∧ W.ownsRow w2.heap.size 29 2 v (pairsOf (grp 2 k l)).size (flatK encA_I 2 (pairsOf (grp 2 k l))).toList ∧ Hid (Below w2.heap.size w2 W)) (fun _ i _ => l.length + 2 - (intOf i).toNat)
  case atStart => exact ⟨0, 0, rfl, Lib.hid (by simp), by omega, nil_ownsK _ _ _ _ _, Lib.hid (Below.refl _ _)⟩
  case round =>
    obtain ⟨k, q, rfl, HQ, hk, hown, HB⟩ := hrel
    have hsz : (pairsOf (grp 2 k l)).size = k := by unfold pairsOf; simp [grp_len]
    rw [hsz] at hown
    have hqb : q ≤ 1000 := by have := HQ.out; omega
    by_cases hlt : q + 2 ≤ l.length
    · have kz : (q : Int) + 2 ≤ (l.length : Int) := by omega
      have kq : k * 2 + 2 ≤ l.length := by have := HQ.out; omega
      obtain ⟨b1, off, rfl, hbl, f⟩ := (HR2.out.below HB.out) (by rw [ints_size]; omega)
      have hG := Lib.hid (grp_snoc 2 k l)
      have e0 : wr.cell? ⟨b1, off + q, none⟩ = some (.int .i64 ((l.getD (q + 0) 0 : Nat) : Int)) := by rw [show off + q = off + (q + 0) by omega, f (q + 0) (by rw [ints_size]; omega), ints_getD (by omega)]
      have e1 : wr.cell? ⟨b1, off + q + 1, none⟩ = some (.int .i64 ((l.getD (q + 1) 0 : Nat) : Int)) := by rw [show off + q + 1 = off + (q + 1) by omega, f (q + 1) (by rw [ints_size]; omega), ints_getD (by omega)]
      have HS : Hid ((pairsOf (grp 2 (k + 1) l)) = (pairsOf (grp 2 k l)).push ((((l.getD (q + 0) 0 : Nat) : Int), ((l.getD (q + 1) 0 : Nat) : Int)))) := by
        show _ = _
        rw [hG.out]
        unfold pairsOf
        rw [List.map_append, List.map_cons, List.map_nil]
        unfold toP
        rw [getD_grp (j := 0) kq (by decide), getD_grp (j := 1) kq (by decide), ← HQ.out]
        simp
      obtain ⟨y0, hy0⟩ : ∃ y : Int, ((l.getD (q + 0) 0 : Nat) : Int) = y := ⟨_, rfl⟩
      rw [hy0] at e0 HS
      clear hy0
      obtain ⟨y1, hy1⟩ : ∃ y : Int, ((l.getD (q + 1) 0 : Nat) : Int) = y := ⟨_, rfl⟩
      rw [hy1] at e1 HS
      clear hy1
      have HMK := Lib.hid (fun W (hb : Below wr.heap.size wr W) => mkA_any b1 (off + q) (cp - q) y0 y1 W ((hb.cell (lt_of_cell e0)).trans e0) ((hb.cell (lt_of_cell e1)).trans e1))
      clear f
      go_wp2_with fail
      refine (HMK.out _ (Below.refl _ _)).mono ?_
      rintro _ w5 ⟨rfl, hb5⟩
      have HBa := Lib.hid (belAlloc (belStep HB.out hb5) (.cells #[.int .i64 y0, .int .i64 y1] 29))
      have hown2 := own_bel_X hown (belAlloc hb5 (.cells #[.int .i64 y0, .int .i64 y1] 29))
      clear HMK hb5 e0 e1
      go_wp2_with (at_builtin; refine wpList_append_own _ rfl _ _ 23 rfl w2.heap.size 29 i0 (.agg #[.int .i64 0, .int .i64 0]) 2 16 Tryz.underlying23 hi0 hz0 hz1 hz2 rfl (by decide) _ _ _ rfl hown2 ⟨w5.heap.size, 0, none⟩ 1 1 [.int .i64 y0, .int .i64 y1] rfl rfl (lits_new_X w5 _ _) (by simp [Value.oneCell']) (by unfold maxLen; omega) (by omega) (by have := HBa.out.size; omega) ?_; intro v' w6 hown3 hgrow _)
      go_roundw
      case rel =>
        refine ⟨k + 1, q + 2, by go_num, Lib.hid (by have := HQ.out; omega), by omega, ?_, Lib.hid (bel_own_X HBa.out hown2 (Nat.le_refl _) hgrow)⟩
        rw [HS.out, Array.size_push, hsz, flatK_push (enc := encA_I) (k := 2) (fun _ => rfl)]
        exact hown3
      case measure => simp [intOf]; omega
    · have kz : decide ((q : Int) + 2 ≤ (l.length : Int)) = false := decide_eq_false (by omega)
      have hkd : l.length / 2 = k := by have := HQ.out; omega
      obtain ⟨A3, c3, rfl, h1, h2, h3, h4⟩ := rdK_own_X (d := pairsOf (grp 2 k l)) (by rw [hsz]; exact hown)
      have HK := Lib.hid hkd
      have HRE := Lib.hid (And.intro h1 (And.intro h2 (And.intro h3 h4)))
      clear hkd h1 h2 h3 h4 hown hsz hlt
      go_wp2
      go_ret
      rw [HK.out, HOD2.out]
      exact ⟨A3, c3, rfl, HRE.out.1, HRE.out.2.1, HRE.out.2.2.1, HRE.out.2.2.2.mono HG2.out.size, HI2.out.below HB.out, HG2.out.below HB.out⟩
theorem infoR_X : (Tryz.prog.info? 141).map (fun i => (i.zero, i.size, i.bytes)) = some (some (.agg #[.int .i64 0, .int .i64 0]), 2, 16) := by kernel_rfl
/-- An element of its numbers. -/
theorem mkR_any (b off c : Nat) (x0 x1 : Int) (w : World) (h0 : w.cell? ⟨b, off, none⟩ = some (.int .i64 x0)) (h1 : w.cell? ⟨b, off + 1, none⟩ = some (.int .i64 x1)) :
    Calls Tryz.prog 84 #[.slice (some ⟨b, off, none⟩) 2 c] w fun e w' => e = .returned (.agg #[.int .i64 x0, .int .i64 x1]) ∧ Below w.heap.size w w' := by
  have hlt : b < w.heap.size := lt_of_cell h0
  have KS := Lib.hid (fun W (hb : Below w.heap.size w W) => (⟨(hb.cell (p := ⟨b, off, none⟩) hlt).trans h0, (hb.cell (p := ⟨b, off + 1, none⟩) hlt).trans h1⟩ : W.cell? ⟨b, off, none⟩ = some (.int .i64 x0) ∧ W.cell? ⟨b, off + 1, none⟩ = some (.int .i64 x1)))
  clear h0 h1
  go_enter Tryz.func84, Tryz.ntmps84
  go_wp2_with fail
  refine wp_region_E (S := fun W => W.cell? ⟨b, off, none⟩ = some (.int .i64 x0) ∧ W.cell? ⟨b, off + 1, none⟩ = some (.int .i64 x1)) (by kernel_rfl) ?_
  have hS := KS.out _ (bel1 w (.cells #[.int .i64 0, .int .i64 0] 141)).drew
  refine takeD (some 3) (i := 0) (v := ?_) rfl rfl (by kernel_rfl) (by kernel_rfl) (by kernel_rfl) (fun _ _ _ h => h) (Or.inl ⟨by rfl, ?_⟩) hS ?_
  rotate_left
  · (intro W hW; (try dsimp only at hW); go_simp; with_reducible rfl)
  simp only [Act.put, List.setIfInBounds_toArray, List.set_cons_zero, List.set_cons_succ]
  refine takeD (some 4) (i := 1) (v := ?_) rfl rfl (by kernel_rfl) (by kernel_rfl) (by kernel_rfl) (fun _ _ _ h => h) (Or.inl ⟨by rfl, ?_⟩) hS ?_
  rotate_left
  · (intro W hW; (try dsimp only at hW); go_simp; with_reducible rfl)
  simp only [Act.put, List.setIfInBounds_toArray, List.set_cons_zero, List.set_cons_succ]
  refine takeD (some 5) (i := 2) (v := ?_) rfl rfl (by kernel_rfl) (by kernel_rfl) (by kernel_rfl) (fun _ _ _ h => h) (Or.inl ⟨by rfl, ?_⟩) hS ?_
  rotate_left
  · (intro W hW; (try dsimp only at hW); go_simp; with_reducible rfl)
  simp only [Act.put, List.setIfInBounds_toArray, List.set_cons_zero, List.set_cons_succ]
  refine takeD (some 6) (i := 3) (v := ?_) rfl rfl (by kernel_rfl) (by kernel_rfl) (by kernel_rfl) (fun _ _ _ h => h) (Or.inl ⟨by rfl, ?_⟩) hS ?_
  rotate_left
  · (intro W hW; (try dsimp only at hW); go_simp; with_reducible rfl)
  simp only [Act.put, List.setIfInBounds_toArray, List.set_cons_zero, List.set_cons_succ]
  refine takeD (some 7) (i := 4) (v := ?_) rfl rfl (by kernel_rfl) (by kernel_rfl) (by kernel_rfl) (fun _ _ _ h => h) (Or.inl ⟨by rfl, ?_⟩) hS ?_
  rotate_left
  · (intro W hW; (try dsimp only at hW); go_simp; with_reducible rfl)
  simp only [Act.put, List.setIfInBounds_toArray, List.set_cons_zero, List.set_cons_succ]
  refine takeD (some 8) (i := 5) (v := ?_) rfl rfl (by kernel_rfl) (by kernel_rfl) (by kernel_rfl) (fun _ _ _ h => h) (Or.inl ⟨by rfl, ?_⟩) hS ?_
  rotate_left
  · (intro W hW; (try dsimp only at hW); go_simp; with_reducible rfl)
  simp only [Act.put, List.setIfInBounds_toArray, List.set_cons_zero, List.set_cons_succ]
  refine takeD (some 9) (i := 6) (v := ?_) rfl rfl (by kernel_rfl) (by kernel_rfl) (by kernel_rfl) (fun _ _ _ h => h) (Or.inl ⟨by rfl, ?_⟩) hS ?_
  rotate_left
  · (intro W hW; (try dsimp only at hW); go_simp; with_reducible rfl)
  simp only [Act.put, List.setIfInBounds_toArray, List.set_cons_zero, List.set_cons_succ]
  refine wpAnyE_ready (rs := [7]) (by kernel_rfl) (by simp) (AllReadyE.last rfl (by kernel_rfl) (fun K hK => ?_))
  go_simp
  refine hK.out _ _ ?_
  clear hK K
  refine wpAnyE_done (by kernel_rfl) ?_ _
  go_wp2
  have k0 : (w.alloc (.cells #[.int .i64 x0, .int .i64 x1] 141)).drew.cell? ⟨w.heap.size, 0, none⟩ = some (.int .i64 x0) := by rw [heap_cell (hA1 w _)]; rfl
  have k1 : (w.alloc (.cells #[.int .i64 x0, .int .i64 x1] 141)).drew.cell? ⟨w.heap.size, 1, none⟩ = some (.int .i64 x1) := by rw [heap_cell (hA1 w _)]; rfl
  refine bodyPost_ret (v := .agg #[.int .i64 x0, .int .i64 x1]) (by simp [results, Tryz.results84, go_sem, k0, k1]) rfl ⟨rfl, (bel1 w _).drew⟩
set_option maxHeartbeats 4000000 in
theorem groupsR_any (n b B : Nat) (s : ByteArray) (st : IS) (w : World) (h : IRd n b B s st w) (hs : s.size ≤ 1000000) :
    Calls Tryz.prog 83 #[.pointer (some ⟨B, 0, none⟩), .int .i64 2, .func (.func 84) #[] #[]] w fun e w' => GrP encR 2 n b B s (pairsOf ((rowC 2 (by decide)).rd s.data.toList st).2) ((rowC 2 (by decide)).rd s.data.toList st).1 w e w' := by
  obtain ⟨i0, hi0, hz0, hz1, hz2⟩ := info_parts infoR_X
  have hll := rowR_few s.data.toList 1000 st.r (by decide)
  obtain ⟨r', l, hR⟩ : ∃ r' l, rowR s.data.toList 1000 st.r = (r', l) := ⟨_, _, rfl⟩
  have HROW : Hid (Calls Tryz.prog 87 #[.pointer (some ⟨b, 0, none⟩), .int .i64 1000] w fun e w' => RRowP b s (r', l) w e w') := by
    have := RRow_any b s st.r 1000 w h.rd h.gl hs (by decide)
    rw [hR] at this
    exact this
  have hV : (rowC 2 (by decide)).rd s.data.toList st = (⟨r', st.odd || decide (l.length % 2 ≠ 0)⟩, grp 2 (l.length / 2) l) := by
    show ((⟨(rowR s.data.toList 1000 st.r).1, st.odd || decide ((rowR s.data.toList 1000 st.r).2.length % 2 ≠ 0)⟩ : IS), grp 2 ((rowR s.data.toList 1000 st.r).2.length / 2) (rowR s.data.toList 1000 st.r).2) = _
    rw [hR]
  obtain ⟨od, hod⟩ : ∃ od, st.odd = od := ⟨_, rfl⟩
  have HOD := Lib.hid hod
  rw [hod] at hV
  rw [hV]
  rw [hR] at hll
  simp only at hll
  have H := Lib.hid h
  have c0 := h.c0
  clear h hV hR hod
  go_enter Tryz.func83, Tryz.ntmps83
  go_wp2_with fail
  refine HROW.out.mono ?_
  rintro _ w1 ⟨A, cp, rfl, hrd, ⟨hnil, hcap⟩, hlo, hP⟩
  simp only at hrd hnil hcap hlo hP
  have HI1 := Lib.hid (H.out.rpost hP)
  rw [HOD.out] at HI1
  have HG1 : Hid (Gr2 b B w w1) := hP.gr2
  have HFr : Hid (Fr n A) := fun a ha => Nat.le_trans H.out.hn (hlo a ha)
  have HRD := Lib.hid hrd
  clear hrd hnil hlo hP c0
  have c0 := HI1.out.c0
  have c1 := HI1.out.c1
  have f1 : w1.frozen? ⟨B, 1, none⟩ = false := Lib.frozen_of_heap HI1.out.bx 1
  have hrem : ((l.length : Int) % 2 != 0) = decide (l.length % 2 ≠ 0) := by
    rw [show (l.length : Int) % 2 = ((l.length % 2 : Nat) : Int) by omega]
    generalize l.length % 2 = q
    by_cases h : q = 0
    · subst h; rfl
    · have h2 : (q : Int) ≠ 0 := by omega
      simp [h]
  have HREM := Lib.hid hrem
  clear hrem
  go_upto_region 2 with (fail)
  go_cut [7] from 15 to 28 (fun v wx => v = .slice A l.length cp ∧ wx = w1.setCell ⟨B, 1, none⟩ (.bool (od || decide (l.length % 2 ≠ 0))))
  case first =>
    cases od
    · go_wp2
      go_meet
      exact ⟨rfl, by rw [HREM.out]; rfl⟩
    · go_wp2
      go_meet
      exact ⟨rfl, rfl⟩
  obtain ⟨rfl, rfl⟩ := hcut
  obtain ⟨od2, hod2⟩ : ∃ x, (od || decide (l.length % 2 ≠ 0)) = x := ⟨_, rfl⟩
  rw [hod2]
  have HOD2 := Lib.hid hod2
  have HI2 := Lib.hid (HI1.out.odds od2)
  have HG2 := Lib.hid (HG1.out.trans (HI1.out.gr_odd od2))
  have HR2 := Lib.hid (HRD.out.gr2 (HI1.out.gr_odd od2) HFr.out H.out.hb H.out.hB)
  obtain ⟨w2, hw2⟩ : ∃ W, W = w1.setCell ⟨B, 1, none⟩ (.bool od2) := ⟨_, rfl⟩
  rw [← hw2] at HI2 HG2 HR2 ⊢
  clear hw2 hod2 HREM c0 c1 f1 HI1 HG1 HRD HROW
  go_wp2_with fail
  go_loopw [8, 9] (fun v i W => ∃ k q : Nat, i = .int .i64 (q : Int) ∧ Hid (q = k * 2) ∧ k * 2 ≤ l.length ∧ W.ownsRow w2.heap.size 141 2 v (pairsOf (grp 2 k l)).size (flatK encR 2 (pairsOf (grp 2 k l))).toList ∧ Hid (Below w2.heap.size w2 W)) (fun _ i _ => l.length + 2 - (intOf i).toNat)
  case atStart => exact ⟨0, 0, rfl, Lib.hid (by simp), by omega, nil_ownsK _ _ _ _ _, Lib.hid (Below.refl _ _)⟩
  case round =>
    obtain ⟨k, q, rfl, HQ, hk, hown, HB⟩ := hrel
    have hsz : (pairsOf (grp 2 k l)).size = k := by unfold pairsOf; simp [grp_len]
    rw [hsz] at hown
    have hqb : q ≤ 1000 := by have := HQ.out; omega
    by_cases hlt : q + 2 ≤ l.length
    · have kz : (q : Int) + 2 ≤ (l.length : Int) := by omega
      have kq : k * 2 + 2 ≤ l.length := by have := HQ.out; omega
      obtain ⟨b1, off, rfl, hbl, f⟩ := (HR2.out.below HB.out) (by rw [ints_size]; omega)
      have hG := Lib.hid (grp_snoc 2 k l)
      have e0 : wr.cell? ⟨b1, off + q, none⟩ = some (.int .i64 ((l.getD (q + 0) 0 : Nat) : Int)) := by rw [show off + q = off + (q + 0) by omega, f (q + 0) (by rw [ints_size]; omega), ints_getD (by omega)]
      have e1 : wr.cell? ⟨b1, off + q + 1, none⟩ = some (.int .i64 ((l.getD (q + 1) 0 : Nat) : Int)) := by rw [show off + q + 1 = off + (q + 1) by omega, f (q + 1) (by rw [ints_size]; omega), ints_getD (by omega)]
      have HS : Hid ((pairsOf (grp 2 (k + 1) l)) = (pairsOf (grp 2 k l)).push ((((l.getD (q + 0) 0 : Nat) : Int), ((l.getD (q + 1) 0 : Nat) : Int)))) := by
        show _ = _
        rw [hG.out]
        unfold pairsOf
        rw [List.map_append, List.map_cons, List.map_nil]
        unfold toP
        rw [getD_grp (j := 0) kq (by decide), getD_grp (j := 1) kq (by decide), ← HQ.out]
        simp
      obtain ⟨y0, hy0⟩ : ∃ y : Int, ((l.getD (q + 0) 0 : Nat) : Int) = y := ⟨_, rfl⟩
      rw [hy0] at e0 HS
      clear hy0
      obtain ⟨y1, hy1⟩ : ∃ y : Int, ((l.getD (q + 1) 0 : Nat) : Int) = y := ⟨_, rfl⟩
      rw [hy1] at e1 HS
      clear hy1
      have HMK := Lib.hid (fun W (hb : Below wr.heap.size wr W) => mkR_any b1 (off + q) (cp - q) y0 y1 W ((hb.cell (lt_of_cell e0)).trans e0) ((hb.cell (lt_of_cell e1)).trans e1))
      clear f
      go_wp2_with fail
      refine (HMK.out _ (Below.refl _ _)).mono ?_
      rintro _ w5 ⟨rfl, hb5⟩
      have HBa := Lib.hid (belAlloc (belStep HB.out hb5) (.cells #[.int .i64 y0, .int .i64 y1] 141))
      have hown2 := own_bel_X hown (belAlloc hb5 (.cells #[.int .i64 y0, .int .i64 y1] 141))
      clear HMK hb5 e0 e1
      go_wp2_with (at_builtin; refine wpList_append_own _ rfl _ _ 79 rfl w2.heap.size 141 i0 (.agg #[.int .i64 0, .int .i64 0]) 2 16 Tryz.underlying79 hi0 hz0 hz1 hz2 rfl (by decide) _ _ _ rfl hown2 ⟨w5.heap.size, 0, none⟩ 1 1 [.int .i64 y0, .int .i64 y1] rfl rfl (lits_new_X w5 _ _) (by simp [Value.oneCell']) (by unfold maxLen; omega) (by omega) (by have := HBa.out.size; omega) ?_; intro v' w6 hown3 hgrow _)
      go_roundw
      case rel =>
        refine ⟨k + 1, q + 2, by go_num, Lib.hid (by have := HQ.out; omega), by omega, ?_, Lib.hid (bel_own_X HBa.out hown2 (Nat.le_refl _) hgrow)⟩
        rw [HS.out, Array.size_push, hsz, flatK_push (enc := encR) (k := 2) (fun _ => rfl)]
        exact hown3
      case measure => simp [intOf]; omega
    · have kz : decide ((q : Int) + 2 ≤ (l.length : Int)) = false := decide_eq_false (by omega)
      have hkd : l.length / 2 = k := by have := HQ.out; omega
      obtain ⟨A3, c3, rfl, h1, h2, h3, h4⟩ := rdK_own_X (d := pairsOf (grp 2 k l)) (by rw [hsz]; exact hown)
      have HK := Lib.hid hkd
      have HRE := Lib.hid (And.intro h1 (And.intro h2 (And.intro h3 h4)))
      clear hkd h1 h2 h3 h4 hown hsz hlt
      go_wp2
      go_ret
      rw [HK.out, HOD2.out]
      exact ⟨A3, c3, rfl, HRE.out.1, HRE.out.2.1, HRE.out.2.2.1, HRE.out.2.2.2.mono HG2.out.size, HI2.out.below HB.out, HG2.out.below HB.out⟩
theorem infoK_X : (Tryz.prog.info? 136).map (fun i => (i.zero, i.size, i.bytes)) = some (some (.agg #[.int .i64 0, .int .i64 0, .int .i64 0, .int .i64 0, .int .i64 0, .int .i64 0]), 6, 48) := by kernel_rfl
/-- An element of its numbers. -/
theorem mkK_any (b off c : Nat) (x0 x1 x2 x3 x4 x5 : Int) (w : World) (h0 : w.cell? ⟨b, off, none⟩ = some (.int .i64 x0)) (h1 : w.cell? ⟨b, off + 1, none⟩ = some (.int .i64 x1)) (h2 : w.cell? ⟨b, off + 2, none⟩ = some (.int .i64 x2)) (h3 : w.cell? ⟨b, off + 3, none⟩ = some (.int .i64 x3)) (h4 : w.cell? ⟨b, off + 4, none⟩ = some (.int .i64 x4)) (h5 : w.cell? ⟨b, off + 5, none⟩ = some (.int .i64 x5)) :
    Calls Tryz.prog 137 #[.slice (some ⟨b, off, none⟩) 6 c] w fun e w' => e = .returned (.agg #[.int .i64 x0, .int .i64 x1, .int .i64 x2, .int .i64 x3, .int .i64 x4, .int .i64 x5]) ∧ Below w.heap.size w w' := by
  have hlt : b < w.heap.size := lt_of_cell h0
  have KS := Lib.hid (fun W (hb : Below w.heap.size w W) => (⟨(hb.cell (p := ⟨b, off, none⟩) hlt).trans h0, (hb.cell (p := ⟨b, off + 1, none⟩) hlt).trans h1, (hb.cell (p := ⟨b, off + 2, none⟩) hlt).trans h2, (hb.cell (p := ⟨b, off + 3, none⟩) hlt).trans h3, (hb.cell (p := ⟨b, off + 4, none⟩) hlt).trans h4, (hb.cell (p := ⟨b, off + 5, none⟩) hlt).trans h5⟩ : W.cell? ⟨b, off, none⟩ = some (.int .i64 x0) ∧ W.cell? ⟨b, off + 1, none⟩ = some (.int .i64 x1) ∧ W.cell? ⟨b, off + 2, none⟩ = some (.int .i64 x2) ∧ W.cell? ⟨b, off + 3, none⟩ = some (.int .i64 x3) ∧ W.cell? ⟨b, off + 4, none⟩ = some (.int .i64 x4) ∧ W.cell? ⟨b, off + 5, none⟩ = some (.int .i64 x5)))
  clear h0 h1 h2 h3 h4 h5
  go_enter Tryz.func137, Tryz.ntmps137
  go_wp2_with fail
  refine wp_region_E (S := fun W => W.cell? ⟨b, off, none⟩ = some (.int .i64 x0) ∧ W.cell? ⟨b, off + 1, none⟩ = some (.int .i64 x1) ∧ W.cell? ⟨b, off + 2, none⟩ = some (.int .i64 x2) ∧ W.cell? ⟨b, off + 3, none⟩ = some (.int .i64 x3) ∧ W.cell? ⟨b, off + 4, none⟩ = some (.int .i64 x4) ∧ W.cell? ⟨b, off + 5, none⟩ = some (.int .i64 x5)) (by kernel_rfl) ?_
  have hS := KS.out _ (bel1 w (.cells #[.int .i64 0, .int .i64 0, .int .i64 0, .int .i64 0, .int .i64 0, .int .i64 0] 136)).drew
  refine takeD (some 3) (i := 0) (v := ?_) rfl rfl (by kernel_rfl) (by kernel_rfl) (by kernel_rfl) (fun _ _ _ h => h) (Or.inl ⟨by rfl, ?_⟩) hS ?_
  rotate_left
  · (intro W hW; (try dsimp only at hW); go_simp; with_reducible rfl)
  simp only [Act.put, List.setIfInBounds_toArray, List.set_cons_zero, List.set_cons_succ]
  refine takeD (some 4) (i := 1) (v := ?_) rfl rfl (by kernel_rfl) (by kernel_rfl) (by kernel_rfl) (fun _ _ _ h => h) (Or.inl ⟨by rfl, ?_⟩) hS ?_
  rotate_left
  · (intro W hW; (try dsimp only at hW); go_simp; with_reducible rfl)
  simp only [Act.put, List.setIfInBounds_toArray, List.set_cons_zero, List.set_cons_succ]
  refine takeD (some 5) (i := 2) (v := ?_) rfl rfl (by kernel_rfl) (by kernel_rfl) (by kernel_rfl) (fun _ _ _ h => h) (Or.inl ⟨by rfl, ?_⟩) hS ?_
  rotate_left
  · (intro W hW; (try dsimp only at hW); go_simp; with_reducible rfl)
  simp only [Act.put, List.setIfInBounds_toArray, List.set_cons_zero, List.set_cons_succ]
  refine takeD (some 6) (i := 3) (v := ?_) rfl rfl (by kernel_rfl) (by kernel_rfl) (by kernel_rfl) (fun _ _ _ h => h) (Or.inl ⟨by rfl, ?_⟩) hS ?_
  rotate_left
  · (intro W hW; (try dsimp only at hW); go_simp; with_reducible rfl)
  simp only [Act.put, List.setIfInBounds_toArray, List.set_cons_zero, List.set_cons_succ]
  refine takeD (some 7) (i := 4) (v := ?_) rfl rfl (by kernel_rfl) (by kernel_rfl) (by kernel_rfl) (fun _ _ _ h => h) (Or.inl ⟨by rfl, ?_⟩) hS ?_
  rotate_left
  · (intro W hW; (try dsimp only at hW); go_simp; with_reducible rfl)
  simp only [Act.put, List.setIfInBounds_toArray, List.set_cons_zero, List.set_cons_succ]
  refine takeD (some 8) (i := 5) (v := ?_) rfl rfl (by kernel_rfl) (by kernel_rfl) (by kernel_rfl) (fun _ _ _ h => h) (Or.inl ⟨by rfl, ?_⟩) hS ?_
  rotate_left
  · (intro W hW; (try dsimp only at hW); go_simp; with_reducible rfl)
  simp only [Act.put, List.setIfInBounds_toArray, List.set_cons_zero, List.set_cons_succ]
  refine takeD (some 9) (i := 6) (v := ?_) rfl rfl (by kernel_rfl) (by kernel_rfl) (by kernel_rfl) (fun _ _ _ h => h) (Or.inl ⟨by rfl, ?_⟩) hS ?_
  rotate_left
  · (intro W hW; (try dsimp only at hW); go_simp; with_reducible rfl)
  simp only [Act.put, List.setIfInBounds_toArray, List.set_cons_zero, List.set_cons_succ]
  refine takeD (some 10) (i := 7) (v := ?_) rfl rfl (by kernel_rfl) (by kernel_rfl) (by kernel_rfl) (fun _ _ _ h => h) (Or.inl ⟨by rfl, ?_⟩) hS ?_
  rotate_left
  · (intro W hW; (try dsimp only at hW); go_simp; with_reducible rfl)
  simp only [Act.put, List.setIfInBounds_toArray, List.set_cons_zero, List.set_cons_succ]
  refine takeD (some 11) (i := 8) (v := ?_) rfl rfl (by kernel_rfl) (by kernel_rfl) (by kernel_rfl) (fun _ _ _ h => h) (Or.inl ⟨by rfl, ?_⟩) hS ?_
  rotate_left
  · (intro W hW; (try dsimp only at hW); go_simp; with_reducible rfl)
  simp only [Act.put, List.setIfInBounds_toArray, List.set_cons_zero, List.set_cons_succ]
  refine takeD (some 12) (i := 9) (v := ?_) rfl rfl (by kernel_rfl) (by kernel_rfl) (by kernel_rfl) (fun _ _ _ h => h) (Or.inl ⟨by rfl, ?_⟩) hS ?_
  rotate_left
  · (intro W hW; (try dsimp only at hW); go_simp; with_reducible rfl)
  simp only [Act.put, List.setIfInBounds_toArray, List.set_cons_zero, List.set_cons_succ]
  refine takeD (some 13) (i := 10) (v := ?_) rfl rfl (by kernel_rfl) (by kernel_rfl) (by kernel_rfl) (fun _ _ _ h => h) (Or.inl ⟨by rfl, ?_⟩) hS ?_
  rotate_left
  · (intro W hW; (try dsimp only at hW); go_simp; with_reducible rfl)
  simp only [Act.put, List.setIfInBounds_toArray, List.set_cons_zero, List.set_cons_succ]
  refine takeD (some 14) (i := 11) (v := ?_) rfl rfl (by kernel_rfl) (by kernel_rfl) (by kernel_rfl) (fun _ _ _ h => h) (Or.inl ⟨by rfl, ?_⟩) hS ?_
  rotate_left
  · (intro W hW; (try dsimp only at hW); go_simp; with_reducible rfl)
  simp only [Act.put, List.setIfInBounds_toArray, List.set_cons_zero, List.set_cons_succ]
  refine takeD (some 15) (i := 12) (v := ?_) rfl rfl (by kernel_rfl) (by kernel_rfl) (by kernel_rfl) (fun _ _ _ h => h) (Or.inl ⟨by rfl, ?_⟩) hS ?_
  rotate_left
  · (intro W hW; (try dsimp only at hW); go_simp; with_reducible rfl)
  simp only [Act.put, List.setIfInBounds_toArray, List.set_cons_zero, List.set_cons_succ]
  refine takeD (some 16) (i := 13) (v := ?_) rfl rfl (by kernel_rfl) (by kernel_rfl) (by kernel_rfl) (fun _ _ _ h => h) (Or.inl ⟨by rfl, ?_⟩) hS ?_
  rotate_left
  · (intro W hW; (try dsimp only at hW); go_simp; with_reducible rfl)
  simp only [Act.put, List.setIfInBounds_toArray, List.set_cons_zero, List.set_cons_succ]
  refine takeD (some 17) (i := 14) (v := ?_) rfl rfl (by kernel_rfl) (by kernel_rfl) (by kernel_rfl) (fun _ _ _ h => h) (Or.inl ⟨by rfl, ?_⟩) hS ?_
  rotate_left
  · (intro W hW; (try dsimp only at hW); go_simp; with_reducible rfl)
  simp only [Act.put, List.setIfInBounds_toArray, List.set_cons_zero, List.set_cons_succ]
  refine takeD (some 18) (i := 15) (v := ?_) rfl rfl (by kernel_rfl) (by kernel_rfl) (by kernel_rfl) (fun _ _ _ h => h) (Or.inl ⟨by rfl, ?_⟩) hS ?_
  rotate_left
  · (intro W hW; (try dsimp only at hW); go_simp; with_reducible rfl)
  simp only [Act.put, List.setIfInBounds_toArray, List.set_cons_zero, List.set_cons_succ]
  refine takeD (some 19) (i := 16) (v := ?_) rfl rfl (by kernel_rfl) (by kernel_rfl) (by kernel_rfl) (fun _ _ _ h => h) (Or.inl ⟨by rfl, ?_⟩) hS ?_
  rotate_left
  · (intro W hW; (try dsimp only at hW); go_simp; with_reducible rfl)
  simp only [Act.put, List.setIfInBounds_toArray, List.set_cons_zero, List.set_cons_succ]
  refine takeD (some 20) (i := 17) (v := ?_) rfl rfl (by kernel_rfl) (by kernel_rfl) (by kernel_rfl) (fun _ _ _ h => h) (Or.inl ⟨by rfl, ?_⟩) hS ?_
  rotate_left
  · (intro W hW; (try dsimp only at hW); go_simp; with_reducible rfl)
  simp only [Act.put, List.setIfInBounds_toArray, List.set_cons_zero, List.set_cons_succ]
  refine takeD (some 21) (i := 18) (v := ?_) rfl rfl (by kernel_rfl) (by kernel_rfl) (by kernel_rfl) (fun _ _ _ h => h) (Or.inl ⟨by rfl, ?_⟩) hS ?_
  rotate_left
  · (intro W hW; (try dsimp only at hW); go_simp; with_reducible rfl)
  simp only [Act.put, List.setIfInBounds_toArray, List.set_cons_zero, List.set_cons_succ]
  refine wpAnyE_ready (rs := [19]) (by kernel_rfl) (by simp) (AllReadyE.last rfl (by kernel_rfl) (fun K hK => ?_))
  go_simp
  refine hK.out _ _ ?_
  clear hK K
  refine wpAnyE_done (by kernel_rfl) ?_ _
  go_wp2
  have k0 : (w.alloc (.cells #[.int .i64 x0, .int .i64 x1, .int .i64 x2, .int .i64 x3, .int .i64 x4, .int .i64 x5] 136)).drew.cell? ⟨w.heap.size, 0, none⟩ = some (.int .i64 x0) := by rw [heap_cell (hA1 w _)]; rfl
  have k1 : (w.alloc (.cells #[.int .i64 x0, .int .i64 x1, .int .i64 x2, .int .i64 x3, .int .i64 x4, .int .i64 x5] 136)).drew.cell? ⟨w.heap.size, 1, none⟩ = some (.int .i64 x1) := by rw [heap_cell (hA1 w _)]; rfl
  have k2 : (w.alloc (.cells #[.int .i64 x0, .int .i64 x1, .int .i64 x2, .int .i64 x3, .int .i64 x4, .int .i64 x5] 136)).drew.cell? ⟨w.heap.size, 2, none⟩ = some (.int .i64 x2) := by rw [heap_cell (hA1 w _)]; rfl
  have k3 : (w.alloc (.cells #[.int .i64 x0, .int .i64 x1, .int .i64 x2, .int .i64 x3, .int .i64 x4, .int .i64 x5] 136)).drew.cell? ⟨w.heap.size, 3, none⟩ = some (.int .i64 x3) := by rw [heap_cell (hA1 w _)]; rfl
  have k4 : (w.alloc (.cells #[.int .i64 x0, .int .i64 x1, .int .i64 x2, .int .i64 x3, .int .i64 x4, .int .i64 x5] 136)).drew.cell? ⟨w.heap.size, 4, none⟩ = some (.int .i64 x4) := by rw [heap_cell (hA1 w _)]; rfl
  have k5 : (w.alloc (.cells #[.int .i64 x0, .int .i64 x1, .int .i64 x2, .int .i64 x3, .int .i64 x4, .int .i64 x5] 136)).drew.cell? ⟨w.heap.size, 5, none⟩ = some (.int .i64 x5) := by rw [heap_cell (hA1 w _)]; rfl
  refine bodyPost_ret (v := .agg #[.int .i64 x0, .int .i64 x1, .int .i64 x2, .int .i64 x3, .int .i64 x4, .int .i64 x5]) (by simp [results, Tryz.results137, go_sem, k0, k1, k2, k3, k4, k5]) rfl ⟨rfl, (bel1 w _).drew⟩
set_option maxHeartbeats 4000000 in
theorem groupsK_any (n b B : Nat) (s : ByteArray) (st : IS) (w : World) (h : IRd n b B s st w) (hs : s.size ≤ 1000000) :
    Calls Tryz.prog 136 #[.pointer (some ⟨B, 0, none⟩), .int .i64 6, .func (.func 137) #[] #[]] w fun e w' => GrP encK 6 n b B s (acksOf ((rowC 6 (by decide)).rd s.data.toList st).2) ((rowC 6 (by decide)).rd s.data.toList st).1 w e w' := by
  obtain ⟨i0, hi0, hz0, hz1, hz2⟩ := info_parts infoK_X
  have hll := rowR_few s.data.toList 1000 st.r (by decide)
  obtain ⟨r', l, hR⟩ : ∃ r' l, rowR s.data.toList 1000 st.r = (r', l) := ⟨_, _, rfl⟩
  have HROW : Hid (Calls Tryz.prog 87 #[.pointer (some ⟨b, 0, none⟩), .int .i64 1000] w fun e w' => RRowP b s (r', l) w e w') := by
    have := RRow_any b s st.r 1000 w h.rd h.gl hs (by decide)
    rw [hR] at this
    exact this
  have hV : (rowC 6 (by decide)).rd s.data.toList st = (⟨r', st.odd || decide (l.length % 6 ≠ 0)⟩, grp 6 (l.length / 6) l) := by
    show ((⟨(rowR s.data.toList 1000 st.r).1, st.odd || decide ((rowR s.data.toList 1000 st.r).2.length % 6 ≠ 0)⟩ : IS), grp 6 ((rowR s.data.toList 1000 st.r).2.length / 6) (rowR s.data.toList 1000 st.r).2) = _
    rw [hR]
  obtain ⟨od, hod⟩ : ∃ od, st.odd = od := ⟨_, rfl⟩
  have HOD := Lib.hid hod
  rw [hod] at hV
  rw [hV]
  rw [hR] at hll
  simp only at hll
  have H := Lib.hid h
  have c0 := h.c0
  clear h hV hR hod
  go_enter Tryz.func136, Tryz.ntmps136
  go_wp2_with fail
  refine HROW.out.mono ?_
  rintro _ w1 ⟨A, cp, rfl, hrd, ⟨hnil, hcap⟩, hlo, hP⟩
  simp only at hrd hnil hcap hlo hP
  have HI1 := Lib.hid (H.out.rpost hP)
  rw [HOD.out] at HI1
  have HG1 : Hid (Gr2 b B w w1) := hP.gr2
  have HFr : Hid (Fr n A) := fun a ha => Nat.le_trans H.out.hn (hlo a ha)
  have HRD := Lib.hid hrd
  clear hrd hnil hlo hP c0
  have c0 := HI1.out.c0
  have c1 := HI1.out.c1
  have f1 : w1.frozen? ⟨B, 1, none⟩ = false := Lib.frozen_of_heap HI1.out.bx 1
  have hrem : ((l.length : Int) % 6 != 0) = decide (l.length % 6 ≠ 0) := by
    rw [show (l.length : Int) % 6 = ((l.length % 6 : Nat) : Int) by omega]
    generalize l.length % 6 = q
    by_cases h : q = 0
    · subst h; rfl
    · have h2 : (q : Int) ≠ 0 := by omega
      simp [h]
  have HREM := Lib.hid hrem
  clear hrem
  go_upto_region 2 with (fail)
  go_cut [7] from 15 to 28 (fun v wx => v = .slice A l.length cp ∧ wx = w1.setCell ⟨B, 1, none⟩ (.bool (od || decide (l.length % 6 ≠ 0))))
  case first =>
    cases od
    · go_wp2
      go_meet
      exact ⟨rfl, by rw [HREM.out]; rfl⟩
    · go_wp2
      go_meet
      exact ⟨rfl, rfl⟩
  obtain ⟨rfl, rfl⟩ := hcut
  obtain ⟨od2, hod2⟩ : ∃ x, (od || decide (l.length % 6 ≠ 0)) = x := ⟨_, rfl⟩
  rw [hod2]
  have HOD2 := Lib.hid hod2
  have HI2 := Lib.hid (HI1.out.odds od2)
  have HG2 := Lib.hid (HG1.out.trans (HI1.out.gr_odd od2))
  have HR2 := Lib.hid (HRD.out.gr2 (HI1.out.gr_odd od2) HFr.out H.out.hb H.out.hB)
  obtain ⟨w2, hw2⟩ : ∃ W, W = w1.setCell ⟨B, 1, none⟩ (.bool od2) := ⟨_, rfl⟩
  rw [← hw2] at HI2 HG2 HR2 ⊢
  clear hw2 hod2 HREM c0 c1 f1 HI1 HG1 HRD HROW
  go_wp2_with fail
  go_loopw [8, 9] (fun v i W => ∃ k q : Nat, i = .int .i64 (q : Int) ∧ Hid (q = k * 6) ∧ k * 6 ≤ l.length ∧ W.ownsRow w2.heap.size 136 6 v (acksOf (grp 6 k l)).size (flatK encK 6 (acksOf (grp 6 k l))).toList ∧ Hid (Below w2.heap.size w2 W)) (fun _ i _ => l.length + 6 - (intOf i).toNat)
  case atStart => exact ⟨0, 0, rfl, Lib.hid (by simp), by omega, nil_ownsK _ _ _ _ _, Lib.hid (Below.refl _ _)⟩
  case round =>
    obtain ⟨k, q, rfl, HQ, hk, hown, HB⟩ := hrel
    have hsz : (acksOf (grp 6 k l)).size = k := by unfold acksOf; simp [grp_len]
    rw [hsz] at hown
    have hqb : q ≤ 1000 := by have := HQ.out; omega
    by_cases hlt : q + 6 ≤ l.length
    · have kz : (q : Int) + 6 ≤ (l.length : Int) := by omega
      have kq : k * 6 + 6 ≤ l.length := by have := HQ.out; omega
      obtain ⟨b1, off, rfl, hbl, f⟩ := (HR2.out.below HB.out) (by rw [ints_size]; omega)
      have hG := Lib.hid (grp_snoc 6 k l)
      have e0 : wr.cell? ⟨b1, off + q, none⟩ = some (.int .i64 ((l.getD (q + 0) 0 : Nat) : Int)) := by rw [show off + q = off + (q + 0) by omega, f (q + 0) (by rw [ints_size]; omega), ints_getD (by omega)]
      have e1 : wr.cell? ⟨b1, off + q + 1, none⟩ = some (.int .i64 ((l.getD (q + 1) 0 : Nat) : Int)) := by rw [show off + q + 1 = off + (q + 1) by omega, f (q + 1) (by rw [ints_size]; omega), ints_getD (by omega)]
      have e2 : wr.cell? ⟨b1, off + q + 2, none⟩ = some (.int .i64 ((l.getD (q + 2) 0 : Nat) : Int)) := by rw [show off + q + 2 = off + (q + 2) by omega, f (q + 2) (by rw [ints_size]; omega), ints_getD (by omega)]
      have e3 : wr.cell? ⟨b1, off + q + 3, none⟩ = some (.int .i64 ((l.getD (q + 3) 0 : Nat) : Int)) := by rw [show off + q + 3 = off + (q + 3) by omega, f (q + 3) (by rw [ints_size]; omega), ints_getD (by omega)]
      have e4 : wr.cell? ⟨b1, off + q + 4, none⟩ = some (.int .i64 ((l.getD (q + 4) 0 : Nat) : Int)) := by rw [show off + q + 4 = off + (q + 4) by omega, f (q + 4) (by rw [ints_size]; omega), ints_getD (by omega)]
      have e5 : wr.cell? ⟨b1, off + q + 5, none⟩ = some (.int .i64 ((l.getD (q + 5) 0 : Nat) : Int)) := by rw [show off + q + 5 = off + (q + 5) by omega, f (q + 5) (by rw [ints_size]; omega), ints_getD (by omega)]
      have HS : Hid ((acksOf (grp 6 (k + 1) l)) = (acksOf (grp 6 k l)).push (⟨((l.getD (q + 0) 0 : Nat) : Int), ((l.getD (q + 1) 0 : Nat) : Int), ((l.getD (q + 2) 0 : Nat) : Int), ((l.getD (q + 3) 0 : Nat) : Int), ((l.getD (q + 4) 0 : Nat) : Int), ((l.getD (q + 5) 0 : Nat) : Int)⟩)) := by
        show _ = _
        rw [hG.out]
        unfold acksOf
        rw [List.map_append, List.map_cons, List.map_nil]
        unfold toK
        rw [getD_grp (j := 0) kq (by decide), getD_grp (j := 1) kq (by decide), getD_grp (j := 2) kq (by decide), getD_grp (j := 3) kq (by decide), getD_grp (j := 4) kq (by decide), getD_grp (j := 5) kq (by decide), ← HQ.out]
        simp
      obtain ⟨y0, hy0⟩ : ∃ y : Int, ((l.getD (q + 0) 0 : Nat) : Int) = y := ⟨_, rfl⟩
      rw [hy0] at e0 HS
      clear hy0
      obtain ⟨y1, hy1⟩ : ∃ y : Int, ((l.getD (q + 1) 0 : Nat) : Int) = y := ⟨_, rfl⟩
      rw [hy1] at e1 HS
      clear hy1
      obtain ⟨y2, hy2⟩ : ∃ y : Int, ((l.getD (q + 2) 0 : Nat) : Int) = y := ⟨_, rfl⟩
      rw [hy2] at e2 HS
      clear hy2
      obtain ⟨y3, hy3⟩ : ∃ y : Int, ((l.getD (q + 3) 0 : Nat) : Int) = y := ⟨_, rfl⟩
      rw [hy3] at e3 HS
      clear hy3
      obtain ⟨y4, hy4⟩ : ∃ y : Int, ((l.getD (q + 4) 0 : Nat) : Int) = y := ⟨_, rfl⟩
      rw [hy4] at e4 HS
      clear hy4
      obtain ⟨y5, hy5⟩ : ∃ y : Int, ((l.getD (q + 5) 0 : Nat) : Int) = y := ⟨_, rfl⟩
      rw [hy5] at e5 HS
      clear hy5
      have HMK := Lib.hid (fun W (hb : Below wr.heap.size wr W) => mkK_any b1 (off + q) (cp - q) y0 y1 y2 y3 y4 y5 W ((hb.cell (lt_of_cell e0)).trans e0) ((hb.cell (lt_of_cell e1)).trans e1) ((hb.cell (lt_of_cell e2)).trans e2) ((hb.cell (lt_of_cell e3)).trans e3) ((hb.cell (lt_of_cell e4)).trans e4) ((hb.cell (lt_of_cell e5)).trans e5))
      clear f
      go_wp2_with fail
      refine (HMK.out _ (Below.refl _ _)).mono ?_
      rintro _ w5 ⟨rfl, hb5⟩
      have HBa := Lib.hid (belAlloc (belStep HB.out hb5) (.cells #[.int .i64 y0, .int .i64 y1, .int .i64 y2, .int .i64 y3, .int .i64 y4, .int .i64 y5] 136))
      have hown2 := own_bel_X hown (belAlloc hb5 (.cells #[.int .i64 y0, .int .i64 y1, .int .i64 y2, .int .i64 y3, .int .i64 y4, .int .i64 y5] 136))
      clear HMK hb5 e0 e1 e2 e3 e4 e5
      go_wp2_with (at_builtin; refine wpList_append_own _ rfl _ _ 130 rfl w2.heap.size 136 i0 (.agg #[.int .i64 0, .int .i64 0, .int .i64 0, .int .i64 0, .int .i64 0, .int .i64 0]) 6 48 Tryz.underlying130 hi0 hz0 hz1 hz2 rfl (by decide) _ _ _ rfl hown2 ⟨w5.heap.size, 0, none⟩ 1 1 [.int .i64 y0, .int .i64 y1, .int .i64 y2, .int .i64 y3, .int .i64 y4, .int .i64 y5] rfl rfl (lits_new_X w5 _ _) (by simp [Value.oneCell']) (by unfold maxLen; omega) (by omega) (by have := HBa.out.size; omega) ?_; intro v' w6 hown3 hgrow _)
      go_roundw
      case rel =>
        refine ⟨k + 1, q + 6, by go_num, Lib.hid (by have := HQ.out; omega), by omega, ?_, Lib.hid (bel_own_X HBa.out hown2 (Nat.le_refl _) hgrow)⟩
        rw [HS.out, Array.size_push, hsz, flatK_push (enc := encK) (k := 6) (fun _ => rfl)]
        exact hown3
      case measure => simp [intOf]; omega
    · have kz : decide ((q : Int) + 6 ≤ (l.length : Int)) = false := decide_eq_false (by omega)
      have hkd : l.length / 6 = k := by have := HQ.out; omega
      obtain ⟨A3, c3, rfl, h1, h2, h3, h4⟩ := rdK_own_X (d := acksOf (grp 6 k l)) (by rw [hsz]; exact hown)
      have HK := Lib.hid hkd
      have HRE := Lib.hid (And.intro h1 (And.intro h2 (And.intro h3 h4)))
      clear hkd h1 h2 h3 h4 hown hsz hlt
      go_wp2
      go_ret
      rw [HK.out, HOD2.out]
      exact ⟨A3, c3, rfl, HRE.out.1, HRE.out.2.1, HRE.out.2.2.1, HRE.out.2.2.2.mono HG2.out.size, HI2.out.below HB.out, HG2.out.below HB.out⟩
end Go.Proofs.YtnmojicfmcbgmaaGreatDoor
