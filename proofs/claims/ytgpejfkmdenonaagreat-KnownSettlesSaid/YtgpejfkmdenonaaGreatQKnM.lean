/- known.Settle. known.Open, known.Same. -/
import Derived.Test.YtgpejfkmdenonaaGreatQKnK
import Derived.Deep.RegionHeld3
namespace Go.Proofs.YtgpejfkmdenonaaGreat
open Go.RowKit Go.Sort Go.Lib
set_option maxRecDepth 100000
theorem RdI_R.next {w w' : World} {A : Option Addr} {d : Array Int} (h : RdI_R w.heap.size w A d) (hb : Below w.heap.size w w') : RdI_R w'.heap.size w' A d := (h.below hb).mono hb.size
theorem three_blk (w : World) (o o' o'' : Obj) : (((w.alloc o).alloc o').alloc o'').heap[w.heap.size]? = some o ∧ (((w.alloc o).alloc o').alloc o'').heap[w.heap.size + 1]? = some o' ∧ (((w.alloc o).alloc o').alloc o'').heap[w.heap.size + 2]? = some o'' :=
  ⟨blk_alloc (two_blk w o o').1, blk_alloc (two_blk w o o').2, by rw [show w.heap.size + 2 = ((w.alloc o).alloc o').heap.size by simp]; exact heap_alloc_new _ _⟩
theorem blk1 {W : World} {g : Nat} {a : Value} {T : TypeId} (h : W.heap[g]? = some (.cells #[a] T (0, 0))) : W.cell? ⟨g, 0, none⟩ = some a := by rw [cell_of_row W g 0 _ _ (0, 0) h]; rfl
def setlL (ids : Array Int) (l : List (Int × Int)) : List (Int × Int) := (l.filter (doneK ids)).map fun a => (a.1, a.1)
/-- Settle's loop, at a round's head. -/
def StL (ids : Array Int) (ats : Array (Int × Int)) (w : World) (ov iv : Value) (wr : World) : Prop := ∃ (j : Nat) (out : Array (Int × Int)), iv = .int .i64 (j : Int) ∧ j ≤ ats.size ∧ out.size ≤ j ∧ setlL ids ats.toList = out.toList ++ setlL ids (ats.toList.drop j) ∧ wr.ownsRow w.heap.size 47 2 ov out.size (flatK encR 2 out).toList ∧ Below w.heap.size w wr
set_option maxHeartbeats 4000000 in
theorem kSettle_bad (base : Int) (rs ats : Array (Int × Int)) (A1 : Option Addr) (c1 : Nat) (A2 : Option Addr) (c2 : Nat) (ids : Array Int) (A3 : Option Addr) (c3 : Nat) (w : World) (h1 : RdK encR 2 w.heap.size w A1 rs) (h2 : RdK encA_I 2 w.heap.size w A2 ats) (hbad : chkB ⟨base, rs, ats⟩ = false) :
    Calls Tryz.prog 16 #[.agg #[.int .i64 base, .slice A1 rs.size c1, .slice A2 ats.size c2], .slice A3 ids.size c3] w fun e w' => e = .returned (.agg #[.int .i64 base, .slice A1 rs.size c1, .slice A2 ats.size c2]) ∧ Below w.heap.size w w' := by
  have HC : Hid (∀ W, Below w.heap.size w W → Calls Tryz.prog 12 #[.agg #[.int .i64 base, .slice A1 rs.size c1, .slice A2 ats.size c2]] W fun e w' => e = .returned (.int .i64 (chkE ⟨base, rs, ats⟩)) ∧ Below W.heap.size W w') := fun W hb => kCheck_let base rs ats A1 c1 A2 c2 W ((h1.below hb).mono hb.size) ((h2.below hb).mono hb.size)
  have q0 := chkE_ne ⟨base, rs, ats⟩
  rw [hbad] at q0
  clear h1 h2 hbad
  generalize chkE ⟨base, rs, ats⟩ = ce at q0 HC
  have HT := Lib.hid (three_blk w (.cells #[.int .i64 base, .slice A1 rs.size c1, .slice A2 ats.size c2] 25) (.cells #[.slice A3 ids.size c3] 40) (.cells #[.int .i64 0, .slice none 0 0, .slice none 0 0] 25))
  go_enter Tryz.func16, Tryz.ntmps16
  go_wp2_with fail
  refine (HC.out _ (belAlloc (belAlloc (bel1 w _) _) _)).mono ?_
  rintro e w1 ⟨rfl, hb1⟩
  obtain ⟨⟨u0, u1, u2⟩, _⟩ := blk3 (blk_bel HT.out.1 hb1)
  obtain ⟨⟨k0, k1, k2⟩, f0⟩ := blk3 (blk_bel HT.out.2.2 hb1)
  have HB1 := Lib.hid (belStep (belAlloc (belAlloc (bel1 w _) _) _) hb1)
  clear hb1
  go_wp2
  refine bodyPost_ret (v := .agg #[.int .i64 base, .slice A1 rs.size c1, .slice A2 ats.size c2]) (by simp [results, Tryz.results16, go_sem, k0, k1, k2]) rfl ⟨rfl, ?_⟩
  exact ((HB1.out.setCell (by simp; omega) _).setCell (by simp; omega) _).setCell (by simp; omega) _
set_option maxHeartbeats 16000000 in
theorem kSettle_ok (base : Int) (rs ats : Array (Int × Int)) (A1 : Option Addr) (c1 : Nat) (A2 : Option Addr) (c2 : Nat) (ids : Array Int) (A3 : Option Addr) (c3 : Nat) (w : World) (h1 : RdK encR 2 w.heap.size w A1 rs) (h2 : RdK encA_I 2 w.heap.size w A2 ats) (h3 : RdI_R w.heap.size w A3 ids)
    (hk : ChkP ⟨base, rs, ats⟩) (s1 : rs.size ≤ 500) (s3 : ids.size ≤ 100000) :
    Calls Tryz.prog 16 #[.agg #[.int .i64 base, .slice A1 rs.size c1, .slice A2 ats.size c2], .slice A3 ids.size c3] w fun e w' => ∃ v r, e = .returned v ∧ KnV w' v r ∧ SetR ⟨base, rs, ats⟩ ids r ∧ r.rs.size ≤ rs.size + ats.size ∧ Below w.heap.size w w' := by
  obtain ⟨i0, hi0, hz0, hz1, hz2⟩ := info_parts range_info
  have HC : Hid (∀ W, Below w.heap.size w W → Calls Tryz.prog 12 #[.agg #[.int .i64 base, .slice A1 rs.size c1, .slice A2 ats.size c2]] W fun e w' => e = .returned (.int .i64 (chkE ⟨base, rs, ats⟩)) ∧ Below W.heap.size W w') := fun W hb => kCheck_let base rs ats A1 c1 A2 c2 W ((h1.below hb).mono hb.size) ((h2.below hb).mono hb.size)
  have q0 := chkE_ne ⟨base, rs, ats⟩
  rw [chk_iff.2 hk] at q0
  have s2 : ats.size ≤ 400 := hk.sz
  have HP := Lib.hid hk
  have HSet : Hid (setE_R rs = 0) := hk.rs
  have b0 : 0 ≤ base := hk.b0
  have H1 := Lib.hid h1
  have H2 := Lib.hid h2
  have H3 := Lib.hid h3
  clear h1 h2 h3 hk
  generalize chkE ⟨base, rs, ats⟩ = ce at q0 HC
  have HT := Lib.hid (three_blk w (.cells #[.int .i64 base, .slice A1 rs.size c1, .slice A2 ats.size c2] 25) (.cells #[.slice A3 ids.size c3] 40) (.cells #[.int .i64 0, .slice none 0 0, .slice none 0 0] 25))
  go_enter Tryz.func16, Tryz.ntmps16
  go_wp2_with fail
  refine (HC.out _ (belAlloc (belAlloc (bel1 w _) _) _)).mono ?_
  rintro e w1 ⟨rfl, hb1⟩
  have HK1 := Lib.hid (blk_bel HT.out.1 hb1)
  have HI1 := Lib.hid (blk_bel HT.out.2.1 hb1)
  have HG1 := Lib.hid (blk_bel HT.out.2.2 hb1)
  have HB1 := Lib.hid (belStep (belAlloc (belAlloc (bel1 w _) _) _) hb1)
  have hz1' := blk_lt HG1.out
  have hdn : ∀ W x, Below w1.heap.size w1 W → Calls Tryz.prog 45 #[.agg #[.int .i64 x.1, .int .i64 x.2], .pointer (some ⟨w.heap.size + 1, 0, none⟩)] W fun e w' => e = .returned (.bool (doneK ids x)) ∧ Below W.heap.size W w' := fun W x hb => by
    have hI := blk_bel HI1.out hb
    exact kSet1_any ids A3 c3 x (w.heap.size + 1) W (blk_lt hI) (blk1 hI) (H3.out.next (belStep HB1.out hb)) (by omega)
  have HDn := Lib.hid hdn
  clear hb1 HC HT hdn
  obtain ⟨⟨u0, u1, u2⟩, _⟩ := blk3 HK1.out
  go_wp2
  go_loopw [6, 18] (fun ov iv wr => StL ids ats w1 ov iv wr) (fun _ i _ => ats.size - (intOf i).toNat)
  case atStart => exact ⟨0, #[], rfl, Nat.zero_le _, Nat.le_refl _, rfl, nil_ownsK _ _ _ _ _, Below.refl _ _⟩
  case round =>
    clear u0 u1 u2
    obtain ⟨j, out, rfl, hj, hos, he, hown, hB⟩ := hrel
    have HE := Lib.hid he
    have HO := Lib.hid hown
    have HB := Lib.hid hB
    clear he hown hB
    by_cases hlt : j < ats.size
    · have jz : (j : Int) < (ats.size : Int) := by omega
      obtain ⟨b, off, rfl, hbl, f⟩ := (H2.out.below (belStep HB1.out HB.out)).at_ hlt
      have e0 := f 0 (by omega)
      have e1 := f 1 (by omega)
      have HD := Lib.hid (drop_arr_K ats j hlt)
      generalize ats[j]! = x at e0 e1 HD
      simp only [Nat.add_zero, encA_I, List.getElem!_cons_zero, List.getElem!_cons_succ] at e0 e1
      clear f
      have hc := HDn.out (wr.alloc (.cells #[.int .i64 x.1, .int .i64 x.2] 50)) x (belAlloc HB.out _)
      cases hd : doneK ids x
      · rw [hd] at hc
        have HN : Hid (setlL ids ats.toList = out.toList ++ setlL ids (ats.toList.drop (j + 1))) := by
          show _ = _
          rw [HE.out, HD.out]; unfold setlL; rw [List.filter_cons, hd]; rfl
        have HCd := Lib.hid hc
        clear hd hc
        go_wp2_with fail
        refine HCd.out.mono ?_
        rintro e w4 ⟨rfl, hb4⟩
        have hB4 := belStep (bel1 wr _) hb4
        have HB4 := Lib.hid hB4
        clear hb4 HCd hB4
        go_wp2
        go_roundw
        case rel => exact ⟨j + 1, out, by go_num, by omega, by omega, HN.out, own_below HO.out HB4.out, belStep HB.out HB4.out⟩
        case measure => simp [intOf]; omega
      · rw [hd] at hc
        have HN : Hid (setlL ids ats.toList = (out.push (x.1, x.1)).toList ++ setlL ids (ats.toList.drop (j + 1))) := by
          show _ = _
          rw [HE.out, HD.out]; unfold setlL; rw [List.filter_cons, hd, Array.toList_push, List.append_assoc]; rfl
        have HCd := Lib.hid hc
        clear hd hc
        go_wp2_with fail
        refine HCd.out.mono ?_
        rintro e w4 ⟨rfl, hb4⟩
        have v0 : w4.cell? ⟨wr.heap.size, 0, none⟩ = some (.int .i64 x.1) := (hb4.cell (p := ⟨wr.heap.size, 0, none⟩) (by simp)).trans (by rw [cell_new]; rfl)
        have hB4 := belStep (bel1 wr _) hb4
        have HB4 := Lib.hid (belStep HB.out hB4)
        have hO4 := own_below HO.out hB4
        have hz4 : w1.heap.size ≤ w4.heap.size := HB4.out.size
        clear hb4 HCd hB4
        go_wp2_with (at_builtin; refine wpList_append_own _ rfl _ _ 22 rfl w1.heap.size 47 i0 (.agg #[.int .i64 0, .int .i64 0]) 2 16 Tryz.underlying22 hi0 hz0 hz1 hz2 rfl (by decide) _ _ _ rfl (hO4.alloc _) ⟨w4.heap.size, 0, none⟩ 1 1 [.int .i64 x.1, .int .i64 x.1] rfl rfl (two_new_R w4 _ _ _) (by simp [Value.oneCell']) (by unfold maxLen; omega) (by omega) (by simp; omega) ?_; intro v' w5 hown' hgrow _)
        go_roundw
        case rel => exact ⟨j + 1, out.push (x.1, x.1), by go_num, by omega, by simp; omega, HN.out, (by rw [Array.size_push, flatK_push encR_len]; exact hown'), own_app_A HB4.out hz4 hO4 hgrow⟩
        case measure => simp [intOf]; omega
    · have hlt' : decide ((j : Int) < (ats.size : Int)) = false := decide_eq_false (by omega)
      have HSl : Hid (out = setlK ⟨base, rs, ats⟩ ids) := by
        show _ = _
        have h := HE.out
        rw [List.drop_of_length_le (by simp; omega)] at h
        have e : out.toList = setlL ids ats.toList := by rw [h]; simp [setlL]
        apply Array.toList_inj.1
        rw [e]
        rfl
      obtain ⟨Am, cm, rfl, hrm, _⟩ := rdK_of_owns HO.out
      have hBW := belStep HB1.out HB.out
      have HAd := Lib.hid (gAdd_few A1 c1 rs Am cm out wr ((H1.out.below hBW).mono hBW.size) hrm HSet.out (by omega))
      have HRm := Lib.hid hrm
      have HBW := Lib.hid hBW
      obtain ⟨⟨u0, u1, u2⟩, _⟩ := blk3 (blk_bel HK1.out HB.out)
      clear hrm hBW HO
      go_wp2_with fail
      refine HAd.out.mono ?_
      rintro e w3 ⟨v3, L, rfl, hIs, hLs, ⟨Al, cl, rfl, hrl, hnl⟩, hb3⟩
      have HIs := Lib.hid hIs
      have HLs := Lib.hid hLs
      have HRL := Lib.hid hrl
      have HB3 := Lib.hid (belStep HB.out hb3)
      have HRm3 := Lib.hid ((HRm.out.below hb3).mono hb3.size)
      clear hIs hLs hrl hnl hb3 HAd HRm u0 u1 u2 HBW HB
      have HH : Hid (∀ x ∈ out.toList, hasB_R L x.1 = true) := fun x hx => by
        have hL := HLs.out
        rw [HIs.out.has (by omega)]
        unfold pAdd
        rw [Bool.and_eq_true, Bool.or_eq_true, may1_iff]
        rw [HSl.out] at hx
        obtain ⟨a, ha, rfl⟩ := List.mem_map.1 (show x ∈ List.map _ _ from hx)
        have hr := ((riseL_iff _ _ _).1 HP.out.up).2 a (List.mem_filter.1 ha).1
        have hb := hr.1
        have hb2 := hr.2.1
        simp only at hb hb2
        obtain ⟨i, hi, hie⟩ := List.mem_iff_getElem.1 hx
        have hi' : i < out.size := by rw [HSl.out]; simpa [setlK] using hi
        refine ⟨⟨by show 1 ≤ a.1; omega, hb2⟩, Or.inr (inR_yes hi' ?_)⟩
        have e : out[i]! = (a.1, a.1) := by
          rw [getElem!_pos out i hi']
          have : out.toList[i]'(by simpa using hi') = (a.1, a.1) := by
            have e2 : out.toList = (setlK ⟨base, rs, ats⟩ ids).toList := by rw [HSl.out]
            rw [List.getElem_of_eq e2, hie]
          simpa using this
        rw [e]
        unfold inB_R
        simp
      have hSd : ∀ B v W, w3.heap.size ≤ B → Below w1.heap.size w1 W → W.ownsRow B 50 2 v ats.size (flatK encA_I 2 ats).toList → B ≤ W.heap.size → Calls Tryz.prog 23 #[v, .func (.func 45) #[] #[.pointer (some ⟨w.heap.size + 1, 0, none⟩)]] W fun e w' => ∃ A c, e = .returned (.slice A (stayK ⟨base, rs, ats⟩ ids).size c) ∧ RdK encA_I 2 w'.heap.size w' A (stayK ⟨base, rs, ats⟩ ids) ∧ (A = none → c = 0) ∧ (∀ g off, A = some ⟨g, off, none⟩ → B ≤ g) ∧ Below B W w' := fun B v W hzB hb hown hz =>
        delA_own (doneK ids) 45 #[.pointer (some ⟨w.heap.size + 1, 0, none⟩)] (enters_of Tryz.func45 (by kernel_rfl) rfl) v ats B W (fun W' x hbl hsz => by
          have hz3 := HB3.out.size
          have hI : W'.heap[w.heap.size + 1]? = _ := (hbl _ (by omega)).trans (blk_bel HI1.out hb)
          refine kSet1_any ids A3 c3 x (w.heap.size + 1) W' (blk_lt hI) (blk1 hI) (fun h0 => ?_) (by omega)
          obtain ⟨b, off, e, hl, hc⟩ := H3.out.next HB1.out h0
          exact ⟨b, off, e, by omega, fun t ht => (World.cell?_of_block (a := ⟨b, off + t, none⟩) (hbl b (by omega))).trans ((hb.cell (p := ⟨b, off + t, none⟩) hl).trans (hc t ht))⟩) hown hz (by omega)
      have HSd := Lib.hid hSd
      clear hSd
      obtain ⟨⟨u0, u1, u2⟩, _⟩ := blk3 (blk_bel HK1.out HB3.out)
      by_cases hm : 0 < out.size
      · have q5 : decide ((0 : Int) < (out.size : Int)) = true := decide_eq_true (by omega)
        obtain ⟨b, off, rfl, hbl, f⟩ := HRm3.out.at_ (i := 0) hm
        have e0 := f 0 (by omega)
        have hh := HH.out out[0]! (by rw [getElem!_pos out 0 hm]; simp)
        generalize out[0]! = y at e0 hh
        simp only [Nat.zero_mul, Nat.add_zero, encR, List.getElem!_cons_zero] at e0
        have hg := gHas_any Al cl L y.1 w3 HRL.out
        rw [hh] at hg
        have HG := Lib.hid hg
        clear f hh hg
        go_wp2_with fail
        refine HG.out.mono ?_
        rintro e w5 ⟨rfl, hb5⟩
        have HB5 := Lib.hid hb5
        clear hb5 HG e0 u0 u1 u2
        obtain ⟨⟨u0, u1, u2⟩, _⟩ := blk3 (blk_bel (blk_bel HK1.out HB3.out) HB5.out)
        have HG5 := Lib.hid (blk_bel (blk_bel HG1.out HB3.out) HB5.out)
        have HB15 := Lib.hid (belStep HB3.out HB5.out)
        have KS : Hid (∀ W, Below w5.heap.size w5 W → W.cell? ⟨w.heap.size, 0, none⟩ = some (.int .i64 base) ∧ W.cell? ⟨w.heap.size, 2, none⟩ = some (.slice A2 ats.size c2)) := fun W hb => by
          obtain ⟨⟨p0, p1, p2⟩, _⟩ := blk3 (blk_bel (blk_bel (blk_bel HK1.out HB3.out) HB5.out) hb)
          exact ⟨p0, p2⟩
        have KT : Hid (∀ W a b c, Below w5.heap.size w5 W → (((W.setCell ⟨w.heap.size + 1 + 1, 0, none⟩ a).setCell ⟨w.heap.size + 1 + 1, 1, none⟩ b).setCell ⟨w.heap.size + 1 + 1, 2, none⟩ c).cell? ⟨w.heap.size, 0, none⟩ = some (.int .i64 base) ∧ (((W.setCell ⟨w.heap.size + 1 + 1, 0, none⟩ a).setCell ⟨w.heap.size + 1 + 1, 1, none⟩ b).setCell ⟨w.heap.size + 1 + 1, 2, none⟩ c).cell? ⟨w.heap.size, 2, none⟩ = some (.slice A2 ats.size c2)) := fun W a b c hb => by
          obtain ⟨p0, p2⟩ := KS.out W hb
          have hne : ∀ i j, (⟨w.heap.size + 1 + 1, i, none⟩ : Addr).block ≠ (⟨w.heap.size, j, none⟩ : Addr).block := fun i j => by show w.heap.size + 1 + 1 ≠ w.heap.size; omega
          exact ⟨by rw [World.cell?_setCell_far _ _ _ _ (hne _ _), World.cell?_setCell_far _ _ _ _ (hne _ _), World.cell?_setCell_far _ _ _ _ (hne _ _)]; exact p0, by rw [World.cell?_setCell_far _ _ _ _ (hne _ _), World.cell?_setCell_far _ _ _ _ (hne _ _), World.cell?_setCell_far _ _ _ _ (hne _ _)]; exact p2⟩
        have HCl : Hid (∀ W, Below w5.heap.size w5 W → Calls Tryz.prog 24 #[.slice A2 ats.size c2] W fun e w' => ∃ v, e = .returned v ∧ w'.ownsRow w5.heap.size 50 2 v ats.size (flatK encA_I 2 ats).toList ∧ Below w5.heap.size w5 w') := fun W hb => (CloneAny A2 c2 ats W ((H2.out.below (belStep HB1.out (belStep HB15.out hb))).mono (belStep HB1.out (belStep HB15.out hb)).size) (by omega)).mono fun e w' ⟨v, he, ho, hb'⟩ => ⟨v, he, own_mono_R ho hb.size, belStep hb hb'⟩
        have HDl : Hid (∀ W v, Below w5.heap.size w5 W → W.ownsRow w5.heap.size 50 2 v ats.size (flatK encA_I 2 ats).toList → Calls Tryz.prog 23 #[v, .func (.func 45) #[] #[.pointer (some ⟨w.heap.size + 1, 0, none⟩)]] W fun e w' => ∃ A c, e = .returned (.slice A (stayK ⟨base, rs, ats⟩ ids).size c) ∧ RdK encA_I 2 w'.heap.size w' A (stayK ⟨base, rs, ats⟩ ids) ∧ (A = none → c = 0) ∧ (∀ g off, A = some ⟨g, off, none⟩ → w5.heap.size ≤ g) ∧ Below w5.heap.size w5 w') := fun W v hb ho => (HSd.out w5.heap.size v W HB5.out.size (belStep HB15.out hb) ho hb.size).mono fun e w' ⟨A, c, he, hr, hn, hf, hb'⟩ => ⟨A, c, he, hr, hn, hf, hb.trans hb'⟩
        have HFm : Hid (∀ W A n c, Below w5.heap.size w5 W → Calls Tryz.prog 31 #[.int .i64 base, .slice Al L.size cl, .slice A n c] W fun e w' => ∃ Ao out co, e = .returned (.agg #[.int .i64 (preE L base), .slice Ao out.size co, .slice A n c]) ∧ LessE L (1, preE L base) out ∧ RdK encR 2 w'.heap.size w' Ao out ∧ (Ao = none → co = 0) ∧ (∀ g off, Ao = some ⟨g, off, none⟩ → w5.heap.size ≤ g) ∧ Below W.heap.size W w') := fun W A n c hb => (form_K base Al cl L A n c W ((HRL.out.below (belStep HB5.out hb)).mono (belStep HB5.out hb).size)).mono fun e w' ⟨Ao, o, co, he, h1, h2, h3, h4, h5⟩ => ⟨Ao, o, co, he, h1, h2, h3, (fun g off e => Nat.le_trans hb.size (h4 g off e)), h5⟩
        have hb0 : Below w5.heap.size w5 w5 := Below.refl _ _
        go_wp2_with fail
        go_region_held3 (fun W => W.cell? ⟨w.heap.size, 0, none⟩ = some (.int .i64 base) ∧ W.cell? ⟨w.heap.size, 2, none⟩ = some (.slice A2 ats.size c2)) (first | exact KS.out _ (by assumption) | exact KS.out _ (Below.drew (by assumption)) | exact KT.out _ _ _ _ (by assumption) | go_keep)
          (first
            | (go_at_call 24; ((with_reducible refine (HCl.out _ (by first | assumption | exact Below.drew (by assumption))).mono ?_); rintro e wa ⟨va, rfl, hoa, hba⟩; have HOa := Lib.hid hoa; clear hoa))
            | (go_at_call 23; ((with_reducible refine (HDl.out _ _ (by first | assumption | exact Below.drew (by assumption)) (by first | exact HOa.out | exact HOa.out.drew)).mono ?_); rintro e wb ⟨Ab, cb, rfl, hrb, hnb, hfb, hbb⟩; have HRb := Lib.hid hrb; have HNb := Lib.hid hnb; have HFb := Lib.hid hfb; clear hrb hnb hfb))
            | (go_at_call 31; ((with_reducible refine (HFm.out _ _ _ _ (by first | assumption | exact Below.drew (by assumption))).mono ?_); rintro e wd ⟨Ao, out2, co, rfl, hLess, hro, hno, hfo, hbd⟩; have HLess := Lib.hid hLess; have HRo := Lib.hid hro; have HNo := Lib.hid hno; have HFo := Lib.hid hfo; have HBd : Hid (Below wb.heap.size wb wd) := hbd; have hbw : Below w5.heap.size w5 wd := belStep hbb hbd; obtain ⟨⟨m0, m1, m2⟩, f0⟩ := blk3 (blk_bel HG5.out hbw); clear hLess hro hno hfo hbd)))
        go_wp2
        have hL := HLs.out
        have hg2 : w.heap.size + 2 < w5.heap.size := blk_lt HG5.out
        refine bodyPost_ret (v := .agg #[.int .i64 (preE L base), .slice Ao out2.size co, .slice Ab (stayK ⟨base, rs, ats⟩ ids).size cb]) (by simp [results, Tryz.results16, go_sem, m0, m1, m2]) rfl ⟨_, ⟨preE L base, out2, stayK ⟨base, rs, ats⟩ ids⟩, rfl, ?_, ?_, ?_, ?_⟩
        · refine ⟨Ao, co, Ab, cb, rfl, ?_, ?_, HNo.out, HNb.out⟩
          · have hne : ∀ g off, Ao = some ⟨g, off, none⟩ → g ≠ w.heap.size + 1 + 1 := fun g off e => by have := HFo.out g off e; omega
            exact (((HRo.out.far _ _ hne).far _ _ hne).far _ _ hne).mono (by simp)
          · have hne : ∀ g off, Ab = some ⟨g, off, none⟩ → g ≠ w.heap.size + 1 + 1 := fun g off e => by have := HFb.out g off e; omega
            exact (((((HRb.out.below HBd.out).mono HBd.out.size).far _ _ hne).far _ _ hne).far _ _ hne).mono (by simp)
        · refine ⟨L, HIs.out.congr (fun n => ?_), by omega, ⟨rfl, HLess.out, rfl⟩⟩
          rw [HSl.out]
          exact setl_p HP.out n
        · have hset : setE_R L = 0 := HIs.out.set (by omega)
          have hp := (pre_has hset base).1
          have hc := (less_cut hset (b := preE L base) (by omega) HLess.out).2
          show out2.size ≤ _
          omega
        · exact (((belStep HB1.out (belStep HB15.out hbw)).setCell (by simp; omega) _).setCell (by simp; omega) _).setCell (by simp; omega) _
      · have q5 : decide ((0 : Int) < (out.size : Int)) = false := decide_eq_false (by omega)
        have q5n : decide (0 < out.size) = false := decide_eq_false hm
        have HB5 : Hid (Below w3.heap.size w3 w3) := Below.refl _ _
        clear u0 u1 u2
        obtain ⟨⟨u0, u1, u2⟩, _⟩ := blk3 (blk_bel (blk_bel HK1.out HB3.out) HB5.out)
        have HG5 := Lib.hid (blk_bel (blk_bel HG1.out HB3.out) HB5.out)
        have HB15 := Lib.hid (belStep HB3.out HB5.out)
        have KS : Hid (∀ W, Below w3.heap.size w3 W → W.cell? ⟨w.heap.size, 0, none⟩ = some (.int .i64 base) ∧ W.cell? ⟨w.heap.size, 2, none⟩ = some (.slice A2 ats.size c2)) := fun W hb => by
          obtain ⟨⟨p0, p1, p2⟩, _⟩ := blk3 (blk_bel (blk_bel (blk_bel HK1.out HB3.out) HB5.out) hb)
          exact ⟨p0, p2⟩
        have KT : Hid (∀ W a b c, Below w3.heap.size w3 W → (((W.setCell ⟨w.heap.size + 1 + 1, 0, none⟩ a).setCell ⟨w.heap.size + 1 + 1, 1, none⟩ b).setCell ⟨w.heap.size + 1 + 1, 2, none⟩ c).cell? ⟨w.heap.size, 0, none⟩ = some (.int .i64 base) ∧ (((W.setCell ⟨w.heap.size + 1 + 1, 0, none⟩ a).setCell ⟨w.heap.size + 1 + 1, 1, none⟩ b).setCell ⟨w.heap.size + 1 + 1, 2, none⟩ c).cell? ⟨w.heap.size, 2, none⟩ = some (.slice A2 ats.size c2)) := fun W a b c hb => by
          obtain ⟨p0, p2⟩ := KS.out W hb
          have hne : ∀ i j, (⟨w.heap.size + 1 + 1, i, none⟩ : Addr).block ≠ (⟨w.heap.size, j, none⟩ : Addr).block := fun i j => by show w.heap.size + 1 + 1 ≠ w.heap.size; omega
          exact ⟨by rw [World.cell?_setCell_far _ _ _ _ (hne _ _), World.cell?_setCell_far _ _ _ _ (hne _ _), World.cell?_setCell_far _ _ _ _ (hne _ _)]; exact p0, by rw [World.cell?_setCell_far _ _ _ _ (hne _ _), World.cell?_setCell_far _ _ _ _ (hne _ _), World.cell?_setCell_far _ _ _ _ (hne _ _)]; exact p2⟩
        have HCl : Hid (∀ W, Below w3.heap.size w3 W → Calls Tryz.prog 24 #[.slice A2 ats.size c2] W fun e w' => ∃ v, e = .returned v ∧ w'.ownsRow w3.heap.size 50 2 v ats.size (flatK encA_I 2 ats).toList ∧ Below w3.heap.size w3 w') := fun W hb => (CloneAny A2 c2 ats W ((H2.out.below (belStep HB1.out (belStep HB15.out hb))).mono (belStep HB1.out (belStep HB15.out hb)).size) (by omega)).mono fun e w' ⟨v, he, ho, hb'⟩ => ⟨v, he, own_mono_R ho hb.size, belStep hb hb'⟩
        have HDl : Hid (∀ W v, Below w3.heap.size w3 W → W.ownsRow w3.heap.size 50 2 v ats.size (flatK encA_I 2 ats).toList → Calls Tryz.prog 23 #[v, .func (.func 45) #[] #[.pointer (some ⟨w.heap.size + 1, 0, none⟩)]] W fun e w' => ∃ A c, e = .returned (.slice A (stayK ⟨base, rs, ats⟩ ids).size c) ∧ RdK encA_I 2 w'.heap.size w' A (stayK ⟨base, rs, ats⟩ ids) ∧ (A = none → c = 0) ∧ (∀ g off, A = some ⟨g, off, none⟩ → w3.heap.size ≤ g) ∧ Below w3.heap.size w3 w') := fun W v hb ho => (HSd.out w3.heap.size v W HB5.out.size (belStep HB15.out hb) ho hb.size).mono fun e w' ⟨A, c, he, hr, hn, hf, hb'⟩ => ⟨A, c, he, hr, hn, hf, hb.trans hb'⟩
        have HFm : Hid (∀ W A n c, Below w3.heap.size w3 W → Calls Tryz.prog 31 #[.int .i64 base, .slice Al L.size cl, .slice A n c] W fun e w' => ∃ Ao out co, e = .returned (.agg #[.int .i64 (preE L base), .slice Ao out.size co, .slice A n c]) ∧ LessE L (1, preE L base) out ∧ RdK encR 2 w'.heap.size w' Ao out ∧ (Ao = none → co = 0) ∧ (∀ g off, Ao = some ⟨g, off, none⟩ → w3.heap.size ≤ g) ∧ Below W.heap.size W w') := fun W A n c hb => (form_K base Al cl L A n c W ((HRL.out.below (belStep HB5.out hb)).mono (belStep HB5.out hb).size)).mono fun e w' ⟨Ao, o, co, he, h1, h2, h3, h4, h5⟩ => ⟨Ao, o, co, he, h1, h2, h3, (fun g off e => Nat.le_trans hb.size (h4 g off e)), h5⟩
        have hb0 : Below w3.heap.size w3 w3 := Below.refl _ _
        go_wp2_with fail
        go_region_held3 (fun W => W.cell? ⟨w.heap.size, 0, none⟩ = some (.int .i64 base) ∧ W.cell? ⟨w.heap.size, 2, none⟩ = some (.slice A2 ats.size c2)) (first | exact KS.out _ (by assumption) | exact KS.out _ (Below.drew (by assumption)) | exact KT.out _ _ _ _ (by assumption) | go_keep)
          (first
            | (go_at_call 24; ((with_reducible refine (HCl.out _ (by first | assumption | exact Below.drew (by assumption))).mono ?_); rintro e wa ⟨va, rfl, hoa, hba⟩; have HOa := Lib.hid hoa; clear hoa))
            | (go_at_call 23; ((with_reducible refine (HDl.out _ _ (by first | assumption | exact Below.drew (by assumption)) (by first | exact HOa.out | exact HOa.out.drew)).mono ?_); rintro e wb ⟨Ab, cb, rfl, hrb, hnb, hfb, hbb⟩; have HRb := Lib.hid hrb; have HNb := Lib.hid hnb; have HFb := Lib.hid hfb; clear hrb hnb hfb))
            | (go_at_call 31; ((with_reducible refine (HFm.out _ _ _ _ (by first | assumption | exact Below.drew (by assumption))).mono ?_); rintro e wd ⟨Ao, out2, co, rfl, hLess, hro, hno, hfo, hbd⟩; have HLess := Lib.hid hLess; have HRo := Lib.hid hro; have HNo := Lib.hid hno; have HFo := Lib.hid hfo; have HBd : Hid (Below wb.heap.size wb wd) := hbd; have hbw : Below w3.heap.size w3 wd := belStep hbb hbd; obtain ⟨⟨m0, m1, m2⟩, f0⟩ := blk3 (blk_bel HG5.out hbw); clear hLess hro hno hfo hbd)))
        go_wp2
        have hL := HLs.out
        have hg2 : w.heap.size + 2 < w3.heap.size := blk_lt HG5.out
        refine bodyPost_ret (v := .agg #[.int .i64 (preE L base), .slice Ao out2.size co, .slice Ab (stayK ⟨base, rs, ats⟩ ids).size cb]) (by simp [results, Tryz.results16, go_sem, m0, m1, m2]) rfl ⟨_, ⟨preE L base, out2, stayK ⟨base, rs, ats⟩ ids⟩, rfl, ?_, ?_, ?_, ?_⟩
        · refine ⟨Ao, co, Ab, cb, rfl, ?_, ?_, HNo.out, HNb.out⟩
          · have hne : ∀ g off, Ao = some ⟨g, off, none⟩ → g ≠ w.heap.size + 1 + 1 := fun g off e => by have := HFo.out g off e; omega
            exact (((HRo.out.far _ _ hne).far _ _ hne).far _ _ hne).mono (by simp)
          · have hne : ∀ g off, Ab = some ⟨g, off, none⟩ → g ≠ w.heap.size + 1 + 1 := fun g off e => by have := HFb.out g off e; omega
            exact (((((HRb.out.below HBd.out).mono HBd.out.size).far _ _ hne).far _ _ hne).far _ _ hne).mono (by simp)
        · refine ⟨L, HIs.out.congr (fun n => ?_), by omega, ⟨rfl, HLess.out, rfl⟩⟩
          rw [HSl.out]
          exact setl_p HP.out n
        · have hset : setE_R L = 0 := HIs.out.set (by omega)
          have hp := (pre_has hset base).1
          have hc := (less_cut hset (b := preE L base) (by omega) HLess.out).2
          show out2.size ≤ _
          omega
        · exact (((belStep HB1.out (belStep HB15.out hbw)).setCell (by simp; omega) _).setCell (by simp; omega) _).setCell (by simp; omega) _
/-- What Settle tells. -/
def SetOut (v : Value) (k : KN) (ids : Array Int) (w' : World) (e : Ending) : Prop :=
  (chkB k = false ∧ e = .returned v) ∨ (ChkP k ∧ ∃ v' r, e = .returned v' ∧ KnV w' v' r ∧ SetR k ids r ∧ r.rs.size ≤ k.rs.size + k.ats.size)
theorem kSettle_any (v : Value) (k : KN) (ids : Array Int) (A3 : Option Addr) (c3 : Nat) (w : World) (h : KnV w v k) (h3 : RdI_R w.heap.size w A3 ids) (s1 : k.rs.size ≤ 500) (s3 : ids.size ≤ 100000) :
    Calls Tryz.prog 16 #[v, .slice A3 ids.size c3] w fun e w' => SetOut v k ids w' e ∧ Below w.heap.size w w' := by
  obtain ⟨base, rs, ats⟩ := k
  obtain ⟨A1, c1, A2, c2, rfl, h1, h2, _, _⟩ := h
  cases hb : chkB ⟨base, rs, ats⟩
  · exact (kSettle_bad base rs ats A1 c1 A2 c2 ids A3 c3 w h1 h2 hb).mono fun e w' ⟨he, hw⟩ => ⟨Or.inl ⟨hb, he⟩, hw⟩
  · exact (kSettle_ok base rs ats A1 c1 A2 c2 ids A3 c3 w h1 h2 h3 (chk_iff.1 hb) s1 s3).mono fun e w' ⟨v, r, he, hk, ha, hs, hw⟩ => ⟨Or.inr ⟨chk_iff.1 hb, v, r, he, hk, ha, hs⟩, hw⟩
end Go.Proofs.YtgpejfkmdenonaaGreat
namespace Go.Proofs.YtgpejfkmdenonaaGreat
open Go.RowKit Go.Sort Go.Lib
set_option maxRecDepth 100000
theorem compact_ok (d : Array Int) (hs : ∀ i j, i ≤ j → j < d.size → d[i]! ≤ d[j]!) : ∀ m, m ≤ d.size → (compactUpTo d m).Pairwise (· < ·) ∧ ∀ x, x ∈ compactUpTo d m ↔ ∃ j, j < m ∧ d[j]! = x
  | 0, _ => by simp [compactUpTo]
  | m + 1, hm => by
    obtain ⟨h1, h2⟩ := compact_ok d hs m (by omega)
    rw [compactUpTo_succ]
    cases hk : keeps d m
    · have hk' : ¬ (m = 0 ∨ d[m]! ≠ d[m - 1]!) := by unfold keeps at hk; simpa using hk
      have hm0 : m ≠ 0 := fun h => hk' (Or.inl h)
      have heq : d[m]! = d[m - 1]! := Classical.byContradiction fun h => hk' (Or.inr h)
      refine ⟨by simpa using h1, fun x => ?_⟩
      simp only [Bool.false_eq_true, if_false, List.append_nil]
      rw [h2]
      constructor
      · rintro ⟨j, hj, e⟩
        exact ⟨j, by omega, e⟩
      · rintro ⟨j, hj, e⟩
        by_cases hjm : j = m
        · subst hjm
          exact ⟨j - 1, by omega, by rw [← heq]; exact e⟩
        · exact ⟨j, by omega, e⟩
    · have hk' : m = 0 ∨ d[m]! ≠ d[m - 1]! := by unfold keeps at hk; simpa using hk
      refine ⟨?_, fun x => ?_⟩
      · simp only [if_true]
        refine List.pairwise_append.2 ⟨h1, by simp, fun x hx y hy => ?_⟩
        obtain ⟨j, hj, rfl⟩ := (h2 x).1 hx
        obtain rfl : y = d[m]! := by simpa using hy
        have a1 := hs j (m - 1) (by omega) (by omega)
        have a2 := hs (m - 1) m (by omega) (by omega)
        rcases hk' with h0 | h0
        · omega
        · omega
      · simp only [if_true, List.mem_append, List.mem_singleton]
        rw [h2]
        constructor
        · rintro (⟨j, hj, e⟩ | rfl)
          · exact ⟨j, by omega, e⟩
          · exact ⟨m, by omega, rfl⟩
        · rintro ⟨j, hj, e⟩
          by_cases hjm : j = m
          · subst hjm; exact Or.inr e.symm
          · exact Or.inl ⟨j, by omega, e⟩
theorem compact_sorted (l : List Int) : (compact (l.mergeSort fun x y => decide (x ≤ y))).Pairwise (· < ·) ∧ ∀ x, x ∈ compact (l.mergeSort fun x y => decide (x ≤ y)) ↔ x ∈ l := by
  have hp := List.mergeSort_perm l (fun x y => decide (x ≤ y))
  have hs : (l.mergeSort fun x y => decide (x ≤ y)).Pairwise (· ≤ ·) := by
    have := List.pairwise_mergeSort (le := fun x y : Int => decide (x ≤ y)) (fun a b c h1 h2 => by simp at *; omega) (fun a b => by simp; omega) l
    exact this.imp (fun h => by simpa using h)
  generalize (l.mergeSort fun x y => decide (x ≤ y)) = s at hp hs
  have hg : ∀ i j, i ≤ j → j < s.toArray.size → s.toArray[i]! ≤ s.toArray[j]! := fun i j hij hj => by
    have hj' : j < s.length := by simpa using hj
    rcases Nat.eq_or_lt_of_le hij with rfl | hlt
    · exact Int.le_refl _
    · have := List.pairwise_iff_getElem.1 hs i j (by omega) hj' hlt
      rw [getElem!_pos _ i (by simp; omega), getElem!_pos _ j hj]
      simpa using this
  obtain ⟨h1, h2⟩ := compact_ok s.toArray hg s.length (by simp)
  refine ⟨h1, fun x => ?_⟩
  have h3 : x ∈ compact s ↔ ∃ j, j < s.length ∧ s.toArray[j]! = x := h2 x
  rw [h3, ← hp.mem_iff, List.mem_iff_getElem]
  constructor
  · rintro ⟨j, hj, e⟩
    exact ⟨j, hj, by rw [getElem!_pos _ j (by simpa using hj)] at e; simpa using e⟩
  · rintro ⟨j, hj, e⟩
    exact ⟨j, hj, by rw [getElem!_pos _ j (by simpa using hj)]; simpa using e⟩
/-- s holds the numbers of the commands that are open, each once, the least one ahead. -/
structure OpenR (k : KN) (s : Array Int) : Prop where
  up : s.toList.Pairwise (· < ·)
  mem : ∀ x, x ∈ s.toList ↔ chkB k = true ∧ x ∈ k.ats.toList.map (·.2)
theorem up_ext : ∀ {a b : List Int}, a.Pairwise (· < ·) → b.Pairwise (· < ·) → (∀ x, x ∈ a ↔ x ∈ b) → a = b
  | [], [], _, _, _ => rfl
  | [], y :: b, _, _, h => absurd ((h y).2 (by simp)) (by simp)
  | x :: a, [], _, _, h => absurd ((h x).1 (by simp)) (by simp)
  | x :: a, y :: b, h1, h2, h => by
    obtain ⟨p1, p2⟩ := List.pairwise_cons.1 h1
    obtain ⟨q1, q2⟩ := List.pairwise_cons.1 h2
    have hxy : x = y := by
      rcases List.mem_cons.1 ((h x).1 (by simp)) with e | hx
      · exact e
      · rcases List.mem_cons.1 ((h y).2 (by simp)) with e | hy
        · exact e.symm
        · have := q1 x hx; have := p1 y hy; omega
    subst hxy
    rw [up_ext p2 q2 (fun z => ⟨fun hz => ?_, fun hz => ?_⟩)]
    · rcases List.mem_cons.1 ((h z).1 (by simp [hz])) with e | hz'
      · have := p1 z hz; omega
      · exact hz'
    · rcases List.mem_cons.1 ((h z).2 (by simp [hz])) with e | hz'
      · have := q1 z hz; omega
      · exact hz'
theorem OpenR.uniq {k : KN} {s t : Array Int} (h : OpenR k s) (g : OpenR k t) : s = t :=
  Array.toList_inj.1 (up_ext h.up g.up (fun x => (h.mem x).trans (g.mem x).symm))
theorem own_ints {w : World} {base : Nat} {e : TypeId} {v : Value} {l : List Int} (h : w.ownsRow base e 1 v l.length (l.map (Value.int .i64))) (hn : v ≠ .slice none 0 0) : ∃ g cap, v = .slice (some ⟨g, 0, none⟩) l.length cap ∧ l.length ≤ cap ∧ base ≤ g ∧ g < w.heap.size ∧ Holds (Value.int .i64) w g 0 l.toArray := by
  obtain ⟨_, ⟨h1, _⟩ | ⟨g, cap, cur, hv, hb, hh, hnc, hmx, hcur, htk⟩⟩ := h
  · exact absurd h1 hn
  · refine ⟨g, cap, hv, hnc, hb, blk_lt hh, fun j hj => ?_⟩
    have hj' : j < l.length := by simpa using hj
    rw [Nat.zero_add]
    refine ⟨?_, by simp [World.frozen?, hh]⟩
    rw [cell_of_row w g j _ _ (0, 0) hh]
    have e1 : cur.toList[j]? = (l.map (Value.int .i64))[j]? := by rw [← htk, List.getElem?_take_of_lt (by omega)]
    rw [Array.getElem?_toList] at e1
    rw [e1]
    simp [hj']
theorem below_putRow {w w1 : World} {B g off : Nat} (hb : Below B w w1) (hz : B ≤ w1.heap.size) (hg : B ≤ g) (n : Nat) (d : Array Int) (os : Array Obj) : Below B w (grow (putRow (Value.int .i64) (Sort.ahead w1 n) g off d) os) := by
  have hsz : (putRow (Value.int .i64) (Sort.ahead w1 n) g off d).heap.size = w1.heap.size := size_putRow _ _ _ _ _
  refine ⟨hb.os, hb.tape, hb.output, ?_, fun i hi => ?_⟩
  · show _ ≤ ((putRow (Value.int .i64) (Sort.ahead w1 n) g off d).heap ++ os).size
    rw [Array.size_append, hsz]
    have := hb.size
    omega
  · have h1 : ((putRow (Value.int .i64) (Sort.ahead w1 n) g off d).heap)[i]? = w1.heap[i]? := by
      show ((Sort.ahead w1 n).heap.modify g _)[i]? = _
      rw [Array.getElem?_modify, if_neg (by omega)]
      rfl
    show ((putRow (Value.int .i64) (Sort.ahead w1 n) g off d).heap ++ os)[i]? = _
    rw [Array.getElem?_append_left (by rw [hsz]; omega), h1]
    exact hb.block i hi
set_option maxHeartbeats 4000000 in
theorem kSame_any (v1 v2 : Value) (k j : KN) (w : World) (h1 : KnV w v1 k) (h2 : KnV w v2 j) (s1 : k.rs.size ≤ 100000) (s2 : k.ats.size ≤ 100000) (s3 : j.rs.size ≤ 100000) (s4 : j.ats.size ≤ 100000) :
    Calls Tryz.prog 21 #[v1, v2] w fun e w' => e = .returned (.bool (sameK k j)) ∧ Below w.heap.size w w' := by
  obtain ⟨b1, r1, a1⟩ := k
  obtain ⟨b2, r2, a2⟩ := j
  obtain ⟨A1, c1, A2, c2, rfl, p1, p2, _, _⟩ := h1
  obtain ⟨A3, c3, A4, c4, rfl, p3, p4, _, _⟩ := h2
  have HR : Hid (∀ W, Below w.heap.size w W → Calls Tryz.prog 49 #[.slice A1 r1.size c1, .slice A3 r2.size c3] W fun e w' => e = .returned (.bool (decide (r1 = r2))) ∧ Below W.heap.size W w') := fun W hb => EqRngsK_any A1 A3 c1 c3 r1 r2 _ _ W (p1.below hb) (p3.below hb) (by simp only at s1; omega) (by simp only at s3; omega)
  have HA : Hid (∀ W, Below w.heap.size w W → Calls Tryz.prog 50 #[.slice A2 a1.size c2, .slice A4 a2.size c4] W fun e w' => e = .returned (.bool (decide (a1 = a2))) ∧ Below W.heap.size W w') := fun W hb => EqAttsK_any A2 A4 c2 c4 a1 a2 _ _ W (p2.below hb) (p4.below hb) (by simp only at s2; omega) (by simp only at s4; omega)
  have HT := Lib.hid (two_blk w (.cells #[.int .i64 b1, .slice A1 r1.size c1, .slice A2 a1.size c2] 25) (.cells #[.int .i64 b2, .slice A3 r2.size c3, .slice A4 a2.size c4] 25))
  have HS : Hid (sameK ⟨b1, r1, a1⟩ ⟨b2, r2, a2⟩ = ((b1 == b2) && decide (r1 = r2) && decide (a1 = a2))) := Lib.hid rfl
  clear p1 p2 p3 p4 s1 s2 s3 s4
  generalize decide (r1 = r2) = er at HR HS
  generalize decide (a1 = a2) = ea at HA HS
  generalize sameK ⟨b1, r1, a1⟩ ⟨b2, r2, a2⟩ = sk at HS
  cases hb : (b1 == b2)
  · rw [hb] at HS
    have HF : Hid (sk = false) := HS.out
    clear HS HR HA
    go_enter Tryz.func21, Tryz.ntmps21
    go_wp2
    go_ret
    exact ⟨ret_bool HF.out.symm, belAlloc (bel1 w _) _⟩
  · rw [hb, Bool.true_and] at HS
    cases er
    · have HF : Hid (sk = false) := HS.out
      clear HS HA
      go_enter Tryz.func21, Tryz.ntmps21
      go_wp2_with fail
      refine (HR.out _ (belAlloc (bel1 w _) _)).mono ?_
      rintro e w1 ⟨rfl, hb1⟩
      have HB1 := Lib.hid (belStep (belAlloc (bel1 w _) _) hb1)
      clear hb1
      go_wp2
      go_ret
      exact ⟨ret_bool HF.out.symm, HB1.out⟩
    · have HF : Hid (sk = ea) := HS.out
      clear HS
      go_enter Tryz.func21, Tryz.ntmps21
      go_wp2_with fail
      refine (HR.out _ (belAlloc (bel1 w _) _)).mono ?_
      rintro e w1 ⟨rfl, hb1⟩
      obtain ⟨⟨u0, u1, u2⟩, _⟩ := blk3 (blk_bel HT.out.1 hb1)
      obtain ⟨⟨k0, k1, k2⟩, _⟩ := blk3 (blk_bel HT.out.2 hb1)
      have HB1 := Lib.hid (belStep (belAlloc (bel1 w _) _) hb1)
      have HAA := Lib.hid (HA.out w1 HB1.out)
      clear hb1 HA HR
      go_wp2_with fail
      refine HAA.out.mono ?_
      rintro e w2 ⟨rfl, hb2⟩
      go_wp2
      go_ret
      exact ⟨ret_bool HF.out.symm, belStep HB1.out hb2⟩
theorem rdI_put {w : World} {g n : Nat} {l : List Int} {z : List Int} {s : Array Int} (hs : Holds (Value.int .i64) (Sort.ahead w n) g 0 s) (hsz : (l ++ z).length = s.size) (hg : g < w.heap.size) : RdI_R (putRow (Value.int .i64) (Sort.ahead w n) g 0 (l ++ z).toArray).heap.size (putRow (Value.int .i64) (Sort.ahead w n) g 0 (l ++ z).toArray) (some ⟨g, 0, none⟩) l.toArray := fun _ => by
  have hp := holds_putRow (Value.int .i64) (Sort.ahead w n) g 0 s (l ++ z).toArray hs (by simpa using hsz)
  refine ⟨g, 0, rfl, by rw [size_putRow]; exact hg, fun t ht => ?_⟩
  have ht' : t < l.length := by simpa using ht
  have hlt : t < (l ++ z).toArray.size := by simp; omega
  rw [(hp t hlt).1, getElem!_pos _ t hlt, getElem!_pos _ t ht]
  simp [List.getElem_append_left ht']
set_option maxHeartbeats 8000000 in
theorem kOpen_any (v : Value) (k : KN) (w : World) (h : KnV w v k) (s1 : k.ats.size ≤ 100000) :
    Calls Tryz.prog 19 #[v] w fun e w' => (∃ A s c, e = .returned (.slice A s.size c) ∧ OpenR k s ∧ RdI_R w'.heap.size w' A s ∧ s.size ≤ k.ats.size) ∧ Below w.heap.size w w' := by
  obtain ⟨i0, hi0, hz0, hz1, hz2⟩ := info_parts int_info_R
  obtain ⟨base, rs, ats⟩ := k
  obtain ⟨A1, c1, A2, c2, rfl, h1, h2, _, _⟩ := h
  have HC : Hid (∀ W, Below w.heap.size w W → Calls Tryz.prog 12 #[.agg #[.int .i64 base, .slice A1 rs.size c1, .slice A2 ats.size c2]] W fun e w' => e = .returned (.int .i64 (chkE ⟨base, rs, ats⟩)) ∧ Below W.heap.size W w') := fun W hb => kCheck_let base rs ats A1 c1 A2 c2 W ((h1.below hb).mono hb.size) ((h2.below hb).mono hb.size)
  have q0 := chkE_ne ⟨base, rs, ats⟩
  have H2 := Lib.hid h2
  simp only at s1
  clear h1 h2
  generalize chkE ⟨base, rs, ats⟩ = ce at q0 HC
  cases hc : chkB ⟨base, rs, ats⟩
  · have HN : Hid (OpenR ⟨base, rs, ats⟩ #[]) := ⟨by simp, fun x => by rw [hc]; simp⟩
    rw [hc] at q0
    clear hc
    go_enter Tryz.func19, Tryz.ntmps19
    go_wp2_with fail
    refine (HC.out _ (bel1 w _)).mono ?_
    rintro e w1 ⟨rfl, hb1⟩
    have HB1 := Lib.hid (belStep (bel1 w _) hb1)
    clear hb1
    go_wp2
    refine bodyPost_ret (v := .slice none 0 0) (by simp [results, Tryz.results19, go_sem]) rfl ⟨⟨none, #[], 0, rfl, HN.out, RdI_R.none_, Nat.zero_le _⟩, HB1.out⟩
  · have HCk := Lib.hid hc
    rw [hc] at q0
    clear hc
    go_enter Tryz.func19, Tryz.ntmps19
    go_wp2_with fail
    refine (HC.out _ (bel1 w _)).mono ?_
    rintro e w1 ⟨rfl, hb1⟩
    obtain ⟨u0, u1, u2⟩ := box3 hb1
    have HB1 := Lib.hid (belStep (bel1 w _) hb1)
    clear hb1 HC
    go_wp2
    go_loopw [3, 12] (fun ov iv wr => ∃ (j : Nat) (l : List Int), iv = .int .i64 (j : Int) ∧ j ≤ ats.size ∧ l.length ≤ j ∧ ats.toList.map (·.2) = l ++ (ats.toList.drop j).map (·.2) ∧ wr.ownsRow w1.heap.size 3 1 ov l.length (l.map (Value.int .i64)) ∧ Below w1.heap.size w1 wr) (fun _ i _ => ats.size - (intOf i).toNat)
    case atStart => exact ⟨0, [], rfl, Nat.zero_le _, Nat.le_refl _, rfl, World.ownsRow_nil _ _ _ _, Below.refl _ _⟩
    case round =>
      clear u0 u1 u2
      obtain ⟨j, l, rfl, hj, hl, he, hown, hB⟩ := hrel
      have HE := Lib.hid he
      have HB := Lib.hid hB
      clear he hB
      by_cases hlt : j < ats.size
      · have jz : (j : Int) < (ats.size : Int) := by omega
        obtain ⟨b, off, rfl, hbl, f⟩ := (H2.out.below (belStep HB1.out HB.out)).at_ hlt
        have e0 := f 0 (by omega)
        have e1 := f 1 (by omega)
        have HD := Lib.hid (drop_arr_K ats j hlt)
        generalize ats[j]! = x at e0 e1 HD
        simp only [Nat.add_zero, encA_I, List.getElem!_cons_zero, List.getElem!_cons_succ] at e0 e1
        clear f
        have HN : Hid (ats.toList.map (·.2) = (l ++ [x.2]) ++ (ats.toList.drop (j + 1)).map (·.2)) := by show _ = _; rw [HE.out, HD.out]; simp
        have hz := HB.out.size
        go_wp2_with (at_builtin; refine wpList_append_own _ rfl _ _ 40 rfl w1.heap.size 3 i0 (.int .i64 0) 1 8 Tryz.underlying40 hi0 hz0 hz1 hz2 rfl (by decide) _ _ _ rfl ((hown.alloc _).alloc _) ⟨wr.heap.size + 1, 0, none⟩ 1 1 [.int .i64 x.2] rfl rfl (fun j u hu => by
          match j, hu with
          | 0, hu => simp at hu; subst hu; rw [show (⟨wr.heap.size + 1, 0, none⟩ : Addr).add 0 = ⟨(wr.alloc (.cells #[.int .i64 x.1, .int .i64 x.2] 50)).heap.size, 0, none⟩ by simp [Addr.add]]; exact cell_new _ _ _ 0
          | j + 1, hu => simp at hu) (by simp [Value.oneCell']) (by unfold maxLen; omega) (by omega) (by simp; omega) ?_; intro v' w5 hown' hgrow _)
        go_roundw
        case rel => exact ⟨j + 1, l ++ [x.2], by go_num, by omega, by simp; omega, HN.out, (by simpa using hown'), own_app2 HB.out hz hown hgrow⟩
        case measure => simp [intOf]; omega
      · have hlt' : decide ((j : Int) < (ats.size : Int)) = false := decide_eq_false (by omega)
        have HL : Hid (ats.toList.map (·.2) = l) := by
          show _ = _
          rw [HE.out, List.drop_of_length_le (by simp; omega)]; simp
        have HOp : Hid (∀ s : List Int, s.Pairwise (· < ·) → (∀ x, x ∈ s ↔ x ∈ l) → OpenR ⟨base, rs, ats⟩ s.toArray) := fun s p1 p2 => ⟨by simpa using p1, fun x => by rw [HCk.out]; simp only [true_and]; rw [HL.out]; simpa using p2 x⟩
        rcases l with _ | ⟨y, l⟩
        · obtain ⟨Av, cv, rfl, _⟩ := rdI_of_owns hown
          have HN : Hid (OpenR ⟨base, rs, ats⟩ (#[] : Array Int)) := HOp.out [] (by simp) (fun x => Iff.rfl)
          clear hown HOp HL HE
          go_wp2_with fail
          refine (Tryz.slices_Sort_int_none Av cv wr).mono ?_
          rintro e w2 ⟨rfl, rfl⟩
          go_wp2_with fail
          refine (Tryz.slices_Compact_int_empty Av cv w2).mono ?_
          rintro e w3 ⟨rfl, rfl⟩
          go_wp2
          go_ret
          exact ⟨⟨Av, #[], cv, rfl, HN.out, RdI_R.none_, Nat.zero_le _⟩, belStep HB1.out HB.out⟩
        · obtain ⟨L, hL⟩ : ∃ L, y :: l = L := ⟨_, rfl⟩
          have hL0 : 0 < L.length := by rw [← hL]; simp
          have hl2 : L.length ≤ 100000 := by rw [← hL]; omega
          have hl3 : L.length ≤ ats.size := by rw [← hL]; omega
          rw [hL] at hown HOp HL
          clear hL HE
          have hn : ∀ v, wr.ownsRow w1.heap.size 3 1 v L.length (L.map (Value.int .i64)) → v ≠ .slice none 0 0 := fun v h e => by
            subst e
            obtain ⟨_, ⟨_, h0⟩ | ⟨g, cap, cur, hv, _⟩⟩ := h
            · omega
            · cases hv
          obtain ⟨g, cap, rfl, hnc, hgB, hgl, hH⟩ := own_ints hown (hn _ hown)
          have hz := HB.out.size
          have HSo := Lib.hid (Tryz.slices_Sort_int g 0 cap L wr hH hgl (by omega))
          have HH := Lib.hid hH
          obtain ⟨cs1, cs2⟩ := compact_sorted L
          have hls : (L.mergeSort fun x y => decide (x ≤ y)).length = L.length := List.length_mergeSort ..
          obtain ⟨srt, hsrt⟩ : ∃ srt, (L.mergeSort fun x y => decide (x ≤ y)) = srt := ⟨_, rfl⟩
          rw [hsrt] at HSo cs1 cs2 hls
          have HN : Hid (OpenR ⟨base, rs, ats⟩ (compact srt).toArray) := HOp.out _ cs1 cs2
          have HLs := Lib.hid hls
          clear hown hn hH HOp HL cs1 cs2 hls hsrt
          go_wp2_with fail
          refine HSo.out.mono ?_
          rintro e w2 ⟨rfl, n, os, hw2⟩
          have hb2 : Below w1.heap.size w1 w2 := by rw [hw2]; exact below_putRow HB.out hz hgB n _ os
          have hg2 : g < w2.heap.size := by
            rw [hw2]
            show g < ((putRow (Value.int .i64) (Sort.ahead wr n) g 0 srt.toArray).heap ++ os).size
            rw [Array.size_append, size_putRow]
            show g < wr.heap.size + _
            omega
          have hH2 : Holds (Value.int .i64) w2 g 0 srt.toArray := by
            rw [hw2]
            refine holds_grow _ _ _ _ _ _ (by rw [size_putRow]; exact hgl) (holds_putRow _ (Sort.ahead wr n) g 0 L.toArray srt.toArray (holds_ahead _ _ _ _ _ _ HH.out) (by simpa using HLs.out))
          have hcm := Tryz.slices_Compact_int g 0 cap srt w2 hH2 (by have := HLs.out; omega) (by have := HLs.out; omega)
          rw [HLs.out] at hcm
          have HCm := Lib.hid hcm
          have HH2 := Lib.hid hH2
          have HB2 := Lib.hid hb2
          clear hw2 hH2 hcm hb2
          go_wp2_with fail
          refine HCm.out.mono ?_
          rintro e w3 ⟨rfl, q, hw3⟩
          have hlen := compact_length_le srt
          have HR3 : Hid (RdI_R w3.heap.size w3 (some ⟨g, 0, none⟩) (compact srt).toArray ∧ Below w1.heap.size w1 w3) := by
            have e1 : (compact srt ++ List.replicate (L.length - (compact srt).length) 0).length = srt.toArray.size := by simp [HLs.out]; have := HLs.out; omega
            rw [hw3]
            refine ⟨rdI_put (holds_ahead _ _ _ _ _ _ HH2.out) e1 hg2, ?_⟩
            have := below_putRow HB2.out HB2.out.size hgB q (compact srt ++ List.replicate (L.length - (compact srt).length) 0).toArray (g := g) (off := 0) #[]
            rwa [grow_empty] at this
          clear hw3
          go_wp2
          go_ret
          refine ⟨⟨some ⟨g, 0, none⟩, (compact srt).toArray, cap, ?_, HN.out, HR3.out.1, ?_⟩, belStep HB1.out HR3.out.2⟩
          · simp
          · have := HLs.out
            show (compact srt).toArray.size ≤ ats.size
            simp
            omega
end Go.Proofs.YtgpejfkmdenonaaGreat
