/- A command is put as the document says: rubatoref21.Put. -/
import Derived.Test.YtgpejfkmdenonaaTbF
namespace Go.Proofs.Ytgpejfkmdenonaa
open Go.RowKit Go.Sort Go.Lib
set_option maxRecDepth 100000
theorem out_id {e : EN} (x : EN) (b : Bool) (r : List EN) : insL e b (x :: r) = (if e.id ≤ x.id ∧ b = false then [e] else []) ++ ((if x.id = e.id then [] else [x]) ++ insL e (b || decide (e.id ≤ x.id)) r) := by rw [insL]
set_option maxHeartbeats 32000000 in
theorem rPut_any (A : Option Addr) (c : Nat) (d : Array EN) (e : EN) (w : World) (h : RdT w A d) (he : RdE w e) :
    Calls Try.prog 10 #[.slice A d.size c, .agg (encE e).toArray] w fun r w' => PutQ d e r w' ∧ Below w.heap.size w w' := by
  obtain ⟨i0, hi0, hz0, hz1, hz2⟩ := info_parts ent_info
  have HR := Lib.hid h
  have HE := Lib.hid he
  have HX := Lib.hid (BoxW.init w (encE e).toArray 25)
  have HBAD : Hid ((chkT d && chkEn e) = false → ∀ W, Below w.heap.size w W → PutQ d e (Ending.returned (.tuple #[.slice none 0 0, .int .i64 2])) W ∧ Below w.heap.size w W) := fun hf W hb => by
    have e1 : putC d e = 2 := by unfold putC; rw [if_neg (by rw [hf]; exact Bool.false_ne_true)]
    have e2 : putD d e = #[] := by unfold putD; rw [e1]; rfl
    unfold PutQ
    rw [e1, e2]
    exact ⟨⟨none, 0, rfl, fun h => absurd h (by decide), fun i hi => absurd hi (by simp), by decide⟩, hb⟩
  have HC := Lib.hid (fun W (hb : Below w.heap.size w W) => rtCheck_any A c d W (h.below hb))
  have HK := Lib.hid (fun W (hb : Below w.heap.size w W) => rCheck_any e W (he.below hb) he.cz)
  have q1 := tabE_bool d
  have q2 := enE_bool e
  have hsz := h.sz
  clear h he
  obtain ⟨g1, hg1⟩ : ∃ g, chkT d = g := ⟨_, rfl⟩
  obtain ⟨g2, hg2⟩ : ∃ g, chkEn e = g := ⟨_, rfl⟩
  rw [hg1] at q1
  rw [hg2] at q2
  have HG1 := Lib.hid hg1
  have HG2 := Lib.hid hg2
  clear hg1 hg2
  generalize tabE d = td at q1 HC
  generalize enE e = te at q2 HK
  simp only [encE] at HX HK ⊢
  cases g1
  · go_enter Try.func10, Try.ntmps10
    go_wp2_with fail
    refine (HC.out _ HX.out.b).mono ?_
    rintro _ w1 ⟨rfl, hb1⟩
    have HX1 := Lib.hid (HX.out.next hb1)
    clear hb1
    go_wp2
    go_ret2
    exact HBAD.out (by rw [HG1.out]; rfl) _ HX1.out.b
  cases g2
  · go_enter Try.func10, Try.ntmps10
    go_wp2_with fail
    refine (HC.out _ HX.out.b).mono ?_
    rintro _ w1 ⟨rfl, hb1⟩
    have HX1 := Lib.hid (HX.out.next hb1)
    clear hb1
    have y0 := HX1.out.at_ 0
    have y1 := HX1.out.at_ 1
    have y2 := HX1.out.at_ 2
    have y3 := HX1.out.at_ 3
    have y4 := HX1.out.at_ 4
    have y5 := HX1.out.at_ 5
    have y6 := HX1.out.at_ 6
    have y7 := HX1.out.at_ 7
    have y8 := HX1.out.at_ 8
    have y9 := HX1.out.at_ 9
    go_wp2_with fail
    refine (HK.out _ HX1.out.b).mono ?_
    rintro _ w2 ⟨rfl, hb2⟩
    have HX2 := Lib.hid (HX1.out.next hb2)
    clear hb2 y0 y1 y2 y3 y4 y5 y6 y7 y8 y9
    go_wp2
    go_ret2
    exact HBAD.out (by rw [HG1.out, HG2.out]; rfl) _ HX2.out.b
  have HPC : Hid (putC d e = if 40 < (putS d e).size then 8 else 0) := by
    show _ = _
    unfold putC
    rw [HG1.out, HG2.out]; rfl
  have h40 := (chkT_iff.1 HG1.out).1
  go_enter Try.func10, Try.ntmps10
  go_wp2_with fail
  refine (HC.out _ HX.out.b).mono ?_
  rintro _ w1 ⟨rfl, hb1⟩
  have HX1 := Lib.hid (HX.out.next hb1)
  clear hb1
  have y0 := HX1.out.at_ 0
  have y1 := HX1.out.at_ 1
  have y2 := HX1.out.at_ 2
  have y3 := HX1.out.at_ 3
  have y4 := HX1.out.at_ 4
  have y5 := HX1.out.at_ 5
  have y6 := HX1.out.at_ 6
  have y7 := HX1.out.at_ 7
  have y8 := HX1.out.at_ 8
  have y9 := HX1.out.at_ 9
  go_wp2_with fail
  refine (HK.out _ HX1.out.b).mono ?_
  rintro _ w2 ⟨rfl, hb2⟩
  have HX2 := Lib.hid (HX1.out.next hb2)
  clear hb2 y0 y1 y2 y3 y4 y5 y6 y7 y8 y9 HC HK
  obtain ⟨B, hB⟩ : ∃ B, B = w2.heap.size := ⟨_, rfl⟩
  have HBE := Lib.hid hB
  have HLB : Hid (w.heap.size < B) := by show _ < _; rw [hB]; exact HX2.out.lt
  have HT : Hid (∀ W, Below B w2 W → Below w.heap.size w W) := fun W hb => HX2.out.b.trans (hb.mono (Nat.le_of_lt HLB.out))
  have HBX : Hid (∀ W, Below B w2 W → ∀ j, W.cell? ⟨w.heap.size, j, none⟩ = (#[.int .i64 e.id, .int .i64 e.ph, .int .i64 e.qu, .int .i64 e.t, .int .i64 e.bal, .int .i64 e.abal, .int .i64 e.seen, .int .i64 e.age, .string e.pay, .slice e.A e.z.size e.c] : Array Value)[j]?) := fun W hb j => (hb.cell (p := ⟨w.heap.size, j, none⟩) HLB.out).trans (HX2.out.at_ j)
  have HB2 : Hid (Below B w2 w2) := Below.refl _ _
  have hBs : B ≤ w2.heap.size := by omega
  clear hB
  go_wp2
  clear q1 q2
  go_loopw [6, 7, 8] (fun m bv i wr => ∃ (k : Nat) (out : Array EN) (b : Bool), i = .int .i64 k ∧ bv = .bool b ∧ k ≤ d.size ∧ out.size ≤ k + 1 ∧ Hid (insL e false d.toList = out.toList ++ insL e b (d.toList.drop k)) ∧ wr.ownsRow B 25 10 m out.size (flatK encE 10 out).toList ∧ Hid (B ≤ wr.heap.size) ∧ Hid (Below B w2 wr) ∧ Hid (b = false → out.size ≤ k)) (fun _ _ i _ => d.size - (intOf i).toNat)
  case atStart => exact ⟨0, #[], false, rfl, rfl, Nat.zero_le _, by simp, rfl, nil_ownsK _ _ _ _ _, hBs, HB2, fun _ => Nat.le_refl _⟩
  case round =>
    obtain ⟨k, out, b, rfl, rfl, hk, hos, HI, hown, HBz, HB, HOS⟩ := hrel
    obtain ⟨Am, cm, rfl, _, _⟩ := rdK_of_owns hown
    by_cases hlt : k < d.size
    · have kz : (k : Int) < (d.size : Int) := by omega
      have HD := Lib.hid (drop_arr_E d k hlt)
      obtain ⟨ad, off, rfl, hbl, f⟩ := (HR.out.below (HT.out _ HB.out)).rd.at_ (i := k) hlt
      have HF : Hid (∀ W, Below B w2 W → ∀ j, j < 10 → W.cell? ⟨ad, off + k * 10 + j, none⟩ = some (encE d[k]!)[j]!) := fun W hb j hj => by
        obtain ⟨ad', off', e', _, f'⟩ := (HR.out.below (HT.out _ hb)).rd.at_ (i := k) hlt
        injection e' with e'
        injection e' with ea eo
        subst ea eo
        exact f' j hj
      have HAL : Hid (ad < w.heap.size) := by
        obtain ⟨ad', off', e', hl, _⟩ := HR.out.rd.at_ (i := k) hlt
        injection e' with e'
        injection e' with ea eo
        subst ea
        exact hl
      clear f
      obtain ⟨x, hx⟩ : ∃ x, d[k]! = x := ⟨_, rfl⟩
      rw [hx] at HD HF
      have HX0 := Lib.hid hx
      clear hx
      have HIN : Hid (insL e false d.toList = out.toList ++ ((if e.id ≤ x.id ∧ b = false then [e] else []) ++ ((if x.id = e.id then [] else [x]) ++ insL e (b || decide (e.id ≤ x.id)) (d.toList.drop (k + 1))))) := by
        show _ = _
        rw [HI.out, HD.out, out_id]
      clear HI HD
      simp only [encE] at HF
      obtain ⟨q1, hq1⟩ : ∃ q, decide (e.id ≤ x.id) = q := ⟨_, rfl⟩
      obtain ⟨q2, hq2⟩ : ∃ q, (x.id != e.id) = q := ⟨_, rfl⟩
      have HN : Hid (insL e false d.toList = out.toList ++ ((if (q1 && !b) = true then [e] else []) ++ ((if q2 = true then [x] else []) ++ insL e (b || q1) (d.toList.drop (k + 1))))) := by
        show _ = _
        rw [HIN.out, ← hq1, ← hq2]
        congr 2
        · cases b <;> by_cases h : e.id ≤ x.id <;> simp [h]
        · by_cases h : x.id = e.id <;> simp [h]
      clear HIN
      have hos2 := HOS.out
      have hbz := HBz.out
      cases b
      · cases q1
        · have hsz1 : (out).size ≤ 1000 := by (try rw [Array.size_push]); omega
          have hz1 : B ≤ wr.heap.size := by have h1 := HB.out.size; have h2 := HBE.out; omega
          have rd1 := fun p : ExtW wr => HF.out p.to (HB.out.trans (p.h.mono hz1)) 0 (by decide)
          have bx1 := fun p : ExtW wr => HBX.out p.to (HB.out.trans (p.h.mono hz1)) 0
          simp only [Nat.add_zero, List.getElem!_cons_zero] at rd1
          go_wp2_with fail
          refine wp_region_ext (by kernel_rfl) (by kernel_rfl) ?_
          repeat (first | go_big_quiet_step (fail) | quiet_step (fail))
          refine wpQuiet_nil ?_
          intro V1 hw'
          obtain ⟨⟨W, hbW⟩, hw''⟩ := hw'
          have hw3 : V1 = W := hw''
          subst hw3
          have HB1 := Lib.hid (HB.out.trans (hbW.mono hz1))
          have hown1 := own_belE hown hbW
          have hZ1 : B ≤ V1.heap.size := Nat.le_trans hz1 hbW.size
          clear hbW hw'' rd1 bx1 hz1
          cases q2
          · have hsz3 : (out).size ≤ 1000 := by (try rw [Array.size_push]); omega
            have hz3 : B ≤ V1.heap.size := by have h1 := HB1.out.size; have h2 := HBE.out; omega
            have rd3 := fun p : ExtW V1 => HF.out p.to (HB1.out.trans (p.h.mono hz3)) 0 (by decide)
            have bx3 := fun p : ExtW V1 => HBX.out p.to (HB1.out.trans (p.h.mono hz3)) 0
            simp only [Nat.add_zero, List.getElem!_cons_zero] at rd3
            go_wp2_with fail
            refine wp_region_ext (by kernel_rfl) (by kernel_rfl) ?_
            repeat (first | go_big_quiet_step (fail) | quiet_step (fail))
            refine wpQuiet_nil ?_
            intro V3 hw'
            obtain ⟨⟨W, hbW⟩, hw''⟩ := hw'
            have hw3 : V3 = W := hw''
            subst hw3
            have HB3 := Lib.hid (HB1.out.trans (hbW.mono hz3))
            have hown3 := own_belE hown1 hbW
            have hZ3 : B ≤ V3.heap.size := Nat.le_trans hz3 hbW.size
            clear hbW hw'' rd3 bx3 hz3
            go_wp2
            go_roundw
            case rel => exact ⟨k + 1, out, false, by go_num, rfl, by omega, by (try rw [Array.size_push]); omega, (by show _ = _; rw [HN.out]; simp), hown3, hZ3, HB3, fun hb => by (try rw [Array.size_push]); have h2 := HOS.out; simp at hb h2 <;> omega⟩
            case measure => simp [intOf]; omega
          · have hsz3 : (out).size ≤ 1000 := by (try rw [Array.size_push]); omega
            have hz3 : B ≤ V1.heap.size := by have h1 := HB1.out.size; have h2 := HBE.out; omega
            have rd3 := fun p : ExtW V1 => HF.out p.to (HB1.out.trans (p.h.mono hz3)) 0 (by decide)
            have bx3 := fun p : ExtW V1 => HBX.out p.to (HB1.out.trans (p.h.mono hz3)) 0
            simp only [Nat.add_zero, List.getElem!_cons_zero] at rd3
            go_wp2_with fail
            refine wp_region_ext (by kernel_rfl) (by kernel_rfl) ?_
            repeat (first | go_big_quiet_step (fail) | quiet_step (fail))
            refine wpQuiet_nil ?_
            intro V3 hw'
            obtain ⟨⟨W, hbW⟩, hw''⟩ := hw'
            have hw3 : V3 = W := hw''
            subst hw3
            have HB3 := Lib.hid (HB1.out.trans (hbW.mono hz3))
            have hown3 := own_belE hown1 hbW
            have hZ3 : B ≤ V3.heap.size := Nat.le_trans hz3 hbW.size
            clear hbW hw'' rd3 bx3 hz3
            have z0 := HF.out V3 HB3.out 0 (by decide)
            have z1 := HF.out V3 HB3.out 1 (by decide)
            have z2 := HF.out V3 HB3.out 2 (by decide)
            have z3 := HF.out V3 HB3.out 3 (by decide)
            have z4 := HF.out V3 HB3.out 4 (by decide)
            have z5 := HF.out V3 HB3.out 5 (by decide)
            have z6 := HF.out V3 HB3.out 6 (by decide)
            have z7 := HF.out V3 HB3.out 7 (by decide)
            have z8 := HF.out V3 HB3.out 8 (by decide)
            have z9 := HF.out V3 HB3.out 9 (by decide)
            simp only [Nat.add_zero, List.getElem!_cons_zero, List.getElem!_cons_succ] at z0 z1 z2 z3 z4 z5 z6 z7 z8 z9
            go_wp2_with (at_builtin; refine wpList_append_own _ rfl _ _ 22 rfl B 25 i0 (.agg #[.int .i64 0, .int .i64 0, .int .i64 0, .int .i64 0, .int .i64 0, .int .i64 0, .int .i64 0, .int .i64 0, .string ⟨#[]⟩, .slice none 0 0]) 10 104 Try.underlying22 hi0 hz0 hz1 hz2 rfl (by decide) _ _ _ rfl (hown3.alloc _) ⟨V3.heap.size, 0, none⟩ 1 1 [.int .i64 x.id, .int .i64 x.ph, .int .i64 x.qu, .int .i64 x.t, .int .i64 x.bal, .int .i64 x.abal, .int .i64 x.seen, .int .i64 x.age, .string x.pay, .slice x.A x.z.size x.c] rfl rfl (newL V3 _ _) (by simp [Value.oneCell']) (by unfold maxLen; omega) (by omega) (by simp; omega) ?_; intro v4 w4 hw4 hgrow4 _)
            have HB4 := Lib.hid (own_app_E HB3.out hZ3 hown3 hgrow4)
            have hown4 : w4.ownsRow B 25 10 v4 (out.push x).size (flatK encE 10 (out.push x)).toList := by rw [Array.size_push, flatK_push encE_len]; exact hw4
            clear hgrow4 hw4
            exact ⟨⟨k + 1, out.push x, false, by go_num, rfl, by omega, by rw [Array.size_push]; (try rw [Array.size_push]); omega, (by show _ = _; rw [HN.out]; simp), hown4, (show _ ≤ _ from by have h1 := HB4.out.size; have h2 := HBE.out; omega), HB4, fun hb => by rw [Array.size_push]; (try rw [Array.size_push]); have h2 := HOS.out; simp at hb h2 <;> omega⟩, by simp [intOf]; omega⟩
        · have hsz1 : (out).size ≤ 1000 := by (try rw [Array.size_push]); omega
          have hz1 : B ≤ wr.heap.size := by have h1 := HB.out.size; have h2 := HBE.out; omega
          have rd1 := fun p : ExtW wr => HF.out p.to (HB.out.trans (p.h.mono hz1)) 0 (by decide)
          have bx1 := fun p : ExtW wr => HBX.out p.to (HB.out.trans (p.h.mono hz1)) 0
          simp only [Nat.add_zero, List.getElem!_cons_zero] at rd1
          go_wp2_with fail
          refine wp_region_ext (by kernel_rfl) (by kernel_rfl) ?_
          repeat (first | go_big_quiet_step (fail) | quiet_step (fail))
          refine wpQuiet_nil ?_
          intro V1 hw'
          obtain ⟨⟨W, hbW⟩, hw''⟩ := hw'
          have hw3 : V1 = W := hw''
          subst hw3
          have HB1 := Lib.hid (HB.out.trans (hbW.mono hz1))
          have hown1 := own_belE hown hbW
          have hZ1 : B ≤ V1.heap.size := Nat.le_trans hz1 hbW.size
          clear hbW hw'' rd1 bx1 hz1
          have y0 := HBX.out V1 HB1.out 0
          have y1 := HBX.out V1 HB1.out 1
          have y2 := HBX.out V1 HB1.out 2
          have y3 := HBX.out V1 HB1.out 3
          have y4 := HBX.out V1 HB1.out 4
          have y5 := HBX.out V1 HB1.out 5
          have y6 := HBX.out V1 HB1.out 6
          have y7 := HBX.out V1 HB1.out 7
          have y8 := HBX.out V1 HB1.out 8
          have y9 := HBX.out V1 HB1.out 9
          go_wp2_with (at_builtin; refine wpList_append_own _ rfl _ _ 22 rfl B 25 i0 (.agg #[.int .i64 0, .int .i64 0, .int .i64 0, .int .i64 0, .int .i64 0, .int .i64 0, .int .i64 0, .int .i64 0, .string ⟨#[]⟩, .slice none 0 0]) 10 104 Try.underlying22 hi0 hz0 hz1 hz2 rfl (by decide) _ _ _ rfl (hown1.alloc _) ⟨V1.heap.size, 0, none⟩ 1 1 [.int .i64 e.id, .int .i64 e.ph, .int .i64 e.qu, .int .i64 e.t, .int .i64 e.bal, .int .i64 e.abal, .int .i64 e.seen, .int .i64 e.age, .string e.pay, .slice e.A e.z.size e.c] rfl rfl (newL V1 _ _) (by simp [Value.oneCell']) (by unfold maxLen; omega) (by omega) (by simp; omega) ?_; intro v2 w2q hw2 hgrow2 _)
          have HB2q := Lib.hid (own_app_E HB1.out hZ1 hown1 hgrow2)
          have hown2 : w2q.ownsRow B 25 10 v2 (out.push e).size (flatK encE 10 (out.push e)).toList := by rw [Array.size_push, flatK_push encE_len]; exact hw2
          clear hgrow2 hw2
          clear y0 y1 y2 y3 y4 y5 y6 y7 y8 y9
          have hos3 : out.size ≤ k := HOS.out (by first | rfl | trivial)
          cases q2
          · have hsz3 : ((out.push e)).size ≤ 1000 := by (try rw [Array.size_push]); omega
            have hz3 : B ≤ w2q.heap.size := by have h1 := HB2q.out.size; have h2 := HBE.out; omega
            have rd3 := fun p : ExtW w2q => HF.out p.to (HB2q.out.trans (p.h.mono hz3)) 0 (by decide)
            have bx3 := fun p : ExtW w2q => HBX.out p.to (HB2q.out.trans (p.h.mono hz3)) 0
            simp only [Nat.add_zero, List.getElem!_cons_zero] at rd3
            go_wp2_with fail
            refine wp_region_ext (by kernel_rfl) (by kernel_rfl) ?_
            repeat (first | go_big_quiet_step (fail) | quiet_step (fail))
            refine wpQuiet_nil ?_
            intro V3 hw'
            obtain ⟨⟨W, hbW⟩, hw''⟩ := hw'
            have hw3 : V3 = W := hw''
            subst hw3
            have HB3 := Lib.hid (HB2q.out.trans (hbW.mono hz3))
            have hown3 := own_belE hown2 hbW
            have hZ3 : B ≤ V3.heap.size := Nat.le_trans hz3 hbW.size
            clear hbW hw'' rd3 bx3 hz3
            go_wp2
            go_roundw
            case rel => exact ⟨k + 1, (out.push e), true, by go_num, rfl, by omega, by (try rw [Array.size_push]); omega, (by show _ = _; rw [HN.out]; simp), hown3, hZ3, HB3, fun hb => by (try rw [Array.size_push]); have h2 := HOS.out; simp at hb h2 <;> omega⟩
            case measure => simp [intOf]; omega
          · have hsz3 : ((out.push e)).size ≤ 1000 := by (try rw [Array.size_push]); omega
            have hz3 : B ≤ w2q.heap.size := by have h1 := HB2q.out.size; have h2 := HBE.out; omega
            have rd3 := fun p : ExtW w2q => HF.out p.to (HB2q.out.trans (p.h.mono hz3)) 0 (by decide)
            have bx3 := fun p : ExtW w2q => HBX.out p.to (HB2q.out.trans (p.h.mono hz3)) 0
            simp only [Nat.add_zero, List.getElem!_cons_zero] at rd3
            go_wp2_with fail
            refine wp_region_ext (by kernel_rfl) (by kernel_rfl) ?_
            repeat (first | go_big_quiet_step (fail) | quiet_step (fail))
            refine wpQuiet_nil ?_
            intro V3 hw'
            obtain ⟨⟨W, hbW⟩, hw''⟩ := hw'
            have hw3 : V3 = W := hw''
            subst hw3
            have HB3 := Lib.hid (HB2q.out.trans (hbW.mono hz3))
            have hown3 := own_belE hown2 hbW
            have hZ3 : B ≤ V3.heap.size := Nat.le_trans hz3 hbW.size
            clear hbW hw'' rd3 bx3 hz3
            have z0 := HF.out V3 HB3.out 0 (by decide)
            have z1 := HF.out V3 HB3.out 1 (by decide)
            have z2 := HF.out V3 HB3.out 2 (by decide)
            have z3 := HF.out V3 HB3.out 3 (by decide)
            have z4 := HF.out V3 HB3.out 4 (by decide)
            have z5 := HF.out V3 HB3.out 5 (by decide)
            have z6 := HF.out V3 HB3.out 6 (by decide)
            have z7 := HF.out V3 HB3.out 7 (by decide)
            have z8 := HF.out V3 HB3.out 8 (by decide)
            have z9 := HF.out V3 HB3.out 9 (by decide)
            simp only [Nat.add_zero, List.getElem!_cons_zero, List.getElem!_cons_succ] at z0 z1 z2 z3 z4 z5 z6 z7 z8 z9
            go_wp2_with (at_builtin; refine wpList_append_own _ rfl _ _ 22 rfl B 25 i0 (.agg #[.int .i64 0, .int .i64 0, .int .i64 0, .int .i64 0, .int .i64 0, .int .i64 0, .int .i64 0, .int .i64 0, .string ⟨#[]⟩, .slice none 0 0]) 10 104 Try.underlying22 hi0 hz0 hz1 hz2 rfl (by decide) _ _ _ rfl (hown3.alloc _) ⟨V3.heap.size, 0, none⟩ 1 1 [.int .i64 x.id, .int .i64 x.ph, .int .i64 x.qu, .int .i64 x.t, .int .i64 x.bal, .int .i64 x.abal, .int .i64 x.seen, .int .i64 x.age, .string x.pay, .slice x.A x.z.size x.c] rfl rfl (newL V3 _ _) (by simp [Value.oneCell']) (by unfold maxLen; omega) (by omega) (by simp; omega) ?_; intro v4 w4 hw4 hgrow4 _)
            have HB4 := Lib.hid (own_app_E HB3.out hZ3 hown3 hgrow4)
            have hown4 : w4.ownsRow B 25 10 v4 ((out.push e).push x).size (flatK encE 10 ((out.push e).push x)).toList := by rw [Array.size_push, flatK_push encE_len]; exact hw4
            clear hgrow4 hw4
            exact ⟨⟨k + 1, (out.push e).push x, true, by go_num, rfl, by omega, by rw [Array.size_push]; (try rw [Array.size_push]); omega, (by show _ = _; rw [HN.out]; simp), hown4, (show _ ≤ _ from by have h1 := HB4.out.size; have h2 := HBE.out; omega), HB4, fun hb => by rw [Array.size_push]; (try rw [Array.size_push]); have h2 := HOS.out; simp at hb h2 <;> omega⟩, by simp [intOf]; omega⟩
      · cases q1
        all_goals
          have hsz1 : (out).size ≤ 1000 := by (try rw [Array.size_push]); omega
          have hz1 : B ≤ wr.heap.size := by have h1 := HB.out.size; have h2 := HBE.out; omega
          have rd1 := fun p : ExtW wr => HF.out p.to (HB.out.trans (p.h.mono hz1)) 0 (by decide)
          have bx1 := fun p : ExtW wr => HBX.out p.to (HB.out.trans (p.h.mono hz1)) 0
          simp only [Nat.add_zero, List.getElem!_cons_zero] at rd1
          go_wp2_with fail
          refine wp_region_ext (by kernel_rfl) (by kernel_rfl) ?_
          repeat (first | go_big_quiet_step (fail) | quiet_step (fail))
          refine wpQuiet_nil ?_
          intro V1 hw'
          obtain ⟨⟨W, hbW⟩, hw''⟩ := hw'
          have hw3 : V1 = W := hw''
          subst hw3
          have HB1 := Lib.hid (HB.out.trans (hbW.mono hz1))
          have hown1 := own_belE hown hbW
          have hZ1 : B ≤ V1.heap.size := Nat.le_trans hz1 hbW.size
          clear hbW hw'' rd1 bx1 hz1
          cases q2
          · have hsz3 : (out).size ≤ 1000 := by (try rw [Array.size_push]); omega
            have hz3 : B ≤ V1.heap.size := by have h1 := HB1.out.size; have h2 := HBE.out; omega
            have rd3 := fun p : ExtW V1 => HF.out p.to (HB1.out.trans (p.h.mono hz3)) 0 (by decide)
            have bx3 := fun p : ExtW V1 => HBX.out p.to (HB1.out.trans (p.h.mono hz3)) 0
            simp only [Nat.add_zero, List.getElem!_cons_zero] at rd3
            go_wp2_with fail
            refine wp_region_ext (by kernel_rfl) (by kernel_rfl) ?_
            repeat (first | go_big_quiet_step (fail) | quiet_step (fail))
            refine wpQuiet_nil ?_
            intro V3 hw'
            obtain ⟨⟨W, hbW⟩, hw''⟩ := hw'
            have hw3 : V3 = W := hw''
            subst hw3
            have HB3 := Lib.hid (HB1.out.trans (hbW.mono hz3))
            have hown3 := own_belE hown1 hbW
            have hZ3 : B ≤ V3.heap.size := Nat.le_trans hz3 hbW.size
            clear hbW hw'' rd3 bx3 hz3
            go_wp2
            go_roundw
            case rel => exact ⟨k + 1, out, true, by go_num, rfl, by omega, by (try rw [Array.size_push]); omega, (by show _ = _; rw [HN.out]; simp), hown3, hZ3, HB3, fun hb => by (try rw [Array.size_push]); have h2 := HOS.out; simp at hb h2 <;> omega⟩
            case measure => simp [intOf]; omega
          · have hsz3 : (out).size ≤ 1000 := by (try rw [Array.size_push]); omega
            have hz3 : B ≤ V1.heap.size := by have h1 := HB1.out.size; have h2 := HBE.out; omega
            have rd3 := fun p : ExtW V1 => HF.out p.to (HB1.out.trans (p.h.mono hz3)) 0 (by decide)
            have bx3 := fun p : ExtW V1 => HBX.out p.to (HB1.out.trans (p.h.mono hz3)) 0
            simp only [Nat.add_zero, List.getElem!_cons_zero] at rd3
            go_wp2_with fail
            refine wp_region_ext (by kernel_rfl) (by kernel_rfl) ?_
            repeat (first | go_big_quiet_step (fail) | quiet_step (fail))
            refine wpQuiet_nil ?_
            intro V3 hw'
            obtain ⟨⟨W, hbW⟩, hw''⟩ := hw'
            have hw3 : V3 = W := hw''
            subst hw3
            have HB3 := Lib.hid (HB1.out.trans (hbW.mono hz3))
            have hown3 := own_belE hown1 hbW
            have hZ3 : B ≤ V3.heap.size := Nat.le_trans hz3 hbW.size
            clear hbW hw'' rd3 bx3 hz3
            have z0 := HF.out V3 HB3.out 0 (by decide)
            have z1 := HF.out V3 HB3.out 1 (by decide)
            have z2 := HF.out V3 HB3.out 2 (by decide)
            have z3 := HF.out V3 HB3.out 3 (by decide)
            have z4 := HF.out V3 HB3.out 4 (by decide)
            have z5 := HF.out V3 HB3.out 5 (by decide)
            have z6 := HF.out V3 HB3.out 6 (by decide)
            have z7 := HF.out V3 HB3.out 7 (by decide)
            have z8 := HF.out V3 HB3.out 8 (by decide)
            have z9 := HF.out V3 HB3.out 9 (by decide)
            simp only [Nat.add_zero, List.getElem!_cons_zero, List.getElem!_cons_succ] at z0 z1 z2 z3 z4 z5 z6 z7 z8 z9
            go_wp2_with (at_builtin; refine wpList_append_own _ rfl _ _ 22 rfl B 25 i0 (.agg #[.int .i64 0, .int .i64 0, .int .i64 0, .int .i64 0, .int .i64 0, .int .i64 0, .int .i64 0, .int .i64 0, .string ⟨#[]⟩, .slice none 0 0]) 10 104 Try.underlying22 hi0 hz0 hz1 hz2 rfl (by decide) _ _ _ rfl (hown3.alloc _) ⟨V3.heap.size, 0, none⟩ 1 1 [.int .i64 x.id, .int .i64 x.ph, .int .i64 x.qu, .int .i64 x.t, .int .i64 x.bal, .int .i64 x.abal, .int .i64 x.seen, .int .i64 x.age, .string x.pay, .slice x.A x.z.size x.c] rfl rfl (newL V3 _ _) (by simp [Value.oneCell']) (by unfold maxLen; omega) (by omega) (by simp; omega) ?_; intro v4 w4 hw4 hgrow4 _)
            have HB4 := Lib.hid (own_app_E HB3.out hZ3 hown3 hgrow4)
            have hown4 : w4.ownsRow B 25 10 v4 (out.push x).size (flatK encE 10 (out.push x)).toList := by rw [Array.size_push, flatK_push encE_len]; exact hw4
            clear hgrow4 hw4
            exact ⟨⟨k + 1, out.push x, true, by go_num, rfl, by omega, by rw [Array.size_push]; (try rw [Array.size_push]); omega, (by show _ = _; rw [HN.out]; simp), hown4, (show _ ≤ _ from by have h1 := HB4.out.size; have h2 := HBE.out; omega), HB4, fun hb => by rw [Array.size_push]; (try rw [Array.size_push]); have h2 := HOS.out; simp at hb h2 <;> omega⟩, by simp [intOf]; omega⟩
    · have hlt' : decide ((k : Int) < (d.size : Int)) = false := by simp; omega
      have hkd : k = d.size := by omega
      have hI := HI.out
      rw [List.drop_of_length_le (by simp; omega)] at hI
      cases b
      · have hps : putS d e = out.push e := by
          unfold putS
          rw [hI]
          apply Array.toList_inj.1
          simp [insL]
        have HPS := Lib.hid hps
        have HPM := Lib.hid (putS_mem (d := d) (e := e))
        have hsz2 : (putS d e).size ≤ 60 := by rw [hps, Array.size_push]; omega
        have hZr := HBz.out
        clear hI HI hps
        have y0 := HBX.out wr HB.out 0
        have y1 := HBX.out wr HB.out 1
        have y2 := HBX.out wr HB.out 2
        have y3 := HBX.out wr HB.out 3
        have y4 := HBX.out wr HB.out 4
        have y5 := HBX.out wr HB.out 5
        have y6 := HBX.out wr HB.out 6
        have y7 := HBX.out wr HB.out 7
        have y8 := HBX.out wr HB.out 8
        have y9 := HBX.out wr HB.out 9
        by_cases h41 : 40 < (putS d e).size
        · have h41' : decide ((40 : Int) < ((putS d e).size : Int)) = true := decide_eq_true (by omega)
          have hpc : putC d e = 8 := by rw [HPC.out, if_pos h41]
          have hpd : putD d e = #[] := by unfold putD; rw [if_neg (by rw [hpc]; decide)]
          have HPC0 := Lib.hid hpc
          have HPD0 := Lib.hid hpd
          clear hpc hpd h41
          go_wp2_with (at_builtin; refine wpList_append_own _ rfl _ _ 22 rfl B 25 i0 (.agg #[.int .i64 0, .int .i64 0, .int .i64 0, .int .i64 0, .int .i64 0, .int .i64 0, .int .i64 0, .int .i64 0, .string ⟨#[]⟩, .slice none 0 0]) 10 104 Try.underlying22 hi0 hz0 hz1 hz2 rfl (by decide) _ _ _ rfl (hown.alloc _) ⟨wr.heap.size, 0, none⟩ 1 1 [.int .i64 e.id, .int .i64 e.ph, .int .i64 e.qu, .int .i64 e.t, .int .i64 e.bal, .int .i64 e.abal, .int .i64 e.seen, .int .i64 e.age, .string e.pay, .slice e.A e.z.size e.c] rfl rfl (newL wr _ _) (by simp [Value.oneCell']) (by unfold maxLen; omega) (by omega) (by simp; omega) ?_; intro v4 w4 hw4 hg4 _; have HB4 := Lib.hid (own_app_E HB.out hZr hown hg4); have hown4 : w4.ownsRow B 25 10 v4 (putS d e).size (flatK encE 10 (putS d e)).toList := by rw [HPS.out, Array.size_push, flatK_push encE_len]; exact hw4
                       obtain ⟨A4, c4, rfl, hr4, _⟩ := rdK_of_owns hown4; clear hw4 hg4)
          go_ret2
          unfold PutQ
          rw [HPC0.out, HPD0.out]
          exact ⟨⟨none, 0, rfl, fun h => absurd h (by decide), fun i hi => absurd hi (by simp), by decide⟩, HT.out _ HB4.out⟩
        · have h41' : decide ((40 : Int) < ((putS d e).size : Int)) = false := decide_eq_false (by omega)
          have hpc : putC d e = 0 := by rw [HPC.out, if_neg h41]
          have hpd : putD d e = putS d e := by unfold putD; rw [if_pos hpc]
          have HPC0 := Lib.hid hpc
          have HPD0 := Lib.hid hpd
          clear hpc hpd h41
          go_wp2_with (at_builtin; refine wpList_append_own _ rfl _ _ 22 rfl B 25 i0 (.agg #[.int .i64 0, .int .i64 0, .int .i64 0, .int .i64 0, .int .i64 0, .int .i64 0, .int .i64 0, .int .i64 0, .string ⟨#[]⟩, .slice none 0 0]) 10 104 Try.underlying22 hi0 hz0 hz1 hz2 rfl (by decide) _ _ _ rfl (hown.alloc _) ⟨wr.heap.size, 0, none⟩ 1 1 [.int .i64 e.id, .int .i64 e.ph, .int .i64 e.qu, .int .i64 e.t, .int .i64 e.bal, .int .i64 e.abal, .int .i64 e.seen, .int .i64 e.age, .string e.pay, .slice e.A e.z.size e.c] rfl rfl (newL wr _ _) (by simp [Value.oneCell']) (by unfold maxLen; omega) (by omega) (by simp; omega) ?_; intro v4 w4 hw4 hg4 _; have HB4 := Lib.hid (own_app_E HB.out hZr hown hg4); have hown4 : w4.ownsRow B 25 10 v4 (putS d e).size (flatK encE 10 (putS d e)).toList := by rw [HPS.out, Array.size_push, flatK_push encE_len]; exact hw4
                       obtain ⟨A4, c4, rfl, hr4, _⟩ := rdK_of_owns hown4; clear hw4 hg4)
          go_ret2
          unfold PutQ
          rw [HPC0.out, HPD0.out]
          exact ⟨⟨A4, c4, rfl, HR.out.sub2 HE.out (HT.out _ HB4.out) hr4 (by omega) HPM.out⟩, HT.out _ HB4.out⟩
      · have hps : out = putS d e := by
          unfold putS
          rw [hI]
          apply Array.toList_inj.1
          simp [insL]
        have HPM := Lib.hid (putS_mem (d := d) (e := e))
        clear hI HI
        subst hps
        obtain ⟨A4, c4, e4, hr4, _⟩ := rdK_of_owns hown
        injection e4 with e4 _ e5
        subst e4 e5
        by_cases h41 : 40 < (putS d e).size
        · have h41' : decide ((40 : Int) < ((putS d e).size : Int)) = true := decide_eq_true (by omega)
          have hpc : putC d e = 8 := by rw [HPC.out, if_pos h41]
          have hpd : putD d e = #[] := by unfold putD; rw [if_neg (by rw [hpc]; decide)]
          have HPC0 := Lib.hid hpc
          have HPD0 := Lib.hid hpd
          clear hpc hpd h41
          go_wp2
          go_ret2
          unfold PutQ
          rw [HPC0.out, HPD0.out]
          exact ⟨⟨none, 0, rfl, fun h => absurd h (by decide), fun i hi => absurd hi (by simp), by decide⟩, HT.out _ HB.out⟩
        · have h41' : decide ((40 : Int) < ((putS d e).size : Int)) = false := decide_eq_false (by omega)
          have hpc : putC d e = 0 := by rw [HPC.out, if_neg h41]
          have hpd : putD d e = putS d e := by unfold putD; rw [if_pos hpc]
          have HPC0 := Lib.hid hpc
          have HPD0 := Lib.hid hpd
          clear hpc hpd h41
          go_wp2
          go_ret2
          unfold PutQ
          rw [HPC0.out, HPD0.out]
          exact ⟨⟨_, _, rfl, HR.out.sub2 HE.out (HT.out _ HB.out) hr4 (by omega) HPM.out⟩, HT.out _ HB.out⟩
end Go.Proofs.Ytgpejfkmdenonaa
