/- Contracts of the document's ranges: of. -/
import Derived.Test.YtpnjodefnpphkaaRangesN
namespace Go.Proofs.Ytpnjodefnpphkaa
open Go.RowKit Go.Sort Go.Lib

theorem ofN_size (a b : Array (Int × Int)) (e : Array Int) : ∀ i, (ofN a b e i).size ≤ i
  | 0 => Nat.le_refl _
  | i + 1 => by
    have := ofN_size a b e i
    rw [ofN_succ]
    split
    · omega
    · split
      · simp; omega
      · simp; omega
theorem rowE {w : World} {v : Value} {l : Array (Int × Int)} (h : RowI w v (edgesN l l.size)) : ∃ b off c, v = .slice (some ⟨b, off, none⟩) (edgesE l).size c ∧ b < w.heap.size ∧ ∀ i, i < (edgesE l).size → w.cell? ⟨b, off + i, none⟩ = some (.int .i64 (edgesE l)[i]!) := by
  obtain ⟨b, off, c, rfl, _, h2, h3⟩ := h
  exact ⟨b, off, c, by rw [edgesE_len], h2, fun i hi => h3 i (by rw [← edgesE_len]; exact hi)⟩
theorem NL.at_ {d : Array (Int × Int)} (h : NL d.toList) {k : Nat} (hk : k < d.size) : 1 ≤ d[k]!.1 ∧ d[k]!.1 ≤ d[k]!.2 ∧ d[k]!.2 ≤ 1000000 := h.1 _ (by rw [getElem!_pos d k hk]; simp)
theorem edgesE_bd (l : Array (Int × Int)) (i : Nat) (h : i < (edgesE l).size) : 1 ≤ (edgesE l)[i]! ∧ (edgesE l)[i]! ≤ 1000000 := by
  have := bndN_bd l i
  have e : bndN (edgesE l) i = (edgesE l)[i]! := by unfold bndN; rw [if_pos h]
  rw [e] at this
  exact ⟨this.1, this.2.2 h⟩
theorem bnd_in {e : Array Int} {i : Nat} (h : i < e.size) : bndN e i - 1 = e[i]! - 1 := by unfold bndN; rw [if_pos h]
theorem bnd_out {e : Array Int} {i : Nat} (h : ¬ i < e.size) : bndN e i - 1 = 1000000 := by unfold bndN; rw [if_neg h]; rfl
theorem own_app1 {w wr w1 : World} {B : Nat} {o : Obj} {e : TypeId} {s n : Nat} {v : Value} {xs : List Value} (hb : Below B w wr) (hB : B ≤ wr.heap.size) (hown : wr.ownsRow B e s v n xs) (hg : (wr.alloc o).grownBy w1 v.ownBlock) : Below B w w1 :=
  (hb.alloc hB o).grown hg (by simp; omega) (fun k hk => (hown.lt k hk).1)
set_option maxRecDepth 100000 in
set_option maxHeartbeats 8000000 in
theorem of_any (A1 : Option Addr) (c1 : Nat) (d1 : Array (Int × Int)) (A2 : Option Addr) (c2 : Nat) (d2 : Array (Int × Int)) (w : World) (h1 : RdK encR 2 w.heap.size w A1 d1) (h2 : RdK encR 2 w.heap.size w A2 d2) (n1 : A1 = none → c1 = 0) (n2 : A2 = none → c2 = 0) (hd : d1.size + d2.size ≤ 100000) :
    Calls Try.prog 62 #[.slice A1 d1.size c1, .slice A2 d2.size c2] w fun e w' => ∃ v, e = .returned v ∧ w'.ownsRow w.heap.size 42 2 v (ofE d1 d2).size (flatK encR 2 (ofE d1 d2)).toList ∧ Below w.heap.size w w' := by
  obtain ⟨i0, hi0, hz0, hz1, hz2⟩ := info_parts range_info
  have HE0 := Lib.hid (empty_ownsK w 42 encR 2)
  have HN1 := Lib.hid n1
  have HN2 := Lib.hid n2
  clear n1 n2
  go_enter Try.func62, Try.ntmps62
  go_wp2_with (first
    | (at_builtin; refine append_rdK encR_one encR_len (by decide) rfl _ _ 33 rfl w.heap.size 42 i0 (.agg #[.int .i64 0, .int .i64 0]) 16 Try.underlying33 hi0 hz0 hz1 hz2 rfl _ #[] rfl HE0.out w.heap.size A1 c1 d1 rfl (h1.alloc (Nat.le_refl _) _) HN1.out (by simp; omega) (by decide) (by simp) ?_; intro v1 w1 hown1 hg1 _; have hB1 : Below w.heap.size w w1 := (bel1 w _).grown hg1 (by simp) (fun k hk => (HE0.out.lt k hk).1))
    | (at_builtin; refine append_rdK encR_one encR_len (by decide) rfl _ _ 33 rfl w.heap.size 42 i0 (.agg #[.int .i64 0, .int .i64 0]) 16 Try.underlying33 hi0 hz0 hz1 hz2 rfl v1 (#[] ++ d1) rfl hown1 w.heap.size A2 c2 d2 rfl (h2.below hB1) HN2.out (by simp; omega) (by decide) hB1.size ?_; intro v2 w2 hown2 hg2 _; have hB2 : Below w.heap.size w w2 := hB1.grown hg2 hB1.size (fun k hk => (hown1.lt k hk).1); obtain ⟨A3, c3, rfl, hr3, _⟩ := rdK_of_owns hown2))
  have e12 : #[] ++ d1 ++ d2 = d1 ++ d2 := by simp
  rw [e12] at hr3
  have HH := edges_any A3 c3 (d1 ++ d2) w2 hr3 (by simp; omega)
  rw [show Value.slice A3 (d1 ++ d2).size c3 = Value.slice A3 (d1.size + d2.size) c3 by rw [Array.size_append]] at HH
  refine HH.mono ?_
  clear HH e12
  rintro e w3 ⟨ve, rfl, hrow, hb3⟩
  obtain ⟨be, oe, ce, rfl, hbe, hce⟩ := rowE hrow
  have hB3 : Below w.heap.size w w3 := belStep hB2 hb3
  have HB3 := Lib.hid hB3
  have HO := Lib.hid (fun i hi => (ofN_ok d1 d2 i hi).1)
  have HBD := Lib.hid (edgesE_bd (d1 ++ d2))
  have HR : Hid (ofE d1 d2 = ofN d1 d2 (edgesE (d1 ++ d2)) (edgesE (d1 ++ d2)).size) := rfl
  have hse := edgesE_size (d1 ++ d2)
  rw [Array.size_append] at hse
  clear hrow hown1 hown2 hg1 hg2 hb3 hB1 hB2 hr3 HE0
  generalize edgesE (d1 ++ d2) = ea at hce HO HBD HR hse ⊢
  have HCE := Lib.hid hce
  clear hce hB3
  go_wp2
  go_loopw [6, 7] (fun v i wr => ∃ k : Nat, k ≤ ea.size ∧ i = .int .i64 k ∧ wr.ownsRow w3.heap.size 42 2 v (ofN d1 d2 ea k).size (flatK encR 2 (ofN d1 d2 ea k)).toList ∧ Below w3.heap.size w3 wr) (fun _ i _ => ea.size - (intOf i).toNat)
  case atStart => exact ⟨0, Nat.zero_le _, rfl, nil_ownsK _ _ _ _ _, Below.refl _ _⟩
  case round =>
    obtain ⟨k, hk, rfl, hown, hb⟩ := hrel
    have hzb := hb.size
    by_cases hlt : k < ea.size
    · have ck : wr.cell? ⟨be, oe + k, none⟩ = some (.int .i64 ea[k]!) := (hb.cell (p := ⟨be, oe + k, none⟩) hbe).trans (HCE.out k hlt)
      have hE := HBD.out k hlt
      have hE1 := hE.1
      have hE2 := hE.2
      clear hE
      have HS := Lib.hid (ofN_succ d1 d2 ea k)
      have hsz := ofN_size d1 d2 ea k
      have HNL := Lib.hid (HO.out k hk)
      have r1 : RdK encR 2 w.heap.size wr A1 d1 := h1.below (HB3.out.trans (hb.mono HB3.out.size))
      have r2 : RdK encR 2 w.heap.size wr A2 d2 := h2.below (HB3.out.trans (hb.mono HB3.out.size))
      have kz : (k : Int) < (ea.size : Int) := by omega
      generalize ea[k]! = E at ck hE1 hE2 HS
      cases hca : inR d1 E
      · have HE : Hid (ofN d1 d2 ea (k + 1) = ofN d1 d2 ea k) := by show _ = _; rw [HS.out, if_pos (Or.inl hca)]
        go_wp2_with (go_at_call 58; (with_reducible refine (rin_any A1 c1 d1 E w.heap.size wr r1 (by omega)).mono ?_); rintro e w' ⟨rfl, rfl⟩)
        exact ⟨⟨k + 1, by omega, by go_num, by rw [HE.out]; exact hown, hb⟩, by simp [intOf]; omega⟩
      · cases hcb : inR d2 E
        · have HS2 : Hid (ofN d1 d2 ea (k + 1) = if 0 < (ofN d1 d2 ea k).size ∧ (ofN d1 d2 ea k)[(ofN d1 d2 ea k).size - 1]!.2 + 1 = E then (ofN d1 d2 ea k).set! ((ofN d1 d2 ea k).size - 1) ((ofN d1 d2 ea k)[(ofN d1 d2 ea k).size - 1]!.1, bndN ea (k + 1) - 1) else (ofN d1 d2 ea k).push (E, bndN ea (k + 1) - 1)) := by
            show _ = _; rw [HS.out, if_neg (by rw [hca, hcb]; simp)]
          clear HS
          generalize ofN d1 d2 ea k = out at hown HS2 hsz HNL
          by_cases hnx : k + 1 < ea.size
          · have cn : wr.cell? ⟨be, oe + (k + 1), none⟩ = some (.int .i64 ea[k + 1]!) := (hb.cell (p := ⟨be, oe + (k + 1), none⟩) hbe).trans (HCE.out (k + 1) hnx)
            have hN1 := (HBD.out (k + 1) hnx).1
            have hN2 := (HBD.out (k + 1) hnx).2
            have HHI := Lib.hid (bnd_in hnx)
            generalize ea[k + 1]! = N at cn hN1 hN2 HHI
            have kz1 : (k : Int) + 1 < (ea.size : Int) := by omega
            rw [HHI.out] at HS2
            rcases Nat.eq_zero_or_pos out.size with h0 | h0
            · obtain rfl : out = #[] := Array.eq_empty_of_size_eq_zero h0
              have HE : Hid (ofN d1 d2 ea (k + 1) = #[(E, (N - 1))]) := HS2.out.trans (if_neg (by simp))
              obtain ⟨A, c, rfl, _, _⟩ := rdK_of_owns hown
              clear HS2 h0
              go_wp2_with (go_at_call 58; first
                | ((with_reducible refine (rin_any A1 c1 d1 E w.heap.size wr r1 (by omega)).mono ?_); rintro e w' ⟨rfl, rfl⟩)
                | ((with_reducible refine (rin_any A2 c2 d2 E w.heap.size wr r2 (by omega)).mono ?_); rintro e w' ⟨rfl, rfl⟩))
              go_quiet (fail)
              have row' : (wr.drewN nq).ownsRow w3.heap.size 42 2 (.slice A 0 c) 0 [] := by have := hown; rw [flatK_nil] at this; exact this
              go_wp2_with (at_builtin; refine wpList_append_own _ rfl _ _ 33 rfl w3.heap.size 42 i0 (.agg #[.int .i64 0, .int .i64 0]) 2 16 Try.underlying33 hi0 hz0 hz1 hz2 rfl (by decide) _ _ _ rfl (row'.alloc _) ⟨wr.heap.size, 0, none⟩ 1 1 [.int .i64 E, .int .i64 (N - 1)] rfl rfl (two_new (wr.drewN nq) _ _ _) (by simp [Value.oneCell']) (by unfold maxLen; omega) (by omega) (by simp; omega) ?_; intro v' w2 hown' hgrow _)
              exact ⟨⟨k + 1, by omega, by go_num, (by rw [HE.out]; show w2.ownsRow _ _ _ _ ((#[] : Array (Int × Int)).push (E, (N - 1))).size (flatK encR 2 (#[].push (E, (N - 1)))).toList; rw [Array.size_push, flatK_push encR_len, flatK_nil]; exact hown'), own_app1 (belDrewN hb nq) hzb row' hgrow⟩, by simp [intOf]; omega⟩
            · obtain ⟨g0, cap, rfl, hgb, hgl, hH⟩ := holds_of_owns hown (by
                rintro rfl
                obtain ⟨_, ⟨_, h'⟩ | ⟨_, _, _, e, _⟩⟩ := hown
                · omega
                · cases e)
              have hlo := HNL.out.at_ (k := out.size - 1) (by omega)
              have hc5 := (hH ((out.size - 1) * 2 + 1) (by rw [size_flatK]; omega)).1
              rw [Nat.zero_add, flat_at _ _ _ _ _ (by omega) (by decide)] at hc5
              have HP : Hid (¬ (out[out.size - 1]!.2 + 1 = E) → ofN d1 d2 ea (k + 1) = out.push (E, (N - 1))) := fun h => HS2.out.trans (if_neg (fun h' => h h'.2))
              have HJ : Hid (out[out.size - 1]!.2 + 1 = E → ofN d1 d2 ea (k + 1) = out.set! (out.size - 1) (out[out.size - 1]!.1, (N - 1))) := fun h => HS2.out.trans (if_pos ⟨h0, h⟩)
              have HF : Hid ((flatK encR 2 (out.set! (out.size - 1) (out[out.size - 1]!.1, (N - 1)))).toList = (flatK encR 2 out).toList.set ((out.size - 1) * 2 + 1) (.int .i64 (N - 1))) := flatK_setHi out (out.size - 1) (by omega) _
              have hf5 := hown.frozenAt ((out.size - 1) * 2 + 1)
              have hy1 := hlo.1
              have hy2 := hlo.2.1
              have hy3 := hlo.2.2
              clear hH hlo HS2
              generalize out[out.size - 1]! = y at hy1 hy2 hy3 hc5 HP HJ HF
              simp only [encR, List.getElem!_cons_zero, List.getElem!_cons_succ] at hc5
              have p0 : (0 : Int) ≤ (out.size : Int) - 1 := by omega
              have p1 : (out.size : Int) - 1 < (out.size : Int) := by omega
              have p2 : (1 : Int) ≤ (out.size : Int) := by omega
              have hix : ((out.size : Int) - 1).toNat = out.size - 1 := by omega
              have hwp : IntKind.i64.wrap ((out.size : Int) - 1) = (out.size : Int) - 1 := by rw [IntKind.wrap_i64]; omega
              have hwy : IntKind.i64.wrap (y.2 + 1) = y.2 + 1 := by rw [IntKind.wrap_i64]; omega
              by_cases hj : y.2 + 1 = E
              · have hjb : (y.2 + 1 == E) = true := by simp [hj]
                have HE := Lib.hid (HJ.out hj)
                clear hj
                go_wp2_with (go_at_call 58; first
                | ((with_reducible refine (rin_any A1 c1 d1 E w.heap.size wr r1 (by omega)).mono ?_); rintro e w' ⟨rfl, rfl⟩)
                | ((with_reducible refine (rin_any A2 c2 d2 E w.heap.size wr r2 (by omega)).mono ?_); rintro e w' ⟨rfl, rfl⟩))
                go_quiet (fail)
                go_wp2
                obtain ⟨hs1, hs2⟩ := World.ownsRow.stored (w := wr.drewN nq) (by exact hown) ((out.size - 1) * 2 + 1) (.int .i64 (N - 1))
                exact ⟨⟨k + 1, by omega, by go_num, (by rw [HE.out, HF.out]; simpa using hs1), (belDrewN hb nq).setCell (p := ⟨g0, _, none⟩) hgb _⟩, by simp [intOf]; omega⟩
              · have hjb : (y.2 + 1 == E) = false := by simp [hj]
                have HE := Lib.hid (HP.out hj)
                clear hj
                go_wp2_with (go_at_call 58; first
                | ((with_reducible refine (rin_any A1 c1 d1 E w.heap.size wr r1 (by omega)).mono ?_); rintro e w' ⟨rfl, rfl⟩)
                | ((with_reducible refine (rin_any A2 c2 d2 E w.heap.size wr r2 (by omega)).mono ?_); rintro e w' ⟨rfl, rfl⟩))
                go_quiet (fail)
                have row' : (wr.drewN nq).ownsRow w3.heap.size 42 2 (.slice (some ⟨g0, 0, none⟩) out.size cap) out.size (flatK encR 2 out).toList := hown
                go_wp2_with (at_builtin; refine wpList_append_own _ rfl _ _ 33 rfl w3.heap.size 42 i0 (.agg #[.int .i64 0, .int .i64 0]) 2 16 Try.underlying33 hi0 hz0 hz1 hz2 rfl (by decide) _ _ _ rfl (row'.alloc _) ⟨wr.heap.size, 0, none⟩ 1 1 [.int .i64 E, .int .i64 (N - 1)] rfl rfl (two_new (wr.drewN nq) _ _ _) (by simp [Value.oneCell']) (by unfold maxLen; omega) (by omega) (by simp; omega) ?_; intro v' w2 hown' hgrow _)
                exact ⟨⟨k + 1, by omega, by go_num, (by rw [HE.out, Array.size_push, flatK_push encR_len]; exact hown'), own_app1 (belDrewN hb nq) hzb row' hgrow⟩, by simp [intOf]; omega⟩
          · have HHI := Lib.hid (bnd_out hnx)
            have kz1 : decide ((k : Int) + 1 < (ea.size : Int)) = false := by simp; omega
            rw [HHI.out] at HS2
            rcases Nat.eq_zero_or_pos out.size with h0 | h0
            · obtain rfl : out = #[] := Array.eq_empty_of_size_eq_zero h0
              have HE : Hid (ofN d1 d2 ea (k + 1) = #[(E, 1000000)]) := HS2.out.trans (if_neg (by simp))
              obtain ⟨A, c, rfl, _, _⟩ := rdK_of_owns hown
              clear HS2 h0
              go_wp2_with (go_at_call 58; first
                | ((with_reducible refine (rin_any A1 c1 d1 E w.heap.size wr r1 (by omega)).mono ?_); rintro e w' ⟨rfl, rfl⟩)
                | ((with_reducible refine (rin_any A2 c2 d2 E w.heap.size wr r2 (by omega)).mono ?_); rintro e w' ⟨rfl, rfl⟩))
              go_quiet (fail)
              have row' : (wr.drewN nq).ownsRow w3.heap.size 42 2 (.slice A 0 c) 0 [] := by have := hown; rw [flatK_nil] at this; exact this
              go_wp2_with (at_builtin; refine wpList_append_own _ rfl _ _ 33 rfl w3.heap.size 42 i0 (.agg #[.int .i64 0, .int .i64 0]) 2 16 Try.underlying33 hi0 hz0 hz1 hz2 rfl (by decide) _ _ _ rfl (row'.alloc _) ⟨wr.heap.size, 0, none⟩ 1 1 [.int .i64 E, .int .i64 1000000] rfl rfl (two_new (wr.drewN nq) _ _ _) (by simp [Value.oneCell']) (by unfold maxLen; omega) (by omega) (by simp; omega) ?_; intro v' w2 hown' hgrow _)
              exact ⟨⟨k + 1, by omega, by go_num, (by rw [HE.out]; show w2.ownsRow _ _ _ _ ((#[] : Array (Int × Int)).push (E, 1000000)).size (flatK encR 2 (#[].push (E, 1000000))).toList; rw [Array.size_push, flatK_push encR_len, flatK_nil]; exact hown'), own_app1 (belDrewN hb nq) hzb row' hgrow⟩, by simp [intOf]; omega⟩
            · obtain ⟨g0, cap, rfl, hgb, hgl, hH⟩ := holds_of_owns hown (by
                rintro rfl
                obtain ⟨_, ⟨_, h'⟩ | ⟨_, _, _, e, _⟩⟩ := hown
                · omega
                · cases e)
              have hlo := HNL.out.at_ (k := out.size - 1) (by omega)
              have hc5 := (hH ((out.size - 1) * 2 + 1) (by rw [size_flatK]; omega)).1
              rw [Nat.zero_add, flat_at _ _ _ _ _ (by omega) (by decide)] at hc5
              have HP : Hid (¬ (out[out.size - 1]!.2 + 1 = E) → ofN d1 d2 ea (k + 1) = out.push (E, 1000000)) := fun h => HS2.out.trans (if_neg (fun h' => h h'.2))
              have HJ : Hid (out[out.size - 1]!.2 + 1 = E → ofN d1 d2 ea (k + 1) = out.set! (out.size - 1) (out[out.size - 1]!.1, 1000000)) := fun h => HS2.out.trans (if_pos ⟨h0, h⟩)
              have HF : Hid ((flatK encR 2 (out.set! (out.size - 1) (out[out.size - 1]!.1, 1000000))).toList = (flatK encR 2 out).toList.set ((out.size - 1) * 2 + 1) (.int .i64 1000000)) := flatK_setHi out (out.size - 1) (by omega) _
              have hf5 := hown.frozenAt ((out.size - 1) * 2 + 1)
              have hy1 := hlo.1
              have hy2 := hlo.2.1
              have hy3 := hlo.2.2
              clear hH hlo HS2
              generalize out[out.size - 1]! = y at hy1 hy2 hy3 hc5 HP HJ HF
              simp only [encR, List.getElem!_cons_zero, List.getElem!_cons_succ] at hc5
              have p0 : (0 : Int) ≤ (out.size : Int) - 1 := by omega
              have p1 : (out.size : Int) - 1 < (out.size : Int) := by omega
              have p2 : (1 : Int) ≤ (out.size : Int) := by omega
              have hix : ((out.size : Int) - 1).toNat = out.size - 1 := by omega
              have hwp : IntKind.i64.wrap ((out.size : Int) - 1) = (out.size : Int) - 1 := by rw [IntKind.wrap_i64]; omega
              have hwy : IntKind.i64.wrap (y.2 + 1) = y.2 + 1 := by rw [IntKind.wrap_i64]; omega
              by_cases hj : y.2 + 1 = E
              · have hjb : (y.2 + 1 == E) = true := by simp [hj]
                have HE := Lib.hid (HJ.out hj)
                clear hj
                go_wp2_with (go_at_call 58; first
                | ((with_reducible refine (rin_any A1 c1 d1 E w.heap.size wr r1 (by omega)).mono ?_); rintro e w' ⟨rfl, rfl⟩)
                | ((with_reducible refine (rin_any A2 c2 d2 E w.heap.size wr r2 (by omega)).mono ?_); rintro e w' ⟨rfl, rfl⟩))
                go_quiet (fail)
                go_wp2
                obtain ⟨hs1, hs2⟩ := World.ownsRow.stored (w := wr.drewN nq) (by exact hown) ((out.size - 1) * 2 + 1) (.int .i64 1000000)
                exact ⟨⟨k + 1, by omega, by go_num, (by rw [HE.out, HF.out]; simpa using hs1), (belDrewN hb nq).setCell (p := ⟨g0, _, none⟩) hgb _⟩, by simp [intOf]; omega⟩
              · have hjb : (y.2 + 1 == E) = false := by simp [hj]
                have HE := Lib.hid (HP.out hj)
                clear hj
                go_wp2_with (go_at_call 58; first
                | ((with_reducible refine (rin_any A1 c1 d1 E w.heap.size wr r1 (by omega)).mono ?_); rintro e w' ⟨rfl, rfl⟩)
                | ((with_reducible refine (rin_any A2 c2 d2 E w.heap.size wr r2 (by omega)).mono ?_); rintro e w' ⟨rfl, rfl⟩))
                go_quiet (fail)
                have row' : (wr.drewN nq).ownsRow w3.heap.size 42 2 (.slice (some ⟨g0, 0, none⟩) out.size cap) out.size (flatK encR 2 out).toList := hown
                go_wp2_with (at_builtin; refine wpList_append_own _ rfl _ _ 33 rfl w3.heap.size 42 i0 (.agg #[.int .i64 0, .int .i64 0]) 2 16 Try.underlying33 hi0 hz0 hz1 hz2 rfl (by decide) _ _ _ rfl (row'.alloc _) ⟨wr.heap.size, 0, none⟩ 1 1 [.int .i64 E, .int .i64 1000000] rfl rfl (two_new (wr.drewN nq) _ _ _) (by simp [Value.oneCell']) (by unfold maxLen; omega) (by omega) (by simp; omega) ?_; intro v' w2 hown' hgrow _)
                exact ⟨⟨k + 1, by omega, by go_num, (by rw [HE.out, Array.size_push, flatK_push encR_len]; exact hown'), own_app1 (belDrewN hb nq) hzb row' hgrow⟩, by simp [intOf]; omega⟩
        · have HE : Hid (ofN d1 d2 ea (k + 1) = ofN d1 d2 ea k) := by show _ = _; rw [HS.out, if_pos (Or.inr hcb)]
          go_wp2_with (go_at_call 58; first
            | ((with_reducible refine (rin_any A1 c1 d1 E w.heap.size wr r1 (by omega)).mono ?_); rintro e w' ⟨rfl, rfl⟩)
            | ((with_reducible refine (rin_any A2 c2 d2 E w.heap.size wr r2 (by omega)).mono ?_); rintro e w' ⟨rfl, rfl⟩))
          exact ⟨⟨k + 1, by omega, by go_num, by rw [HE.out]; exact hown, hb⟩, by simp [intOf]; omega⟩
    · obtain rfl : k = ea.size := by omega
      go_wp2
      go_ret
      exact ⟨_, rfl, by rw [HR.out]; exact own_mono hown HB3.out.size, HB3.out.trans (hb.mono HB3.out.size)⟩
end Go.Proofs.Ytpnjodefnpphkaa
