/- The document's Put of records (rubatoref11). -/
import Derived.Test.YtlpplnmmcgdooaaGreatDoorRecA
import Derived.Test.YtlpplnmmcgdooaaGreatDoorDocV
import Derived.Test.YtlpplnmmcgdooaaGreatDoorDocF
import Derived.Test.YtlpplnmmcgdooaaGreatDoorDocT
import Derived.Deep.CutRange
import Derived.Deep.CutBlock
namespace Go.Proofs.YtlpplnmmcgdooaaGreatDoor
open Go.RowKit Go.Sort Nb

attribute [local go_sem ↓] Go.wp_at_zero Go.wp_at_succ
set_option maxRecDepth 100000 in
theorem of_any (r : PR) (w : World) : Calls Tryz.prog 26 #[recV r] w fun e w' => e = .returned (recV r) ∧ Below w.heap.size w w' := by
  unfold recV
  go_enter Tryz.func26, Tryz.ntmps26
  go_wp2
  exact bodyPost_ret (v := .agg #[.int .i64 r.ep, .int .i64 r.sq, .bool r.sn, .int .i64 r.k, .string r.dt, .string r.st]) (by simp [results, Tryz.results26, go_sem]) rfl ⟨rfl, belAlloc (bel1 w _) _⟩
set_option maxRecDepth 100000 in
theorem rRecPutBad_any (r : PR) (w : World) (hd : r.dt.size ≤ 1000000) (h0 : recC r ≠ 0) :
    Calls Tryz.prog 25 #[recV r] w fun e w' => e = .returned (.tuple #[.string ⟨#[]⟩, .int .i64 2]) ∧ Below w.heap.size w w' := by
  have HC := Lib.hid (fun W => rRecChk_any r W hd)
  have h2 := (recC_2 r).resolve_left h0
  rw [h2] at HC
  unfold recV at HC ⊢
  clear hd h0 h2
  go_enter Tryz.func25, Tryz.ntmps25
  go_wp2_with (go_at_call 28; refine (HC.out _).mono ?_; rintro e w1 ⟨rfl, hb1⟩; have HB1 := Lib.hid (belStep (bel1 w _) hb1); clear hb1)
  go_ret2
  exact ⟨rfl, HB1.out⟩
/-- What was laid so far, in a variable. -/
def PutQ (w1 : World) (y : ByteArray) (v : Value) (wx : World) : Prop := ∃ g, v = .pointer (some ⟨g, 0, none⟩) ∧ wx.cell? ⟨g, 0, none⟩ = some (.string y) ∧ wx.cell? ⟨g, 1, none⟩ = some (.string ⟨#[]⟩) ∧ wx.cell? ⟨g, 2, none⟩ = some (.int .i64 0) ∧ (wx.frozen? ⟨g, 0, none⟩ = false ∧ wx.frozen? ⟨g, 1, none⟩ = false ∧ wx.frozen? ⟨g, 2, none⟩ = false) ∧ w1.heap.size ≤ g ∧ g < wx.heap.size ∧ Below w1.heap.size w1 wx
set_option maxRecDepth 100000 in
set_option maxHeartbeats 8000000 in
theorem rRecPutOk_any (r : PR) (w : World) (hd : r.dt.size ≤ 1000000) (h0 : recC r = 0) :
    Calls Tryz.prog 25 #[recV r] w fun e w' => e = .returned (.tuple #[.string ⟨(recB r).toArray⟩, .int .i64 0]) ∧ Below w.heap.size w w' := by
  have HC := Lib.hid (fun W => rRecChk_any r W hd)
  rw [h0] at HC
  obtain ⟨h1, h2, h3, h4, hT, hF⟩ := recC_ok h0
  have HMB : Hid (recB r = numB r.ep.toNat ++ numB r.sq.toNat ++ flagB r.sn ++ (if r.sn then textB r.st.data.toList else numB r.k.toNat ++ textB r.dt.data.toList)) := rfl
  generalize recB r = bs at HMB ⊢
  unfold recV at HC ⊢
  obtain ⟨ep, sq, sn, k, dt, st⟩ := r
  dsimp only at HC HMB h1 h2 h3 h4 hT hF hd ⊢
  have l2 : ((nats #[ep, sq]).flatMap numB).length ≤ 18 := by have := flat_len _ (layN2 ⟨by omega, h2⟩ ⟨h3, h4⟩ : LayN #[ep, sq]).nats; rw [nats_len] at this; exact this
  have HN2 : Hid (∀ (W : World) (g : Nat), W.heap[g]? = some (.cells #[.int .i64 ep, .int .i64 sq] 3 (0, 0)) → Calls Tryz.prog 42 #[.agg #[.string ⟨#[]⟩, .string ⟨#[]⟩, .int .i64 0], .slice (some ⟨g, 0, none⟩) 2 2] W fun e w' => e = .returned (outV (⟨#[]⟩ ++ ⟨((nats #[ep, sq]).flatMap numB).toArray⟩)) ∧ Below W.heap.size W w') := fun W g h => Nums_any ⟨#[]⟩ (some ⟨g, 0, none⟩) 2 #[ep, sq] W (rdI_blk (by rw [h]; simp [encI])) (layN2 ⟨by omega, h2⟩ ⟨h3, h4⟩) (by show 2 ≤ 10000; omega) (by decide)
  have e2 : (nats #[ep, sq]).flatMap numB = numB ep.toNat ++ numB sq.toNat := by simp [nats]
  have HE2 : Hid ((⟨((nats #[ep, sq]).flatMap numB).toArray⟩ : ByteArray) = ⟨(numB ep.toNat ++ numB sq.toNat).toArray⟩) := by show _ = _; rw [e2]
  have b2 : (⟨((nats #[ep, sq]).flatMap numB).toArray⟩ : ByteArray).size ≤ 18 := by rw [str_size]; exact l2
  generalize (⟨((nats #[ep, sq]).flatMap numB).toArray⟩ : ByteArray) = y2 at HN2 HE2 b2
  have hc2 : (⟨#[]⟩ : ByteArray) ++ y2 = y2 := by apply ByteArray.ext; simp
  rw [hc2] at HN2
  have HFL := Lib.hid (fun (W : World) => LayFlag_any y2 sn W (by omega))
  unfold outV at HN2 HFL
  clear h0 h1 h2 h3 h4 e2 l2 hc2
  have hnb := hd
  clear hd
  go_enter Tryz.func25, Tryz.ntmps25
  go_wp2_with fail
  refine (HC.out _).mono ?_
  rintro e w1 ⟨rfl, hb1⟩
  have hlt : w.heap.size < w1.heap.size := lt_of_heap (heap_box hb1)
  have KB := Lib.hid (heap_box hb1)
  have HB1 := Lib.hid (belStep (bel1 w _) hb1)
  clear hb1 HC
  go_upto_region 3 with (fail)
  go_cut [4] from 8 to 17 (fun v wx => PutQ w1 (y2 ++ ⟨(flagB sn).toArray⟩) v wx)
  case first =>
    have KS : Hid (∀ W, Below w1.heap.size w1 W → Below w1.heap.size w1 W ∧ W.cell? ⟨w.heap.size, 0, none⟩ = some (.int .i64 ep) ∧ W.cell? ⟨w.heap.size, 1, none⟩ = some (.int .i64 sq) ∧ W.cell? ⟨w.heap.size, 2, none⟩ = some (.bool sn)) := fun W hb => by
      obtain ⟨⟨c0, c1, c2, -, -, -⟩, -⟩ := cells6 ((hb.block _ hlt).trans KB.out)
      exact ⟨hb, c0, c1, c2⟩
    have hb0 : Below w1.heap.size w1 w1 := Below.refl _ _
    have kk0 : w1.heap.size < w1.heap.size + 1 + 1 := by omega
    go_wp2_with fail
    go_region_held3 (fun W => Below w1.heap.size w1 W ∧ W.cell? ⟨w.heap.size, 0, none⟩ = some (.int .i64 ep) ∧ W.cell? ⟨w.heap.size, 1, none⟩ = some (.int .i64 sq) ∧ W.cell? ⟨w.heap.size, 2, none⟩ = some (.bool sn)) (first | assumption | exact KS.out _ (by first | assumption | exact Below.drew (by assumption) | exact belAlloc (by assumption) _ | exact (belAlloc (by assumption) _).drew | exact (belAlloc (belAlloc (by assumption) _) _).drew | exact belAlloc (belAlloc (by assumption) _) _ | exact bel3 (by assumption) (by first | omega | (simp; done) | (simp; omega)) _ _ _))
      (first
        | (go_at_call 42; ((with_reducible refine (HN2.out _ _ (by first | exact hA1 w1 _ | exact hA2 w1 _ _ | exact hA3 w1 _ _)).mono ?_); rintro e w2 ⟨rfl, hb2⟩; have hbA : Below w1.heap.size w1 w2 := belStep (by first | exact (belAlloc hb0 _).drew | exact (belAlloc (belAlloc hb0 _) _).drew) hb2; obtain ⟨hc2, hf2⟩ := bcell hb2; have hz2 := hb2.size; simp only [World.size_drew, World.size_alloc] at hz2; have k21 : w1.heap.size < w2.heap.size := (by omega); (try have k22 : w1.heap.size + 1 < w2.heap.size := (by omega)); clear hb2))
        | (go_at_call 68; ((with_reducible refine (HFL.out _).mono ?_); rintro e w3 ⟨rfl, hb3⟩; have hbB : Below w1.heap.size w1 w3 := belStep (by first | exact hbA | exact belAlloc hbA _) hb3; obtain ⟨hc3, hf3⟩ := bcell hb3; have hz3 := hb3.size; (try simp only [World.size_alloc] at hz3); have k31 : w1.heap.size < w3.heap.size := (by omega); (try have k32 : w1.heap.size + 1 < w3.heap.size := (by omega)); (try have k33 : w2.heap.size < w3.heap.size := (by omega)); clear hb3)))
    all_goals
      go_wp2
      go_meet
      refine ⟨_, rfl, ?_, ?_, ?_, ⟨?_, ?_, ?_⟩, ?_, ?_, ?_⟩
      all_goals first
        | (go_simp; done)
        | omega
        | (simp; done)
        | (simp; omega)
        | exact belAlloc hbB _
        | exact bel3 hbB (by omega) _ _ _
  have hfl : (flagB sn).length = 1 := by cases sn <;> rfl
  obtain ⟨g, rfl, o0, o1, o2, ⟨g0, g1, g2⟩, hg1, hg2, hbx⟩ := hcut
  have B4 := Lib.hid hbx
  have KB4 : Hid (∀ W, Below wc.heap.size wc W → W.heap[w.heap.size]? = some (.cells #[.int .i64 ep, .int .i64 sq, .bool sn, .int .i64 k, .string dt, .string st] 53 (0, 0))) := fun W hb => (hb.block _ (Nat.lt_of_lt_of_le hlt hbx.size)).trans ((hbx.block _ hlt).trans KB.out)
  clear hbx KB
  obtain ⟨⟨-, -, c2, c3, c4, c5⟩, -⟩ := cells6 (KB4.out wc (Below.refl _ _))
  have hs1 : (⟨(flagB sn).toArray⟩ : ByteArray).size = 1 := by rw [str_size]; exact hfl
  have b3 : (y2 ++ ⟨(flagB sn).toArray⟩ : ByteArray).size ≤ 19 := by rw [ByteArray.size_append, hs1]; omega
  have HY3 : Hid ((y2 ++ ⟨(flagB sn).toArray⟩ : ByteArray) = ⟨(numB ep.toNat ++ numB sq.toNat ++ flagB sn).toArray⟩) := by
    show _ = _
    rw [HE2.out]
    apply ByteArray.ext
    simp
  generalize (y2 ++ ⟨(flagB sn).toArray⟩ : ByteArray) = y3 at o0 b3 HY3
  clear HE2 b2 HN2 HFL hfl hs1
  have zw : w.heap.size < wc.heap.size := by omega
  cases sn
  · obtain ⟨k1, k3, hdl, -⟩ := hF rfl
    have HN1 : Hid (∀ (W : World) (g : Nat), W.heap[g]? = some (.cells #[.int .i64 k] 3 (0, 0)) → Calls Tryz.prog 42 #[.agg #[.string y3, .string ⟨#[]⟩, .int .i64 0], .slice (some ⟨g, 0, none⟩) 1 1] W fun e w' => e = .returned (outV (y3 ++ ⟨((nats #[k]).flatMap numB).toArray⟩)) ∧ Below W.heap.size W w') := fun W g h => Nums_any y3 (some ⟨g, 0, none⟩) 1 #[k] W (rdI_blk (by rw [h]; simp [encI])) (layN1 ⟨by omega, by omega⟩) (by show 1 ≤ 10000; omega) (by omega)
    have l1 : ((nats #[k]).flatMap numB).length ≤ 9 := by have := flat_len _ (layN1 ⟨by omega, by omega⟩ : LayN #[k]).nats; rw [nats_len] at this; exact this
    have e1 : (nats #[k]).flatMap numB = numB k.toNat := by simp [nats]
    have bk : (⟨((nats #[k]).flatMap numB).toArray⟩ : ByteArray).size ≤ 9 := by rw [str_size]; exact l1
    have HYK : Hid ((⟨((nats #[k]).flatMap numB).toArray⟩ : ByteArray) = ⟨(numB k.toNat).toArray⟩) := by show _ = _; rw [e1]
    generalize (⟨((nats #[k]).flatMap numB).toArray⟩ : ByteArray) = yk at HN1 bk HYK
    have HTX := Lib.hid (fun (W : World) => LayText_any (y3 ++ yk) dt W (by rw [ByteArray.size_append]; omega))
    unfold outV at HTX HN1
    generalize hyt : (⟨(textB dt.data.toList).toArray⟩ : ByteArray) = yt at HTX
    have HYT := Lib.hid hyt
    clear hT hF hyt e1 l1
    have KS : Hid (∀ W, Below wc.heap.size wc W → W.cell? ⟨g, 0, none⟩ = some (.string y3) ∧ W.cell? ⟨g, 1, none⟩ = some (.string ⟨#[]⟩) ∧ W.cell? ⟨g, 2, none⟩ = some (.int .i64 0) ∧ W.cell? ⟨w.heap.size, 3, none⟩ = some (.int .i64 k) ∧ W.cell? ⟨w.heap.size, 4, none⟩ = some (.string dt)) := fun W hb => by
      obtain ⟨⟨-, -, -, d3, d4, -⟩, -⟩ := cells6 (KB4.out W hb)
      exact ⟨(hb.cell (p := ⟨g, 0, none⟩) hg2).trans o0, (hb.cell (p := ⟨g, 1, none⟩) hg2).trans o1, (hb.cell (p := ⟨g, 2, none⟩) hg2).trans o2, d3, d4⟩
    have KF : Hid (∀ W, Below wc.heap.size wc W → W.frozen? ⟨g, 0, none⟩ = false ∧ W.frozen? ⟨g, 1, none⟩ = false ∧ W.frozen? ⟨g, 2, none⟩ = false ∧ g < W.heap.size) := fun W hb => ⟨(hb.frozen (p := ⟨g, 0, none⟩) hg2).trans g0, (hb.frozen (p := ⟨g, 1, none⟩) hg2).trans g1, (hb.frozen (p := ⟨g, 2, none⟩) hg2).trans g2, Nat.lt_of_lt_of_le hg2 hb.size⟩
    clear c3 c4 c5 o0 o1 o2 g0 g1 g2
    go_wp2_with fail
    refine wp_region_E (S := fun W => W.cell? ⟨g, 0, none⟩ = some (.string y3) ∧ W.cell? ⟨g, 1, none⟩ = some (.string ⟨#[]⟩) ∧ W.cell? ⟨g, 2, none⟩ = some (.int .i64 0) ∧ W.cell? ⟨w.heap.size, 3, none⟩ = some (.int .i64 k) ∧ W.cell? ⟨w.heap.size, 4, none⟩ = some (.string dt)) (by kernel_rfl) ?_
    have hS := KS.out wc.drew (Below.refl _ _).drew
    refine wpAnyE_take (i := 0) (v := ?_) rfl (by kernel_rfl) (by kernel_rfl) (by kernel_rfl) (fun _ _ _ h => h) (Or.inl ⟨by rfl, ?_⟩) hS ?_
    rotate_left
    · (intro W hW; (try dsimp only at hW); go_simp; with_reducible rfl)
    simp only [Act.put, List.setIfInBounds_toArray]
    refine wpAnyE_take (i := 1) (v := ?_) rfl (by kernel_rfl) (by kernel_rfl) (by kernel_rfl) (fun _ _ _ h => h) (Or.inl ⟨by rfl, ?_⟩) hS ?_
    rotate_left
    · (intro W hW; (try dsimp only at hW); go_simp; with_reducible rfl)
    simp only [Act.put]
    refine wpAnyE_take (i := 2) (v := ?_) rfl (by kernel_rfl) (by kernel_rfl) (by kernel_rfl) (fun _ _ _ h => h) (Or.inl ⟨by rfl, ?_⟩) hS ?_
    rotate_left
    · (intro W hW; (try dsimp only at hW); go_simp; with_reducible rfl)
    simp only [Act.put]
    refine wpAnyE_take (i := 3) (v := ?_) rfl (by kernel_rfl) (by kernel_rfl) (by kernel_rfl) (fun _ _ _ h => h) (Or.inl ⟨by rfl, ?_⟩) hS ?_
    rotate_left
    · (intro W hW; (try dsimp only at hW); go_simp; with_reducible rfl)
    simp only [Act.put]
    refine wpAnyE_take (i := 6) (v := ?_) rfl (by kernel_rfl) (by kernel_rfl) (by kernel_rfl) (fun _ _ _ h => h) (Or.inl ⟨by rfl, ?_⟩) hS ?_
    rotate_left
    · (intro W hW; (try dsimp only at hW); go_simp; with_reducible rfl)
    simp only [Act.put]
    refine wpAnyE_take (i := 7) (v := ?_) rfl (by kernel_rfl) (by kernel_rfl) (by kernel_rfl) (fun _ _ _ h => h) (Or.inl ⟨by rfl, ?_⟩) hS ?_
    rotate_left
    · (intro W hW; (try dsimp only at hW); go_simp; with_reducible rfl)
    simp only [Act.put]
    refine wpAnyE_take (i := 8) (v := ?_) rfl (by kernel_rfl) (by kernel_rfl) (by kernel_rfl) (fun _ _ _ h => h) (Or.inl ⟨by rfl, ?_⟩) hS ?_
    rotate_left
    · (intro W hW; (try dsimp only at hW); go_simp; with_reducible rfl)
    simp only [Act.put]
    refine wpAnyE_ready (rs := [4]) (by kernel_rfl) (by simp) (AllReadyE.cons rfl (fun K hK => ?_) AllReadyE.nil)
    go_simp
    refine hK.out _ _ (KS.out _ (belAlloc (Below.refl _ _).drew _)) (fun _ => ?_)
    clear hK K
    refine wpAnyE_ready (rs := [5]) (by kernel_rfl) (by simp) (AllReadyE.cons rfl (fun K hK => ?_) AllReadyE.nil)
    go_simp
    refine (HN1.out _ _ (hA1 wc _)).mono ?_
    rintro e w5 ⟨rfl, hb5⟩
    have B5 := Lib.hid (belStep (bel1 wc _).drew hb5)
    clear hb5
    refine hK.out _ _ (KS.out _ B5.out) (fun _ => ?_)
    clear hK K
    refine wpAnyE_ready (rs := [9]) (by kernel_rfl) (by simp) (AllReadyE.cons rfl (fun K hK => ?_) AllReadyE.nil)
    go_simp
    refine (HTX.out _).mono ?_
    rintro e w6 ⟨rfl, hb6⟩
    have B6 := Lib.hid (belStep B5.out hb6)
    clear hb6
    refine hK.out _ _ (KS.out _ B6.out) (fun _ => ?_)
    clear hK K
    obtain ⟨o0, o1, o2, -, -⟩ := KS.out w6 B6.out
    obtain ⟨g0, g1, g2, hz6⟩ := KF.out w6 B6.out
    refine wpAnyE_ready (rs := [10]) (by kernel_rfl) (by simp) (AllReadyE.last rfl (by kernel_rfl) (fun K hK => ?_))
    go_simp
    refine hK.out _ _ ?_
    clear hK K
    refine wpAnyE_done (by kernel_rfl) ?_ _
    go_wp2
    go_ret2
    refine ⟨?_, belStep HB1.out (bel3 (B4.out.trans (B6.out.mono B4.out.size)) hg1 _ _ _)⟩
    rw [HMB.out, ← HYT.out, HY3.out, HYK.out]
    simp
    apply ByteArray.ext
    simp
  · obtain ⟨-, -, hst⟩ := hT rfl
    have HTX := Lib.hid (fun (W : World) => LayText_any y3 st W (by omega))
    unfold outV at HTX
    have hbe : (⟨(textB st.data.toList).toArray⟩ : ByteArray) = ⟨(textB st.data.toList).toArray⟩ := rfl
    generalize hyt : (⟨(textB st.data.toList).toArray⟩ : ByteArray) = yt at HTX
    have HYT := Lib.hid hyt
    clear hT hF hbe hyt
    go_wp2_with fail
    refine (HTX.out _).mono ?_
    rintro e w5 ⟨rfl, hb5⟩
    obtain ⟨hc5, hf5⟩ := bcell hb5
    have hz5 : g < w5.heap.size := Nat.lt_of_lt_of_le hg2 hb5.size
    have B5 := Lib.hid (B4.out.trans (hb5.mono B4.out.size))
    have p0 := (hc5 g 0 hg2).trans o0
    have p1 := (hc5 g 1 hg2).trans o1
    have p2 := (hc5 g 2 hg2).trans o2
    have r0 := (hf5 g 0 hg2).trans g0
    have r1 := (hf5 g 1 hg2).trans g1
    have r2 := (hf5 g 2 hg2).trans g2
    clear hb5 hc5 hf5 o0 o1 o2 g0 g1 g2
    go_wp2
    go_ret2
    refine ⟨?_, belStep HB1.out (bel3 B5.out hg1 _ _ _)⟩
    rw [HMB.out, ← HYT.out, HY3.out]
    simp
    apply ByteArray.ext
    simp
end Go.Proofs.YtlpplnmmcgdooaaGreatDoor
