/- record.Put. -/
import Derived.Test.YtlpplnmmcgdooaaDoorRecB
import Derived.Test.YtlpplnmmcgdooaaDoorFlg
import Derived.Test.YtlpplnmmcgdooaaDoorMsgH
namespace Go.Proofs.YtlpplnmmcgdooaaDoor
open Go.RowKit Go.Sort Nb

/-- What record.Put tells of an unsound record. -/
def RPutBad (e : Ending) (w' : World) : Prop := ∃ v, e = .returned (.tuple #[.string ⟨#[]⟩, v]) ∧ ErrV w' [recordW] 2 v
set_option maxRecDepth 100000 in
set_option maxHeartbeats 1000000 in
theorem rcPutBad_any (r : PR) (w : World) (hg : Glob w) (hd : r.dt.size ≤ 1000000) (h0 : recC r ≠ 0) :
    Calls Tryd.prog 16 #[recV r] w fun e w' => RPutBad e w' ∧ Below w.heap.size w w' := by
  have HC := Lib.hid (fun W (h : Below w.heap.size w W) => rcChk_any r W (hg.below h) hd)
  have h2 := (recC_2 r).resolve_left h0
  rw [h2] at HC
  unfold recV at HC ⊢
  clear hg hd h0 h2
  go_enter Tryd.func16, Tryd.ntmps16
  go_wp2_with fail
  refine (HC.out _ (bel1 w _)).mono ?_
  rintro e w1 ⟨⟨v, rfl, hv⟩, hb1⟩
  have hch := errChain hv (by decide)
  obtain ⟨t1, u1, rfl⟩ : ∃ t u, v = .iface t u := chain_iface hch
  have HV := Lib.hid hch
  have HB1 := Lib.hid (belStep (bel1 w _) hb1)
  clear hv hch hb1 HC
  go_wp2
  go_ret2
  exact ⟨⟨_, rfl, Or.inr ⟨by decide, HV.out⟩⟩, HB1.out⟩
theorem layN1 {a : Int} (h : 0 ≤ a ∧ a ≤ 1000000) : LayN #[a] := layN_of_mem (by intro x hx; simp at hx; omega)
theorem layN2 {a b : Int} (h : 0 ≤ a ∧ a ≤ 1000000) (h' : 0 ≤ b ∧ b ≤ 1000000) : LayN #[a, b] := layN_of_mem (by intro x hx; simp at hx; omega)
set_option maxRecDepth 100000 in
set_option maxHeartbeats 4000000 in
theorem rcPutOk_any (r : PR) (w : World) (hg : Glob w) (hd : r.dt.size ≤ 1000000) (h0 : recC r = 0) :
    Calls Tryd.prog 16 #[recV r] w fun e w' => e = .returned (.tuple #[.string ⟨(recB r).toArray⟩, .nilIface]) ∧ Below w.heap.size w w' := by
  have HC := Lib.hid (fun W (h : Below w.heap.size w W) => rcChk_any r W (hg.below h) hd)
  rw [h0] at HC
  obtain ⟨h1, h2, h3, h4, hT, hF⟩ := recC_ok h0
  have HMB : Hid (recB r = numB r.ep.toNat ++ numB r.sq.toNat ++ flagB r.sn ++ (if r.sn then textB r.st.data.toList else numB r.k.toNat ++ textB r.dt.data.toList)) := rfl
  generalize recB r = bs at HMB ⊢
  unfold recV at HC ⊢
  obtain ⟨ep, sq, sn, k, dt, st⟩ := r
  dsimp only at HC HMB h1 h2 h3 h4 hT hF hd ⊢
  have l2 : ((nats #[ep, sq]).flatMap numB).length ≤ 18 := by have := flat_len _ (layN2 ⟨by omega, h2⟩ ⟨h3, h4⟩ : LayN #[ep, sq]).nats; rw [nats_len] at this; exact this
  have HN2 : Hid (∀ (B b : Nat) (l : List UInt8) (W : World) (g : Nat), Wrt B b l W → W.heap[g]? = some (.cells #[.int .i64 ep, .int .i64 sq] 3 (0, 0)) → l.length ≤ 900000000 → B ≤ W.heap.size → g ≠ b → Calls Tryd.prog 23 #[.pointer (some ⟨b, 0, none⟩), .slice (some ⟨g, 0, none⟩) 2 2] W (WP B b (l ++ (nats #[ep, sq]).flatMap numB) W)) := fun B b l W g h hg hl hB hne => WNum_any B b l g 2 #[ep, sq] W h (by rw [hg]; simp [encI]) (layN2 ⟨by omega, h2⟩ ⟨h3, h4⟩) (by show 2 ≤ 10000; omega) hl hB hne
  have e2 : (nats #[ep, sq]).flatMap numB = numB ep.toNat ++ numB sq.toNat := by simp [nats]
  have HE2 : Hid ((nats #[ep, sq]).flatMap numB = numB ep.toNat ++ numB sq.toNat) := e2
  clear e2
  generalize (nats #[ep, sq]).flatMap numB = x2 at HN2 HE2 l2
  clear hg h0 h1 h2 h3 h4
  have hnb := hd
  clear hd
  go_enter Tryd.func16, Tryd.ntmps16
  go_wp2_with fail
  refine (HC.out _ (bel1 w _)).mono ?_
  rintro e w1 ⟨⟨v, rfl, hv⟩, hb1⟩
  obtain rfl : v = .nilIface := errNilR hv
  have hlt : w.heap.size < w1.heap.size := lt_of_heap (heap_box hb1)
  have HQ : Hid (∀ W, Below w1.heap.size w1 W → W.cell? ⟨w.heap.size, 2, none⟩ = some (.bool sn) ∧ W.cell? ⟨w.heap.size, 3, none⟩ = some (.int .i64 k) ∧ W.cell? ⟨w.heap.size, 4, none⟩ = some (.string dt) ∧ W.cell? ⟨w.heap.size, 5, none⟩ = some (.string st)) := fun W hb => ⟨(hb.cell (p := ⟨w.heap.size, 2, none⟩) hlt).trans (by rw [heap_cell (heap_box hb1)]; rfl), (hb.cell (p := ⟨w.heap.size, 3, none⟩) hlt).trans (by rw [heap_cell (heap_box hb1)]; rfl), (hb.cell (p := ⟨w.heap.size, 4, none⟩) hlt).trans (by rw [heap_cell (heap_box hb1)]; rfl), (hb.cell (p := ⟨w.heap.size, 5, none⟩) hlt).trans (by rw [heap_cell (heap_box hb1)]; rfl)⟩
  have q0 : w1.cell? ⟨w.heap.size, 0, none⟩ = some (.int .i64 ep) := by rw [heap_cell (heap_box hb1)]; rfl
  have q1 : w1.cell? ⟨w.heap.size, 1, none⟩ = some (.int .i64 sq) := by rw [heap_cell (heap_box hb1)]; rfl
  have HB1 := Lib.hid (belStep (bel1 w _) hb1)
  clear hv hb1 HC
  go_wp2_with fail
  refine (HN2.out w1.heap.size w1.heap.size [] _ (w1.heap.size + 1) ((Wrt.new w1).below (bel1 _ _)) (heap_new2 _ _ _) (by simp) (by simp; omega) (by omega)).mono ?_
  rintro e w2 ⟨rfl, h2, hb2, hk2⟩
  rw [List.nil_append] at h2
  have hB2 : Below w1.heap.size w1 w2 := (belAlloc (bel1 w1 _) _).trans hb2
  have hz2 : w1.heap.size + 2 ≤ w2.heap.size := by have := hb2.size; simp at this; omega
  obtain ⟨p2, -, -, -⟩ := HQ.out w2 hB2
  have HT := Lib.hid (WFlag_any w1.heap.size w1.heap.size _ sn w2 h2 (by omega) hB2.size)
  have hB2z := hB2.size
  clear q0 q1 hb2 hk2 h2 HN2
  go_wp2_with fail
  refine HT.out.mono ?_
  rintro e w3 ⟨rfl, h3, hb3, hk3⟩
  have hB3 : Below w1.heap.size w1 w3 := hB2.trans hb3
  have hz3 : w2.heap.size ≤ w3.heap.size := hb3.size
  obtain ⟨p2', p3, p4, p5⟩ := HQ.out w3 hB3
  have hB3z := hB3.size
  have hfl : (flagB sn).length = 1 := by cases sn <;> rfl
  have HB3 := Lib.hid hB3
  clear hb3 hk3 hB2 HT p2
  cases sn
  · obtain ⟨k1, k3, hdl, -⟩ := hF rfl
    have l1 : ((nats #[k]).flatMap numB).length ≤ 9 := by have := flat_len _ (layN1 ⟨by omega, by omega⟩ : LayN #[k]).nats; rw [nats_len] at this; exact this
    have HN1 : Hid (∀ (B b : Nat) (l : List UInt8) (W : World) (g : Nat), Wrt B b l W → W.heap[g]? = some (.cells #[.int .i64 k] 3 (0, 0)) → l.length ≤ 900000000 → B ≤ W.heap.size → g ≠ b → Calls Tryd.prog 23 #[.pointer (some ⟨b, 0, none⟩), .slice (some ⟨g, 0, none⟩) 1 1] W (WP B b (l ++ (nats #[k]).flatMap numB) W)) := fun B b l W g h hg hl hB hne => WNum_any B b l g 1 #[k] W h (by rw [hg]; simp [encI]) (layN1 ⟨by omega, by omega⟩) (by show 1 ≤ 10000; omega) hl hB hne
    have HE1 : Hid ((nats #[k]).flatMap numB = numB k.toNat) := by show _ = _; simp [nats]
    generalize (nats #[k]).flatMap numB = x1 at HN1 HE1 l1
    have HNW := Lib.hid (fun (W : World) (hb : Below w3.heap.size w3 W) => HN1.out w1.heap.size w1.heap.size _ W w3.heap.size (h3.below hb))
    clear hT hF HN1 h3 hB3
    go_wp2_with fail
    refine (HNW.out _ (bel1 w3 _) (heap_new _ _) (by rw [List.length_append, hfl]; omega) (by simp; omega) (by omega)).mono ?_
    rintro e w4 ⟨rfl, h4, hb4, hk4⟩
    have hB4 : Below w1.heap.size w1 w4 := (belAlloc HB3.out _).trans hb4
    obtain ⟨-, -, p4', -⟩ := HQ.out w4 hB4
    have HTX := Lib.hid (WText_any w1.heap.size w1.heap.size _ dt w4 h4 (by rw [List.length_append, List.length_append, hfl]; omega) hB4.size)
    have HB4 := Lib.hid hB4
    have hB4z := hB4.size
    clear hb4 hk4 hB4 h4 HNW p2' p3 p4 p5
    go_wp2_with fail
    refine HTX.out.mono ?_
    rintro e w5 ⟨rfl, h5, hb5, hk5⟩
    have HB5 := Lib.hid (HB4.out.trans hb5)
    have HD := Lib.hid (WDone_any w1.heap.size w1.heap.size _ w5 h5 (by intro h; have := congrArg List.length h; simp only [List.length_append, List.length_nil] at this; omega))
    clear h5 hb5 hk5 HTX p4'
    go_wp2_with (go_at_call 26; refine HD.out.mono ?_; rintro e w8 ⟨rfl, hb8⟩; have HB8 := Lib.hid (HB5.out.trans hb8); clear hb8)
    go_ret2
    refine ⟨?_, belStep HB1.out HB8.out⟩
    rw [HMB.out, HE2.out, HE1.out]
    simp
  · obtain ⟨-, -, hst⟩ := hT rfl
    have HTX := Lib.hid (WText_any w1.heap.size w1.heap.size _ st w3 h3 (by rw [List.length_append, hfl]; omega) hB3.size)
    clear hT hF h3 hB3
    go_wp2_with fail
    refine HTX.out.mono ?_
    rintro e w5 ⟨rfl, h5, hb5, hk5⟩
    have HB5 := Lib.hid (HB3.out.trans hb5)
    have HD := Lib.hid (WDone_any w1.heap.size w1.heap.size _ w5 h5 (by intro h; have := congrArg List.length h; simp only [List.length_append, List.length_nil] at this; omega))
    clear h5 hb5 hk5 HTX p2' p3 p4 p5
    go_wp2_with (go_at_call 26; refine HD.out.mono ?_; rintro e w8 ⟨rfl, hb8⟩; have HB8 := Lib.hid (HB5.out.trans hb8); clear hb8)
    go_ret2
    refine ⟨?_, belStep HB1.out HB8.out⟩
    rw [HMB.out, HE2.out]
    simp
end Go.Proofs.YtlpplnmmcgdooaaDoor
