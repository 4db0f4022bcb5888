/- A replica is brought to the present: state.Refresh, the walk. The probes of layer 25 come out as the document says: rubatolaw25.awake. -/
import Derived.Deep.CutRange
import Derived.Test.YtnmojicfmcbgmaaGreatQStV
import Derived.Test.YtnmojicfmcbgmaaGreatQKaF
import Derived.Test.YtnmojicfmcbgmaaGreatQAnyE
import Derived.BigGuardPart
namespace Go.Proofs.YtnmojicfmcbgmaaGreat
open Go.RowKit Go.Sort Go.Lib
set_option maxRecDepth 100000
attribute [local go_sem ↓] execOp_loadRep execOp_storeRep
attribute [local go_sem] run_loadBox run_storeBox_any run_storeBox_newA allOne_lit size_lit
def AddP (r : RP) (p : Nat) (x : KE) : Prop := AddR r.k.z[p]!.kn r.floor r.clock r.o.z x.kn ∧ x.r.z.size ≤ r.k.z[p]!.r.z.size + r.k.z[p]!.a.z.size + r.o.z.size + 1
theorem far3 (W : World) (g : Nat) (v0 v1 v2 : Value) (b t : Nat) (h : b ≠ g ∨ t < 0 * 3 ∨ 0 * 3 + 3 ≤ t) : (((W.setCell ⟨g, 0, none⟩ v0).setCell ⟨g, 1, none⟩ v1).setCell ⟨g, 2, none⟩ v2).cell? ⟨b, t, none⟩ = W.cell? ⟨b, t, none⟩ := by
  have far : ∀ (V : World) (j : Nat) (v : Value), (⟨g, j, none⟩ : Addr) ≠ ⟨b, t, none⟩ → (V.setCell ⟨g, j, none⟩ v).cell? ⟨b, t, none⟩ = V.cell? ⟨b, t, none⟩ := fun V j v hne => World.cell?_setCell_other V _ _ v hne
  rw [far _ _ _ (by intro e; injection e with e1 e2; omega), far _ _ _ (by intro e; injection e with e1 e2; omega), far _ _ _ (by intro e; injection e with e1 e2; omega)]
/-- What is read stays when a box of its kind is written. -/
theorem box_keep {W : World} {g : Nat} {T : TypeId} (hq : W.heap[g]? = some (.cells #[.int .i64 0, .slice none 0 0, .slice none 0 0] T (0, 0))) {x : KE} (hx : RdKE W x) (v0 v1 v2 : Value) : RdKE (((W.setCell ⟨g, 0, none⟩ v0).setCell ⟨g, 1, none⟩ v1).setCell ⟨g, 2, none⟩ v2) x := by
  have hsz : (((W.setCell ⟨g, 0, none⟩ v0).setCell ⟨g, 1, none⟩ v1).setCell ⟨g, 2, none⟩ v2).heap.size = W.heap.size := by simp
  have hH : ∀ t, t < (#[ke0] : Array KE).size * 3 → W.cell? ⟨g, t, none⟩ = some (flatK encKE 3 #[ke0])[t]! := fun t ht => by
    have ht3 : t < 3 := by simpa using ht
    rw [cell_of_row W g t _ _ (0, 0) hq, get_flatK _ _ _ _ ht]
    rcases (show t = 0 ∨ t = 1 ∨ t = 2 by omega) with rfl | rfl | rfl <;> rfl
  exact ⟨⟨by rw [hsz]; exact pairs_keep encR_pair hH hx.r.rd (i := 0) (by decide) (far3 W g v0 v1 v2), hx.r.no⟩, ⟨by rw [hsz]; exact pairs_keep encA_pair hH hx.a.rd (i := 0) (by decide) (far3 W g v0 v1 v2), hx.a.no⟩⟩
theorem box_set {W : World} {g : Nat} {T : TypeId} (hq : W.heap[g]? = some (.cells #[.int .i64 0, .slice none 0 0, .slice none 0 0] T (0, 0))) (v0 v1 v2 : Value) : (((W.setCell ⟨g, 0, none⟩ v0).setCell ⟨g, 1, none⟩ v1).setCell ⟨g, 2, none⟩ v2).heap[g]? = some (.cells #[v0, v1, v2] T (0, 0)) :=
  heap_setCell_same _ g 2 _ T v2 (heap_setCell_same _ g 1 _ T v1 (heap_setCell_same W g 0 _ T v0 hq))
set_option maxHeartbeats 16000000 in
theorem stRef_any (r : RP) (w : World) (h : RdP w r) (hf : FewM r) (hc : chkR r = true) :
    Calls Tryz.prog 18 #[.agg (encP r).toArray] w fun e w' => (∃ s : RP, e = .returned (.agg (encP s).toArray) ∧ RefR r s ∧ RdP w' s) ∧ Below w.heap.size w w' := by
  have hkn := chkR_k hc
  obtain ⟨p, hp⟩ : ∃ p : Nat, r.self = (p : Int) + 1 := ⟨r.self.toNat - 1, by have := (chkR_n hc).2; omega⟩
  have hpk : p < r.k.z.size := by have := (chkR_n hc).2; omega
  have hk20 := hf.c.k
  have HC : Hid (∀ W, Below w.heap.size w W → Calls Tryz.prog 9 #[.agg (encP r).toArray] W fun e w' => e = .returned (.int .i64 0) ∧ Below W.heap.size W w') := fun W hb => by
    have := stCheck_any r W (h.below hb) hf.c
    rwa [repE_yes hc] at this
  obtain ⟨bk, ok, hA, _, _⟩ := h.k.rd.at_ (i := p) hpk
  have HCl : Hid (∀ W, Below w.heap.size w W → Calls Tryz.prog 56 #[.slice r.k.A r.k.z.size r.k.c] W fun e w' => ∃ g c, e = .returned (.slice (some ⟨g, 0, none⟩) r.k.z.size c) ∧ W.heap.size ≤ g ∧ w'.ownsRow W.heap.size 53 3 (.slice (some ⟨g, 0, none⟩) r.k.z.size c) r.k.z.size (flatK encKE 3 r.k.z).toList ∧ Below W.heap.size W w') := fun W hb => by
    have h1 := (h.k.below hb).rd
    have hA' : r.k.A = some ⟨bk, ok, none⟩ := hA
    rw [hA'] at h1 ⊢
    refine (CloneKn ⟨bk, ok, none⟩ r.k.c r.k.z W h1 (by omega)).mono fun e w' ⟨v, he, ho, hb2⟩ => ?_
    obtain ⟨g, c, rfl, hg, hl⟩ := sli_ofB ho (by omega)
    exact ⟨g, c, he, hg, ho, hb2⟩
  have HAdd : Hid (∀ W, Below w.heap.size w W → w.heap.size + 2 ≤ W.heap.size → Calls Tryz.prog 57 #[.agg (encKE r.k.z[p]!).toArray, .int .i64 r.floor, .int .i64 r.clock, .slice r.o.A r.o.z.size r.o.c] W fun e w' => ∃ x : KE, e = .returned (.tuple #[.agg (encKE x).toArray, .int .i64 0]) ∧ AddP r p x ∧ RdKE w' x ∧ FarK w x ∧ Below W.heap.size W w') := fun W hb hsW => by
    have h1 := hf.s p hpk (by rw [hp])
    have h2 := hf.o
    have hku := (h.kk p hpk).below hb
    refine (kAddF_ok r.k.z[p]!.base r.k.z[p]!.r.z r.k.z[p]!.a.z r.k.z[p]!.r.A r.k.z[p]!.r.c r.k.z[p]!.a.A r.k.z[p]!.a.c r.floor r.clock r.o.z r.o.A r.o.c W hku.r.rd hku.a.rd (h.o.below hb).rd (addA_of (chk_iff.1 (chkR_kk hc p hpk)) (chkR_clk hc)) (by omega) (by omega) (by omega)).mono fun e w' ⟨v, kn, he, hv, ha, hsz, hb2⟩ => ?_
    obtain ⟨x, rfl, rfl, hx, f1, f2⟩ := keOfF hv
    exact ⟨x, he, ⟨ha, hsz⟩, hx, FarK.new hsW f1 f2, hb2⟩
  have HRD := Lib.hid h
  have HFM := Lib.hid hf
  have HCK := Lib.hid hc
  obtain ⟨cs, hcs⟩ : ∃ cs, cs = (encP r).toArray := ⟨_, rfl⟩
  obtain ⟨hsz, hone⟩ := rowP hcs
  have HCS := Lib.hid hcs
  have HQ9 : Hid (cs[9]? = some (.slice r.k.A r.k.z.size r.k.c)) := by show _ = _; rw [hcs]; rfl
  have HP := Lib.hid hp
  have HKN := Lib.hid hkn
  have hwr : IntKind.i64.wrap (p : Int) = (p : Int) := IntWalk.i64_in _ (by omega)
  have hpz : (p : Int) < (r.k.z.size : Int) := by omega
  rw [← hcs] at HC
  have hgoal : ∀ x : Array Value, cs = x → Calls Tryz.prog 18 #[.agg x] w fun e w' => (∃ s : RP, e = .returned (.agg (encP s).toArray) ∧ RefR r s ∧ RdP w' s) ∧ Below w.heap.size w w' := by
    rintro _ rfl
    simp only [encP] at hcs
    clear h hf hc hp hA hkn
    rw [hcs]
    go_enter Tryz.func18, Tryz.ntmps18
    rw [← hcs]
    clear hcs
    have HX := Lib.hid (BoxG.fst w cs zer18 35 35)
    have HZ := Lib.hid (BoxG.snd w cs zer18 35 35)
    simp only [zer18] at HX HZ
    have x1 := HX.out.box hsz
    have x2 := HX.out.rowAt
    go_wp2_with (first
      | (go_at_call 9; refine (HC.out _ HX.out.b).mono ?_; rintro _ w1 ⟨rfl, hb⟩; have HX1 := Lib.hid (HX.out.next hb); have HZ1 := Lib.hid (HZ.out.next hb); clear hb x1 x2; have c9 := HX1.out.at_ 9 HQ9.out)
      | (go_at_call 56; refine (HCl.out _ HX1.out.b).mono ?_; rintro _ w2 ⟨K, cK, rfl, hK1, hown, hb⟩; have HX2 := Lib.hid (HX1.out.next hb); have HZ2 := Lib.hid (HZ1.out.next hb); have HO2 := Lib.hid hown; have HXl := HX1.out.lt; have HZl := HZ1.out.lt; have HBB := Lib.hid hb; clear hb c9 hown; have c9 := HX2.out.at_ 9 HQ9.out; have f9 := HX2.out.froz 9))
    have HW : Hid (RefW w r K cK r.k.z (w2.setCell ⟨w.heap.size, 9, none⟩ (.slice (some ⟨K, 0, none⟩) r.k.z.size cK))) := by
      have hx := HX2.out.set (Nat.le_refl _) 9 (.slice (some ⟨K, 0, none⟩) r.k.z.size cK)
      have hset : cs.setIfInBounds 9 (.slice (some ⟨K, 0, none⟩) r.k.z.size cK) = (encP (kR r K cK r.k.z)).toArray := by rw [HCS.out]; rfl
      rw [hset] at hx
      exact ⟨hx, HZ2.out.far (g2 := w.heap.size) (Nat.le_refl _) (by omega) 9 _, own_monoB (own_setB HO2.out HXl 9 _) (by omega), fun i hi => ((HRD.out.kk i hi).below hx.b), fun i hi => FarK.old (HRD.out.kk i hi)⟩
    obtain ⟨w3, hw3⟩ : ∃ W, W = w2.setCell ⟨w.heap.size, 9, none⟩ (.slice (some ⟨K, 0, none⟩) r.k.z.size cK) := ⟨_, rfl⟩
    rw [← hw3] at HW ⊢
    clear hw3 c9 f9 HX HZ HX1 HZ1 HX2 HZ2 HO2 HBB HXl HZl hK1 HQ9 HC HCl
    go_cut [3, 4] from 17 to 33 (fun v3 v4 wx => ∃ (g : Nat) (x : KE), v3 = .pointer (some ⟨g, 0, none⟩) ∧ v4 = .int .i64 0 ∧ Hid (AddP r p x) ∧ Hid (FarK w x) ∧ Hid (RdKE wx x) ∧ Hid (wx.heap[g]? = some (.cells (encKE x).toArray 53 (0, 0))) ∧ Hid (w.heap.size + 2 ≤ g ∧ g ≠ K) ∧ Hid (RefW w r K cK r.k.z wx))
    case first =>
      have hb0 : Below w3.heap.size w3 w3 := Below.refl _ _
      obtain ⟨u, hu⟩ : ∃ u, r.k.z[p]! = u := ⟨_, rfl⟩
      have HX3 := Lib.hid HW.out.x
      have BW := Lib.hid (fun (W : World) (hb : Below w3.heap.size w3 W) => belStep HX3.out.b hb)
      have hKw := HW.out.hK
      have BS := Lib.hid (fun (W : World) (hb : Below w3.heap.size w3 W) => (show w.heap.size + 2 ≤ W.heap.size from by have := hb.size; omega))
      clear hKw
      have KS : Hid (∀ W, Below w3.heap.size w3 W → Below w3.heap.size w3 W ∧ W.cell? ⟨w.heap.size, 9, none⟩ = some (.slice (some ⟨K, 0, none⟩) r.k.z.size cK) ∧ W.cell? ⟨w.heap.size, 2, none⟩ = some (.int .i64 ((p : Int) + 1)) ∧ W.cell? ⟨w.heap.size, 5, none⟩ = some (.int .i64 r.floor) ∧ W.cell? ⟨w.heap.size, 3, none⟩ = some (.int .i64 r.clock) ∧ W.cell? ⟨w.heap.size, 8, none⟩ = some (.slice r.o.A r.o.z.size r.o.c) ∧ W.cell? ⟨K, p * 3, none⟩ = some (.int .i64 u.base) ∧ W.cell? ⟨K, p * 3 + 1, none⟩ = some (.slice u.r.A u.r.z.size u.r.c) ∧ W.cell? ⟨K, p * 3 + 2, none⟩ = some (.slice u.a.A u.a.z.size u.a.c)) := fun W hb => by
        have hx := HX3.out.next hb
        have hw := HW.out.next hb
        exact ⟨hb, hx.at_ 9 rfl, (hx.at_ 2 (v := .int .i64 r.self) rfl).trans (by rw [HP.out]), hx.at_ 5 rfl, hx.at_ 3 rfl, hx.at_ 8 rfl, hu ▸ hw.cells hpk 0 (by omega), hu ▸ hw.cells hpk 1 (by omega), hu ▸ hw.cells hpk 2 (by omega)⟩
      rw [hu] at HAdd
      simp only [encKE] at HAdd
      clear hu
      go_region_held3 (fun W => Below w3.heap.size w3 W ∧ W.cell? ⟨w.heap.size, 9, none⟩ = some (.slice (some ⟨K, 0, none⟩) r.k.z.size cK) ∧ W.cell? ⟨w.heap.size, 2, none⟩ = some (.int .i64 ((p : Int) + 1)) ∧ W.cell? ⟨w.heap.size, 5, none⟩ = some (.int .i64 r.floor) ∧ W.cell? ⟨w.heap.size, 3, none⟩ = some (.int .i64 r.clock) ∧ W.cell? ⟨w.heap.size, 8, none⟩ = some (.slice r.o.A r.o.z.size r.o.c) ∧ W.cell? ⟨K, p * 3, none⟩ = some (.int .i64 u.base) ∧ W.cell? ⟨K, p * 3 + 1, none⟩ = some (.slice u.r.A u.r.z.size u.r.c) ∧ W.cell? ⟨K, p * 3 + 2, none⟩ = some (.slice u.a.A u.a.z.size u.a.c)) (exact KS.out _ (by first | assumption | exact Below.drew (by assumption) | exact belAlloc (by first | assumption | exact Below.drew (by assumption)) _ | exact (belAlloc (by assumption) _).drew | exact ((Below.setCell (p := ⟨w3.heap.size, 0, none⟩) (by assumption) (Nat.le_refl _) _).setCell (p := ⟨w3.heap.size, 1, none⟩) (Nat.le_refl _) _).setCell (p := ⟨w3.heap.size, 2, none⟩) (Nat.le_refl _) _))
        (first
          | (go_at_call 57; ((with_reducible refine (HAdd.out _ (BW.out _ (by first | assumption | exact Below.drew (by assumption) | exact belAlloc (by assumption) _ | exact (belAlloc (by assumption) _).drew)) (BS.out _ (by first | assumption | exact Below.drew (by assumption) | exact belAlloc (by assumption) _ | exact (belAlloc (by assumption) _).drew))).mono ?_); rintro e wa ⟨x, rfl, hax, hrx, hfx, hba⟩; have hbA : Below w3.heap.size w3 wa := belStep (by first | assumption | exact Below.drew (by assumption) | exact belAlloc (by assumption) _ | exact (belAlloc (by assumption) _).drew) hba; have HAX := Lib.hid hax; have HRX := Lib.hid hrx; have HFX := Lib.hid hfx; clear hax hrx hfx; (try (have hq : wa.heap[w3.heap.size]? = some (.cells #[.int .i64 0, .slice none 0 0, .slice none 0 0] 53 (0, 0)) := (hba.block w3.heap.size (by simp)).trans (heap_alloc_new w3 _); have z0 : wa.cell? ⟨w3.heap.size, 0, none⟩ = some (.int .i64 0) := (cell_of_row wa _ 0 _ _ (0, 0) hq).trans rfl; have z1 : wa.cell? ⟨w3.heap.size, 1, none⟩ = some (.slice none 0 0) := (cell_of_row wa _ 1 _ _ (0, 0) hq).trans rfl; have z2 : wa.cell? ⟨w3.heap.size, 2, none⟩ = some (.slice none 0 0) := (cell_of_row wa _ 2 _ _ (0, 0) hq).trans rfl; have y0 : wa.frozen? ⟨w3.heap.size, 0, none⟩ = false := (by simp [World.frozen?, hq]); have y1 : wa.frozen? ⟨w3.heap.size, 1, none⟩ = false := (by simp [World.frozen?, hq]); have y2 : wa.frozen? ⟨w3.heap.size, 2, none⟩ = false := (by simp [World.frozen?, hq]); have HQ := Lib.hid hq; clear hq)); clear hba)))
      · go_wp2
        go_meet
        have hKl := HW.out.hK
        have hwa := hbA.size
        exact ⟨wa.heap.size, x, rfl, rfl, HAX, HFX, HRX.out.below (bel1 wa _), heap_alloc_new wa _, ⟨by omega, by omega⟩, HW.out.next (belAlloc hbA _)⟩
      · go_wp2
        go_meet
        have hKl := HW.out.hK
        exact ⟨w3.heap.size, x, rfl, rfl, HAX, HFX, box_keep HQ.out HRX.out _ _ _, box_set HQ.out _ _ _, ⟨by omega, by omega⟩, HW.out.next (((hbA.setCell (p := ⟨w3.heap.size, 0, none⟩) (Nat.le_refl _) _).setCell (p := ⟨w3.heap.size, 1, none⟩) (Nat.le_refl _) _).setCell (p := ⟨w3.heap.size, 2, none⟩) (Nat.le_refl _) _)⟩
    case rest =>
      obtain ⟨g, x, rfl, rfl, HAX, HFX, HRX, HGX, HGK, HW⟩ := hcut
      clear HAdd
      have hKl := HW.out.hK
      have hne1 : ¬ K = w.heap.size := by omega
      have hne2 : ¬ w.heap.size = K := by omega
      have c9 := HW.out.x.at_ 9 (v := .slice (some ⟨K, 0, none⟩) r.k.z.size cK) rfl
      have c2 := (HW.out.x.at_ 2 (v := .int .i64 r.self) rfl).trans (by rw [HP.out])
      have g0 : wc.cell? ⟨g, 0, none⟩ = some (.int .i64 x.base) := (cell_of_row wc g 0 _ _ (0, 0) HGX.out).trans rfl
      have g1 : wc.cell? ⟨g, 1, none⟩ = some (.slice x.r.A x.r.z.size x.r.c) := (cell_of_row wc g 1 _ _ (0, 0) HGX.out).trans rfl
      have g2 : wc.cell? ⟨g, 2, none⟩ = some (.slice x.a.A x.a.z.size x.a.c) := (cell_of_row wc g 2 _ _ (0, 0) HGX.out).trans rfl
      have k0 := HW.out.cells hpk 0 (by omega)
      have k1 := HW.out.cells hpk 1 (by omega)
      have k2 := HW.out.cells hpk 2 (by omega)
      have q0 := HW.out.froz (p * 3)
      have q1 := HW.out.froz (p * 3 + 1)
      have q2 := HW.out.froz (p * 3 + 2)
      generalize (encKE r.k.z[p]!)[0]! = y0 at k0
      generalize (encKE r.k.z[p]!)[1]! = y1 at k1
      generalize (encKE r.k.z[p]!)[2]! = y2 at k2
      rw [Nat.add_zero] at k0
      go_wp2
      have HW4 := Lib.hid (HW.out.put hpk HRX.out HFX.out)
      obtain ⟨wl, hwl⟩ : ∃ W, W = (((wc.setCell ⟨K, p * 3, none⟩ (.int .i64 x.base)).setCell ⟨K, p * 3 + 1, none⟩ (.slice x.r.A x.r.z.size x.r.c)).setCell ⟨K, p * 3 + 2, none⟩ (.slice x.a.A x.a.z.size x.a.c)) := ⟨_, rfl⟩
      rw [← hwl] at HW4 ⊢
      obtain ⟨kb, hkb⟩ : ∃ kb, r.k.z.setIfInBounds p x = kb := ⟨_, rfl⟩
      have HKB : Hid (KbR r p kb) := by
        refine ⟨by rw [← hkb]; simp, fun i hi hip => ?_, ?_, ?_⟩
        · rw [← hkb, getElem!_def, getElem!_def, Array.getElem?_setIfInBounds, if_neg (Ne.symm hip)]
        · rw [← hkb, getElem!_set_same _ p x hpk]; exact HAX.out.1
        · rw [← hkb, getElem!_set_same _ p x hpk]; exact HAX.out.2
      rw [hkb] at HW4
      have HKS0 : Hid (KsR r kb kb 0) := ⟨rfl, fun i hi => absurd hi (Nat.not_lt_zero i), fun i _ _ => rfl⟩
      have HPK := Lib.hid hpk
      clear hwl hkb HAX HRX HGX HGK HW hKl c9 c2 g0 g1 g2 k0 k1 k2 q0 q1 q2 hwr hpz hpk
      go_loopw [46] (fun i wr => ∃ (k : Nat) (ks : Array KE), i = .int .i64 k ∧ k ≤ r.k.z.size ∧ Hid (KsR r kb ks k) ∧ Hid (RefW w r K cK ks wr)) (fun i _ => r.k.z.size - (intOf i).toNat)
      case atStart => exact ⟨0, kb, rfl, Nat.zero_le _, HKS0, HW4⟩
      case round =>
        obtain ⟨k, ks, rfl, hk, HKS, HWk⟩ := hrel
        by_cases hlt : k < r.k.z.size
        · have kz : (k : Int) < (r.k.z.size : Int) := by omega
          have hks : ks.size = r.k.z.size := HKS.out.sz.trans HKB.out.sz
          have hkk : k < ks.size := by omega
          have hKl := HWk.out.hK
          have HCH := Lib.hid (HKB.out.chk HCK.out HFM.out HP.out HPK.out k hlt)
          have HE := Lib.hid (HKS.out.hi k (Nat.le_refl _) (by rw [HKB.out.sz]; exact hlt))
          have HFC := Lib.hid (HKS.out.few (K := K) (cK := cK) HKB.out HCK.out HFM.out HP.out HPK.out)
          obtain ⟨u, hu⟩ : ∃ u, ks[k]! = u := ⟨_, rfl⟩
          have k0 := HWk.out.cells hkk 0 (by omega)
          have k1 := HWk.out.cells hkk 1 (by omega)
          have k2 := HWk.out.cells hkk 2 (by omega)
          have HUR : Hid (RdKE wr u) := by show RdKE wr u; rw [← hu]; exact HWk.out.kk k hkk
          rw [hu] at k0 k1 k2 HE
          simp only [encKE, List.getElem!_cons_zero, List.getElem!_cons_succ, Nat.add_zero] at k0 k1 k2
          obtain ⟨csk, hcsk⟩ : ∃ c, c = (encP (kR r K cK ks)).toArray := ⟨_, rfl⟩
          obtain ⟨hszk, honek⟩ := rowP hcsk
          have hdn := chkR_d HCK.out
          have HOV : Hid (∀ W, Below wr.heap.size wr W → Calls Tryz.prog 59 #[.agg csk, .agg #[.int .i64 u.base, .slice u.r.A u.r.z.size u.r.c, .slice u.a.A u.a.z.size u.a.c]] W fun e w' => (∃ (A : Option Addr) (s : Array Int) (c : Nat), e = .returned (.slice A s.size c) ∧ OverR r u.kn s ∧ RdI_R w'.heap.size w' A s ∧ s.size ≤ 1000) ∧ Below W.heap.size W w') := fun W hb => by
            have hcu : ChkP u.kn := by rw [HE.out]; exact HCH.out.1
            have hau : u.a.z.size ≤ 300 := by rw [HE.out]; exact HCH.out.2.2
            have := over_any (kR r K cK ks) _ u.kn W ((HWk.out.next hb).rd HRD.out) (HUR.out.below hb).knV HFC.out hdn (chk_iff.2 hcu) (by show u.a.z.size ≤ 1000; omega)
            rw [← hcsk] at this
            exact this
          have HSE : Hid (∀ W (A : Option Addr) (s : Array Int) (c : Nat), Below wr.heap.size wr W → RdI_R W.heap.size W A s → s.size ≤ 1000 → Calls Tryz.prog 58 #[.agg #[.int .i64 u.base, .slice u.r.A u.r.z.size u.r.c, .slice u.a.A u.a.z.size u.a.c], .slice A s.size c] W fun e w' => ∃ y : KE, e = .returned (.agg #[.int .i64 y.base, .slice y.r.A y.r.z.size y.r.c, .slice y.a.A y.a.z.size y.a.c]) ∧ SetR u.kn s y.kn ∧ RdKE w' y ∧ FarK w y ∧ Below W.heap.size W w') := fun W A s c hb h1 h2 => by
            have hcu : ChkP u.kn := by rw [HE.out]; exact HCH.out.1
            have hru : u.r.z.size ≤ 500 := by rw [HE.out]; exact HCH.out.2.1
            have hku := HUR.out.below hb
            refine (kSettleF_ok u.base u.r.z u.a.z u.r.A u.r.c u.a.A u.a.c s A c W hku.r.rd hku.a.rd h1 hcu hru (by omega)).mono fun e w' ⟨v, kn, he, hv, ha, _, hb2⟩ => ?_
            obtain ⟨y, rfl, rfl, hy, f1, f2⟩ := keOfF hv
            exact ⟨y, he, ha, hy, FarK.new (by have := hb.size; omega) f1 f2, hb2⟩
          have HXk := Lib.hid (hcsk ▸ HWk.out.x : BoxG w w.heap.size csk 35 wr)
          have h9k : csk[9]? = some (.slice (some ⟨K, 0, none⟩) r.k.z.size cK) := by rw [hcsk, ← hks]; rfl
          have H9 := Lib.hid h9k
          have HU := Lib.hid hu
          have HCSK := Lib.hid hcsk
          clear hu hcsk h9k k0 k1 k2
          have k0 := HWk.out.cells hkk 0 (by omega)
          have k1 := HWk.out.cells hkk 1 (by omega)
          have k2 := HWk.out.cells hkk 2 (by omega)
          rw [HU.out] at k0 k1 k2
          simp only [encKE, List.getElem!_cons_zero, List.getElem!_cons_succ, Nat.add_zero] at k0 k1 k2
          go_wp2
          have HG1 : Hid ((wr.alloc (.cells #[.int .i64 u.base, .slice u.r.A u.r.z.size u.r.c, .slice u.a.A u.a.z.size u.a.c] 53)).heap[wr.heap.size]? = some (.cells #[.int .i64 u.base, .slice u.r.A u.r.z.size u.r.c, .slice u.a.A u.a.z.size u.a.c] 53 (0, 0))) := heap_alloc_new wr _
          have HBr : Hid (Below wr.heap.size wr (wr.alloc (.cells #[.int .i64 u.base, .slice u.r.A u.r.z.size u.r.c, .slice u.a.A u.a.z.size u.a.c] 53))) := bel1 wr _
          have hGl : wr.heap.size < (wr.alloc (.cells #[.int .i64 u.base, .slice u.r.A u.r.z.size u.r.c, .slice u.a.A u.a.z.size u.a.c] 53)).heap.size := by simp
          obtain ⟨wr1, hwr1⟩ : ∃ W, W = wr.alloc (.cells #[.int .i64 u.base, .slice u.r.A u.r.z.size u.r.c, .slice u.a.A u.a.z.size u.a.c] 53) := ⟨_, rfl⟩
          rw [← hwr1] at HG1 HBr hGl ⊢
          have HX1 := Lib.hid (HXk.out.next HBr.out)
          have hxl := HX1.out.lt
          obtain ⟨G, hG⟩ : ∃ G, wr.heap.size = G := ⟨_, rfl⟩
          rw [hG] at HG1 hGl hKl
          clear hwr1 k0 k1 k2
          have hb0 : Below wr1.heap.size wr1 wr1 := Below.refl _ _
          have BW := Lib.hid (fun (W : World) (hb : Below wr1.heap.size wr1 W) => belStep HBr.out hb)
          have KS : Hid (∀ W, wr1.grownBy W (some K) → wr1.grownBy W (some K) ∧ W.cell? ⟨w.heap.size, 9, none⟩ = some (.slice (some ⟨K, 0, none⟩) r.k.z.size cK) ∧ boxAt W w.heap.size 18 = true ∧ rowAt W w.heap.size = csk ∧ W.cell? ⟨G, 0, none⟩ = some (.int .i64 u.base) ∧ W.cell? ⟨G, 1, none⟩ = some (.slice u.r.A u.r.z.size u.r.c) ∧ W.cell? ⟨G, 2, none⟩ = some (.slice u.a.A u.a.z.size u.a.c)) := fun W hg => by
            have e1 : W.heap[w.heap.size]? = wr1.heap[w.heap.size]? := hg.block _ hxl (by intro e; injection e with e; omega)
            have e2 : W.heap[G]? = wr1.heap[G]? := hg.block _ hGl (by intro e; injection e with e; omega)
            have r1 := e1.trans HX1.out.row
            have r2 := e2.trans HG1.out
            exact ⟨hg, (cell_of_row W _ 9 _ _ (0, 0) r1).trans H9.out, boxAt_of r1 hszk, rowAt_of r1, (cell_of_row W _ 0 _ _ (0, 0) r2).trans rfl, (cell_of_row W _ 1 _ _ (0, 0) r2).trans rfl, (cell_of_row W _ 2 _ _ (0, 0) r2).trans rfl⟩
          rw [hG]
          go_region_held3 (fun W => wr1.grownBy W (some K) ∧ W.cell? ⟨w.heap.size, 9, none⟩ = some (.slice (some ⟨K, 0, none⟩) r.k.z.size cK) ∧ boxAt W w.heap.size 18 = true ∧ rowAt W w.heap.size = csk ∧ W.cell? ⟨G, 0, none⟩ = some (.int .i64 u.base) ∧ W.cell? ⟨G, 1, none⟩ = some (.slice u.r.A u.r.z.size u.r.c) ∧ W.cell? ⟨G, 2, none⟩ = some (.slice u.a.A u.a.z.size u.a.c)) (exact KS.out _ (by first | assumption | exact grown_of_below (by first | assumption | exact Below.drew (by assumption)) _ | exact World.grownBy.trans (World.grownBy.trans (World.grownBy.trans (grown_of_below (by assumption) _) (grown_setCell _ _ _ _)) (grown_setCell _ _ _ _)) (grown_setCell _ _ _ _)))
            (first
              | (go_at_call 59; ((with_reducible refine (HOV.out _ (BW.out _ (by first | assumption | exact Below.drew (by assumption)))).mono ?_); rintro e wa ⟨⟨A3, s3, c3, rfl, ho3, hr3, hs3⟩, hba⟩; have hbA : Below wr1.heap.size wr1 wa := belStep (by first | assumption | exact Below.drew (by assumption)) hba; have HO3 := Lib.hid ho3; have HR3 := Lib.hid hr3; have HS3 := Lib.hid hs3; clear ho3 hr3 hs3 hba))
              | (go_at_call 58; ((with_reducible refine (HSE.out _ A3 s3 c3 (BW.out _ hbA) HR3.out HS3.out).mono ?_); rintro e wb ⟨y, rfl, hy1, hy2, hy3, hba⟩; have HY3 := Lib.hid hy3; have hbB : Below wr1.heap.size wr1 wb := belStep hbA hba; have HY1 := Lib.hid hy1; have HY2 := Lib.hid hy2; clear hy1 hy2 hy3 hba; have HWb := Lib.hid (HWk.out.next (BW.out _ hbB)); have k0 := HWb.out.cells hkk 0 (by omega); have k1 := HWb.out.cells hkk 1 (by omega); have k2 := HWb.out.cells hkk 2 (by omega); rw [HU.out] at k0 k1 k2; simp only [encKE, List.getElem!_cons_zero, List.getElem!_cons_succ, Nat.add_zero] at k0 k1 k2; have q0 := HWb.out.froz (k * 3); have q1 := HWb.out.froz (k * 3 + 1); have q2 := HWb.out.froz (k * 3 + 2))))
          go_wp2
          go_roundw
          case rel =>
            have hcu : ChkP kb[k]!.kn := HCH.out.1
            have hy := HY1.out
            have ho := HO3.out
            rw [HE.out] at hy ho
            have hfw := set_few hcu hy
            exact ⟨k + 1, ks.setIfInBounds k y, by go_num, by omega, HKS.out.put (by rw [HKB.out.sz]; exact hlt) ho hy hfw.1 hfw.2, HWb.out.put hkk HY2.out HY3.out⟩
          case measure => simp [intOf]; omega
        · have hlt' : decide ((k : Int) < (r.k.z.size : Int)) = false := decide_eq_false (by omega)
          obtain rfl : k = r.k.z.size := by omega
          have hks : ks.size = r.k.z.size := HKS.out.sz.trans HKB.out.sz
          have hkc := HKS.out.chk HKB.out HCK.out HFM.out HP.out HPK.out
          have hcr : chkR (kR r K cK ks) = true := chk_kR HCK.out hks hkc
          have hfc : FewC (kR r K cK ks) := HKS.out.few HKB.out HCK.out HFM.out HP.out HPK.out
          have hn39 := (chkR_n HCK.out).1
          have hrows : rowsB r.m.z (r.k.z.size : Int) = true := by rw [HKN.out]; exact chkR_rows HCK.out
          have hmb : marksE (basesK ks) (r.k.z.size : Int) = 0 := marks_bases (by rw [HKN.out]; exact hn39) (by rw [hks]) (fun i hi => hkc i (by omega))
          have hbs : (basesK ks).size = r.k.z.size := (basesK_size ks).trans hks
          have hKl := HWk.out.hK
          obtain ⟨csk, hcsk⟩ : ∃ c, c = (encP (kR r K cK ks)).toArray := ⟨_, rfl⟩
          obtain ⟨hszk, honek⟩ := rowP hcsk
          have HMK : Hid (∀ W, Below wr.heap.size wr W → Calls Tryz.prog 14 #[.agg csk] W fun e w' => (∃ (A : Option Addr) (c : Nat), e = .returned (.slice A r.k.z.size c) ∧ RdI_R w'.heap.size w' A (basesK ks)) ∧ Below W.heap.size W w') := fun W hb => by
            have := stMarks_any (kR r K cK ks) W ((HWk.out.next hb).rd HRD.out) hfc
            rw [← hcsk] at this
            refine this.mono fun e w' ⟨⟨x, he, hx, hr⟩, hb2⟩ => ?_
            have hx' : x.z = basesK ks := by rw [hx]; unfold marksR; rw [if_pos hcr]; rfl
            refine ⟨⟨x.A, x.c, by rw [he]; unfold RW.v; rw [hx', hbs], hx' ▸ hr.rd⟩, hb2⟩
          have HTL : Hid (∀ W (A : Option Addr) (c : Nat), Below wr.heap.size wr W → RdI_R W.heap.size W A (basesK ks) → Calls Tryz.prog 60 #[.slice r.m.A r.m.z.size r.m.c, .int .i64 (r.k.z.size : Int), .int .i64 ((p : Int) + 1), .slice A r.k.z.size c] W fun e w' => (∃ y : RW (RW Int), e = .returned (.tuple #[.slice y.A y.z.size y.c, .int .i64 0]) ∧ OwnMM W.heap.size w' y ∧ TellR r.m.z p (mergeN r.m.z[p]!.z (basesK ks)) y.z) ∧ Below W.heap.size W w') := fun W A c hb hr => by
            have hq := HRD.out.below (belStep HWk.out.x.b hb)
            have := swTell_any r.m.A r.m.c r.k.z.size p r.m.z A c (basesK ks) W ⟨hq.m, hq.mm⟩ hrows HPK.out hr hmb
            rwa [hbs] at this
          have HXk := Lib.hid (hcsk ▸ HWk.out.x : BoxG w w.heap.size csk 35 wr)
          have h10 : csk[10]? = some (.slice r.m.A r.m.z.size r.m.c) := by rw [hcsk]; rfl
          have h0 : csk[0]? = some (.int .i64 (r.k.z.size : Int)) := by rw [hcsk, HKN.out]; rfl
          have h2 : csk[2]? = some (.int .i64 ((p : Int) + 1)) := by rw [hcsk, ← HP.out]; rfl
          have HH10 := Lib.hid h10
          have HH0 := Lib.hid h0
          have HH2 := Lib.hid h2
          have HCSK := Lib.hid hcsk
          have HKC := Lib.hid hkc
          have HRW := Lib.hid hrows
          have HMB := Lib.hid hmb
          have HKSZ := Lib.hid hks
          have HFC := Lib.hid hfc
          have HKl := Lib.hid hKl
          have hb0 : Below wr.heap.size wr wr := Below.refl _ _
          have KS : Hid (∀ W, Below wr.heap.size wr W → Below wr.heap.size wr W ∧ W.cell? ⟨w.heap.size, 10, none⟩ = some (.slice r.m.A r.m.z.size r.m.c) ∧ W.cell? ⟨w.heap.size, 0, none⟩ = some (.int .i64 (r.k.z.size : Int)) ∧ W.cell? ⟨w.heap.size, 2, none⟩ = some (.int .i64 ((p : Int) + 1)) ∧ boxAt W w.heap.size 18 = true ∧ rowAt W w.heap.size = csk) := fun W hb => by
            have hx := HXk.out.next hb
            exact ⟨hb, hx.at_ 10 HH10.out, hx.at_ 0 HH0.out, hx.at_ 2 HH2.out, hx.box hszk, hx.rowAt⟩
          clear hks hkc hcr hfc hn39 hrows hmb hbs hKl hcsk h10 h0 h2
          go_wp2
          go_region_held3 (fun W => Below wr.heap.size wr W ∧ W.cell? ⟨w.heap.size, 10, none⟩ = some (.slice r.m.A r.m.z.size r.m.c) ∧ W.cell? ⟨w.heap.size, 0, none⟩ = some (.int .i64 (r.k.z.size : Int)) ∧ W.cell? ⟨w.heap.size, 2, none⟩ = some (.int .i64 ((p : Int) + 1)) ∧ boxAt W w.heap.size 18 = true ∧ rowAt W w.heap.size = csk) (exact KS.out _ (by first | assumption | exact Below.drew (by assumption)))
            (first
              | (go_at_call 14; ((with_reducible refine (HMK.out _ (by first | assumption | exact Below.drew (by assumption))).mono ?_); rintro e wa ⟨⟨A3, c3, rfl, hr3⟩, hba⟩; have hbA : Below wr.heap.size wr wa := belStep (by first | assumption | exact Below.drew (by assumption)) hba; have HR3 := Lib.hid hr3; clear hr3 hba))
              | (go_at_call 60; ((with_reducible refine (HTL.out _ A3 c3 hbA HR3.out).mono ?_); rintro e wb ⟨⟨y, rfl, hy1, hy2⟩, hba⟩; have hbB : Below wr.heap.size wr wb := belStep hbA hba; have HY1 := Lib.hid hy1; have HY2 := Lib.hid hy2; clear hy1 hy2 hba)))
          have HXb := Lib.hid (HXk.out.next hbB)
          have HZb := Lib.hid (HWk.out.z.next hbB)
          have HQb := Lib.hid ((HWk.out.next hbB).q HRD.out)
          have c10 := HXb.out.at_ 10 HH10.out
          have f10 := HXb.out.froz 10
          have hbAs := hbA.size
          go_wp2
          have HX5 := Lib.hid (HXb.out.set (Nat.le_refl _) 10 (.slice y.A y.z.size y.c))
          have HZ5 := Lib.hid (HZb.out.far (g2 := w.heap.size) (Nat.le_refl _) (by omega) 10 (.slice y.A y.z.size y.c))
          have HQ5 := Lib.hid ((HQb.out.setM HY1.out (by have := HKl.out; omega)).box (W2 := wb.setCell ⟨w.heap.size, 10, none⟩ (.slice y.A y.z.size y.c)) (fun j hj => heap_setCell_other wb ⟨w.heap.size, 10, none⟩ j _ (by simp; omega)) (by simp))
          have HY5 : Hid (∀ W, Below (wb.setCell ⟨w.heap.size, 10, none⟩ (.slice y.A y.z.size y.c)).heap.size (wb.setCell ⟨w.heap.size, 10, none⟩ (.slice y.A y.z.size y.c)) W → RdMM W y) := fun W hb => HY1.out W (fun j hj hl => (hb.block j (by simpa using hl)).trans (heap_setCell_other wb ⟨w.heap.size, 10, none⟩ j _ (by have := HKl.out; simp; omega))) (by simpa using hb.size)
          obtain ⟨csm, hcsm⟩ : ∃ c, c = (encP { kR r K cK ks with m := y }).toArray := ⟨_, rfl⟩
          have hset : csk.setIfInBounds 10 (.slice y.A y.z.size y.c) = csm := by rw [HCSK.out, hcsm]; rfl
          rw [hset] at HX5
          obtain ⟨w5, hw5⟩ : ∃ W, W = wb.setCell ⟨w.heap.size, 10, none⟩ (.slice y.A y.z.size y.c) := ⟨_, rfl⟩
          rw [← hw5] at HX5 HZ5 HQ5 HY5 ⊢
          have HCSM := Lib.hid hcsm
          have HFL : Hid (∀ W, Below w5.heap.size w5 W → Calls Tryz.prog 61 #[.slice y.A y.z.size y.c, .int .i64 (r.k.z.size : Int), .int .i64 ((p : Int) + 1)] W fun e w' => e = .returned (.int .i64 (leastN (colM y.z p))) ∧ Below W.heap.size W w') := fun W hb =>
            swFloor_any y.A y.c r.k.z.size p y.z W (HY5.out W hb) (tell_rows HRW.out (marks_merge_S ((rows_iff.1 HRW.out).2.2 p (by have := (rows_iff.1 HRW.out).2.1; have := HPK.out; omega)) HMB.out) HY2.out) HPK.out
          have KS5 : Hid (∀ W, Below w5.heap.size w5 W → W.cell? ⟨w.heap.size, 5, none⟩ = some (.int .i64 r.floor) ∧ W.cell? ⟨w.heap.size, 10, none⟩ = some (.slice y.A y.z.size y.c) ∧ W.cell? ⟨w.heap.size, 0, none⟩ = some (.int .i64 (r.k.z.size : Int)) ∧ W.cell? ⟨w.heap.size, 2, none⟩ = some (.int .i64 ((p : Int) + 1)) ∧ W.cell? ⟨w.heap.size, 3, none⟩ = some (.int .i64 r.clock)) := fun W hb => by
            have hx := HX5.out.next hb
            have hcs : csm = _ := HCSM.out
            refine ⟨hx.at_ 5 (by rw [hcs]; rfl), hx.at_ 10 (by rw [hcs]; rfl), hx.at_ 0 (by rw [hcs, HKN.out]; rfl), hx.at_ 2 (by rw [hcs, ← HP.out]; rfl), hx.at_ 3 (by rw [hcs]; rfl)⟩
          clear c10 f10 hset hw5 hcsm HMK HTL
          refine wp_region_E (S := fun W => W.cell? ⟨w.heap.size, 5, none⟩ = some (.int .i64 r.floor) ∧ W.cell? ⟨w.heap.size, 10, none⟩ = some (.slice y.A y.z.size y.c) ∧ W.cell? ⟨w.heap.size, 0, none⟩ = some (.int .i64 (r.k.z.size : Int)) ∧ W.cell? ⟨w.heap.size, 2, none⟩ = some (.int .i64 ((p : Int) + 1)) ∧ W.cell? ⟨w.heap.size, 3, none⟩ = some (.int .i64 r.clock)) (by kernel_rfl) ?_
          have hS := KS5.out w5.drew (Below.refl _ _).drew
          refine takeD (some 77) (i := 0) (v := ?_) rfl rfl (by kernel_rfl) (by kernel_rfl) (by kernel_rfl) (fun _ _ _ h => h) (Or.inl ⟨by rfl, ?_⟩) hS ?_
          rotate_left
          · (intro W hW; (try dsimp only at hW); go_simp; with_reducible rfl)
          simp only [Act.put, List.setIfInBounds_toArray, List.set_cons_zero, List.set_cons_succ]
          refine takeD (some 78) (i := 1) (v := ?_) rfl rfl (by kernel_rfl) (by kernel_rfl) (by kernel_rfl) (fun _ _ _ h => h) (Or.inl ⟨by rfl, ?_⟩) hS ?_
          rotate_left
          · (intro W hW; (try dsimp only at hW); go_simp; with_reducible rfl)
          simp only [Act.put, List.setIfInBounds_toArray, List.set_cons_zero, List.set_cons_succ]
          refine takeD (some 79) (i := 2) (v := ?_) rfl rfl (by kernel_rfl) (by kernel_rfl) (by kernel_rfl) (fun _ _ _ h => h) (Or.inl ⟨by rfl, ?_⟩) hS ?_
          rotate_left
          · (intro W hW; (try dsimp only at hW); go_simp; with_reducible rfl)
          simp only [Act.put, List.setIfInBounds_toArray, List.set_cons_zero, List.set_cons_succ]
          refine takeD (some 80) (i := 3) (v := ?_) rfl rfl (by kernel_rfl) (by kernel_rfl) (by kernel_rfl) (fun _ _ _ h => h) (Or.inl ⟨by rfl, ?_⟩) hS ?_
          rotate_left
          · (intro W hW; (try dsimp only at hW); go_simp; with_reducible rfl)
          simp only [Act.put, List.setIfInBounds_toArray, List.set_cons_zero, List.set_cons_succ]
          refine takeD (some 81) (i := 4) (v := ?_) rfl rfl (by kernel_rfl) (by kernel_rfl) (by kernel_rfl) (fun _ _ _ h => h) (Or.inl ⟨by rfl, ?_⟩) hS ?_
          rotate_left
          · (intro W hW; (try dsimp only at hW); go_simp; with_reducible rfl)
          simp only [Act.put, List.setIfInBounds_toArray, List.set_cons_zero, List.set_cons_succ]
          refine takeD (some 82) (i := 5) (v := ?_) rfl rfl (by kernel_rfl) (by kernel_rfl) (by kernel_rfl) (fun _ _ _ h => h) (Or.inl ⟨by rfl, ?_⟩) hS ?_
          rotate_left
          · (intro W hW; (try dsimp only at hW); go_simp; with_reducible rfl)
          simp only [Act.put, List.setIfInBounds_toArray, List.set_cons_zero, List.set_cons_succ]
          refine takeD (some 83) (i := 6) (v := ?_) rfl rfl (by kernel_rfl) (by kernel_rfl) (by kernel_rfl) (fun _ _ _ h => h) (Or.inl ⟨by rfl, ?_⟩) hS ?_
          rotate_left
          · (intro W hW; (try dsimp only at hW); go_simp; with_reducible rfl)
          simp only [Act.put, List.setIfInBounds_toArray, List.set_cons_zero, List.set_cons_succ]
          refine takeD (some 84) (i := 7) (v := ?_) rfl rfl (by kernel_rfl) (by kernel_rfl) (by kernel_rfl) (fun _ _ _ h => h) (Or.inl ⟨by rfl, ?_⟩) hS ?_
          rotate_left
          · (intro W hW; (try dsimp only at hW); go_simp; with_reducible rfl)
          simp only [Act.put, List.setIfInBounds_toArray, List.set_cons_zero, List.set_cons_succ]
          refine takeD (some 86) (i := 9) (v := ?_) rfl rfl (by kernel_rfl) (by kernel_rfl) (by kernel_rfl) (fun _ _ _ h => h) (Or.inl ⟨by rfl, ?_⟩) hS ?_
          rotate_left
          · (intro W hW; (try dsimp only at hW); go_simp; with_reducible rfl)
          simp only [Act.put, List.setIfInBounds_toArray, List.set_cons_zero, List.set_cons_succ]
          refine takeD (some 87) (i := 10) (v := ?_) rfl rfl (by kernel_rfl) (by kernel_rfl) (by kernel_rfl) (fun _ _ _ h => h) (Or.inl ⟨by rfl, ?_⟩) hS ?_
          rotate_left
          · (intro W hW; (try dsimp only at hW); go_simp; with_reducible rfl)
          simp only [Act.put, List.setIfInBounds_toArray, List.set_cons_zero, List.set_cons_succ]
          refine wpAnyE_ready (rs := [8]) (by kernel_rfl) (by simp) (AllReadyE.cons rfl (fun K' hK' => ?_) AllReadyE.nil)
          go_simp
          refine (HFL.out _ (Below.refl _ _).drew).mono ?_
          rintro e w6 ⟨rfl, hb6⟩
          have HB6 : Hid (Below w5.heap.size w5 w6) := Lib.hid (belStep (Below.refl _ _).drew hb6)
          clear hb6
          refine hK'.out _ _ (KS5.out _ HB6.out) (fun _ => ?_)
          clear hK' K' hS
          have hS := KS5.out w6 HB6.out
          refine takeD (some 88) (i := 11) (v := ?_) rfl rfl (by kernel_rfl) (by kernel_rfl) (by kernel_rfl) (fun _ _ _ h => h) (Or.inl ⟨by rfl, ?_⟩) hS ?_
          rotate_left
          · (intro W hW; (try dsimp only at hW); go_simp; with_reducible rfl)
          simp only [Act.put, List.setIfInBounds_toArray, List.set_cons_zero, List.set_cons_succ]
          refine takeD (some 89) (i := 12) (v := ?_) rfl rfl (by kernel_rfl) (by kernel_rfl) (by kernel_rfl) (fun _ _ _ h => h) (Or.inl ⟨by rfl, ?_⟩) hS ?_
          rotate_left
          · (intro W hW; (try dsimp only at hW); go_simp; with_reducible rfl)
          simp only [Act.put, List.setIfInBounds_toArray, List.set_cons_zero, List.set_cons_succ]
          refine takeD (some 90) (i := 13) (v := ?_) rfl rfl (by kernel_rfl) (by kernel_rfl) (by kernel_rfl) (fun _ _ _ h => h) (Or.inl ⟨by rfl, ?_⟩) hS ?_
          rotate_left
          · (intro W hW; (try dsimp only at hW); go_simp; with_reducible rfl)
          simp only [Act.put, List.setIfInBounds_toArray, List.set_cons_zero, List.set_cons_succ]
          have hS' := hS
          have f5 := (HX5.out.next HB6.out).froz 5
          have c5 := hS.1
          refine wpAnyE_ready (rs := [14]) (by kernel_rfl) (by simp) (AllReadyE.last rfl (by kernel_rfl) (fun K' hK' => ?_))
          go_simp
          refine hK'.out _ _ ?_
          clear hK' K' c5 f5
          refine wpAnyE_done (by kernel_rfl) ?_ _
          have HX6 := Lib.hid (HX5.out.next HB6.out)
          have HZ6 := Lib.hid (HZ5.out.next HB6.out)
          have HQ6 := Lib.hid (HQ5.out.next HB6.out)
          obtain ⟨ff, hff⟩ : ∃ f, max r.floor (min (leastN (colM y.z p)) r.clock) = f := ⟨_, rfl⟩
          rw [hff]
          have HFF := Lib.hid hff
          have HX7 := Lib.hid (HX6.out.set (Nat.le_refl _) 5 (.int .i64 ff))
          have HZ7 := Lib.hid (HZ6.out.far (g2 := w.heap.size) (Nat.le_refl _) (by omega) 5 (.int .i64 ff))
          have HQ7 := Lib.hid ((HQ6.out.setF ff).box (W2 := w6.setCell ⟨w.heap.size, 5, none⟩ (.int .i64 ff)) (fun j hj => heap_setCell_other w6 ⟨w.heap.size, 5, none⟩ j _ (by simp; omega)) (by simp))
          obtain ⟨csf, hcsf⟩ : ∃ c, c = (encP { kR r K cK ks with m := y, floor := ff }).toArray := ⟨_, rfl⟩
          have hset : csm.setIfInBounds 5 (.int .i64 ff) = csf := by rw [HCSM.out, hcsf]; rfl
          rw [hset] at HX7
          obtain ⟨w7, hw7⟩ : ∃ W, W = w6.setCell ⟨w.heap.size, 5, none⟩ (.int .i64 ff) := ⟨_, rfl⟩
          rw [← hw7] at HX7 HZ7 HQ7 ⊢
          have HCF := Lib.hid hcsf
          have HZl := HZ7.out.lt
          clear hw7 hset hcsf hff hS' hS HFL KS5
          have c8 := HX7.out.at_ 8 (v := .slice r.o.A r.o.z.size r.o.c) (by rw [HCF.out]; rfl)
          have c5 := HX7.out.at_ 5 (v := .int .i64 ff) (by rw [HCF.out]; rfl)
          have HSW : Hid (Calls Tryz.prog 62 #[.slice r.o.A r.o.z.size r.o.c, .int .i64 ff] w7 fun e w' => ∃ (Ao : Option Addr) (co : Nat) (zo : Array (Int × Int)), e = .returned (.slice Ao zo.size co) ∧ zo = keptO r.o.z ff ∧ RdN encA_I 2 w' ⟨Ao, co, zo⟩ ∧ (∀ g off, Ao = some ⟨g, off, none⟩ → w7.heap.size ≤ g) ∧ Below w7.heap.size w7 w') :=
            (ckSweep_any r.o.A r.o.c r.o.z ff w7 (HRD.out.below HX7.out.b).o.rd (by have := HFM.out.o; omega)).mono fun e w' ⟨⟨⟨Ao, co, zo⟩, h1, h2, h3, h4⟩, h5⟩ => ⟨Ao, co, zo, h1, h2, h3, h4, h5⟩
          go_wp2_with fail
          refine HSW.out.mono ?_
          rintro _ w8 ⟨Ao, co, zo, rfl, hzo, hro, hfo, hb8⟩
          have HX8 := Lib.hid (HX7.out.next hb8)
          have HZ8 := Lib.hid (HZ7.out.next hb8)
          have HQ8 := Lib.hid ((HQ7.out.next hb8).setO hro (fun g off e => Nat.le_trans (by omega) (hfo g off e)))
          have HZO := Lib.hid hzo
          have c8 := HX8.out.at_ 8 (v := .slice r.o.A r.o.z.size r.o.c) (by rw [HCF.out]; rfl)
          have f8 := HX8.out.froz 8
          have HX9 := Lib.hid (HX8.out.set (Nat.le_refl _) 8 (.slice Ao zo.size co))
          have HZ9 := Lib.hid (HZ8.out.far (g2 := w.heap.size) (Nat.le_refl _) (by omega) 8 (.slice Ao zo.size co))
          obtain ⟨cse, hcse⟩ : ∃ c, c = (encP { kR r K cK ks with m := y, floor := ff, o := ⟨Ao, co, zo⟩ }).toArray := ⟨_, rfl⟩
          have hset : csf.setIfInBounds 8 (.slice Ao zo.size co) = cse := by rw [HCF.out, hcse]; rfl
          rw [hset] at HX9
          obtain ⟨hszE, honeE⟩ := rowP hcse
          have HCE := Lib.hid hcse
          have x1 := HX9.out.box hszE
          have x2 := HX9.out.rowAt
          have x3 := HZ9.out.box (n := 18) rfl
          clear hcse hset hb8 hro hfo hzo c5 HSW HMB HRW
          go_wp2
          refine bodyPost_ret (results_rep rfl rfl (setRow_heap _ _ _ _ _ _ HZ9.out.row) hszE) rfl ?_
          have hbW : Below w.heap.size w ((w8.setCell ⟨w.heap.size, 8, none⟩ (.slice Ao zo.size co)).setRow (w.heap.size + 1) cse) := HX9.out.b.trans ⟨rfl, rfl, rfl, by simp, fun j hj => setRow_other _ _ j _ (by omega)⟩
          have hrd := HQ8.out _ hbW (fun j hj hl => (setRow_other _ _ j _ (by omega)).trans (heap_setCell_other w8 ⟨w.heap.size, 8, none⟩ j _ (by simp; omega))) (by simp)
          refine ⟨⟨_, by rw [← HCE.out], ⟨rfl, HKSZ.out, fun i hi => ?_, HY2.out.1, fun i hi => ?_, ?_, HZO.out⟩, hrd⟩, hbW⟩
          · obtain ⟨⟨ids, h1, h2⟩, _⟩ := HKS.out.lo i hi (by rw [HKB.out.sz]; exact hi)
            refine ⟨kb[i]!.kn, ids, ?_, h1, h2⟩
            by_cases hip : i = p
            · rw [if_pos (by rw [HP.out, hip]), hip]
              exact HKB.out.me
            · rw [if_neg (by rw [HP.out]; omega), HKB.out.oth i hi hip]
          · rw [HY2.out.2 i hi]
            by_cases hip : i = p
            · rw [if_pos hip, if_pos (by rw [HP.out, hip]), hip]; rfl
            · rw [if_neg hip, if_neg (by rw [HP.out]; omega)]
          · rw [show r.self.toNat - 1 = p by rw [HP.out]; omega]
            exact HFF.out.symm
  exact hgoal _ hcs
end Go.Proofs.YtnmojicfmcbgmaaGreat
namespace Go.Proofs.YtnmojicfmcbgmaaGreat
open Go.RowKit Go.Sort Go.Lib
set_option maxRecDepth 100000
attribute [local go_sem ↓] execOp_loadRep execOp_storeRep
attribute [local go_sem] run_loadBox run_storeBox_any run_storeBox_newA allOne_lit size_lit
theorem pr_ref (c : RP) (cc : Array Value) (hcc : cc = (encP c).toArray) (h : PrbR c) (h5 : c.clock = 5) (W : World) (hr : RdP W c) :
    Calls Tryz.prog 18 #[.agg cc] W fun e w' => ∃ (s : RP) (cs : Array Value), e = .returned (.agg cs) ∧ cs = (encP s).toArray ∧ FewC s ∧ marksR s = #[0, 5, 0] ∧ RdP w' s ∧ Below W.heap.size W w' := by
  subst hcc
  refine (stRef_any c W hr h.few.m' h.chk).mono ?_
  rintro e w' ⟨⟨s, e1, e2, e3⟩, hb⟩
  obtain ⟨_, f2, f3⟩ := h.ref h5 e2
  exact ⟨s, _, e1, rfl, f2, f3, e3, hb⟩
/-- Three boxes of replicas, in a world that has only grown. -/
structure AwB (w : World) (g1 g5 g7 g9 : Nat) (cs ca cb cc : Array Value) (r a b c : RP) (W : World) : Prop where
  x1 : BoxG w g1 cs 35 W
  x5 : BoxG w g5 ca 35 W
  x7 : BoxG w g7 cb 35 W
  x9 : BoxG w g9 cc 35 W
  r : RdP W r
  a : RdP W a
  b : RdP W b
  c : RdP W c
theorem AwB.next {w W W' : World} {g1 g5 g7 g9 : Nat} {cs ca cb cc : Array Value} {r a b c : RP} (h : AwB w g1 g5 g7 g9 cs ca cb cc r a b c W) (hb : Below W.heap.size W W') : AwB w g1 g5 g7 g9 cs ca cb cc r a b c W' :=
  ⟨h.x1.next hb, h.x5.next hb, h.x7.next hb, h.x9.next hb, h.r.below hb, h.a.below hb, h.b.below hb, h.c.below hb⟩
theorem box_new {w W : World} (h : Below w.heap.size w W) (cs : Array Value) (t : TypeId) : BoxG w W.heap.size cs t (W.alloc (.cells cs t)) := ⟨belAlloc h _, heap_alloc_new W _⟩
set_option maxHeartbeats 32000000 in
theorem aw25_any (w : World) : Calls Tryz.prog 6 #[] w fun e w' => e = .returned (.bool true) ∧ Below w.heap.size w w' := by
  go_enter Tryz.func6, Tryz.ntmps6
  go_wp2_with fail
  refine (pr_new _).mono ?_
  rintro _ w1 ⟨r, cs, rfl, hcs, hn, hr, hb1⟩
  obtain ⟨hp, he0, hc0, hd0⟩ := hn.prb
  obtain ⟨hsz, hone⟩ := rowP hcs
  have HP := Lib.hid hp
  have HE0 := Lib.hid he0
  have HC0 := Lib.hid hc0
  have HD0 := Lib.hid hd0
  have HCS := Lib.hid hcs
  have HX := Lib.hid (box_new hb1 cs 35)
  have HR := Lib.hid (hr.below (bel1 w1 (.cells cs 35)))
  clear hb1 hr hn hp he0 hc0 hd0 hcs
  go_wp2_with fail
  refine (pr_new4 _).mono ?_
  rintro _ w2 ⟨c2, rfl, hsz2, hone2, hb2⟩
  have HX := Lib.hid ((HX.out.next hb2).next (bel1 w2 (.cells c2 35)))
  have HR := Lib.hid ((HR.out.below hb2).below (bel1 w2 (.cells c2 35)))
  have x1 := HX.out.box hsz
  have x2 := HX.out.rowAt
  clear hb2
  go_wp2_with fail
  refine (pr_put r cs HCS.out HP.out HE0.out HD0.out _ HR.out).mono ?_
  rintro _ w3 ⟨y, ca, rfl, hca, hy, ha, hb3⟩
  have hpa := HP.out.put hy
  have hda : ∀ i, i < 3 → ({ r with e := y } : RP).d.z[i]!.z = #[] := HD0.out
  have hdif := PrbR.diff HE0.out hy
  have hsz1 : y.z.size = 1 := by rw [hy]; rfl
  have h7 : ca[7]? = some (.slice y.A 1 y.c) := by rw [hca, ← hsz1]; rfl
  obtain ⟨hsza, honea⟩ := rowP hca
  obtain ⟨a, hae⟩ : ∃ a : RP, a = { r with e := y } := ⟨_, rfl⟩
  rw [← hae] at hca ha hpa hda hdif
  have H7 := Lib.hid h7
  have HCA := Lib.hid hca
  have HPA := Lib.hid hpa
  have HDA := Lib.hid hda
  have HDIF := Lib.hid hdif
  have HX3 := Lib.hid (HX.out.next hb3)
  have HXA := Lib.hid (box_new HX3.out.b ca 35)
  have HX := Lib.hid (HX3.out.next (bel1 w3 (.cells ca 35)))
  have HR := Lib.hid ((HR.out.below hb3).below (bel1 w3 (.cells ca 35)))
  have HA := Lib.hid (ha.below (bel1 w3 (.cells ca 35)))
  clear hb3 x1 x2 HX3 ha hca hpa hda hdif h7 hy hsz1 hae
  have y1 := HXA.out.box hsza
  have y2 := HXA.out.rowAt
  go_wp2_with fail
  refine (pr_fin a ca HCA.out HPA.out HDA.out _ HA.out).mono ?_
  rintro _ w4 ⟨b, cb, rfl, hcb, hpb, hdb, hrb, hb4⟩
  obtain ⟨hszb, honeb⟩ := rowP hcb
  have HCB := Lib.hid hcb
  have HPB := Lib.hid hpb
  have HDB := Lib.hid hdb
  have HX4 := Lib.hid (HX.out.next hb4)
  have HXB := Lib.hid (box_new HX4.out.b cb 35)
  have HX := Lib.hid (HX4.out.next (bel1 w4 (.cells cb 35)))
  have HXA := Lib.hid ((HXA.out.next hb4).next (bel1 w4 (.cells cb 35)))
  have HR := Lib.hid ((HR.out.below hb4).below (bel1 w4 (.cells cb 35)))
  have HA := Lib.hid ((HA.out.below hb4).below (bel1 w4 (.cells cb 35)))
  have HB := Lib.hid (hrb.below (bel1 w4 (.cells cb 35)))
  clear hb4 y1 y2 HX4 hcb hpb hdb hrb
  have y1 := HXB.out.box hszb
  have y2 := HXB.out.rowAt
  go_wp2_with fail
  refine (pr_put2 b cb HCB.out HPB.out HDB.out _ HB.out).mono ?_
  rintro _ w5 ⟨rfl, hb5⟩
  have HX5 := Lib.hid (HX.out.next hb5)
  have hb6 : Below w5.heap.size w5 (w5.alloc (.cells cb 35)) := bel1 w5 _
  have HX6 := Lib.hid (HX5.out.next hb6)
  have x1 := HX6.out.box hsz
  have x2 := HX6.out.rowAt
  have hbB : Below w5.heap.size w5 ((w5.alloc (.cells cb 35)).alloc (.cells (cs.setIfInBounds 3 (.int .i64 5)) 35)) := belAlloc hb6 _
  have HXC := Lib.hid (box_new HX6.out.b (cs.setIfInBounds 3 (.int .i64 5)) 35)
  have c3 := (box_new HX6.out.b cs 35).at_ 3 (v := .int .i64 r.clock) (by rw [HCS.out]; rfl)
  have f3 := (box_new HX6.out.b cs 35).froz 3
  have hg6 : (w5.alloc (.cells cb 35)).heap.size = w5.heap.size + 1 := by simp
  obtain ⟨c, hce⟩ : ∃ c : RP, c = { r with clock := 5 } := ⟨_, rfl⟩
  obtain ⟨cc, hcc⟩ : ∃ cc, cc = (encP c).toArray := ⟨_, rfl⟩
  have hset : cs.setIfInBounds 3 (.int .i64 5) = cc := by rw [HCS.out, hcc, hce]; rfl
  have HPC : Hid (PrbR c ∧ c.clock = 5) := by rw [hce]; exact ⟨HP.out.clk, rfl⟩
  have HRC : Hid (RdP w5 c) := by
    have hr5 := HR.out.below hb5
    rw [hce]
    exact ⟨hr5.e, hr5.o, hr5.k, hr5.kk, hr5.m, hr5.mm, hr5.fr, hr5.d, hr5.dd, hr5.it, hr5.ss⟩
  have HAW : Hid (AwB w w1.heap.size w3.heap.size w4.heap.size (w5.alloc (.cells cb 35)).heap.size cs ca cb (cs.setIfInBounds 3 (.int .i64 5)) r a b c ((w5.alloc (.cells cb 35)).alloc (.cells (cs.setIfInBounds 3 (.int .i64 5)) 35))) :=
    ⟨HX5.out.next hbB, (HXA.out.next hb5).next hbB, (HXB.out.next hb5).next hbB, HXC.out, (HR.out.below hb5).below hbB, (HA.out.below hb5).below hbB, (HB.out.below hb5).below hbB, HRC.out.below hbB⟩
  have HCC := Lib.hid hcc
  obtain ⟨hszc, honec⟩ := rowP hcc
  have HSET := Lib.hid hset
  clear hb5 y1 y2 hce hcc hset HX HX5 HX6 HXA HXB HXC HR HA HB HRC hb6 hbB
  rw [hg6] at HAW c3 f3
  obtain ⟨w6, hw6⟩ : ∃ W, W = (w5.alloc (.cells cb 35)).alloc (.cells (cs.setIfInBounds 3 (.int .i64 5)) 35) := ⟨_, rfl⟩
  rw [← hw6, HSET.out] at HAW
  have y1 := HAW.out.x7.box hszb
  have y2 := HAW.out.x7.rowAt
  have a7 := HAW.out.x5.at_ 7 H7.out
  rw [hw6] at y1 y2 a7
  go_wp2_with fail
  rw [← hw6]
  clear hw6 y1 y2 a7 x1 x2 c3 f3
  refine (pr_done b cb HCB.out HPB.out true HDB.out _ HAW.out.b).mono ?_
  rintro _ w7 ⟨rfl, hb7⟩
  have HAW := Lib.hid (HAW.out.next hb7)
  clear hb7
  have y1 := HAW.out.x5.box hsza
  have y2 := HAW.out.x5.rowAt
  go_wp2_with fail
  clear y1 y2
  refine (pr_done a ca HCA.out HPA.out false (HPA.out.undone HDA.out) _ HAW.out.a).mono ?_
  rintro _ w8 ⟨rfl, hb8⟩
  have HAW := Lib.hid (HAW.out.next hb8)
  clear hb8
  have y1 := HAW.out.x1.box hsz
  have y2 := HAW.out.x1.rowAt
  go_wp2_with fail
  clear y1 y2
  refine (pr_marks r cs HCS.out HP.out.few.c _ HP.out.marks _ HAW.out.r).mono ?_
  rintro _ w9 ⟨A9, c9, rfl, hr9, hb9⟩
  have HAW := Lib.hid (HAW.out.next hb9)
  have HS9 := Lib.hid (sameLit w9 A9 c9 #[0, 0, 0] #[.int .i64 0, .int .i64 0, .int .i64 0] hr9 (by simp [encI_R]) (by decide))
  clear hb9 hr9
  go_wp2_with fail
  refine HS9.out.mono ?_
  rintro _ w10 ⟨rfl, hb10⟩
  have HAW := Lib.hid ((HAW.out.next (bel1 w9 (.cells #[.int .i64 0, .int .i64 0, .int .i64 0] 3))).next hb10)
  clear hb10 HS9
  have y1 := HAW.out.x9.box hszc
  have y2 := HAW.out.x9.rowAt
  go_wp2_with fail
  clear y1 y2
  refine (pr_ref c cc HCC.out HPC.out.1 HPC.out.2 _ HAW.out.c).mono ?_
  rintro _ w11 ⟨s, ss, rfl, hss, hfs, hms, hrs, hb11⟩
  have HAW := Lib.hid (HAW.out.next hb11)
  have HSS := Lib.hid hss
  have HFS := Lib.hid hfs
  have HMS := Lib.hid hms
  have HRS := Lib.hid hrs
  clear hb11 hss hfs hms hrs
  go_wp2_with fail
  refine (pr_marks s ss HSS.out HFS.out _ HMS.out _ HRS.out).mono ?_
  rintro _ w12 ⟨A12, c12, rfl, hr12, hb12⟩
  have HAW := Lib.hid (HAW.out.next hb12)
  have HS12 := Lib.hid (sameLit w12 A12 c12 #[0, 5, 0] #[.int .i64 0, .int .i64 5, .int .i64 0] hr12 (by simp [encI_R]) (by decide))
  clear hb12 hr12
  go_wp2_with fail
  refine HS12.out.mono ?_
  rintro _ w13 ⟨rfl, hb13⟩
  have HAW := Lib.hid ((HAW.out.next (bel1 w12 (.cells #[.int .i64 0, .int .i64 5, .int .i64 0] 3))).next hb13)
  clear hb13 HS12
  have y1 := HAW.out.x1.box hsz
  have y2 := HAW.out.x1.rowAt
  go_wp2_with fail
  clear y1 y2
  refine (pr_check r cs HCS.out HP.out _ HAW.out.r).mono ?_
  rintro _ w14 ⟨rfl, hb14⟩
  have HAW := Lib.hid (HAW.out.next hb14)
  clear hb14
  go_wp2_with fail
  refine (pr_check0 _).mono ?_
  rintro _ w15 ⟨rfl, hb15⟩
  have HAW := Lib.hid (HAW.out.next hb15)
  clear hb15
  have y1 := HAW.out.x1.box hsz
  have y2 := HAW.out.x1.rowAt
  go_wp2_with fail
  clear y1 y2
  refine (pr_same r r cs cs HCS.out HCS.out HP.out.few.c HP.out.few.c true (sameRP_self r) _ HAW.out.r HAW.out.r).mono ?_
  rintro _ w16 ⟨rfl, hb16⟩
  have HAW := Lib.hid (HAW.out.next hb16)
  clear hb16
  have y1 := HAW.out.x1.box hsz
  have y2 := HAW.out.x1.rowAt
  have z1 := HAW.out.x5.box hsza
  have z2 := HAW.out.x5.rowAt
  go_wp2_with fail
  clear y1 y2 z1 z2
  refine (pr_same r a cs ca HCS.out HCA.out HP.out.few.c HPA.out.few.c false HDIF.out _ HAW.out.r HAW.out.a).mono ?_
  rintro _ w17 ⟨rfl, hb17⟩
  have HAW := Lib.hid (HAW.out.next hb17)
  clear hb17
  go_wp2
  go_ret
  exact ⟨rfl, HAW.out.x1.b⟩
end Go.Proofs.YtnmojicfmcbgmaaGreat
