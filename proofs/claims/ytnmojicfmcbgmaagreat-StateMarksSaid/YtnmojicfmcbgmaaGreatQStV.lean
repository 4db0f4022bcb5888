/- A command is put into a replica: state.Put, where it may be. A command of a replica is done: slices.Clone at rows of ranges, and at what is known; state.Finish, where it may be. The replica of the probes, and what it comes to: plain facts. What a table of marks hears, and tells: sweep.Tell, sweep.Floor; promises swept: clock.Sweep. A replica that is being brought to the present: its box, its own row of what is known. A replica is brought to the present: state.Refresh. -/
import Derived.Test.YtnmojicfmcbgmaaGreatQStU
import Derived.Test.YtnmojicfmcbgmaaGreatQStI
import Derived.Test.YtnmojicfmcbgmaaGreatQStG
import Derived.Test.YtnmojicfmcbgmaaGreatQTbE
import Derived.Test.YtnmojicfmcbgmaaGreatQRangesI
import Derived.Test.YtnmojicfmcbgmaaGreatQRangesO
import Derived.Test.YtnmojicfmcbgmaaGreatQKnJ
import Derived.Test.YtnmojicfmcbgmaaGreatQStN
import Derived.Test.YtnmojicfmcbgmaaGreatQStableF
import Derived.Test.YtnmojicfmcbgmaaGreatQSortJ
import Derived.Test.YtnmojicfmcbgmaaGreatQRpA
import Derived.Deep.CutRange
namespace Go.Proofs.YtnmojicfmcbgmaaGreat
open Go.RowKit Go.Sort Go.Lib
set_option maxRecDepth 100000
attribute [local go_sem ↓] execOp_loadRep execOp_storeRep
attribute [local go_sem] run_loadBox run_storeBox_any run_storeBox_newA allOne_lit size_lit
theorem BoxG.box {w W : World} {g : Nat} {cs : Array Value} {t : TypeId} (h : BoxG w g cs t W) {n : Nat} (hn : cs.size = n) : boxAt W g n = true := boxAt_of h.row hn
theorem BoxG.rowAt {w W : World} {g : Nat} {cs : Array Value} {t : TypeId} (h : BoxG w g cs t W) : rowAt W g = cs := rowAt_of h.row
theorem BoxG.froz {w W : World} {g : Nat} {cs : Array Value} {t : TypeId} (h : BoxG w g cs t W) (j : Nat) : W.frozen? ⟨g, j, none⟩ = false := by
  have := h.row
  simp [World.frozen?, this]
theorem BoxG.set {w W : World} {g : Nat} {cs : Array Value} {t : TypeId} (h : BoxG w g cs t W) (hg : w.heap.size ≤ g) (j : Nat) (v : Value) : BoxG w g (cs.setIfInBounds j v) t (W.setCell ⟨g, j, none⟩ v) :=
  ⟨h.b.setCell (p := ⟨g, j, none⟩) hg v, heap_setCell_same W g j cs t v h.row⟩
theorem BoxG.far {w W : World} {g g2 : Nat} {cs : Array Value} {t : TypeId} (h : BoxG w g cs t W) (hg : w.heap.size ≤ g2) (hne : g ≠ g2) (j : Nat) (v : Value) : BoxG w g cs t (W.setCell ⟨g2, j, none⟩ v) :=
  ⟨h.b.setCell (p := ⟨g2, j, none⟩) hg v, (heap_setCell_other W ⟨g2, j, none⟩ g v (by simpa using hne)).trans h.row⟩
section
variable (w : World) (a b c : Array Value) (s t u : TypeId)
theorem BoxG.t1 : BoxG w w.heap.size a s (((w.alloc (.cells a s)).alloc (.cells b t)).alloc (.cells c u)) :=
  ⟨belAlloc (belAlloc (bel1 w _) _) _, blk_alloc (blk_alloc (heap_alloc_new w _))⟩
theorem BoxG.t2 : BoxG w (w.heap.size + 1) b t (((w.alloc (.cells a s)).alloc (.cells b t)).alloc (.cells c u)) :=
  ⟨belAlloc (belAlloc (bel1 w _) _) _, blk_alloc (heap_alloc2_new w _ _)⟩
theorem BoxG.t3 : BoxG w (w.heap.size + 1 + 1) c u (((w.alloc (.cells a s)).alloc (.cells b t)).alloc (.cells c u)) := by
  refine ⟨belAlloc (belAlloc (bel1 w _) _) _, ?_⟩
  have := heap_alloc_new ((w.alloc (.cells a s)).alloc (.cells b t)) (.cells c u)
  rwa [show ((w.alloc (.cells a s)).alloc (.cells b t)).heap.size = w.heap.size + 1 + 1 by simp] at this
end
theorem rowP {cs : Array Value} {r : RP} (h : cs = (encP r).toArray) : cs.size = 18 ∧ allOne cs = true := by
  subst h
  exact ⟨rfl, encP_one r⟩
set_option maxHeartbeats 8000000 in
theorem stPut_done (r : RP) (e : EN) (w : World) (h : RdP w r) (hf : FewC r) (hc : chkR r = true) (hs : 1 ≤ selfN_I e.id ∧ selfN_I e.id ≤ r.n) (hd : doneI r e.id = true) (hp : e.ph ≠ 6) :
    Calls Tryz.prog 22 #[.agg (encP r).toArray, .agg (encE e).toArray] w fun x w' => x = .returned (.tuple #[.agg (encP r).toArray, .int .i64 33]) ∧ Below w.heap.size w w' := by
  have HC : Hid (∀ W, Below w.heap.size w W → Calls Tryz.prog 9 #[.agg (encP r).toArray] W fun e w' => e = .returned (.int .i64 0) ∧ Below W.heap.size W w') := fun W hb => by
    have := stCheck_any r W (h.below hb) hf
    rwa [repE_yes hc] at this
  have HD : Hid (∀ W, Below w.heap.size w W → Calls Tryz.prog 39 #[.agg (encP r).toArray, .int .i64 e.id] W fun e w' => e = .returned (.bool true) ∧ Below W.heap.size W w') := fun W hb => by
    have := done0_any r e.id W (h.d.below hb).rd (fun i hi => ((h.dd i hi).below hb).rd) (chkR_d hc) (by have := hf.d; omega)
    rwa [hd] at this
  obtain ⟨cs, hcs⟩ : ∃ cs, cs = (encP r).toArray := ⟨_, rfl⟩
  obtain ⟨hsz, hone⟩ := rowP hcs
  have HQ0 : Hid (cs[0]? = some (.int .i64 r.n)) := by show _ = _; rw [hcs]; rfl
  obtain ⟨sf, hsf⟩ : ∃ s, selfN_I e.id = s := ⟨_, rfl⟩
  have HSf : Hid (∀ W, Calls Tryz.prog 64 #[.int .i64 e.id] W fun e w' => e = .returned (.int .i64 sf) ∧ W = w') := fun W => hsf ▸ Self_any e.id W
  rw [hsf] at hs
  have e1 : decide (sf < 1) = false := decide_eq_false (by omega)
  have e2 : decide (r.n < sf) = false := decide_eq_false (by omega)
  have e3 : (e.ph != 6) = true := bne_iff_ne.2 hp
  rw [← hcs] at HC HD ⊢
  simp only [encP] at hcs
  clear h hf hc hs hd hp hsf
  simp only [encE]
  rw [hcs]
  go_enter Tryz.func22, Tryz.ntmps22
  rw [← hcs]
  clear hcs
  have HX := Lib.hid (BoxG.t1 w cs (encE e).toArray zer18 35 60 35)
  have HE := Lib.hid (BoxG.t2 w cs (encE e).toArray zer18 35 60 35)
  have HZ := Lib.hid (BoxG.t3 w cs (encE e).toArray zer18 35 60 35)
  simp only [encE, zer18] at HX HE HZ
  have x1 := HX.out.box hsz
  have x2 := HX.out.rowAt
  have d0 := HE.out.at_ 0 (v := .int .i64 e.id) rfl
  go_wp2_with (first
    | (go_at_call 64; refine (HSf.out _).mono ?_; rintro _ _ ⟨rfl, rfl⟩)
    | (go_at_call 9; refine (HC.out _ HX.out.b).mono ?_; rintro _ w1 ⟨rfl, hb⟩; have HX1 := Lib.hid (HX.out.next hb); have HE1 := Lib.hid (HE.out.next hb); have HZ1 := Lib.hid (HZ.out.next hb); clear hb x1 x2 d0; have x1 := HX1.out.box hsz; have x2 := HX1.out.rowAt; have c0 := HX1.out.at_ 0 HQ0.out; have d0 := HE1.out.at_ 0 (v := .int .i64 e.id) rfl)
    | (go_at_call 39; refine (HD.out _ HX1.out.b).mono ?_; rintro _ w2 ⟨rfl, hb⟩; have HX2 := Lib.hid (HX1.out.next hb); have HE2 := Lib.hid (HE1.out.next hb); have HZ2 := Lib.hid (HZ1.out.next hb); clear hb x1 x2 d0 c0; have x1 := HX2.out.box hsz; have x2 := HX2.out.rowAt; have x3 := HZ2.out.box (n := 18) rfl; have d1 := HE2.out.at_ 1 (v := .int .i64 e.ph) rfl))
  refine bodyPost_ret (results_rep2 rfl rfl (setRow_heap _ _ _ _ _ _ HZ2.out.row) hsz) rfl ?_
  exact ⟨rfl, HX2.out.b.trans ⟨rfl, rfl, rfl, by simp, fun j hj => setRow_other _ _ j _ (by omega)⟩⟩
/-- A row of commands is no box of a replica. -/
theorem ent_keep {W W' : World} {B g : Nat} {A : Option Addr} {d : Array EN} (h : RdK encE 10 B W A d) (hn : ∀ t s, W.cell? ⟨g, t, none⟩ ≠ some (.string s)) (ho : ∀ j, j ≠ g → W'.heap[j]? = W.heap[j]?) : RdK encE 10 B W' A d := by
  intro h0
  obtain ⟨b, off, e, hlt, hc⟩ := h h0
  have hb : b ≠ g := by
    rintro rfl
    have h8 := hc 8 (by omega)
    rw [get_flatK _ _ _ _ (by omega)] at h8
    exact hn _ _ h8
  exact ⟨b, off, e, hlt, fun t ht => (World.cell?_of_block (w := W) (a := ⟨b, off + t, none⟩) (ho b hb)).trans (hc t ht)⟩
theorem rep_nostr (r : RP) (t : Nat) (s : ByteArray) : (encP r).toArray[t]? ≠ some (.string s) := by
  intro h
  have hm : Value.string s ∈ encP r := by
    rw [List.getElem?_toArray] at h
    exact List.mem_of_getElem? h
  simp [encP] at hm
theorem zer_nostr (t : Nat) (s : ByteArray) : zer18[t]? ≠ some (.string s) := rep_nostr rp0 t s
set_option maxHeartbeats 16000000 in
theorem stPut_new (r : RP) (e : EN) (w : World) (h : RdP w r) (he : RdE w e) (hf : FewC r) (hc : chkR r = true) (hs : 1 ≤ selfN_I e.id ∧ selfN_I e.id ≤ r.n) (hd : doneI r e.id = false) (hre : r.e.z = #[]) (hez : e.z = #[]) (hp : putC #[] e = 0) (hp1 : putS #[] e = #[e]) :
    Calls Tryz.prog 22 #[.agg (encP r).toArray, .agg (encE e).toArray] w fun x w' => (∃ y : RW EN, x = .returned (.tuple #[.agg (encP { r with e := y }).toArray, .int .i64 0]) ∧ y.z = #[e] ∧ RdP w' { r with e := y }) ∧ Below w.heap.size w w' := by
  have HC : Hid (∀ W, Below w.heap.size w W → Calls Tryz.prog 9 #[.agg (encP r).toArray] W fun e w' => e = .returned (.int .i64 0) ∧ Below W.heap.size W w') := fun W hb => by
    have := stCheck_any r W (h.below hb) hf
    rwa [repE_yes hc] at this
  have HD : Hid (∀ W, Below w.heap.size w W → Calls Tryz.prog 39 #[.agg (encP r).toArray, .int .i64 e.id] W fun e w' => e = .returned (.bool false) ∧ Below W.heap.size W w') := fun W hb => by
    have := done0_any r e.id W (h.d.below hb).rd (fun i hi => ((h.dd i hi).below hb).rd) (chkR_d hc) (by have := hf.d; omega)
    rwa [hd] at this
  have HP : Hid (∀ W, Below w.heap.size w W → Calls Tryz.prog 65 #[.slice r.e.A r.e.z.size r.e.c, .agg (encE e).toArray] W fun x w' => (∃ (A : Option Addr) (c : Nat), x = .returned (.tuple #[.slice A 1 c, .int .i64 0]) ∧ RdK encE 10 w'.heap.size w' A #[e]) ∧ Below W.heap.size W w') := fun W hb => by
    refine (tPut_any r.e.A r.e.c r.e.z e W ((h.below hb).tab hf) (he.below hb)).mono fun x w' ⟨⟨A', c', h1, h2⟩, h3⟩ => ?_
    have e1 : putD #[] e = #[e] := by unfold putD; rw [if_pos hp, hp1]
    rw [hre, hp, e1] at h1
    rw [hre, e1] at h2
    exact ⟨⟨A', c', h1, h2.rd⟩, h3⟩
  have HRD := Lib.hid h
  obtain ⟨cs, hcs⟩ : ∃ cs, cs = (encP r).toArray := ⟨_, rfl⟩
  obtain ⟨hsz, hone⟩ := rowP hcs
  have HCS := Lib.hid hcs
  have HQ0 : Hid (cs[0]? = some (.int .i64 r.n)) := by show _ = _; rw [hcs]; rfl
  have HQ7 : Hid (cs[7]? = some (.slice r.e.A r.e.z.size r.e.c)) := by show _ = _; rw [hcs]; rfl
  obtain ⟨sf, hsf⟩ : ∃ s, selfN_I e.id = s := ⟨_, rfl⟩
  have HSf : Hid (∀ W, Calls Tryz.prog 64 #[.int .i64 e.id] W fun e w' => e = .returned (.int .i64 sf) ∧ W = w') := fun W => hsf ▸ Self_any e.id W
  rw [hsf] at hs
  have e1 : decide (sf < 1) = false := decide_eq_false (by omega)
  have e2 : decide (r.n < sf) = false := decide_eq_false (by omega)
  have HEZ := Lib.hid hez
  rw [← hcs] at HC HD
  have hgoal : ∀ x : Array Value, cs = x → Calls Tryz.prog 22 #[.agg x, .agg (encE e).toArray] w fun x w' => (∃ y : RW EN, x = .returned (.tuple #[.agg (encP { r with e := y }).toArray, .int .i64 0]) ∧ y.z = #[e] ∧ RdP w' { r with e := y }) ∧ Below w.heap.size w w' := by
    rintro _ rfl
    simp only [encP] at hcs
    clear h hf hc hs hd hp hsf hre hez hp1 he
    simp only [encE] at HP ⊢
    rw [hcs]
    go_enter Tryz.func22, Tryz.ntmps22
    rw [← hcs]
    clear hcs
    have HX := Lib.hid (BoxG.t1 w cs (encE e).toArray zer18 35 60 35)
    have HE := Lib.hid (BoxG.t2 w cs (encE e).toArray zer18 35 60 35)
    have HZ := Lib.hid (BoxG.t3 w cs (encE e).toArray zer18 35 60 35)
    simp only [encE, zer18] at HX HE HZ
    have x1 := HX.out.box hsz
    have x2 := HX.out.rowAt
    have d0 := HE.out.at_ 0 (v := .int .i64 e.id) rfl
    go_wp2_with (first
      | (go_at_call 64; refine (HSf.out _).mono ?_; rintro _ _ ⟨rfl, rfl⟩)
      | (go_at_call 9; refine (HC.out _ HX.out.b).mono ?_; rintro _ w1 ⟨rfl, hb⟩; have HX1 := Lib.hid (HX.out.next hb); have HE1 := Lib.hid (HE.out.next hb); have HZ1 := Lib.hid (HZ.out.next hb); clear hb x1 x2 d0; have x1 := HX1.out.box hsz; have x2 := HX1.out.rowAt; have c0 := HX1.out.at_ 0 HQ0.out; have d0 := HE1.out.at_ 0 (v := .int .i64 e.id) rfl)
      | (go_at_call 39; refine (HD.out _ HX1.out.b).mono ?_; rintro _ w2 ⟨rfl, hb⟩; have HX2 := Lib.hid (HX1.out.next hb); have HE2 := Lib.hid (HE1.out.next hb); have HZ2 := Lib.hid (HZ1.out.next hb); clear hb x1 x2 d0 c0; have c7 := HX2.out.at_ 7 HQ7.out;
         have d0 := HE2.out.at_ 0 (v := .int .i64 e.id) rfl; have d1 := HE2.out.at_ 1 (v := .int .i64 e.ph) rfl; have d2 := HE2.out.at_ 2 (v := .int .i64 e.qu) rfl; have d3 := HE2.out.at_ 3 (v := .int .i64 e.t) rfl; have d4 := HE2.out.at_ 4 (v := .int .i64 e.bal) rfl; have d5 := HE2.out.at_ 5 (v := .int .i64 e.abal) rfl; have d6 := HE2.out.at_ 6 (v := .int .i64 e.seen) rfl; have d7 := HE2.out.at_ 7 (v := .int .i64 e.age) rfl; have d8 := HE2.out.at_ 8 (v := .string e.pay) rfl; have d9 := HE2.out.at_ 9 (v := .slice e.A e.z.size e.c) rfl)
      | (go_at_call 65; refine (HP.out _ HX2.out.b).mono ?_; rintro _ w3 ⟨⟨A3, c3, rfl, hr3⟩, hb⟩; have HX3 := Lib.hid (HX2.out.next hb); have HZ3 := Lib.hid (HZ2.out.next hb); have HR3 := Lib.hid hr3; clear hb hr3 c7 d0 d1 d2 d3 d4 d5 d6 d7 d8 d9;
         have c7 := HX3.out.at_ 7 HQ7.out; have f7 := HX3.out.froz 7; have HX4 := Lib.hid (HX3.out.set (Nat.le_refl _) 7 (.slice A3 1 c3)); have HZ4 := Lib.hid (HZ3.out.far (Nat.le_refl _) (by omega) 7 (.slice A3 1 c3));
         obtain ⟨cs4, hcs4⟩ : ∃ c, c = (encP { r with e := ⟨A3, c3, #[e]⟩ }).toArray := ⟨_, rfl⟩; have hset : cs.setIfInBounds 7 (.slice A3 1 c3) = cs4 := (by rw [HCS.out, hcs4]; rfl); obtain ⟨hsz4, hone4⟩ := rowP hcs4; rw [hset] at HX4;
         have x1 := HX4.out.box hsz4; have x2 := HX4.out.rowAt; have x3 := HZ4.out.box (n := 18) rfl; have HS4 := Lib.hid hcs4; have HST := Lib.hid hset; clear hset hcs4))
    refine bodyPost_ret (results_rep2 rfl rfl (setRow_heap _ _ _ _ _ _ HZ4.out.row) hsz4) rfl ?_
    have hbW : Below w.heap.size w ((w3.setCell ⟨w.heap.size, 7, none⟩ (.slice A3 1 c3)).setRow (w.heap.size + 1 + 1) cs4) := HX4.out.b.trans ⟨rfl, rfl, rfl, by simp, fun j hj => setRow_other _ _ j _ (by omega)⟩
    have hkeep : RdK encE 10 w3.heap.size ((w3.setCell ⟨w.heap.size, 7, none⟩ (.slice A3 1 c3)).setRow (w.heap.size + 1 + 1) cs4) A3 #[e] := by
      refine ent_keep (ent_keep HR3.out (g := w.heap.size) (fun t s => ?_) (fun j hj => heap_setCell_other w3 ⟨w.heap.size, 7, none⟩ j _ (by simpa using hj))) (g := w.heap.size + 1 + 1) (fun t s => ?_) (fun j hj => setRow_other _ _ j _ hj)
      · rw [cell_of_row _ _ t _ _ (0, 0) HX3.out.row, HCS.out]
        exact rep_nostr r t s
      · rw [cell_of_row _ _ t _ _ (0, 0) HZ4.out.row]
        exact zer_nostr t s
    have hr := HRD.out.below hbW
    refine ⟨⟨⟨A3, c3, #[e]⟩, by rw [← HS4.out]; rfl, rfl, ⟨⟨hkeep.mono (by simp), fun i hi => ?_⟩, hr.o, hr.k, hr.kk, hr.m, hr.mm, hr.fr, hr.d, hr.dd, hr.it, hr.ss⟩⟩, hbW⟩
    have hi' : i < 1 := hi
    obtain rfl : i = 0 := by omega
    show RdE0 _ e
    exact ⟨fun h => by rw [HEZ.out] at h; exact absurd h (by decide), by rw [HEZ.out]; exact Nat.zero_le _⟩
  exact hgoal _ hcs
end Go.Proofs.YtnmojicfmcbgmaaGreat
namespace Go.Proofs.YtnmojicfmcbgmaaGreat
open Go.RowKit Go.Sort Go.Lib
set_option maxRecDepth 100000
set_option maxHeartbeats 2000000 in
theorem CloneD (ad : Addr) (c : Nat) (d : Array (RW (Int × Int))) (w : World) (h : RdK encW 1 w.heap.size w (some ad) d) (hd : d.size ≤ 1000000) :
    Calls Tryz.prog 67 #[.slice (some ad) d.size c] w fun e w' => ∃ v, e = .returned v ∧ w'.ownsRow w.heap.size 51 1 v d.size (flatK encW 1 d).toList ∧ Below w.heap.size w w' := by
  obtain ⟨i0, hi0, hz0, hz1, hz2⟩ := info_parts rngs_info
  have HR := Lib.hid h
  clear h
  have q33 : ∀ (w : World) (a : Option Addr) (n c n' c' : Nat), (binOp .eql 27 (.slice a n c) (.slice none n' c')).run Tryz.prog w = .ok (.bool a.isNone) w := fun w a n c n' c' => Lib.run_eql_slice_nil w _ _ a n c n' c' Tryz.underlying27
  go_enter Tryz.func67, Tryz.ntmps67
  go_wp2_with (at_builtin; refine append_rdK encW_1 encW_len (by decide) rfl (.tmp 5) (.tmp 6) 27 rfl w.heap.size 51 i0 (.slice none 0 0) 24 Tryz.underlying27 hi0 hz0 hz1 hz2 rfl _ #[] rfl (empty_ownsK w 51 encW 1) w.heap.size (some ad) c d rfl (HR.out.alloc (Nat.le_refl _) _) (fun h => by cases h) (by simp; omega) (by decide) (by simp) ?_; intro v1 w1 hown1 hg1 _)
  go_ret
  have hb1 : Below w.heap.size w w1 := (bel1 w _).grown hg1 (by simp) (fun k hk => ((empty_ownsK w 51 (encW (α := Int × Int)) 1).lt k hk).1)
  exact ⟨v1, rfl, by simpa using hown1, hb1⟩
set_option maxHeartbeats 2000000 in
theorem CloneKn (ad : Addr) (c : Nat) (d : Array KE) (w : World) (h : RdK encKE 3 w.heap.size w (some ad) d) (hd : d.size ≤ 1000000) :
    Calls Tryz.prog 56 #[.slice (some ad) d.size c] w fun e w' => ∃ v, e = .returned v ∧ w'.ownsRow w.heap.size 53 3 v d.size (flatK encKE 3 d).toList ∧ Below w.heap.size w w' := by
  obtain ⟨i0, hi0, hz0, hz1, hz2⟩ := info_parts kno_info
  have HR := Lib.hid h
  clear h
  have q33 : ∀ (w : World) (a : Option Addr) (n c n' c' : Nat), (binOp .eql 24 (.slice a n c) (.slice none n' c')).run Tryz.prog w = .ok (.bool a.isNone) w := fun w a n c n' c' => Lib.run_eql_slice_nil w _ _ a n c n' c' Tryz.underlying24
  go_enter Tryz.func56, Tryz.ntmps56
  go_wp2_with (at_builtin; refine append_rdK encKE_1 encKE_len (by decide) rfl (.tmp 5) (.tmp 6) 24 rfl w.heap.size 53 i0 (.agg #[.int .i64 0, .slice none 0 0, .slice none 0 0]) 56 Tryz.underlying24 hi0 hz0 hz1 hz2 rfl _ #[] rfl (empty_ownsK w 53 encKE 3) w.heap.size (some ad) c d rfl (HR.out.alloc (Nat.le_refl _) _) (fun h => by cases h) (by simp; omega) (by decide) (by simp) ?_; intro v1 w1 hown1 hg1 _)
  go_ret
  have hb1 : Below w.heap.size w w1 := (bel1 w _).grown hg1 (by simp) (fun k hk => ((empty_ownsK w 53 encKE 3).lt k hk).1)
  exact ⟨v1, rfl, by simpa using hown1, hb1⟩
attribute [local go_sem ↓] execOp_loadRep execOp_storeRep
attribute [local go_sem] run_loadBox run_storeBox_any run_storeBox_newA allOne_lit size_lit
theorem sli_ofB {w : World} {B s n : Nat} {e : TypeId} {v : Value} {xs : List Value} (h : w.ownsRow B e s v n xs) (hn : 0 < n) : ∃ g c, v = .slice (some ⟨g, 0, none⟩) n c ∧ B ≤ g ∧ g < w.heap.size := by
  obtain ⟨_, ⟨_, h0⟩ | ⟨g, c, _, e, hB, hh, _⟩⟩ := h
  · omega
  · exact ⟨g, c, e, hB, (Array.getElem?_eq_some_iff.1 hh).1⟩
/-- What is done of a replica, once a command is. -/
def FinR (r : RP) (p : Nat) (sq : Int) (y : Array (RW (Int × Int))) : Prop := y.size = r.d.z.size ∧ (∀ i, i < r.d.z.size → i ≠ p → y[i]!.z = r.d.z[i]!.z) ∧ IsN (pAdd r.d.z[p]!.z #[(sq, sq)]) y[p]!.z ∧ y[p]!.z.size ≤ r.d.z[p]!.z.size + 1
theorem fin_end {r : RP} {w W : World} {K cK p c4 B B2 : Nat} {A4 : Option Addr} {out : Array (Int × Int)} {sq : Int} (h : RdP w r) (hb : Below w.heap.size w W) (hK : W.ownsRow B 51 1 (.slice (some ⟨K, 0, none⟩) r.d.z.size cK) r.d.z.size ((r.d.z.toList.map RW.v).set p (.slice A4 out.size c4)))
    (hO : W.ownsRow B2 81 2 (.slice A4 out.size c4) out.size (flatK encR 2 out).toList) (hp : p < r.d.z.size) (hin : IsN (pAdd r.d.z[p]!.z #[(sq, sq)]) out) (hos : out.size ≤ r.d.z[p]!.z.size + 1) :
    FinR r p sq (r.d.z.setIfInBounds p ⟨A4, c4, out⟩) ∧ RdP W { r with d := ⟨some ⟨K, 0, none⟩, cK, r.d.z.setIfInBounds p ⟨A4, c4, out⟩⟩ } := by
  have hsz : (r.d.z.setIfInBounds p ⟨A4, c4, out⟩).size = r.d.z.size := by simp
  have hat : (r.d.z.setIfInBounds p ⟨A4, c4, out⟩)[p]! = ⟨A4, c4, out⟩ := getElem!_set_same r.d.z p _ hp
  have hne : ∀ i, i ≠ p → (r.d.z.setIfInBounds p ⟨A4, c4, out⟩)[i]! = r.d.z[i]! := fun i hi => by
    rw [getElem!_def, getElem!_def, Array.getElem?_setIfInBounds, if_neg (Ne.symm hi)]
  have hx : W.ownsRow B 51 1 (.slice (some ⟨K, 0, none⟩) r.d.z.size cK) (r.d.z.setIfInBounds p ⟨A4, c4, out⟩).size ((r.d.z.setIfInBounds p ⟨A4, c4, out⟩).toList.map RW.v) := by
    rw [hsz, Array.toList_setIfInBounds, List.map_set]
    exact hK
  obtain ⟨x, ex, zx, rx⟩ := rdWW_of_owns hx
  have hxe : x = ⟨some ⟨K, 0, none⟩, cK, r.d.z.setIfInBounds p ⟨A4, c4, out⟩⟩ := by
    obtain ⟨xA, xc, xz⟩ := x
    have zx' : xz = _ := zx
    subst zx'
    unfold RW.v at ex
    injection ex with q1 q2 q3
    subst q1 q3
    rfl
  rw [hxe] at rx
  obtain ⟨y, ey, zy, ry⟩ := rdW_of_owns hO
  have hye : y = ⟨A4, c4, out⟩ := by
    obtain ⟨yA, yc, yz⟩ := y
    have zy' : yz = _ := zy
    subst zy'
    unfold RW.v at ey
    injection ey with q1 q2 q3
    subst q1 q3
    rfl
  rw [hye] at ry
  have hr := h.below hb
  refine ⟨⟨hsz, fun i _ hi => by rw [hne i hi], by rw [hat]; exact hin, by rw [hat]; exact hos⟩, ⟨hr.e, hr.o, hr.k, hr.kk, hr.m, hr.mm, hr.fr, rx, fun i hi => ?_, hr.it, hr.ss⟩⟩
  have hi' : i < r.d.z.size := by rw [← hsz]; exact hi
  show RdW encR 2 W (r.d.z.setIfInBounds p ⟨A4, c4, out⟩)[i]!
  by_cases hip : i = p
  · rw [hip, hat]; exact ry
  · rw [hne i hip]; exact hr.dd i hi'
set_option maxHeartbeats 16000000 in
theorem stFin_ok (r : RP) (id : Int) (p : Nat) (w : World) (h : RdP w r) (hf : FewC r) (hc : chkR r = true) (hs : selfN_I id = (p : Int) + 1) (hp : p < r.d.z.size) (hz0 : setE_R r.d.z[p]!.z = 0) (hz1 : r.d.z[p]!.z.size ≤ 900) :
    Calls Tryz.prog 23 #[.agg (encP r).toArray, .int .i64 id] w fun e w' => (∃ y : RW (RW (Int × Int)), e = .returned (.agg (encP { r with d := y }).toArray) ∧ FinR r p (seqN_I id) y.z ∧ RdP w' { r with d := y }) ∧ Below w.heap.size w w' := by
  have hdn := chkR_d hc
  have HC : Hid (∀ W, Below w.heap.size w W → Calls Tryz.prog 9 #[.agg (encP r).toArray] W fun e w' => e = .returned (.int .i64 0) ∧ Below W.heap.size W w') := fun W hb => by
    have := stCheck_any r W (h.below hb) hf
    rwa [repE_yes hc] at this
  obtain ⟨bd, od, hA, hbd, fd⟩ := h.d.rd.at_ (i := p) hp
  have HCl : Hid (∀ W, Below w.heap.size w W → Calls Tryz.prog 67 #[.slice r.d.A r.d.z.size r.d.c] W fun e w' => ∃ g c, e = .returned (.slice (some ⟨g, 0, none⟩) r.d.z.size c) ∧ W.heap.size ≤ g ∧ g < w'.heap.size ∧ w'.ownsRow W.heap.size 51 1 (.slice (some ⟨g, 0, none⟩) r.d.z.size c) r.d.z.size (flatK encW 1 r.d.z).toList ∧ Below W.heap.size W w') := fun W hb => by
    have h1 := (h.d.below hb).rd
    have hA' : r.d.A = some ⟨bd, od, none⟩ := hA
    rw [hA'] at h1 ⊢
    refine (CloneD ⟨bd, od, none⟩ r.d.c r.d.z W h1 (by have := hf.d; omega)).mono fun e w' ⟨v, he, ho, hb2⟩ => ?_
    obtain ⟨g, c, rfl, hg, hl⟩ := sli_ofB ho (by omega)
    exact ⟨g, c, he, hg, hl, ho, hb2⟩
  obtain ⟨sq, hsq⟩ : ∃ s, seqN_I id = s := ⟨_, rfl⟩
  obtain ⟨u, hu⟩ : ∃ u, r.d.z[p]! = u := ⟨_, rfl⟩
  have HAD : Hid (∀ W g, Below w.heap.size w W → W.heap[g]? = some (.cells #[.int .i64 sq, .int .i64 sq] 81 (0, 0)) → Calls Tryz.prog 68 #[.slice u.A u.z.size u.c, .slice (some ⟨g, 0, none⟩) 1 1] W fun e w' => ∃ (A : Option Addr) (c : Nat) (out : Array (Int × Int)), e = .returned (.slice A out.size c) ∧ IsN (pAdd u.z #[(sq, sq)]) out ∧ out.size ≤ u.z.size + 1 ∧ w'.ownsRow W.heap.size 81 2 (.slice A out.size c) out.size (flatK encR 2 out).toList ∧ Below W.heap.size W w') := fun W g hb hg => by
    have hur : RdW encR 2 W u := by rw [← hu]; exact (h.dd p hp).below hb
    have hrow : RdK encR 2 W.heap.size W (some ⟨g, 0, none⟩) #[(sq, sq)] := fun _ => ⟨g, 0, rfl, blk_lt hg, fun t ht => by
      rw [Nat.zero_add, cell_of_row W g t _ _ (0, 0) hg]
      have ht' : t < 2 := ht
      rw [get_flatK encR 2 #[(sq, sq)] t ht]
      rcases (show t = 0 ∨ t = 1 by omega) with rfl | rfl <;> rfl⟩
    refine (gAdd_any u.A u.c u.z (some ⟨g, 0, none⟩) 1 #[(sq, sq)] W hur.rd hrow (by simp)).mono fun e w' ⟨v, out, he, h1, _, ho, hb2⟩ => ?_
    have hz0' : setE_R u.z = 0 := by rw [← hu]; exact hz0
    have hz1' : u.z.size ≤ 900 := by rw [← hu]; exact hz1
    obtain ⟨i1, i2⟩ := add_few hz0' (h1 hz0') (by simp; omega)
    obtain ⟨A, c, rfl⟩ := sli_of ho
    exact ⟨A, c, out, he, i1, by simpa using i2, ho, hb2⟩
  have HRD := Lib.hid h
  obtain ⟨cs, hcs⟩ : ∃ cs, cs = (encP r).toArray := ⟨_, rfl⟩
  obtain ⟨hsz, hone⟩ := rowP hcs
  have HCS := Lib.hid hcs
  have HQ0 : Hid (cs[0]? = some (.int .i64 r.n)) := by show _ = _; rw [hcs]; rfl
  have HQ12 : Hid (cs[12]? = some (.slice r.d.A r.d.z.size r.d.c)) := by show _ = _; rw [hcs]; rfl
  have HSf : Hid (∀ W, Calls Tryz.prog 64 #[.int .i64 id] W fun e w' => e = .returned (.int .i64 ((p : Int) + 1)) ∧ W = w') := fun W => hs ▸ Self_any id W
  have HSq : Hid (∀ W, Calls Tryz.prog 66 #[.int .i64 id] W fun e w' => e = .returned (.int .i64 sq) ∧ W = w') := fun W => hsq ▸ Seq_any id W
  have HU := Lib.hid hu
  have HP := Lib.hid hp
  have hd20 := hf.d
  have e1 : decide ((p : Int) + 1 < 1) = false := decide_eq_false (by omega)
  have e2 : decide (r.n < (p : Int) + 1) = false := decide_eq_false (by omega)
  have hwr : IntKind.i64.wrap (p : Int) = (p : Int) := IntWalk.i64_in _ (by omega)
  have hpz : (p : Int) < (r.d.z.size : Int) := by omega
  have hflat : (flatK encW 1 r.d.z).toList = r.d.z.toList.map RW.v := flat_W _
  rw [hflat] at HCl
  rw [hsq]
  rw [← hcs] at HC
  have hgoal : ∀ x : Array Value, cs = x → Calls Tryz.prog 23 #[.agg x, .int .i64 id] w fun e w' => (∃ y : RW (RW (Int × Int)), e = .returned (.agg (encP { r with d := y }).toArray) ∧ FinR r p sq y.z ∧ RdP w' { r with d := y }) ∧ Below w.heap.size w w' := by
    rintro _ rfl
    simp only [encP] at hcs
    clear h hf hc hs hsq hp hz0 hz1 hu hdn hA hbd fd hflat
    rw [hcs]
    go_enter Tryz.func23, Tryz.ntmps23
    rw [← hcs]
    clear hcs
    have HX := Lib.hid (BoxG.fst w cs zer18 35 35)
    have HZ := Lib.hid (BoxG.snd w cs zer18 35 35)
    simp only [zer18] at HX HZ
    have x1 := HX.out.box hsz
    have x2 := HX.out.rowAt
    go_wp2_with (first
      | (go_at_call 64; refine (HSf.out _).mono ?_; rintro _ _ ⟨rfl, rfl⟩)
      | (go_at_call 66; refine (HSq.out _).mono ?_; rintro _ _ ⟨rfl, rfl⟩)
      | (go_at_call 9; refine (HC.out _ HX.out.b).mono ?_; rintro _ w1 ⟨rfl, hb⟩; have HX1 := Lib.hid (HX.out.next hb); have HZ1 := Lib.hid (HZ.out.next hb); clear hb x1 x2; have c0 := HX1.out.at_ 0 HQ0.out; have c12 := HX1.out.at_ 12 HQ12.out)
      | (go_at_call 67; refine (HCl.out _ HX1.out.b).mono ?_; rintro _ w2 ⟨K, cK, rfl, hK1, hK2, hown, hb⟩; have HX2 := Lib.hid (HX1.out.next hb); have HZ2 := Lib.hid (HZ1.out.next hb); have HO2 := Lib.hid hown; have HXl := HX1.out.lt; have HZl := HZ1.out.lt; clear hb c0 c12 hown; have c12 := HX2.out.at_ 12 HQ12.out; have f12 := HX2.out.froz 12))
    have HX3 := Lib.hid (HX2.out.set (Nat.le_refl _) 12 (.slice (some ⟨K, 0, none⟩) r.d.z.size cK))
    have HZ3 := Lib.hid (HZ2.out.far (g2 := w.heap.size) (Nat.le_refl _) (by omega) 12 (.slice (some ⟨K, 0, none⟩) r.d.z.size cK))
    have HO3 := Lib.hid (own_setB HO2.out HXl 12 (.slice (some ⟨K, 0, none⟩) r.d.z.size cK))
    obtain ⟨w3, hw3⟩ : ∃ W, W = w2.setCell ⟨w.heap.size, 12, none⟩ (.slice (some ⟨K, 0, none⟩) r.d.z.size cK) := ⟨_, rfl⟩
    have hl2 : K < w3.heap.size := by rw [hw3]; simpa using hK2
    rw [← hw3] at HX3 HZ3 HO3 ⊢
    clear hw3 c12 f12
    have hcs12 : (cs.setIfInBounds 12 (.slice (some ⟨K, 0, none⟩) r.d.z.size cK))[12]? = some (.slice (some ⟨K, 0, none⟩) r.d.z.size cK) := by rw [HCS.out]; rfl
    have c12 := HX3.out.at_ 12 hcs12
    have H12 := Lib.hid hcs12
    have HCK : Hid (∀ (W : World) (B : Nat), W.ownsRow B 51 1 (.slice (some ⟨K, 0, none⟩) r.d.z.size cK) r.d.z.size (r.d.z.toList.map RW.v) → W.cell? ⟨K, p, none⟩ = some (.slice u.A u.z.size u.c)) := fun W B ho => by
      rw [ho.cellAt p (by have := HP.out; omega), List.getElem?_map, Array.getElem?_toList, Array.getElem?_eq_getElem HP.out, ← getElem!_pos r.d.z p HP.out, HU.out]
      rfl
    have cKp := HCK.out _ _ HO3.out
    have hl1 := HX3.out.lt
    have HXd := Lib.hid (HX3.out.next ((bel1 w3 (.cells #[.int .i64 sq, .int .i64 sq] 81)).drew))
    have HZd := Lib.hid (HZ3.out.next ((bel1 w3 (.cells #[.int .i64 sq, .int .i64 sq] 81)).drew))
    have HOd := Lib.hid (own_belK HO3.out ((bel1 w3 (.cells #[.int .i64 sq, .int .i64 sq] 81)).drew))
    have HA1 := Lib.hid (HAD.out (w3.alloc (.cells #[.int .i64 sq, .int .i64 sq] 81)).drew w3.heap.size HXd.out.b (heap_alloc_new w3 _))
    clear hcs12
    go_region_law (go_simp; refine HA1.out.mono ?_; rintro _ w4 ⟨A4, c4, out, rfl, hin, hos, ho4, hb4⟩; have HX4 := Lib.hid (HXd.out.next hb4); have HZ4 := Lib.hid (HZd.out.next hb4); have HO4 := Lib.hid (own_belK HOd.out hb4); have HIN := Lib.hid hin; have HOS := Lib.hid hos; have HOW := Lib.hid ho4; have c12 := HX4.out.at_ 12 H12.out; have cKp := HCK.out _ _ HO4.out; have fKp : w4.frozen? ⟨K, p, none⟩ = false := HO4.out.frozenAt p; clear hin hos ho4 hb4; dsimp only)
    all_goals
      have HX5 := Lib.hid (HX4.out.far (g2 := K) (by omega) (by omega) p (.slice A4 out.size c4))
      have HZ5 := Lib.hid (HZ4.out.far (g2 := K) (by omega) (by omega) p (.slice A4 out.size c4))
      obtain ⟨cs5, hcs5⟩ : ∃ c, c = (encP { r with d := ⟨some ⟨K, 0, none⟩, cK, r.d.z.setIfInBounds p ⟨A4, c4, out⟩⟩ }).toArray := ⟨_, rfl⟩
      have hset : cs.setIfInBounds 12 (.slice (some ⟨K, 0, none⟩) r.d.z.size cK) = cs5 := by
        rw [HCS.out, hcs5]
        simp only [encP, Array.size_setIfInBounds]
        rfl
      rw [hset] at HX5
      obtain ⟨hsz5, hone5⟩ := rowP hcs5
      have x1 := HX5.out.box hsz5
      have x2 := HX5.out.rowAt
      have x3 := HZ5.out.box (n := 18) rfl
      have HS5 := Lib.hid hcs5
      clear c12 cKp fKp hset hcs5
      go_wp2
      refine bodyPost_ret (results_rep rfl rfl (setRow_heap _ _ _ _ _ _ HZ5.out.row) hsz5) rfl ?_
      have hbW : Below w.heap.size w ((w4.setCell ⟨K, p, none⟩ (.slice A4 out.size c4)).setRow (w.heap.size + 1) cs5) := HX5.out.b.trans ⟨rfl, rfl, rfl, by simp, fun j hj => setRow_other _ _ j _ (by omega)⟩
      have hKK := own_same (W := (w4.setCell ⟨K, p, none⟩ (.slice A4 out.size c4)).setRow (w.heap.size + 1) cs5) (HO4.out.stored p (.slice A4 out.size c4)).1 (Nat.le_refl _) (fun j hj _ => setRow_other _ _ j _ (by omega))
      have hOO := own_same (W := (w4.setCell ⟨K, p, none⟩ (.slice A4 out.size c4)).setRow (w.heap.size + 1) cs5) (own_setB (g := K) HOW.out (by show K < (w3.heap.push _).size; simp; omega) p (.slice A4 out.size c4)) (B0 := K + 1) (by show K + 1 ≤ (w3.heap.push _).size; simp; omega) (fun j hj _ => setRow_other _ _ j _ (by omega))
      obtain ⟨f1, f2⟩ := fin_end (sq := sq) HRD.out hbW hKK hOO HP.out (by rw [HU.out]; exact HIN.out) (by rw [HU.out]; exact HOS.out)
      exact ⟨⟨_, by rw [← HS5.out], f1, f2⟩, hbW⟩
  exact hgoal _ hcs
end Go.Proofs.YtnmojicfmcbgmaaGreat
namespace Go.Proofs.YtnmojicfmcbgmaaGreat
open Go.RowKit Go.Sort Go.Lib
def e12 : EN := ⟨12, 1, 6, 0, 0, 0, 0, 0, ⟨#[]⟩, none, 0, #[]⟩
/-- A replica of the probes: a new one of three, its clock, its commands, what is done. -/
structure PrbR (s : RP) : Prop where
  h : s.n = 3 ∧ s.f = 1 ∧ s.self = 2 ∧ s.seq = 0 ∧ s.floor = 0 ∧ s.ticks = 0 ∧ s.lt = 0 ∧ s.lid = 0 ∧ s.count = 0
  c : 0 ≤ s.clock ∧ s.clock ≤ 1000000
  e : s.e.z = #[] ∨ s.e.z = #[e12]
  o : s.o.z = #[]
  k : s.k.z.size = 3 ∧ ∀ i, i < 3 → s.k.z[i]!.kn = ⟨0, #[], #[]⟩
  m : NewM 3 s.m.z
  fr : s.fr.z = #[0, 0, 0]
  d : s.d.z.size = 3 ∧ ∀ i, i < 3 → s.d.z[i]!.z = #[] ∨ s.d.z[i]!.z = #[(1, 1)]
  it : s.it.z = #[]
  ss : s.ss.z = #[]
theorem e12_chk : chkT #[e12] = true ∧ chkEn e12 = true ∧ putC #[] e12 = 0 ∧ putS #[] e12 = #[e12] ∧ fewT #[e12] = true ∧ selfN_I 12 = 2 ∧ seqN_I 12 = 1 := ⟨by decide, by decide, by decide, rfl, by decide, by decide, by decide⟩
theorem rng11 : setE_R #[(1, 1)] = 0 ∧ wrongD #[(1, 1)] = false ∧ wrongD #[] = false ∧ setE_R #[] = 0 ∧ hasB_R #[(1, 1)] 1 = true ∧ hasB_R #[] 1 = false ∧ chkB ⟨0, #[], #[]⟩ = true ∧ marksE (List.replicate 3 0).toArray 3 = 0 ∧ marksE #[0, 0, 0] 3 = 0 := by decide
theorem PrbR.chk {s : RP} (h : PrbR s) : chkR s = true := by
  obtain ⟨h1, h2, h3, h4, h5, h6, h7, h8, h9⟩ := h.h
  obtain ⟨t1, t2, t3, t4, t5, t6, t7⟩ := e12_chk
  obtain ⟨u1, u2, u3, u4, u5, u6, u7, u8, u9⟩ := rng11
  have a1 : countsB s = true := by
    have hc : clkB s.clock s.floor s.o.z = true := clk_iff.2 ⟨by rw [h5]; have := h.c; omega, fun i hi => by rw [h.o] at hi; exact absurd hi (Nat.not_lt_zero i)⟩
    unfold countsB
    rw [hc, h1, h2, h3, h4, h6, h9]
    decide
  have a2 : cmdsB s = true := by
    unfold cmdsB
    rcases h.e with he | he
    · rw [show anyN s.e.z.size (farB s) = false from anyN_false.2 fun j hj => by rw [he] at hj; exact absurd hj (Nat.not_lt_zero j), he]
      decide
    · rw [show anyN s.e.z.size (farB s) = false from anyN_false.2 fun j hj => by
        rw [he] at hj
        obtain rfl : j = 0 := by simpa using hj
        unfold farB
        rw [he, h1]
        decide, he, t1]
      rfl
  have a3 : hearsB s = true := by
    unfold hearsB
    rw [h.k.1, h1, show anyN 3 (fun i => !chkB s.k.z[i]!.kn) = false from anyN_false.2 fun j hj => by rw [h.k.2 j hj, u7]; rfl, h.fr, u9,
      show rowsB s.m.z 3 = true from rows_iff.2 ⟨by decide, by rw [h.m.1]; rfl, fun i hi => by rw [h.m.1] at hi; rw [h.m.2 i hi]; exact u8⟩]
    decide
  have a4 : finB s = true := by
    unfold finB
    rw [h.d.1, h1, h7, h8, show anyN 3 (fun i => wrongD s.d.z[i]!.z) = false from anyN_false.2 fun j hj => by rcases h.d.2 j hj with e | e <;> rw [e] <;> assumption]
    decide
  unfold chkR
  rw [a1, a2, a3, a4]
  rfl
theorem PrbR.few {s : RP} (h : PrbR s) : FewP s where
  e := by rcases h.e with e | e <;> rw [e] <;> decide
  o := by rw [h.o]; exact Nat.zero_le _
  k := by rw [h.k.1]; decide
  m := fewM_iff.2 ⟨by rw [h.m.1]; decide, fun i hi => by rw [h.m.1] at hi; rw [h.m.2 i hi]; decide⟩
  fr := by rw [h.fr]; decide
  d := by rw [h.d.1]; decide
  kk := fun i hi => by rw [h.k.1] at hi; rw [h.k.2 i hi]; rfl
  dd := fun i hi => by rw [h.d.1] at hi; rcases h.d.2 i hi with e | e <;> rw [e] <;> decide
  it := by rw [h.it]; exact Nat.zero_le _
  ss := by rw [h.ss]; exact Nat.zero_le _
theorem NewR.prb {s : RP} (h : NewR 3 1 2 3 s) : PrbR s ∧ s.e.z = #[] ∧ s.clock = 0 ∧ ∀ i, i < 3 → s.d.z[i]!.z = #[] := by
  obtain ⟨h1, h2, h3, h4, h5, h6, h7, h8, h9, h10⟩ := h.h
  exact ⟨⟨⟨h1, h2, h3, h5, h6, h7, h8, h9, h10⟩, by rw [h4]; decide, Or.inl h.e, h.o, h.k, h.m, h.fr, ⟨h.d.1, fun i hi => Or.inl (h.d.2 i hi)⟩, h.it, h.ss⟩, h.e, h4, h.d.2⟩
theorem PrbR.put {s : RP} (h : PrbR s) {y : RW EN} (hy : y.z = #[e12]) : PrbR { s with e := y } :=
  ⟨h.h, h.c, Or.inr hy, h.o, h.k, h.m, h.fr, h.d, h.it, h.ss⟩
theorem PrbR.clk {s : RP} (h : PrbR s) : PrbR { s with clock := 5 } :=
  ⟨h.h, ⟨(by decide : (0 : Int) ≤ 5), (by decide : (5 : Int) ≤ 1000000)⟩, h.e, h.o, h.k, h.m, h.fr, h.d, h.it, h.ss⟩
theorem is11 : IsN (pAdd #[] #[(1, 1)]) #[(1, 1)] := ⟨NL.lit (by decide), fun n => by
  rw [Bool.eq_iff_iff]; unfold pAdd may1 inR inB_R; simp; omega⟩
theorem PrbR.fin {s : RP} (h : PrbR s) (he : ∀ i, i < 3 → s.d.z[i]!.z = #[]) {y : RW (RW (Int × Int))} (hy : FinR s 1 1 y.z) : PrbR { s with d := y } ∧ doneI { s with d := y } 12 = true := by
  obtain ⟨y1, y2, y3, _⟩ := hy
  rw [h.d.1] at y1 y2
  rw [he 1 (by decide)] at y3
  have e1 : y.z[1]!.z = #[(1, 1)] := y3.uniq is11
  refine ⟨⟨h.h, h.c, h.e, h.o, h.k, h.m, h.fr, ⟨y1, fun i hi => ?_⟩, h.it, h.ss⟩, ?_⟩
  · by_cases hi1 : i = 1
    · subst hi1; exact Or.inr e1
    · exact Or.inl ((y2 i hi hi1).trans (he i hi))
  · unfold doneI
    show (decide (1 ≤ selfN_I 12 ∧ selfN_I 12 ≤ s.n) && hasB_R y.z[(selfN_I 12).toNat - 1]!.z (seqN_I 12)) = true
    rw [h.h.1, show (selfN_I 12).toNat - 1 = 1 by decide, e1]
    decide
theorem PrbR.undone {s : RP} (h : PrbR s) (he : ∀ i, i < 3 → s.d.z[i]!.z = #[]) : doneI s 12 = false := by
  unfold doneI
  rw [h.h.1, show (selfN_I 12).toNat - 1 = 1 by decide, he 1 (by decide)]
  decide
theorem bas3 {k : Array KE} {a b c : Int} (hs : k.size = 3) (h0 : k[0]!.base = a) (h1 : k[1]!.base = b) (h2 : k[2]!.base = c) : basesK k = #[a, b, c] := by
  apply Array.ext (by rw [basesK_size, hs]; rfl)
  intro i hi hj
  have hi' : i < 3 := by simpa using hj
  have e := basesK_at k (j := i) (by omega)
  rw [getElem!_pos _ i hi] at e
  rw [e]
  rcases (show i = 0 ∨ i = 1 ∨ i = 2 by omega) with rfl | rfl | rfl
  · exact h0
  · exact h1
  · exact h2
theorem PrbR.marks {s : RP} (h : PrbR s) : marksR s = #[0, 0, 0] := by
  unfold marksR
  rw [if_pos h.chk]
  have hb : ∀ i, i < 3 → s.k.z[i]!.base = 0 := fun i hi => congrArg KN.base (h.k.2 i hi)
  exact bas3 h.k.1 (hb 0 (by decide)) (hb 1 (by decide)) (hb 2 (by decide))
theorem add05 : AddR ⟨0, #[], #[]⟩ 0 5 #[] ⟨5, #[], #[]⟩ := by
  refine ⟨#[(1, 5)], ⟨NL.lit (by decide), fun n => ?_⟩, by decide, ⟨by decide, ?_, ?_⟩⟩
  · rw [Bool.eq_iff_iff, pK_iff]
    show inR #[(1, 5)] n = true ↔ inR #[] n = true ∨ ((max 0 0 < n ∧ n ≤ 5) ∧ n ∉ ([] : List Int) ∧ n ∉ ([] : List Int))
    unfold inR
    simp [inB_iff]
    omega
  · refine ⟨fun _ => IsN.fit ⟨NL.lit (by decide), fun n => ?_⟩ (by decide), fun h => absurd (by decide) h⟩
    rw [Bool.eq_iff_iff]; unfold pLess inR inB_R; simp
  · show #[] = mrgK _ _
    unfold mrgK
    exact (srtA_lit [] (by decide) (by simp)).symm
theorem setBs (b : Int) (ids : Array Int) : SetR ⟨b, #[], #[]⟩ ids ⟨b, #[], #[]⟩ := by
  refine ⟨#[], ⟨NL.lit (by decide), fun n => ?_⟩, by decide, ⟨rfl, ?_, rfl⟩⟩
  · rw [Bool.eq_iff_iff, pS_iff]
    simp [inR]
  · refine ⟨fun _ => IsN.fit ⟨NL.lit (d := #[]) (by decide), fun n => ?_⟩ (Nat.zero_le _), fun h => absurd (by decide : setE_R #[] = 0) h⟩
    rw [Bool.eq_iff_iff]; unfold pLess inR; simp
theorem PrbR.ref {c s : RP} (h : PrbR c) (hc : c.clock = 5) (hr : RefR c s) : chkR s = true ∧ FewC s ∧ marksR s = #[0, 5, 0] := by
  have h1 := hr.chk h.chk h.few.m'
  refine ⟨h1, hr.few h.chk h.few.m', ?_⟩
  have key : ∀ i, i < 3 → s.k.z[i]!.base = if i = 1 then 5 else 0 := by
    intro i hi
    obtain ⟨k1, ids, g1, _, g3⟩ := hr.kk i (by rw [h.k.1]; exact hi)
    rw [h.k.2 i hi, h.h.2.2.1, h.h.2.2.2.2.1, hc, h.o] at g1
    by_cases hi1 : i = 1
    · subst hi1
      rw [if_pos (by decide)] at g1
      rw [g1.uniq add05] at g3
      rw [if_pos rfl]
      exact congrArg KN.base (g3.uniq (setBs 5 ids))
    · rw [if_neg (by omega)] at g1
      rw [g1] at g3
      rw [if_neg hi1]
      exact congrArg KN.base (g3.uniq (setBs 0 ids))
  unfold marksR
  rw [if_pos h1]
  exact bas3 (by rw [hr.ks]; exact h.k.1) (key 0 (by decide)) (key 1 (by decide)) (key 2 (by decide))
theorem rp0_chk : repE rp0 = 2 := by decide
theorem PrbR.diff {s : RP} (h : s.e.z = #[]) {y : RW EN} (hy : y.z = #[e12]) : sameRP s { s with e := y } = false := by
  unfold sameRP
  have e : sameT s.e.z y.z = false := by rw [h, hy]; decide
  show (decide _ && (sameT s.e.z y.z && _ && _ && _ && _ && _)) = false
  rw [e]
  simp
/-! the probes' calls -/
def lit12 : Array Value := #[.int .i64 12, .int .i64 1, .int .i64 6, .int .i64 0, .int .i64 0, .int .i64 0, .int .i64 0, .int .i64 0, .string ⟨#[]⟩, .slice none 0 0]
theorem lit12_eq : lit12 = (encE e12).toArray := rfl
theorem pr_new (W : World) : Calls Tryz.prog 7 #[.int .i64 3, .int .i64 1, .int .i64 2] W fun e w' => ∃ (r : RP) (cs : Array Value), e = .returned (.tuple #[.agg cs, .int .i64 0]) ∧ cs = (encP r).toArray ∧ NewR 3 1 2 3 r ∧ RdP w' r ∧ Below W.heap.size W w' :=
  (stNew_any 3 1 2 W).mono fun e w' ⟨⟨r, he, hn, hr⟩, hb⟩ => by
    have hp : newP 3 1 2 := by decide
    rw [if_pos hp] at he hn
    exact ⟨r, _, he, rfl, hn, hr, hb⟩
theorem pr_new4 (W : World) : Calls Tryz.prog 7 #[.int .i64 3, .int .i64 1, .int .i64 4] W fun e w' => ∃ cs : Array Value, e = .returned (.tuple #[.agg cs, .int .i64 2]) ∧ cs.size = 18 ∧ allOne cs = true ∧ Below W.heap.size W w' :=
  (stNew_any 3 1 4 W).mono fun e w' ⟨⟨r, he, _, _⟩, hb⟩ => by
    have hp : ¬ newP 3 1 4 := by decide
    rw [if_neg hp] at he
    obtain ⟨a, b⟩ := rowP (cs := (encP r).toArray) rfl
    exact ⟨_, he, a, b, hb⟩
theorem pr_put (r : RP) (cs : Array Value) (hcs : cs = (encP r).toArray) (h : PrbR r) (he : r.e.z = #[]) (hd : ∀ i, i < 3 → r.d.z[i]!.z = #[]) (W : World) (hr : RdP W r) :
    Calls Tryz.prog 22 #[.agg cs, .agg lit12] W fun e w' => ∃ (y : RW EN) (ca : Array Value), e = .returned (.tuple #[.agg ca, .int .i64 0]) ∧ ca = (encP { r with e := y }).toArray ∧ y.z = #[e12] ∧ RdP w' { r with e := y } ∧ Below W.heap.size W w' := by
  obtain ⟨t1, t2, t3, t4, t5, t6, t7⟩ := e12_chk
  have h12 : selfN_I e12.id = 2 := t6
  subst hcs
  rw [lit12_eq]
  refine (stPut_new r e12 W hr ⟨fun h0 => absurd h0 (by decide), by decide, by decide, by decide⟩ h.few.c h.chk ⟨by rw [h12]; decide, by rw [h12, h.h.1]; decide⟩ (h.undone hd) he rfl t3 t4).mono ?_
  rintro e w' ⟨⟨y, e1, e2, e3⟩, hb⟩
  exact ⟨y, _, e1, rfl, e2, e3, hb⟩
theorem pr_fin (a : RP) (ca : Array Value) (hca : ca = (encP a).toArray) (h : PrbR a) (hd : ∀ i, i < 3 → a.d.z[i]!.z = #[]) (W : World) (hr : RdP W a) :
    Calls Tryz.prog 23 #[.agg ca, .int .i64 12] W fun e w' => ∃ (b : RP) (cb : Array Value), e = .returned (.agg cb) ∧ cb = (encP b).toArray ∧ PrbR b ∧ doneI b 12 = true ∧ RdP w' b ∧ Below W.heap.size W w' := by
  obtain ⟨t1, t2, t3, t4, t5, t6, t7⟩ := e12_chk
  subst hca
  refine (stFin_ok a 12 1 W hr h.few.c h.chk (by rw [t6]; rfl) (by rw [h.d.1]; decide) (by rw [hd 1 (by decide)]; decide) (by rw [hd 1 (by decide)]; decide)).mono ?_
  rintro e w' ⟨⟨y, e1, e2, e3⟩, hb⟩
  rw [t7] at e2
  obtain ⟨f1, f2⟩ := h.fin hd e2
  exact ⟨_, _, e1, rfl, f1, f2, e3, hb⟩
theorem pr_put2 (b : RP) (cb : Array Value) (hcb : cb = (encP b).toArray) (h : PrbR b) (hd : doneI b 12 = true) (W : World) (hr : RdP W b) :
    Calls Tryz.prog 22 #[.agg cb, .agg lit12] W fun e w' => e = .returned (.tuple #[.agg cb, .int .i64 33]) ∧ Below W.heap.size W w' := by
  obtain ⟨t1, t2, t3, t4, t5, t6, t7⟩ := e12_chk
  have h12 : selfN_I e12.id = 2 := t6
  subst hcb
  rw [lit12_eq]
  exact stPut_done b e12 W hr h.few.c h.chk ⟨by rw [h12]; decide, by rw [h12, h.h.1]; decide⟩ hd (by decide)
theorem pr_done (s : RP) (cs : Array Value) (hcs : cs = (encP s).toArray) (h : PrbR s) (x : Bool) (hd : doneI s 12 = x) (W : World) (hr : RdP W s) :
    Calls Tryz.prog 11 #[.agg cs, .int .i64 12] W fun e w' => e = .returned (.bool x) ∧ Below W.heap.size W w' := by
  subst hcs hd
  have := stDone_any s 12 W hr h.few.c
  unfold doneB at this
  rwa [h.chk, Bool.true_and] at this
theorem pr_marks (s : RP) (cs : Array Value) (hcs : cs = (encP s).toArray) (hf : FewC s) (d : Array Int) (hd : marksR s = d) (W : World) (hr : RdP W s) :
    Calls Tryz.prog 14 #[.agg cs] W fun e w' => ∃ (A : Option Addr) (c : Nat), e = .returned (.slice A d.size c) ∧ RdI_R w'.heap.size w' A d ∧ Below W.heap.size W w' := by
  subst hcs
  refine (stMarks_any s W hr hf).mono ?_
  rintro e w' ⟨⟨x, e1, e2, e3⟩, hb⟩
  obtain ⟨A, c, z⟩ := x
  have e2' : z = d := (show z = marksR s from e2).trans hd
  subst e2'
  exact ⟨A, c, e1, e3.rd, hb⟩
theorem pr_check (s : RP) (cs : Array Value) (hcs : cs = (encP s).toArray) (h : PrbR s) (W : World) (hr : RdP W s) :
    Calls Tryz.prog 9 #[.agg cs] W fun e w' => e = .returned (.int .i64 0) ∧ Below W.heap.size W w' := by
  subst hcs
  have := stCheck_any s W hr h.few.c
  rwa [repE_yes h.chk] at this
theorem rp0_few : FewC rp0 := by
  refine ⟨by decide, fun i hi => absurd hi (Nat.not_lt_zero i), by decide, by decide, by decide, fun i hi => absurd hi (Nat.not_lt_zero i), by decide, by decide, fun i hi => absurd hi (Nat.not_lt_zero i), fun i hi => absurd hi (Nat.not_lt_zero i)⟩
theorem pr_check0 (W : World) : Calls Tryz.prog 9 #[.agg zer18] W fun e w' => e = .returned (.int .i64 2) ∧ Below W.heap.size W w' := by
  have := stCheck_any rp0 W (rdP_none W) rp0_few
  rw [rp0_chk] at this
  exact this
theorem pr_same (a b : RP) (ca cb : Array Value) (hca : ca = (encP a).toArray) (hcb : cb = (encP b).toArray) (fa : FewC a) (fb : FewC b) (x : Bool) (hx : sameRP a b = x) (W : World) (ha : RdP W a) (hb : RdP W b) :
    Calls Tryz.prog 16 #[.agg ca, .agg cb] W fun e w' => e = .returned (.bool x) ∧ Below W.heap.size W w' := by
  subst hca hcb hx
  exact stSame_any a b W ha hb fa fb
theorem sameLit (W : World) (A : Option Addr) (c : Nat) (d : Array Int) (cs : Array Value) (h : RdI_R W.heap.size W A d) (hcs : cs = d.map encI_R) (hd : d.size ≤ 1000) :
    Calls Tryz.prog 13 #[.slice A d.size c, .slice (some ⟨W.heap.size, 0, none⟩) d.size d.size] (W.alloc (.cells cs 3)) fun e w' => e = .returned (.bool true) ∧ Below (W.alloc (.cells cs 3)).heap.size (W.alloc (.cells cs 3)) w' :=
  (SameInts_any_R A (some ⟨W.heap.size, 0, none⟩) c d.size d d _ _ _ (h.alloc (Nat.le_refl _) _) (RdI_R.lit_K W d cs 3 hcs) (by omega)).mono fun e w' ⟨he, n, hw⟩ => ⟨by rw [he]; simp, hw ▸ belDrewN (Below.refl _ _) n⟩
end Go.Proofs.YtnmojicfmcbgmaaGreat
namespace Go.Proofs.YtnmojicfmcbgmaaGreat
open Go.RowKit Go.Sort Go.Lib
set_option maxRecDepth 100000
theorem among_any (r n : Int) (w : World) : Calls Tryz.prog 115 #[.int .i64 r, .int .i64 n] w fun e w' => e = .returned (.bool (decide (1 ≤ r ∧ r ≤ n))) ∧ w = w' := by
  by_cases h1 : 1 ≤ r <;> by_cases h2 : r ≤ n
  all_goals
    go_enter Tryz.func115, Tryz.ntmps115
    go_wp2
    go_ret
    exact ⟨ret_bool (by simp [h1, h2]), rfl⟩
/-- The numbers of a table, one row of which is another one. -/
def tellD (m : Array (RW Int)) (n p : Nat) (x : Array Int) : Array Int := ((List.range (n * n)).map fun t => if p * n ≤ t ∧ t < p * n + n then x[t - p * n]! else (catM m m.size).toArray[t]!).toArray
theorem tellD_at (m : Array (RW Int)) (n p : Nat) (x : Array Int) {t : Nat} (h : t < n * n) : (tellD m n p x)[t]! = if p * n ≤ t ∧ t < p * n + n then x[t - p * n]! else (catM m m.size).toArray[t]! := by
  rw [getElem!_pos _ t (by simpa [tellD] using h)]
  simp [tellD]
theorem tellD_row (m : Array (RW Int)) {n p : Nat} {x : Array Int} (h : ∀ i, i < m.size → m[i]!.z.size = n) (hm : m.size = n) (hp : p < n) (hx : x.size = n) {i : Nat} (hi : i < n) : cutR (tellD m n p x) n i = if i = p then x else m[i]!.z := by
  have hs : (if i = p then x else m[i]!.z).size = n := by
    split
    · exact hx
    · exact h i (by omega)
  apply Array.ext (by rw [cutR_size, hs])
  intro j h1 h2
  rw [cutR_size] at h1
  have e := cutR_at (tellD m n p x) n i h1
  rw [getElem!_pos _ j (by rw [cutR_size]; exact h1)] at e
  rw [e]
  have hle : (i + 1) * n ≤ n * n := Nat.mul_le_mul_right n hi
  rw [Nat.succ_mul] at hle
  rw [tellD_at _ _ _ _ (by omega)]
  rw [← getElem!_pos _ j h2]
  by_cases hip : i = p
  · subst hip
    rw [if_pos (by omega), if_pos rfl, Nat.add_sub_cancel_left]
  · have hq : ¬ (p * n ≤ i * n + j ∧ i * n + j < p * n + n) := by
      rcases Nat.lt_or_ge i p with hl | hl
      · have : (i + 1) * n ≤ p * n := Nat.mul_le_mul_right n hl
        rw [Nat.succ_mul] at this
        omega
      · have : (p + 1) * n ≤ i * n := Nat.mul_le_mul_right n (by omega)
        rw [Nat.succ_mul] at this
        omega
    rw [if_neg hq, if_neg hip]
    have e2 := catM_at m h m.size (Nat.le_refl _) i j (by omega) h1
    rw [getElem!_def]
    simp only [List.getElem?_toArray, e2]
theorem lay_get {L xs : List Value} {off : Nat} (h : off + xs.length ≤ L.length) (t : Nat) : (layAt L off xs)[t]? = if off ≤ t ∧ t < off + xs.length then xs[t - off]? else L[t]? := by
  unfold layAt
  have hl : (L.take off).length = off := by rw [List.length_take]; omega
  rcases Nat.lt_or_ge t off with h1 | h1
  · rw [List.getElem?_append_left (by omega), if_neg (by omega), List.getElem?_take, if_pos h1]
  · rw [List.getElem?_append_right (by omega), hl]
    by_cases h2 : t < off + xs.length
    · rw [if_pos ⟨h1, h2⟩, List.getElem?_append_left (by omega)]
    · rw [if_neg (by omega), List.getElem?_append_right (by omega), List.getElem?_drop]
      congr 1
      omega
theorem own_others {w w' : World} {b B s n : Nat} {e : TypeId} {v : Value} {xs : List Value} (h : w.ownsRow B e s v n xs) (hb : b < B) (ho : ∀ j, j ≠ b → w'.heap[j]? = w.heap[j]?) : w'.ownsRow B e s v n xs := by
  obtain ⟨h0, h1 | ⟨g, cap, cur, hv, hB, hh, hr⟩⟩ := h
  · exact ⟨h0, Or.inl h1⟩
  · exact ⟨h0, Or.inr ⟨g, cap, cur, hv, hB, (ho g (by omega)).trans hh, hr⟩⟩
/-- What a table is behind it has been told: its rows. -/
def TellR (m : Array (RW Int)) (p : Nat) (x : Array Int) (y : Array (RW Int)) : Prop := y.size = m.size ∧ ∀ i, i < m.size → y[i]!.z = if i = p then x else m[i]!.z
set_option maxHeartbeats 8000000 in
theorem swTell_any (A : Option Addr) (c n p : Nat) (m : Array (RW Int)) (A2 : Option Addr) (c2 : Nat) (d2 : Array Int) (w : World) (h : RdMM w ⟨A, c, m⟩) (hm : rowsB m n = true) (hp : p < n) (h2 : RdI_R w.heap.size w A2 d2) (hd : marksE d2 n = 0) :
    Calls Tryz.prog 60 #[.slice A m.size c, .int .i64 n, .int .i64 ((p : Int) + 1), .slice A2 d2.size c2] w fun e w' => (∃ y : RW (RW Int), e = .returned (.tuple #[y.v, .int .i64 0]) ∧ OwnMM w.heap.size w' y ∧ TellR m p (mergeN m[p]!.z d2) y.z) ∧ Below w.heap.size w w' := by
  obtain ⟨hn9, hmn, hrows⟩ := rows_iff.1 hm
  have hms : m.size = n := by omega
  have hz : ∀ i, i < m.size → m[i]!.z.size = n := fun i hi => by have := (marksE_iff.1 (hrows i hi)).2.1; omega
  have hd2 : d2.size = n := by have := (marksE_iff.1 hd).2.1; omega
  have HCK : Hid (Calls Tryz.prog 81 #[.slice A m.size c, .int .i64 n] w fun e w' => e = .returned (.int .i64 0) ∧ Below w.heap.size w w') := by
    have := swCheck_any A c m n w h.1.rd h.2 (by omega) (fun i hi => by rw [hz i hi]; omega)
    have e0 : rowsE m n = 0 := by unfold rowsE; rw [if_pos hm]
    rwa [e0] at this
  have HCM : Hid (∀ W, Below w.heap.size w W → Calls Tryz.prog 82 #[.slice A2 d2.size c2, .int .i64 n] W fun e w' => e = .returned (.int .i64 0) ∧ Below W.heap.size W w') := fun W hb => by
    have := sCheck_any A2 c2 d2 n _ W (h2.below hb) (by omega)
    rwa [hd] at this
  have HAM : Hid (∀ W, Calls Tryz.prog 115 #[.int .i64 ((p : Int) + 1), .int .i64 n] W fun e w' => e = .returned (.bool true) ∧ W = w') := fun W => by
    have := among_any ((p : Int) + 1) n W
    rwa [decide_eq_true (by omega : 1 ≤ (p : Int) + 1 ∧ (p : Int) + 1 ≤ (n : Int))] at this
  have HCP : Hid (∀ W, Below w.heap.size w W → Calls Tryz.prog 116 #[.slice A m.size c, .int .i64 n] W fun e w' => ∃ (v : Value) (b : Nat), e = .returned v ∧ W.heap.size ≤ b ∧ (∃ (cap : Nat) (cur : Array Value), w'.heap[b]? = some (.cells cur 3 (0, 0)) ∧ n * n ≤ cap ∧ cur.size = cap ∧ cur.toList.take (n * n) = (catM m m.size).map (Value.int .i64)) ∧ w'.ownsRow (b + 1) 26 1 v n ((List.range n).map fun i => .slice (some ⟨b, 0 + i * n, none⟩) n n) ∧ Below W.heap.size W w') :=
    fun W hb => copied_any A c n m W (h.below hb) hz (by omega) (by omega) hms
  have HMG : Hid (∀ W, Below w.heap.size w W → Calls Tryz.prog 117 #[.slice m[p]!.A n m[p]!.c, .slice A2 d2.size c2] W fun e w' => ∃ (b o c : Nat), e = .returned (.slice (some ⟨b, o, none⟩) n c) ∧ (∀ j v, ((mergeN m[p]!.z d2).toList.map (Value.int .i64))[j]? = some v → w'.cell? ((⟨b, o, none⟩ : Addr).add j) = some v) ∧ Below W.heap.size W w') := fun W hb => by
    have e1 : (mergeN m[p]!.z d2).size = n := by rw [mergeN_size, hz p (by omega), hd2]; omega
    have := Merge_any m[p]!.A A2 m[p]!.c c2 m[p]!.z d2 W (((h.2 p (show p < m.size by omega)).below hb).rd) ((h2.below hb).mono hb.size) (by rw [hz p (by omega)]; omega) (by omega)
    rw [hz p (by omega), e1] at this
    refine this.mono fun e w' ⟨A3, c3, he, hr, hbb⟩ => ?_
    obtain ⟨b, o, hA, _, f⟩ := hr (by omega)
    subst hA
    refine ⟨b, o, c3, he, fun j v hj => ?_, hbb⟩
    rw [List.getElem?_map] at hj
    rcases Nat.lt_or_ge j (mergeN m[p]!.z d2).size with hl | hl
    · rw [Addr.add_lit, f j hl]
      rw [Array.getElem?_toList, Array.getElem?_eq_getElem hl] at hj
      rw [getElem!_pos _ j hl]
      simpa using hj
    · rw [Array.getElem?_toList, Array.getElem?_eq_none hl] at hj
      cases hj
  have hsz1 : (Tryz.prog.info? 3).map (·.size) = some 1 := by kernel_rfl
  have HJ : Hid (∀ i, i < m.size → m[i]!.z.size = n) := hz
  have hxs : (mergeN m[p]!.z d2).size = n := by rw [mergeN_size, hz p (by omega), hd2]; omega
  have hcl : (catM m m.size).length = n * n := (catM_len m hz m.size (Nat.le_refl _)).trans (by rw [hms])
  have hle : (p + 1) * n ≤ n * n := Nat.mul_le_mul_right n hp
  rw [Nat.succ_mul] at hle
  obtain ⟨bm, om, hA, hbm, fm⟩ := h.1.rd.at_ (i := p) (show p < m.size by omega)
  have hA' : A = some ⟨bm, om, none⟩ := hA
  subst hA'
  have e0 := fm 0 (by omega)
  have hzp := hz p (by omega)
  simp only [Nat.add_zero, Nat.mul_one, encW, RW.v, List.getElem!_cons_zero, hzp] at e0
  have HE0 : Hid (∀ W, Below w.heap.size w W → W.cell? ⟨bm, om + p, none⟩ = some (.slice m[p]!.A n m[p]!.c)) := fun W hb => (hb.cell (p := ⟨bm, om + p, none⟩) hbm).trans e0
  obtain ⟨X, hX⟩ : ∃ X, mergeN m[p]!.z d2 = X := ⟨_, rfl⟩
  rw [hX] at HMG hxs ⊢
  obtain ⟨XS, hXS⟩ : ∃ XS, X.toList.map (Value.int .i64) = XS := ⟨_, rfl⟩
  rw [hXS] at HMG
  have hXl : XS.length = n := by rw [← hXS]; simpa using hxs
  have hX1 : ∀ v ∈ XS, v.oneCell' = true := by
    intro v hv
    rw [← hXS] at hv
    obtain ⟨_, _, rfl⟩ := List.mem_map.1 hv
    rfl
  have HXS := Lib.hid hXS
  have HXl := Lib.hid hXl
  have HX1 := Lib.hid hX1
  have HRow := Lib.hid (fun (i : Nat) (hi : i < n) => tellD_row m (p := p) (x := X) hz hms hp hxs hi)
  have HAt := Lib.hid (fun (t : Nat) (ht : t < n * n) => tellD_at m n p X ht)
  have HMS := Lib.hid hms
  have HCL := Lib.hid hcl
  have HXZ := Lib.hid hxs
  have hn0 : 0 < n := by omega
  have hn10 : n ≤ 9 := by omega
  obtain ⟨u, hu⟩ : ∃ u, m[p]! = u := ⟨_, rfl⟩
  rw [hu] at HE0 HMG
  obtain ⟨q, hq⟩ : ∃ q, p * n = q := ⟨_, rfl⟩
  have HQ := Lib.hid hq
  obtain ⟨nn, hnn⟩ : ∃ nn, n * n = nn := ⟨_, rfl⟩
  rw [hq, hnn] at hle
  have HNN := Lib.hid hnn
  have HLE := Lib.hid hle
  have kz : (p : Int) < (n : Int) := by omega
  have km : (p : Int) < (m.size : Int) := by omega
  generalize catM m m.size = CM at HCP HAt HCL
  clear h hm h2 hd hn9 hmn hrows hz hd2 hA fm e0 hzp hX hXS hXl hX1 hu hq hnn hle hms hcl hxs
  go_enter Tryz.func60, Tryz.ntmps60
  go_wp2_with (first
    | (go_at_call 81; refine HCK.out.mono ?_; rintro _ w1 ⟨rfl, hb1⟩; have HB1 := Lib.hid hb1; clear hb1)
    | (go_at_call 115; refine (HAM.out _).mono ?_; rintro _ _ ⟨rfl, rfl⟩)
    | (go_at_call 82; refine (HCM.out _ HB1.out).mono ?_; rintro _ w2 ⟨rfl, hb2⟩; have HB2 := Lib.hid (belStep HB1.out hb2); clear hb2)
    | fail)
  refine (HCP.out _ HB2.out).mono ?_
  rintro _ w3 ⟨v, b, rfl, hWb, ⟨cap, cur, hcur, hcap, hcs, htk⟩, hown, hb3⟩
  have HB3 := Lib.hid (belStep HB2.out hb3)
  have HO3 := Lib.hid hown
  obtain ⟨_, ⟨rfl, h00⟩ | ⟨g2, cap2, cur2, rfl, hg2, hh2, hnc2, hcm2, hcs2, htk2⟩⟩ := hown
  · omega
  have hgl2 : g2 < w3.heap.size := (Array.getElem?_eq_some_iff.1 hh2).1
  have hbl : b < w3.heap.size := by omega
  have a0 : w3.cell? ⟨g2, p, none⟩ = some (.slice (some ⟨b, q, none⟩) n n) := by
    rw [HO3.out.cellAt p (by omega), List.getElem?_map, List.getElem?_range hp]
    simp [HQ.out]
  have b0 := HE0.out _ HB3.out
  have HWB : Hid (w.heap.size ≤ b) := Lib.hid (Nat.le_trans HB2.out.size hWb)
  obtain ⟨L0, rfl⟩ : ∃ L : List Value, cur = L.toArray := ⟨cur.toList, by simp⟩
  have HL3 : Hid (w3.heap[b]? = some (.cells L0.toArray 3 (0, 0))) := hcur
  have HTK : Hid (L0.take nn = CM.map (Value.int .i64)) := by show _ = _; rw [← HNN.out]; exact htk
  have HLN : Hid (nn ≤ L0.length) := by show _ ≤ _; rw [← HNN.out]; simp at hcs; omega
  have HFI : Hid (q + XS.length ≤ L0.length) := by show _ ≤ _; rw [HXl.out]; exact Nat.le_trans HLE.out HLN.out
  have HMG2 := Lib.hid (HMG.out w3.drew HB3.out.drew)
  clear hcur hcs htk hb3 hh2 hcm2 hcs2 htk2 hWb hcap hnc2
  go_wp2
  have hwr : IntKind.i64.wrap (p : Int) = (p : Int) := IntWalk.i64_in _ (by omega)
  go_region_law (first
    | (refine step_copyK rfl (.tmp 34) (.tmp 41) 26 26 rfl 1 3 Tryz.underlying26 hsz1 b q n n ⟨bg, og, none⟩ n cg (by simp [Act.eval]) (by simp [Act.eval]) L0 3 HL4.out XS n (by simp) (by rw [Nat.mul_one]; exact HXl.out) hsrc HFI.out HX1.out w.heap.size w HB4.out HWB.out ?_; intro w5 hg5 hb5 ho5)
    | (go_simp; refine HMG2.out.mono ?_; rintro _ w4 ⟨bg, og, cg, rfl, hsrc, hbm4⟩; have HB4 := Lib.hid (belStep HB3.out.drew hbm4); have HL4 : Hid (w4.heap[b]? = some (.cells L0.toArray 3 (0, 0))) := Lib.hid ((hbm4.block b hbl).trans HL3.out); have a0 : w4.cell? ⟨g2, p, none⟩ = some (.slice (some ⟨b, q, none⟩) n n) := (hbm4.cell (p := ⟨g2, p, none⟩) hgl2).trans a0; have HO4 := Lib.hid (own_belK (w := w3.drew) HO3.out hbm4); clear hbm4; dsimp only))
  all_goals
    go_wp2
    go_ret2
    have hown5 := own_others HO4.out (Nat.lt_succ_self b) ho5.out
    have hg5' := hg5.out
    have hb5l : b < w5.heap.size := (Array.getElem?_eq_some_iff.1 hg5').1
    obtain ⟨y, e, hyz, hyr⟩ := cut_own (B0 := w.heap.size) (tellD m n p X) hown5 (by have := HWB.out; omega) hb5l HWB.out (fun t ht => by
      rw [Nat.zero_add, cell_of_row _ _ t _ _ (0, 0) hg5', List.getElem?_toArray, lay_get HFI.out, HAt.out t ht, HXl.out, HQ.out]
      rw [HNN.out] at ht
      split
      · rename_i hc
        have hl : t - q < X.size := by have := HXZ.out; omega
        have : XS[t - q]? = some (.int .i64 X[t - q]!) := by
          rw [← HXS.out, List.getElem?_map, Array.getElem?_toList, Array.getElem?_eq_getElem hl, getElem!_pos X _ hl]
          rfl
        exact this
      · rename_i hc
        have h3 : L0[t]? = (L0.take nn)[t]? := by rw [List.getElem?_take, if_pos ht]
        rw [h3, HTK.out, List.getElem?_map]
        have hl : t < CM.length := by rw [HCL.out, HNN.out]; exact ht
        rw [List.getElem?_eq_getElem hl, getElem!_pos _ t (by simpa using hl)]
        simp)
    refine ⟨⟨y, by rw [← e]; rfl, hyr, ?_⟩, hb5.out⟩
    rw [hyz]
    refine ⟨by rw [cutZ_size, HMS.out], fun i hi => ?_⟩
    rw [HMS.out] at hi
    rw [cutZ_at _ _ _ _ hi]
    exact HRow.out i hi
/-- What tells a column's numbers. -/
theorem column_any (A : Option Addr) (n c : Nat) (x : Int) (w : World) :
    Calls Tryz.prog 118 #[.slice A n c, .int .i64 x] w fun e w' => e = .returned (.func (.func 158) #[] #[.pointer (some ⟨w.heap.size, 0, none⟩), .pointer (some ⟨w.heap.size + 1, 0, none⟩)]) ∧ w' = (w.alloc (.cells #[.slice A n c] 25)).alloc (.cells #[.int .i64 x] 3) := by
  go_enter Tryz.func118, Tryz.ntmps118
  go_wp2
  go_ret
  exact ⟨rfl, rfl⟩
theorem col1_any (A : Option Addr) (c n k p g1 g2 : Nat) (m : Array (RW Int)) (w : World) (h : RdMM w ⟨A, c, m⟩) (hm : ∀ i, i < m.size → m[i]!.z.size = n) (hp : p < n) (hn : n ≤ 9) (hk : k < m.size)
    (q1 : w.cell? ⟨g1, 0, none⟩ = some (.slice A m.size c)) (q2 : w.cell? ⟨g2, 0, none⟩ = some (.int .i64 p)) :
    Calls Tryz.prog 158 #[.int .i64 k, .pointer (some ⟨g1, 0, none⟩), .pointer (some ⟨g2, 0, none⟩)] w fun e w' => e = .returned (.int .i64 m[k]!.z[p]!) ∧ Below w.heap.size w w' := by
  obtain ⟨bm, om, hA, hbm, fm⟩ := h.1.rd.at_ (i := k) hk
  have hA' : A = some ⟨bm, om, none⟩ := hA
  subst hA'
  have e0 := fm 0 (by omega)
  have hz := hm k hk
  obtain ⟨b, o, hB, _, fz⟩ := (h.2 k hk).rd (show 0 < m[k]!.z.size by omega)
  have e1 := fz p (show p < m[k]!.z.size by omega)
  simp only [Nat.add_zero, Nat.mul_one, encW, RW.v, List.getElem!_cons_zero, hz] at e0
  have hB' : m[k]!.A = some ⟨b, o, none⟩ := hB
  rw [hB'] at e0
  have kz : (k : Int) < (m.size : Int) := by omega
  have pz : (p : Int) < (n : Int) := by omega
  generalize m[k]!.z[p]! = r at e1 ⊢
  generalize m[k]!.c = mc at e0
  clear fm fz h hm hA hB hB' hz
  go_enter Tryz.func158, Tryz.ntmps158
  go_wp2
  go_quiet (fail)
  go_wp2
  go_ret
  exact ⟨rfl, belDrewN (Below.refl _ _) _⟩
theorem blk_setT {W : World} {g : Nat} {cs : Array Value} {t : TypeId} (h : W.heap[g]? = some (.cells cs t (0, 0))) (k : Nat) (u : Value) : (W.setCell ⟨g, k, none⟩ u).heap[g]? = some (.cells (cs.setIfInBounds k u) t (0, 0)) := by
  simp [World.setCell, Array.getElem?_modify, h]
theorem colM_size (m : Array (RW Int)) (c : Nat) : (colM m c).size = m.size := by simp [colM]
theorem colM_at (m : Array (RW Int)) (c : Nat) {j : Nat} (h : j < m.size) : (colM m c)[j]! = m[j]!.z[c]! := by
  rw [getElem!_pos _ j (by rw [colM_size]; exact h), getElem!_pos m j h]
  simp [colM]
set_option maxHeartbeats 8000000 in
theorem swFloor_any (A : Option Addr) (c n p : Nat) (m : Array (RW Int)) (w : World) (h : RdMM w ⟨A, c, m⟩) (hm : rowsB m n = true) (hp : p < n) :
    Calls Tryz.prog 61 #[.slice A m.size c, .int .i64 n, .int .i64 ((p : Int) + 1)] w fun e w' => e = .returned (.int .i64 (leastN (colM m p))) ∧ Below w.heap.size w w' := by
  obtain ⟨hn9, hmn, hrows⟩ := rows_iff.1 hm
  have hms : m.size = n := by omega
  have hz : ∀ i, i < m.size → m[i]!.z.size = n := fun i hi => by have := (marksE_iff.1 (hrows i hi)).2.1; omega
  have HCK : Hid (Calls Tryz.prog 81 #[.slice A m.size c, .int .i64 n] w fun e w' => e = .returned (.int .i64 0) ∧ Below w.heap.size w w') := by
    have := swCheck_any A c m n w h.1.rd h.2 (by omega) (fun i hi => by rw [hz i hi]; omega)
    have e0 : rowsE m n = 0 := by unfold rowsE; rw [if_pos hm]
    rwa [e0] at this
  have HAM : Hid (∀ W, Calls Tryz.prog 115 #[.int .i64 ((p : Int) + 1), .int .i64 n] W fun e w' => e = .returned (.bool true) ∧ W = w') := fun W => by
    have := among_any ((p : Int) + 1) n W
    rwa [decide_eq_true (by omega : 1 ≤ (p : Int) + 1 ∧ (p : Int) + 1 ≤ (n : Int))] at this
  have HCL : Hid (∀ W (k g1 g2 : Nat), Below w.heap.size w W → k < m.size → W.cell? ⟨g1, 0, none⟩ = some (.slice A m.size c) → W.cell? ⟨g2, 0, none⟩ = some (.int .i64 p) → Calls Tryz.prog 158 #[.int .i64 k, .pointer (some ⟨g1, 0, none⟩), .pointer (some ⟨g2, 0, none⟩)] W fun e w' => e = .returned (.int .i64 m[k]!.z[p]!) ∧ Below W.heap.size W w') :=
    fun W k g1 g2 hb hk q1 q2 => col1_any A c n k p g1 g2 m W (h.below hb) hz hp (by omega) hk q1 q2
  have HCO : Hid (∀ W, Calls Tryz.prog 118 #[.slice A m.size c, .int .i64 p] W fun e w' => e = .returned (.func (.func 158) #[] #[.pointer (some ⟨W.heap.size, 0, none⟩), .pointer (some ⟨W.heap.size + 1, 0, none⟩)]) ∧ w' = (W.alloc (.cells #[.slice A m.size c] 25)).alloc (.cells #[.int .i64 p] 3)) := fun W => column_any A m.size c p W
  have hmk := fun W => make_ints n (by omega) W
  have HMS := Lib.hid hms
  have hwr : IntKind.i64.wrap (p : Int) = (p : Int) := IntWalk.i64_in _ (by omega)
  have hn10 : n ≤ 9 := by omega
  clear h hm hn9 hmn hrows hz hms
  go_enter Tryz.func61, Tryz.ntmps61
  go_wp2_with (first
    | (go_at_call 81; refine HCK.out.mono ?_; rintro _ w1 ⟨rfl, hb1⟩; have HB1 := Lib.hid hb1; clear hb1)
    | (go_at_call 115; refine (HAM.out _).mono ?_; rintro _ _ ⟨rfl, rfl⟩)
    | (go_at_call 118; refine (HCO.out _).mono ?_; rintro _ w2 ⟨rfl, hw2⟩; have HBX : Hid (BoxG w1 w1.heap.size #[.slice A m.size c] 25 w2) := Lib.hid (by rw [hw2]; exact BoxG.fst w1 _ _ _ _); have HBY : Hid (BoxG w1 (w1.heap.size + 1) #[.int .i64 p] 3 w2) := Lib.hid (by rw [hw2]; exact BoxG.snd w1 _ _ _ _); clear hw2))
  clear hmk
  go_loopw [28] (fun i wr => ∃ k : Nat, i = .int .i64 k ∧ k ≤ n ∧ Hid (wr.heap[w2.heap.size]? = some (.cells (fcs n (fun j => m[j]!.z[p]!) k) 3 (0, 0))) ∧ Hid (Below w2.heap.size w2 wr)) (fun i _ => n - (intOf i).toNat)
  case atStart => exact ⟨0, rfl, Nat.zero_le _, Lib.hid (by rw [fcs_0 _ (fun j => m[j]!.z[p]!)]; exact heap_alloc_new w2 _), Lib.hid (bel1 w2 _)⟩
  case round =>
    obtain ⟨k, rfl, hk, HK, HB⟩ := hrel
    by_cases hlt : k < n
    · have kz : (k : Int) < (n : Int) := by omega
      have HX1 := Lib.hid (HBX.out.next HB.out)
      have HY1 := Lib.hid (HBY.out.next HB.out)
      have HF := Lib.hid (HCL.out wr k w1.heap.size (w1.heap.size + 1) (belStep HB1.out HX1.out.b) (by rw [HMS.out]; exact hlt) (HX1.out.at_ 0 rfl) (HY1.out.at_ 0 rfl))
      have HN := Lib.hid (fcs_set n (fun j => m[j]!.z[p]!) k)
      generalize m[k]!.z[p]! = x at HF HN
      go_wp2_with fail
      refine HF.out.mono ?_
      rintro _ w3 ⟨rfl, hb3⟩
      have hgs : w2.heap.size < wr.heap.size := blk_lt HK.out
      have HK3 : Hid (w3.heap[w2.heap.size]? = some (.cells (fcs n (fun j => m[j]!.z[p]!) k) 3 (0, 0))) := Lib.hid ((hb3.block _ hgs).trans HK.out)
      have HB3 := Lib.hid (belStep HB.out hb3)
      have cg : w3.cell? ⟨w2.heap.size, k, none⟩ = some (.int .i64 0) := by
        rw [cell_of_row w3 _ k _ _ (0, 0) HK3.out, fcs_at, if_pos hlt, if_neg (by omega)]
      have fg : w3.frozen? ⟨w2.heap.size, k, none⟩ = false := by
        have := HK3.out
        simp [World.frozen?, this]
      clear hb3
      go_wp2
      go_roundw
      case rel =>
        refine ⟨k + 1, by go_num, by omega, Lib.hid ?_, Lib.hid ?_⟩
        · rw [← HN.out]; exact blk_setT HK3.out k _
        · exact HB3.out.setCell (p := ⟨w2.heap.size, k, none⟩) (Nat.le_refl _) _
      case measure => simp [intOf]; omega
    · have hlt' : decide ((k : Int) < (n : Int)) = false := decide_eq_false (by omega)
      obtain rfl : k = n := by omega
      have hcs := colM_size m p
      have HE : Hid (wr.heap[w2.heap.size]? = some (.cells ((colM m p).map encI_R) 3 (0, 0))) := by
        show _ = _
        rw [HK.out, ← fcs_all, hcs, HMS.out]
        congr 2
        unfold fcs
        congr 1
        refine List.map_congr_left fun t ht => ?_
        have := List.mem_range.1 ht
        simp only [colM_at m p (show t < m.size by rw [HMS.out]; exact this)]
      have HL := Lib.hid (Least_any (some ⟨w2.heap.size, 0, none⟩) (colM m p).size (colM m p) _ wr (rdI_blk HE.out) (by have := HMS.out; omega))
      rw [hcs, HMS.out] at HL
      clear hcs
      go_wp2_with fail
      refine HL.out.mono ?_
      rintro _ _ ⟨rfl, rfl⟩
      go_wp2
      go_ret
      exact ⟨rfl, belStep HB1.out (belStep HBX.out.b HB.out)⟩
theorem cks1_any (x : Int × Int) (f : Int) (g : Nat) (w : World) (hg : g < w.heap.size) (hc : w.cell? ⟨g, 0, none⟩ = some (.int .i64 f)) :
    Calls Tryz.prog 120 #[.agg (encA_I x).toArray, .pointer (some ⟨g, 0, none⟩)] w fun e w' => e = .returned (.bool (decide (x.1 ≤ f))) ∧ Below w.heap.size w w' := by
  have hc' : ∀ o, (w.alloc o).cell? ⟨g, 0, none⟩ = some (.int .i64 f) := fun o => (World.cell?_alloc_lt w _ _ hg).trans hc
  have HB : Hid (∀ o, Below w.heap.size w (w.alloc o)) := Lib.hid (fun o => bel1 w o)
  simp only [encA_I]
  go_enter Tryz.func120, Tryz.ntmps120
  go_wp2
  go_ret
  exact ⟨rfl, HB.out _⟩
set_option maxHeartbeats 2000000 in
theorem ckSweep_any (A : Option Addr) (c : Nat) (d : Array (Int × Int)) (f : Int) (w : World) (h : RdK encA_I 2 w.heap.size w A d) (hs : d.size ≤ 1000000) :
    Calls Tryz.prog 62 #[.slice A d.size c, .int .i64 f] w fun e w' => (∃ y : RW (Int × Int), e = .returned y.v ∧ y.z = keptO d f ∧ RdN encA_I 2 w' y ∧ ∀ g off, y.A = some ⟨g, off, none⟩ → w.heap.size ≤ g) ∧ Below w.heap.size w w' := by
  have HC := Lib.hid (fun W (hb : Below w.heap.size w W) => CloneAny A c d W ((h.below hb).mono hb.size) hs)
  clear h
  go_enter Tryz.func62, Tryz.ntmps62
  have HB0 := Lib.hid (bel1 w (.cells #[.int .i64 f] 3))
  have HG0 : Hid ((w.alloc (.cells #[.int .i64 f] 3)).heap[w.heap.size]? = some (.cells #[.int .i64 f] 3 (0, 0))) := heap_alloc_new w _
  go_wp2_with fail
  refine (HC.out _ HB0.out).mono ?_
  rintro _ w1 ⟨v, rfl, hown, hb⟩
  have hg0 : w.heap.size < (w.alloc (.cells #[.int .i64 f] 3)).heap.size := by simp
  have HD := Lib.hid (delA_own (fun x => decide (x.1 ≤ f)) 120 #[.pointer (some ⟨w.heap.size, 0, none⟩)] (enters_of Tryz.func120 (by kernel_rfl) rfl) v d _ w1
    (fun W x hW hWs => cks1_any x f w.heap.size W (Nat.lt_of_lt_of_le hg0 hWs) (by
      rw [cell_of_row W w.heap.size 0 #[.int .i64 f] 3 (0, 0) (((hW _ hg0).trans (hb.block _ hg0)).trans HG0.out)]; rfl))
    hown hb.size hs)
  have HB1 := Lib.hid (belStep HB0.out hb)
  have HBw := Lib.hid hb
  clear hown hb HC
  go_wp2_with fail
  refine HD.out.mono ?_
  rintro _ w2 ⟨A2, c2, rfl, hr, hn, hf, hb2⟩
  have HF := Lib.hid (fun g off e => Nat.le_trans HB0.out.size (hf g off e))
  have HR := Lib.hid hr
  have HN := Lib.hid hn
  have HB2 := Lib.hid (belStep HB0.out (HBw.out.trans hb2))
  clear hr hn hf hb2
  go_wp2
  go_ret
  exact ⟨⟨⟨A2, c2, keptO d f⟩, rfl, rfl, ⟨HR.out, HN.out⟩, HF.out⟩, HB2.out⟩
end Go.Proofs.YtnmojicfmcbgmaaGreat
namespace Go.Proofs.YtnmojicfmcbgmaaGreat
open Go.RowKit Go.Sort Go.Lib
def kR (r : RP) (K cK : Nat) (ks : Array KE) : RP := { r with k := ⟨some ⟨K, 0, none⟩, cK, ks⟩ }
/-- The rows of what is known do not lie in the two boxes at w. -/
def FarK (w : World) (x : KE) : Prop := (0 < x.r.z.size → ∀ g off, x.r.A = some ⟨g, off, none⟩ → g < w.heap.size ∨ w.heap.size + 2 ≤ g) ∧ (0 < x.a.z.size → ∀ g off, x.a.A = some ⟨g, off, none⟩ → g < w.heap.size ∨ w.heap.size + 2 ≤ g)
theorem FarK.old {w : World} {x : KE} (h : RdKE w x) : FarK w x := by
  refine ⟨fun h0 g off e => Or.inl ?_, fun h0 g off e => Or.inl ?_⟩
  · obtain ⟨b, o, e2, hb, _⟩ := h.r.rd h0
    rw [e] at e2
    injection e2 with e2
    injection e2 with e2
    omega
  · obtain ⟨b, o, e2, hb, _⟩ := h.a.rd h0
    rw [e] at e2
    injection e2 with e2
    injection e2 with e2
    omega
theorem FarK.new {w : World} {x : KE} {B : Nat} (hB : w.heap.size + 2 ≤ B) (h1 : ∀ g off, x.r.A = some ⟨g, off, none⟩ → B ≤ g) (h2 : ∀ g off, x.a.A = some ⟨g, off, none⟩ → B ≤ g) : FarK w x :=
  ⟨fun _ g off e => Or.inr (Nat.le_trans hB (h1 g off e)), fun _ g off e => Or.inr (Nat.le_trans hB (h2 g off e))⟩
theorem RdK.apart {α : Type} [Inhabited α] {en : α → List Value} {k n : Nat} {W W' : World} {A : Option Addr} {d : Array α} (h : RdK en k W.heap.size W A d) (hf : 0 < d.size → ∀ g off, A = some ⟨g, off, none⟩ → g < n ∨ n + 2 ≤ g) (ho : ∀ j, (j < n ∨ n + 2 ≤ j) → j < W.heap.size → W'.heap[j]? = W.heap[j]?) (hs : W.heap.size ≤ W'.heap.size) : RdK en k W'.heap.size W' A d := fun h0 => by
  obtain ⟨b, off, e, hlt, hc⟩ := h h0
  exact ⟨b, off, e, Nat.lt_of_lt_of_le hlt hs, fun t ht => (World.cell?_of_block (w := W) (a := ⟨b, off + t, none⟩) (ho b (hf h0 b off e) hlt)).trans (hc t ht)⟩
theorem RdKE.apart {w W W' : World} {x : KE} (h : RdKE W x) (hf : FarK w x) (ho : ∀ j, (j < w.heap.size ∨ w.heap.size + 2 ≤ j) → j < W.heap.size → W'.heap[j]? = W.heap[j]?) (hs : W.heap.size ≤ W'.heap.size) : RdKE W' x :=
  ⟨⟨RdK.apart h.r.rd hf.1 ho hs, h.r.no⟩, ⟨RdK.apart h.a.rd hf.2 ho hs, h.a.no⟩⟩
/-- The replica lies in the box at w; what it knows in a row of its own at K. -/
structure RefW (w : World) (r : RP) (K cK : Nat) (ks : Array KE) (W : World) : Prop where
  x : BoxG w w.heap.size (encP (kR r K cK ks)).toArray 35 W
  z : BoxG w (w.heap.size + 1) zer18 35 W
  own : W.ownsRow (w.heap.size + 2) 53 3 (.slice (some ⟨K, 0, none⟩) ks.size cK) ks.size (flatK encKE 3 ks).toList
  kk : ∀ i, i < ks.size → RdKE W ks[i]!
  far : ∀ i, i < ks.size → FarK w ks[i]!
section
variable {w W W' : World} {r : RP} {K cK : Nat} {ks : Array KE}
theorem RefW.hK (h : RefW w r K cK ks W) : w.heap.size + 2 ≤ K ∧ K < W.heap.size := by
  obtain ⟨_, ⟨e, _⟩ | ⟨g, _, _, e, hB, hh, _⟩⟩ := h.own
  · cases e
  · injection e with e1
    injection e1 with e1
    injection e1 with e1
    subst e1
    exact ⟨hB, (Array.getElem?_eq_some_iff.1 hh).1⟩
theorem RefW.next (h : RefW w r K cK ks W) (hb : Below W.heap.size W W') : RefW w r K cK ks W' :=
  ⟨h.x.next hb, h.z.next hb, own_belK h.own hb, fun i hi => (h.kk i hi).below hb, h.far⟩
theorem RefW.rk (h : RefW w r K cK ks W) : RdW encKE 3 W ⟨some ⟨K, 0, none⟩, cK, ks⟩ := by
  obtain ⟨x, e, hz, hr⟩ := rdW_of_owns h.own
  have : x = ⟨some ⟨K, 0, none⟩, cK, ks⟩ := by
    obtain ⟨xA, xc, xz⟩ := x
    have hz' : xz = ks := hz
    subst hz'
    unfold RW.v at e
    injection e with q1 q2 q3
    subst q1 q3
    rfl
  rw [← this]
  exact hr
theorem RefW.rd (h : RefW w r K cK ks W) (hr : RdP w r) : RdP W (kR r K cK ks) := by
  have g := hr.below h.x.b
  exact ⟨g.e, g.o, h.rk, h.kk, g.m, g.mm, g.fr, g.d, g.dd, g.it, g.ss⟩
theorem RefW.cells (h : RefW w r K cK ks W) {i : Nat} (hi : i < ks.size) (c : Nat) (hc : c < 3) : W.cell? ⟨K, i * 3 + c, none⟩ = some (encKE ks[i]!)[c]! := by
  obtain ⟨b, off, e, _, f⟩ := h.rk.rd.at_ (i := i) hi
  have e' : some (⟨K, 0, none⟩ : Addr) = some ⟨b, off, none⟩ := e
  injection e' with e'
  injection e' with e1 e2
  subst e1 e2
  have := f c hc
  rwa [Nat.zero_add] at this
theorem RefW.froz (h : RefW w r K cK ks W) (j : Nat) : W.frozen? ⟨K, j, none⟩ = false := h.own.frozenAt j
theorem flatK_set (ks : Array KE) (i : Nat) (x : KE) (hi : i < ks.size) : (flatK encKE 3 (ks.setIfInBounds i x)).toList = (((flatK encKE 3 ks).toList.set (i * 3) (encKE x)[0]!).set (i * 3 + 1) (encKE x)[1]!).set (i * 3 + 2) (encKE x)[2]! := by
  have hs : (ks.setIfInBounds i x).size = ks.size := by simp
  have hl : ∀ d : Array KE, (flatK encKE 3 d).toList.length = d.size * 3 := fun d => by rw [Array.length_toList, size_flatK]
  apply List.ext_getElem?
  intro t
  simp only [List.getElem?_set, List.length_set, hl]
  rcases Nat.lt_or_ge t (ks.size * 3) with ht | ht
  · have hv : ∀ d : Array KE, d.size = ks.size → (flatK encKE 3 d).toList[t]? = some (encKE d[t / 3]!)[t % 3]! := fun d hd => by
      have h1 : t < (flatK encKE 3 d).size := by rw [size_flatK, hd]; exact ht
      rw [Array.getElem?_toList, Array.getElem?_eq_getElem h1, ← getElem!_pos _ t h1, get_flatK _ _ _ _ (by rw [hd]; exact ht)]
    rw [hv _ hs, hv _ rfl]
    by_cases h0 : t / 3 = i
    · have e : (ks.setIfInBounds i x)[t / 3]! = x := by rw [h0]; exact getElem!_set_same ks i x hi
      rw [e]
      have h3 : t % 3 = 0 ∨ t % 3 = 1 ∨ t % 3 = 2 := by omega
      rcases h3 with h3 | h3 | h3
      · rw [if_neg (by omega), if_neg (by omega), if_pos (by omega), if_pos (by omega), h3]
      · rw [if_neg (by omega), if_pos (by omega), if_pos (by omega), h3]
      · rw [if_pos (by omega), if_pos (by omega), h3]
    · have e : (ks.setIfInBounds i x)[t / 3]! = ks[t / 3]! := by
        rw [getElem!_def, getElem!_def, Array.getElem?_setIfInBounds, if_neg (Ne.symm h0)]
      rw [e, if_neg (by omega), if_neg (by omega), if_neg (by omega)]
  · rw [if_neg (by omega), if_neg (by omega), if_neg (by omega), List.getElem?_eq_none (by rw [hl, hs]; exact ht), List.getElem?_eq_none (by rw [hl]; exact ht)]
/-- An element is stored. -/
theorem RefW.put (h : RefW w r K cK ks W) {i : Nat} (hi : i < ks.size) {x : KE} (hx : RdKE W x) (hfx : FarK w x) :
    RefW w r K cK (ks.setIfInBounds i x) (((W.setCell ⟨K, i * 3, none⟩ (.int .i64 x.base)).setCell ⟨K, i * 3 + 1, none⟩ (.slice x.r.A x.r.z.size x.r.c)).setCell ⟨K, i * 3 + 2, none⟩ (.slice x.a.A x.a.z.size x.a.c)) := by
  obtain ⟨hK1, hK2⟩ := h.hK
  have hs : (ks.setIfInBounds i x).size = ks.size := by simp
  have he : encP (kR r K cK (ks.setIfInBounds i x)) = encP (kR r K cK ks) := by unfold kR encP; simp
  have hcell : ∀ b t, (b ≠ K ∨ t < i * 3 ∨ i * 3 + 3 ≤ t) → (((W.setCell ⟨K, i * 3, none⟩ (.int .i64 x.base)).setCell ⟨K, i * 3 + 1, none⟩ (.slice x.r.A x.r.z.size x.r.c)).setCell ⟨K, i * 3 + 2, none⟩ (.slice x.a.A x.a.z.size x.a.c)).cell? ⟨b, t, none⟩ = W.cell? ⟨b, t, none⟩ := by
    intro b t hbt
    have far : ∀ (V : World) (j : Nat) (v : Value), (⟨K, j, none⟩ : Addr) ≠ ⟨b, t, none⟩ → (V.setCell ⟨K, j, none⟩ v).cell? ⟨b, t, none⟩ = V.cell? ⟨b, t, none⟩ := fun V j v hne => World.cell?_setCell_other V _ _ v hne
    rw [far _ _ _ (by intro e; injection e with e1 e2; omega), far _ _ _ (by intro e; injection e with e1 e2; omega), far _ _ _ (by intro e; injection e with e1 e2; omega)]
  have hH : ∀ t, t < ks.size * 3 → W.cell? ⟨K, t, none⟩ = some (flatK encKE 3 ks)[t]! := fun t ht => by
    have := h.cells (i := t / 3) (by omega) (t % 3) (Nat.mod_lt _ (by decide))
    rw [show t / 3 * 3 + t % 3 = t by omega] at this
    rw [this, get_flatK _ _ _ _ ht]
  have hsz : (((W.setCell ⟨K, i * 3, none⟩ (.int .i64 x.base)).setCell ⟨K, i * 3 + 1, none⟩ (.slice x.r.A x.r.z.size x.r.c)).setCell ⟨K, i * 3 + 2, none⟩ (.slice x.a.A x.a.z.size x.a.c)).heap.size = W.heap.size := by simp
  have hke : ∀ y : KE, RdKE W y → RdKE (((W.setCell ⟨K, i * 3, none⟩ (.int .i64 x.base)).setCell ⟨K, i * 3 + 1, none⟩ (.slice x.r.A x.r.z.size x.r.c)).setCell ⟨K, i * 3 + 2, none⟩ (.slice x.a.A x.a.z.size x.a.c)) y := fun y hy =>
    ⟨⟨by rw [hsz]; exact pairs_keep encR_pair hH hy.r.rd hi hcell, hy.r.no⟩, ⟨by rw [hsz]; exact pairs_keep encA_pair hH hy.a.rd hi hcell, hy.a.no⟩⟩
  refine ⟨?_, ?_, ?_, ?_, fun j hj => ?_⟩
  · rw [he]
    exact ((h.x.far (g2 := K) (by omega) (by omega) _ _).far (g2 := K) (by omega) (by omega) _ _).far (g2 := K) (by omega) (by omega) _ _
  · exact ((h.z.far (g2 := K) (by omega) (by omega) _ _).far (g2 := K) (by omega) (by omega) _ _).far (g2 := K) (by omega) (by omega) _ _
  · rw [hs, flatK_set ks i x hi]
    exact (((h.own.stored (i * 3) _).1.stored (i * 3 + 1) _).1.stored (i * 3 + 2) _).1
  · intro j hj
    rw [hs] at hj
    by_cases hji : j = i
    · subst hji
      rw [getElem!_set_same ks j x hi]
      exact hke x hx
    · rw [show (ks.setIfInBounds i x)[j]! = ks[j]! by rw [getElem!_def, getElem!_def, Array.getElem?_setIfInBounds, if_neg (Ne.symm hji)]]
      exact hke _ (h.kk j hj)
  · rw [hs] at hj
    by_cases hji : j = i
    · subst hji
      rw [getElem!_set_same ks j x hi]
      exact hfx
    · rw [show (ks.setIfInBounds i x)[j]! = ks[j]! by rw [getElem!_def, getElem!_def, Array.getElem?_setIfInBounds, if_neg (Ne.symm hji)]]
      exact h.far j hj
end
end Go.Proofs.YtnmojicfmcbgmaaGreat
namespace Go.Proofs.YtnmojicfmcbgmaaGreat
open Go.RowKit Go.Sort Go.Lib
set_option maxRecDepth 100000
attribute [local go_sem ↓] execOp_loadRep execOp_storeRep
attribute [local go_sem] run_loadBox run_storeBox_any run_storeBox_newA allOne_lit size_lit
/-- What is known behind the promises: only its own row is another one. -/
structure KbR (r : RP) (p : Nat) (kb : Array KE) : Prop where
  sz : kb.size = r.k.z.size
  oth : ∀ i, i < r.k.z.size → i ≠ p → kb[i]! = r.k.z[i]!
  me : AddR r.k.z[p]!.kn r.floor r.clock r.o.z kb[p]!.kn
  ml : kb[p]!.r.z.size ≤ r.k.z[p]!.r.z.size + r.k.z[p]!.a.z.size + r.o.z.size + 1
theorem KbR.chk {r : RP} {p : Nat} {kb : Array KE} (h : KbR r p kb) (hc : chkR r = true) (hf : FewM r) (hs : r.self = (p : Int) + 1) (hp : p < r.k.z.size) : ∀ i, i < r.k.z.size → ChkP kb[i]!.kn ∧ kb[i]!.r.z.size ≤ 500 ∧ kb[i]!.a.z.size ≤ 300 := by
  intro i hi
  by_cases hip : i = p
  · subst hip
    have h1 := hf.s i hi (by rw [hs])
    have h2 := hf.o
    have hg := grow_add (addA_of (chk_iff.1 (chkR_kk hc i hi)) (chkR_clk hc)) h.me (by show r.k.z[i]!.a.z.size + r.o.z.size ≤ 400; omega)
    have h3 := hg.2.2.1
    have h4 := h.ml
    refine ⟨hg.1, by omega, ?_⟩
    have h5 : kb[i]!.a.z.size ≤ r.k.z[i]!.a.z.size + r.o.z.size := h3
    omega
  · rw [h.oth i hi hip]
    have := hf.k i hi
    exact ⟨chk_iff.1 (chkR_kk hc i hi), by omega, by omega⟩
/-- What is known when the first k rows are settled. -/
structure KsR (r : RP) (kb ks : Array KE) (k : Nat) : Prop where
  sz : ks.size = kb.size
  lo : ∀ i, i < k → i < kb.size → (∃ ids, OverR r kb[i]!.kn ids ∧ SetR kb[i]!.kn ids ks[i]!.kn) ∧ ks[i]!.r.z.size ≤ 1000 ∧ ks[i]!.a.z.size ≤ 400
  hi : ∀ i, k ≤ i → i < kb.size → ks[i]! = kb[i]!
theorem KsR.few {r : RP} {p : Nat} {kb ks : Array KE} {k K cK : Nat} (h : KsR r kb ks k) (hb : KbR r p kb) (hc : chkR r = true) (hf : FewM r) (hs : r.self = (p : Int) + 1) (hp : p < r.k.z.size) : FewC (kR r K cK ks) := by
  have f := hf.c
  refine ⟨f.es, f.ee, f.o, ?_, f.m, f.mm, f.fr, f.d, f.dd, ?_⟩
  · show ks.size ≤ 20
    rw [h.sz, hb.sz]
    exact f.k
  · intro i hi
    have hi' : i < ks.size := hi
    rw [h.sz] at hi'
    show ks[i]!.r.z.size ≤ 1000 ∧ ks[i]!.a.z.size ≤ 1000
    rcases Nat.lt_or_ge i k with hk | hk
    · have := (h.lo i hk hi').2
      omega
    · rw [h.hi i hk hi']
      have := hb.chk hc hf hs hp i (by rw [← hb.sz]; exact hi')
      omega
theorem KsR.put {r : RP} {kb ks : Array KE} {k : Nat} {x : KE} {ids : Array Int} (h : KsR r kb ks k) (hk : k < kb.size) (ho : OverR r kb[k]!.kn ids) (hx : SetR kb[k]!.kn ids x.kn) (h1 : x.r.z.size ≤ 1000) (h2 : x.a.z.size ≤ 400) : KsR r kb (ks.setIfInBounds k x) (k + 1) := by
  have hne : ∀ i, i ≠ k → (ks.setIfInBounds k x)[i]! = ks[i]! := fun i hi => by
    rw [getElem!_def, getElem!_def, Array.getElem?_setIfInBounds, if_neg (Ne.symm hi)]
  refine ⟨by simpa using h.sz, fun i hi hs => ?_, fun i hi hs => by rw [hne i (by omega)]; exact h.hi i (by omega) hs⟩
  by_cases hik : i = k
  · subst hik
    rw [getElem!_set_same ks i x (by rw [h.sz]; exact hk)]
    exact ⟨⟨ids, ho, hx⟩, h1, h2⟩
  · rw [hne i hik]
    exact h.lo i (by omega) hs
theorem KsR.chk {r : RP} {p : Nat} {kb ks : Array KE} (h : KsR r kb ks r.k.z.size) (hb : KbR r p kb) (hc : chkR r = true) (hf : FewM r) (hs : r.self = (p : Int) + 1) (hp : p < r.k.z.size) : ∀ i, i < r.k.z.size → chkB ks[i]!.kn = true := by
  intro i hi
  obtain ⟨⟨ids, _, hset⟩, _⟩ := h.lo i hi (by rw [hb.sz]; exact hi)
  exact chk_iff.2 (grow_set (hb.chk hc hf hs hp i hi).1 hset).1
theorem chk_kR {r : RP} {K cK : Nat} {ks : Array KE} (hc : chkR r = true) (hs : ks.size = r.k.z.size) (hk : ∀ i, i < r.k.z.size → chkB ks[i]!.kn = true) : chkR (kR r K cK ks) = true := by
  obtain ⟨⟨a1, a2, a3, a4, a5, a6, a7, a8, a9, a10, a11, a12, a13, a14, a15⟩, hB, hC⟩ := (chkR_iff r).1 hc
  refine (chkR_iff (kR r K cK ks)).2 ⟨⟨a1, a2, a3, a4, a5, a6, a7, a8, a9, a10, a11, ?_, a13, a14, a15⟩, ⟨hB.1, fun i hi => ⟨if_pos (hk i ?_), (hB.2 i ?_).2⟩⟩, hC⟩
  · show (ks.size : Int) = r.n
    rw [hs]; exact a12
  · have hi' : i < ks.size := hi
    omega
  · have hi' : i < ks.size := hi
    omega
/-- What Settle tells, sized. -/
theorem set_few {k s : KN} {ids : Array Int} (h : ChkP k) (hs : SetR k ids s) : s.rs.size ≤ 1000 ∧ s.ats.size ≤ 400 := by
  obtain ⟨l, _, l2, l3⟩ := hs.ok h
  exact ⟨Nat.le_trans l3.sz l2, l3.chk.sz⟩
/-- A replica is read wherever all but the two boxes at w is as it is in W. -/
def RdQ (w W : World) (rp : RP) : Prop := ∀ W', Below w.heap.size w W' → (∀ j, w.heap.size + 2 ≤ j → j < W.heap.size → W'.heap[j]? = W.heap[j]?) → W.heap.size ≤ W'.heap.size → RdP W' rp
section
variable {w W W2 : World} {rp r : RP}
theorem RdQ.rd (h : RdQ w W rp) (hb : Below w.heap.size w W) : RdP W rp := h W hb (fun _ _ _ => rfl) (Nat.le_refl _)
theorem RdQ.next (h : RdQ w W rp) (hb : Below W.heap.size W W2) : RdQ w W2 rp := fun W' h1 h2 h3 =>
  h W' h1 (fun j hj hl => (h2 j hj (Nat.lt_of_lt_of_le hl hb.size)).trans (hb.block j hl)) (Nat.le_trans hb.size h3)
theorem RdQ.box (h : RdQ w W rp) (ho : ∀ j, w.heap.size + 2 ≤ j → W2.heap[j]? = W.heap[j]?) (hs : W2.heap.size = W.heap.size) : RdQ w W2 rp := fun W' h1 h2 h3 =>
  h W' h1 (fun j hj hl => (h2 j hj (by omega)).trans (ho j hj)) (by omega)
theorem RefW.q {K cK : Nat} {ks : Array KE} (h : RefW w r K cK ks W) (hr : RdP w r) : RdQ w W (kR r K cK ks) := fun W' h1 h2 h3 => by
  have g := hr.below h1
  have hrk : RdW encKE 3 W' ⟨some ⟨K, 0, none⟩, cK, ks⟩ := by
    obtain ⟨x, e, hz, hx⟩ := rdW_of_owns (own_same (W := W') h.own (Nat.le_refl _) h2)
    have : x = ⟨some ⟨K, 0, none⟩, cK, ks⟩ := by
      obtain ⟨xA, xc, xz⟩ := x
      have hz' : xz = ks := hz
      subst hz'
      unfold RW.v at e
      injection e with q1 q2 q3
      subst q1 q3
      rfl
    rw [← this]
    exact hx
  refine ⟨g.e, g.o, hrk, fun i hi => ?_, g.m, g.mm, g.fr, g.d, g.dd, g.it, g.ss⟩
  have hi' : i < ks.size := hi
  refine RdKE.apart (h.kk i hi') (h.far i hi') (fun j hj hl => ?_) h3
  rcases hj with hj | hj
  · exact (h1.block j hj).trans (h.x.b.block j hj).symm
  · exact h2 j hj hl
theorem RdQ.setM (h : RdQ w W rp) {B : Nat} {y : RW (RW Int)} (hy : OwnMM B W y) (hB : w.heap.size + 2 ≤ B) : RdQ w W { rp with m := y } := fun W' h1 h2 h3 => by
  have g := h W' h1 h2 h3
  have m := hy W' (fun j hj hl => h2 j (by omega) hl) h3
  exact ⟨g.e, g.o, g.k, g.kk, m.1, m.2, g.fr, g.d, g.dd, g.it, g.ss⟩
theorem RdQ.setF (h : RdQ w W rp) (f : Int) : RdQ w W { rp with floor := f } := fun W' h1 h2 h3 => by
  have g := h W' h1 h2 h3
  exact ⟨g.e, g.o, g.k, g.kk, g.m, g.mm, g.fr, g.d, g.dd, g.it, g.ss⟩
theorem RdQ.setO (h : RdQ w W rp) {y : RW (Int × Int)} (hy : RdN encA_I 2 W y) (hf : ∀ g off, y.A = some ⟨g, off, none⟩ → w.heap.size + 2 ≤ g) : RdQ w W { rp with o := y } := fun W' h1 h2 h3 => by
  have g := h W' h1 h2 h3
  refine ⟨g.e, ⟨fun h0 => ?_, hy.no⟩, g.k, g.kk, g.m, g.mm, g.fr, g.d, g.dd, g.it, g.ss⟩
  obtain ⟨b, off, e, hlt, hc⟩ := hy.rd h0
  exact ⟨b, off, e, Nat.lt_of_lt_of_le hlt h3, fun t ht => (World.cell?_of_block (w := W) (a := ⟨b, off + t, none⟩) (h2 b (hf b off e) hlt)).trans (hc t ht)⟩
end
theorem tell_rows {m : Array (RW Int)} {n : Int} {p : Nat} {x : Array Int} {y : Array (RW Int)} (hm : rowsB m n = true) (hx : marksE x n = 0) (h : TellR m p x y) : rowsB y n = true := by
  obtain ⟨a, b, c⟩ := rows_iff.1 hm
  refine rows_iff.2 ⟨a, by rw [h.1]; exact b, fun i hi => ?_⟩
  rw [h.1] at hi
  rw [h.2 i hi]
  split
  · exact hx
  · exact c i hi
end Go.Proofs.YtnmojicfmcbgmaaGreat
