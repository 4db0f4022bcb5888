/- The image's reader: what the closure of commands reads. -/
import Derived.Test.YtnmojicfmcbgmaaGreatDoorQIoA
import Derived.Test.YtnmojicfmcbgmaaGreatDoorQStG
namespace Go.Proofs.YtnmojicfmcbgmaaGreatDoor
open Go.RowKit Go.Sort Go.Lib Nb
set_option maxRecDepth 100000
/-! An entry is loaded, stored whole: rules for the walk. -/
def loadBoxE (t : TypeId) (v : Value) : Sem Value := Instr.loadAt t v
def storeBoxE (t : TypeId) (v x : Value) : Sem Unit := Instr.storeAt t v x
theorem execOp_loadEnt (ρ : Operand → Value) (dst : Option Tmp) (x : Operand) (ty : TypeId) (pos : String) (after : Array Edge) (guard : Option (Nat × Bool)) :
    execOp ρ { dst, op := .load 132 x, type := ty, pos, after, guard } = (do pure (.value (← loadBoxE 132 (ρ x)))) := rfl
theorem execOp_storeEnt (ρ : Operand → Value) (dst : Option Tmp) (x y : Operand) (ty : TypeId) (pos : String) (after : Array Edge) (guard : Option (Nat × Bool)) :
    execOp ρ { dst, op := .store 132 x y, type := ty, pos, after, guard } = (do storeBoxE 132 (ρ x) (ρ y); pure .skip) := rfl
theorem run_loadBoxE (W : World) (g : Nat) (h : boxAt W g 10 = true) : (loadBoxE 132 (.pointer (some ⟨g, 0, none⟩))).run Tryz.prog W = .ok (.agg (rowAt W g)) W := by
  obtain ⟨t, h1, h2⟩ := of_boxAt h
  simp only [loadBoxE, Instr.loadAt, Instr.sureAddr, Sem.run_bind, Sem.run_pure, Result.andThen]
  exact run_loadVar_row W g t 132 _ (0, 0) _ h1 Tryz.underlying132 rfl (by rw [h2]; kernel_rfl)
theorem run_storeBoxE (W : World) (g : Nat) (cs : Array Value) (h : boxAt W g 10 = true) (hc : cs.size = 10) (h1 : allOne cs = true) :
    (storeBoxE 132 (.pointer (some ⟨g, 0, none⟩)) (.agg cs)).run Tryz.prog W = .ok () (W.setRow g cs) := by
  obtain ⟨t, h2, h3⟩ := of_boxAt h
  simp only [storeBoxE, Instr.storeAt, Instr.sureAddr, Sem.run_bind, Sem.run_pure, Result.andThen]
  exact run_storeVar_row W g t 132 _ cs h2 (by rw [hc]; kernel_rfl) (by rw [h3, hc]) h1
theorem results_ent {fn : Func} {t : Tmp} (hf : fn.results = #[.cell t 132]) {tm : Array Value} {W : World} {g : Nat} {cs : Array Value} {T : TypeId} (hg : tm.getD t undef = .pointer (some ⟨g, 0, none⟩)) (h : W.heap[g]? = some (.cells cs T (0, 0))) (hc : cs.size = 10) : (results fn tm).run Tryz.prog W = .ok (.agg cs) W := by
  have hg2 : tm[t]?.getD undef = .pointer (some ⟨g, 0, none⟩) := by rw [← Array.getD_eq_getD_getElem?]; exact hg
  have hl : (loadVar 132 ⟨g, 0, none⟩).run Tryz.prog W = .ok (.agg cs) W := run_loadVar_row W g T 132 cs (0, 0) _ h Tryz.underlying132 rfl (by rw [hc]; kernel_rfl)
  simp [results, hf, hg2, asAddr, hl]
theorem run_storeCells_all (W : World) (g : Nat) (T : TypeId) (old cs : Array Value) (hg : W.heap[g]? = some (.cells old T (0, 0))) (ho : old.size = cs.size) (h1 : allOne cs = true) : (storeCells ⟨g, 0, none⟩ cs.toList).run Tryz.prog W = .ok () (W.setRow g cs) := by
  have := run_storeCells_from (P := Tryz.prog) g T cs.toList 0 old W hg (by simp; omega) (fun v hv => (Array.all_eq_true_iff_forall_mem.1 h1) v (by simpa using hv))
  simpa using this
theorem setRow_grown (W : World) (g : Nat) (cs : Array Value) : W.grownBy (W.setRow g cs) (some g) := ⟨rfl, rfl, rfl, by simp, fun k _ hk => setRow_other W g k _ (fun e => hk (by rw [e]))⟩
/-- Behind an entry's eight numbers: the box at q holds them. -/
structure EJ (n b B : Nat) (s : ByteArray) (p1 p3 : Nat) (st : IS) (w : World) (zs cs : Array Value) (q : Nat) (W : World) : Prop where
  v : VRd n b B s p1 p3 st W
  p : IPost n b B s st w W
  o : W.heap[w.heap.size]? = some (.cells zs 132 (0, 0))
  r : W.heap[q]? = some (.cells cs 132 (0, 0))
  q1 : w.heap.size < q
attribute [local go_sem ↓] execOp_loadEnt execOp_storeEnt
attribute [local go_sem] run_loadBoxE run_storeBoxE
set_option maxHeartbeats 20000000 in
theorem entry_any {n b B p1 p3 : Nat} {s : ByteArray} {st : IS} {w : World} (h : VRd n b B s p1 p3 st w) (hs : s.size ≤ 1000000) :
    Calls Tryz.prog 134 #[.pointer (some ⟨p3, 0, none⟩), .pointer (some ⟨p1, 0, none⟩)] w fun e w' => OfP kdE entM nnE (fun x => .agg (encE x).toArray) n b B s (enC.rd s.data.toList st) w e w' := by
  rcases e0 : nC.rd s.data.toList st with ⟨st1, x0⟩
  rcases e1 : nC.rd s.data.toList st1 with ⟨st2, x1⟩
  rcases e2 : nC.rd s.data.toList st2 with ⟨st3, x2⟩
  rcases e3 : nC.rd s.data.toList st3 with ⟨st4, x3⟩
  rcases e4 : nC.rd s.data.toList st4 with ⟨st5, x4⟩
  rcases e5 : nC.rd s.data.toList st5 with ⟨st6, x5⟩
  rcases e6 : nC.rd s.data.toList st6 with ⟨st7, x6⟩
  rcases e7 : nC.rd s.data.toList st7 with ⟨st8, x7⟩
  rcases e8 : (textC 300 (by decide)).rd s.data.toList st8 with ⟨st9, x8⟩
  rcases e9 : (rowC 6 (by decide)).rd s.data.toList st9 with ⟨st10, g⟩
  have EE : Hid (enC.rd s.data.toList st = (st10, ([x0, x1, x2, x3, x4, x5, x6, x7], (x8, g)))) := pair_rd (manyR8 e0 e1 e2 e3 e4 e5 e6 e7) (pair_rd e8 e9)
  have E0 := Lib.hid e0
  have E1 := Lib.hid e1
  have E2 := Lib.hid e2
  have E3 := Lib.hid e3
  have E4 := Lib.hid e4
  have E5 := Lib.hid e5
  have E6 := Lib.hid e6
  have E7 := Lib.hid e7
  have E8 := Lib.hid e8
  have E9 := Lib.hid e9
  have M9 := Lib.hid (acks_of (rowC_each e9))
  rw [EE.out]
  clear e0 e1 e2 e3 e4 e5 e6 e7 e8 e9
  have H := Lib.hid h
  have HS := Lib.hid hs
  have HQN := Lib.hid h.i.hn
  clear h hs
  obtain ⟨zs, hzs⟩ : ∃ y, y = (#[.int .i64 0, .int .i64 0, .int .i64 0, .int .i64 0, .int .i64 0, .int .i64 0, .int .i64 0, .int .i64 0, .string ⟨#[]⟩, .slice none 0 0] : Array Value) := ⟨_, rfl⟩
  have HZ : zs.size = 10 := by rw [hzs]; rfl
  obtain ⟨cs, hcs⟩ : ∃ y, y = (#[.int .i64 (x0 : Int), .int .i64 (x1 : Int), .int .i64 (x2 : Int), .int .i64 (x3 : Int), .int .i64 (x4 : Int), .int .i64 (x5 : Int), .int .i64 (x6 : Int), .int .i64 (x7 : Int), .string ⟨#[]⟩, .slice none 0 0] : Array Value) := ⟨_, rfl⟩
  have HI : cs.size = 10 := by rw [hcs]; rfl
  have H1 : allOne cs = true := by rw [hcs]; simp [allOne, Value.oneCell']
  have HCS := Lib.hid hcs
  have HZS := Lib.hid hzs
  clear hcs hzs
  go_enter Tryz.func134, Tryz.ntmps134
  go_upto_region 1 with (fail)
  rw [← HZS.out]
  go_cut [3] from 4 to 20 (fun v wx => ∃ q, v = .pointer (some ⟨q, 0, none⟩) ∧ EJ n b B s p1 p3 st8 w zs cs q wx)
  case first =>
    go_wp2_with fail
    refine wp_region_E (S := fun W => W.cell? ⟨p1, 0, none⟩ = some (.pointer (some ⟨B, 0, none⟩)) ∧ W.cell? ⟨p3, 0, none⟩ = some (.func (.func 76) #[.pointer (some ⟨B, 0, none⟩)] #[]) ∧ W.cell? ⟨B, 0, none⟩ = some (.pointer (some ⟨b, 0, none⟩))) (by kernel_rfl) ?_
    obtain ⟨w0, hw0⟩ : ∃ W, W = (w.alloc (.cells zs 132)).drew := ⟨_, rfl⟩
    rw [← hw0]
    have B0 : Hid (Below w.heap.size w w0) := by show Below _ _ _; rw [hw0]; exact (bel1 w _).drew
    have Q0 : Hid (w0.heap[w.heap.size]? = some (.cells zs 132 (0, 0))) := by show _ = _; rw [hw0]; exact hA1 w _
    clear hw0
    have V0 := Lib.hid (H.out.below B0.out)
    have P0 := Lib.hid (IPost.of_below H.out.i B0.out)
    have hS := V0.out.sw
    unfold SW at hS
    refine takeD (some 4) (i := 0) (v := ?_) rfl rfl (by kernel_rfl) (by kernel_rfl) (by kernel_rfl) (fun _ _ _ h => h) (Or.inl ⟨by rfl, ?_⟩) hS ?_
    rotate_left
    · (intro W hW; (try dsimp only at hW); go_simp; with_reducible rfl)
    simp only [Act.put, List.setIfInBounds_toArray, List.set_cons_zero, List.set_cons_succ]
    refine takeD (some 6) (i := 2) (v := ?_) rfl rfl (by kernel_rfl) (by kernel_rfl) (by kernel_rfl) (fun _ _ _ h => h) (Or.inl ⟨by rfl, ?_⟩) hS ?_
    rotate_left
    · (intro W hW; (try dsimp only at hW); go_simp; with_reducible rfl)
    simp only [Act.put, List.setIfInBounds_toArray, List.set_cons_zero, List.set_cons_succ]
    refine takeD (some 8) (i := 4) (v := ?_) rfl rfl (by kernel_rfl) (by kernel_rfl) (by kernel_rfl) (fun _ _ _ h => h) (Or.inl ⟨by rfl, ?_⟩) hS ?_
    rotate_left
    · (intro W hW; (try dsimp only at hW); go_simp; with_reducible rfl)
    simp only [Act.put, List.setIfInBounds_toArray, List.set_cons_zero, List.set_cons_succ]
    refine takeD (some 10) (i := 6) (v := ?_) rfl rfl (by kernel_rfl) (by kernel_rfl) (by kernel_rfl) (fun _ _ _ h => h) (Or.inl ⟨by rfl, ?_⟩) hS ?_
    rotate_left
    · (intro W hW; (try dsimp only at hW); go_simp; with_reducible rfl)
    simp only [Act.put, List.setIfInBounds_toArray, List.set_cons_zero, List.set_cons_succ]
    refine takeD (some 12) (i := 8) (v := ?_) rfl rfl (by kernel_rfl) (by kernel_rfl) (by kernel_rfl) (fun _ _ _ h => h) (Or.inl ⟨by rfl, ?_⟩) hS ?_
    rotate_left
    · (intro W hW; (try dsimp only at hW); go_simp; with_reducible rfl)
    simp only [Act.put, List.setIfInBounds_toArray, List.set_cons_zero, List.set_cons_succ]
    refine takeD (some 14) (i := 10) (v := ?_) rfl rfl (by kernel_rfl) (by kernel_rfl) (by kernel_rfl) (fun _ _ _ h => h) (Or.inl ⟨by rfl, ?_⟩) hS ?_
    rotate_left
    · (intro W hW; (try dsimp only at hW); go_simp; with_reducible rfl)
    simp only [Act.put, List.setIfInBounds_toArray, List.set_cons_zero, List.set_cons_succ]
    refine takeD (some 16) (i := 12) (v := ?_) rfl rfl (by kernel_rfl) (by kernel_rfl) (by kernel_rfl) (fun _ _ _ h => h) (Or.inl ⟨by rfl, ?_⟩) hS ?_
    rotate_left
    · (intro W hW; (try dsimp only at hW); go_simp; with_reducible rfl)
    simp only [Act.put, List.setIfInBounds_toArray, List.set_cons_zero, List.set_cons_succ]
    refine takeD (some 18) (i := 14) (v := ?_) rfl rfl (by kernel_rfl) (by kernel_rfl) (by kernel_rfl) (fun _ _ _ h => h) (Or.inl ⟨by rfl, ?_⟩) hS ?_
    rotate_left
    · (intro W hW; (try dsimp only at hW); go_simp; with_reducible rfl)
    simp only [Act.put, List.setIfInBounds_toArray, List.set_cons_zero, List.set_cons_succ]
    refine wpAnyE_ready (rs := [1, 17]) (by kernel_rfl) (by simp) (AllReadyE.cons rfl (fun K hK => ?_) (AllReadyE.cons rfl (fun K hK => ?_) AllReadyE.nil))
    · go_simp
      refine (vnum_any V0.out HS.out E0.out).mono ?_
      rintro _ w1 ⟨rfl, hp⟩
      have V1 := Lib.hid (V0.out.post hp)
      have P1 := Lib.hid (P0.out.trans hp)
      have Q1 := Lib.hid (hp.heap Q0.out HQN.out)
      clear hp
      refine hK.out _ _ V1.out.sw (fun _ => ?_)
      clear hK K
      refine wpAnyE_ready (rs := [3, 17]) (by kernel_rfl) (by simp) (AllReadyE.cons rfl (fun K hK => ?_) (AllReadyE.cons rfl (fun K hK => ?_) AllReadyE.nil))
      · go_simp
        refine (vnum_any V1.out HS.out E1.out).mono ?_
        rintro _ w2 ⟨rfl, hp⟩
        have V2 := Lib.hid (V1.out.post hp)
        have P2 := Lib.hid (P1.out.trans hp)
        have Q2 := Lib.hid (hp.heap Q1.out HQN.out)
        clear hp
        refine hK.out _ _ V2.out.sw (fun _ => ?_)
        clear hK K
        refine wpAnyE_ready (rs := [5, 17]) (by kernel_rfl) (by simp) (AllReadyE.cons rfl (fun K hK => ?_) (AllReadyE.cons rfl (fun K hK => ?_) AllReadyE.nil))
        · go_simp
          refine (vnum_any V2.out HS.out E2.out).mono ?_
          rintro _ w3 ⟨rfl, hp⟩
          have V3 := Lib.hid (V2.out.post hp)
          have P3 := Lib.hid (P2.out.trans hp)
          have Q3 := Lib.hid (hp.heap Q2.out HQN.out)
          clear hp
          refine hK.out _ _ V3.out.sw (fun _ => ?_)
          clear hK K
          refine wpAnyE_ready (rs := [7, 17]) (by kernel_rfl) (by simp) (AllReadyE.cons rfl (fun K hK => ?_) (AllReadyE.cons rfl (fun K hK => ?_) AllReadyE.nil))
          · go_simp
            refine (vnum_any V3.out HS.out E3.out).mono ?_
            rintro _ w4 ⟨rfl, hp⟩
            have V4 := Lib.hid (V3.out.post hp)
            have P4 := Lib.hid (P3.out.trans hp)
            have Q4 := Lib.hid (hp.heap Q3.out HQN.out)
            clear hp
            refine hK.out _ _ V4.out.sw (fun _ => ?_)
            clear hK K
            refine wpAnyE_ready (rs := [9, 17]) (by kernel_rfl) (by simp) (AllReadyE.cons rfl (fun K hK => ?_) (AllReadyE.cons rfl (fun K hK => ?_) AllReadyE.nil))
            · go_simp
              refine (vnum_any V4.out HS.out E4.out).mono ?_
              rintro _ w5 ⟨rfl, hp⟩
              have V5 := Lib.hid (V4.out.post hp)
              have P5 := Lib.hid (P4.out.trans hp)
              have Q5 := Lib.hid (hp.heap Q4.out HQN.out)
              clear hp
              refine hK.out _ _ V5.out.sw (fun _ => ?_)
              clear hK K
              refine wpAnyE_ready (rs := [11, 17]) (by kernel_rfl) (by simp) (AllReadyE.cons rfl (fun K hK => ?_) (AllReadyE.cons rfl (fun K hK => ?_) AllReadyE.nil))
              · go_simp
                refine (vnum_any V5.out HS.out E5.out).mono ?_
                rintro _ w6 ⟨rfl, hp⟩
                have V6 := Lib.hid (V5.out.post hp)
                have P6 := Lib.hid (P5.out.trans hp)
                have Q6 := Lib.hid (hp.heap Q5.out HQN.out)
                clear hp
                refine hK.out _ _ V6.out.sw (fun _ => ?_)
                clear hK K
                refine wpAnyE_ready (rs := [13, 17]) (by kernel_rfl) (by simp) (AllReadyE.cons rfl (fun K hK => ?_) (AllReadyE.cons rfl (fun K hK => ?_) AllReadyE.nil))
                · go_simp
                  refine (vnum_any V6.out HS.out E6.out).mono ?_
                  rintro _ w7 ⟨rfl, hp⟩
                  have V7 := Lib.hid (V6.out.post hp)
                  have P7 := Lib.hid (P6.out.trans hp)
                  have Q7 := Lib.hid (hp.heap Q6.out HQN.out)
                  clear hp
                  refine hK.out _ _ V7.out.sw (fun _ => ?_)
                  clear hK K
                  refine wpAnyE_ready (rs := [15, 17]) (by kernel_rfl) (by simp) (AllReadyE.cons rfl (fun K hK => ?_) (AllReadyE.cons rfl (fun K hK => ?_) AllReadyE.nil))
                  · go_simp
                    refine (vnum_any V7.out HS.out E7.out).mono ?_
                    rintro _ w8 ⟨rfl, hp⟩
                    have V8 := Lib.hid (V7.out.post hp)
                    have P8 := Lib.hid (P7.out.trans hp)
                    have Q8 := Lib.hid (hp.heap Q7.out HQN.out)
                    clear hp
                    refine hK.out _ _ V8.out.sw (fun _ => ?_)
                    clear hK K
                    have hS := V8.out.sw
                    unfold SW at hS
                    refine takeD (some 20) (i := 16) (v := ?_) rfl rfl (by kernel_rfl) (by kernel_rfl) (by kernel_rfl) (fun _ _ _ h => h) (Or.inl ⟨by rfl, ?_⟩) hS ?_
                    rotate_left
                    · (intro W hW; (try dsimp only at hW); go_simp; with_reducible rfl)
                    simp only [Act.put, List.setIfInBounds_toArray, List.set_cons_zero, List.set_cons_succ]
                    refine wpAnyE_ready (rs := [17]) (by kernel_rfl) (by simp) (AllReadyE.cons rfl (fun K hK => ?_) AllReadyE.nil)
                    go_simp
                    rw [← HZS.out]
                    have hb := bel1 w8 (.cells zs 132)
                    have V8 := Lib.hid (V8.out.below hb)
                    have P8 := Lib.hid (P8.out.below hb)
                    have RN : Hid (n ≤ w8.heap.size ∧ w.heap.size < w8.heap.size) := ⟨by have := Q8.out; have := lt_of_heap this; have := HQN.out; omega, lt_of_heap Q8.out⟩
                    have Q8 := Lib.hid ((hb.block _ (lt_of_heap Q8.out)).trans Q8.out)
                    have R := Lib.hid (heap_new_D w8 (.cells zs 132))
                    obtain ⟨wa, hwa⟩ : ∃ W, W = w8.alloc (.cells zs 132) := ⟨_, rfl⟩
                    rw [← hwa] at V8 P8 Q8 R ⊢
                    obtain ⟨q, hq⟩ : ∃ q, q = w8.heap.size := ⟨_, rfl⟩
                    rw [← hq] at R RN ⊢
                    clear hwa hb hq
                    refine hK.out _ _ V8.out.sw (fun _ => ?_)
                    clear hK K
                    rw [← HCS.out]
                    have hbx := run_storeCells_all _ q _ _ cs R.out (by rw [HZ, HI]) H1
                    refine wpAnyE_ready (rs := [18]) (by kernel_rfl) (by simp) (AllReadyE.last rfl (by kernel_rfl) (fun K hK => ?_))
                    go_simp
                    refine hK.out _ _ ?_
                    clear hK K hbx
                    refine wpAnyE_done (by kernel_rfl) ?_ _
                    go_wp2
                    go_meet
                    have hg := setRow_grown wa q cs
                    have hp := P8.out.box R.out (by decide) (Nat.le_of_lt RN.out.2) HQN.out H.out.ge hg
                    exact ⟨q, rfl, H.out.post hp, hp, (hg.block _ (lt_of_heap Q8.out) (by intro e; injection e with e; have := RN.out.2; omega)).trans Q8.out, setRow_heap wa q _ cs _ _ R.out, RN.out.2⟩
                  · go_simp
                    rw [← HZS.out]
                    have hb := bel1 w7 (.cells zs 132)
                    have V7 := Lib.hid (V7.out.below hb)
                    have P7 := Lib.hid (P7.out.below hb)
                    have RN : Hid (n ≤ w7.heap.size ∧ w.heap.size < w7.heap.size) := ⟨by have := Q7.out; have := lt_of_heap this; have := HQN.out; omega, lt_of_heap Q7.out⟩
                    have Q7 := Lib.hid ((hb.block _ (lt_of_heap Q7.out)).trans Q7.out)
                    have R := Lib.hid (heap_new_D w7 (.cells zs 132))
                    obtain ⟨wa, hwa⟩ : ∃ W, W = w7.alloc (.cells zs 132) := ⟨_, rfl⟩
                    rw [← hwa] at V7 P7 Q7 R ⊢
                    obtain ⟨q, hq⟩ : ∃ q, q = w7.heap.size := ⟨_, rfl⟩
                    rw [← hq] at R RN ⊢
                    clear hwa hb hq
                    refine hK.out _ _ V7.out.sw (fun _ => ?_)
                    clear hK K
                    refine wpAnyE_ready (rs := [15]) (by kernel_rfl) (by simp) (AllReadyE.cons rfl (fun K hK => ?_) AllReadyE.nil)
                    go_simp
                    refine (vnum_any V7.out HS.out E7.out).mono ?_
                    rintro _ w8 ⟨rfl, hp⟩
                    have V8 := Lib.hid (V7.out.post hp)
                    have P8 := Lib.hid (P7.out.trans hp)
                    have Q8 := Lib.hid (hp.heap Q7.out HQN.out)
                    have R := Lib.hid (hp.heap R.out RN.out.1)
                    clear hp
                    refine hK.out _ _ V8.out.sw (fun _ => ?_)
                    clear hK K
                    have hS := V8.out.sw
                    unfold SW at hS
                    refine takeD (some 20) (i := 16) (v := ?_) rfl rfl (by kernel_rfl) (by kernel_rfl) (by kernel_rfl) (fun _ _ _ h => h) (Or.inl ⟨by rfl, ?_⟩) hS ?_
                    rotate_left
                    · (intro W hW; (try dsimp only at hW); go_simp; with_reducible rfl)
                    simp only [Act.put, List.setIfInBounds_toArray, List.set_cons_zero, List.set_cons_succ]
                    rw [← HCS.out]
                    have hbx := run_storeCells_all _ q _ _ cs R.out (by rw [HZ, HI]) H1
                    refine wpAnyE_ready (rs := [18]) (by kernel_rfl) (by simp) (AllReadyE.last rfl (by kernel_rfl) (fun K hK => ?_))
                    go_simp
                    refine hK.out _ _ ?_
                    clear hK K hbx
                    refine wpAnyE_done (by kernel_rfl) ?_ _
                    go_wp2
                    go_meet
                    have hg := setRow_grown w8 q cs
                    have hp := P8.out.box R.out (by decide) (Nat.le_of_lt RN.out.2) HQN.out H.out.ge hg
                    exact ⟨q, rfl, H.out.post hp, hp, (hg.block _ (lt_of_heap Q8.out) (by intro e; injection e with e; have := RN.out.2; omega)).trans Q8.out, setRow_heap w8 q _ cs _ _ R.out, RN.out.2⟩
                · go_simp
                  rw [← HZS.out]
                  have hb := bel1 w6 (.cells zs 132)
                  have V6 := Lib.hid (V6.out.below hb)
                  have P6 := Lib.hid (P6.out.below hb)
                  have RN : Hid (n ≤ w6.heap.size ∧ w.heap.size < w6.heap.size) := ⟨by have := Q6.out; have := lt_of_heap this; have := HQN.out; omega, lt_of_heap Q6.out⟩
                  have Q6 := Lib.hid ((hb.block _ (lt_of_heap Q6.out)).trans Q6.out)
                  have R := Lib.hid (heap_new_D w6 (.cells zs 132))
                  obtain ⟨wa, hwa⟩ : ∃ W, W = w6.alloc (.cells zs 132) := ⟨_, rfl⟩
                  rw [← hwa] at V6 P6 Q6 R ⊢
                  obtain ⟨q, hq⟩ : ∃ q, q = w6.heap.size := ⟨_, rfl⟩
                  rw [← hq] at R RN ⊢
                  clear hwa hb hq
                  refine hK.out _ _ V6.out.sw (fun _ => ?_)
                  clear hK K
                  refine wpAnyE_ready (rs := [13]) (by kernel_rfl) (by simp) (AllReadyE.cons rfl (fun K hK => ?_) AllReadyE.nil)
                  go_simp
                  refine (vnum_any V6.out HS.out E6.out).mono ?_
                  rintro _ w7 ⟨rfl, hp⟩
                  have V7 := Lib.hid (V6.out.post hp)
                  have P7 := Lib.hid (P6.out.trans hp)
                  have Q7 := Lib.hid (hp.heap Q6.out HQN.out)
                  have R := Lib.hid (hp.heap R.out RN.out.1)
                  clear hp
                  refine hK.out _ _ V7.out.sw (fun _ => ?_)
                  clear hK K
                  refine wpAnyE_ready (rs := [15]) (by kernel_rfl) (by simp) (AllReadyE.cons rfl (fun K hK => ?_) AllReadyE.nil)
                  go_simp
                  refine (vnum_any V7.out HS.out E7.out).mono ?_
                  rintro _ w8 ⟨rfl, hp⟩
                  have V8 := Lib.hid (V7.out.post hp)
                  have P8 := Lib.hid (P7.out.trans hp)
                  have Q8 := Lib.hid (hp.heap Q7.out HQN.out)
                  have R := Lib.hid (hp.heap R.out RN.out.1)
                  clear hp
                  refine hK.out _ _ V8.out.sw (fun _ => ?_)
                  clear hK K
                  have hS := V8.out.sw
                  unfold SW at hS
                  refine takeD (some 20) (i := 16) (v := ?_) rfl rfl (by kernel_rfl) (by kernel_rfl) (by kernel_rfl) (fun _ _ _ h => h) (Or.inl ⟨by rfl, ?_⟩) hS ?_
                  rotate_left
                  · (intro W hW; (try dsimp only at hW); go_simp; with_reducible rfl)
                  simp only [Act.put, List.setIfInBounds_toArray, List.set_cons_zero, List.set_cons_succ]
                  rw [← HCS.out]
                  have hbx := run_storeCells_all _ q _ _ cs R.out (by rw [HZ, HI]) H1
                  refine wpAnyE_ready (rs := [18]) (by kernel_rfl) (by simp) (AllReadyE.last rfl (by kernel_rfl) (fun K hK => ?_))
                  go_simp
                  refine hK.out _ _ ?_
                  clear hK K hbx
                  refine wpAnyE_done (by kernel_rfl) ?_ _
                  go_wp2
                  go_meet
                  have hg := setRow_grown w8 q cs
                  have hp := P8.out.box R.out (by decide) (Nat.le_of_lt RN.out.2) HQN.out H.out.ge hg
                  exact ⟨q, rfl, H.out.post hp, hp, (hg.block _ (lt_of_heap Q8.out) (by intro e; injection e with e; have := RN.out.2; omega)).trans Q8.out, setRow_heap w8 q _ cs _ _ R.out, RN.out.2⟩
              · go_simp
                rw [← HZS.out]
                have hb := bel1 w5 (.cells zs 132)
                have V5 := Lib.hid (V5.out.below hb)
                have P5 := Lib.hid (P5.out.below hb)
                have RN : Hid (n ≤ w5.heap.size ∧ w.heap.size < w5.heap.size) := ⟨by have := Q5.out; have := lt_of_heap this; have := HQN.out; omega, lt_of_heap Q5.out⟩
                have Q5 := Lib.hid ((hb.block _ (lt_of_heap Q5.out)).trans Q5.out)
                have R := Lib.hid (heap_new_D w5 (.cells zs 132))
                obtain ⟨wa, hwa⟩ : ∃ W, W = w5.alloc (.cells zs 132) := ⟨_, rfl⟩
                rw [← hwa] at V5 P5 Q5 R ⊢
                obtain ⟨q, hq⟩ : ∃ q, q = w5.heap.size := ⟨_, rfl⟩
                rw [← hq] at R RN ⊢
                clear hwa hb hq
                refine hK.out _ _ V5.out.sw (fun _ => ?_)
                clear hK K
                refine wpAnyE_ready (rs := [11]) (by kernel_rfl) (by simp) (AllReadyE.cons rfl (fun K hK => ?_) AllReadyE.nil)
                go_simp
                refine (vnum_any V5.out HS.out E5.out).mono ?_
                rintro _ w6 ⟨rfl, hp⟩
                have V6 := Lib.hid (V5.out.post hp)
                have P6 := Lib.hid (P5.out.trans hp)
                have Q6 := Lib.hid (hp.heap Q5.out HQN.out)
                have R := Lib.hid (hp.heap R.out RN.out.1)
                clear hp
                refine hK.out _ _ V6.out.sw (fun _ => ?_)
                clear hK K
                refine wpAnyE_ready (rs := [13]) (by kernel_rfl) (by simp) (AllReadyE.cons rfl (fun K hK => ?_) AllReadyE.nil)
                go_simp
                refine (vnum_any V6.out HS.out E6.out).mono ?_
                rintro _ w7 ⟨rfl, hp⟩
                have V7 := Lib.hid (V6.out.post hp)
                have P7 := Lib.hid (P6.out.trans hp)
                have Q7 := Lib.hid (hp.heap Q6.out HQN.out)
                have R := Lib.hid (hp.heap R.out RN.out.1)
                clear hp
                refine hK.out _ _ V7.out.sw (fun _ => ?_)
                clear hK K
                refine wpAnyE_ready (rs := [15]) (by kernel_rfl) (by simp) (AllReadyE.cons rfl (fun K hK => ?_) AllReadyE.nil)
                go_simp
                refine (vnum_any V7.out HS.out E7.out).mono ?_
                rintro _ w8 ⟨rfl, hp⟩
                have V8 := Lib.hid (V7.out.post hp)
                have P8 := Lib.hid (P7.out.trans hp)
                have Q8 := Lib.hid (hp.heap Q7.out HQN.out)
                have R := Lib.hid (hp.heap R.out RN.out.1)
                clear hp
                refine hK.out _ _ V8.out.sw (fun _ => ?_)
                clear hK K
                have hS := V8.out.sw
                unfold SW at hS
                refine takeD (some 20) (i := 16) (v := ?_) rfl rfl (by kernel_rfl) (by kernel_rfl) (by kernel_rfl) (fun _ _ _ h => h) (Or.inl ⟨by rfl, ?_⟩) hS ?_
                rotate_left
                · (intro W hW; (try dsimp only at hW); go_simp; with_reducible rfl)
                simp only [Act.put, List.setIfInBounds_toArray, List.set_cons_zero, List.set_cons_succ]
                rw [← HCS.out]
                have hbx := run_storeCells_all _ q _ _ cs R.out (by rw [HZ, HI]) H1
                refine wpAnyE_ready (rs := [18]) (by kernel_rfl) (by simp) (AllReadyE.last rfl (by kernel_rfl) (fun K hK => ?_))
                go_simp
                refine hK.out _ _ ?_
                clear hK K hbx
                refine wpAnyE_done (by kernel_rfl) ?_ _
                go_wp2
                go_meet
                have hg := setRow_grown w8 q cs
                have hp := P8.out.box R.out (by decide) (Nat.le_of_lt RN.out.2) HQN.out H.out.ge hg
                exact ⟨q, rfl, H.out.post hp, hp, (hg.block _ (lt_of_heap Q8.out) (by intro e; injection e with e; have := RN.out.2; omega)).trans Q8.out, setRow_heap w8 q _ cs _ _ R.out, RN.out.2⟩
            · go_simp
              rw [← HZS.out]
              have hb := bel1 w4 (.cells zs 132)
              have V4 := Lib.hid (V4.out.below hb)
              have P4 := Lib.hid (P4.out.below hb)
              have RN : Hid (n ≤ w4.heap.size ∧ w.heap.size < w4.heap.size) := ⟨by have := Q4.out; have := lt_of_heap this; have := HQN.out; omega, lt_of_heap Q4.out⟩
              have Q4 := Lib.hid ((hb.block _ (lt_of_heap Q4.out)).trans Q4.out)
              have R := Lib.hid (heap_new_D w4 (.cells zs 132))
              obtain ⟨wa, hwa⟩ : ∃ W, W = w4.alloc (.cells zs 132) := ⟨_, rfl⟩
              rw [← hwa] at V4 P4 Q4 R ⊢
              obtain ⟨q, hq⟩ : ∃ q, q = w4.heap.size := ⟨_, rfl⟩
              rw [← hq] at R RN ⊢
              clear hwa hb hq
              refine hK.out _ _ V4.out.sw (fun _ => ?_)
              clear hK K
              refine wpAnyE_ready (rs := [9]) (by kernel_rfl) (by simp) (AllReadyE.cons rfl (fun K hK => ?_) AllReadyE.nil)
              go_simp
              refine (vnum_any V4.out HS.out E4.out).mono ?_
              rintro _ w5 ⟨rfl, hp⟩
              have V5 := Lib.hid (V4.out.post hp)
              have P5 := Lib.hid (P4.out.trans hp)
              have Q5 := Lib.hid (hp.heap Q4.out HQN.out)
              have R := Lib.hid (hp.heap R.out RN.out.1)
              clear hp
              refine hK.out _ _ V5.out.sw (fun _ => ?_)
              clear hK K
              refine wpAnyE_ready (rs := [11]) (by kernel_rfl) (by simp) (AllReadyE.cons rfl (fun K hK => ?_) AllReadyE.nil)
              go_simp
              refine (vnum_any V5.out HS.out E5.out).mono ?_
              rintro _ w6 ⟨rfl, hp⟩
              have V6 := Lib.hid (V5.out.post hp)
              have P6 := Lib.hid (P5.out.trans hp)
              have Q6 := Lib.hid (hp.heap Q5.out HQN.out)
              have R := Lib.hid (hp.heap R.out RN.out.1)
              clear hp
              refine hK.out _ _ V6.out.sw (fun _ => ?_)
              clear hK K
              refine wpAnyE_ready (rs := [13]) (by kernel_rfl) (by simp) (AllReadyE.cons rfl (fun K hK => ?_) AllReadyE.nil)
              go_simp
              refine (vnum_any V6.out HS.out E6.out).mono ?_
              rintro _ w7 ⟨rfl, hp⟩
              have V7 := Lib.hid (V6.out.post hp)
              have P7 := Lib.hid (P6.out.trans hp)
              have Q7 := Lib.hid (hp.heap Q6.out HQN.out)
              have R := Lib.hid (hp.heap R.out RN.out.1)
              clear hp
              refine hK.out _ _ V7.out.sw (fun _ => ?_)
              clear hK K
              refine wpAnyE_ready (rs := [15]) (by kernel_rfl) (by simp) (AllReadyE.cons rfl (fun K hK => ?_) AllReadyE.nil)
              go_simp
              refine (vnum_any V7.out HS.out E7.out).mono ?_
              rintro _ w8 ⟨rfl, hp⟩
              have V8 := Lib.hid (V7.out.post hp)
              have P8 := Lib.hid (P7.out.trans hp)
              have Q8 := Lib.hid (hp.heap Q7.out HQN.out)
              have R := Lib.hid (hp.heap R.out RN.out.1)
              clear hp
              refine hK.out _ _ V8.out.sw (fun _ => ?_)
              clear hK K
              have hS := V8.out.sw
              unfold SW at hS
              refine takeD (some 20) (i := 16) (v := ?_) rfl rfl (by kernel_rfl) (by kernel_rfl) (by kernel_rfl) (fun _ _ _ h => h) (Or.inl ⟨by rfl, ?_⟩) hS ?_
              rotate_left
              · (intro W hW; (try dsimp only at hW); go_simp; with_reducible rfl)
              simp only [Act.put, List.setIfInBounds_toArray, List.set_cons_zero, List.set_cons_succ]
              rw [← HCS.out]
              have hbx := run_storeCells_all _ q _ _ cs R.out (by rw [HZ, HI]) H1
              refine wpAnyE_ready (rs := [18]) (by kernel_rfl) (by simp) (AllReadyE.last rfl (by kernel_rfl) (fun K hK => ?_))
              go_simp
              refine hK.out _ _ ?_
              clear hK K hbx
              refine wpAnyE_done (by kernel_rfl) ?_ _
              go_wp2
              go_meet
              have hg := setRow_grown w8 q cs
              have hp := P8.out.box R.out (by decide) (Nat.le_of_lt RN.out.2) HQN.out H.out.ge hg
              exact ⟨q, rfl, H.out.post hp, hp, (hg.block _ (lt_of_heap Q8.out) (by intro e; injection e with e; have := RN.out.2; omega)).trans Q8.out, setRow_heap w8 q _ cs _ _ R.out, RN.out.2⟩
          · go_simp
            rw [← HZS.out]
            have hb := bel1 w3 (.cells zs 132)
            have V3 := Lib.hid (V3.out.below hb)
            have P3 := Lib.hid (P3.out.below hb)
            have RN : Hid (n ≤ w3.heap.size ∧ w.heap.size < w3.heap.size) := ⟨by have := Q3.out; have := lt_of_heap this; have := HQN.out; omega, lt_of_heap Q3.out⟩
            have Q3 := Lib.hid ((hb.block _ (lt_of_heap Q3.out)).trans Q3.out)
            have R := Lib.hid (heap_new_D w3 (.cells zs 132))
            obtain ⟨wa, hwa⟩ : ∃ W, W = w3.alloc (.cells zs 132) := ⟨_, rfl⟩
            rw [← hwa] at V3 P3 Q3 R ⊢
            obtain ⟨q, hq⟩ : ∃ q, q = w3.heap.size := ⟨_, rfl⟩
            rw [← hq] at R RN ⊢
            clear hwa hb hq
            refine hK.out _ _ V3.out.sw (fun _ => ?_)
            clear hK K
            refine wpAnyE_ready (rs := [7]) (by kernel_rfl) (by simp) (AllReadyE.cons rfl (fun K hK => ?_) AllReadyE.nil)
            go_simp
            refine (vnum_any V3.out HS.out E3.out).mono ?_
            rintro _ w4 ⟨rfl, hp⟩
            have V4 := Lib.hid (V3.out.post hp)
            have P4 := Lib.hid (P3.out.trans hp)
            have Q4 := Lib.hid (hp.heap Q3.out HQN.out)
            have R := Lib.hid (hp.heap R.out RN.out.1)
            clear hp
            refine hK.out _ _ V4.out.sw (fun _ => ?_)
            clear hK K
            refine wpAnyE_ready (rs := [9]) (by kernel_rfl) (by simp) (AllReadyE.cons rfl (fun K hK => ?_) AllReadyE.nil)
            go_simp
            refine (vnum_any V4.out HS.out E4.out).mono ?_
            rintro _ w5 ⟨rfl, hp⟩
            have V5 := Lib.hid (V4.out.post hp)
            have P5 := Lib.hid (P4.out.trans hp)
            have Q5 := Lib.hid (hp.heap Q4.out HQN.out)
            have R := Lib.hid (hp.heap R.out RN.out.1)
            clear hp
            refine hK.out _ _ V5.out.sw (fun _ => ?_)
            clear hK K
            refine wpAnyE_ready (rs := [11]) (by kernel_rfl) (by simp) (AllReadyE.cons rfl (fun K hK => ?_) AllReadyE.nil)
            go_simp
            refine (vnum_any V5.out HS.out E5.out).mono ?_
            rintro _ w6 ⟨rfl, hp⟩
            have V6 := Lib.hid (V5.out.post hp)
            have P6 := Lib.hid (P5.out.trans hp)
            have Q6 := Lib.hid (hp.heap Q5.out HQN.out)
            have R := Lib.hid (hp.heap R.out RN.out.1)
            clear hp
            refine hK.out _ _ V6.out.sw (fun _ => ?_)
            clear hK K
            refine wpAnyE_ready (rs := [13]) (by kernel_rfl) (by simp) (AllReadyE.cons rfl (fun K hK => ?_) AllReadyE.nil)
            go_simp
            refine (vnum_any V6.out HS.out E6.out).mono ?_
            rintro _ w7 ⟨rfl, hp⟩
            have V7 := Lib.hid (V6.out.post hp)
            have P7 := Lib.hid (P6.out.trans hp)
            have Q7 := Lib.hid (hp.heap Q6.out HQN.out)
            have R := Lib.hid (hp.heap R.out RN.out.1)
            clear hp
            refine hK.out _ _ V7.out.sw (fun _ => ?_)
            clear hK K
            refine wpAnyE_ready (rs := [15]) (by kernel_rfl) (by simp) (AllReadyE.cons rfl (fun K hK => ?_) AllReadyE.nil)
            go_simp
            refine (vnum_any V7.out HS.out E7.out).mono ?_
            rintro _ w8 ⟨rfl, hp⟩
            have V8 := Lib.hid (V7.out.post hp)
            have P8 := Lib.hid (P7.out.trans hp)
            have Q8 := Lib.hid (hp.heap Q7.out HQN.out)
            have R := Lib.hid (hp.heap R.out RN.out.1)
            clear hp
            refine hK.out _ _ V8.out.sw (fun _ => ?_)
            clear hK K
            have hS := V8.out.sw
            unfold SW at hS
            refine takeD (some 20) (i := 16) (v := ?_) rfl rfl (by kernel_rfl) (by kernel_rfl) (by kernel_rfl) (fun _ _ _ h => h) (Or.inl ⟨by rfl, ?_⟩) hS ?_
            rotate_left
            · (intro W hW; (try dsimp only at hW); go_simp; with_reducible rfl)
            simp only [Act.put, List.setIfInBounds_toArray, List.set_cons_zero, List.set_cons_succ]
            rw [← HCS.out]
            have hbx := run_storeCells_all _ q _ _ cs R.out (by rw [HZ, HI]) H1
            refine wpAnyE_ready (rs := [18]) (by kernel_rfl) (by simp) (AllReadyE.last rfl (by kernel_rfl) (fun K hK => ?_))
            go_simp
            refine hK.out _ _ ?_
            clear hK K hbx
            refine wpAnyE_done (by kernel_rfl) ?_ _
            go_wp2
            go_meet
            have hg := setRow_grown w8 q cs
            have hp := P8.out.box R.out (by decide) (Nat.le_of_lt RN.out.2) HQN.out H.out.ge hg
            exact ⟨q, rfl, H.out.post hp, hp, (hg.block _ (lt_of_heap Q8.out) (by intro e; injection e with e; have := RN.out.2; omega)).trans Q8.out, setRow_heap w8 q _ cs _ _ R.out, RN.out.2⟩
        · go_simp
          rw [← HZS.out]
          have hb := bel1 w2 (.cells zs 132)
          have V2 := Lib.hid (V2.out.below hb)
          have P2 := Lib.hid (P2.out.below hb)
          have RN : Hid (n ≤ w2.heap.size ∧ w.heap.size < w2.heap.size) := ⟨by have := Q2.out; have := lt_of_heap this; have := HQN.out; omega, lt_of_heap Q2.out⟩
          have Q2 := Lib.hid ((hb.block _ (lt_of_heap Q2.out)).trans Q2.out)
          have R := Lib.hid (heap_new_D w2 (.cells zs 132))
          obtain ⟨wa, hwa⟩ : ∃ W, W = w2.alloc (.cells zs 132) := ⟨_, rfl⟩
          rw [← hwa] at V2 P2 Q2 R ⊢
          obtain ⟨q, hq⟩ : ∃ q, q = w2.heap.size := ⟨_, rfl⟩
          rw [← hq] at R RN ⊢
          clear hwa hb hq
          refine hK.out _ _ V2.out.sw (fun _ => ?_)
          clear hK K
          refine wpAnyE_ready (rs := [5]) (by kernel_rfl) (by simp) (AllReadyE.cons rfl (fun K hK => ?_) AllReadyE.nil)
          go_simp
          refine (vnum_any V2.out HS.out E2.out).mono ?_
          rintro _ w3 ⟨rfl, hp⟩
          have V3 := Lib.hid (V2.out.post hp)
          have P3 := Lib.hid (P2.out.trans hp)
          have Q3 := Lib.hid (hp.heap Q2.out HQN.out)
          have R := Lib.hid (hp.heap R.out RN.out.1)
          clear hp
          refine hK.out _ _ V3.out.sw (fun _ => ?_)
          clear hK K
          refine wpAnyE_ready (rs := [7]) (by kernel_rfl) (by simp) (AllReadyE.cons rfl (fun K hK => ?_) AllReadyE.nil)
          go_simp
          refine (vnum_any V3.out HS.out E3.out).mono ?_
          rintro _ w4 ⟨rfl, hp⟩
          have V4 := Lib.hid (V3.out.post hp)
          have P4 := Lib.hid (P3.out.trans hp)
          have Q4 := Lib.hid (hp.heap Q3.out HQN.out)
          have R := Lib.hid (hp.heap R.out RN.out.1)
          clear hp
          refine hK.out _ _ V4.out.sw (fun _ => ?_)
          clear hK K
          refine wpAnyE_ready (rs := [9]) (by kernel_rfl) (by simp) (AllReadyE.cons rfl (fun K hK => ?_) AllReadyE.nil)
          go_simp
          refine (vnum_any V4.out HS.out E4.out).mono ?_
          rintro _ w5 ⟨rfl, hp⟩
          have V5 := Lib.hid (V4.out.post hp)
          have P5 := Lib.hid (P4.out.trans hp)
          have Q5 := Lib.hid (hp.heap Q4.out HQN.out)
          have R := Lib.hid (hp.heap R.out RN.out.1)
          clear hp
          refine hK.out _ _ V5.out.sw (fun _ => ?_)
          clear hK K
          refine wpAnyE_ready (rs := [11]) (by kernel_rfl) (by simp) (AllReadyE.cons rfl (fun K hK => ?_) AllReadyE.nil)
          go_simp
          refine (vnum_any V5.out HS.out E5.out).mono ?_
          rintro _ w6 ⟨rfl, hp⟩
          have V6 := Lib.hid (V5.out.post hp)
          have P6 := Lib.hid (P5.out.trans hp)
          have Q6 := Lib.hid (hp.heap Q5.out HQN.out)
          have R := Lib.hid (hp.heap R.out RN.out.1)
          clear hp
          refine hK.out _ _ V6.out.sw (fun _ => ?_)
          clear hK K
          refine wpAnyE_ready (rs := [13]) (by kernel_rfl) (by simp) (AllReadyE.cons rfl (fun K hK => ?_) AllReadyE.nil)
          go_simp
          refine (vnum_any V6.out HS.out E6.out).mono ?_
          rintro _ w7 ⟨rfl, hp⟩
          have V7 := Lib.hid (V6.out.post hp)
          have P7 := Lib.hid (P6.out.trans hp)
          have Q7 := Lib.hid (hp.heap Q6.out HQN.out)
          have R := Lib.hid (hp.heap R.out RN.out.1)
          clear hp
          refine hK.out _ _ V7.out.sw (fun _ => ?_)
          clear hK K
          refine wpAnyE_ready (rs := [15]) (by kernel_rfl) (by simp) (AllReadyE.cons rfl (fun K hK => ?_) AllReadyE.nil)
          go_simp
          refine (vnum_any V7.out HS.out E7.out).mono ?_
          rintro _ w8 ⟨rfl, hp⟩
          have V8 := Lib.hid (V7.out.post hp)
          have P8 := Lib.hid (P7.out.trans hp)
          have Q8 := Lib.hid (hp.heap Q7.out HQN.out)
          have R := Lib.hid (hp.heap R.out RN.out.1)
          clear hp
          refine hK.out _ _ V8.out.sw (fun _ => ?_)
          clear hK K
          have hS := V8.out.sw
          unfold SW at hS
          refine takeD (some 20) (i := 16) (v := ?_) rfl rfl (by kernel_rfl) (by kernel_rfl) (by kernel_rfl) (fun _ _ _ h => h) (Or.inl ⟨by rfl, ?_⟩) hS ?_
          rotate_left
          · (intro W hW; (try dsimp only at hW); go_simp; with_reducible rfl)
          simp only [Act.put, List.setIfInBounds_toArray, List.set_cons_zero, List.set_cons_succ]
          rw [← HCS.out]
          have hbx := run_storeCells_all _ q _ _ cs R.out (by rw [HZ, HI]) H1
          refine wpAnyE_ready (rs := [18]) (by kernel_rfl) (by simp) (AllReadyE.last rfl (by kernel_rfl) (fun K hK => ?_))
          go_simp
          refine hK.out _ _ ?_
          clear hK K hbx
          refine wpAnyE_done (by kernel_rfl) ?_ _
          go_wp2
          go_meet
          have hg := setRow_grown w8 q cs
          have hp := P8.out.box R.out (by decide) (Nat.le_of_lt RN.out.2) HQN.out H.out.ge hg
          exact ⟨q, rfl, H.out.post hp, hp, (hg.block _ (lt_of_heap Q8.out) (by intro e; injection e with e; have := RN.out.2; omega)).trans Q8.out, setRow_heap w8 q _ cs _ _ R.out, RN.out.2⟩
      · go_simp
        rw [← HZS.out]
        have hb := bel1 w1 (.cells zs 132)
        have V1 := Lib.hid (V1.out.below hb)
        have P1 := Lib.hid (P1.out.below hb)
        have RN : Hid (n ≤ w1.heap.size ∧ w.heap.size < w1.heap.size) := ⟨by have := Q1.out; have := lt_of_heap this; have := HQN.out; omega, lt_of_heap Q1.out⟩
        have Q1 := Lib.hid ((hb.block _ (lt_of_heap Q1.out)).trans Q1.out)
        have R := Lib.hid (heap_new_D w1 (.cells zs 132))
        obtain ⟨wa, hwa⟩ : ∃ W, W = w1.alloc (.cells zs 132) := ⟨_, rfl⟩
        rw [← hwa] at V1 P1 Q1 R ⊢
        obtain ⟨q, hq⟩ : ∃ q, q = w1.heap.size := ⟨_, rfl⟩
        rw [← hq] at R RN ⊢
        clear hwa hb hq
        refine hK.out _ _ V1.out.sw (fun _ => ?_)
        clear hK K
        refine wpAnyE_ready (rs := [3]) (by kernel_rfl) (by simp) (AllReadyE.cons rfl (fun K hK => ?_) AllReadyE.nil)
        go_simp
        refine (vnum_any V1.out HS.out E1.out).mono ?_
        rintro _ w2 ⟨rfl, hp⟩
        have V2 := Lib.hid (V1.out.post hp)
        have P2 := Lib.hid (P1.out.trans hp)
        have Q2 := Lib.hid (hp.heap Q1.out HQN.out)
        have R := Lib.hid (hp.heap R.out RN.out.1)
        clear hp
        refine hK.out _ _ V2.out.sw (fun _ => ?_)
        clear hK K
        refine wpAnyE_ready (rs := [5]) (by kernel_rfl) (by simp) (AllReadyE.cons rfl (fun K hK => ?_) AllReadyE.nil)
        go_simp
        refine (vnum_any V2.out HS.out E2.out).mono ?_
        rintro _ w3 ⟨rfl, hp⟩
        have V3 := Lib.hid (V2.out.post hp)
        have P3 := Lib.hid (P2.out.trans hp)
        have Q3 := Lib.hid (hp.heap Q2.out HQN.out)
        have R := Lib.hid (hp.heap R.out RN.out.1)
        clear hp
        refine hK.out _ _ V3.out.sw (fun _ => ?_)
        clear hK K
        refine wpAnyE_ready (rs := [7]) (by kernel_rfl) (by simp) (AllReadyE.cons rfl (fun K hK => ?_) AllReadyE.nil)
        go_simp
        refine (vnum_any V3.out HS.out E3.out).mono ?_
        rintro _ w4 ⟨rfl, hp⟩
        have V4 := Lib.hid (V3.out.post hp)
        have P4 := Lib.hid (P3.out.trans hp)
        have Q4 := Lib.hid (hp.heap Q3.out HQN.out)
        have R := Lib.hid (hp.heap R.out RN.out.1)
        clear hp
        refine hK.out _ _ V4.out.sw (fun _ => ?_)
        clear hK K
        refine wpAnyE_ready (rs := [9]) (by kernel_rfl) (by simp) (AllReadyE.cons rfl (fun K hK => ?_) AllReadyE.nil)
        go_simp
        refine (vnum_any V4.out HS.out E4.out).mono ?_
        rintro _ w5 ⟨rfl, hp⟩
        have V5 := Lib.hid (V4.out.post hp)
        have P5 := Lib.hid (P4.out.trans hp)
        have Q5 := Lib.hid (hp.heap Q4.out HQN.out)
        have R := Lib.hid (hp.heap R.out RN.out.1)
        clear hp
        refine hK.out _ _ V5.out.sw (fun _ => ?_)
        clear hK K
        refine wpAnyE_ready (rs := [11]) (by kernel_rfl) (by simp) (AllReadyE.cons rfl (fun K hK => ?_) AllReadyE.nil)
        go_simp
        refine (vnum_any V5.out HS.out E5.out).mono ?_
        rintro _ w6 ⟨rfl, hp⟩
        have V6 := Lib.hid (V5.out.post hp)
        have P6 := Lib.hid (P5.out.trans hp)
        have Q6 := Lib.hid (hp.heap Q5.out HQN.out)
        have R := Lib.hid (hp.heap R.out RN.out.1)
        clear hp
        refine hK.out _ _ V6.out.sw (fun _ => ?_)
        clear hK K
        refine wpAnyE_ready (rs := [13]) (by kernel_rfl) (by simp) (AllReadyE.cons rfl (fun K hK => ?_) AllReadyE.nil)
        go_simp
        refine (vnum_any V6.out HS.out E6.out).mono ?_
        rintro _ w7 ⟨rfl, hp⟩
        have V7 := Lib.hid (V6.out.post hp)
        have P7 := Lib.hid (P6.out.trans hp)
        have Q7 := Lib.hid (hp.heap Q6.out HQN.out)
        have R := Lib.hid (hp.heap R.out RN.out.1)
        clear hp
        refine hK.out _ _ V7.out.sw (fun _ => ?_)
        clear hK K
        refine wpAnyE_ready (rs := [15]) (by kernel_rfl) (by simp) (AllReadyE.cons rfl (fun K hK => ?_) AllReadyE.nil)
        go_simp
        refine (vnum_any V7.out HS.out E7.out).mono ?_
        rintro _ w8 ⟨rfl, hp⟩
        have V8 := Lib.hid (V7.out.post hp)
        have P8 := Lib.hid (P7.out.trans hp)
        have Q8 := Lib.hid (hp.heap Q7.out HQN.out)
        have R := Lib.hid (hp.heap R.out RN.out.1)
        clear hp
        refine hK.out _ _ V8.out.sw (fun _ => ?_)
        clear hK K
        have hS := V8.out.sw
        unfold SW at hS
        refine takeD (some 20) (i := 16) (v := ?_) rfl rfl (by kernel_rfl) (by kernel_rfl) (by kernel_rfl) (fun _ _ _ h => h) (Or.inl ⟨by rfl, ?_⟩) hS ?_
        rotate_left
        · (intro W hW; (try dsimp only at hW); go_simp; with_reducible rfl)
        simp only [Act.put, List.setIfInBounds_toArray, List.set_cons_zero, List.set_cons_succ]
        rw [← HCS.out]
        have hbx := run_storeCells_all _ q _ _ cs R.out (by rw [HZ, HI]) H1
        refine wpAnyE_ready (rs := [18]) (by kernel_rfl) (by simp) (AllReadyE.last rfl (by kernel_rfl) (fun K hK => ?_))
        go_simp
        refine hK.out _ _ ?_
        clear hK K hbx
        refine wpAnyE_done (by kernel_rfl) ?_ _
        go_wp2
        go_meet
        have hg := setRow_grown w8 q cs
        have hp := P8.out.box R.out (by decide) (Nat.le_of_lt RN.out.2) HQN.out H.out.ge hg
        exact ⟨q, rfl, H.out.post hp, hp, (hg.block _ (lt_of_heap Q8.out) (by intro e; injection e with e; have := RN.out.2; omega)).trans Q8.out, setRow_heap w8 q _ cs _ _ R.out, RN.out.2⟩
    · go_simp
      rw [← HZS.out]
      have hb := bel1 w0 (.cells zs 132)
      have V0 := Lib.hid (V0.out.below hb)
      have P0 := Lib.hid (P0.out.below hb)
      have RN : Hid (n ≤ w0.heap.size ∧ w.heap.size < w0.heap.size) := ⟨by have := Q0.out; have := lt_of_heap this; have := HQN.out; omega, lt_of_heap Q0.out⟩
      have Q0 := Lib.hid ((hb.block _ (lt_of_heap Q0.out)).trans Q0.out)
      have R := Lib.hid (heap_new_D w0 (.cells zs 132))
      obtain ⟨wa, hwa⟩ : ∃ W, W = w0.alloc (.cells zs 132) := ⟨_, rfl⟩
      rw [← hwa] at V0 P0 Q0 R ⊢
      obtain ⟨q, hq⟩ : ∃ q, q = w0.heap.size := ⟨_, rfl⟩
      rw [← hq] at R RN ⊢
      clear hwa hb hq
      refine hK.out _ _ V0.out.sw (fun _ => ?_)
      clear hK K
      refine wpAnyE_ready (rs := [1]) (by kernel_rfl) (by simp) (AllReadyE.cons rfl (fun K hK => ?_) AllReadyE.nil)
      go_simp
      refine (vnum_any V0.out HS.out E0.out).mono ?_
      rintro _ w1 ⟨rfl, hp⟩
      have V1 := Lib.hid (V0.out.post hp)
      have P1 := Lib.hid (P0.out.trans hp)
      have Q1 := Lib.hid (hp.heap Q0.out HQN.out)
      have R := Lib.hid (hp.heap R.out RN.out.1)
      clear hp
      refine hK.out _ _ V1.out.sw (fun _ => ?_)
      clear hK K
      refine wpAnyE_ready (rs := [3]) (by kernel_rfl) (by simp) (AllReadyE.cons rfl (fun K hK => ?_) AllReadyE.nil)
      go_simp
      refine (vnum_any V1.out HS.out E1.out).mono ?_
      rintro _ w2 ⟨rfl, hp⟩
      have V2 := Lib.hid (V1.out.post hp)
      have P2 := Lib.hid (P1.out.trans hp)
      have Q2 := Lib.hid (hp.heap Q1.out HQN.out)
      have R := Lib.hid (hp.heap R.out RN.out.1)
      clear hp
      refine hK.out _ _ V2.out.sw (fun _ => ?_)
      clear hK K
      refine wpAnyE_ready (rs := [5]) (by kernel_rfl) (by simp) (AllReadyE.cons rfl (fun K hK => ?_) AllReadyE.nil)
      go_simp
      refine (vnum_any V2.out HS.out E2.out).mono ?_
      rintro _ w3 ⟨rfl, hp⟩
      have V3 := Lib.hid (V2.out.post hp)
      have P3 := Lib.hid (P2.out.trans hp)
      have Q3 := Lib.hid (hp.heap Q2.out HQN.out)
      have R := Lib.hid (hp.heap R.out RN.out.1)
      clear hp
      refine hK.out _ _ V3.out.sw (fun _ => ?_)
      clear hK K
      refine wpAnyE_ready (rs := [7]) (by kernel_rfl) (by simp) (AllReadyE.cons rfl (fun K hK => ?_) AllReadyE.nil)
      go_simp
      refine (vnum_any V3.out HS.out E3.out).mono ?_
      rintro _ w4 ⟨rfl, hp⟩
      have V4 := Lib.hid (V3.out.post hp)
      have P4 := Lib.hid (P3.out.trans hp)
      have Q4 := Lib.hid (hp.heap Q3.out HQN.out)
      have R := Lib.hid (hp.heap R.out RN.out.1)
      clear hp
      refine hK.out _ _ V4.out.sw (fun _ => ?_)
      clear hK K
      refine wpAnyE_ready (rs := [9]) (by kernel_rfl) (by simp) (AllReadyE.cons rfl (fun K hK => ?_) AllReadyE.nil)
      go_simp
      refine (vnum_any V4.out HS.out E4.out).mono ?_
      rintro _ w5 ⟨rfl, hp⟩
      have V5 := Lib.hid (V4.out.post hp)
      have P5 := Lib.hid (P4.out.trans hp)
      have Q5 := Lib.hid (hp.heap Q4.out HQN.out)
      have R := Lib.hid (hp.heap R.out RN.out.1)
      clear hp
      refine hK.out _ _ V5.out.sw (fun _ => ?_)
      clear hK K
      refine wpAnyE_ready (rs := [11]) (by kernel_rfl) (by simp) (AllReadyE.cons rfl (fun K hK => ?_) AllReadyE.nil)
      go_simp
      refine (vnum_any V5.out HS.out E5.out).mono ?_
      rintro _ w6 ⟨rfl, hp⟩
      have V6 := Lib.hid (V5.out.post hp)
      have P6 := Lib.hid (P5.out.trans hp)
      have Q6 := Lib.hid (hp.heap Q5.out HQN.out)
      have R := Lib.hid (hp.heap R.out RN.out.1)
      clear hp
      refine hK.out _ _ V6.out.sw (fun _ => ?_)
      clear hK K
      refine wpAnyE_ready (rs := [13]) (by kernel_rfl) (by simp) (AllReadyE.cons rfl (fun K hK => ?_) AllReadyE.nil)
      go_simp
      refine (vnum_any V6.out HS.out E6.out).mono ?_
      rintro _ w7 ⟨rfl, hp⟩
      have V7 := Lib.hid (V6.out.post hp)
      have P7 := Lib.hid (P6.out.trans hp)
      have Q7 := Lib.hid (hp.heap Q6.out HQN.out)
      have R := Lib.hid (hp.heap R.out RN.out.1)
      clear hp
      refine hK.out _ _ V7.out.sw (fun _ => ?_)
      clear hK K
      refine wpAnyE_ready (rs := [15]) (by kernel_rfl) (by simp) (AllReadyE.cons rfl (fun K hK => ?_) AllReadyE.nil)
      go_simp
      refine (vnum_any V7.out HS.out E7.out).mono ?_
      rintro _ w8 ⟨rfl, hp⟩
      have V8 := Lib.hid (V7.out.post hp)
      have P8 := Lib.hid (P7.out.trans hp)
      have Q8 := Lib.hid (hp.heap Q7.out HQN.out)
      have R := Lib.hid (hp.heap R.out RN.out.1)
      clear hp
      refine hK.out _ _ V8.out.sw (fun _ => ?_)
      clear hK K
      have hS := V8.out.sw
      unfold SW at hS
      refine takeD (some 20) (i := 16) (v := ?_) rfl rfl (by kernel_rfl) (by kernel_rfl) (by kernel_rfl) (fun _ _ _ h => h) (Or.inl ⟨by rfl, ?_⟩) hS ?_
      rotate_left
      · (intro W hW; (try dsimp only at hW); go_simp; with_reducible rfl)
      simp only [Act.put, List.setIfInBounds_toArray, List.set_cons_zero, List.set_cons_succ]
      rw [← HCS.out]
      have hbx := run_storeCells_all _ q _ _ cs R.out (by rw [HZ, HI]) H1
      refine wpAnyE_ready (rs := [18]) (by kernel_rfl) (by simp) (AllReadyE.last rfl (by kernel_rfl) (fun K hK => ?_))
      go_simp
      refine hK.out _ _ ?_
      clear hK K hbx
      refine wpAnyE_done (by kernel_rfl) ?_ _
      go_wp2
      go_meet
      have hg := setRow_grown w8 q cs
      have hp := P8.out.box R.out (by decide) (Nat.le_of_lt RN.out.2) HQN.out H.out.ge hg
      exact ⟨q, rfl, H.out.post hp, hp, (hg.block _ (lt_of_heap Q8.out) (by intro e; injection e with e; have := RN.out.2; omega)).trans Q8.out, setRow_heap w8 q _ cs _ _ R.out, RN.out.2⟩
  obtain ⟨q, rfl, hEJ⟩ := hcut
  have VJ := Lib.hid hEJ.v
  have PJ := Lib.hid hEJ.p
  have OJ := Lib.hid hEJ.o
  have RJ := Lib.hid hEJ.r
  have QN : Hid (n ≤ q ∧ w.heap.size < q) := ⟨by have := hEJ.q1; have := HQN.out; omega, hEJ.q1⟩
  have v1 := VJ.out.v1
  have c0 := VJ.out.i.c0
  clear hEJ
  go_wp2_with fail
  refine (vtext_any VJ.out HS.out E8.out).mono ?_
  rintro _ w1 ⟨rfl, hp⟩
  have P1 := Lib.hid (PJ.out.trans hp)
  have O1 := Lib.hid (hp.heap OJ.out HQN.out)
  have R1 := Lib.hid (hp.heap RJ.out QN.out.1)
  clear hp v1 c0
  have c8 : w1.cell? ⟨q, 8, none⟩ = some (.string ⟨#[]⟩) := by rw [heap_cell R1.out, HCS.out]; rfl
  have f8 := Lib.frozen_of_heap R1.out 8
  go_upto_region 3 with (fail)
  have hg : w1.grownBy (w1.setCell ⟨q, 8, none⟩ (.string ⟨x8.toArray⟩)) (some q) := grown_setCell_M (World.grownBy.refl _ _) rfl _
  have P2 := Lib.hid (P1.out.box R1.out (by decide) (Nat.le_of_lt QN.out.2) HQN.out H.out.ge hg)
  have O2 := Lib.hid ((hg.block _ (lt_of_heap O1.out) (by intro e; injection e with e; have := QN.out.2; omega)).trans O1.out)
  have R2 := Lib.hid (heap_set R1.out 8 (.string ⟨x8.toArray⟩))
  obtain ⟨w2, hw2⟩ : ∃ W, W = w1.setCell ⟨q, 8, none⟩ (.string ⟨x8.toArray⟩) := ⟨_, rfl⟩
  rw [← hw2] at P2 O2 R2 ⊢
  clear hw2 hg c8 f8 P1 O1 R1
  have V2 := Lib.hid (H.out.post P2.out)
  have v1 := V2.out.v1
  go_wp2_with fail
  refine (vgrpK_any V2.out HS.out E9.out).mono ?_
  rintro _ w3 ⟨A, cg, rfl, hr, hcz, hno, hfr, hp⟩
  have P3 := Lib.hid (P2.out.trans hp)
  have O3 := Lib.hid (hp.heap O2.out HQN.out)
  have R3 := Lib.hid (hp.heap R2.out QN.out.1)
  have RD := Lib.hid hr
  have CZ := Lib.hid hcz
  have F3 : Hid (Fr (q + 1) A) := hfr.mono (lt_of_heap R2.out)
  clear hr hcz hno hfr hp v1
  have c9 : w3.cell? ⟨q, 9, none⟩ = some (.slice none 0 0) := by rw [heap_cell R3.out, HCS.out]; rfl
  have f9 := Lib.frozen_of_heap R3.out 9
  go_upto_region 4 with (fail)
  have hg : w3.grownBy (w3.setCell ⟨q, 9, none⟩ (.slice A (acksOf g).size cg)) (some q) := grown_setCell_M (World.grownBy.refl _ _) rfl _
  have P4 := Lib.hid (P3.out.box R3.out (by decide) (Nat.le_of_lt QN.out.2) HQN.out H.out.ge hg)
  have O4 := Lib.hid ((hg.block _ (lt_of_heap O3.out) (by intro e; injection e with e; have := QN.out.2; omega)).trans O3.out)
  have R4 := Lib.hid (heap_set R3.out 9 (.slice A (acksOf g).size cg))
  have RD4 := Lib.hid (RD.out.keepB hg.size (fun blk hb => hg.block blk (RD.out.ltB hb) (by have := hb.fr F3.out; intro e; injection e with e; omega)))
  obtain ⟨w4, hw4⟩ : ∃ W, W = w3.setCell ⟨q, 9, none⟩ (.slice A (acksOf g).size cg) := ⟨_, rfl⟩
  rw [← hw4] at P4 O4 R4 RD4 ⊢
  clear hw4 hg c9 f9 P3 O3 R3 RD V2 P2 O2 R2 VJ PJ OJ RJ
  obtain ⟨ce, hce⟩ : ∃ y, (cs.setIfInBounds 8 (.string ⟨x8.toArray⟩)).setIfInBounds 9 (.slice A (acksOf g).size cg) = y := ⟨_, rfl⟩
  rw [hce] at R4
  have HCE : Hid (ce = #[.int .i64 (x0 : Int), .int .i64 (x1 : Int), .int .i64 (x2 : Int), .int .i64 (x3 : Int), .int .i64 (x4 : Int), .int .i64 (x5 : Int), .int .i64 (x6 : Int), .int .i64 (x7 : Int), (.string ⟨x8.toArray⟩), (.slice A (acksOf g).size cg)]) := by show _ = _; rw [← hce, HCS.out]; rfl
  have HI2 : ce.size = 10 := by rw [← hce, Array.size_setIfInBounds, Array.size_setIfInBounds]; exact HI
  have H2 : allOne ce = true := by rw [HCE.out]; simp [allOne, Value.oneCell']
  clear hce HI H1
  have x1 := boxAt_of R4.out HI2
  have x2 := rowAt_of R4.out
  have x3 := boxAt_of O4.out HZ
  go_wp2
  clear x1 x2 x3
  have hg := setRow_grown w4 w.heap.size ce
  have hE := setRow_heap w4 w.heap.size _ ce _ _ O4.out
  refine bodyPost_ret (v := .agg ce) (results_ent (t := 2) rfl rfl hE HI2) rfl ?_
  have hK : RdE0 w4 ⟨(x0 : Int), (x1 : Int), (x2 : Int), (x3 : Int), (x4 : Int), (x5 : Int), (x6 : Int), (x7 : Int), ⟨x8.toArray⟩, A, cg, acksOf g⟩ := ⟨RD4.out, CZ.out⟩
  refine ⟨⟨(x0 : Int), (x1 : Int), (x2 : Int), (x3 : Int), (x4 : Int), (x5 : Int), (x6 : Int), (x7 : Int), ⟨x8.toArray⟩, A, cg, acksOf g⟩, by rw [HCE.out]; rfl, kdE.keep hK hg.size (fun blk hb => hg.block blk (kdE.lt hK hb) (by have h1 : rwB A (acksOf g) blk := hb; have := h1.fr F3.out; have := QN.out.2; intro e; injection e with e; omega)), (fun blk hb => by have h1 : rwB A (acksOf g) blk := hb; have := h1.fr F3.out; have := QN.out.2; omega), ?_, ⟨by simp only; omega, M9.out.2⟩, P4.out.box O4.out (by decide) (Nat.le_refl _) HQN.out H.out.ge hg⟩
  show (ent8 _, (x8, (acksOf g).toList.map ackN)) = _
  rw [M9.out.1]
  rfl
end Go.Proofs.YtnmojicfmcbgmaaGreatDoor
