/- The image's reader: so many things are read (image.times at six kinds). -/
import Derived.Test.YtnmojicfmcbgmaaGreatDoorQIoB
import Derived.Test.YtnmojicfmcbgmaaGreatDoorQTbD
namespace Go.Proofs.YtnmojicfmcbgmaaGreatDoor
open Go.RowKit Go.Sort Go.Lib Nb
set_option maxRecDepth 100000
/-- At a round's head of times: what was read so far. -/
structure TmI {α β : Type} [Inhabited α] (kd : KD α) (C : Cod β) (pc : α → β) (nn : α → Prop) (T : TypeId) (n b B : Nat) (s : ByteArray) (st : IS) (w : World) (z : Array α) (v : Value) (W : World) : Prop where
  own : W.ownsRow w.heap.size T kd.k v z.size (flatK kd.en kd.k z).toList
  rd : ∀ i, i < z.size → kd.rd W z[i]! ∧ ∀ blk, kd.rw z[i]! blk → w.heap.size ≤ blk ∧ v.ownBlock ≠ some blk
  ms : z.toList.map pc = (manyR (C.rd s.data.toList) z.size st).2
  nn : ∀ y ∈ z.toList, nn y
  p : IPost n b B s (manyR (C.rd s.data.toList) z.size st).1 w W
/-- What times tells. -/
def TmP {α β : Type} [Inhabited α] (kd : KD α) (C : Cod β) (pc : α → β) (nn : α → Prop) (n b B : Nat) (s : ByteArray) (m : Nat) (st : IS) (w : World) (e : Ending) (w' : World) : Prop :=
  ∃ x : RW α, e = .returned (.slice x.A x.z.size x.c) ∧ RdK kd.en kd.k w'.heap.size w' x.A x.z ∧ x.z.size ≤ x.c ∧ (x.A = none → x.c = 0) ∧ Fr w.heap.size x.A ∧
    (∀ i, i < x.z.size → kd.rd w' x.z[i]! ∧ ∀ blk, kd.rw x.z[i]! blk → w.heap.size ≤ blk) ∧
    ((manyR (C.rd s.data.toList) m st).1.r.e = 0 → x.z.toList.map pc = (manyR (C.rd s.data.toList) m st).2 ∧ ∀ y ∈ x.z.toList, nn y) ∧ IPost n b B s (manyR (C.rd s.data.toList) m st).1 w w'
section
variable {α β : Type} [Inhabited α] {kd : KD α} {C : Cod β} {pc : α → β} {nn : α → Prop} {T : TypeId} {n b B : Nat} {s : ByteArray} {st : IS} {w W : World} {z : Array α} {v : Value}
theorem TmI.start (h : IRd n b B s st w) : TmI kd C pc nn T n b B s st w #[] (.slice none 0 0) w :=
  ⟨nil_ownsK _ _ _ _ _, fun i hi => absurd hi (by simp), rfl, by simp, IPost.of_below h (Below.refl _ _)⟩
theorem TmI.step {x : α} {w5 w7 : World} {v' : Value} (h : TmI kd C pc nn T n b B s st w z v W) (hn : n ≤ w.heap.size) (hge : 0 < n) (hT : T ≠ 126)
    (hrd : kd.rd w5 x) (hrw : ∀ blk, kd.rw x blk → W.heap.size ≤ blk) (hpc : pc x = (C.rd s.data.toList (manyR (C.rd s.data.toList) z.size st).1).2) (hnn : nn x) (hp : IPost n b B s (C.rd s.data.toList (manyR (C.rd s.data.toList) z.size st).1).1 W w5) (o : Obj)
    (hown : w7.ownsRow w.heap.size T kd.k v' (z.size + 1) ((flatK kd.en kd.k z).toList ++ kd.en x)) (hgrow : (w5.alloc o).grownBy w7 v.ownBlock) (hat : v'.ownBlock = v.ownBlock ∨ v'.ownBlock = some (w5.alloc o).heap.size) : TmI kd C pc nn T n b B s st w (z.push x) v' w7 := by
  have hb := h.p.1.hb
  have hB := h.p.1.hB
  have s1 := h.p.2.size
  have s2 := hp.2.size
  have s3 : (w5.alloc o).heap.size = w5.heap.size + 1 := by simp
  have s4 := hgrow.size
  have own6 : (w5.alloc o).ownsRow w.heap.size T kd.k v z.size (flatK kd.en kd.k z).toList := own_bel_X (ownsRow_gr2 h.own hp.2 (by omega) (by omega)) (bel1 w5 o)
  have old : ∀ blk, blk < w5.heap.size → v.ownBlock ≠ some blk → w7.heap[blk]? = w5.heap[blk]? := fun blk h1 h2 =>
    (hgrow.block blk (by omega) (fun e => h2 e.symm)).trans ((bel1 w5 o).block blk h1)
  refine ⟨?_, fun i hi => ?_, ?_, fun y hy => ?_, ?_⟩
  · rw [Array.size_push, flatK_push kd.hk]
    exact hown
  · rw [Array.size_push] at hi
    by_cases hlt : i < z.size
    · have e : (z.push x)[i]! = z[i]! := by
        rw [getElem!_pos (z.push x) i (by simp; omega), getElem!_pos z i hlt, Array.getElem_push_lt hlt]
      rw [e]
      obtain ⟨r1, r2⟩ := h.rd i hlt
      have hl : ∀ blk, kd.rw z[i]! blk → blk < W.heap.size := fun blk hk => kd.lt r1 hk
      refine ⟨kd.keep r1 (by omega) (fun blk hk => ?_), fun blk hk => ⟨(r2 blk hk).1, ?_⟩⟩
      · have h1 := hl blk hk
        have h2 := r2 blk hk
        exact (old blk (by omega) h2.2).trans (hp.2.block blk h1 (by omega) (by omega))
      · have h1 := hl blk hk
        rcases hat with hat | hat
        · rw [hat]; exact (r2 blk hk).2
        · rw [hat]; intro e; injection e with e; omega
    · have e : (z.push x)[i]! = x := by
        have : i = z.size := by omega
        subst this
        rw [getElem!_pos (z.push x) _ (by simp), Array.getElem_push_eq]
      rw [e]
      have hne : ∀ blk, kd.rw x blk → v.ownBlock ≠ some blk := fun blk hk e => by
        have := (h.own.lt blk e).2
        have := hrw blk hk
        omega
      refine ⟨kd.keep hrd (by omega) (fun blk hk => old blk (kd.lt hrd hk) (hne blk hk)), fun blk hk => ⟨by have := hrw blk hk; omega, ?_⟩⟩
      rcases hat with hat | hat
      · rw [hat]; exact hne blk hk
      · rw [hat]; intro e; injection e with e; have := kd.lt hrd hk; omega
  · rw [Array.toList_push, List.map_append, List.map_cons, List.map_nil, h.ms, Array.size_push, manyR_snoc, hpc]
  · rw [Array.toList_push] at hy
    rcases List.mem_append.1 hy with hy | hy
    · exact h.nn y hy
    · simp at hy; subst hy; exact hnn
  · rw [Array.size_push, manyR_snoc]
    refine ⟨(hp.1.below (bel1 w5 o)).owned own6 hT hn hge hgrow, ((h.p.2.trans hp.2).below (bel1 w5 o)).own hgrow (fun g hg => (h.own.lt g hg).1)⟩
theorem TmI.done {m : Nat} (h : TmI kd C pc nn T n b B s st w z v W) (hm : z.size = m) : TmP kd C pc nn n b B s m st w (.returned v) W := by
  obtain ⟨A, c, rfl, h1, h2, h3, h4⟩ := rdK_own_X h.own
  subst hm
  exact ⟨⟨A, c, z⟩, rfl, h1, h2, h3, h4, fun i hi => ⟨(h.rd i hi).1, fun blk hk => ((h.rd i hi).2 blk hk).1⟩, fun _ => ⟨h.ms, h.nn⟩, h.p⟩
theorem TmI.bad {m : Nat} (h : TmI kd C pc nn T n b B s st w z v W) (hm : z.size ≤ m) (he : (manyR (C.rd s.data.toList) z.size st).1.r.e ≠ 0) : TmP kd C pc nn n b B s m st w (.returned (.slice none 0 0)) W := by
  have e := manyR_stop (C.stuck s.data.toList) hm he
  refine ⟨⟨none, 0, #[]⟩, rfl, fun h => absurd h (by simp), Nat.le_refl _, fun _ => rfl, Fr.none_ _, fun i hi => absurd hi (by simp), fun h0 => absurd (e ▸ h0) he, ?_⟩
  rw [e]
  exact h.p
end
theorem itm_info_X : (Tryz.prog.info? 84).map (fun i => (i.zero, i.size, i.bytes)) = some (some (.agg #[.int .i64 0, .int .i64 0, .int .i64 0, .int .i64 0]), 4, 32) := by kernel_rfl
theorem ses_info_X : (Tryz.prog.info? 86).map (fun i => (i.zero, i.size, i.bytes)) = some (some (.agg #[.int .i64 0, .int .i64 0, .string ⟨#[]⟩]), 3, 32) := by kernel_rfl
set_option maxHeartbeats 4000000 in
theorem timesE_any (n b B : Nat) (s : ByteArray) (p1 p3 : Nat) (st : IS) (m : Nat) (w : World) (h : VRd n b B s p1 p3 st w) (hs : s.size ≤ 1000000) (hm : m ≤ 1000) :
    Calls Tryz.prog 133 #[.pointer (some ⟨B, 0, none⟩), .int .i64 m, .func (.func 134) #[] #[.pointer (some ⟨p3, 0, none⟩), .pointer (some ⟨p1, 0, none⟩)]] w fun e w' => TmP kdE enC entM nnE n b B s m st w e w' := by
  obtain ⟨i0, hi0, hz0, hz1, hz2⟩ := info_parts ent_info
  have H := Lib.hid h
  have HS := Lib.hid hs
  have HN := Lib.hid h.i.hn
  have HI := Lib.hid (TmI.start (kd := kdE) (C := enC) (pc := entM) (nn := nnE) (T := 132) h.i)
  clear h hs
  go_enter Tryz.func133, Tryz.ntmps133
  go_wp2_with fail
  go_loopw [7, 9] (fun v i W => ∃ (k : Nat) (z : Array (EN)), i = .int .i64 (k : Int) ∧ k ≤ m ∧ Hid (z.size = k) ∧ Hid (TmI kdE enC entM nnE 132 n b B s st w z v W)) (fun _ i _ => m - (intOf i).toNat)
  case atStart => exact ⟨0, #[], rfl, Nat.zero_le _, Lib.hid rfl, HI⟩
  case round =>
    obtain ⟨k, z, rfl, hk, HZ, HT⟩ := hrel
    have VR := Lib.hid (H.out.post HT.out.p)
    by_cases hlt : k < m
    · have kz : (k : Int) < (m : Int) := by omega
      have c0 := VR.out.i.c0
      have HD := Lib.hid (RDone_any b s _ wr VR.out.i.rd)
      by_cases he : (manyR ((enC).rd s.data.toList) z.size st).1.r.e = 0
      · have HD0 : Hid (Calls Tryz.prog 41 #[.pointer (some ⟨b, 0, none⟩)] wr fun e w' => e = .returned .nilIface ∧ wr = w') := HD.out.mono fun e w' ⟨ev, h1, h2, h3⟩ => by
          rcases h2 with ⟨_, rfl⟩ | ⟨h2, _⟩
          · exact ⟨h1, h3⟩
          · exact absurd he h2
        have HOF := Lib.hid (entry_any VR.out HS.out)
        clear he HD
        go_wp2_with fail
        refine HD0.out.mono ?_
        rintro _ _ ⟨rfl, rfl⟩
        clear HD0
        go_wp2_with fail
        refine HOF.out.mono ?_
        rintro _ w5 ⟨x, rfl, hrd, hrw, hpc, hnn, hp⟩
        have X1 := Lib.hid hrd
        have X2 := Lib.hid hrw
        have X3 := Lib.hid hpc
        have X4 := Lib.hid hnn
        have X5 := Lib.hid hp
        have s5 : w.heap.size ≤ w5.heap.size := Nat.le_trans HT.out.p.2.size hp.2.size
        have hown2 := own_bel_X (ownsRow_gr2 HT.out.own hp.2 (by have := hp.1.hb; have := HN.out; omega) (by have := hp.1.hB; have := HN.out; omega)) (bel1 w5 (.cells (encE x).toArray 132))
        have hzs : z.size ≤ 1000 := by have := HZ.out; omega
        have HG := Lib.hid (fun v' w7 => TmI.step (w5 := w5) (w7 := w7) (v' := v') HT.out HN.out H.out.ge (by decide) X1.out X2.out X3.out X4.out X5.out (.cells (encE x).toArray 132))
        clear hrd hrw hpc hnn hp HOF c0
        obtain ⟨id, ph, qu, t, bal, abal, seen, age, pay, xA, xc, xz⟩ := x
        simp only [encE]
        go_wp2_with (at_builtin; refine wpList_append_own_at _ rfl _ _ 22 rfl w.heap.size 132 i0 (.agg #[.int .i64 0, .int .i64 0, .int .i64 0, .int .i64 0, .int .i64 0, .int .i64 0, .int .i64 0, .int .i64 0, .string ⟨#[]⟩, .slice none 0 0]) 10 104 Tryz.underlying22 hi0 hz0 hz1 hz2 rfl (by decide) _ _ _ rfl hown2 ⟨w5.heap.size, 0, none⟩ 1 1 [.int .i64 id, .int .i64 ph, .int .i64 qu, .int .i64 t, .int .i64 bal, .int .i64 abal, .int .i64 seen, .int .i64 age, .string pay, .slice xA xz.size xc] rfl rfl (lits_new_X w5 _ _) (by simp [Value.oneCell']) (by unfold maxLen; omega) (by omega) (by simp; omega) ?_; intro v' w7 hown3 hgrow _ hat)
        go_roundw
        case rel => exact ⟨k + 1, z.push ⟨id, ph, qu, t, bal, abal, seen, age, pay, xA, xc, xz⟩, by go_num, by omega, Lib.hid (by rw [Array.size_push, HZ.out]), Lib.hid (HG.out v' w7 hown3 hgrow hat)⟩
        case measure => simp [intOf]; omega
      · have HD0 : Hid (Calls Tryz.prog 41 #[.pointer (some ⟨b, 0, none⟩)] wr fun e w' => (∃ t u, e = .returned (.iface t u)) ∧ wr = w') := HD.out.mono fun e w' ⟨ev, h1, h2, h3⟩ => by
          rcases h2 with ⟨h2, _⟩ | ⟨_, op, ops, _, h2⟩
          · exact absurd h2 he
          · obtain ⟨t, u, rfl⟩ := chain_iface h2
            exact ⟨⟨t, u, h1⟩, h3⟩
        have HB := Lib.hid (HT.out.bad (m := m) (by have := HZ.out; omega) he)
        clear he HD
        go_wp2_with fail
        refine HD0.out.mono ?_
        rintro _ _ ⟨⟨t, u, rfl⟩, rfl⟩
        clear HD0 c0
        go_wp2
        go_ret
        exact HB.out
    · have kz : decide ((k : Int) < (m : Int)) = false := decide_eq_false (by omega)
      have HB := Lib.hid (HT.out.done (m := m) (by have := HZ.out; omega))
      go_wp2
      go_ret
      exact HB.out
set_option maxHeartbeats 4000000 in
theorem timesK_any (n b B : Nat) (s : ByteArray) (p1 p3 : Nat) (st : IS) (m : Nat) (w : World) (h : VRd n b B s p1 p3 st w) (hs : s.size ≤ 1000000) (hm : m ≤ 1000) :
    Calls Tryz.prog 81 #[.pointer (some ⟨B, 0, none⟩), .int .i64 m, .func (.func 82) #[] #[.pointer (some ⟨p3, 0, none⟩), .pointer (some ⟨p1, 0, none⟩)]] w fun e w' => TmP kdK knC knM nnK n b B s m st w e w' := by
  obtain ⟨i0, hi0, hz0, hz1, hz2⟩ := info_parts kno_info
  have H := Lib.hid h
  have HS := Lib.hid hs
  have HN := Lib.hid h.i.hn
  have HI := Lib.hid (TmI.start (kd := kdK) (C := knC) (pc := knM) (nn := nnK) (T := 81) h.i)
  clear h hs
  go_enter Tryz.func81, Tryz.ntmps81
  go_wp2_with fail
  go_loopw [7, 9] (fun v i W => ∃ (k : Nat) (z : Array (KE)), i = .int .i64 (k : Int) ∧ k ≤ m ∧ Hid (z.size = k) ∧ Hid (TmI kdK knC knM nnK 81 n b B s st w z v W)) (fun _ i _ => m - (intOf i).toNat)
  case atStart => exact ⟨0, #[], rfl, Nat.zero_le _, Lib.hid rfl, HI⟩
  case round =>
    obtain ⟨k, z, rfl, hk, HZ, HT⟩ := hrel
    have VR := Lib.hid (H.out.post HT.out.p)
    by_cases hlt : k < m
    · have kz : (k : Int) < (m : Int) := by omega
      have c0 := VR.out.i.c0
      have HD := Lib.hid (RDone_any b s _ wr VR.out.i.rd)
      by_cases he : (manyR ((knC).rd s.data.toList) z.size st).1.r.e = 0
      · have HD0 : Hid (Calls Tryz.prog 41 #[.pointer (some ⟨b, 0, none⟩)] wr fun e w' => e = .returned .nilIface ∧ wr = w') := HD.out.mono fun e w' ⟨ev, h1, h2, h3⟩ => by
          rcases h2 with ⟨_, rfl⟩ | ⟨h2, _⟩
          · exact ⟨h1, h3⟩
          · exact absurd he h2
        have HOF := Lib.hid (known_any VR.out HS.out)
        clear he HD
        go_wp2_with fail
        refine HD0.out.mono ?_
        rintro _ _ ⟨rfl, rfl⟩
        clear HD0
        go_wp2_with fail
        refine HOF.out.mono ?_
        rintro _ w5 ⟨x, rfl, hrd, hrw, hpc, hnn, hp⟩
        have X1 := Lib.hid hrd
        have X2 := Lib.hid hrw
        have X3 := Lib.hid hpc
        have X4 := Lib.hid hnn
        have X5 := Lib.hid hp
        have s5 : w.heap.size ≤ w5.heap.size := Nat.le_trans HT.out.p.2.size hp.2.size
        have hown2 := own_bel_X (ownsRow_gr2 HT.out.own hp.2 (by have := hp.1.hb; have := HN.out; omega) (by have := hp.1.hB; have := HN.out; omega)) (bel1 w5 (.cells (encKE x).toArray 81))
        have hzs : z.size ≤ 1000 := by have := HZ.out; omega
        have HG := Lib.hid (fun v' w7 => TmI.step (w5 := w5) (w7 := w7) (v' := v') HT.out HN.out H.out.ge (by decide) X1.out X2.out X3.out X4.out X5.out (.cells (encKE x).toArray 81))
        clear hrd hrw hpc hnn hp HOF c0
        obtain ⟨base, r, a⟩ := x
        simp only [encKE]
        go_wp2_with (at_builtin; refine wpList_append_own_at _ rfl _ _ 24 rfl w.heap.size 81 i0 (.agg #[.int .i64 0, .slice none 0 0, .slice none 0 0]) 3 56 Tryz.underlying24 hi0 hz0 hz1 hz2 rfl (by decide) _ _ _ rfl hown2 ⟨w5.heap.size, 0, none⟩ 1 1 [.int .i64 base, .slice r.A r.z.size r.c, .slice a.A a.z.size a.c] rfl rfl (lits_new_X w5 _ _) (by simp [Value.oneCell']) (by unfold maxLen; omega) (by omega) (by simp; omega) ?_; intro v' w7 hown3 hgrow _ hat)
        go_roundw
        case rel => exact ⟨k + 1, z.push ⟨base, r, a⟩, by go_num, by omega, Lib.hid (by rw [Array.size_push, HZ.out]), Lib.hid (HG.out v' w7 hown3 hgrow hat)⟩
        case measure => simp [intOf]; omega
      · have HD0 : Hid (Calls Tryz.prog 41 #[.pointer (some ⟨b, 0, none⟩)] wr fun e w' => (∃ t u, e = .returned (.iface t u)) ∧ wr = w') := HD.out.mono fun e w' ⟨ev, h1, h2, h3⟩ => by
          rcases h2 with ⟨h2, _⟩ | ⟨_, op, ops, _, h2⟩
          · exact absurd h2 he
          · obtain ⟨t, u, rfl⟩ := chain_iface h2
            exact ⟨⟨t, u, h1⟩, h3⟩
        have HB := Lib.hid (HT.out.bad (m := m) (by have := HZ.out; omega) he)
        clear he HD
        go_wp2_with fail
        refine HD0.out.mono ?_
        rintro _ _ ⟨⟨t, u, rfl⟩, rfl⟩
        clear HD0 c0
        go_wp2
        go_ret
        exact HB.out
    · have kz : decide ((k : Int) < (m : Int)) = false := decide_eq_false (by omega)
      have HB := Lib.hid (HT.out.done (m := m) (by have := HZ.out; omega))
      go_wp2
      go_ret
      exact HB.out
set_option maxHeartbeats 4000000 in
theorem timesT_any (n b B : Nat) (s : ByteArray) (p1 p3 : Nat) (st : IS) (m : Nat) (w : World) (h : VRd n b B s p1 p3 st w) (hs : s.size ≤ 1000000) (hm : m ≤ 1000) :
    Calls Tryz.prog 139 #[.pointer (some ⟨B, 0, none⟩), .int .i64 m, .func (.func 140) #[] #[.pointer (some ⟨p3, 0, none⟩)]] w fun e w' => TmP kdT (nC.vec 4) itM nnT n b B s m st w e w' := by
  obtain ⟨i0, hi0, hz0, hz1, hz2⟩ := info_parts itm_info_X
  have H := Lib.hid h
  have HS := Lib.hid hs
  have HN := Lib.hid h.i.hn
  have HI := Lib.hid (TmI.start (kd := kdT) (C := (nC.vec 4)) (pc := itM) (nn := nnT) (T := 84) h.i)
  clear h hs
  go_enter Tryz.func139, Tryz.ntmps139
  go_wp2_with fail
  go_loopw [7, 9] (fun v i W => ∃ (k : Nat) (z : Array (IT)), i = .int .i64 (k : Int) ∧ k ≤ m ∧ Hid (z.size = k) ∧ Hid (TmI kdT (nC.vec 4) itM nnT 84 n b B s st w z v W)) (fun _ i _ => m - (intOf i).toNat)
  case atStart => exact ⟨0, #[], rfl, Nat.zero_le _, Lib.hid rfl, HI⟩
  case round =>
    obtain ⟨k, z, rfl, hk, HZ, HT⟩ := hrel
    have VR := Lib.hid (H.out.post HT.out.p)
    by_cases hlt : k < m
    · have kz : (k : Int) < (m : Int) := by omega
      have c0 := VR.out.i.c0
      have HD := Lib.hid (RDone_any b s _ wr VR.out.i.rd)
      by_cases he : (manyR (((nC.vec 4)).rd s.data.toList) z.size st).1.r.e = 0
      · have HD0 : Hid (Calls Tryz.prog 41 #[.pointer (some ⟨b, 0, none⟩)] wr fun e w' => e = .returned .nilIface ∧ wr = w') := HD.out.mono fun e w' ⟨ev, h1, h2, h3⟩ => by
          rcases h2 with ⟨_, rfl⟩ | ⟨h2, _⟩
          · exact ⟨h1, h3⟩
          · exact absurd he h2
        have HOF := Lib.hid (item_any VR.out HS.out)
        clear he HD
        go_wp2_with fail
        refine HD0.out.mono ?_
        rintro _ _ ⟨rfl, rfl⟩
        clear HD0
        go_wp2_with fail
        refine HOF.out.mono ?_
        rintro _ w5 ⟨x, rfl, hrd, hrw, hpc, hnn, hp⟩
        have X1 := Lib.hid hrd
        have X2 := Lib.hid hrw
        have X3 := Lib.hid hpc
        have X4 := Lib.hid hnn
        have X5 := Lib.hid hp
        have s5 : w.heap.size ≤ w5.heap.size := Nat.le_trans HT.out.p.2.size hp.2.size
        have hown2 := own_bel_X (ownsRow_gr2 HT.out.own hp.2 (by have := hp.1.hb; have := HN.out; omega) (by have := hp.1.hB; have := HN.out; omega)) (bel1 w5 (.cells (encIT x).toArray 84))
        have hzs : z.size ≤ 1000 := by have := HZ.out; omega
        have HG := Lib.hid (fun v' w7 => TmI.step (w5 := w5) (w7 := w7) (v' := v') HT.out HN.out H.out.ge (by decide) X1.out X2.out X3.out X4.out X5.out (.cells (encIT x).toArray 84))
        clear hrd hrw hpc hnn hp HOF c0
        obtain ⟨id, free, held, gone⟩ := x
        simp only [encIT]
        go_wp2_with (at_builtin; refine wpList_append_own_at _ rfl _ _ 30 rfl w.heap.size 84 i0 (.agg #[.int .i64 0, .int .i64 0, .int .i64 0, .int .i64 0]) 4 32 Tryz.underlying30 hi0 hz0 hz1 hz2 rfl (by decide) _ _ _ rfl hown2 ⟨w5.heap.size, 0, none⟩ 1 1 [.int .i64 id, .int .i64 free, .int .i64 held, .int .i64 gone] rfl rfl (lits_new_X w5 _ _) (by simp [Value.oneCell']) (by unfold maxLen; omega) (by omega) (by simp; omega) ?_; intro v' w7 hown3 hgrow _ hat)
        go_roundw
        case rel => exact ⟨k + 1, z.push ⟨id, free, held, gone⟩, by go_num, by omega, Lib.hid (by rw [Array.size_push, HZ.out]), Lib.hid (HG.out v' w7 hown3 hgrow hat)⟩
        case measure => simp [intOf]; omega
      · have HD0 : Hid (Calls Tryz.prog 41 #[.pointer (some ⟨b, 0, none⟩)] wr fun e w' => (∃ t u, e = .returned (.iface t u)) ∧ wr = w') := HD.out.mono fun e w' ⟨ev, h1, h2, h3⟩ => by
          rcases h2 with ⟨h2, _⟩ | ⟨_, op, ops, _, h2⟩
          · exact absurd h2 he
          · obtain ⟨t, u, rfl⟩ := chain_iface h2
            exact ⟨⟨t, u, h1⟩, h3⟩
        have HB := Lib.hid (HT.out.bad (m := m) (by have := HZ.out; omega) he)
        clear he HD
        go_wp2_with fail
        refine HD0.out.mono ?_
        rintro _ _ ⟨⟨t, u, rfl⟩, rfl⟩
        clear HD0 c0
        go_wp2
        go_ret
        exact HB.out
    · have kz : decide ((k : Int) < (m : Int)) = false := decide_eq_false (by omega)
      have HB := Lib.hid (HT.out.done (m := m) (by have := HZ.out; omega))
      go_wp2
      go_ret
      exact HB.out
set_option maxHeartbeats 4000000 in
theorem timesS_any (n b B : Nat) (s : ByteArray) (p1 p3 : Nat) (st : IS) (m : Nat) (w : World) (h : VRd n b B s p1 p3 st w) (hs : s.size ≤ 1000000) (hm : m ≤ 1000) :
    Calls Tryz.prog 141 #[.pointer (some ⟨B, 0, none⟩), .int .i64 m, .func (.func 142) #[] #[.pointer (some ⟨p3, 0, none⟩), .pointer (some ⟨p1, 0, none⟩)]] w fun e w' => TmP kdS seC seM nnS n b B s m st w e w' := by
  obtain ⟨i0, hi0, hz0, hz1, hz2⟩ := info_parts ses_info_X
  have H := Lib.hid h
  have HS := Lib.hid hs
  have HN := Lib.hid h.i.hn
  have HI := Lib.hid (TmI.start (kd := kdS) (C := seC) (pc := seM) (nn := nnS) (T := 86) h.i)
  clear h hs
  go_enter Tryz.func141, Tryz.ntmps141
  go_wp2_with fail
  go_loopw [7, 9] (fun v i W => ∃ (k : Nat) (z : Array (SS)), i = .int .i64 (k : Int) ∧ k ≤ m ∧ Hid (z.size = k) ∧ Hid (TmI kdS seC seM nnS 86 n b B s st w z v W)) (fun _ i _ => m - (intOf i).toNat)
  case atStart => exact ⟨0, #[], rfl, Nat.zero_le _, Lib.hid rfl, HI⟩
  case round =>
    obtain ⟨k, z, rfl, hk, HZ, HT⟩ := hrel
    have VR := Lib.hid (H.out.post HT.out.p)
    by_cases hlt : k < m
    · have kz : (k : Int) < (m : Int) := by omega
      have c0 := VR.out.i.c0
      have HD := Lib.hid (RDone_any b s _ wr VR.out.i.rd)
      by_cases he : (manyR ((seC).rd s.data.toList) z.size st).1.r.e = 0
      · have HD0 : Hid (Calls Tryz.prog 41 #[.pointer (some ⟨b, 0, none⟩)] wr fun e w' => e = .returned .nilIface ∧ wr = w') := HD.out.mono fun e w' ⟨ev, h1, h2, h3⟩ => by
          rcases h2 with ⟨_, rfl⟩ | ⟨h2, _⟩
          · exact ⟨h1, h3⟩
          · exact absurd he h2
        have HOF := Lib.hid (sess_any VR.out HS.out)
        clear he HD
        go_wp2_with fail
        refine HD0.out.mono ?_
        rintro _ _ ⟨rfl, rfl⟩
        clear HD0
        go_wp2_with fail
        refine HOF.out.mono ?_
        rintro _ w5 ⟨x, rfl, hrd, hrw, hpc, hnn, hp⟩
        have X1 := Lib.hid hrd
        have X2 := Lib.hid hrw
        have X3 := Lib.hid hpc
        have X4 := Lib.hid hnn
        have X5 := Lib.hid hp
        have s5 : w.heap.size ≤ w5.heap.size := Nat.le_trans HT.out.p.2.size hp.2.size
        have hown2 := own_bel_X (ownsRow_gr2 HT.out.own hp.2 (by have := hp.1.hb; have := HN.out; omega) (by have := hp.1.hB; have := HN.out; omega)) (bel1 w5 (.cells (encSS x).toArray 86))
        have hzs : z.size ≤ 1000 := by have := HZ.out; omega
        have HG := Lib.hid (fun v' w7 => TmI.step (w5 := w5) (w7 := w7) (v' := v') HT.out HN.out H.out.ge (by decide) X1.out X2.out X3.out X4.out X5.out (.cells (encSS x).toArray 86))
        clear hrd hrw hpc hnn hp HOF c0
        obtain ⟨cl, seq, rep⟩ := x
        simp only [encSS]
        go_wp2_with (at_builtin; refine wpList_append_own_at _ rfl _ _ 31 rfl w.heap.size 86 i0 (.agg #[.int .i64 0, .int .i64 0, .string ⟨#[]⟩]) 3 32 Tryz.underlying31 hi0 hz0 hz1 hz2 rfl (by decide) _ _ _ rfl hown2 ⟨w5.heap.size, 0, none⟩ 1 1 [.int .i64 cl, .int .i64 seq, .string rep] rfl rfl (lits_new_X w5 _ _) (by simp [Value.oneCell']) (by unfold maxLen; omega) (by omega) (by simp; omega) ?_; intro v' w7 hown3 hgrow _ hat)
        go_roundw
        case rel => exact ⟨k + 1, z.push ⟨cl, seq, rep⟩, by go_num, by omega, Lib.hid (by rw [Array.size_push, HZ.out]), Lib.hid (HG.out v' w7 hown3 hgrow hat)⟩
        case measure => simp [intOf]; omega
      · have HD0 : Hid (Calls Tryz.prog 41 #[.pointer (some ⟨b, 0, none⟩)] wr fun e w' => (∃ t u, e = .returned (.iface t u)) ∧ wr = w') := HD.out.mono fun e w' ⟨ev, h1, h2, h3⟩ => by
          rcases h2 with ⟨h2, _⟩ | ⟨_, op, ops, _, h2⟩
          · exact absurd h2 he
          · obtain ⟨t, u, rfl⟩ := chain_iface h2
            exact ⟨⟨t, u, h1⟩, h3⟩
        have HB := Lib.hid (HT.out.bad (m := m) (by have := HZ.out; omega) he)
        clear he HD
        go_wp2_with fail
        refine HD0.out.mono ?_
        rintro _ _ ⟨⟨t, u, rfl⟩, rfl⟩
        clear HD0 c0
        go_wp2
        go_ret
        exact HB.out
    · have kz : decide ((k : Int) < (m : Int)) = false := decide_eq_false (by omega)
      have HB := Lib.hid (HT.out.done (m := m) (by have := HZ.out; omega))
      go_wp2
      go_ret
      exact HB.out
set_option maxHeartbeats 4000000 in
theorem timesI_any (n b B : Nat) (s : ByteArray) (p1 p3 : Nat) (st : IS) (m : Nat) (w : World) (h : VRd n b B s p1 p3 st w) (hs : s.size ≤ 1000000) (hm : m ≤ 1000) :
    Calls Tryz.prog 85 #[.pointer (some ⟨B, 0, none⟩), .int .i64 m, .func (.func 86) #[] #[.pointer (some ⟨p1, 0, none⟩)]] w fun e w' => TmP kdI (rowC 1 (by decide)) (fun x : RW Int => intM x.z) (fun x : RW Int => nnI x.z) n b B s m st w e w' := by
  obtain ⟨i0, hi0, hz0, hz1, hz2⟩ := info_parts sli_info
  have H := Lib.hid h
  have HS := Lib.hid hs
  have HN := Lib.hid h.i.hn
  have HI := Lib.hid (TmI.start (kd := kdI) (C := (rowC 1 (by decide))) (pc := (fun x : RW Int => intM x.z)) (nn := (fun x : RW Int => nnI x.z)) (T := 26) h.i)
  clear h hs
  go_enter Tryz.func85, Tryz.ntmps85
  go_wp2_with fail
  go_loopw [7, 9] (fun v i W => ∃ (k : Nat) (z : Array (RW Int)), i = .int .i64 (k : Int) ∧ k ≤ m ∧ Hid (z.size = k) ∧ Hid (TmI kdI (rowC 1 (by decide)) (fun x : RW Int => intM x.z) (fun x : RW Int => nnI x.z) 26 n b B s st w z v W)) (fun _ i _ => m - (intOf i).toNat)
  case atStart => exact ⟨0, #[], rfl, Nat.zero_le _, Lib.hid rfl, HI⟩
  case round =>
    obtain ⟨k, z, rfl, hk, HZ, HT⟩ := hrel
    have VR := Lib.hid (H.out.post HT.out.p)
    by_cases hlt : k < m
    · have kz : (k : Int) < (m : Int) := by omega
      have c0 := VR.out.i.c0
      have HD := Lib.hid (RDone_any b s _ wr VR.out.i.rd)
      by_cases he : (manyR (((rowC 1 (by decide))).rd s.data.toList) z.size st).1.r.e = 0
      · have HD0 : Hid (Calls Tryz.prog 41 #[.pointer (some ⟨b, 0, none⟩)] wr fun e w' => e = .returned .nilIface ∧ wr = w') := HD.out.mono fun e w' ⟨ev, h1, h2, h3⟩ => by
          rcases h2 with ⟨_, rfl⟩ | ⟨h2, _⟩
          · exact ⟨h1, h3⟩
          · exact absurd he h2
        have HOF := Lib.hid (marks_any VR.out HS.out)
        clear he HD
        go_wp2_with fail
        refine HD0.out.mono ?_
        rintro _ _ ⟨rfl, rfl⟩
        clear HD0
        go_wp2_with fail
        refine HOF.out.mono ?_
        rintro _ w5 ⟨x, rfl, hrd, hrw, hpc, hnn, hp⟩
        have X1 := Lib.hid hrd
        have X2 := Lib.hid hrw
        have X3 := Lib.hid hpc
        have X4 := Lib.hid hnn
        have X5 := Lib.hid hp
        have s5 : w.heap.size ≤ w5.heap.size := Nat.le_trans HT.out.p.2.size hp.2.size
        have hown2 := own_bel_X (ownsRow_gr2 HT.out.own hp.2 (by have := hp.1.hb; have := HN.out; omega) (by have := hp.1.hB; have := HN.out; omega)) (bel1 w5 (.cells (encW x).toArray 26))
        have hzs : z.size ≤ 1000 := by have := HZ.out; omega
        have HG := Lib.hid (fun v' w7 => TmI.step (w5 := w5) (w7 := w7) (v' := v') HT.out HN.out H.out.ge (by decide) X1.out X2.out X3.out X4.out X5.out (.cells (encW x).toArray 26))
        clear hrd hrw hpc hnn hp HOF c0
        obtain ⟨xA, xc, xz⟩ := x
        simp only [RW.v]
        go_wp2_with (at_builtin; refine wpList_append_own_at _ rfl _ _ 25 rfl w.heap.size 26 i0 (.slice none 0 0) 1 24 Tryz.underlying25 hi0 hz0 hz1 hz2 rfl (by decide) _ _ _ rfl hown2 ⟨w5.heap.size, 0, none⟩ 1 1 [.slice xA xz.size xc] rfl rfl (lits_new_X w5 _ _) (by simp [Value.oneCell']) (by unfold maxLen; omega) (by omega) (by simp; omega) ?_; intro v' w7 hown3 hgrow _ hat)
        go_roundw
        case rel => exact ⟨k + 1, z.push ⟨xA, xc, xz⟩, by go_num, by omega, Lib.hid (by rw [Array.size_push, HZ.out]), Lib.hid (HG.out v' w7 hown3 hgrow hat)⟩
        case measure => simp [intOf]; omega
      · have HD0 : Hid (Calls Tryz.prog 41 #[.pointer (some ⟨b, 0, none⟩)] wr fun e w' => (∃ t u, e = .returned (.iface t u)) ∧ wr = w') := HD.out.mono fun e w' ⟨ev, h1, h2, h3⟩ => by
          rcases h2 with ⟨h2, _⟩ | ⟨_, op, ops, _, h2⟩
          · exact absurd h2 he
          · obtain ⟨t, u, rfl⟩ := chain_iface h2
            exact ⟨⟨t, u, h1⟩, h3⟩
        have HB := Lib.hid (HT.out.bad (m := m) (by have := HZ.out; omega) he)
        clear he HD
        go_wp2_with fail
        refine HD0.out.mono ?_
        rintro _ _ ⟨⟨t, u, rfl⟩, rfl⟩
        clear HD0 c0
        go_wp2
        go_ret
        exact HB.out
    · have kz : decide ((k : Int) < (m : Int)) = false := decide_eq_false (by omega)
      have HB := Lib.hid (HT.out.done (m := m) (by have := HZ.out; omega))
      go_wp2
      go_ret
      exact HB.out
set_option maxHeartbeats 4000000 in
theorem timesD_any (n b B : Nat) (s : ByteArray) (p1 p3 : Nat) (st : IS) (m : Nat) (w : World) (h : VRd n b B s p1 p3 st w) (hs : s.size ≤ 1000000) (hm : m ≤ 1000) :
    Calls Tryz.prog 88 #[.pointer (some ⟨B, 0, none⟩), .int .i64 m, .func (.func 89) #[] #[.pointer (some ⟨p1, 0, none⟩)]] w fun e w' => TmP kdD (rowC 2 (by decide)) (fun x : RW (Int × Int) => pairM x.z) (fun x : RW (Int × Int) => nnP x.z) n b B s m st w e w' := by
  obtain ⟨i0, hi0, hz0, hz1, hz2⟩ := info_parts rngs_info
  have H := Lib.hid h
  have HS := Lib.hid hs
  have HN := Lib.hid h.i.hn
  have HI := Lib.hid (TmI.start (kd := kdD) (C := (rowC 2 (by decide))) (pc := (fun x : RW (Int × Int) => pairM x.z)) (nn := (fun x : RW (Int × Int) => nnP x.z)) (T := 79) h.i)
  clear h hs
  go_enter Tryz.func88, Tryz.ntmps88
  go_wp2_with fail
  go_loopw [7, 9] (fun v i W => ∃ (k : Nat) (z : Array (RW (Int × Int))), i = .int .i64 (k : Int) ∧ k ≤ m ∧ Hid (z.size = k) ∧ Hid (TmI kdD (rowC 2 (by decide)) (fun x : RW (Int × Int) => pairM x.z) (fun x : RW (Int × Int) => nnP x.z) 79 n b B s st w z v W)) (fun _ i _ => m - (intOf i).toNat)
  case atStart => exact ⟨0, #[], rfl, Nat.zero_le _, Lib.hid rfl, HI⟩
  case round =>
    obtain ⟨k, z, rfl, hk, HZ, HT⟩ := hrel
    have VR := Lib.hid (H.out.post HT.out.p)
    by_cases hlt : k < m
    · have kz : (k : Int) < (m : Int) := by omega
      have c0 := VR.out.i.c0
      have HD := Lib.hid (RDone_any b s _ wr VR.out.i.rd)
      by_cases he : (manyR (((rowC 2 (by decide))).rd s.data.toList) z.size st).1.r.e = 0
      · have HD0 : Hid (Calls Tryz.prog 41 #[.pointer (some ⟨b, 0, none⟩)] wr fun e w' => e = .returned .nilIface ∧ wr = w') := HD.out.mono fun e w' ⟨ev, h1, h2, h3⟩ => by
          rcases h2 with ⟨_, rfl⟩ | ⟨h2, _⟩
          · exact ⟨h1, h3⟩
          · exact absurd he h2
        have HOF := Lib.hid (done_any_X VR.out HS.out)
        clear he HD
        go_wp2_with fail
        refine HD0.out.mono ?_
        rintro _ _ ⟨rfl, rfl⟩
        clear HD0
        go_wp2_with fail
        refine HOF.out.mono ?_
        rintro _ w5 ⟨x, rfl, hrd, hrw, hpc, hnn, hp⟩
        have X1 := Lib.hid hrd
        have X2 := Lib.hid hrw
        have X3 := Lib.hid hpc
        have X4 := Lib.hid hnn
        have X5 := Lib.hid hp
        have s5 : w.heap.size ≤ w5.heap.size := Nat.le_trans HT.out.p.2.size hp.2.size
        have hown2 := own_bel_X (ownsRow_gr2 HT.out.own hp.2 (by have := hp.1.hb; have := HN.out; omega) (by have := hp.1.hB; have := HN.out; omega)) (bel1 w5 (.cells (encW x).toArray 79))
        have hzs : z.size ≤ 1000 := by have := HZ.out; omega
        have HG := Lib.hid (fun v' w7 => TmI.step (w5 := w5) (w7 := w7) (v' := v') HT.out HN.out H.out.ge (by decide) X1.out X2.out X3.out X4.out X5.out (.cells (encW x).toArray 79))
        clear hrd hrw hpc hnn hp HOF c0
        obtain ⟨xA, xc, xz⟩ := x
        simp only [RW.v]
        go_wp2_with (at_builtin; refine wpList_append_own_at _ rfl _ _ 27 rfl w.heap.size 79 i0 (.slice none 0 0) 1 24 Tryz.underlying27 hi0 hz0 hz1 hz2 rfl (by decide) _ _ _ rfl hown2 ⟨w5.heap.size, 0, none⟩ 1 1 [.slice xA xz.size xc] rfl rfl (lits_new_X w5 _ _) (by simp [Value.oneCell']) (by unfold maxLen; omega) (by omega) (by simp; omega) ?_; intro v' w7 hown3 hgrow _ hat)
        go_roundw
        case rel => exact ⟨k + 1, z.push ⟨xA, xc, xz⟩, by go_num, by omega, Lib.hid (by rw [Array.size_push, HZ.out]), Lib.hid (HG.out v' w7 hown3 hgrow hat)⟩
        case measure => simp [intOf]; omega
      · have HD0 : Hid (Calls Tryz.prog 41 #[.pointer (some ⟨b, 0, none⟩)] wr fun e w' => (∃ t u, e = .returned (.iface t u)) ∧ wr = w') := HD.out.mono fun e w' ⟨ev, h1, h2, h3⟩ => by
          rcases h2 with ⟨h2, _⟩ | ⟨_, op, ops, _, h2⟩
          · exact absurd h2 he
          · obtain ⟨t, u, rfl⟩ := chain_iface h2
            exact ⟨⟨t, u, h1⟩, h3⟩
        have HB := Lib.hid (HT.out.bad (m := m) (by have := HZ.out; omega) he)
        clear he HD
        go_wp2_with fail
        refine HD0.out.mono ?_
        rintro _ _ ⟨⟨t, u, rfl⟩, rfl⟩
        clear HD0 c0
        go_wp2
        go_ret
        exact HB.out
    · have kz : decide ((k : Int) < (m : Int)) = false := decide_eq_false (by omega)
      have HB := Lib.hid (HT.out.done (m := m) (by have := HZ.out; omega))
      go_wp2
      go_ret
      exact HB.out
end Go.Proofs.YtnmojicfmcbgmaaGreatDoor
