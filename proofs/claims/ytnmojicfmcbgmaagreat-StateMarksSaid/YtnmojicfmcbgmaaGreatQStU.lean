/- A replica is made, by the document: rubatoref25.New. -/
import Derived.Test.YtnmojicfmcbgmaaGreatQStG
import Derived.Test.YtnmojicfmcbgmaaGreatQOwnK
import Derived.Test.YtnmojicfmcbgmaaGreatQTbD
namespace Go.Proofs.YtnmojicfmcbgmaaGreat
open Go.RowKit Go.Sort Go.Lib
set_option maxRecDepth 100000
attribute [local go_sem ↓] execOp_loadRep execOp_storeRep
attribute [local go_sem] run_loadBox run_storeBox_any run_storeBox_newA allOne_lit size_lit
theorem kes_succ (k : Nat) : kes (k + 1) = (kes k).push ke0 := by
  unfold kes
  rw [List.replicate_succ', List.push_toArray]
theorem rws_succ (k : Nat) : rws (k + 1) = (rws k).push ⟨none, 0, #[]⟩ := by
  unfold rws
  rw [List.replicate_succ', List.push_toArray]
theorem kes_size (k : Nat) : (kes k).size = k := by simp [kes]
theorem rws_size (k : Nat) : (rws k).size = k := by simp [rws]
/-- The box's cells. -/
def nbC (N : Nat) (f me : Int) (vK vM vF vD : Value) : Array Value := #[.int .i64 (N : Int), .int .i64 f, .int .i64 me, .int .i64 0, .int .i64 0, .int .i64 0, .int .i64 0, .slice none 0 0, .slice none 0 0, vK, vM, vF, vD, .int .i64 0, .int .i64 0, .int .i64 0, .slice none 0 0, .slice none 0 0]
/-- A replica that is being made: its box lies at g, its rows from B on; what lay between is as it was in w1. -/
structure NewW (g B : Nat) (w w1 : World) (zs0 : Array Value) (N : Nat) (f me : Int) (vM : Value) (vK : Value) (kK : Nat) (vF : Value) (kF : Nat) (vD : Value) (kD : Nat) (W : World) : Prop where
  row : W.heap[g]? = some (.cells (nbC N f me vK vM vF vD) 35 (0, 0))
  res : W.heap[w.heap.size]? = some (.cells zs0 35 (0, 0))
  oK : W.ownsRow B 53 3 vK kK (flatK encKE 3 (kes kK)).toList
  oF : W.ownsRow B 3 1 vF kF ((zs kF).map (Value.int .i64))
  oD : W.ownsRow B 51 1 vD kD (flatK encW 1 (rws kD)).toList
  kp : ∀ j, g < j → j < B → W.heap[j]? = w1.heap[j]?
  b : Below w.heap.size w W
  sz : B ≤ W.heap.size
  hg : w.heap.size < g
  gB : g < B
section
variable {g B : Nat} {w w1 : World} {zs0 : Array Value} {N : Nat} {f me : Int} {vM vK vF vD : Value} {kK kF kD : Nat} {W w3 : World}
theorem NewW.cell (h : NewW g B w w1 zs0 N f me vM vK kK vF kF vD kD W) (j : Nat) {u : Value} (hj : (nbC N f me vK vM vF vD)[j]? = some u) : W.cell? ⟨g, j, none⟩ = some u := by
  rw [cell_of_row W g j _ _ (0, 0) h.row]; exact hj
theorem NewW.froz (h : NewW g B w w1 zs0 N f me vM vK kK vF kF vD kD W) (j : Nat) : W.frozen? ⟨g, j, none⟩ = false := by
  have := h.row
  simp [World.frozen?, this]
/-- Some row of its own has grown. -/
theorem NewW.grow (h : NewW g B w w1 zs0 N f me vM vK kK vF kF vD kD W) {o : Obj} {v : Value} {e : TypeId} {s n : Nat} {xs : List Value} (hv : W.ownsRow B e s v n xs) (hg : (W.alloc o).grownBy w3 v.ownBlock) :
    w3.heap[g]? = some (.cells (nbC N f me vK vM vF vD) 35 (0, 0)) ∧ w3.heap[w.heap.size]? = some (.cells zs0 35 (0, 0)) ∧ (∀ j, g < j → j < B → w3.heap[j]? = w1.heap[j]?) ∧ Below w.heap.size w w3 ∧ B ≤ w3.heap.size := by
  have hlt := hv.lt
  have key : ∀ j, j < B → w3.heap[j]? = W.heap[j]? := fun j hj => by
    have hs := h.sz
    rw [hg.block j (by simp; omega) (fun he => by have := (hlt j he.symm).1; omega)]
    exact heap_alloc_old W o (by omega)
  have h1 := h.hg
  have h2 := h.gB
  refine ⟨(key g h2).trans h.row, (key _ (by omega)).trans h.res, fun j a b => (key j b).trans (h.kp j a b), ⟨hg.os.trans h.b.os, hg.tape.trans h.b.tape, hg.output.trans h.b.output, ?_, fun j hj => (key j (by omega)).trans (h.b.block j hj)⟩, ?_⟩
  · have := hg.size
    have := h.b.size
    simp at *
    omega
  · have := hg.size
    have := h.sz
    simp at *
    omega
theorem NewW.alloc (h : NewW g B w w1 zs0 N f me vM vK kK vF kF vD kD W) (o : Obj) : NewW g B w w1 zs0 N f me vM vK kK vF kF vD kD (W.alloc o) :=
  ⟨blk_alloc h.row, blk_alloc h.res, h.oK.alloc o, h.oF.alloc o, h.oD.alloc o, fun j a b => (heap_alloc_old W o (by have := h.sz; omega)).trans (h.kp j a b), belAlloc h.b o, by have := h.sz; simp; omega, h.hg, h.gB⟩
theorem own_setB {e : TypeId} {s n : Nat} {v : Value} {xs : List Value} (h : W.ownsRow B e s v n xs) (hg : g < B) (j : Nat) (u : Value) : (W.setCell ⟨g, j, none⟩ u).ownsRow B e s v n xs :=
  own_same h (Nat.le_refl _) (fun i hi _ => heap_setCell_other W ⟨g, j, none⟩ i u (by simp; omega))
theorem NewW.putK (h : NewW g B w w1 zs0 N f me vM vK kK vF kF vD kD W) {o : Obj} {v' : Value} (hg : (W.alloc o).grownBy w3 vK.ownBlock) (ho : w3.ownsRow B 53 3 v' (kK + 1) ((flatK encKE 3 (kes kK)).toList ++ [.int .i64 0, .slice none 0 0, .slice none 0 0])) :
    NewW g B w w1 zs0 N f me vM v' (kK + 1) vF kF vD kD (w3.setCell ⟨g, 9, none⟩ v') := by
  obtain ⟨h1, h2, h3, h4, h5⟩ := h.grow h.oK hg
  have hgB := h.gB
  have hwg := h.hg
  refine ⟨heap_setCell_same w3 g 9 _ _ v' h1, (heap_setCell_other w3 ⟨g, 9, none⟩ _ v' (by simp; omega)).trans h2, own_setB ?_ hgB 9 v', own_setB (own_kinds (h.oK.alloc o) (h.oF.alloc o) (by decide) hg) hgB 9 v', own_setB (own_kinds (h.oK.alloc o) (h.oD.alloc o) (by decide) hg) hgB 9 v',
    fun j a b => (heap_setCell_other w3 ⟨g, 9, none⟩ j v' (by simp; omega)).trans (h3 j a b), h4.setCell (p := ⟨g, 9, none⟩) (by simp; omega) v', by simpa using h5, hwg, hgB⟩
  rw [kes_succ, flatK_push encKE_len]
  exact ho
theorem NewW.putF (h : NewW g B w w1 zs0 N f me vM vK kK vF kF vD kD W) {o : Obj} {v' : Value} (hg : (W.alloc o).grownBy w3 vF.ownBlock) (ho : w3.ownsRow B 3 1 v' (kF + 1) ((zs kF).map (Value.int .i64) ++ [.int .i64 0])) :
    NewW g B w w1 zs0 N f me vM vK kK v' (kF + 1) vD kD (w3.setCell ⟨g, 11, none⟩ v') := by
  obtain ⟨h1, h2, h3, h4, h5⟩ := h.grow h.oF hg
  have hgB := h.gB
  have hwg := h.hg
  refine ⟨heap_setCell_same w3 g 11 _ _ v' h1, (heap_setCell_other w3 ⟨g, 11, none⟩ _ v' (by simp; omega)).trans h2, own_setB (own_kinds (h.oF.alloc o) (h.oK.alloc o) (by decide) hg) hgB 11 v', own_setB ?_ hgB 11 v', own_setB (own_kinds (h.oF.alloc o) (h.oD.alloc o) (by decide) hg) hgB 11 v',
    fun j a b => (heap_setCell_other w3 ⟨g, 11, none⟩ j v' (by simp; omega)).trans (h3 j a b), h4.setCell (p := ⟨g, 11, none⟩) (by simp; omega) v', by simpa using h5, hwg, hgB⟩
  rw [zs_succ, List.map_append]
  exact ho
theorem NewW.putD (h : NewW g B w w1 zs0 N f me vM vK kK vF kF vD kD W) {o : Obj} {v' : Value} (hg : (W.alloc o).grownBy w3 vD.ownBlock) (ho : w3.ownsRow B 51 1 v' (kD + 1) ((flatK encW 1 (rws kD)).toList ++ [.slice none 0 0])) :
    NewW g B w w1 zs0 N f me vM vK kK vF kF v' (kD + 1) (w3.setCell ⟨g, 12, none⟩ v') := by
  obtain ⟨h1, h2, h3, h4, h5⟩ := h.grow h.oD hg
  have hgB := h.gB
  have hwg := h.hg
  refine ⟨heap_setCell_same w3 g 12 _ _ v' h1, (heap_setCell_other w3 ⟨g, 12, none⟩ _ v' (by simp; omega)).trans h2, own_setB (own_kinds (h.oD.alloc o) (h.oK.alloc o) (by decide) hg) hgB 12 v', own_setB (own_kinds (h.oD.alloc o) (h.oF.alloc o) (by decide) hg) hgB 12 v', own_setB ?_ hgB 12 v',
    fun j a b => (heap_setCell_other w3 ⟨g, 12, none⟩ j v' (by simp; omega)).trans (h3 j a b), h4.setCell (p := ⟨g, 12, none⟩) (by simp; omega) v', by simpa using h5, hwg, hgB⟩
  rw [rws_succ, flatK_push encW_len]
  exact ho
end
theorem sli_of {w : World} {B s n : Nat} {e : TypeId} {v : Value} {xs : List Value} (h : w.ownsRow B e s v n xs) : ∃ A c, v = .slice A n c := by
  obtain ⟨_, ⟨e, h0⟩ | ⟨_, _, _, e, _⟩⟩ := h
  · exact ⟨none, 0, by rw [h0]; exact e⟩
  · exact ⟨_, _, e⟩
/-- What was made is a replica that is made. -/
theorem NewW.done {g B : Nat} {w w1 W W' : World} {zs0 : Array Value} {N : Nat} {f me : Int} {vM vK vF vD : Value} (hp : newP (N : Int) f me) (h : NewW g B w w1 zs0 N f me vM vK N vF N vD N W) (hB : B ≤ w1.heap.size) (hm : OwnZ (g + 1) w1 vM N) (hm2 : w1.heap.size ≤ B) (ho : ∀ j, g < j → W'.heap[j]? = W.heap[j]?) :
    NewQ (N : Int) f me (.returned (.tuple #[.agg (nbC N f me vK vM vF vD), .int .i64 0])) W' := by
  have hgB := h.gB
  obtain ⟨xK, eK, zK, rK⟩ := rdW_of_owns (d := kes N) (en := encKE) (by rw [kes_size]; exact own_same (W := W') h.oK (B0 := g + 1) (by omega) (fun j hj _ => ho j (by omega)))
  obtain ⟨xF, eF, zF, rF⟩ := rdJ_of_owns (l := zs N) (by rw [zs_len]; exact own_same (W := W') h.oF (B0 := g + 1) (by omega) (fun j hj _ => ho j (by omega)))
  obtain ⟨xD, eD, zD, rD⟩ := rdW_of_owns (d := rws N) (en := encW) (by rw [rws_size]; exact own_same (W := W') h.oD (B0 := g + 1) (by omega) (fun j hj _ => ho j (by omega)))
  obtain ⟨xM, eM, zM, rM⟩ := (hm.same (W := W') (fun j hj hl => (ho j (by omega)).trans (h.kp j (by omega) (by omega)))).rd
  subst eK eF eD eM
  refine ⟨⟨(N : Int), f, me, 0, 0, 0, 0, ⟨none, 0, #[]⟩, ⟨none, 0, #[]⟩, xK, xM, xF, xD, 0, 0, 0, ⟨none, 0, #[]⟩, ⟨none, 0, #[]⟩⟩, ?_, ?_, ?_⟩
  · rw [if_pos hp]
    rfl
  · rw [if_pos hp, Int.toNat_natCast]
    refine ⟨⟨rfl, rfl, rfl, rfl, rfl, rfl, rfl, rfl, rfl, rfl⟩, rfl, rfl, ?_, zM, zF, ?_, rfl, rfl⟩
    · show xK.z.size = N ∧ ∀ i, i < N → xK.z[i]!.kn = _
      rw [zK]
      exact ⟨kes_size N, fun i hi => by rw [show (kes N)[i]! = ke0 from rep_get N i _ hi]; rfl⟩
    · show xD.z.size = N ∧ ∀ i, i < N → xD.z[i]!.z = _
      rw [zD]
      exact ⟨rws_size N, fun i hi => by rw [show (rws N)[i]! = ⟨none, 0, #[]⟩ from rep_get N i _ hi]⟩
  · refine ⟨⟨fun h => absurd h (Nat.not_lt_zero _), fun i hi => absurd hi (Nat.not_lt_zero i)⟩, rdN_none _ _ _, rK, fun i hi => ?_, rM.1, rM.2, rF, rD, fun i hi => ?_, rdW_none _ _ _, rdW_none _ _ _⟩
    · have hi' : i < xK.z.size := hi
      show RdKE W' xK.z[i]!
      rw [zK] at hi' ⊢
      rw [kes_size] at hi'
      rw [show (kes N)[i]! = ke0 from rep_get N i _ hi']
      exact ⟨rdN_none _ _ _, rdN_none _ _ _⟩
    · have hi' : i < xD.z.size := hi
      show RdW encR 2 W' xD.z[i]!
      rw [zD] at hi' ⊢
      rw [rws_size] at hi'
      rw [show (rws N)[i]! = ⟨none, 0, #[]⟩ from rep_get N i _ hi']
      exact rdW_none _ _ _
theorem three_one (w : World) (a b : Array Value) (t u : TypeId) (_ : True) : ((w.alloc (.cells a t)).alloc (.cells b u)).heap[w.heap.size]? = some (.cells a t (0, 0)) := blk_alloc (heap_alloc_new w _)
theorem three_two (w : World) (a b : Array Value) (t u : TypeId) (_ : True) : ((w.alloc (.cells a t)).alloc (.cells b u)).heap[w.heap.size + 1]? = some (.cells b u (0, 0)) := heap_alloc2_new w _ _
theorem newL_set (W : World) (a : Addr) (v : Value) (l : List Value) (t : TypeId) (s : Nat) (hs : (W.setCell a v).heap.size = s) : ∀ j u, l[j]? = some u → ((W.setCell a v).alloc (.cells l.toArray t)).cell? ((⟨s, 0, none⟩ : Addr).add j) = some u := hs ▸ newL _ _ _
theorem own_k0 (W : World) (B : Nat) : W.ownsRow B 53 3 (.slice none 0 0) 0 (flatK encKE 3 (kes 0)).toList := by
  have e : kes 0 = #[] := rfl
  rw [e]
  exact nil_ownsK _ _ _ _ _
theorem own_d0 (W : World) (B : Nat) : W.ownsRow B 51 1 (.slice none 0 0) 0 (flatK encW 1 (rws 0)).toList := by
  have e : rws 0 = #[] := rfl
  rw [e]
  exact nil_ownsK _ _ _ _ _
def zer18 : Array Value := #[.int .i64 0, .int .i64 0, .int .i64 0, .int .i64 0, .int .i64 0, .int .i64 0, .int .i64 0, .slice none 0 0, .slice none 0 0, .slice none 0 0, .slice none 0 0, .slice none 0 0, .slice none 0 0, .int .i64 0, .int .i64 0, .int .i64 0, .slice none 0 0, .slice none 0 0]
set_option maxHeartbeats 16000000 in
theorem rStNew_any (n f me : Int) (w : World) : Calls Tryz.prog 8 #[.int .i64 n, .int .i64 f, .int .i64 me] w fun e w' => NewQ n f me e w' ∧ Below w.heap.size w w' := by
  have hE := fastN_0 n f
  have HSZ := Lib.hid (fun W => szRef_any n f W)
  by_cases hP : newP n f me
  · obtain ⟨h1, h2, h3⟩ := hP
    have h1' := h1
    unfold sizeP at h1'
    have HP : Hid (newP n f me) := ⟨h1, h2, h3⟩
    have e0 : (fastN n f == 0) = false := beq_eq_false_iff_ne.2 (hE.2 h1)
    obtain ⟨N, rfl⟩ : ∃ N : Nat, n = (N : Int) := ⟨n.toNat, by omega⟩
    have hN9 : N ≤ 9 := by omega
    have HN := Lib.hid (fun W => rSwNew_ok N W (by omega) (by omega))
    have e2 : decide (me < 1) = false := decide_eq_false (by omega)
    have e3 : decide ((N : Int) < me) = false := decide_eq_false (by omega)
    generalize fastN (N : Int) f = z1 at HSZ e0
    generalize slowN (N : Int) f = z2 at HSZ
    generalize backN (N : Int) f = z3 at HSZ
    clear h1 h1' h2 h3 hE
    go_enter Tryz.func8, Tryz.ntmps8
    go_wp2_with (first
      | (go_at_call 26; refine (HSZ.out _).mono ?_; rintro _ _ ⟨rfl, rfl⟩)
      | (go_at_call 27; refine (HN.out _).mono ?_; rintro _ w1 ⟨⟨vM, rfl, ho⟩, hb⟩; have HO := Lib.hid ho; have HB := Lib.hid hb; obtain ⟨AM, cM, rfl⟩ : ∃ A c, vM = .slice A N c := (by obtain ⟨L, hl, h1, _⟩ := ho; rw [← hl]; exact sli_of h1); clear ho hb;
         have hsz1 : w.heap.size + 1 + 1 ≤ w1.heap.size := (by have := HB.out.size; simpa using this);
         have hrow := (HB.out.block (w.heap.size + 1) (by simp)).trans (three_two _ _ _ _ _ trivial); have hrow0 := (HB.out.block w.heap.size (by simp; omega)).trans (three_one _ _ _ _ _ trivial);
         have c10 : w1.cell? ⟨w.heap.size + 1, 10, none⟩ = some (.slice none 0 0) := (cell_of_row w1 (w.heap.size + 1) 10 _ _ (0, 0) hrow).trans rfl; have f10 : w1.frozen? ⟨w.heap.size + 1, 10, none⟩ = false := (by simp [World.frozen?, hrow]); have HR := Lib.hid hrow; have HR0 := Lib.hid hrow0; clear hrow hrow0))
    have HW0 : Hid (NewW (w.heap.size + 1) w1.heap.size w w1 zer18 N f me (.slice AM N cM) (.slice none 0 0) 0 (.slice none 0 0) 0 (.slice none 0 0) 0 (w1.setCell ⟨w.heap.size + 1, 10, none⟩ (.slice AM N cM))) :=
      ⟨heap_setCell_same w1 _ 10 _ _ _ HR.out, (heap_setCell_other w1 ⟨w.heap.size + 1, 10, none⟩ _ _ (by simp)).trans HR0.out, own_k0 _ _, World.ownsRow_nil _ _ _ _, own_d0 _ _, fun j a b => heap_setCell_other w1 ⟨w.heap.size + 1, 10, none⟩ j _ (by simp; omega), ((belStep (belAlloc (bel1 w _) _) HB.out)).setCell (p := ⟨w.heap.size + 1, 10, none⟩) (by simp) _, by simp, Nat.lt_succ_self _, by omega⟩
    obtain ⟨ws, hws⟩ : ∃ W, W = w1.setCell ⟨w.heap.size + 1, 10, none⟩ (.slice AM N cM) := ⟨_, rfl⟩
    rw [← hws] at HW0 ⊢
    obtain ⟨g, hg⟩ : ∃ g, w.heap.size + 1 = g := ⟨_, rfl⟩
    rw [hg] at HW0 ⊢
    have HG := Lib.hid hg
    obtain ⟨i0, hi0, hz0, hz1, hz2⟩ := info_parts kno_info
    obtain ⟨j0, hj0, hy0, hy1, hy2⟩ := info_parts int_info_R
    obtain ⟨k0, hk0, hx0, hx1, hx2⟩ := info_parts rngs_info
    clear hws c10 f10 hg
    go_loopw [12] (fun i wr => ∃ (k : Nat) (vK vF vD : Value), i = .int .i64 k ∧ k ≤ N ∧ Hid (NewW g w1.heap.size w w1 zer18 N f me (.slice AM N cM) vK k vF k vD k wr)) (fun i _ => N - (intOf i).toNat)
    case atStart => exact ⟨0, _, _, _, rfl, Nat.zero_le _, HW0⟩
    case round =>
      obtain ⟨k, vK, vF, vD, rfl, hk, HW⟩ := hrel
      by_cases hlt : k < N
      · have kz : (k : Int) < (N : Int) := by omega
        have c9 := HW.out.cell 9 (u := vK) rfl
        have hsz := HW.out.sz
        go_wp2_with (first
          | (at_builtin; refine wpList_append_own _ rfl _ _ 24 rfl w1.heap.size 53 i0 (.agg #[.int .i64 0, .slice none 0 0, .slice none 0 0]) 3 56 Tryz.underlying24 hi0 hz0 hz1 hz2 rfl (by decide) _ _ _ rfl (HW.out.oK.alloc _) ⟨wr.heap.size, 0, none⟩ 1 1 [.int .i64 0, .slice none 0 0, .slice none 0 0] rfl rfl (newL wr _ _) (by simp [Value.oneCell']) (by unfold maxLen; omega) (by omega) (by simp; omega) ?_; intro vK' w3 hown3 hgrow _;
             obtain ⟨AK3, cK3, rfl⟩ := sli_of hown3; have HW3 := Lib.hid (HW.out.putK hgrow hown3); have r3 := (HW.out.grow HW.out.oK hgrow).1; have c9 : w3.cell? ⟨g, 9, none⟩ = some vK := (cell_of_row w3 g 9 _ _ (0, 0) r3).trans rfl; have f9 : w3.frozen? ⟨g, 9, none⟩ = false := (by simp [World.frozen?, r3]); have c11 : w3.cell? ⟨g, 11, none⟩ = some vF := (cell_of_row w3 g 11 _ _ (0, 0) r3).trans rfl; have hsz := HW3.out.sz)
          | (at_builtin; refine wpList_append_own _ rfl _ _ 26 rfl w1.heap.size 3 j0 (.int .i64 0) 1 8 Tryz.underlying26 hj0 hy0 hy1 hy2 rfl (by decide) _ _ _ rfl (HW3.out.oF.alloc _) ⟨w3.heap.size, 0, none⟩ 1 1 [.int .i64 0] rfl rfl (newL_set _ _ _ _ _ _ (by simp)) (by simp [Value.oneCell']) (by unfold maxLen; omega) (by omega) (by simp at hsz ⊢; omega) ?_; intro vF' w4 hown4 hgrow4 _;
             obtain ⟨AF4, cF4, rfl⟩ := sli_of hown4; have HW4 := Lib.hid (HW3.out.putF hgrow4 hown4); have r4 := (HW3.out.grow HW3.out.oF hgrow4).1; have c11 : w4.cell? ⟨g, 11, none⟩ = some vF := (cell_of_row w4 g 11 _ _ (0, 0) r4).trans rfl; have f11 : w4.frozen? ⟨g, 11, none⟩ = false := (by simp [World.frozen?, r4]); have c12 : w4.cell? ⟨g, 12, none⟩ = some vD := (cell_of_row w4 g 12 _ _ (0, 0) r4).trans rfl; have hsz4 := HW4.out.sz)
          | (at_builtin; refine wpList_append_own _ rfl _ _ 27 rfl w1.heap.size 51 k0 (.slice none 0 0) 1 24 Tryz.underlying27 hk0 hx0 hx1 hx2 rfl (by decide) _ _ _ rfl (HW4.out.oD.alloc _) ⟨w4.heap.size, 0, none⟩ 1 1 [.slice none 0 0] rfl rfl (newL_set _ _ _ _ _ _ (by simp)) (by simp [Value.oneCell']) (by unfold maxLen; omega) (by omega) (by simp at hsz4 ⊢; omega) ?_; intro vD' w5 hown5 hgrow5 _;
             obtain ⟨AD5, cD5, rfl⟩ := sli_of hown5; have HW5 := Lib.hid (HW4.out.putD hgrow5 hown5); have r5 := (HW4.out.grow HW4.out.oD hgrow5).1; have c12 : w5.cell? ⟨g, 12, none⟩ = some vD := (cell_of_row w5 g 12 _ _ (0, 0) r5).trans rfl; have f12 : w5.frozen? ⟨g, 12, none⟩ = false := (by simp [World.frozen?, r5])))
        go_roundw
        case rel => exact ⟨k + 1, _, _, _, by go_num, by omega, HW5⟩
        case measure => simp [intOf]; omega
      · have hlt' : decide ((k : Int) < (N : Int)) = false := decide_eq_false (by omega)
        obtain rfl : k = N := by omega
        obtain ⟨AK, cK, rfl⟩ := sli_of HW.out.oK
        obtain ⟨AF, cF, rfl⟩ := sli_of HW.out.oF
        obtain ⟨AD, cD, rfl⟩ := sli_of HW.out.oD
        have x1 := boxAt_of HW.out.row (n := 18) rfl
        have x2 := rowAt_of HW.out.row
        unfold nbC at x2
        have y1 := boxAt_of HW.out.res (n := 18) rfl
        have HQ := Lib.hid (fun W' ho => HW.out.done (W' := W') HP.out (Nat.le_refl _) (by
          have h := HO.out
          simp only [World.alloc, Array.size_push, HG.out] at h
          exact h) (Nat.le_refl _) ho)
        have HRES := Lib.hid HW.out.res
        have HBW := Lib.hid HW.out.b
        go_wp2
        refine bodyPost_ret (results_rep2 rfl rfl (setRow_heap _ _ _ _ _ _ HRES.out) rfl) rfl ?_
        refine ⟨HQ.out _ (fun j hj => setRow_other _ _ j _ (by have := HG.out; omega)), HBW.out.trans ⟨rfl, rfl, rfl, by simp, fun j hj => setRow_other _ _ j _ (by omega)⟩⟩
  · have HF := Lib.hid (newQ_none hP)
    by_cases h1 : sizeP n f
    · have e0 : (fastN n f == 0) = false := beq_eq_false_iff_ne.2 (hE.2 h1)
      generalize fastN n f = z1 at HSZ e0
      generalize slowN n f = z2 at HSZ
      generalize backN n f = z3 at HSZ
      by_cases h2 : 1 ≤ me
      · have h3 : ¬ me ≤ n := fun h3 => hP ⟨h1, h2, h3⟩
        have e2 : decide (me < 1) = false := decide_eq_false (by omega)
        have e3 : decide (n < me) = true := decide_eq_true (by omega)
        clear hP h1 h2 h3 hE
        go_enter Tryz.func8, Tryz.ntmps8
        go_wp2_with (go_at_call 26; refine (HSZ.out _).mono ?_; rintro _ _ ⟨rfl, rfl⟩)
        refine bodyPost_ret (results_rep2 rfl rfl (heap_alloc_new _ _) rfl) rfl ?_
        exact ⟨HF.out _, bel1 _ _⟩
      · have e2 : decide (me < 1) = true := decide_eq_true (by omega)
        clear hP h1 h2 hE
        go_enter Tryz.func8, Tryz.ntmps8
        go_wp2_with (go_at_call 26; refine (HSZ.out _).mono ?_; rintro _ _ ⟨rfl, rfl⟩)
        refine bodyPost_ret (results_rep2 rfl rfl (heap_alloc_new _ _) rfl) rfl ?_
        exact ⟨HF.out _, bel1 _ _⟩
    · have e0 : (fastN n f == 0) = true := beq_iff_eq.2 (Classical.byContradiction fun h => h1 (hE.1 h))
      generalize fastN n f = z1 at HSZ e0
      generalize slowN n f = z2 at HSZ
      generalize backN n f = z3 at HSZ
      clear hP h1 hE
      go_enter Tryz.func8, Tryz.ntmps8
      go_wp2_with (go_at_call 26; refine (HSZ.out _).mono ?_; rintro _ _ ⟨rfl, rfl⟩)
      refine bodyPost_ret (results_rep2 rfl rfl (heap_alloc_new _ _) rfl) rfl ?_
      exact ⟨HF.out _, bel1 _ _⟩
end Go.Proofs.YtnmojicfmcbgmaaGreat
