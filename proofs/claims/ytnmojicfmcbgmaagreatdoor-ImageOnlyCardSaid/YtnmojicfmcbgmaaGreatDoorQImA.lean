/- Rows of elements laid as numbers: image.row at three kinds, rubatoref36.atts, spans. A replica's pieces are laid: image.commands, hears, store, wide. What a replica knows of others, its store: image.hears, store; rows that are too long: image.wide. A store is laid; rows that are too long: image.store, image.wide. A replica's bytes: image.Put, image.Size. What may be hangs on the pieces alone; what Take comes to: plain. -/
import Derived.Deep.RegionHeld3
import Derived.Test.YtnmojicfmcbgmaaGreatDoorQStG
import Derived.Test.YtnmojicfmcbgmaaGreatDoorQOwnK
import Derived.Test.YtnmojicfmcbgmaaGreatDoorQRdr
import Derived.Test.YtnmojicfmcbgmaaGreatDoorQOpenK
import Derived.Test.YtnmojicfmcbgmaaGreatDoorQImU
import Derived.Test.YtnmojicfmcbgmaaGreatDoorQErrA
namespace Go.Proofs.YtnmojicfmcbgmaaGreatDoor
open Go.RowKit Go.Sort Go.Lib Nb
set_option maxRecDepth 100000
/-- What a writer's step comes to. -/
def WQ (B b : Nat) (l : List UInt8) (W : World) (e : Ending) (w' : World) : Prop := e = .returned (.tuple #[]) ∧ Wrt B b l w' ∧ Below B W w' ∧ KeepT b W w'
theorem lits_cell {w : World} {g : Nat} {xs : List Value} {e : TypeId} (h : w.heap[g]? = some (.cells xs.toArray e (0, 0))) : ∀ j u, xs[j]? = some u → w.cell? (Addr.add ⟨g, 0, none⟩ j) = some u := by
  intro j u hj
  have := cell_of_row w g j _ _ (0, 0) h
  rw [List.getElem?_toArray] at this
  rw [Addr.add_lit, Nat.zero_add]
  exact this.trans hj
theorem nats_map (l : List Int) : nats l.toArray = l.map Int.toNat := by simp [nats]
theorem layN_of {l : List Int} (h : ∀ x ∈ l, may6 x) : LayN l.toArray := by
  intro i hi
  have hi' : i < l.length := by simpa using hi
  have hm : l.toArray[i]! ∈ l := by
    rw [getElem!_pos l.toArray i hi]
    simp
  have := h _ hm
  unfold may6 at this
  omega
def ackM (d : Array AK) : GS := d.toList.map ackN
theorem take_flat {α β : Type} [Inhabited α] (d : Array α) (f : α → List β) {k : Nat} (h : k < d.size) : (d.toList.take (k + 1)).flatMap f = (d.toList.take k).flatMap f ++ f d[k]! := by
  rw [List.take_add_one, List.getElem?_eq_getElem (by simpa using h), List.flatMap_append, getElem!_pos d k h]
  simp
/-- An element's numbers. -/
def celA (x : Int × Int) : List Int := [x.1, x.2]
theorem celA_len (x : Int × Int) : (celA x).length = 2 := rfl
theorem ofA_any (x : Int × Int) (w : World) : Calls Tryz.prog 25 #[.agg (encA_I x).toArray] w fun e w' => ∃ g, e = .returned (.slice (some ⟨g, 0, none⟩) 2 2) ∧ w'.heap[g]? = some (.cells ((celA x).map (Value.int .i64)).toArray 3 (0, 0)) ∧ w.heap.size ≤ g ∧ Below w.heap.size w w' := by
  have HB := Lib.hid (fun o1 o2 => belAlloc (bel1 w o1) o2)
  have HG := Lib.hid (fun a b s t => heap_alloc2_new w (.cells a s) (.cells b t))
  simp only [encA_I]
  go_enter Tryz.func25, Tryz.ntmps25
  go_wp2
  go_ret
  exact ⟨w.heap.size + 1, rfl, HG.out _ _ _ _, Nat.le_succ _, HB.out _ _⟩
theorem celA_nat {d : Array (Int × Int)} : nats (d.toList.flatMap celA).toArray = (pairM d).flatten := by
  rw [nats_map]
  unfold pairM
  rw [← List.flatMap_def, List.map_flatMap]
  rfl
theorem celA_may {d : Array (Int × Int)} (h : ∀ x ∈ d.toList, may6 x.1 ∧ may6 x.2) : ∀ y ∈ d.toList.flatMap celA, may6 y := by
  intro y hy
  obtain ⟨x, hx, hy⟩ := List.mem_flatMap.1 hy
  have hm := h x hx
  unfold celA at hy
  simp only [List.mem_cons, List.not_mem_nil, or_false] at hy
  rcases hy with rfl | rfl <;> first | exact hm.1 | exact hm.2 | exact hm.2.1 | exact hm.2.2.1 | exact hm.2.2.2.1 | exact hm.2.2.2.2.1 | exact hm.2.2.2.2.2
theorem celA_size (d : Array (Int × Int)) : ∀ k, k ≤ d.size → ((d.toList.take k).flatMap celA).length = k * 2 := by
  intro k
  induction k with
  | zero => intro _; simp
  | succ k ih =>
    intro hk
    rw [take_flat d celA (by omega), List.length_append, ih (by omega), celA_len]
    omega
set_option maxHeartbeats 4000000 in
theorem rowA_any (B b : Nat) (l : List UInt8) (A : Option Addr) (c : Nat) (d : Array (Int × Int)) (w : World) (h : Wrt B b l w) (hr : RdK encA_I 2 w.heap.size w A d) (hm : ∀ x ∈ d.toList, may6 x.1 ∧ may6 x.2) (hs : d.size ≤ 1000) (hl : l.length ≤ 800000000) (hB : B ≤ w.heap.size) :
    Calls Tryz.prog 24 #[.pointer (some ⟨b, 0, none⟩), .slice A d.size c, .func (.func 25) #[] #[]] w fun e w' => WQ B b (l ++ rowB (pairM d).flatten) w e w' := by
  obtain ⟨i0, hi0, hz0, hz1, hz2⟩ := info_parts int_info
  have HR := Lib.hid hr
  have HM := Lib.hid hm
  have HW := Lib.hid h
  clear hr hm h
  go_enter Tryz.func24, Tryz.ntmps24
  go_wp2
  go_loopw [6, 11] (fun v i wr => ∃ (k : Nat) (xs : List Int), i = .int .i64 k ∧ k ≤ d.size ∧ Hid (xs = (d.toList.take k).flatMap celA) ∧ wr.ownsRow w.heap.size 3 1 v xs.length (xs.map (Value.int .i64)) ∧ Hid (Below w.heap.size w wr)) (fun _ i _ => d.size - (intOf i).toNat)
  case atStart => exact ⟨0, [], rfl, Nat.zero_le _, Lib.hid (by simp), World.ownsRow_nil _ _ _ _, Lib.hid (Below.refl _ _)⟩
  case round =>
    obtain ⟨k, xs, rfl, hk, HX, hown, HB⟩ := hrel
    by_cases hlt : k < d.size
    · have kz : (k : Int) < (d.size : Int) := by omega
      have HS : Hid ((d.toList.take (k + 1)).flatMap celA = xs ++ celA d[k]!) := by show _ = _; rw [take_flat _ _ hlt, ← HX.out]
      have hxl : xs.length ≤ 6000 := by rw [HX.out, celA_size d k hk]; omega
      obtain ⟨b2, off, rfl, hbl, f⟩ := (HR.out.below HB.out).at_ (i := k) (by omega)
      obtain ⟨x, hx⟩ : ∃ x, d[k]! = x := ⟨_, rfl⟩
      rw [hx] at f HS
      have e0 := f 0 (by omega)
      have e1 := f 1 (by omega)
      clear hx f
      simp only [Nat.add_zero, encA_I, List.getElem!_cons_zero, List.getElem!_cons_succ] at e0 e1
      have HC := Lib.hid (fun W => ofA_any x W)
      simp only [encA_I] at HC
      have HOW := Lib.hid hown
      clear hown
      go_wp2_with (first
        | (go_at_call 25; refine (HC.out _).mono ?_; rintro _ w2 ⟨g, rfl, hg, hgl, hb⟩; have HB2 := Lib.hid (belStep (belAlloc HB.out _) hb); have hown2 := own_belK HOW.out (belStep (bel1 wr _) hb); have HG := Lib.hid hg; clear hb hg)
        | (at_builtin; refine wpList_append_own _ rfl _ _ 26 rfl w.heap.size 3 i0 (.int .i64 0) 1 8 Tryz.underlying26 hi0 hz0 hz1 hz2 rfl (by decide) _ _ _ rfl hown2 ⟨g, 0, none⟩ 2 2 ((celA x).map (Value.int .i64)) rfl (by simp [celA_len]) (lits_cell HG.out) (by intro u hu; obtain ⟨y, _, rfl⟩ := List.mem_map.1 hu; rfl) (by unfold maxLen; omega) (by omega) HB2.out.size ?_; intro v' w3 hown3 hgrow _))
      go_roundw
      case rel => exact ⟨k + 1, xs ++ celA x, by go_num, by omega, Lib.hid HS.out.symm, by simpa [celA_len] using hown3, Lib.hid (HB2.out.grown hgrow HB2.out.size (own_block hown2))⟩
      case measure => simp [intOf]; omega
    · have hlt' : decide ((k : Int) < (d.size : Int)) = false := decide_eq_false (by omega)
      have hkd : k = d.size := by omega
      have hxs : xs = d.toList.flatMap celA := by rw [HX.out, hkd, List.take_of_length_le (by simp)]
      have hsz := celA_size d k hk
      rw [← HX.out] at hsz
      obtain ⟨A2, c2, rfl, hrd⟩ := rdI_of_owns hown
      have HWR := Lib.hid (WRow_any B b l A2 c2 xs.toArray wr (HW.out.below HB.out) hrd (layN_of (by rw [hxs]; exact celA_may HM.out)) (by simp; omega) (by omega) (Nat.le_trans hB HB.out.size))
      have HXS := Lib.hid hxs
      simp only [List.size_toArray] at HWR
      clear hxs hrd hown hsz HX
      go_wp2_with fail
      refine HWR.out.mono ?_
      rintro _ w5 ⟨rfl, h5, hb5, hk5⟩
      rw [HXS.out, celA_nat] at h5
      have H5 := Lib.hid h5
      have HB5 := Lib.hid hb5
      have HK5 := Lib.hid hk5
      clear h5 hb5 hk5
      go_wp2
      go_end0
      exact ⟨rfl, H5.out, (HB.out.mono hB).trans HB5.out, (KeepT.of_below HB.out).trans HK5.out⟩
/-- An element's numbers. -/
def celR (x : Int × Int) : List Int := [x.1, x.2]
theorem celR_len (x : Int × Int) : (celR x).length = 2 := rfl
theorem ofR_any (x : Int × Int) (w : World) : Calls Tryz.prog 69 #[.agg (encR x).toArray] w fun e w' => ∃ g, e = .returned (.slice (some ⟨g, 0, none⟩) 2 2) ∧ w'.heap[g]? = some (.cells ((celR x).map (Value.int .i64)).toArray 3 (0, 0)) ∧ w.heap.size ≤ g ∧ Below w.heap.size w w' := by
  have HB := Lib.hid (fun o1 o2 => belAlloc (bel1 w o1) o2)
  have HG := Lib.hid (fun a b s t => heap_alloc2_new w (.cells a s) (.cells b t))
  simp only [encR]
  go_enter Tryz.func69, Tryz.ntmps69
  go_wp2
  go_ret
  exact ⟨w.heap.size + 1, rfl, HG.out _ _ _ _, Nat.le_succ _, HB.out _ _⟩
theorem celR_nat {d : Array (Int × Int)} : nats (d.toList.flatMap celR).toArray = (pairM d).flatten := by
  rw [nats_map]
  unfold pairM
  rw [← List.flatMap_def, List.map_flatMap]
  rfl
theorem celR_may {d : Array (Int × Int)} (h : ∀ x ∈ d.toList, may6 x.1 ∧ may6 x.2) : ∀ y ∈ d.toList.flatMap celR, may6 y := by
  intro y hy
  obtain ⟨x, hx, hy⟩ := List.mem_flatMap.1 hy
  have hm := h x hx
  unfold celR at hy
  simp only [List.mem_cons, List.not_mem_nil, or_false] at hy
  rcases hy with rfl | rfl <;> first | exact hm.1 | exact hm.2 | exact hm.2.1 | exact hm.2.2.1 | exact hm.2.2.2.1 | exact hm.2.2.2.2.1 | exact hm.2.2.2.2.2
theorem celR_size (d : Array (Int × Int)) : ∀ k, k ≤ d.size → ((d.toList.take k).flatMap celR).length = k * 2 := by
  intro k
  induction k with
  | zero => intro _; simp
  | succ k ih =>
    intro hk
    rw [take_flat d celR (by omega), List.length_append, ih (by omega), celR_len]
    omega
set_option maxHeartbeats 4000000 in
theorem rowR_any (B b : Nat) (l : List UInt8) (A : Option Addr) (c : Nat) (d : Array (Int × Int)) (w : World) (h : Wrt B b l w) (hr : RdK encR 2 w.heap.size w A d) (hm : ∀ x ∈ d.toList, may6 x.1 ∧ may6 x.2) (hs : d.size ≤ 1000) (hl : l.length ≤ 800000000) (hB : B ≤ w.heap.size) :
    Calls Tryz.prog 68 #[.pointer (some ⟨b, 0, none⟩), .slice A d.size c, .func (.func 69) #[] #[]] w fun e w' => WQ B b (l ++ rowB (pairM d).flatten) w e w' := by
  obtain ⟨i0, hi0, hz0, hz1, hz2⟩ := info_parts int_info
  have HR := Lib.hid hr
  have HM := Lib.hid hm
  have HW := Lib.hid h
  clear hr hm h
  go_enter Tryz.func68, Tryz.ntmps68
  go_wp2
  go_loopw [6, 11] (fun v i wr => ∃ (k : Nat) (xs : List Int), i = .int .i64 k ∧ k ≤ d.size ∧ Hid (xs = (d.toList.take k).flatMap celR) ∧ wr.ownsRow w.heap.size 3 1 v xs.length (xs.map (Value.int .i64)) ∧ Hid (Below w.heap.size w wr)) (fun _ i _ => d.size - (intOf i).toNat)
  case atStart => exact ⟨0, [], rfl, Nat.zero_le _, Lib.hid (by simp), World.ownsRow_nil _ _ _ _, Lib.hid (Below.refl _ _)⟩
  case round =>
    obtain ⟨k, xs, rfl, hk, HX, hown, HB⟩ := hrel
    by_cases hlt : k < d.size
    · have kz : (k : Int) < (d.size : Int) := by omega
      have HS : Hid ((d.toList.take (k + 1)).flatMap celR = xs ++ celR d[k]!) := by show _ = _; rw [take_flat _ _ hlt, ← HX.out]
      have hxl : xs.length ≤ 6000 := by rw [HX.out, celR_size d k hk]; omega
      obtain ⟨b2, off, rfl, hbl, f⟩ := (HR.out.below HB.out).at_ (i := k) (by omega)
      obtain ⟨x, hx⟩ : ∃ x, d[k]! = x := ⟨_, rfl⟩
      rw [hx] at f HS
      have e0 := f 0 (by omega)
      have e1 := f 1 (by omega)
      clear hx f
      simp only [Nat.add_zero, encR, List.getElem!_cons_zero, List.getElem!_cons_succ] at e0 e1
      have HC := Lib.hid (fun W => ofR_any x W)
      simp only [encR] at HC
      have HOW := Lib.hid hown
      clear hown
      go_wp2_with (first
        | (go_at_call 69; refine (HC.out _).mono ?_; rintro _ w2 ⟨g, rfl, hg, hgl, hb⟩; have HB2 := Lib.hid (belStep (belAlloc HB.out _) hb); have hown2 := own_belK HOW.out (belStep (bel1 wr _) hb); have HG := Lib.hid hg; clear hb hg)
        | (at_builtin; refine wpList_append_own _ rfl _ _ 26 rfl w.heap.size 3 i0 (.int .i64 0) 1 8 Tryz.underlying26 hi0 hz0 hz1 hz2 rfl (by decide) _ _ _ rfl hown2 ⟨g, 0, none⟩ 2 2 ((celR x).map (Value.int .i64)) rfl (by simp [celR_len]) (lits_cell HG.out) (by intro u hu; obtain ⟨y, _, rfl⟩ := List.mem_map.1 hu; rfl) (by unfold maxLen; omega) (by omega) HB2.out.size ?_; intro v' w3 hown3 hgrow _))
      go_roundw
      case rel => exact ⟨k + 1, xs ++ celR x, by go_num, by omega, Lib.hid HS.out.symm, by simpa [celR_len] using hown3, Lib.hid (HB2.out.grown hgrow HB2.out.size (own_block hown2))⟩
      case measure => simp [intOf]; omega
    · have hlt' : decide ((k : Int) < (d.size : Int)) = false := decide_eq_false (by omega)
      have hkd : k = d.size := by omega
      have hxs : xs = d.toList.flatMap celR := by rw [HX.out, hkd, List.take_of_length_le (by simp)]
      have hsz := celR_size d k hk
      rw [← HX.out] at hsz
      obtain ⟨A2, c2, rfl, hrd⟩ := rdI_of_owns hown
      have HWR := Lib.hid (WRow_any B b l A2 c2 xs.toArray wr (HW.out.below HB.out) hrd (layN_of (by rw [hxs]; exact celR_may HM.out)) (by simp; omega) (by omega) (Nat.le_trans hB HB.out.size))
      have HXS := Lib.hid hxs
      simp only [List.size_toArray] at HWR
      clear hxs hrd hown hsz HX
      go_wp2_with fail
      refine HWR.out.mono ?_
      rintro _ w5 ⟨rfl, h5, hb5, hk5⟩
      rw [HXS.out, celR_nat] at h5
      have H5 := Lib.hid h5
      have HB5 := Lib.hid hb5
      have HK5 := Lib.hid hk5
      clear h5 hb5 hk5
      go_wp2
      go_end0
      exact ⟨rfl, H5.out, (HB.out.mono hB).trans HB5.out, (KeepT.of_below HB.out).trans HK5.out⟩
/-- An element's numbers. -/
def celK (x : AK) : List Int := [x.kind, x.frm, x.bal, x.t, x.abal, x.ph]
theorem celK_len (x : AK) : (celK x).length = 6 := rfl
theorem ofK_any (x : AK) (w : World) : Calls Tryz.prog 66 #[.agg (encK x).toArray] w fun e w' => ∃ g, e = .returned (.slice (some ⟨g, 0, none⟩) 6 6) ∧ w'.heap[g]? = some (.cells ((celK x).map (Value.int .i64)).toArray 3 (0, 0)) ∧ w.heap.size ≤ g ∧ Below w.heap.size w w' := by
  have HB := Lib.hid (fun o1 o2 => belAlloc (bel1 w o1) o2)
  have HG := Lib.hid (fun a b s t => heap_alloc2_new w (.cells a s) (.cells b t))
  simp only [encK]
  go_enter Tryz.func66, Tryz.ntmps66
  go_wp2
  go_ret
  exact ⟨w.heap.size + 1, rfl, HG.out _ _ _ _, Nat.le_succ _, HB.out _ _⟩
theorem celK_nat {d : Array (AK)} : nats (d.toList.flatMap celK).toArray = (ackM d).flatten := by
  rw [nats_map]
  unfold ackM
  rw [← List.flatMap_def, List.map_flatMap]
  rfl
theorem celK_may {d : Array (AK)} (h : ∀ x ∈ d.toList, may6 x.kind ∧ may6 x.frm ∧ may6 x.bal ∧ may6 x.t ∧ may6 x.abal ∧ may6 x.ph) : ∀ y ∈ d.toList.flatMap celK, may6 y := by
  intro y hy
  obtain ⟨x, hx, hy⟩ := List.mem_flatMap.1 hy
  have hm := h x hx
  unfold celK at hy
  simp only [List.mem_cons, List.not_mem_nil, or_false] at hy
  rcases hy with rfl | rfl | rfl | rfl | rfl | rfl <;> first | exact hm.1 | exact hm.2 | exact hm.2.1 | exact hm.2.2.1 | exact hm.2.2.2.1 | exact hm.2.2.2.2.1 | exact hm.2.2.2.2.2
theorem celK_size (d : Array (AK)) : ∀ k, k ≤ d.size → ((d.toList.take k).flatMap celK).length = k * 6 := by
  intro k
  induction k with
  | zero => intro _; simp
  | succ k ih =>
    intro hk
    rw [take_flat d celK (by omega), List.length_append, ih (by omega), celK_len]
    omega
set_option maxHeartbeats 4000000 in
theorem rowK_any (B b : Nat) (l : List UInt8) (A : Option Addr) (c : Nat) (d : Array (AK)) (w : World) (h : Wrt B b l w) (hr : RdK encK 6 w.heap.size w A d) (hm : ∀ x ∈ d.toList, may6 x.kind ∧ may6 x.frm ∧ may6 x.bal ∧ may6 x.t ∧ may6 x.abal ∧ may6 x.ph) (hs : d.size ≤ 1000) (hl : l.length ≤ 800000000) (hB : B ≤ w.heap.size) :
    Calls Tryz.prog 65 #[.pointer (some ⟨b, 0, none⟩), .slice A d.size c, .func (.func 66) #[] #[]] w fun e w' => WQ B b (l ++ rowB (ackM d).flatten) w e w' := by
  obtain ⟨i0, hi0, hz0, hz1, hz2⟩ := info_parts int_info
  have HR := Lib.hid hr
  have HM := Lib.hid hm
  have HW := Lib.hid h
  clear hr hm h
  go_enter Tryz.func65, Tryz.ntmps65
  go_wp2
  go_loopw [6, 11] (fun v i wr => ∃ (k : Nat) (xs : List Int), i = .int .i64 k ∧ k ≤ d.size ∧ Hid (xs = (d.toList.take k).flatMap celK) ∧ wr.ownsRow w.heap.size 3 1 v xs.length (xs.map (Value.int .i64)) ∧ Hid (Below w.heap.size w wr)) (fun _ i _ => d.size - (intOf i).toNat)
  case atStart => exact ⟨0, [], rfl, Nat.zero_le _, Lib.hid (by simp), World.ownsRow_nil _ _ _ _, Lib.hid (Below.refl _ _)⟩
  case round =>
    obtain ⟨k, xs, rfl, hk, HX, hown, HB⟩ := hrel
    by_cases hlt : k < d.size
    · have kz : (k : Int) < (d.size : Int) := by omega
      have HS : Hid ((d.toList.take (k + 1)).flatMap celK = xs ++ celK d[k]!) := by show _ = _; rw [take_flat _ _ hlt, ← HX.out]
      have hxl : xs.length ≤ 6000 := by rw [HX.out, celK_size d k hk]; omega
      obtain ⟨b2, off, rfl, hbl, f⟩ := (HR.out.below HB.out).at_ (i := k) (by omega)
      obtain ⟨x, hx⟩ : ∃ x, d[k]! = x := ⟨_, rfl⟩
      rw [hx] at f HS
      have e0 := f 0 (by omega)
      have e1 := f 1 (by omega)
      have e2 := f 2 (by omega)
      have e3 := f 3 (by omega)
      have e4 := f 4 (by omega)
      have e5 := f 5 (by omega)
      clear hx f
      simp only [Nat.add_zero, encK, List.getElem!_cons_zero, List.getElem!_cons_succ] at e0 e1 e2 e3 e4 e5
      have HC := Lib.hid (fun W => ofK_any x W)
      simp only [encK] at HC
      have HOW := Lib.hid hown
      clear hown
      go_wp2_with (first
        | (go_at_call 66; refine (HC.out _).mono ?_; rintro _ w2 ⟨g, rfl, hg, hgl, hb⟩; have HB2 := Lib.hid (belStep (belAlloc HB.out _) hb); have hown2 := own_belK HOW.out (belStep (bel1 wr _) hb); have HG := Lib.hid hg; clear hb hg)
        | (at_builtin; refine wpList_append_own _ rfl _ _ 26 rfl w.heap.size 3 i0 (.int .i64 0) 1 8 Tryz.underlying26 hi0 hz0 hz1 hz2 rfl (by decide) _ _ _ rfl hown2 ⟨g, 0, none⟩ 6 6 ((celK x).map (Value.int .i64)) rfl (by simp [celK_len]) (lits_cell HG.out) (by intro u hu; obtain ⟨y, _, rfl⟩ := List.mem_map.1 hu; rfl) (by unfold maxLen; omega) (by omega) HB2.out.size ?_; intro v' w3 hown3 hgrow _))
      go_roundw
      case rel => exact ⟨k + 1, xs ++ celK x, by go_num, by omega, Lib.hid HS.out.symm, by simpa [celK_len] using hown3, Lib.hid (HB2.out.grown hgrow HB2.out.size (own_block hown2))⟩
      case measure => simp [intOf]; omega
    · have hlt' : decide ((k : Int) < (d.size : Int)) = false := decide_eq_false (by omega)
      have hkd : k = d.size := by omega
      have hxs : xs = d.toList.flatMap celK := by rw [HX.out, hkd, List.take_of_length_le (by simp)]
      have hsz := celK_size d k hk
      rw [← HX.out] at hsz
      obtain ⟨A2, c2, rfl, hrd⟩ := rdI_of_owns hown
      have HWR := Lib.hid (WRow_any B b l A2 c2 xs.toArray wr (HW.out.below HB.out) hrd (layN_of (by rw [hxs]; exact celK_may HM.out)) (by simp; omega) (by omega) (Nat.le_trans hB HB.out.size))
      have HXS := Lib.hid hxs
      simp only [List.size_toArray] at HWR
      clear hxs hrd hown hsz HX
      go_wp2_with fail
      refine HWR.out.mono ?_
      rintro _ w5 ⟨rfl, h5, hb5, hk5⟩
      rw [HXS.out, celK_nat] at h5
      have H5 := Lib.hid h5
      have HB5 := Lib.hid hb5
      have HK5 := Lib.hid hk5
      clear h5 hb5 hk5
      go_wp2
      go_end0
      exact ⟨rfl, H5.out, (HB.out.mono hB).trans HB5.out, (KeepT.of_below HB.out).trans HK5.out⟩
end Go.Proofs.YtnmojicfmcbgmaaGreatDoor
namespace Go.Proofs.YtnmojicfmcbgmaaGreatDoor
open Go.RowKit Go.Sort Go.Lib Nb
set_option maxRecDepth 100000
/-- A writer at b, over w0; what was there before is as it was. -/
structure WW (w0 : World) (b : Nat) (l : List UInt8) (w : World) : Prop where
  h : Wrt w0.heap.size b l w
  b : Below w0.heap.size w0 w
theorem WW.lt {w0 w : World} {b : Nat} {l : List UInt8} (h : WW w0 b l w) : b < w.heap.size := Bld.lt h.h
theorem WW.step {w0 w w' : World} {b : Nat} {l : List UInt8} (h : WW w0 b l w) (hb : Below w.heap.size w w') : WW w0 b l w' := ⟨h.h.below hb, belStep h.b hb⟩
theorem WW.of {w0 w w' : World} {b : Nat} {l l' : List UInt8} (h : WW w0 b l w) (h1 : Wrt w0.heap.size b l' w') (h2 : Below w0.heap.size w w') : WW w0 b l' w' := ⟨h1, h.b.trans h2⟩
/-- A block of cells that are no bytes, and not the writer's, is kept. -/
theorem keepRow {b g : Nat} {w w' : World} {cs : Array Value} {t : TypeId} (h : KeepT b w w') (hne : g ≠ b) (ht : t ≠ 5) (hg : w.heap[g]? = some (.cells cs t (0, 0))) : w'.heap[g]? = some (.cells cs t (0, 0)) := h g cs t _ hne ht hg
/-- Numbers laid, that lie in a row of their own. -/
theorem wnum {w0 w : World} {b g c : Nat} {l : List UInt8} (xs : List Int) (h : WW w0 b l w) (hg : w.heap[g]? = some (.cells (xs.map (Value.int .i64)).toArray 3 (0, 0))) (hx : ∀ x ∈ xs, may6 x) (hs : xs.length ≤ 1000) (hl : l.length ≤ 800000000) (hne : g ≠ b) :
    Calls Tryz.prog 22 #[.pointer (some ⟨b, 0, none⟩), .slice (some ⟨g, 0, none⟩) xs.length c] w fun e w' => e = .returned (.tuple #[]) ∧ WW w0 b (l ++ (xs.map Int.toNat).flatMap numB) w' ∧ Below w0.heap.size w w' ∧ KeepT b w w' := by
  have := WNum_any w0.heap.size b l g c xs.toArray w h.h (by rw [hg]; simp [encI]) (layN_of hx) (by simp; omega) (by omega) h.b.size hne
  rw [nats_map] at this
  simp only [List.size_toArray] at this
  exact this.mono fun e w' ⟨h1, h2, h3, h4⟩ => ⟨h1, h.of h2 h3, h3, h4⟩
theorem wtext {w0 w : World} {b : Nat} {l : List UInt8} (s : ByteArray) (h : WW w0 b l w) (hs : s.size ≤ 1000) (hl : l.length ≤ 800000000) :
    Calls Tryz.prog 64 #[.pointer (some ⟨b, 0, none⟩), .string s] w fun e w' => e = .returned (.tuple #[]) ∧ WW w0 b (l ++ textB s.data.toList) w' ∧ Below w0.heap.size w w' ∧ KeepT b w w' :=
  (WText_any w0.heap.size b l s w h.h (by omega) h.b.size).mono fun e w' ⟨h1, h2, h3, h4⟩ => ⟨h1, h.of h2 h3, h3, h4⟩
theorem wrow {w0 w : World} {b : Nat} {l : List UInt8} (A : Option Addr) (c : Nat) (d : Array Int) (h : WW w0 b l w) (hr : RdI_R w.heap.size w A d) (hm : ∀ x ∈ d.toList, may6 x) (hs : d.size ≤ 1000) (hl : l.length ≤ 800000000) :
    Calls Tryz.prog 67 #[.pointer (some ⟨b, 0, none⟩), .slice A d.size c] w fun e w' => e = .returned (.tuple #[]) ∧ WW w0 b (l ++ rowB (intM d).flatten) w' ∧ Below w0.heap.size w w' ∧ KeepT b w w' := by
  have hd : LayN d := by have := layN_of hm; simpa using this
  have e : nats d = (intM d).flatten := by
    unfold nats intM
    rw [← List.flatMap_def]
    induction d.toList with
    | nil => rfl
    | cons x r ih => simp only [List.map_cons, List.flatMap_cons, ih]; rfl
  rw [← e]
  exact (WRow_any w0.heap.size b l A c d w h.h hr hd (by omega) (by omega) h.b.size).mono fun e w' ⟨h1, h2, h3, h4⟩ => ⟨h1, h.of h2 h3, h3, h4⟩
theorem wrowA {w0 w : World} {b : Nat} {l : List UInt8} (A : Option Addr) (c : Nat) (d : Array (Int × Int)) (h : WW w0 b l w) (hr : RdK encA_I 2 w.heap.size w A d) (hm : ∀ x ∈ d.toList, may6 x.1 ∧ may6 x.2) (hs : d.size ≤ 1000) (hl : l.length ≤ 800000000) :
    Calls Tryz.prog 24 #[.pointer (some ⟨b, 0, none⟩), .slice A d.size c, .func (.func 25) #[] #[]] w fun e w' => e = .returned (.tuple #[]) ∧ WW w0 b (l ++ rowB (pairM d).flatten) w' ∧ Below w0.heap.size w w' ∧ KeepT b w w' :=
  (rowA_any w0.heap.size b l A c d w h.h hr hm hs hl h.b.size).mono fun _ _ ⟨h1, h2, h3, h4⟩ => ⟨h1, h.of h2 h3, h3, h4⟩
theorem wrowR {w0 w : World} {b : Nat} {l : List UInt8} (A : Option Addr) (c : Nat) (d : Array (Int × Int)) (h : WW w0 b l w) (hr : RdK encR 2 w.heap.size w A d) (hm : ∀ x ∈ d.toList, may6 x.1 ∧ may6 x.2) (hs : d.size ≤ 1000) (hl : l.length ≤ 800000000) :
    Calls Tryz.prog 68 #[.pointer (some ⟨b, 0, none⟩), .slice A d.size c, .func (.func 69) #[] #[]] w fun e w' => e = .returned (.tuple #[]) ∧ WW w0 b (l ++ rowB (pairM d).flatten) w' ∧ Below w0.heap.size w w' ∧ KeepT b w w' :=
  (rowR_any w0.heap.size b l A c d w h.h hr hm hs hl h.b.size).mono fun _ _ ⟨h1, h2, h3, h4⟩ => ⟨h1, h.of h2 h3, h3, h4⟩
theorem wrowK {w0 w : World} {b : Nat} {l : List UInt8} (A : Option Addr) (c : Nat) (d : Array AK) (h : WW w0 b l w) (hr : RdK encK 6 w.heap.size w A d) (hm : ∀ x ∈ d.toList, may6 x.kind ∧ may6 x.frm ∧ may6 x.bal ∧ may6 x.t ∧ may6 x.abal ∧ may6 x.ph) (hs : d.size ≤ 1000) (hl : l.length ≤ 800000000) :
    Calls Tryz.prog 65 #[.pointer (some ⟨b, 0, none⟩), .slice A d.size c, .func (.func 66) #[] #[]] w fun e w' => e = .returned (.tuple #[]) ∧ WW w0 b (l ++ rowB (ackM d).flatten) w' ∧ Below w0.heap.size w w' ∧ KeepT b w w' :=
  (rowK_any w0.heap.size b l A c d w h.h hr hm hs hl h.b.size).mono fun _ _ ⟨h1, h2, h3, h4⟩ => ⟨h1, h.of h2 h3, h3, h4⟩
/-- What may be of a command, number by number. -/
structure EntB (e : EN) : Prop where
  n : ∀ x ∈ [e.id, e.ph, e.qu, e.t, e.bal, e.abal, e.seen, e.age], may6 x
  p : e.pay.size ≤ 300
  k : ∀ x ∈ e.z.toList, may6 x.kind ∧ may6 x.frm ∧ may6 x.bal ∧ may6 x.t ∧ may6 x.abal ∧ may6 x.ph
  z : e.z.size ≤ 100
theorem pay_len {e : EN} (h : EntB e) : (textB e.pay.data.toList).length ≤ 400 := by
  unfold textB
  have hp : e.pay.data.toList.length = e.pay.size := by simp
  have := numB_len e.pay.data.toList.length (by rw [hp]; have := h.p; omega)
  rw [List.length_append]
  have := h.p
  omega
theorem n8_len {e : EN} (h : EntB e) : (([e.id, e.ph, e.qu, e.t, e.bal, e.abal, e.seen, e.age].map Int.toNat).flatMap numB).length ≤ 72 := by
  have := flat_len_M ([e.id, e.ph, e.qu, e.t, e.bal, e.abal, e.seen, e.age].map Int.toNat) (fun n hn => by
    obtain ⟨y, hy, rfl⟩ := List.mem_map.1 hn
    have := h.n y hy
    unfold may6 at this
    omega)
  have e8 : ([e.id, e.ph, e.qu, e.t, e.bal, e.abal, e.seen, e.age].map Int.toNat).length = 8 := rfl
  omega
theorem entB_len {e : EN} (h : EntB e) : (enC.b (entM e)).length ≤ 10000 := by
  have h1 : ((ent8 e).flatMap numB).length ≤ 72 := n8_len h
  have h2 := pay_len h
  have hl : ∀ g ∈ ackM e.z, g.length = 6 := fun g hg => by
    obtain ⟨x, _, rfl⟩ := List.mem_map.1 hg
    rfl
  have h3 : (rowB (ackM e.z).flatten).length ≤ 9 + 9 * 600 := by
    unfold rowB
    have e1 := flat_len_grp 6 (ackM e.z) hl
    have e2 : (ackM e.z).length = e.z.size := by unfold ackM; simp
    have e3 := flat_len_M (ackM e.z).flatten (fun n hn => by
      obtain ⟨g, hg, hn⟩ := List.mem_flatten.1 hn
      obtain ⟨x, hx, rfl⟩ := List.mem_map.1 hg
      have := h.k x hx
      unfold may6 at this
      unfold ackN at hn
      simp only [List.mem_cons, List.not_mem_nil, or_false] at hn
      omega)
    have e4 := numB_len (ackM e.z).flatten.length (by have := h.z; omega)
    have := h.z
    rw [List.length_append]
    omega
  show ((ent8 e).flatMap numB ++ (textB e.pay.data.toList ++ rowB (ackM e.z).flatten)).length ≤ 10000
  rw [List.length_append, List.length_append]
  omega
def entsB (z : Array EN) (k : Nat) : List UInt8 := (z.toList.take k).flatMap fun e => enC.b (entM e)
theorem entsB_len {z : Array EN} (h : ∀ x ∈ z.toList, EntB x) : ∀ k, k ≤ z.size → (entsB z k).length ≤ k * 10000 := by
  intro k
  induction k with
  | zero => intro _; simp [entsB]
  | succ k ih =>
    intro hk
    unfold entsB
    rw [take_flat z _ (by omega), List.length_append]
    have h1 := ih (by omega)
    unfold entsB at h1
    have h2 := entB_len (h z[k]! (by rw [getElem!_pos z k (by omega)]; simp))
    omega
set_option maxHeartbeats 8000000 in
theorem imCmds_any {w0 : World} {b : Nat} {l : List UInt8} (A : Option Addr) (c : Nat) (z : Array EN) (w : World) (h : WW w0 b l w) (hr : RdT0 w0 A z) (hm : ∀ x ∈ z.toList, EntB x) (hs : z.size ≤ 100) (hl : l.length ≤ 10000000) :
    Calls Tryz.prog 23 #[.pointer (some ⟨b, 0, none⟩), .slice A z.size c] w fun e w' => e = .returned (.tuple #[]) ∧ WW w0 b (l ++ (enC.list 1000 (by decide)).b (z.toList.map entM)) w' ∧ Below w0.heap.size w w' ∧ KeepT b w w' := by
  have HR := Lib.hid hr
  have HM := Lib.hid hm
  have HW := Lib.hid h
  have hbl := h.lt
  have HN := Lib.hid (wnum (w := w.alloc (.cells #[.int .i64 z.size] 3)) (g := w.heap.size) (c := 1) [(z.size : Int)] (h.step (bel1 w _)) (heap_alloc_new w _) (by intro x hx; simp only [List.mem_cons, List.not_mem_nil, or_false] at hx; subst hx; unfold may6; omega) (by simp) (by omega) (by omega))
  simp only [List.length_cons, List.length_nil, Nat.zero_add, List.map_cons, List.map_nil, Int.toNat_natCast, List.flatMap_cons, List.flatMap_nil, List.append_nil] at HN
  obtain ⟨l1, hl1⟩ : ∃ x, l ++ numB z.size = x := ⟨_, rfl⟩
  have hl1s : l1.length ≤ 10000010 := by
    have := numB_len z.size (by omega)
    rw [← hl1, List.length_append]; omega
  rw [hl1] at HN
  have HL1 := Lib.hid hl1
  clear hr hm h hl1 hl
  go_enter Tryz.func23, Tryz.ntmps23
  go_wp2_with fail
  refine HN.out.mono ?_
  rintro _ w1 ⟨rfl, hW1, hb1, hk1⟩
  have HW1 := Lib.hid hW1
  have HB1 : Hid (Below w0.heap.size w w1) := Lib.hid ((bel1 w _).mono HW.out.b.size |>.trans hb1)
  have HK1 := Lib.hid ((KeepT.of_below (b := b) (bel1 w (.cells #[.int .i64 z.size] 3))).trans hk1)
  clear hW1 hb1 hk1 HN
  go_wp2
  go_loopw [13] (fun i wr => ∃ k : Nat, i = .int .i64 k ∧ k ≤ z.size ∧ Hid (WW w0 b (l1 ++ entsB z k) wr) ∧ Hid (Below w0.heap.size w1 wr) ∧ Hid (KeepT b w1 wr)) (fun i _ => z.size - (intOf i).toNat)
  case atStart => exact ⟨0, rfl, Nat.zero_le _, Lib.hid (by simpa [entsB] using HW1.out), Lib.hid (Below.refl _ _), Lib.hid (KeepT.refl _ _)⟩
  case round =>
    obtain ⟨k, rfl, hk, HWr, HBr, HKr⟩ := hrel
    by_cases hlt : k < z.size
    · have kz : (k : Int) < (z.size : Int) := by omega
      have HS : Hid (entsB z (k + 1) = entsB z k ++ enC.b (entM z[k]!)) := by show _ = _; unfold entsB; rw [take_flat _ _ hlt]
      have hlr : (l1 ++ entsB z k).length ≤ 12000000 := by
        have := entsB_len HM.out k hk
        have : k * 10000 ≤ 100 * 10000 := Nat.mul_le_mul_right _ (by omega)
        rw [List.length_append]; omega
      have hRT := HR.out.below HWr.out.b
      obtain ⟨b2, off, rfl, hb2, f⟩ := hRT.rd.at_ (i := k) hlt
      have HE := Lib.hid (HM.out z[k]! (by rw [getElem!_pos z k hlt]; simp))
      have HEL := Lib.hid (HR.out.el k hlt)
      obtain ⟨x, hx⟩ : ∃ x, z[k]! = x := ⟨_, rfl⟩
      rw [hx] at f HS HE HEL
      have e0 := f 0 (by omega)
      have e1 := f 1 (by omega)
      have e2 := f 2 (by omega)
      have e3 := f 3 (by omega)
      have e4 := f 4 (by omega)
      have e5 := f 5 (by omega)
      have e6 := f 6 (by omega)
      have e7 := f 7 (by omega)
      have e8 := f 8 (by omega)
      have e9 := f 9 (by omega)
      clear hx f hRT
      simp only [Nat.add_zero, encE, List.getElem!_cons_zero, List.getElem!_cons_succ] at e0 e1 e2 e3 e4 e5 e6 e7 e8 e9
      have hbr := HWr.out.lt
      obtain ⟨l2, hl2⟩ : ∃ y, l1 ++ entsB z k = y := ⟨_, rfl⟩
      rw [hl2] at HWr hlr
      have HL2 := Lib.hid hl2
      clear hl2
      obtain ⟨cs, hcs⟩ : ∃ cs : Array Value, cs = #[.int .i64 x.id, .int .i64 x.ph, .int .i64 x.qu, .int .i64 x.t, .int .i64 x.bal, .int .i64 x.abal, .int .i64 x.seen, .int .i64 x.age, .string x.pay, .slice x.A x.z.size x.c] := ⟨_, rfl⟩
      have HBX : Hid ((wr.alloc (.cells cs 132)).heap[wr.heap.size]? = some (.cells cs 132 (0, 0))) := heap_alloc_new wr _
      have HN := Lib.hid (wnum (w := (wr.alloc (.cells cs 132)).alloc (.cells #[.int .i64 x.id, .int .i64 x.ph, .int .i64 x.qu, .int .i64 x.t, .int .i64 x.bal, .int .i64 x.abal, .int .i64 x.seen, .int .i64 x.age] 3)) (g := wr.heap.size + 1) (c := 8) [x.id, x.ph, x.qu, x.t, x.bal, x.abal, x.seen, x.age] (HWr.out.step (belAlloc (bel1 wr _) _)) (heap_alloc2_new wr _ _) HE.out.n (by simp) (by omega) (by omega))
      have HBXa : Hid (((wr.alloc (.cells cs 132)).alloc (.cells #[.int .i64 x.id, .int .i64 x.ph, .int .i64 x.qu, .int .i64 x.t, .int .i64 x.bal, .int .i64 x.abal, .int .i64 x.seen, .int .i64 x.age] 3)).heap[wr.heap.size]? = some (.cells cs 132 (0, 0))) := blk_alloc HBX.out
      have HBb : Hid (Below wr.heap.size wr ((wr.alloc (.cells cs 132)).alloc (.cells #[.int .i64 x.id, .int .i64 x.ph, .int .i64 x.qu, .int .i64 x.t, .int .i64 x.bal, .int .i64 x.abal, .int .i64 x.seen, .int .i64 x.age] 3))) := belAlloc (bel1 wr _) _
      rw [hcs] at HN HBXa HBb
      have HCS := Lib.hid hcs
      clear HBX hcs
      go_wp2_with fail
      refine HN.out.mono ?_
      rintro _ w3 ⟨rfl, hW3, hb3, hk3⟩
      have HX3 := Lib.hid (keepRow hk3 (by omega) (by decide) HBXa.out)
      have HW3 := Lib.hid hW3
      have HB3 : Hid (Below w0.heap.size wr w3) := Lib.hid ((HBb.out.mono HWr.out.b.size).trans hb3)
      have HK3 := Lib.hid ((KeepT.of_below (b := b) HBb.out).trans hk3)
      have c8 := (cell_of_row w3 wr.heap.size 8 _ _ (0, 0) HX3.out).trans rfl
      clear hW3 hb3 hk3 HN e0 e1 e2 e3 e4 e5 e6 e7 e8 e9
      have hl8 := n8_len HE.out
      have HT := Lib.hid (wtext x.pay HW3.out (by have := HE.out.p; omega) (by rw [List.length_append]; omega))
      clear hl8
      go_wp2_with fail
      refine HT.out.mono ?_
      rintro _ w4 ⟨rfl, hW4, hb4, hk4⟩
      have HX4 := Lib.hid (keepRow hk4 (by omega) (by decide) HX3.out)
      have HW4 := Lib.hid hW4
      have HB4 := Lib.hid (HB3.out.trans hb4)
      have HK4 := Lib.hid (HK3.out.trans hk4)
      have c9 := (cell_of_row w4 wr.heap.size 9 _ _ (0, 0) HX4.out).trans rfl
      clear hW4 hb4 hk4 HT c8
      have hl9 := n8_len HE.out
      have hlp : (textB x.pay.data.toList).length ≤ 400 := pay_len HE.out
      have HK := Lib.hid (wrowK x.A x.c x.z HW4.out (HEL.out.below HW4.out.b).rd HE.out.k (by have := HE.out.z; omega) (by rw [List.length_append, List.length_append]; omega))
      clear hl9 hlp
      go_wp2_with fail
      refine HK.out.mono ?_
      rintro _ w5 ⟨rfl, hW5, hb5, hk5⟩
      have HW5 := Lib.hid hW5
      have HB5 := Lib.hid (HB4.out.trans hb5)
      have HK5 := Lib.hid (HK4.out.trans hk5)
      clear hW5 hb5 hk5 HK c9
      go_wp2
      go_roundw
      case rel =>
        refine ⟨k + 1, by go_num, by omega, Lib.hid ?_, Lib.hid (HBr.out.trans HB5.out), Lib.hid (HKr.out.trans HK5.out)⟩
        rw [HS.out, ← List.append_assoc, HL2.out]
        have := HW5.out
        rwa [List.append_assoc, List.append_assoc] at this
      case measure => simp [intOf]; omega
    · have hlt' : decide ((k : Int) < (z.size : Int)) = false := decide_eq_false (by omega)
      go_wp2
      go_end0
      have hkz : k = z.size := by omega
      have e : entsB z z.size = (z.toList.map entM).flatMap enC.b := by
        unfold entsB
        rw [List.take_of_length_le (by simp), List.flatMap_map]
      refine ⟨rfl, ?_, HB1.out.trans HBr.out, HK1.out.trans HKr.out⟩
      have := HWr.out
      rw [hkz, e, ← HL1.out, List.append_assoc] at this
      have hz : (z.toList.map entM).length = z.size := by simp
      show WW w0 b (l ++ (numB (z.toList.map entM).length ++ (z.toList.map entM).flatMap enC.b)) wr
      rw [hz]
      exact this
end Go.Proofs.YtnmojicfmcbgmaaGreatDoor
namespace Go.Proofs.YtnmojicfmcbgmaaGreatDoor
open Go.RowKit Go.Sort Go.Lib Nb
set_option maxRecDepth 100000
theorem flat_bd {α : Type} [Inhabited α] {z : Array α} {f : α → List UInt8} {C : Nat} (h : ∀ x ∈ z.toList, (f x).length ≤ C) : ∀ k, k ≤ z.size → ((z.toList.take k).flatMap f).length ≤ k * C := by
  intro k
  induction k with
  | zero => intro _; simp
  | succ k ih =>
    intro hk
    rw [take_flat z _ (by omega), List.length_append, Nat.succ_mul]
    have h1 := ih (by omega)
    have h2 := h z[k]! (by rw [getElem!_pos z k (by omega)]; simp)
    omega
theorem rowP_len {d : Array (Int × Int)} (hm : ∀ x ∈ d.toList, may6 x.1 ∧ may6 x.2) (hs : d.size ≤ 1000) : (rowB (pairM d).flatten).length ≤ 20000 := by
  have hl : ∀ g ∈ pairM d, g.length = 2 := fun g hg => by
    obtain ⟨x, _, rfl⟩ := List.mem_map.1 hg
    rfl
  have e1 := flat_len_grp 2 (pairM d) hl
  have e2 : (pairM d).length = d.size := by unfold pairM; simp
  have e3 := flat_len_M (pairM d).flatten (fun n hn => by
    obtain ⟨g, hg, hn⟩ := List.mem_flatten.1 hn
    obtain ⟨x, hx, rfl⟩ := List.mem_map.1 hg
    have := hm x hx
    unfold may6 at this
    unfold natP at hn
    simp only [List.mem_cons, List.not_mem_nil, or_false] at hn
    omega)
  have e4 := numB_len (pairM d).flatten.length (by omega)
  unfold rowB
  rw [List.length_append]
  omega
theorem rowI_len {d : Array Int} (hm : ∀ x ∈ d.toList, may6 x) (hs : d.size ≤ 1000) : (rowB (intM d).flatten).length ≤ 10000 := by
  have hl : ∀ g ∈ intM d, g.length = 1 := fun g hg => by
    obtain ⟨x, _, rfl⟩ := List.mem_map.1 hg
    rfl
  have e1 := flat_len_grp 1 (intM d) hl
  have e2 : (intM d).length = d.size := by unfold intM; simp
  have e3 := flat_len_M (intM d).flatten (fun n hn => by
    obtain ⟨g, hg, hn⟩ := List.mem_flatten.1 hn
    obtain ⟨x, hx, rfl⟩ := List.mem_map.1 hg
    have := hm x hx
    unfold may6 at this
    simp only [List.mem_cons, List.not_mem_nil, or_false] at hn
    omega)
  have e4 := numB_len (intM d).flatten.length (by omega)
  unfold rowB
  rw [List.length_append]
  omega
/-- What may be of what it knows, number by number. -/
structure HearB (r : RP) : Prop where
  kn : r.k.z.size ≤ 20
  k : ∀ x ∈ r.k.z.toList, may6 x.base ∧ ((∀ y ∈ x.r.z.toList, may6 y.1 ∧ may6 y.2) ∧ x.r.z.size ≤ 1000) ∧ ((∀ y ∈ x.a.z.toList, may6 y.1 ∧ may6 y.2) ∧ x.a.z.size ≤ 1000)
  mn : r.m.z.size ≤ 20
  m : ∀ x ∈ r.m.z.toList, (∀ y ∈ x.z.toList, may6 y) ∧ x.z.size ≤ 1000
  fr : (∀ y ∈ r.fr.z.toList, may6 y) ∧ r.fr.z.size ≤ 1000
  dn : r.d.z.size ≤ 20
  d : ∀ x ∈ r.d.z.toList, (∀ y ∈ x.z.toList, may6 y.1 ∧ may6 y.2) ∧ x.z.size ≤ 1000
def knB (k : KE) : List UInt8 := numB k.base.toNat ++ (rowB (pairM k.r.z).flatten ++ rowB (pairM k.a.z).flatten)
theorem knB_len {x : KE} (h : may6 x.base ∧ ((∀ y ∈ x.r.z.toList, may6 y.1 ∧ may6 y.2) ∧ x.r.z.size ≤ 1000) ∧ ((∀ y ∈ x.a.z.toList, may6 y.1 ∧ may6 y.2) ∧ x.a.z.size ≤ 1000)) : (knB x).length ≤ 50000 := by
  have h1 := numB_len x.base.toNat (by have := h.1; unfold may6 at this; omega)
  have h2 := rowP_len h.2.1.1 h.2.1.2
  have h3 := rowP_len h.2.2.1 h.2.2.2
  unfold knB
  rw [List.length_append, List.length_append]
  omega
def hearL (r : RP) : List UInt8 := r.k.z.toList.flatMap knB ++ (r.m.z.toList.flatMap (fun x => rowB (intM x.z).flatten) ++ (rowB (intM r.fr.z).flatten ++ r.d.z.toList.flatMap (fun x => rowB (pairM x.z).flatten)))
set_option maxHeartbeats 16000000 in
theorem imHears_any {w0 : World} {b : Nat} {l : List UInt8} (r : RP) (w : World) (h : WW w0 b l w) (hr : RdP w0 r) (hm : HearB r) (hl : l.length ≤ 20000000) :
    Calls Tryz.prog 26 #[.pointer (some ⟨b, 0, none⟩), .agg (encP r).toArray] w fun e w' => e = .returned (.tuple #[]) ∧ WW w0 b (l ++ hearL r) w' ∧ Below w0.heap.size w w' ∧ KeepT b w w' := by
  have HR := Lib.hid hr
  have HM := Lib.hid hm
  have hbl := h.lt
  obtain ⟨cs, hcs⟩ : ∃ cs, cs = (encP r).toArray := ⟨_, rfl⟩
  have HCS := Lib.hid hcs
  have HG : Hid ((w.alloc (.cells cs 35)).heap[w.heap.size]? = some (.cells cs 35 (0, 0))) := heap_alloc_new w _
  have HW := Lib.hid (h.step (bel1 w (.cells cs 35)))
  have HB0 := Lib.hid ((bel1 w (.cells cs 35)).mono h.b.size)
  have HK0 := Lib.hid (KeepT.of_below (b := b) (bel1 w (.cells cs 35)))
  have q9 : cs[9]? = some (.slice r.k.A r.k.z.size r.k.c) := by rw [hcs]; rfl
  have q10 : cs[10]? = some (.slice r.m.A r.m.z.size r.m.c) := by rw [hcs]; rfl
  have q11 : cs[11]? = some (.slice r.fr.A r.fr.z.size r.fr.c) := by rw [hcs]; rfl
  have q12 : cs[12]? = some (.slice r.d.A r.d.z.size r.d.c) := by rw [hcs]; rfl
  have Q9 := Lib.hid q9
  have Q10 := Lib.hid q10
  have Q11 := Lib.hid q11
  have Q12 := Lib.hid q12
  have hkn := hm.kn
  have hmn := hm.mn
  have hdn := hm.dn
  clear q9 q10 q11 q12 hr hm h
  have hgoal : ∀ y : Array Value, cs = y → Calls Tryz.prog 26 #[.pointer (some ⟨b, 0, none⟩), .agg y] w fun e w' => e = .returned (.tuple #[]) ∧ WW w0 b (l ++ hearL r) w' ∧ Below w0.heap.size w w' ∧ KeepT b w w' := by
    rintro _ rfl
    simp only [encP] at hcs
    rw [hcs]
    go_enter Tryz.func26, Tryz.ntmps26
    rw [← hcs]
    clear hcs
    obtain ⟨w1, hw1⟩ : ∃ W, W = w.alloc (.cells cs 35) := ⟨_, rfl⟩
    rw [← hw1] at HG HW HB0 HK0
    have c9 := (cell_of_row w1 w.heap.size 9 _ _ (0, 0) HG.out).trans Q9.out
    rw [hw1] at c9
    go_wp2
    rw [← hw1]
    clear hw1 c9
    go_loopw [13] (fun i wr => ∃ k : Nat, i = .int .i64 k ∧ k ≤ r.k.z.size ∧ Hid (WW w0 b (l ++ (r.k.z.toList.take k).flatMap knB) wr) ∧ Hid (Below w0.heap.size w1 wr) ∧ Hid (KeepT b w1 wr)) (fun i _ => r.k.z.size - (intOf i).toNat)
    case atStart => exact ⟨0, rfl, Nat.zero_le _, Lib.hid (by simpa using HW.out), Lib.hid (Below.refl _ _), Lib.hid (KeepT.refl _ _)⟩
    case round =>
      obtain ⟨k, rfl, hk, HWr, HBr, HKr⟩ := hrel
      by_cases hlt : k < r.k.z.size
      · have kz : (k : Int) < (r.k.z.size : Int) := by omega
        have HS : Hid ((r.k.z.toList.take (k + 1)).flatMap knB = (r.k.z.toList.take k).flatMap knB ++ knB r.k.z[k]!) := take_flat _ _ hlt
        have hlr : (l ++ (r.k.z.toList.take k).flatMap knB).length ≤ 22000000 := by
          have := flat_bd (f := knB) (fun x hx => knB_len (HM.out.k x hx)) k hk
          have : k * 50000 ≤ 20 * 50000 := Nat.mul_le_mul_right _ (by omega)
          rw [List.length_append]; omega
        have hRT := HR.out.below HWr.out.b
        obtain ⟨b2, off, hA, hb2, f⟩ := hRT.k.rd.at_ (i := k) hlt
        have HE := Lib.hid (HM.out.k r.k.z[k]! (by rw [getElem!_pos r.k.z k hlt]; simp))
        have HEL := Lib.hid (HR.out.kk k hlt)
        obtain ⟨x, hx⟩ : ∃ x, r.k.z[k]! = x := ⟨_, rfl⟩
        rw [hx] at f HS HE HEL
        have e0 := f 0 (by omega)
        have e1 := f 1 (by omega)
        have e2 := f 2 (by omega)
        have hA' : r.k.A = some ⟨b2, off, none⟩ := hA
        rw [hA']
        clear hx f hRT hA
        simp only [Nat.add_zero, encKE, List.getElem!_cons_zero, List.getElem!_cons_succ] at e0 e1 e2
        have hbr := HWr.out.lt
        obtain ⟨l2, hl2⟩ : ∃ y, l ++ (r.k.z.toList.take k).flatMap knB = y := ⟨_, rfl⟩
        rw [hl2] at HWr hlr
        have HL2 := Lib.hid hl2
        clear hl2
        have HBX : Hid (((wr.alloc (.cells #[.int .i64 x.base, .slice x.r.A x.r.z.size x.r.c, .slice x.a.A x.a.z.size x.a.c] 81)).alloc (.cells #[.int .i64 x.base] 3)).heap[wr.heap.size]? = some (.cells #[.int .i64 x.base, .slice x.r.A x.r.z.size x.r.c, .slice x.a.A x.a.z.size x.a.c] 81 (0, 0))) := blk_alloc (heap_alloc_new wr _)
        have HBb : Hid (Below wr.heap.size wr ((wr.alloc (.cells #[.int .i64 x.base, .slice x.r.A x.r.z.size x.r.c, .slice x.a.A x.a.z.size x.a.c] 81)).alloc (.cells #[.int .i64 x.base] 3))) := belAlloc (bel1 wr _) _
        have HN := Lib.hid (wnum (w := (wr.alloc (.cells #[.int .i64 x.base, .slice x.r.A x.r.z.size x.r.c, .slice x.a.A x.a.z.size x.a.c] 81)).alloc (.cells #[.int .i64 x.base] 3)) (g := wr.heap.size + 1) (c := 1) [x.base] (HWr.out.step HBb.out) (heap_alloc2_new wr _ _) (by intro y hy; simp only [List.mem_cons, List.not_mem_nil, or_false] at hy; subst hy; exact HE.out.1) (by simp) (by omega) (by omega))
        simp only [List.length_cons, List.length_nil, Nat.zero_add, List.map_cons, List.map_nil, List.flatMap_cons, List.flatMap_nil, List.append_nil] at HN
        go_wp2_with fail
        refine HN.out.mono ?_
        rintro _ w3 ⟨rfl, hW3, hb3, hk3⟩
        have HX3 := Lib.hid (keepRow hk3 (by omega) (by decide) HBX.out)
        have HW3 := Lib.hid hW3
        have HB3 : Hid (Below w0.heap.size wr w3) := Lib.hid ((HBb.out.mono HWr.out.b.size).trans hb3)
        have HK3 := Lib.hid ((KeepT.of_below (b := b) HBb.out).trans hk3)
        have c1 := (cell_of_row w3 wr.heap.size 1 _ _ (0, 0) HX3.out).trans rfl
        have hnb := numB_len x.base.toNat (by have := HE.out.1; unfold may6 at this; omega)
        clear hW3 hb3 hk3 HN e0 e1 e2
        have HT := Lib.hid (wrowR x.r.A x.r.c x.r.z HW3.out (HEL.out.below HW3.out.b).r.rd HE.out.2.1.1 HE.out.2.1.2 (by rw [List.length_append]; omega))
        go_wp2_with fail
        refine HT.out.mono ?_
        rintro _ w4 ⟨rfl, hW4, hb4, hk4⟩
        have HX4 := Lib.hid (keepRow hk4 (by omega) (by decide) HX3.out)
        have HW4 := Lib.hid hW4
        have HB4 := Lib.hid (HB3.out.trans hb4)
        have HK4 := Lib.hid (HK3.out.trans hk4)
        have c2 := (cell_of_row w4 wr.heap.size 2 _ _ (0, 0) HX4.out).trans rfl
        have hrl := rowP_len HE.out.2.1.1 HE.out.2.1.2
        clear hW4 hb4 hk4 HT c1
        have HK := Lib.hid (wrowA x.a.A x.a.c x.a.z HW4.out (HEL.out.below HW4.out.b).a.rd HE.out.2.2.1 HE.out.2.2.2 (by rw [List.length_append, List.length_append]; omega))
        clear hnb hrl
        go_wp2_with fail
        refine HK.out.mono ?_
        rintro _ w5 ⟨rfl, hW5, hb5, hk5⟩
        have HW5 := Lib.hid hW5
        have HB5 := Lib.hid (HB4.out.trans hb5)
        have HK5 := Lib.hid (HK4.out.trans hk5)
        clear hW5 hb5 hk5 HK c2
        go_wp2
        go_roundw
        case rel =>
          refine ⟨k + 1, by go_num, by omega, Lib.hid ?_, Lib.hid (HBr.out.trans HB5.out), Lib.hid (HKr.out.trans HK5.out)⟩
          rw [HS.out, ← List.append_assoc, HL2.out]
          have := HW5.out
          rwa [List.append_assoc, List.append_assoc] at this
        case measure => simp [intOf]; omega
      · have hlt' : decide ((k : Int) < (r.k.z.size : Int)) = false := decide_eq_false (by omega)
        have hkz : k = r.k.z.size := by omega
        have hlr : (l ++ (r.k.z.toList.take k).flatMap knB).length ≤ 22000000 := by
          have := flat_bd (f := knB) (fun x hx => knB_len (HM.out.k x hx)) k hk
          have : k * 50000 ≤ 20 * 50000 := Nat.mul_le_mul_right _ (by omega)
          rw [List.length_append]; omega
        rw [hkz, List.take_of_length_le (by simp)] at HWr hlr
        obtain ⟨l1, hl1⟩ : ∃ y, l ++ r.k.z.toList.flatMap knB = y := ⟨_, rfl⟩
        rw [hl1] at HWr hlr
        have HL1 := Lib.hid hl1
        have HG2 := Lib.hid (keepRow HKr.out (by omega) (by decide) HG.out)
        have HBA := Lib.hid (HB0.out.trans HBr.out)
        have HKA := Lib.hid (HK0.out.trans HKr.out)
        have c10 := (cell_of_row wr w.heap.size 10 _ _ (0, 0) HG2.out).trans Q10.out
        clear hl1 hkz hk HBr HKr
        go_wp2
        clear c10
        obtain ⟨w2, HW2⟩ : ∃ W, Hid (W = wr) := ⟨wr, Lib.hid rfl⟩
        have HS2 : Hid (Below w0.heap.size w2 wr ∧ KeepT b w2 wr) := Lib.hid (HW2.out ▸ ⟨Below.refl _ _, KeepT.refl _ _⟩)
        rw [← HW2.out] at HG2 HBA HKA
        clear HW2
        go_loopw [34] (fun i wq => ∃ k : Nat, i = .int .i64 k ∧ k ≤ r.m.z.size ∧ Hid (WW w0 b (l1 ++ (r.m.z.toList.take k).flatMap (fun x => rowB (intM x.z).flatten)) wq) ∧ Hid (Below w0.heap.size w2 wq) ∧ Hid (KeepT b w2 wq)) (fun i _ => r.m.z.size - (intOf i).toNat)
        case atStart => exact ⟨0, rfl, Nat.zero_le _, Lib.hid (by simpa using HWr.out), Lib.hid HS2.out.1, Lib.hid HS2.out.2⟩
        case round =>
          obtain ⟨k, rfl, hk, HWq, HBq, HKq⟩ := hrel
          have hbd := flat_bd (z := r.m.z) (f := (fun x => rowB (intM x.z).flatten)) (C := 10000) (fun x hx => rowI_len (HM.out.m x hx).1 (HM.out.m x hx).2) k hk
          have hkc : k * 10000 ≤ 20 * 10000 := Nat.mul_le_mul_right _ (by omega)
          by_cases hlt : k < r.m.z.size
          · have kz : (k : Int) < (r.m.z.size : Int) := by omega
            have HS : Hid ((r.m.z.toList.take (k + 1)).flatMap (fun x => rowB (intM x.z).flatten) = (r.m.z.toList.take k).flatMap (fun x => rowB (intM x.z).flatten) ++ (fun x => rowB (intM x.z).flatten) r.m.z[k]!) := take_flat _ _ hlt
            have hlr2 : (l1 ++ (r.m.z.toList.take k).flatMap (fun x => rowB (intM x.z).flatten)).length ≤ 23000000 := by
              rw [List.length_append]; omega
            have hRT := HR.out.below HWq.out.b
            obtain ⟨b2, off, hA, hb2, ff⟩ := hRT.m.rd.at_ (i := k) hlt
            have HE := Lib.hid (HM.out.m r.m.z[k]! (by rw [getElem!_pos r.m.z k hlt]; simp))
            have HEL := Lib.hid (HR.out.mm k hlt)
            obtain ⟨x, hx⟩ : ∃ x, r.m.z[k]! = x := ⟨_, rfl⟩
            rw [hx] at ff HS HE HEL
            have e0 := ff 0 (by omega)
            have hA' : r.m.A = some ⟨b2, off, none⟩ := hA
            rw [hA']
            clear hx ff hRT hA hbd hkc
            simp only [Nat.add_zero, Nat.mul_one, encW, RW.v, List.getElem!_cons_zero] at e0
            obtain ⟨l2, hl2⟩ : ∃ y, l1 ++ (r.m.z.toList.take k).flatMap (fun x => rowB (intM x.z).flatten) = y := ⟨_, rfl⟩
            rw [hl2] at HWq hlr2
            have HL2 := Lib.hid hl2
            clear hl2
            have HT := Lib.hid (wrow x.A x.c x.z HWq.out (HEL.out.below HWq.out.b).rd HE.out.1 HE.out.2 (by omega))
            go_wp2_with fail
            refine HT.out.mono ?_
            rintro _ w4 ⟨rfl, hW4, hb4, hk4⟩
            have HW4 := Lib.hid hW4
            have HB4 := Lib.hid hb4
            have HK4 := Lib.hid hk4
            clear hW4 hb4 hk4 HT e0
            go_wp2
            go_roundw
            case rel =>
              refine ⟨k + 1, by go_num, by omega, Lib.hid ?_, Lib.hid (HBq.out.trans HB4.out), Lib.hid (HKq.out.trans HK4.out)⟩
              rw [HS.out, ← List.append_assoc, HL2.out]
              exact HW4.out
            case measure => simp [intOf]; omega
          · have hlt' : decide ((k : Int) < (r.m.z.size : Int)) = false := decide_eq_false (by omega)
            have hkz : k = r.m.z.size := by omega
            have hlr2 : (l1 ++ (r.m.z.toList.take k).flatMap (fun x => rowB (intM x.z).flatten)).length ≤ 23000000 := by
              rw [List.length_append]; omega
            rw [hkz, List.take_of_length_le (by simp)] at HWq hlr2
            obtain ⟨l3, hl3⟩ : ∃ y, l1 ++ r.m.z.toList.flatMap (fun x => rowB (intM x.z).flatten) = y := ⟨_, rfl⟩
            rw [hl3] at HWq hlr2
            have HL3 := Lib.hid hl3
            have HG3 := Lib.hid (keepRow HKq.out (by omega) (by decide) HG2.out)
            have HBA := Lib.hid (HBA.out.trans HBq.out)
            have HKA := Lib.hid (HKA.out.trans HKq.out)
            have c11 := (cell_of_row wr w.heap.size 11 _ _ (0, 0) HG3.out).trans Q11.out
            have HF := Lib.hid (wrow r.fr.A r.fr.c r.fr.z HWq.out (HR.out.below HWq.out.b).fr.rd HM.out.fr.1 HM.out.fr.2 (by omega))
            clear hl3 hkz hk HBq HKq hbd hkc
            go_wp2_with fail
            refine HF.out.mono ?_
            rintro _ w3 ⟨rfl, hW3, hb3, hk3⟩
            have hfl := rowI_len HM.out.fr.1 HM.out.fr.2
            have HWr := Lib.hid hW3
            have HG4 := Lib.hid (keepRow hk3 (by omega) (by decide) HG3.out)
            have HBA := Lib.hid (HBA.out.trans hb3)
            have HKA := Lib.hid (HKA.out.trans hk3)
            have c12 := (cell_of_row w3 w.heap.size 12 _ _ (0, 0) HG4.out).trans Q12.out
            clear hW3 hb3 hk3 HF c11
            obtain ⟨l4, hl4⟩ : ∃ y, l3 ++ rowB (intM r.fr.z).flatten = y := ⟨_, rfl⟩
            have hlr4 : l4.length ≤ 23100000 := by rw [← hl4, List.length_append]; omega
            rw [hl4] at HWr
            have HL4 := Lib.hid hl4
            clear hl4 hfl
            go_wp2
            clear c12
            go_loopw [49] (fun i wq => ∃ k : Nat, i = .int .i64 k ∧ k ≤ r.d.z.size ∧ Hid (WW w0 b (l4 ++ (r.d.z.toList.take k).flatMap (fun x => rowB (pairM x.z).flatten)) wq) ∧ Hid (Below w0.heap.size w3 wq) ∧ Hid (KeepT b w3 wq)) (fun i _ => r.d.z.size - (intOf i).toNat)
            case atStart => exact ⟨0, rfl, Nat.zero_le _, Lib.hid (by simpa using HWr.out), Lib.hid (Below.refl _ _), Lib.hid (KeepT.refl _ _)⟩
            case round =>
              obtain ⟨k, rfl, hk, HWq, HBq, HKq⟩ := hrel
              have hbd := flat_bd (z := r.d.z) (f := (fun x => rowB (pairM x.z).flatten)) (C := 20000) (fun x hx => rowP_len (HM.out.d x hx).1 (HM.out.d x hx).2) k hk
              have hkc : k * 20000 ≤ 20 * 20000 := Nat.mul_le_mul_right _ (by omega)
              by_cases hlt : k < r.d.z.size
              · have kz : (k : Int) < (r.d.z.size : Int) := by omega
                have HS : Hid ((r.d.z.toList.take (k + 1)).flatMap (fun x => rowB (pairM x.z).flatten) = (r.d.z.toList.take k).flatMap (fun x => rowB (pairM x.z).flatten) ++ (fun x => rowB (pairM x.z).flatten) r.d.z[k]!) := take_flat _ _ hlt
                have hlr2 : (l4 ++ (r.d.z.toList.take k).flatMap (fun x => rowB (pairM x.z).flatten)).length ≤ 24000000 := by
                  rw [List.length_append]; omega
                have hRT := HR.out.below HWq.out.b
                obtain ⟨b2, off, hA, hb2, ff⟩ := hRT.d.rd.at_ (i := k) hlt
                have HE := Lib.hid (HM.out.d r.d.z[k]! (by rw [getElem!_pos r.d.z k hlt]; simp))
                have HEL := Lib.hid (HR.out.dd k hlt)
                obtain ⟨x, hx⟩ : ∃ x, r.d.z[k]! = x := ⟨_, rfl⟩
                rw [hx] at ff HS HE HEL
                have e0 := ff 0 (by omega)
                have hA' : r.d.A = some ⟨b2, off, none⟩ := hA
                rw [hA']
                clear hx ff hRT hA hbd hkc
                simp only [Nat.add_zero, Nat.mul_one, encW, RW.v, List.getElem!_cons_zero] at e0
                obtain ⟨l2, hl2⟩ : ∃ y, l4 ++ (r.d.z.toList.take k).flatMap (fun x => rowB (pairM x.z).flatten) = y := ⟨_, rfl⟩
                rw [hl2] at HWq hlr2
                have HL2 := Lib.hid hl2
                clear hl2
                have HT := Lib.hid (wrowR x.A x.c x.z HWq.out (HEL.out.below HWq.out.b).rd HE.out.1 HE.out.2 (by omega))
                go_wp2_with fail
                refine HT.out.mono ?_
                rintro _ w4 ⟨rfl, hW4, hb4, hk4⟩
                have HW4 := Lib.hid hW4
                have HB4 := Lib.hid hb4
                have HK4 := Lib.hid hk4
                clear hW4 hb4 hk4 HT e0
                go_wp2
                go_roundw
                case rel =>
                  refine ⟨k + 1, by go_num, by omega, Lib.hid ?_, Lib.hid (HBq.out.trans HB4.out), Lib.hid (HKq.out.trans HK4.out)⟩
                  rw [HS.out, ← List.append_assoc, HL2.out]
                  exact HW4.out
                case measure => simp [intOf]; omega
              · have hlt' : decide ((k : Int) < (r.d.z.size : Int)) = false := decide_eq_false (by omega)
                have hkz : k = r.d.z.size := by omega
                have hlr2 : (l4 ++ (r.d.z.toList.take k).flatMap (fun x => rowB (pairM x.z).flatten)).length ≤ 24000000 := by
                  rw [List.length_append]; omega
                rw [hkz, List.take_of_length_le (by simp)] at HWq hlr2
                clear hbd hkc
                go_wp2
                go_end0
                refine ⟨rfl, ?_, HBA.out.trans HBq.out, HKA.out.trans HKq.out⟩
                have := HWq.out
                rw [← HL4.out, ← HL3.out, ← HL1.out] at this
                unfold hearL
                simpa [List.append_assoc] using this
  exact hgoal _ hcs
end Go.Proofs.YtnmojicfmcbgmaaGreatDoor
namespace Go.Proofs.YtnmojicfmcbgmaaGreatDoor
open Go.RowKit Go.Sort Go.Lib Nb
set_option maxRecDepth 100000
def itN (x : IT) : List Int := [x.id, x.free, x.held, x.gone]
def seN (x : SS) : List Int := [x.cl, x.seq]
def itL (x : IT) : List UInt8 := ((itN x).map Int.toNat).flatMap numB
def seL (x : SS) : List UInt8 := ((seN x).map Int.toNat).flatMap numB ++ textB x.rep.data.toList
/-- What may be of a store, number by number. -/
structure StoB (it : Array IT) (ss : Array SS) : Prop where
  i : it.size ≤ 20
  s : ss.size ≤ 20
  ii : ∀ x ∈ it.toList, ∀ y ∈ itN x, may6 y
  si : ∀ x ∈ ss.toList, (∀ y ∈ seN x, may6 y) ∧ x.rep.size ≤ 300
theorem nums_len {l : List Int} (h : ∀ x ∈ l, may6 x) : ((l.map Int.toNat).flatMap numB).length ≤ 9 * l.length := by
  have := flat_len_M (l.map Int.toNat) (fun n hn => by
    obtain ⟨y, hy, rfl⟩ := List.mem_map.1 hn
    have := h y hy
    unfold may6 at this
    omega)
  simpa using this
theorem text_len {p : ByteArray} (h : p.size ≤ 300) : (textB p.data.toList).length ≤ 400 := by
  unfold textB
  have hp : p.data.toList.length = p.size := by simp
  have := numB_len p.data.toList.length (by rw [hp]; omega)
  rw [List.length_append]
  omega
theorem itL_len {x : IT} (h : ∀ y ∈ itN x, may6 y) : (itL x).length ≤ 100 := by
  have := nums_len h
  have e : (itN x).length = 4 := rfl
  unfold itL
  omega
theorem seL_len {x : SS} (h : (∀ y ∈ seN x, may6 y) ∧ x.rep.size ≤ 300) : (seL x).length ≤ 500 := by
  have := nums_len h.1
  have e : (seN x).length = 2 := rfl
  have := text_len h.2
  unfold seL
  rw [List.length_append]
  omega
def stoL (it : Array IT) (ss : Array SS) : List UInt8 := (numB it.size ++ it.toList.flatMap itL) ++ (numB ss.size ++ ss.toList.flatMap seL)
set_option maxHeartbeats 16000000 in
theorem imStore_any {w0 : World} {b : Nat} {l : List UInt8} (x1 : RW IT) (x2 : RW SS) (w : World) (h : WW w0 b l w) (h1 : RdW encIT 4 w0 x1) (h2 : RdW encSS 3 w0 x2) (hm : StoB x1.z x2.z) (hl : l.length ≤ 50000000) :
    Calls Tryz.prog 27 #[.pointer (some ⟨b, 0, none⟩), .agg #[.slice x1.A x1.z.size x1.c, .slice x2.A x2.z.size x2.c]] w fun e w' => e = .returned (.tuple #[]) ∧ WW w0 b (l ++ stoL x1.z x2.z) w' ∧ Below w0.heap.size w w' ∧ KeepT b w w' := by
  obtain ⟨A1, c1, z1⟩ := x1
  obtain ⟨A2, c2, z2⟩ := x2
  simp only at hm ⊢
  have HR1 : Hid (RdK encIT 4 w0.heap.size w0 A1 z1) := h1.rd
  have HR2 : Hid (RdK encSS 3 w0.heap.size w0 A2 z2) := h2.rd
  have HM := Lib.hid hm
  have hbl := h.lt
  have hin := hm.i
  have hsn := hm.s
  have HG : Hid ((w.alloc (.cells #[.slice A1 z1.size c1, .slice A2 z2.size c2] 33)).heap[w.heap.size]? = some (.cells #[.slice A1 z1.size c1, .slice A2 z2.size c2] 33 (0, 0))) := heap_alloc_new w _
  have HW0 := Lib.hid (h.step (bel1 w (.cells #[.slice A1 z1.size c1, .slice A2 z2.size c2] 33)))
  have HB0 := Lib.hid ((bel1 w (.cells #[.slice A1 z1.size c1, .slice A2 z2.size c2] 33)).mono h.b.size)
  have HK0 := Lib.hid (KeepT.of_below (b := b) (bel1 w (.cells #[.slice A1 z1.size c1, .slice A2 z2.size c2] 33)))
  clear h h1 h2 hm
  go_enter Tryz.func27, Tryz.ntmps27
  obtain ⟨w1, hw1⟩ : ∃ W, W = w.alloc (.cells #[.slice A1 z1.size c1, .slice A2 z2.size c2] 33) := ⟨_, rfl⟩
  rw [← hw1] at HG HW0 HB0 HK0
  have q0 := (cell_of_row w1 w.heap.size 0 _ _ (0, 0) HG.out).trans rfl
  have hlt1 : w1.heap.size = w.heap.size + 1 := by rw [hw1]; simp
  rw [hw1] at q0
  have HN := Lib.hid (wnum (w := w1.alloc (.cells #[.int .i64 z1.size] 3)) (g := w1.heap.size) (c := 1) [(z1.size : Int)] (HW0.out.step (bel1 w1 _)) (heap_alloc_new w1 _) (by intro x hx; simp only [List.mem_cons, List.not_mem_nil, or_false] at hx; subst hx; unfold may6; omega) (by simp) (by omega) (by omega))
  simp only [List.length_cons, List.length_nil, Nat.zero_add, List.map_cons, List.map_nil, Int.toNat_natCast, List.flatMap_cons, List.flatMap_nil, List.append_nil] at HN
  rw [hlt1] at HN
  go_wp2_with fail
  rw [← hw1]
  refine HN.out.mono ?_
  rintro _ w2 ⟨rfl, hW2, hb2, hk2⟩
  have HG2 := Lib.hid (keepRow ((KeepT.of_below (b := b) (bel1 w1 (.cells #[.int .i64 z1.size] 3))).trans hk2) (by omega) (by decide) HG.out)
  have HBA := Lib.hid (HB0.out.trans (((bel1 w1 (.cells #[.int .i64 z1.size] 3)).mono HW0.out.b.size).trans hb2))
  have HKA := Lib.hid (HK0.out.trans ((KeepT.of_below (b := b) (bel1 w1 (.cells #[.int .i64 z1.size] 3))).trans hk2))
  have HWr := Lib.hid hW2
  have hnb := numB_len z1.size (by omega)
  obtain ⟨l1, hl1⟩ : ∃ y, l ++ numB z1.size = y := ⟨_, rfl⟩
  have hlr1 : l1.length ≤ 50000010 := by rw [← hl1, List.length_append]; omega
  rw [hl1] at HWr
  have HL1 := Lib.hid hl1
  have q0 := (cell_of_row w2 w.heap.size 0 _ _ (0, 0) HG2.out).trans rfl
  clear hW2 hb2 hk2 HN hl1 hnb hw1 hlt1
  go_wp2
  clear q0
  go_loopw [17] (fun i wq => ∃ k : Nat, i = .int .i64 k ∧ k ≤ z1.size ∧ Hid (WW w0 b (l1 ++ (z1.toList.take k).flatMap itL) wq) ∧ Hid (Below w0.heap.size w2 wq) ∧ Hid (KeepT b w2 wq)) (fun i _ => z1.size - (intOf i).toNat)
  case atStart => exact ⟨0, rfl, Nat.zero_le _, Lib.hid (by simpa using HWr.out), Lib.hid (Below.refl _ _), Lib.hid (KeepT.refl _ _)⟩
  case round =>
    obtain ⟨k, rfl, hk, HWq, HBq, HKq⟩ := hrel
    have hbd := flat_bd (z := z1) (f := itL) (C := 100) (fun x hx => itL_len (HM.out.ii x hx)) k hk
    have hkc : k * 100 ≤ 20 * 100 := Nat.mul_le_mul_right _ (by omega)
    have hlr2 : (l1 ++ (z1.toList.take k).flatMap itL).length ≤ 60000000 := by
      rw [List.length_append]; omega
    by_cases hlt : k < z1.size
    · have kz : (k : Int) < (z1.size : Int) := by omega
      have HS : Hid ((z1.toList.take (k + 1)).flatMap itL = (z1.toList.take k).flatMap itL ++ itL z1[k]!) := take_flat _ _ hlt
      obtain ⟨b2, off, rfl, hb2, ff⟩ := (HR1.out.below HWq.out.b).mono HWq.out.b.size |>.at_ (i := k) hlt
      have HE := Lib.hid (HM.out.ii z1[k]! (by rw [getElem!_pos z1 k hlt]; simp))
      obtain ⟨x, hx⟩ : ∃ x, z1[k]! = x := ⟨_, rfl⟩
      rw [hx] at ff HS HE
      have e0 := ff 0 (by omega)
      have e1 := ff 1 (by omega)
      have e2 := ff 2 (by omega)
      have e3 := ff 3 (by omega)
      clear hx ff hbd hkc
      simp only [Nat.add_zero, encIT, List.getElem!_cons_zero, List.getElem!_cons_succ] at e0 e1 e2 e3
      have hbr := HWq.out.lt
      obtain ⟨l2, hl2⟩ : ∃ y, l1 ++ (z1.toList.take k).flatMap itL = y := ⟨_, rfl⟩
      rw [hl2] at HWq hlr2
      have HL2 := Lib.hid hl2
      clear hl2
      have HBX : Hid (((wr.alloc (.cells #[.int .i64 x.id, .int .i64 x.free, .int .i64 x.held, .int .i64 x.gone] 84)).alloc (.cells #[.int .i64 x.id, .int .i64 x.free, .int .i64 x.held, .int .i64 x.gone] 3)).heap[wr.heap.size]? = some (.cells #[.int .i64 x.id, .int .i64 x.free, .int .i64 x.held, .int .i64 x.gone] 84 (0, 0))) := blk_alloc (heap_alloc_new wr _)
      have HBb : Hid (Below wr.heap.size wr ((wr.alloc (.cells #[.int .i64 x.id, .int .i64 x.free, .int .i64 x.held, .int .i64 x.gone] 84)).alloc (.cells #[.int .i64 x.id, .int .i64 x.free, .int .i64 x.held, .int .i64 x.gone] 3))) := belAlloc (bel1 wr _) _
      have HN := Lib.hid (wnum (w := (wr.alloc (.cells #[.int .i64 x.id, .int .i64 x.free, .int .i64 x.held, .int .i64 x.gone] 84)).alloc (.cells #[.int .i64 x.id, .int .i64 x.free, .int .i64 x.held, .int .i64 x.gone] 3)) (g := wr.heap.size + 1) (c := 4) [x.id, x.free, x.held, x.gone] (HWq.out.step HBb.out) (heap_alloc2_new wr _ _) HE.out (by simp) (by omega) (by omega))
      go_wp2_with fail
      refine HN.out.mono ?_
      rintro _ w4 ⟨rfl, hW4, hb4, hk4⟩
      have HX4 := Lib.hid (keepRow hk4 (by omega) (by decide) HBX.out)
      have HW4 := Lib.hid hW4
      have HB4 : Hid (Below w0.heap.size wr w4) := Lib.hid ((HBb.out.mono HWq.out.b.size).trans hb4)
      have HK4 := Lib.hid ((KeepT.of_below (b := b) HBb.out).trans hk4)
      clear hW4 hb4 hk4 HN e0 e1 e2 e3
      go_wp2
      go_roundw
      case rel =>
        refine ⟨k + 1, by go_num, by omega, Lib.hid ?_, Lib.hid (HBq.out.trans HB4.out), Lib.hid (HKq.out.trans HK4.out)⟩
        rw [HS.out, ← List.append_assoc, HL2.out]
        have := HW4.out
        skip
        exact this
      case measure => simp [intOf]; omega
    · have hlt' : decide ((k : Int) < (z1.size : Int)) = false := decide_eq_false (by omega)
      have hkz : k = z1.size := by omega
      rw [hkz, List.take_of_length_le (by simp)] at HWq hlr2
      obtain ⟨l3, hl3⟩ : ∃ y, l1 ++ z1.toList.flatMap itL = y := ⟨_, rfl⟩
      rw [hl3] at HWq hlr2
      have HL3 := Lib.hid hl3
      have HG3 := Lib.hid (keepRow HKq.out (by omega) (by decide) HG2.out)
      have HBA := Lib.hid (HBA.out.trans HBq.out)
      have HKA := Lib.hid (HKA.out.trans HKq.out)
      have hbq := HWq.out.lt
      have q1 := (cell_of_row wr w.heap.size 1 _ _ (0, 0) HG3.out).trans rfl
      have HN := Lib.hid (wnum (w := wr.alloc (.cells #[.int .i64 z2.size] 3)) (g := wr.heap.size) (c := 1) [(z2.size : Int)] (HWq.out.step (bel1 wr _)) (heap_alloc_new wr _) (by intro x hx; simp only [List.mem_cons, List.not_mem_nil, or_false] at hx; subst hx; unfold may6; omega) (by simp) (by omega) (by omega))
      simp only [List.length_cons, List.length_nil, Nat.zero_add, List.map_cons, List.map_nil, Int.toNat_natCast, List.flatMap_cons, List.flatMap_nil, List.append_nil] at HN
      clear hl3 hkz hk HBq HKq hbd hkc
      go_wp2_with fail
      refine HN.out.mono ?_
      rintro _ w3 ⟨rfl, hW2, hb2, hk2⟩
      have HG4 := Lib.hid (keepRow ((KeepT.of_below (b := b) (bel1 wr (.cells #[.int .i64 z2.size] 3))).trans hk2) (by omega) (by decide) HG3.out)
      have HBA := Lib.hid (HBA.out.trans (((bel1 wr (.cells #[.int .i64 z2.size] 3)).mono HWq.out.b.size).trans hb2))
      have HKA := Lib.hid (HKA.out.trans ((KeepT.of_below (b := b) (bel1 wr (.cells #[.int .i64 z2.size] 3))).trans hk2))
      have HWr := Lib.hid hW2
      have hnb := numB_len z2.size (by omega)
      obtain ⟨l4, hl4⟩ : ∃ y, l3 ++ numB z2.size = y := ⟨_, rfl⟩
      have hlr4 : l4.length ≤ 60000010 := by rw [← hl4, List.length_append]; omega
      rw [hl4] at HWr
      have HL4 := Lib.hid hl4
      have q1 := (cell_of_row w3 w.heap.size 1 _ _ (0, 0) HG4.out).trans rfl
      clear hW2 hb2 hk2 HN hl4 hnb
      go_wp2
      clear q1
      go_loopw [42] (fun i wq => ∃ k : Nat, i = .int .i64 k ∧ k ≤ z2.size ∧ Hid (WW w0 b (l4 ++ (z2.toList.take k).flatMap seL) wq) ∧ Hid (Below w0.heap.size w3 wq) ∧ Hid (KeepT b w3 wq)) (fun i _ => z2.size - (intOf i).toNat)
      case atStart => exact ⟨0, rfl, Nat.zero_le _, Lib.hid (by simpa using HWr.out), Lib.hid (Below.refl _ _), Lib.hid (KeepT.refl _ _)⟩
      case round =>
        obtain ⟨k, rfl, hk, HWq, HBq, HKq⟩ := hrel
        have hbd := flat_bd (z := z2) (f := seL) (C := 500) (fun x hx => seL_len (HM.out.si x hx)) k hk
        have hkc : k * 500 ≤ 20 * 500 := Nat.mul_le_mul_right _ (by omega)
        have hlr2 : (l4 ++ (z2.toList.take k).flatMap seL).length ≤ 70000000 := by
          rw [List.length_append]; omega
        by_cases hlt : k < z2.size
        · have kz : (k : Int) < (z2.size : Int) := by omega
          have HS : Hid ((z2.toList.take (k + 1)).flatMap seL = (z2.toList.take k).flatMap seL ++ seL z2[k]!) := take_flat _ _ hlt
          obtain ⟨b2, off, rfl, hb2, ff⟩ := (HR2.out.below HWq.out.b).mono HWq.out.b.size |>.at_ (i := k) hlt
          have HE := Lib.hid (HM.out.si z2[k]! (by rw [getElem!_pos z2 k hlt]; simp))
          obtain ⟨x, hx⟩ : ∃ x, z2[k]! = x := ⟨_, rfl⟩
          rw [hx] at ff HS HE
          have e0 := ff 0 (by omega)
          have e1 := ff 1 (by omega)
          have e2 := ff 2 (by omega)
          clear hx ff hbd hkc
          simp only [Nat.add_zero, encSS, List.getElem!_cons_zero, List.getElem!_cons_succ] at e0 e1 e2
          have hbr := HWq.out.lt
          obtain ⟨l2, hl2⟩ : ∃ y, l4 ++ (z2.toList.take k).flatMap seL = y := ⟨_, rfl⟩
          rw [hl2] at HWq hlr2
          have HL2 := Lib.hid hl2
          clear hl2
          have HBX : Hid (((wr.alloc (.cells #[.int .i64 x.cl, .int .i64 x.seq, .string x.rep] 86)).alloc (.cells #[.int .i64 x.cl, .int .i64 x.seq] 3)).heap[wr.heap.size]? = some (.cells #[.int .i64 x.cl, .int .i64 x.seq, .string x.rep] 86 (0, 0))) := blk_alloc (heap_alloc_new wr _)
          have HBb : Hid (Below wr.heap.size wr ((wr.alloc (.cells #[.int .i64 x.cl, .int .i64 x.seq, .string x.rep] 86)).alloc (.cells #[.int .i64 x.cl, .int .i64 x.seq] 3))) := belAlloc (bel1 wr _) _
          have HN := Lib.hid (wnum (w := (wr.alloc (.cells #[.int .i64 x.cl, .int .i64 x.seq, .string x.rep] 86)).alloc (.cells #[.int .i64 x.cl, .int .i64 x.seq] 3)) (g := wr.heap.size + 1) (c := 2) [x.cl, x.seq] (HWq.out.step HBb.out) (heap_alloc2_new wr _ _) HE.out.1 (by simp) (by omega) (by omega))
          go_wp2_with fail
          refine HN.out.mono ?_
          rintro _ w4 ⟨rfl, hW4, hb4, hk4⟩
          have HX4 := Lib.hid (keepRow hk4 (by omega) (by decide) HBX.out)
          have HW4 := Lib.hid hW4
          have HB4 : Hid (Below w0.heap.size wr w4) := Lib.hid ((HBb.out.mono HWq.out.b.size).trans hb4)
          have HK4 := Lib.hid ((KeepT.of_below (b := b) HBb.out).trans hk4)
          clear hW4 hb4 hk4 HN e0 e1 e2
          have hnl := nums_len HE.out.1
          have hn2 : (seN x).length = 2 := rfl
          have c8 := (cell_of_row w4 wr.heap.size 2 _ _ (0, 0) HX4.out).trans rfl
          have HT := Lib.hid (wtext x.rep HW4.out (by have := HE.out.2; omega) (by rw [List.length_append]; unfold seN at hnl hn2; omega))
          clear hnl hn2
          go_wp2_with fail
          refine HT.out.mono ?_
          rintro _ w5 ⟨rfl, hW5, hb5, hk5⟩
          have HW4 := Lib.hid hW5
          have HB4 := Lib.hid (HB4.out.trans hb5)
          have HK4 := Lib.hid (HK4.out.trans hk5)
          clear hW5 hb5 hk5 HT c8
          go_wp2
          go_roundw
          case rel =>
            refine ⟨k + 1, by go_num, by omega, Lib.hid ?_, Lib.hid (HBq.out.trans HB4.out), Lib.hid (HKq.out.trans HK4.out)⟩
            rw [HS.out, ← List.append_assoc, HL2.out]
            have := HW4.out
            rw [List.append_assoc] at this
            exact this
          case measure => simp [intOf]; omega
        · have hlt' : decide ((k : Int) < (z2.size : Int)) = false := decide_eq_false (by omega)
          have hkz : k = z2.size := by omega
          rw [hkz, List.take_of_length_le (by simp)] at HWq hlr2
          clear hbd hkc
          go_wp2
          go_end0
          refine ⟨rfl, ?_, HBA.out.trans HBq.out, HKA.out.trans HKq.out⟩
          have := HWq.out
          rw [← HL4.out, ← HL3.out, ← HL1.out] at this
          unfold stoL
          simpa [List.append_assoc] using this
end Go.Proofs.YtnmojicfmcbgmaaGreatDoor
namespace Go.Proofs.YtnmojicfmcbgmaaGreatDoor
open Go.RowKit Go.Sort Go.Lib Nb
set_option maxRecDepth 100000
def n10 (r : RP) : List Int := [r.n, r.f, r.self, r.clock, r.seq, r.floor, r.ticks, r.lt, r.lid, r.count]
/-- What may be laid of a replica, number by number. -/
structure LayB (r : RP) : Prop where
  n : ∀ x ∈ n10 r, may6 x
  e : ∀ x ∈ r.e.z.toList, EntB x
  es : r.e.z.size ≤ 100
  o : (∀ x ∈ r.o.z.toList, may6 x.1 ∧ may6 x.2) ∧ r.o.z.size ≤ 1000
  h : HearB r
  s : StoB r.it.z r.ss.z
theorem entB_of {e : EN} (h : chkEn e = true) : EntB e := by
  unfold chkEn at h
  simp only [Bool.and_eq_true, decide_eq_true_eq] at h
  obtain ⟨⟨⟨⟨h1, h2⟩, _⟩, h4, h5⟩, _⟩ := h
  unfold headP at h1
  unfold numsP at h2
  refine ⟨fun x hx => ?_, h1.2.2.2.2.2.2.2, fun a ha => ?_, by omega⟩
  · simp only [List.mem_cons, List.not_mem_nil, or_false] at hx
    unfold may6
    rcases hx with rfl | rfl | rfl | rfl | rfl | rfl | rfl | rfl <;> omega
  · obtain ⟨i, hi, rfl⟩ := mem_at ha
    unfold goodK at h4
    rw [List.all_eq_true] at h4
    have := h4 i (List.mem_range.2 hi)
    rw [Bool.and_eq_true] at this
    have := this.1
    unfold ackB at this
    rw [decide_eq_true_eq] at this
    unfold may6
    omega
theorem lay_of {r : RP} (h : chkW r = true) (hw : wideB r = false) : LayB r := by
  unfold chkW at h
  rw [Bool.and_eq_true, Bool.and_eq_true] at h
  obtain ⟨hc, hi, hs⟩ := h
  unfold wideB at hw
  simp only [Bool.or_eq_false_iff, decide_eq_false_iff_not, anyN_false] at hw
  obtain ⟨w1, w2, w3⟩ := hw
  have hn := chkR_n hc
  have hkn := chkR_k hc
  have hdn := chkR_d hc
  obtain ⟨clk1, _, clk3, _⟩ := clk_list.1 (chkR_clk hc)
  have hm := rows_iff.1 (chkR_rows hc)
  obtain ⟨⟨a1, a2, a3, a4, a5, a6, a7, a8, a9, a10, a11, a12, a13, a14, a15⟩, hB, hC⟩ := (chkR_iff r).1 hc
  have hsz := (fastN_0 _ _).1 a1
  unfold sizeP at hsz
  have hfr := (marksE_iff.1 a14).2
  have ht : chkT r.e.z = true := by
    unfold tabE at a11
    cases hx : chkT r.e.z
    · rw [hx] at a11; cases a11
    · rfl
  have ht2 := chkT_iff.1 ht
  have hl : may6 r.lt ∧ may6 r.lid := by
    have hf : finB r = true := by
      have := hc
      unfold chkR at this
      rw [Bool.and_eq_true] at this
      exact this.2
    unfold finB at hf
    rw [Bool.and_eq_true] at hf
    have := hf.2
    unfold lastB at this
    rw [decide_eq_true_eq] at this
    unfold may6
    omega
  have hi2 := itsB_iff.1 hi
  have hs2 := sesB_iff.1 hs
  refine ⟨fun x hx => ?_, fun x hx => ?_, by have := ht2.1; omega, ⟨fun x hx => ?_, by omega⟩, ⟨by omega, fun x hx => ?_, by have := hm.2.1; omega, fun x hx => ?_, ⟨hfr.2, by have := hfr.1; omega⟩, by omega, fun x hx => ?_⟩, ⟨hi2.1, hs2.1, fun x hx => ?_, fun x hx => ?_⟩⟩
  · unfold n10 at hx
    unfold may6 at hl ⊢
    simp only [List.mem_cons, List.not_mem_nil, or_false] at hx
    rcases hx with rfl | rfl | rfl | rfl | rfl | rfl | rfl | rfl | rfl | rfl <;> omega
  · obtain ⟨i, h1, rfl⟩ := mem_at hx
    have := ht2.2 i h1
    unfold atT at this
    rw [Bool.and_eq_true] at this
    exact entB_of this.1
  · obtain ⟨p1, p2, p3⟩ := clk3 x hx
    exact ⟨⟨by omega, by omega⟩, okI_may p3⟩
  · obtain ⟨i, h1, rfl⟩ := mem_at hx
    have h2 := w2 i h1
    have hk := chk_iff.1 (chkR_kk hc i h1)
    have b0 : 0 ≤ r.k.z[i]!.base := hk.b0
    refine ⟨⟨b0, hk.b1⟩, ⟨set_may hk.rs, by omega⟩, ⟨fun y hy => ?_, by omega⟩⟩
    obtain ⟨a, b, c⟩ := ((riseL_iff _ _ _).1 hk.up).2 y hy
    exact ⟨⟨by have : r.k.z[i]!.base < y.1 := a; omega, b⟩, okI_may c⟩
  · obtain ⟨i, h1, rfl⟩ := mem_at hx
    have := marksE_iff.1 (hm.2.2 i h1)
    exact ⟨this.2.2, by have := this.2.1; omega⟩
  · obtain ⟨i, h1, rfl⟩ := mem_at hx
    have := w3 i h1
    exact ⟨set_may (hB.2 i (by omega)).2.1, by omega⟩
  · obtain ⟨i, h1, rfl⟩ := mem_at hx
    have := (hi2.2 i h1).1
    unfold itB at this
    rw [decide_eq_true_eq] at this
    intro y hy
    unfold itN at hy
    simp only [List.mem_cons, List.not_mem_nil, or_false] at hy
    unfold may6
    rcases hy with rfl | rfl | rfl | rfl <;> omega
  · obtain ⟨i, h1, rfl⟩ := mem_at hx
    have := (hs2.2 i h1).1
    unfold seB at this
    rw [decide_eq_true_eq] at this
    refine ⟨fun y hy => ?_, this.2.2.2.2⟩
    unfold seN at hy
    simp only [List.mem_cons, List.not_mem_nil, or_false] at hy
    unfold may6
    rcases hy with rfl | rfl <;> omega
/-- A replica's bytes. -/
def bytesR (r : RP) : List UInt8 := ((n10 r).map Int.toNat).flatMap numB ++ (enC.list 1000 (by decide)).b (r.e.z.toList.map entM) ++ rowB (pairM r.o.z).flatten ++ hearL r ++ stoL r.it.z r.ss.z
theorem bytesR_eq (r : RP) : bytesR r = repC.b (repM r) := by
  have e1 : ((n10 r).map Int.toNat).flatMap numB = numB r.n.toNat ++ (head9 r).flatMap numB := rfl
  have e2 : r.k.z.toList.flatMap knB = (r.k.z.toList.map knM).flatMap knC.b := by rw [List.flatMap_map]; rfl
  have e3 : r.m.z.toList.flatMap (fun x => rowB (intM x.z).flatten) = (r.m.z.toList.map (fun x => intM x.z)).flatMap (fun gs => rowB gs.flatten) := by rw [List.flatMap_map]
  have e4 : r.d.z.toList.flatMap (fun x => rowB (pairM x.z).flatten) = (r.d.z.toList.map (fun x => pairM x.z)).flatMap (fun gs => rowB gs.flatten) := by rw [List.flatMap_map]
  have e5 : numB r.it.z.size ++ r.it.z.toList.flatMap itL = numB (r.it.z.toList.map itM).length ++ (r.it.z.toList.map itM).flatMap (nC.vec 4).b := by rw [List.flatMap_map, List.length_map, Array.length_toList]; rfl
  have e6 : numB r.ss.z.size ++ r.ss.z.toList.flatMap seL = numB (r.ss.z.toList.map seM).length ++ (r.ss.z.toList.map seM).flatMap seC.b := by rw [List.flatMap_map, List.length_map, Array.length_toList]; rfl
  unfold bytesR hearL stoL
  rw [e1, e2, e3, e4, e5, e6]
  show _ = (numB r.n.toNat ++ (head9 r).flatMap numB) ++ ((enC.list 1000 (by decide)).b (r.e.z.toList.map entM) ++ (rowB (pairM r.o.z).flatten ++ ((r.k.z.toList.map knM).flatMap knC.b ++ ((r.m.z.toList.map (fun x => intM x.z)).flatMap (fun gs => rowB gs.flatten) ++ (rowB (intM r.fr.z).flatten ++ ((r.d.z.toList.map (fun x => pairM x.z)).flatMap (fun gs => rowB gs.flatten) ++ ((numB (r.it.z.toList.map itM).length ++ (r.it.z.toList.map itM).flatMap (nC.vec 4).b) ++ (numB (r.ss.z.toList.map seM).length ++ (r.ss.z.toList.map seM).flatMap seC.b))))))))
  simp only [List.append_assoc]
/-- What laying a replica comes to. -/
def putE (r : RP) : Int := if chkW r = true then (if wideB r = true then 3 else if 18000 < (bytesR r).length then 3 else 0) else 2
end Go.Proofs.YtnmojicfmcbgmaaGreatDoor
namespace Go.Proofs.YtnmojicfmcbgmaaGreatDoor
open Go.RowKit Go.Sort Nb
/-! what may be hangs on the pieces alone -/
theorem all_range {n : Nat} {f g : Nat → Bool} (h : ∀ i, i < n → f i = g i) : (List.range n).all f = (List.range n).all g := by
  rw [Bool.eq_iff_iff, List.all_eq_true, List.all_eq_true]
  exact ⟨fun k i hi => by rw [← h i (List.mem_range.1 hi)]; exact k i hi, fun k i hi => by rw [h i (List.mem_range.1 hi)]; exact k i hi⟩
theorem any_range {n : Nat} {f g : Nat → Bool} (h : ∀ i, i < n → f i = g i) : anyN n f = anyN n g := by
  unfold anyN
  rw [Bool.eq_iff_iff, List.any_eq_true, List.any_eq_true]
  exact ⟨fun ⟨i, hi, k⟩ => ⟨i, hi, by rw [← h i (List.mem_range.1 hi)]; exact k⟩, fun ⟨i, hi, k⟩ => ⟨i, hi, by rw [h i (List.mem_range.1 hi)]; exact k⟩⟩
theorem allN_iff {n m : Nat} {p : Nat → Bool} : allN n m p = true ↔ n = m ∧ ∀ j, j < n → p j = true := by
  unfold allN
  rw [Bool.and_eq_true, decide_eq_true_eq, List.all_eq_true]
  exact ⟨fun ⟨h, g⟩ => ⟨h, fun j hj => g j (List.mem_range.2 hj)⟩, fun ⟨h, g⟩ => ⟨h, fun j hj => g j (List.mem_range.1 hj)⟩⟩
theorem chkEn_same {x y : EN} (h : sameP x y) : chkEn x = chkEn y := by
  obtain ⟨h1, h2, h3, h4, h5, h6, h7, h8, h9, h10⟩ := h
  unfold chkEn headP numsP toldP
  simp only [h1, h2, h3, h4, h5, h6, h7, h8, h9, h10]
theorem chkT_same {d1 d2 : Array EN} (h : sameT d1 d2 = true) : chkT d1 = chkT d2 := by
  unfold sameT at h
  rw [decide_eq_true_eq] at h
  obtain ⟨h1, h2⟩ := h
  unfold chkT
  rw [← h1]
  congr 1
  refine all_range fun i hi => ?_
  unfold atT
  rw [chkEn_same (h2 i hi), (h2 i hi).1, (h2 (i - 1) (by omega)).1]
theorem chkR_same {a b : RP} (h : sameRP a b = true) : chkR a = chkR b := by
  unfold sameRP at h
  simp only [Bool.and_eq_true, decide_eq_true_eq] at h
  obtain ⟨⟨n1, n2, n3, n4, n5, n6, n7, n8, n9, n10⟩, ⟨⟨⟨⟨⟨ht, ho⟩, hk⟩, hm⟩, hfr⟩, hd⟩⟩ := h
  unfold sameKs at hk
  unfold sameM at hm
  unfold sameD at hd
  rw [allN_iff] at hk hm hd
  have ht' := ht
  unfold sameT at ht'
  rw [decide_eq_true_eq] at ht'
  have e1 : countsB a = countsB b := by
    unfold countsB
    rw [n1, n2, n3, n5, n7, n10, n4, n6, ho]
  have e2 : cmdsB a = cmdsB b := by
    unfold cmdsB
    rw [chkT_same ht, ht'.1]
    congr 2
    refine any_range fun i hi => ?_
    unfold farB
    rw [n1, (ht'.2 i (by omega)).1]
  have e3 : hearsB a = hearsB b := by
    unfold hearsB
    rw [n1, hk.1, hfr]
    congr 2
    · congr 2
      refine any_range fun i hi => ?_
      rw [sameK_iff.1 (hk.2 i (by omega))]
    · unfold rowsB
      rw [hm.1]
      congr 1
      refine all_range fun i hi => ?_
      rw [of_decide_eq_true (hm.2 i (by omega))]
  have e4 : finB a = finB b := by
    unfold finB
    rw [n1, hd.1, n8, n9]
    congr 3
    refine any_range fun i hi => ?_
    rw [of_decide_eq_true (hd.2 i (by omega))]
  unfold chkR
  rw [e1, e2, e3, e4]
theorem chkW_same {a b : RP} (h : sameW a b = true) : chkW a = chkW b := by
  unfold sameW at h
  simp only [Bool.and_eq_true, decide_eq_true_eq] at h
  unfold chkW
  rw [chkR_same h.1, h.2.1, h.2.2]
/-! what is read is small -/
theorem rowC_few {n : Nat} {hn : 0 < n} {gs : GS} (h : (rowC n hn).ok gs) : gs.length * n ≤ 1000 := by
  have := flat_len_grp n gs (fun g hg => (h.1 g hg).1)
  have := h.2
  omega
theorem pairM_few {d : Array (Int × Int)} (h : (rowC 2 (by decide)).ok (pairM d)) : d.size ≤ 500 := by
  have := rowC_few h
  unfold pairM at this
  simp at this
  omega
theorem intM_few {d : Array Int} (h : (rowC 1 (by decide)).ok (intM d)) : d.size ≤ 1000 := by
  have := rowC_few h
  unfold intM at this
  simp at this
  omega
theorem map_at {α β : Type} [Inhabited α] {f : α → β} {P : β → Prop} {d : Array α} (h : ∀ x ∈ d.toList.map f, P x) : ∀ i, i < d.size → P (f d[i]!) := fun i hi => h _ (List.mem_map.2 ⟨d[i]!, by rw [getElem!_pos d i hi]; simp, rfl⟩)
/-- What a replica that was read is at most. -/
structure FewI (r : RP) : Prop where
  c : FewC r
  it : r.it.z.size ≤ 1000
  ss : r.ss.z.size ≤ 1000
  w : wideB r = false
  n : 0 ≤ r.n ∧ r.n ≤ 9
theorem fewI_of {r : RP} (h : repC.ok (repM r)) (hn : NN r) : FewI r := by
  obtain ⟨⟨h0, _⟩, he, ho, hk, hm, hf, hd, hi, hs⟩ := h
  have n9 : r.n.toNat ≤ 9 := h0
  have e1 : (r.e.z.toList.map entM).length ≤ 1000 := he.1
  have k1 : (r.k.z.toList.map knM).length = r.n.toNat := hk.1
  have m1 : (r.m.z.toList.map fun x => intM x.z).length = r.n.toNat := hm.1
  have d1 : (r.d.z.toList.map fun x => pairM x.z).length = r.n.toNat := hd.1
  have i1 : (r.it.z.toList.map itM).length ≤ 1000 := hi.1
  have s1 : (r.ss.z.toList.map seM).length ≤ 1000 := hs.1
  simp only [List.length_map, Array.length_toList] at e1 k1 m1 d1 i1 s1
  have e2 := map_at (fun x hx => he.2.2 x hx)
  have k2 := map_at (fun x hx => hk.2 x hx)
  have m2 := map_at (fun x hx => hm.2 x hx)
  have d2 := map_at (fun x hx => hd.2 x hx)
  have k3 : ∀ i, i < r.k.z.size → r.k.z[i]!.r.z.size ≤ 500 ∧ r.k.z[i]!.a.z.size ≤ 500 := fun i hi => ⟨pairM_few (k2 i hi).2.1, pairM_few (k2 i hi).2.2⟩
  have d3 : ∀ i, i < r.d.z.size → r.d.z[i]!.z.size ≤ 500 := fun i hi => pairM_few (d2 i hi)
  have o3 : r.o.z.size ≤ 500 := pairM_few ho
  refine ⟨⟨e1, fun i hi => ?_, by omega, by omega, by omega, fun i hi => intM_few (m2 i hi), intM_few hf, by omega, fun i hi => by have := d3 i hi; omega, fun i hi => by have := k3 i hi; omega⟩, i1, s1, ?_, ⟨hn.h.1, by omega⟩⟩
  · obtain ⟨_, a2, a3⟩ := e2 i hi
    have b2 : (r.e.z[i]!).pay.data.toList.length ≤ 300 := a2
    have b3 : ((r.e.z[i]!).z.toList.map ackN).length * 6 ≤ 1000 := rowC_few a3
    simp at b2 b3
    have b2' : r.e.z[i]!.pay.size ≤ 300 := b2
    omega
  · unfold wideB
    simp only [Bool.or_eq_false_iff, decide_eq_false_iff_not, anyN_false]
    exact ⟨by omega, fun i hi => by have := k3 i hi; omega, fun i hi => by have := d3 i hi; omega⟩
/-! what Take comes to -/
def rd0 (s : List UInt8) : IS × RepT := repC.rd s ⟨⟨0, 0⟩, false⟩
/-- The fault of bytes. -/
def tkE (s : List UInt8) : Nat := if 18000 < s.length then 3 else if (endR s (rd0 s).1.r).e ≠ 0 then (endR s (rd0 s).1.r).e else if (rd0 s).1.odd = true then 5 else 0
/-- What Take tells of bytes. -/
def TkO (s : List UInt8) (r : RP) (c : Nat) : Prop :=
  (tkE s ≠ 0 ∧ c = tkE s ∧ r = default) ∨ (tkE s = 0 ∧ c = 2 ∧ r = default ∧ ∃ x, repM x = (rd0 s).2 ∧ NN x ∧ chkW x = false) ∨ (tkE s = 0 ∧ c = 0 ∧ repM r = (rd0 s).2 ∧ NN r ∧ chkW r = true)
theorem sameW_self (r : RP) : sameW r r = true := by
  unfold sameW
  rw [sameRP_self]
  simp
theorem TkO.uniq {s : List UInt8} {a b : RP} {c d : Nat} (h : TkO s a c) (g : TkO s b d) : c = d ∧ sameW a b = true := by
  rcases h with ⟨h1, rfl, rfl⟩ | ⟨h1, rfl, rfl, x, hx, nx, cx⟩ | ⟨h1, rfl, hx, nx, cx⟩
  · rcases g with ⟨_, rfl, rfl⟩ | ⟨g1, _⟩ | ⟨g1, _⟩
    · exact ⟨rfl, sameW_self _⟩
    · exact absurd g1 h1
    · exact absurd g1 h1
  · rcases g with ⟨g1, _⟩ | ⟨_, rfl, rfl, y, hy, ny, cy⟩ | ⟨_, rfl, hy, ny, cy⟩
    · exact absurd h1 g1
    · exact ⟨rfl, sameW_self _⟩
    · have := chkW_same (same_of_M (hx.trans hy.symm) nx ny)
      rw [cx, cy] at this
      cases this
  · rcases g with ⟨g1, _⟩ | ⟨_, rfl, rfl, y, hy, ny, cy⟩ | ⟨_, rfl, hy, ny, cy⟩
    · exact absurd h1 g1
    · have := chkW_same (same_of_M (hx.trans hy.symm) nx ny)
      rw [cx, cy] at this
      cases this
    · exact ⟨rfl, same_of_M (hx.trans hy.symm) nx ny⟩
theorem endR_e (s : List UInt8) (r : RS) : (endR s r).e = 0 ↔ r.e = 0 ∧ s.length ≤ r.pos := by
  unfold endR
  split
  · rename_i h
    constructor
    · intro h2; cases h2
    · rintro ⟨_, h2⟩; omega
  · rename_i h
    constructor
    · intro h2; exact ⟨h2, by by_cases h3 : r.pos < s.length; exact absurd ⟨h2, h3⟩ h; omega⟩
    · rintro ⟨h2, _⟩; exact h2
/-- Bytes without a fault are their pieces' bytes. -/
theorem tk_back {s : List UInt8} (h : tkE s = 0) : s.length ≤ 18000 ∧ s = repC.b (rd0 s).2 ∧ repC.ok (rd0 s).2 ∧ (rd0 s).1 = ⟨⟨s.length, 0⟩, false⟩ := by
  unfold tkE at h
  split at h
  · cases h
  · rename_i hl
    split at h
    · rename_i h2; exact absurd h h2
    · rename_i h2
      split at h
      · cases h
      · rename_i h3
        have h2' : (endR s (rd0 s).1.r).e = 0 := by omega
        obtain ⟨e0, hp⟩ := (endR_e _ _).1 h2'
        have h3' : (rd0 s).1.odd = false := by simpa using h3
        obtain ⟨_, _, b3, b4, b5⟩ := repC.back s ⟨⟨0, 0⟩, false⟩ e0 h3'
        have hp2 : (rd0 s).1.r.pos ≤ s.length := b5 (Nat.zero_le _)
        have hp3 : (rd0 s).1.r.pos = s.length := by omega
        refine ⟨by omega, ?_, b4, ?_⟩
        · have b3' : s.drop 0 = repC.b (rd0 s).2 ++ s.drop (rd0 s).1.r.pos := b3
          rw [hp3, List.drop_length, List.append_nil, List.drop_zero] at b3'
          exact b3'
        · rcases hz : rd0 s with ⟨⟨⟨p, e⟩, o⟩, q⟩
          rw [hz] at e0 h3' hp3
          simp only at e0 h3' hp3
          rw [e0, h3', hp3]
/-- Bytes of pieces, with something behind. -/
theorem tk_laid {s t : List UInt8} {x : RepT} (hs : s = repC.b x ++ t) (hx : repC.ok x) : rd0 s = (⟨⟨(repC.b x).length, 0⟩, false⟩, x) := by
  have := repC.laid s ⟨⟨0, 0⟩, false⟩ t x rfl (by rw [List.drop_zero]; exact hs) hx
  rw [Nat.zero_add] at this
  exact this
theorem tk_all {x : RepT} (hl : (repC.b x).length ≤ 18000) (hx : repC.ok x) : tkE (repC.b x) = 0 := by
  have := tk_laid (s := repC.b x) (t := []) (by simp) hx
  unfold tkE
  rw [if_neg (by omega), this, if_neg, if_neg (by simp)]
  show ¬ (endR (repC.b x) ⟨(repC.b x).length, 0⟩).e ≠ 0
  have := (endR_e (repC.b x) ⟨(repC.b x).length, 0⟩).2 ⟨rfl, Nat.le_refl _⟩
  omega
theorem tk_rest {t : List UInt8} {x : RepT} (ht : t ≠ []) (hx : repC.ok x) : tkE (repC.b x ++ t) ≠ 0 := by
  intro h
  obtain ⟨_, _, _, h4⟩ := tk_back h
  rw [tk_laid rfl hx] at h4
  simp only [IS.mk.injEq, RS.mk.injEq, List.length_append, and_true] at h4
  have : 0 < t.length := List.length_pos_iff.2 ht
  omega
/-- Cut by its last byte it is none. -/
theorem tk_cut {s : List UInt8} (h : tkE s = 0) (hs : s ≠ []) : tkE (s.take (s.length - 1)) ≠ 0 := by
  intro g
  obtain ⟨_, _, _, a4⟩ := tk_back h
  obtain ⟨_, b2, b3, b4⟩ := tk_back g
  have hl : 0 < s.length := List.length_pos_iff.2 hs
  have e : s = s.take (s.length - 1) ++ s.drop (s.length - 1) := (List.take_append_drop _ _).symm
  have := tk_laid (s := s) (t := s.drop (s.length - 1)) (x := (rd0 (s.take (s.length - 1))).2) (by rw [← b2]; exact e) b3
  rw [this] at a4
  simp only [IS.mk.injEq, RS.mk.injEq, and_true] at a4
  rw [← b2] at a4
  have : (s.take (s.length - 1)).length = s.length - 1 := by rw [List.length_take]; omega
  omega
end Go.Proofs.YtnmojicfmcbgmaaGreatDoor
