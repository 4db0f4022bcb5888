/- text.Reader: pieces read, or a fault noted. text.Reader: rows, the end, the fault. Flags, laid and read. The image's reader in memory: what stays as it was when it reads. The document's readers (rubatoref06), as plain data. The document's readers: texts, rows, the end. The document's writers (rubatoref06), as plain data, as long as nothing is at fault. -/
import Derived.Deep.RegionHeld3
import Derived.Deep.DrawnRows
import Derived.IntWalk
import Derived.Test.YtnmojicfmcbgmaaGreatDoorQOwnK
import Derived.Test.YtnmojicfmcbgmaaGreatDoorQErrA
namespace Go.Proofs.YtnmojicfmcbgmaaGreatDoor
open Go.RowKit Nb

/-- A reader at block b: its bytes, its place, and its fault. -/
def RdrE (b : Nat) (s : ByteArray) (r : RS) (ev : Value) (w : World) : Prop := r.pos ≤ s.size ∧ w.heap[b]? = some (.cells #[.string s, .int .i64 (r.pos : Int), ev, .bool true] 149 (0, 0)) ∧
  ((r.e = 0 ∧ ev = .nilIface) ∨ (r.e ≠ 0 ∧ ∃ op ops, ops.length ≤ 5 ∧ Chain w (op :: ops) (r.e : Int) ev))
def Rdr (b : Nat) (s : ByteArray) (r : RS) (w : World) : Prop := ∃ ev, RdrE b s r ev w
theorem RdrE.below {b : Nat} {s : ByteArray} {r : RS} {ev : Value} {w w' : World} (h : RdrE b s r ev w) (hb : Below w.heap.size w w') : RdrE b s r ev w' := by
  obtain ⟨h1, h2, h3⟩ := h
  refine ⟨h1, (hb.block b (lt_of_heap h2)).trans h2, ?_⟩
  rcases h3 with h3 | ⟨h3, op, ops, hl, h4⟩
  · exact Or.inl h3
  · exact Or.inr ⟨h3, op, ops, hl, h4.below hb⟩
theorem Rdr.below {b : Nat} {s : ByteArray} {r : RS} {w w' : World} (h : Rdr b s r w) (hb : Below w.heap.size w w') : Rdr b s r w' := by
  obtain ⟨ev, h⟩ := h
  exact ⟨ev, h.below hb⟩
theorem RdrE.cells {b : Nat} {s : ByteArray} {r : RS} {ev : Value} {w : World} (h : RdrE b s r ev w) : w.cell? ⟨b, 0, none⟩ = some (.string s) ∧ w.cell? ⟨b, 1, none⟩ = some (.int .i64 (r.pos : Int)) ∧ w.cell? ⟨b, 2, none⟩ = some ev ∧ w.cell? ⟨b, 3, none⟩ = some (.bool true) := by
  obtain ⟨h1, h2, h3⟩ := h
  exact ⟨by rw [heap_cell h2]; rfl, by rw [heap_cell h2]; rfl, by rw [heap_cell h2]; rfl, by rw [heap_cell h2]; rfl⟩
theorem Rdr.lt {b : Nat} {s : ByteArray} {r : RS} {w : World} (h : Rdr b s r w) : b < w.heap.size := by obtain ⟨ev, _, h2, _⟩ := h; exact lt_of_heap h2
theorem Rdr.pos_le {b : Nat} {s : ByteArray} {r : RS} {w : World} (h : Rdr b s r w) : r.pos ≤ s.size := by obtain ⟨ev, h1, _⟩ := h; exact h1
theorem grown_of_below_M {w w' : World} (h : Below w.heap.size w w') (row : Option Nat) : w.grownBy w' row := ⟨h.os, h.tape, h.output, h.size, fun i hi _ => h.block i hi⟩
theorem grown_trans {a b c : World} {row : Option Nat} (h : a.grownBy b row) (k : b.grownBy c row) : a.grownBy c row :=
  ⟨k.os.trans h.os, k.tape.trans h.tape, k.output.trans h.output, Nat.le_trans h.size k.size, fun i hi hne => (k.block i (Nat.lt_of_lt_of_le hi h.size) hne).trans (h.block i hi hne)⟩
theorem chain_iface {w : World} {ops : List ByteArray} {c : Int} {v : Value} (h : Chain w ops c v) : ∃ t u, v = .iface t u := by
  cases ops with
  | nil => exact ⟨_, _, h⟩
  | cons op ops => obtain ⟨b, o, u, rfl, _⟩ := h; exact ⟨_, _, rfl⟩
theorem RdrE.notStr {b : Nat} {s : ByteArray} {r : RS} {ev : Value} {w : World} (h : RdrE b s r ev w) : ∀ x, ev ≠ .string x := by
  intro x e
  subst e
  rcases h.2.2 with ⟨_, h⟩ | ⟨_, op, ops, _, h⟩
  · cases h
  · obtain ⟨t, u, h⟩ := chain_iface h; cases h
/-- A chain does not lie in a reader's block. -/
theorem chain_set {w : World} {b : Nat} {s : ByteArray} {n : Int} {ev z : Value} {m : Bool} {T : TypeId} (hb : w.heap[b]? = some (.cells #[.string s, .int .i64 n, ev, .bool m] T (0, 0))) (hev : ∀ x, ev ≠ .string x) {j : Nat} :
    ∀ {ops : List ByteArray} {c : Int} {v : Value}, Chain w ops c v → Chain (w.setCell ⟨b, j, none⟩ z) ops c v
  | [], _, _, h => h
  | _ :: _, _, _, ⟨b', o, u, h1, h2, h3, h4, h5⟩ => by
    have hne : b' ≠ b := by
      rintro rfl
      rw [heap_cell hb] at h2 h3
      match o, h2, h3 with
      | 0, _, h3 =>
        simp at h3
        obtain ⟨t, u', hu⟩ := chain_iface h4
        rw [← h3] at hu
        cases hu
      | 1, h2, _ => simp at h2
      | 2, h2, _ => simp at h2; exact hev _ h2
      | 3, h2, _ => simp at h2
      | o + 4, h2, _ => simp at h2
    have k : ∀ x, (w.setCell ⟨b, j, none⟩ z).cell? ⟨b', x, none⟩ = w.cell? ⟨b', x, none⟩ := fun x => World.cell?_of_block (a := ⟨b', x, none⟩) (Below.heap_setCell w ⟨b, j, none⟩ z b' hne)
    obtain ⟨c5, f5, h5⟩ := h5
    exact ⟨b', o, u, h1, (k o).trans h2, (k (o + 1)).trans h3, chain_set hb hev h4, c5, f5, (Below.heap_setCell w ⟨b, j, none⟩ z b' hne).trans h5⟩
/-- What a reader's method leaves. -/
def RPost (b : Nat) (s : ByteArray) (r : RS) (w w' : World) : Prop := Rdr b s r w' ∧ w.grownBy w' (some b)
theorem RNew_any (s : ByteArray) (w : World) :
    Calls Tryz.prog 38 #[.string s] w fun e w' => e = .returned (.pointer (some ⟨w.heap.size, 0, none⟩)) ∧ w' = w.alloc (.cells #[.string s, .int .i64 0, .nilIface, .bool true] 149) := by
  go_enter Tryz.func38, Tryz.ntmps38
  go_wp2
  go_ret
  exact ⟨rfl, rfl⟩
theorem Rdr.new (s : ByteArray) (w : World) : Rdr w.heap.size s ⟨0, 0⟩ (w.alloc (.cells #[.string s, .int .i64 0, .nilIface, .bool true] 149)) :=
  ⟨.nilIface, Nat.zero_le _, by show (w.heap.push _)[w.heap.size]? = _; simp, Or.inl ⟨rfl, rfl⟩⟩
theorem goes_any (b : Nat) (s : ByteArray) (r : RS) (w : World) (h : Rdr b s r w) (hg : Glob w) :
    Calls Tryz.prog 91 #[.pointer (some ⟨b, 0, none⟩)] w fun e w' => e = .returned (.bool (r.e == 0)) ∧ Below w.heap.size w w' := by
  obtain ⟨ev, h⟩ := h
  obtain ⟨c0, c1, c2, c3⟩ := h.cells
  have hlt : b < w.heap.size := lt_of_heap h.2.1
  rcases h.2.2 with ⟨he, rfl⟩ | ⟨he, op, ops, _, hch⟩
  · have e0 : (r.e == 0) = true := by simp [he]
    rw [e0]
    have HA := Lib.hid (fun t W => AsNil_any t W)
    clear h hg he e0
    go_enter Tryz.func91, Tryz.ntmps91
    go_wp2_with (go_at_call 49; refine (HA.out _ _).mono ?_; rintro e w' ⟨rfl, rfl⟩)
    go_ret
    exact ⟨rfl, bel1 w _⟩
  · have e0 : (r.e == 0) = false := by simp [he]
    rw [e0]
    obtain ⟨b', o', u, rfl, _⟩ := hch
    have HA := Lib.hid (AsF_any ⟨b', o', none⟩ ⟨w.heap.size, 0, none⟩ (.pointer none) (w.alloc (.cells #[.pointer none] 124)) (hg.below (bel1 w _)) (by simp) (by simp))
    clear h hg he e0
    go_enter Tryz.func91, Tryz.ntmps91
    go_wp2_with (go_at_call 49; refine HA.out.mono ?_; rintro e w' ⟨rfl, hh⟩; have HG := Lib.hid hh.grown; clear hh)
    go_ret
    exact ⟨rfl, below_of_grown (bel1 w _) HG.out (Nat.le_refl _)⟩
theorem doneOk_any (b q : Nat) (s piece : ByteArray) (r : RS) (w : World) (h : Rdr b s r w) (he : r.e = 0) (hq : q ≤ s.size) :
    Calls Tryz.prog 92 #[.pointer (some ⟨b, 0, none⟩), .string piece, .int .i64 q, .int .i64 0] w fun e w' => e = .returned (.bool true) ∧ RPost b s ⟨q, 0⟩ w w' := by
  obtain ⟨ev, h⟩ := h
  obtain ⟨c0, c1, c2, c3⟩ := h.cells
  have f1 : w.frozen? ⟨b, 1, none⟩ = false := Lib.frozen_of_heap h.2.1 1
  have HH := Lib.hid h
  have HQ := Lib.hid hq
  have HE := Lib.hid he
  clear h he hq
  go_enter Tryz.func92, Tryz.ntmps92
  go_wp2
  go_ret
  refine ⟨rfl, ⟨.nilIface, HQ.out, ?_, Or.inl ⟨rfl, rfl⟩⟩, grown_setCell_M (World.grownBy.refl w _) rfl _⟩
  rcases HH.out.2.2 with ⟨_, rfl⟩ | ⟨hn, _⟩
  · rw [heap_set HH.out.2.1]; rfl
  · exact absurd HE.out hn
/-- The bytes of 'read'. -/
def readW : ByteArray := ⟨#[114, 101, 97, 100]⟩
theorem doneBad_any (b c : Nat) (q : Int) (s piece : ByteArray) (r : RS) (w : World) (h : Rdr b s r w) (hc : c ≠ 0) :
    Calls Tryz.prog 92 #[.pointer (some ⟨b, 0, none⟩), .string piece, .int .i64 q, .int .i64 c] w fun e w' => e = .returned (.bool false) ∧ RPost b s ⟨r.pos, c⟩ w w' := by
  obtain ⟨ev, h⟩ := h
  have hlt : b < w.heap.size := lt_of_heap h.2.1
  have hc0 : ((c : Int) != 0) = true := by simpa using hc
  have HN := Lib.hid (New_any piece (c : Int) w (by omega))
  have HH := Lib.hid h
  have HC := Lib.hid hc
  clear h hc
  go_enter Tryz.func92, Tryz.ntmps92
  go_wp2_with fail
  refine HN.out.mono ?_
  rintro e w1 ⟨v1, rfl, hch1, hb1⟩
  have HWr := Lib.hid (Wrap_any readW [piece] (c : Int) v1 w1 hch1)
  have HB1 := Lib.hid hb1
  clear hch1 hb1
  go_wp2_with fail
  refine HWr.out.mono ?_
  rintro e w2 ⟨v2, rfl, hch2, hb2⟩
  have hbb := belStep HB1.out hb2
  have hE2 := HH.out.below hbb
  obtain ⟨c0, c1, c2, c3⟩ := hE2.cells
  have f2 : w2.frozen? ⟨b, 2, none⟩ = false := Lib.frozen_of_heap hE2.2.1 2
  have HE2 := Lib.hid hE2
  have HCH := Lib.hid hch2
  have HBB := Lib.hid hbb
  obtain ⟨b2, o2, u2, rfl, _⟩ := hch2
  clear hE2 hbb hb2
  go_wp2
  go_ret
  refine ⟨rfl, ⟨_, HE2.out.1, by rw [heap_set HE2.out.2.1]; rfl, Or.inr ⟨HC.out, readW, [piece], by simp, ?_⟩⟩, grown_setCell_M (grown_of_below_M HBB.out _) rfl _⟩
  exact chain_set HE2.out.2.1 HE2.out.notStr HCH.out
theorem RPost.of_below {b : Nat} {s : ByteArray} {r : RS} {w w' : World} (h : Rdr b s r w) (hb : Below w.heap.size w w') : RPost b s r w w' := ⟨h.below hb, grown_of_below_M hb _⟩
theorem RPost.after {b : Nat} {s : ByteArray} {r : RS} {w w1 w2 : World} (hb : Below w.heap.size w w1) (h : RPost b s r w1 w2) : RPost b s r w w2 := ⟨h.1, grown_trans (grown_of_below_M hb _) h.2⟩
set_option maxRecDepth 100000 in
set_option maxHeartbeats 4000000 in
theorem RNum_any (b : Nat) (s : ByteArray) (r : RS) (most : Nat) (w : World) (h : Rdr b s r w) (hg : Glob w) (hs : s.size ≤ 1000000) :
    Calls Tryz.prog 77 #[.pointer (some ⟨b, 0, none⟩), .int .i64 most] w fun e w' => e = .returned (.int .i64 ((numR s.data.toList most r).2 : Int)) ∧ RPost b s (numR s.data.toList most r).1 w w' := by
  have HG := Lib.hid (goes_any b s r w h hg)
  have H := Lib.hid h
  clear h hg
  by_cases he : r.e = 0
  · have e0 : (r.e == 0) = true := by simp [he]
    rw [e0] at HG
    have HE := Lib.hid he
    have hp := H.out.pos_le
    clear e0 he
    go_enter Tryz.func77, Tryz.ntmps77
    go_wp2_with fail
    refine HG.out.mono ?_
    rintro e w1 ⟨rfl, hb1⟩
    have h1 := H.out.below hb1
    have HH1 := Lib.hid h1
    have HB1 := Lib.hid hb1
    obtain ⟨ev, hE⟩ := h1
    obtain ⟨c0, c1, _, _⟩ := hE.cells
    have hlt : b < w1.heap.size := lt_of_heap hE.2.1
    have q0 : ∀ p : ExtW w1, p.to.cell? ⟨b, 0, none⟩ = some (.string s) := fun p => (p.h.cell (p := ⟨b, 0, none⟩) hlt).trans c0
    have q1 : ∀ p : ExtW w1, p.to.cell? ⟨b, 1, none⟩ = some (.int .i64 (r.pos : Int)) := fun p => (p.h.cell (p := ⟨b, 1, none⟩) hlt).trans c1
    clear hE hb1 c0 c1
    cases hgl : getL (s.data.toList.drop r.pos) with
    | no c =>
      have HGE := Lib.hid (fun W => Get_no s r.pos c W hp hs hgl)
      have hc := getL_no hgl
      have hc0 : ((c : Int) == 0) = false := by simp; omega
      have hc1 : c ≠ 0 := by omega
      have HNR := Lib.hid (numR_no (most := most) HE.out hgl)
      have HC1 := Lib.hid hc1
      clear hgl hc hc1
      go_wp2_with fail
      refine wp_region_ext (by kernel_rfl) (by kernel_rfl) ?_
      repeat (first | go_big_quiet_step ((go_at_call 132; exact Calls.ext_same (HGE.out _))) | quiet_step ((go_at_call 132; exact Calls.ext_same (HGE.out _))))
      refine wpQuiet_nil ?_
      intro w' hw'
      obtain ⟨⟨W, hbW⟩, hw''⟩ := hw'
      have hw3 : w' = W := hw''
      subst hw3
      have HH2 := Lib.hid (HH1.out.below hbW)
      have HB2 := Lib.hid (belStep HB1.out hbW)
      obtain ⟨ev2, hE2⟩ := HH2.out
      obtain ⟨d0, _, _, _⟩ := hE2.cells
      clear hbW hw'' hE2
      have HD := Lib.hid (fun (piece : ByteArray) (z : Int) => doneBad_any b c z s piece r w' HH2.out HC1.out)
      go_wp2_with (go_at_call 92; (with_reducible refine (HD.out _ _).mono ?_); rintro e w' ⟨rfl, hP⟩; have HP := Lib.hid hP; clear hP)
      go_ret
      rw [HNR.out]
      exact ⟨rfl, RPost.after HB2.out HP.out⟩
    | ok n k =>
      have HGE := Lib.hid (fun W => Get_ok s r.pos n k W hp hs hgl)
      obtain ⟨-, -, hk, hn⟩ := getL_ok hgl
      have hk2 : r.pos + k ≤ s.size := by rw [List.length_drop] at hk; simp at hk; omega
      obtain ⟨q, hq⟩ : ∃ q, r.pos + k = q := ⟨_, rfl⟩
      rw [hq] at HGE hk2
      by_cases hbig : most < n
      · have HNR := Lib.hid (numR_big HE.out hgl hbig)
        clear hgl hk hq
        have hb3 : (most : Int) < (n : Int) := by omega
        clear hn
        go_wp2_with fail
        refine wp_region_ext (by kernel_rfl) (by kernel_rfl) ?_
        repeat (first | go_big_quiet_step ((go_at_call 132; exact Calls.ext_same (HGE.out _))) | quiet_step ((go_at_call 132; exact Calls.ext_same (HGE.out _))))
        refine wpQuiet_nil ?_
        intro w' hw'
        obtain ⟨⟨W, hbW⟩, hw''⟩ := hw'
        have hw3 : w' = W := hw''
        subst hw3
        have HH2 := Lib.hid (HH1.out.below hbW)
        have HB2 := Lib.hid (belStep HB1.out hbW)
        obtain ⟨ev2, hE2⟩ := HH2.out
        obtain ⟨d0, _, _, _⟩ := hE2.cells
        clear hbW hw'' hE2
        have HD : Hid (∀ (piece : ByteArray) (z : Int), Calls Tryz.prog 92 #[.pointer (some ⟨b, 0, none⟩), .string piece, .int .i64 z, .int .i64 3] w' fun e w'' => e = .returned (.bool false) ∧ RPost b s ⟨r.pos, 3⟩ w' w'') := fun piece z => doneBad_any b 3 z s piece r w' HH2.out (by omega)
        go_wp2_with (go_at_call 92; (with_reducible refine (HD.out _ _).mono ?_); rintro e w' ⟨rfl, hP⟩; have HP := Lib.hid hP; clear hP)
        go_ret
        rw [HNR.out]
        exact ⟨rfl, RPost.after HB2.out HP.out⟩
      · have HNR := Lib.hid (numR_fit HE.out hgl hbig)
        rw [hq] at HNR
        clear hgl hk hq
        have hb3 : decide ((most : Int) < (n : Int)) = false := by simp; omega
        have hb4 : decide (most < n) = false := by simp; omega
        clear hn hbig
        go_wp2_with fail
        refine wp_region_ext (by kernel_rfl) (by kernel_rfl) ?_
        repeat (first | go_big_quiet_step ((go_at_call 132; exact Calls.ext_same (HGE.out _))) | quiet_step ((go_at_call 132; exact Calls.ext_same (HGE.out _))))
        refine wpQuiet_nil ?_
        intro w' hw'
        obtain ⟨⟨W, hbW⟩, hw''⟩ := hw'
        have hw3 : w' = W := hw''
        subst hw3
        have HH2 := Lib.hid (HH1.out.below hbW)
        have HB2 := Lib.hid (belStep HB1.out hbW)
        obtain ⟨ev2, hE2⟩ := HH2.out
        obtain ⟨d0, _, _, _⟩ := hE2.cells
        clear hbW hw'' hE2
        have HD := Lib.hid (fun (piece : ByteArray) => doneOk_any b q s piece r w' HH2.out HE.out hk2)
        go_wp2_with (go_at_call 92; (with_reducible refine (HD.out _).mono ?_); rintro e w' ⟨rfl, hP⟩; have HP := Lib.hid hP; clear hP)
        go_ret
        rw [HNR.out]
        exact ⟨rfl, RPost.after HB2.out HP.out⟩
  · have e0 : (r.e == 0) = false := by simp [he]
    rw [e0] at HG
    have HNR : Hid (numR s.data.toList most r = (r, 0)) := numR_bad he
    clear e0 he
    go_enter Tryz.func77, Tryz.ntmps77
    go_wp2_with (go_at_call 91; refine HG.out.mono ?_; rintro e w1 ⟨rfl, hb1⟩; have HB1 := Lib.hid hb1; clear hb1)
    go_ret
    rw [HNR.out]
    exact ⟨rfl, RPost.of_below H.out HB1.out⟩
set_option maxRecDepth 100000 in
set_option maxHeartbeats 4000000 in
theorem RText_any (b : Nat) (s : ByteArray) (r : RS) (most : Nat) (w : World) (h : Rdr b s r w) (hg : Glob w) (hs : s.size ≤ 1000000) :
    Calls Tryz.prog 135 #[.pointer (some ⟨b, 0, none⟩), .int .i64 most] w fun e w' => e = .returned (.string ⟨(textR s.data.toList most r).2.toArray⟩) ∧ RPost b s (textR s.data.toList most r).1 w w' := by
  have HG := Lib.hid (goes_any b s r w h hg)
  have H := Lib.hid h
  clear h hg
  by_cases he : r.e = 0
  · have e0 : (r.e == 0) = true := by simp [he]
    rw [e0] at HG
    have HE := Lib.hid he
    have hp := H.out.pos_le
    clear e0 he
    go_enter Tryz.func135, Tryz.ntmps135
    go_wp2_with fail
    refine HG.out.mono ?_
    rintro e w1 ⟨rfl, hb1⟩
    have h1 := H.out.below hb1
    have HH1 := Lib.hid h1
    have HB1 := Lib.hid hb1
    obtain ⟨ev, hE⟩ := h1
    obtain ⟨c0, c1, _, _⟩ := hE.cells
    have hlt : b < w1.heap.size := lt_of_heap hE.2.1
    have q0 : ∀ p : ExtW w1, p.to.cell? ⟨b, 0, none⟩ = some (.string s) := fun p => (p.h.cell (p := ⟨b, 0, none⟩) hlt).trans c0
    have q1 : ∀ p : ExtW w1, p.to.cell? ⟨b, 1, none⟩ = some (.int .i64 (r.pos : Int)) := fun p => (p.h.cell (p := ⟨b, 1, none⟩) hlt).trans c1
    clear hE hb1 c0 c1
    have hsl : s.data.toList.length = s.size := by simp
    cases hgl : getL (s.data.toList.drop r.pos) with
    | no c =>
      have HGE := Lib.hid (fun W => Get_no s r.pos c W hp hs hgl)
      have hc := getL_no hgl
      have hc0 : ((c : Int) != 0) = true := by simp; omega
      have hc1 : c ≠ 0 := by omega
      have HNR := Lib.hid (textR_no (most := most) HE.out hgl)
      have HC1 := Lib.hid hc1
      clear hgl hc hc1 hsl
      go_wp2_with fail
      refine wp_region_ext (by kernel_rfl) (by kernel_rfl) ?_
      repeat (first | go_big_quiet_step ((go_at_call 132; exact Calls.ext_same (HGE.out _))) | quiet_step ((go_at_call 132; exact Calls.ext_same (HGE.out _))))
      refine wpQuiet_nil ?_
      intro w' hw'
      obtain ⟨⟨W, hbW⟩, hw''⟩ := hw'
      have hw3 : w' = W := hw''
      subst hw3
      have HH2 := Lib.hid (HH1.out.below hbW)
      have HB2 := Lib.hid (belStep HB1.out hbW)
      obtain ⟨ev2, hE2⟩ := HH2.out
      obtain ⟨d0, _, _, _⟩ := hE2.cells
      clear hbW hw'' hE2
      have HD := Lib.hid (fun (piece : ByteArray) (z : Int) => doneBad_any b c z s piece r w' HH2.out HC1.out)
      go_wp2_with (go_at_call 92; (with_reducible refine (HD.out _ _).mono ?_); rintro e w' ⟨rfl, hP⟩; have HP := Lib.hid hP; clear hP)
      go_ret
      rw [HNR.out]
      exact ⟨rfl, RPost.after HB2.out HP.out⟩
    | ok n k =>
      have HGE := Lib.hid (fun W => Get_ok s r.pos n k W hp hs hgl)
      obtain ⟨-, -, hk, hn⟩ := getL_ok hgl
      have hk2 : r.pos + k ≤ s.size := by rw [List.length_drop] at hk; simp at hk; omega
      obtain ⟨q, hq⟩ : ∃ q, r.pos + k = q := ⟨_, rfl⟩
      rw [hq] at HGE hk2
      by_cases hbig : most < n
      · have HNR := Lib.hid (textR_big HE.out hgl hbig)
        clear hgl hk hq hsl
        have hb3 : (most : Int) < (n : Int) := by omega
        clear hn
        go_wp2_with fail
        refine wp_region_ext (by kernel_rfl) (by kernel_rfl) ?_
        repeat (first | go_big_quiet_step ((go_at_call 132; exact Calls.ext_same (HGE.out _))) | quiet_step ((go_at_call 132; exact Calls.ext_same (HGE.out _))))
        refine wpQuiet_nil ?_
        intro w' hw'
        obtain ⟨⟨W, hbW⟩, hw''⟩ := hw'
        have hw3 : w' = W := hw''
        subst hw3
        have HH2 := Lib.hid (HH1.out.below hbW)
        have HB2 := Lib.hid (belStep HB1.out hbW)
        obtain ⟨ev2, hE2⟩ := HH2.out
        obtain ⟨d0, _, _, _⟩ := hE2.cells
        clear hbW hw'' hE2
        have HD : Hid (∀ (piece : ByteArray) (z : Int), Calls Tryz.prog 92 #[.pointer (some ⟨b, 0, none⟩), .string piece, .int .i64 z, .int .i64 3] w' fun e w'' => e = .returned (.bool false) ∧ RPost b s ⟨r.pos, 3⟩ w' w'') := fun piece z => doneBad_any b 3 z s piece r w' HH2.out (by omega)
        go_wp2_with (go_at_call 92; (with_reducible refine (HD.out _ _).mono ?_); rintro e w' ⟨rfl, hP⟩; have HP := Lib.hid hP; clear hP)
        go_ret
        rw [HNR.out]
        exact ⟨rfl, RPost.after HB2.out HP.out⟩
      · have hb3 : decide ((most : Int) < (n : Int)) = false := by simp; omega
        have hb4 : decide (most < n) = false := by simp; omega
        by_cases hsh : s.size - q < n
        · have HNR := Lib.hid (textR_short HE.out hgl hbig (by rw [hsl, hq]; exact hsh))
          have hb5 : decide ((s.size : Int) - (q : Int) < (n : Int)) = true := by simp; omega
          clear hgl hk hq hsl hbig hsh
          go_wp2_with fail
          refine wp_region_ext (by kernel_rfl) (by kernel_rfl) ?_
          repeat (first | go_big_quiet_step ((go_at_call 132; exact Calls.ext_same (HGE.out _))) | quiet_step ((go_at_call 132; exact Calls.ext_same (HGE.out _))))
          refine wpQuiet_nil ?_
          intro w' hw'
          obtain ⟨⟨W, hbW⟩, hw''⟩ := hw'
          have hw3 : w' = W := hw''
          subst hw3
          have HH2 := Lib.hid (HH1.out.below hbW)
          have HB2 := Lib.hid (belStep HB1.out hbW)
          obtain ⟨ev2, hE2⟩ := HH2.out
          obtain ⟨d0, _, _, _⟩ := hE2.cells
          clear hbW hw'' hE2
          have HD : Hid (∀ (piece : ByteArray) (z : Int), Calls Tryz.prog 92 #[.pointer (some ⟨b, 0, none⟩), .string piece, .int .i64 z, .int .i64 4] w' fun e w'' => e = .returned (.bool false) ∧ RPost b s ⟨r.pos, 4⟩ w' w'') := fun piece z => doneBad_any b 4 z s piece r w' HH2.out (by omega)
          go_wp2_with (go_at_call 92; (with_reducible refine (HD.out _ _).mono ?_); rintro e w' ⟨rfl, hP⟩; have HP := Lib.hid hP; clear hP)
          go_ret
          rw [HNR.out]
          exact ⟨rfl, RPost.after HB2.out HP.out⟩
        · have HNR := Lib.hid (textR_fit HE.out hgl hbig (by rw [hsl, hq]; exact hsh))
          rw [hq] at HNR
          have hb5 : decide ((s.size : Int) - (q : Int) < (n : Int)) = false := by simp; omega
          have hqn : q + n ≤ s.size := by omega
          have hz1 : (q : Int) + (n : Int) ≤ (s.size : Int) := by omega
          clear hgl hk hq hsl hbig hsh
          go_wp2_with fail
          refine wp_region_ext (by kernel_rfl) (by kernel_rfl) ?_
          repeat (first | go_big_quiet_step ((go_at_call 132; exact Calls.ext_same (HGE.out _))) | quiet_step ((go_at_call 132; exact Calls.ext_same (HGE.out _))))
          refine wpQuiet_nil ?_
          intro w' hw'
          obtain ⟨⟨W, hbW⟩, hw''⟩ := hw'
          have hw3 : w' = W := hw''
          subst hw3
          have HH2 := Lib.hid (HH1.out.below hbW)
          have HB2 := Lib.hid (belStep HB1.out hbW)
          obtain ⟨ev2, hE2⟩ := HH2.out
          obtain ⟨d0, _, _, _⟩ := hE2.cells
          clear hbW hw'' hE2
          have HD := Lib.hid (fun (piece : ByteArray) => doneOk_any b (q + n) s piece r w' HH2.out HE.out hqn)
          have HXS : Hid (s.extract q (q + n) = ⟨((s.data.toList.drop q).take n).toArray⟩) := by
            have e1 : s.extract q (q + n) = ⟨((s.data.toList.drop q).take n).toArray⟩ := by
              apply ByteArray.ext
              apply Array.ext'
              rw [extract_list]
              simp
            exact e1
          go_wp2_with (go_at_call 92; refine (HD.out _).mono ?_; rintro e w'' ⟨rfl, hP⟩; have HP := Lib.hid hP; obtain ⟨ev3, hE3⟩ := hP.1; obtain ⟨d3, _, _, _⟩ := hE3.cells; clear hP hE3)
          go_ret
          rw [HNR.out]
          exact ⟨congrArg (fun x => Ending.returned (.string x)) HXS.out, RPost.after HB2.out HP.out⟩
  · have e0 : (r.e == 0) = false := by simp [he]
    rw [e0] at HG
    have HNR : Hid (textR s.data.toList most r = (r, [])) := textR_bad he
    clear e0 he
    go_enter Tryz.func135, Tryz.ntmps135
    go_wp2_with (go_at_call 91; refine HG.out.mono ?_; rintro e w1 ⟨rfl, hb1⟩; have HB1 := Lib.hid hb1; clear hb1)
    go_ret
    rw [HNR.out]
    exact ⟨rfl, RPost.of_below H.out HB1.out⟩
end Go.Proofs.YtnmojicfmcbgmaaGreatDoor
namespace Go.Proofs.YtnmojicfmcbgmaaGreatDoor
open Go.RowKit Nb

attribute [local go_sem ↓] Go.wp_at_zero Go.wp_at_succ
/-- What Row leaves. -/
def RRowP (b : Nat) (s : ByteArray) (r : RS × List Nat) (w : World) (e : Ending) (w' : World) : Prop :=
  ∃ A cp, e = .returned (.slice A r.2.length cp) ∧ RdI w'.heap.size w' A (ints r.2) ∧ ((A = none → cp = 0) ∧ r.2.length ≤ cp) ∧ (∀ a, A = some a → w.heap.size ≤ a.block) ∧ RPost b s r.1 w w'
theorem RRowP.nil {b : Nat} {s : ByteArray} {r : RS} {w w' : World} (h : RPost b s r w w') : RRowP b s (r, []) w (.returned (.slice none 0 0)) w' :=
  ⟨none, 0, rfl, RdI.none_, ⟨fun _ => rfl, Nat.zero_le _⟩, (fun _ h => by cases h), h⟩
set_option maxRecDepth 100000 in
set_option maxHeartbeats 4000000 in
theorem RRow_any (b : Nat) (s : ByteArray) (r : RS) (most : Nat) (w : World) (h : Rdr b s r w) (hg : Glob w) (hs : s.size ≤ 1000000) (hm : most ≤ 1000) :
    Calls Tryz.prog 87 #[.pointer (some ⟨b, 0, none⟩), .int .i64 most] w fun e w' => RRowP b s (rowR s.data.toList most r) w e w' := by
  have HG := Lib.hid (goes_any b s r w h hg)
  have H := Lib.hid h
  clear h hg
  by_cases he : r.e = 0
  · have e0 : (r.e == 0) = true := by simp [he]
    rw [e0] at HG
    have HE := Lib.hid he
    have hp := H.out.pos_le
    clear e0 he
    go_enter Tryz.func87, Tryz.ntmps87
    go_wp2_with fail
    refine HG.out.mono ?_
    rintro e w1 ⟨rfl, hb1⟩
    have h1 := H.out.below hb1
    have HH1 := Lib.hid h1
    have HB1 := Lib.hid hb1
    obtain ⟨ev, hE⟩ := h1
    obtain ⟨c0, c1, _, _⟩ := hE.cells
    have hlt : b < w1.heap.size := lt_of_heap hE.2.1
    have HU := Lib.hid (fun W => Unrow_any s r.pos most W hp hs hm)
    clear hb1
    cases hun : unrow (s.data.toList.drop r.pos) most with
    | no c =>
      have hc := unrow_no hun
      have HNR := Lib.hid (rowR_no HE.out hun)
      rw [hun] at HU
      have hc0 : ((c : Int) != 0) = true := by simp; omega
      have hc1 : c ≠ 0 := by omega
      have HC1 := Lib.hid hc1
      have q0 : ∀ p : ExtW w1, p.to.cell? ⟨b, 0, none⟩ = some (.string s) := fun p => (p.h.cell (p := ⟨b, 0, none⟩) hlt).trans c0
      have q1 : ∀ p : ExtW w1, p.to.cell? ⟨b, 1, none⟩ = some (.int .i64 (r.pos : Int)) := fun p => (p.h.cell (p := ⟨b, 1, none⟩) hlt).trans c1
      have HGE := Lib.hid (fun W => (HU.out W).mono (fun e w' (h : UnR r.pos W (.no c) e w') => (⟨h.2, h.1⟩ : e = .returned (.tuple #[.slice none 0 0, .int .i64 0, .int .i64 (c : Int)]) ∧ Below W.heap.size W w')))
      clear hun hc hc1 hE c0 c1
      go_wp2_with fail
      refine wp_region_ext (by kernel_rfl) (by kernel_rfl) ?_
      repeat (first | go_big_quiet_step ((go_at_call 138; exact Calls.ext_of (HGE.out _))) | quiet_step ((go_at_call 138; exact Calls.ext_of (HGE.out _))))
      refine wpQuiet_nil ?_
      intro w' hw'
      obtain ⟨⟨W, hbW⟩, hw''⟩ := hw'
      have hw3 : w' = W := hw''
      subst hw3
      have HH2 := Lib.hid (HH1.out.below hbW)
      have HB2 := Lib.hid (belStep HB1.out hbW)
      clear hbW hw''
      have HD := Lib.hid (fun (piece : ByteArray) (z : Int) => doneBad_any b c z s piece r w' HH2.out HC1.out)
      go_wp2_with (go_at_call 92; (with_reducible refine (HD.out _ _).mono ?_); rintro e w' ⟨rfl, hP⟩; have HP := Lib.hid hP; clear hP)
      go_ret
      rw [HNR.out]
      exact RRowP.nil (RPost.after HB2.out HP.out)
    | ok l k =>
      have hk := (unrow_ok hun).1
      have hk2 : r.pos + k ≤ s.size := by rw [List.length_drop] at hk; simp at hk; omega
      have HNR := Lib.hid (rowR_fit HE.out hun)
      rw [hun] at HU
      obtain ⟨q, hq⟩ : ∃ q, r.pos + k = q := ⟨_, rfl⟩
      have HGE : Hid (∀ W, Calls Tryz.prog 138 #[.string s, .int .i64 r.pos, .int .i64 most] W fun e w' => Below W.heap.size W w' ∧ ∃ A cp, e = .returned (.tuple #[.slice A l.length cp, .int .i64 (q : Int), .int .i64 0]) ∧ RdI w'.heap.size w' A (ints l) ∧ ((A = none → cp = 0) ∧ l.length ≤ cp) ∧ (∀ a, A = some a → W.heap.size ≤ a.block)) := by
        intro W
        refine (HU.out W).mono ?_
        rintro e w' ⟨h1, A, cp, h2, h3, h4, h5⟩
        rw [hq] at h2
        exact ⟨h1, A, cp, h2, h3, h4, h5⟩
      rw [hq] at HNR hk2
      have z0 := c0
      have z1 := c1
      clear hun hk hq hE HU
      go_wp2_with fail
      go_region_held3 (fun w' => w'.cell? ⟨b, 0, none⟩ = some (.string s) ∧ w'.cell? ⟨b, 1, none⟩ = some (.int .i64 (r.pos : Int))) (first | exact ⟨z0, z1⟩)
        ((go_at_call 138; refine (HGE.out _).mono ?_; rintro e w2 ⟨hb2, A, cp, rfl, hrd, hnil, hlo⟩; have z0 : w2.cell? ⟨b, 0, none⟩ = some (.string s) := (hb2.cell (p := ⟨b, 0, none⟩) hlt).trans c0; have z1 : w2.cell? ⟨b, 1, none⟩ = some (.int .i64 (r.pos : Int)) := (hb2.cell (p := ⟨b, 1, none⟩) hlt).trans c1))
      have hb3 : Below w1.heap.size w1 w2 := ((Below.refl _ _).drew).trans hb2
      have HH2 := Lib.hid (HH1.out.below hb3)
      have HB2 := Lib.hid (belStep HB1.out hb3)
      have HRD := Lib.hid hrd
      have HNI := Lib.hid hnil
      have HLO : Hid (∀ a, A = some a → w1.heap.size ≤ a.block) := hlo
      have HSZ1 := Lib.hid HB1.out.size
      have HD := Lib.hid (fun (piece : ByteArray) => doneOk_any b q s piece r w2 HH2.out HE.out hk2)
      clear hb3 hb2 hrd hnil hlo z0 z1 c0 c1
      go_wp2_with (go_at_call 92; (with_reducible refine (HD.out _).mono ?_); rintro e w3 ⟨rfl, hP⟩; have HP := Lib.hid hP; clear hP)
      go_ret
      rw [HNR.out]
      exact ⟨A, cp, rfl, HRD.out.grown HP.out.2 (fun a ha => by have := HLO.out a ha; omega), HNI.out, (fun a ha => Nat.le_trans HSZ1.out (HLO.out a ha)), RPost.after HB2.out HP.out⟩
  · have e0 : (r.e == 0) = false := by simp [he]
    rw [e0] at HG
    have HNR : Hid (rowR s.data.toList most r = (r, [])) := rowR_bad he
    clear e0 he
    go_enter Tryz.func87, Tryz.ntmps87
    go_wp2_with (go_at_call 91; refine HG.out.mono ?_; rintro e w1 ⟨rfl, hb1⟩; have HB1 := Lib.hid hb1; clear hb1)
    go_ret
    rw [HNR.out]
    exact RRowP.nil (RPost.of_below H.out HB1.out)
set_option maxRecDepth 100000 in
set_option maxHeartbeats 4000000 in
theorem REnd_any (b : Nat) (s : ByteArray) (r : RS) (w : World) (h : Rdr b s r w) (hg : Glob w) :
    Calls Tryz.prog 40 #[.pointer (some ⟨b, 0, none⟩)] w fun e w' => e = .returned (.tuple #[]) ∧ RPost b s (endR s.data.toList r) w w' := by
  have HG := Lib.hid (fun p : ExtW w => goes_any b s r p.to (h.below p.h) (hg.below p.h))
  have H := Lib.hid h
  obtain ⟨ev, hE⟩ := h
  obtain ⟨c0, c1, _, _⟩ := hE.cells
  have hlt : b < w.heap.size := lt_of_heap hE.2.1
  have q0 : ∀ p : ExtW w, p.to.cell? ⟨b, 0, none⟩ = some (.string s) := fun p => (p.h.cell (p := ⟨b, 0, none⟩) hlt).trans c0
  have q1 : ∀ p : ExtW w, p.to.cell? ⟨b, 1, none⟩ = some (.int .i64 (r.pos : Int)) := fun p => (p.h.cell (p := ⟨b, 1, none⟩) hlt).trans c1
  have hsl : s.data.toList.length = s.size := by simp
  clear hg hE c0 c1
  by_cases he : r.e = 0
  · have e0 : (r.e == 0) = true := by simp [he]
    rw [e0] at HG
    by_cases hps : r.pos < s.size
    · have hz : decide ((r.pos : Int) < (s.size : Int)) = true := by simp; omega
      have HNR : Hid (endR s.data.toList r = ⟨r.pos, 6⟩) := by show _ = _; unfold endR; rw [hsl, if_pos ⟨he, hps⟩]
      clear e0 he hsl
      go_enter Tryz.func40, Tryz.ntmps40
      go_wp2_with fail
      refine wp_region_ext (by kernel_rfl) (by kernel_rfl) ?_
      repeat (first | go_big_quiet_step ((go_at_call 91; exact Calls.ext_of (HG.out _))) | quiet_step ((go_at_call 91; exact Calls.ext_of (HG.out _))))
      refine wpQuiet_nil ?_
      intro w' hw'
      obtain ⟨⟨W, hbW⟩, hw''⟩ := hw'
      have hw3 : w' = W := hw''
      subst hw3
      have HH2 := Lib.hid (H.out.below hbW)
      have HB2 := Lib.hid hbW
      clear hbW hw''
      have HD : Hid (∀ (piece : ByteArray) (z : Int), Calls Tryz.prog 92 #[.pointer (some ⟨b, 0, none⟩), .string piece, .int .i64 z, .int .i64 6] w' fun e w'' => e = .returned (.bool false) ∧ RPost b s ⟨r.pos, 6⟩ w' w'') := fun piece z => doneBad_any b 6 z s piece r w' HH2.out (by omega)
      go_wp2_with (go_at_call 92; (with_reducible refine (HD.out _ _).mono ?_); rintro e w' ⟨rfl, hP⟩; have HP := Lib.hid hP; clear hP)
      go_end0
      rw [HNR.out]
      exact ⟨rfl, RPost.after HB2.out HP.out⟩
    · have hz : decide ((r.pos : Int) < (s.size : Int)) = false := by simp; omega
      have hz2 : decide (r.pos < s.size) = false := by simp; omega
      have HNR : Hid (endR s.data.toList r = r) := by show _ = _; unfold endR; rw [hsl, if_neg (fun h => hps h.2)]
      clear e0 he hsl hps
      go_enter Tryz.func40, Tryz.ntmps40
      go_wp2_with fail
      refine wp_region_ext (by kernel_rfl) (by kernel_rfl) ?_
      repeat (first | go_big_quiet_step ((go_at_call 91; exact Calls.ext_of (HG.out _))) | quiet_step ((go_at_call 91; exact Calls.ext_of (HG.out _))))
      refine wpQuiet_nil ?_
      intro w' hw'
      obtain ⟨⟨W, hbW⟩, hw''⟩ := hw'
      have hw3 : w' = W := hw''
      subst hw3
      have HB2 := Lib.hid hbW
      clear hbW hw''
      go_wp2
      go_end0
      rw [HNR.out]
      exact ⟨rfl, RPost.of_below H.out HB2.out⟩
  · have e0 : (r.e == 0) = false := by simp [he]
    rw [e0] at HG
    have HNR : Hid (endR s.data.toList r = r) := by show _ = _; unfold endR; rw [if_neg (fun h => he h.1)]
    clear e0 he hsl
    go_enter Tryz.func40, Tryz.ntmps40
    go_wp2_with fail
    refine wp_region_ext (by kernel_rfl) (by kernel_rfl) ?_
    repeat (first | go_big_quiet_step ((go_at_call 91; exact Calls.ext_of (HG.out _))) | quiet_step ((go_at_call 91; exact Calls.ext_of (HG.out _))))
    refine wpQuiet_nil ?_
    intro w' hw'
    obtain ⟨⟨W, hbW⟩, hw''⟩ := hw'
    have hw3 : w' = W := hw''
    subst hw3
    have HB2 := Lib.hid hbW
    clear hbW hw''
    go_wp2
    go_end0
    rw [HNR.out]
    exact ⟨rfl, RPost.of_below H.out HB2.out⟩
/-- What Done tells. -/
def FaultV (w : World) (c : Nat) (ev : Value) : Prop := (c = 0 ∧ ev = .nilIface) ∨ (c ≠ 0 ∧ ∃ op ops, ops.length ≤ 5 ∧ Chain w (op :: ops) (c : Int) ev)
theorem RDone_any (b : Nat) (s : ByteArray) (r : RS) (w : World) (h : Rdr b s r w) :
    Calls Tryz.prog 41 #[.pointer (some ⟨b, 0, none⟩)] w fun e w' => ∃ ev, e = .returned ev ∧ FaultV w r.e ev ∧ w = w' := by
  obtain ⟨ev, hE⟩ := h
  obtain ⟨c0, c1, c2, c3⟩ := hE.cells
  have HF : Hid (FaultV w r.e ev) := hE.2.2
  clear hE
  go_enter Tryz.func41, Tryz.ntmps41
  go_wp2
  go_ret
  exact ⟨_, rfl, HF.out, rfl⟩
end Go.Proofs.YtnmojicfmcbgmaaGreatDoor
namespace Go.Proofs.YtnmojicfmcbgmaaGreatDoor
open Go.RowKit Go.Sort Go.Lib Nb
/-- Two blocks may have turned; all else that lay in w is as it was. -/
structure Gr2 (b B : Nat) (w w' : World) : Prop where
  os : w'.os = w.os
  tape : w'.tape = w.tape
  output : w'.output = w.output
  size : w.heap.size ≤ w'.heap.size
  block : ∀ i, i < w.heap.size → i ≠ b → i ≠ B → w'.heap[i]? = w.heap[i]?
section
variable {b B : Nat} {w a c : World}
theorem Gr2.refl (b B : Nat) (w : World) : Gr2 b B w w := ⟨rfl, rfl, rfl, Nat.le_refl _, fun _ _ _ _ => rfl⟩
theorem Gr2.trans (h : Gr2 b B w a) (k : Gr2 b B a c) : Gr2 b B w c :=
  ⟨k.os.trans h.os, k.tape.trans h.tape, k.output.trans h.output, Nat.le_trans h.size k.size, fun i hi h1 h2 => (k.block i (Nat.lt_of_lt_of_le hi h.size) h1 h2).trans (h.block i hi h1 h2)⟩
theorem Gr2.of_below (h : Below w.heap.size w a) : Gr2 b B w a := ⟨h.os, h.tape, h.output, h.size, fun i hi _ _ => h.block i hi⟩
theorem Gr2.below (h : Gr2 b B w a) (k : Below a.heap.size a c) : Gr2 b B w c := h.trans (Gr2.of_below k)
theorem Gr2.of_grown (h : w.grownBy a (some b)) : Gr2 b B w a := ⟨h.os, h.tape, h.output, h.size, fun i hi h1 _ => h.block i hi (by intro e; injection e with e; exact h1 e)⟩
theorem Gr2.grown (h : Gr2 b B w a) (k : a.grownBy c (some b)) : Gr2 b B w c := h.trans (Gr2.of_grown k)
/-- A row of the call's own has turned. -/
theorem Gr2.own {row : Option Nat} (h : Gr2 b B w a) (k : a.grownBy c row) (hr : ∀ g, row = some g → w.heap.size ≤ g) : Gr2 b B w c :=
  ⟨k.os.trans h.os, k.tape.trans h.tape, k.output.trans h.output, Nat.le_trans h.size k.size, fun i hi h1 h2 => (k.block i (Nat.lt_of_lt_of_le hi h.size) (by intro e; have := hr i e.symm; omega)).trans (h.block i hi h1 h2)⟩
theorem Gr2.set (h : Gr2 b B w a) {g : Nat} (hg : g = B ∨ g = b ∨ w.heap.size ≤ g) (j : Nat) (u : Value) : Gr2 b B w (a.setCell ⟨g, j, none⟩ u) := by
  have k := grown_setCell_M (World.grownBy.refl a (some g)) (p := ⟨g, j, none⟩) rfl u
  refine ⟨k.os.trans h.os, k.tape.trans h.tape, k.output.trans h.output, Nat.le_trans h.size k.size, fun i hi h1 h2 => (k.block i (Nat.lt_of_lt_of_le hi h.size) (by intro e; injection e with e; omega)).trans (h.block i hi h1 h2)⟩
theorem Gr2.cell (h : Gr2 b B w a) {p : Addr} {v : Value} (hb : p.block ≠ b) (hB : p.block ≠ B) (hc : w.cell? p = some v) : a.cell? p = some v :=
  (World.cell?_of_block (h.block _ (lt_of_cell hc) hb hB)).trans hc
theorem Gr2.to_below (h : Gr2 b B w a) {n : Nat} (hb : n ≤ b) (hB : n ≤ B) (hn : n ≤ w.heap.size) : Below n w a := ⟨h.os, h.tape, h.output, h.size, fun i hi => h.block i (by omega) (by omega) (by omega)⟩
theorem Gr2.heap (h : Gr2 b B w a) {g : Nat} {o : Obj} (hg : w.heap[g]? = some o) (h1 : g ≠ b) (h2 : g ≠ B) : a.heap[g]? = some o := (h.block g (lt_of_heap hg) h1 h2).trans hg
/-- A row of the call's own. -/
theorem ownsRow_gr2 {base : Nat} {e : TypeId} {k n : Nat} {v : Value} {xs : List Value} (h : w.ownsRow base e k v n xs) (hg : Gr2 b B w a) (hb : b < base) (hB : B < base) : a.ownsRow base e k v n xs := by
  refine ⟨h.1, ?_⟩
  rcases h.2 with hn | ⟨g, cap, cur, rfl, hbg, hgg, rest⟩
  · exact .inl hn
  · exact .inr ⟨g, cap, cur, rfl, hbg, hg.heap hgg (by omega) (by omega), rest⟩
end
/-- A slice that does not lie in the two blocks (they are below n). -/
def Fr (n : Nat) (A : Option Addr) : Prop := ∀ x, A = some x → n ≤ x.block
theorem Fr.none_ (n : Nat) : Fr n none := fun _ h => by cases h
theorem Fr.mono {n m : Nat} {A : Option Addr} (h : Fr m A) (hn : n ≤ m) : Fr n A := fun x hx => Nat.le_trans hn (h x hx)
theorem RdK.gr2 {α : Type} [Inhabited α] {enc : α → List Value} {k : Nat} {w w' : World} {A : Option Addr} {d : Array α} {b B n : Nat} (h : RdK enc k w.heap.size w A d) (hg : Gr2 b B w w') (hA : Fr n A) (hb : b < n) (hB : B < n) : RdK enc k w'.heap.size w' A d := fun h0 => by
  obtain ⟨g, off, e, hlt, hc⟩ := h h0
  have := hA _ e
  exact ⟨g, off, e, Nat.lt_of_lt_of_le hlt hg.size, fun t ht => hg.cell (p := ⟨g, off + t, none⟩) (by show g ≠ b; simp only at this; omega) (by show g ≠ B; simp only at this; omega) (hc t ht)⟩
theorem RdI.gr2 {w w' : World} {A : Option Addr} {d : Array Int} {b B n : Nat} (h : RdI w.heap.size w A d) (hg : Gr2 b B w w') (hA : Fr n A) (hb : b < n) (hB : B < n) : RdI w'.heap.size w' A d := fun h0 => by
  obtain ⟨g, off, e, hlt, hc⟩ := h h0
  have := hA _ e
  exact ⟨g, off, e, Nat.lt_of_lt_of_le hlt hg.size, fun t ht => hg.cell (p := ⟨g, off + t, none⟩) (by show g ≠ b; simp only at this; omega) (by show g ≠ B; simp only at this; omega) (hc t ht)⟩
/-! a fault's blocks are no others -/
theorem Chain.apart {w w' : World} {g : Nat} {cs : Array Value} {e : TypeId} {f : Nat × Nat} (hb : w.heap[g]? = some (.cells cs e f)) (he : e ≠ 126) (hg : ∀ i, i < w.heap.size → i ≠ g → w'.heap[i]? = w.heap[i]?) :
    ∀ {ops : List ByteArray} {c : Int} {v : Value}, Chain w ops c v → Chain w' ops c v
  | [], _, _, h => h
  | _ :: _, _, _, ⟨b', o, u, h1, h2, h3, h4, c5, f5, h5⟩ => by
    have hne : b' ≠ g := by
      rintro rfl
      rw [hb] at h5
      injection h5 with h5
      injection h5 with _ h5
      exact he h5
    have hl : b' < w.heap.size := lt_of_heap h5
    have k : ∀ x, w'.cell? ⟨b', x, none⟩ = w.cell? ⟨b', x, none⟩ := fun x => World.cell?_of_block (a := ⟨b', x, none⟩) (hg b' hl hne)
    exact ⟨b', o, u, h1, (k o).trans h2, (k (o + 1)).trans h3, Chain.apart hb he hg h4, c5, f5, (hg b' hl hne).trans h5⟩
/-- One block has turned that is no fault's, nor the reader's. -/
theorem Rdr.apart {b : Nat} {s : ByteArray} {r : RS} {w w' : World} {g : Nat} {cs : Array Value} {e : TypeId} {f : Nat × Nat} (h : Rdr b s r w) (hb : w.heap[g]? = some (.cells cs e f)) (he : e ≠ 126) (hne : g ≠ b) (hg : ∀ i, i < w.heap.size → i ≠ g → w'.heap[i]? = w.heap[i]?) : Rdr b s r w' := by
  obtain ⟨ev, h1, h2, h3⟩ := h
  refine ⟨ev, h1, (hg b (lt_of_heap h2) (by omega)).trans h2, ?_⟩
  rcases h3 with h3 | ⟨h3, op, ops, hl, h4⟩
  · exact Or.inl h3
  · exact Or.inr ⟨h3, op, ops, hl, h4.apart hb he hg⟩
theorem Rdr.ne_glob {b : Nat} {s : ByteArray} {r : RS} {w : World} (h : Rdr b s r w) (hg : Glob w) : b ≠ 0 := by
  rintro rfl
  obtain ⟨ev, hE⟩ := h
  obtain ⟨c0, _⟩ := hE.cells
  unfold Glob at hg
  rw [hg] at c0
  cases c0
/-- The image's reader at B, over the reader at b; both lie below n. -/
structure IRd (n b B : Nat) (s : ByteArray) (st : IS) (w : World) : Prop where
  bx : w.heap[B]? = some (.cells #[.pointer (some ⟨b, 0, none⟩), .bool st.odd] 92 (0, 0))
  rd : Rdr b s st.r w
  gl : Glob w
  hb : b < n
  hB : B < n
  hn : n ≤ w.heap.size
theorem reader_ne : (92 : TypeId) ≠ 126 := by decide
section
variable {n b B : Nat} {s : ByteArray} {st : IS} {w w' : World}
theorem IRd.ne (h : IRd n b B s st w) : B ≠ b := by
  rintro rfl
  obtain ⟨ev, hE⟩ := h.rd
  have := hE.2.1
  rw [h.bx] at this
  injection this with this
  injection this with this
  have := congrArg Array.size this
  simp at this
theorem IRd.c0 (h : IRd n b B s st w) : w.cell? ⟨B, 0, none⟩ = some (.pointer (some ⟨b, 0, none⟩)) := by rw [heap_cell h.bx]; rfl
theorem IRd.c1 (h : IRd n b B s st w) : w.cell? ⟨B, 1, none⟩ = some (.bool st.odd) := by rw [heap_cell h.bx]; rfl
theorem IRd.neG (h : IRd n b B s st w) : B ≠ 0 := by
  rintro rfl
  have := h.c0
  have hg := h.gl
  unfold Glob at hg
  rw [hg] at this
  cases this
theorem IRd.below (h : IRd n b B s st w) (hb : Below w.heap.size w w') : IRd n b B s st w' :=
  ⟨(hb.block B (lt_of_heap h.bx)).trans h.bx, h.rd.below hb, h.gl.below hb, h.hb, h.hB, Nat.le_trans h.hn hb.size⟩
theorem IRd.rpost {r' : RS} (h : IRd n b B s st w) (hP : RPost b s r' w w') : IRd n b B s ⟨r', st.odd⟩ w' :=
  ⟨(hP.2.block B (lt_of_heap h.bx) (by intro e; injection e with e; exact h.ne e)).trans h.bx, hP.1, hP.2.cell h.gl (by intro e; injection e with e; exact h.rd.ne_glob h.gl e.symm), h.hb, h.hB, Nat.le_trans h.hn hP.2.size⟩
/-- A block beyond n has turned, that is no fault's. -/
theorem IRd.apart {g : Nat} {cs : Array Value} {e : TypeId} {f : Nat × Nat} (h : IRd n b B s st w) (hb : w.heap[g]? = some (.cells cs e f)) (he : e ≠ 126) (hg : n ≤ g) (hge : 0 < n) (hk : w.grownBy w' (some g)) : IRd n b B s st w' := by
  have k : ∀ i, i < w.heap.size → i ≠ g → w'.heap[i]? = w.heap[i]? := fun i hi hne => hk.block i hi (by intro e; injection e with e; exact hne e)
  have h1 := h.hb
  have h2 := h.hB
  exact ⟨(k B (lt_of_heap h.bx) (by omega)).trans h.bx, h.rd.apart hb he (by omega) k, hk.cell h.gl (by intro e; injection e with e; simp only at e; omega), h.hb, h.hB, Nat.le_trans h.hn hk.size⟩
/-- A row of the call's own has grown. -/
theorem IRd.owned {base : Nat} {e : TypeId} {k m : Nat} {v : Value} {xs : List Value} (h : IRd n b B s st w) (ho : w.ownsRow base e k v m xs) (he : e ≠ 126) (hg : n ≤ base) (hge : 0 < n) (hk : w.grownBy w' v.ownBlock) : IRd n b B s st w' := by
  rcases ho.2 with ⟨rfl, _⟩ | ⟨g, cap, cur, rfl, hbg, hgg, _⟩
  · exact h.below ⟨hk.os, hk.tape, hk.output, hk.size, fun i hi => hk.block i hi (by intro e; cases e)⟩
  · exact h.apart hgg he (by omega) hge hk
/-- The row had another form. -/
theorem IRd.odds (h : IRd n b B s st w) (o : Bool) : IRd n b B s ⟨st.r, o⟩ (w.setCell ⟨B, 1, none⟩ (.bool o)) := by
  have k : ∀ i, i < w.heap.size → i ≠ B → (w.setCell ⟨B, 1, none⟩ (.bool o)).heap[i]? = w.heap[i]? := fun i _ hne => Below.heap_setCell w ⟨B, 1, none⟩ _ i hne
  refine ⟨?_, h.rd.apart h.bx reader_ne h.ne k, ?_, h.hb, h.hB, Nat.le_trans h.hn (by simp)⟩
  · rw [heap_set h.bx]; rfl
  · exact (World.cell?_of_block (a := ⟨0, 0, none⟩) (k _ (lt_of_cell h.gl) (by intro e; exact h.neG e.symm))).trans h.gl
theorem IRd.gr_odd (_ : IRd n b B s st w) (o : Bool) : Gr2 b B w (w.setCell ⟨B, 1, none⟩ (.bool o)) := (Gr2.refl b B w).set (Or.inl rfl) 1 _
theorem RPost.gr2 {r' : RS} (hP : RPost b s r' w w') : Gr2 b B w w' := Gr2.of_grown hP.2
end
/-- What a reading leaves: a value, the reader's state, all else as it was. -/
def IPost (n b B : Nat) (s : ByteArray) (st' : IS) (w w' : World) : Prop := IRd n b B s st' w' ∧ Gr2 b B w w'
set_option maxRecDepth 100000
/-- (*reader).num. -/
theorem inum_any (n b B : Nat) (s : ByteArray) (st : IS) (w : World) (h : IRd n b B s st w) (hs : s.size ≤ 1000000) :
    Calls Tryz.prog 76 #[.pointer (some ⟨B, 0, none⟩)] w fun e w' => e = .returned (.int .i64 ((nC.rd s.data.toList st).2 : Int)) ∧ IPost n b B s (nC.rd s.data.toList st).1 w w' := by
  have HN : Hid (Calls Tryz.prog 77 #[.pointer (some ⟨b, 0, none⟩), .int .i64 1000000] w fun e w' => e = .returned (.int .i64 ((nC.rd s.data.toList st).2 : Int)) ∧ RPost b s (nC.rd s.data.toList st).1.r w w') := RNum_any b s st.r 1000000 w h.rd h.gl hs
  have H := Lib.hid h
  have c0 := h.c0
  clear h
  go_enter Tryz.func76, Tryz.ntmps76
  go_wp2_with (go_at_call 77; refine HN.out.mono ?_; rintro e w' ⟨rfl, hP⟩; have HP := Lib.hid hP; clear hP)
  go_ret
  exact ⟨rfl, H.out.rpost HP.out, HP.out.gr2⟩
end Go.Proofs.YtnmojicfmcbgmaaGreatDoor
namespace Go.Proofs.YtnmojicfmcbgmaaGreatDoor
open Go.RowKit Nb
end Go.Proofs.YtnmojicfmcbgmaaGreatDoor
namespace Go.Proofs.YtnmojicfmcbgmaaGreatDoor
open Go.RowKit Nb
attribute [local go_sem ↓] Go.wp_at_zero Go.wp_at_succ
end Go.Proofs.YtnmojicfmcbgmaaGreatDoor
namespace Go.Proofs.YtnmojicfmcbgmaaGreatDoor
open Go.RowKit Nb
theorem heap_al {w : World} {g : Nat} {o : Obj} (h : w.heap[g]? = some o) (x : Obj) : (w.alloc x).heap[g]? = some o := (Below.heap_alloc w x g (lt_of_heap h)).trans h
end Go.Proofs.YtnmojicfmcbgmaaGreatDoor
