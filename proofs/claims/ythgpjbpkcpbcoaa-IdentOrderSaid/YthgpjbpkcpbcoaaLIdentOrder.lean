/- The law IdentOrder returns true for every input, and changes nothing that lay there. No condition. -/
import Derived.Test.YthgpjbpkcpbcoaaSortN
import Derived.Deep.RegionHeld3
import Derived.Deep.DrawnRows
import Derived.Deep.CutRange
import Derived.Deep.CutBlock
namespace Go.Proofs.Ythgpjbpkcpbcoaa.identOrder
open Go.ChangeShapes Go.WideShapes Go.ChangeAt Go.RowKit Go.Deep Go.Sort

attribute [local go_sem ↓] Go.wp_at_zero Go.wp_at_succ
theorem own_rd {w : World} {base : Nat} {e : TypeId} {v : Value} {d : Array (Int × Int)} (h : w.ownsRow base e 2 v d.size (flatK encA 2 d).toList) : ∃ A c, v = .slice A d.size c ∧ RdK encA 2 w.heap.size w A d := by
  by_cases hn : v = .slice none 0 0
  · subst hn
    have h0 : d.size = 0 := by
      obtain ⟨_, ⟨_, h0⟩ | ⟨g, cap, cur, hv, _⟩⟩ := h
      · exact h0
      · cases hv
    exact ⟨none, 0, by rw [h0], fun h => absurd h (by omega)⟩
  · obtain ⟨g, cap, rfl, _, h2, h3⟩ := holds_of_owns h hn
    exact ⟨_, _, rfl, RdK.of_holds h3 h2⟩
theorem srtA_sorted (d : Array (Int × Int)) {i j : Nat} (hij : i < j) (hj : j < d.size) : lessA (srtA d)[j]! (srtA d)[i]! = false := by
  have hs := srtA_size d
  have := List.pairwise_mergeSort (le := fun x y => !lessA y x) (fun a b c h1 h2 => by simp at *; exact swoL.ntrans c b a h2 h1) (fun a b => by
    cases h : lessA b a
    · simp
    · simp [lessA_as h]) d.toList
  have h2 := List.pairwise_iff_getElem.1 this i j (by simp; omega) (by simp; omega) hij
  rw [getElem!_pos _ j (by omega), getElem!_pos _ i (by omega)]
  simpa [srtA] using h2
/-- Three boxes. -/
structure Box3 (w : World) (x y z : Int × Int) (g5 g6 g7 : Nat) (w' : World) : Prop where
  below : Below w.heap.size w w'
  l5 : g5 < w'.heap.size
  l6 : g6 < w'.heap.size
  l7 : g7 < w'.heap.size
  a0 : w'.cell? ⟨g5, 0, none⟩ = some (.int .i64 x.1)
  a1 : w'.cell? ⟨g5, 1, none⟩ = some (.int .i64 x.2)
  b0 : w'.cell? ⟨g6, 0, none⟩ = some (.int .i64 y.1)
  b1 : w'.cell? ⟨g6, 1, none⟩ = some (.int .i64 y.2)
  c0 : w'.cell? ⟨g7, 0, none⟩ = some (.int .i64 z.1)
  c1 : w'.cell? ⟨g7, 1, none⟩ = some (.int .i64 z.2)
variable {w W W' : World} {p q r : Int × Int} {a b c : Nat}
theorem Box3.out (h : Box3 w p q r a b c W) : Box3 w p q r a b c W := h
theorem Box3.out132 (h : Box3 w p q r a b c W) : Box3 w p r q a c b W := ⟨h.1, h.2, h.4, h.3, h.5, h.6, h.9, h.10, h.7, h.8⟩
theorem Box3.out213 (h : Box3 w p q r a b c W) : Box3 w q p r b a c W := ⟨h.1, h.3, h.2, h.4, h.7, h.8, h.5, h.6, h.9, h.10⟩
theorem Box3.out321 (h : Box3 w p q r a b c W) : Box3 w r q p c b a W := ⟨h.1, h.4, h.3, h.2, h.9, h.10, h.7, h.8, h.5, h.6⟩
theorem Box3.out312 (h : Box3 w p q r a b c W) : Box3 w r p q c a b W := ⟨h.1, h.4, h.2, h.3, h.9, h.10, h.5, h.6, h.7, h.8⟩
theorem Box3.out231 (h : Box3 w p q r a b c W) : Box3 w q r p b c a W := ⟨h.1, h.3, h.4, h.2, h.7, h.8, h.9, h.10, h.5, h.6⟩
theorem Box3.ext {x y z : Int × Int} (h : Box3 w x y z a b c W) (hb : Below W.heap.size W W') : Box3 w x y z a b c W' :=
  ⟨belStep h.below hb, Nat.lt_of_lt_of_le h.l5 hb.size, Nat.lt_of_lt_of_le h.l6 hb.size, Nat.lt_of_lt_of_le h.l7 hb.size, (hb.cell (p := ⟨a, 0, none⟩) h.l5).trans h.a0, (hb.cell (p := ⟨a, 1, none⟩) h.l5).trans h.a1, (hb.cell (p := ⟨b, 0, none⟩) h.l6).trans h.b0, (hb.cell (p := ⟨b, 1, none⟩) h.l6).trans h.b1, (hb.cell (p := ⟨c, 0, none⟩) h.l7).trans h.c0, (hb.cell (p := ⟨c, 1, none⟩) h.l7).trans h.c1⟩
theorem Box3.cells {x y z : Int × Int} (h : Box3 w x y z a b c W) (p : ExtW W) : Box3 w x y z a b c p.to := h.ext p.h
theorem box3 (hb : Below w.heap.size w W) {H : Nat} (hH : W.heap.size = H) (p q r : Int × Int) (e : TypeId) : Box3 w p q r H (H + 1) (H + 1 + 1) (((W.alloc (.cells #[.int .i64 p.1, .int .i64 p.2] e)).alloc (.cells #[.int .i64 q.1, .int .i64 q.2] e)).alloc (.cells #[.int .i64 r.1, .int .i64 r.2] e)).drew := by
  subst hH
  have e1 : (W.alloc (.cells #[.int .i64 p.1, .int .i64 p.2] e)).heap.size = W.heap.size + 1 := by simp
  have e2 : ((W.alloc (.cells #[.int .i64 p.1, .int .i64 p.2] e)).alloc (.cells #[.int .i64 q.1, .int .i64 q.2] e)).heap.size = W.heap.size + 1 + 1 := by simp
  have f1 : ∀ t, ((W.alloc (.cells #[.int .i64 p.1, .int .i64 p.2] e)).alloc (.cells #[.int .i64 q.1, .int .i64 q.2] e)).cell? ⟨W.heap.size + 1, t, none⟩ = #[Value.int .i64 q.1, .int .i64 q.2][t]? := fun t => by
    have := cell_new (W.alloc (.cells #[.int .i64 p.1, .int .i64 p.2] e)) #[.int .i64 q.1, .int .i64 q.2] e t
    rwa [e1] at this
  have f2 : ∀ t, (((W.alloc (.cells #[.int .i64 p.1, .int .i64 p.2] e)).alloc (.cells #[.int .i64 q.1, .int .i64 q.2] e)).alloc (.cells #[.int .i64 r.1, .int .i64 r.2] e)).cell? ⟨W.heap.size + 1 + 1, t, none⟩ = #[Value.int .i64 r.1, .int .i64 r.2][t]? := fun t => by
    have := cell_new ((W.alloc (.cells #[.int .i64 p.1, .int .i64 p.2] e)).alloc (.cells #[.int .i64 q.1, .int .i64 q.2] e)) #[.int .i64 r.1, .int .i64 r.2] e t
    rwa [e2] at this
  refine ⟨(belAlloc (belAlloc (belAlloc hb _) _) _).drew, by simp <;> omega, by simp <;> omega, by simp, ?_, ?_, ?_, ?_, f2 0, f2 1⟩
  · exact (World.cell?_alloc_lt _ _ ⟨W.heap.size, 0, none⟩ (by simp <;> omega)).trans ((World.cell?_alloc_lt _ _ ⟨W.heap.size, 0, none⟩ (by simp)).trans (cell_new W _ _ 0))
  · exact (World.cell?_alloc_lt _ _ ⟨W.heap.size, 1, none⟩ (by simp <;> omega)).trans ((World.cell?_alloc_lt _ _ ⟨W.heap.size, 1, none⟩ (by simp)).trans (cell_new W _ _ 1))
  · exact (World.cell?_alloc_lt _ _ ⟨W.heap.size + 1, 0, none⟩ (by simp)).trans (f1 0)
  · exact (World.cell?_alloc_lt _ _ ⟨W.heap.size + 1, 1, none⟩ (by simp)).trans (f1 1)
set_option maxRecDepth 100000 in
set_option maxHeartbeats 8000000 in
theorem walk (A : Option Addr) (c : Nat) (d : Array (Int × Int)) (x y z : Int × Int) (w : World) (h : RdK encA 2 w.heap.size w A d) (n : A = none → c = 0) :
    Calls Try.prog 6 #[.slice A d.size c, .agg #[.int .i64 x.1, .int .i64 x.2, .int .i64 y.1, .int .i64 y.2, .int .i64 z.1, .int .i64 z.2]] w fun e w' => e = .returned (.bool true) ∧ Below w.heap.size w w' := by
  by_cases hd : 300 < d.size
  · have hz : (300 : Int) < (d.size : Int) := by omega
    go_enter Try.func6, Try.ntmps6
    go_wp2_with fail
    refine (awake_any _).mono ?_
    rintro e w3 ⟨rfl, hb3⟩
    go_wp2
    go_ret
    exact ⟨rfl, belStep (bel1 _ _) hb3⟩
  have hz : decide ((300 : Int) < (d.size : Int)) = false := by simp; omega
  have hd' : d.size ≤ 300 := by omega
  have hsz := srtA_size d
  have HLN := Lib.hid hsz
  have HR := Lib.hid h
  clear hd hsz h
  have r0 : (w.alloc (.cells #[.int .i64 x.1, .int .i64 x.2, .int .i64 y.1, .int .i64 y.2, .int .i64 z.1, .int .i64 z.2] 43)).cell? ⟨w.heap.size, 0, none⟩ = some (.int .i64 x.1) := cell_new w #[.int .i64 x.1, .int .i64 x.2, .int .i64 y.1, .int .i64 y.2, .int .i64 z.1, .int .i64 z.2] _ 0
  have r1 : (w.alloc (.cells #[.int .i64 x.1, .int .i64 x.2, .int .i64 y.1, .int .i64 y.2, .int .i64 z.1, .int .i64 z.2] 43)).cell? ⟨w.heap.size, 1, none⟩ = some (.int .i64 x.2) := cell_new w #[.int .i64 x.1, .int .i64 x.2, .int .i64 y.1, .int .i64 y.2, .int .i64 z.1, .int .i64 z.2] _ 1
  have r2 : (w.alloc (.cells #[.int .i64 x.1, .int .i64 x.2, .int .i64 y.1, .int .i64 y.2, .int .i64 z.1, .int .i64 z.2] 43)).cell? ⟨w.heap.size, 2, none⟩ = some (.int .i64 y.1) := cell_new w #[.int .i64 x.1, .int .i64 x.2, .int .i64 y.1, .int .i64 y.2, .int .i64 z.1, .int .i64 z.2] _ 2
  have r3 : (w.alloc (.cells #[.int .i64 x.1, .int .i64 x.2, .int .i64 y.1, .int .i64 y.2, .int .i64 z.1, .int .i64 z.2] 43)).cell? ⟨w.heap.size, 3, none⟩ = some (.int .i64 y.2) := cell_new w #[.int .i64 x.1, .int .i64 x.2, .int .i64 y.1, .int .i64 y.2, .int .i64 z.1, .int .i64 z.2] _ 3
  have r4 : (w.alloc (.cells #[.int .i64 x.1, .int .i64 x.2, .int .i64 y.1, .int .i64 y.2, .int .i64 z.1, .int .i64 z.2] 43)).cell? ⟨w.heap.size, 4, none⟩ = some (.int .i64 z.1) := cell_new w #[.int .i64 x.1, .int .i64 x.2, .int .i64 y.1, .int .i64 y.2, .int .i64 z.1, .int .i64 z.2] _ 4
  have r5 : (w.alloc (.cells #[.int .i64 x.1, .int .i64 x.2, .int .i64 y.1, .int .i64 y.2, .int .i64 z.1, .int .i64 z.2] 43)).cell? ⟨w.heap.size, 5, none⟩ = some (.int .i64 z.2) := cell_new w #[.int .i64 x.1, .int .i64 x.2, .int .i64 y.1, .int .i64 y.2, .int .i64 z.1, .int .i64 z.2] _ 5
  have HB0 := Lib.hid (bel1 w (.cells #[.int .i64 x.1, .int .i64 x.2, .int .i64 y.1, .int .i64 y.2, .int .i64 z.1, .int .i64 z.2] 43))
  have hg : w.heap.size < (w.alloc (.cells #[.int .i64 x.1, .int .i64 x.2, .int .i64 y.1, .int .i64 y.2, .int .i64 z.1, .int .i64 z.2] 43)).heap.size := by simp
  go_enter Try.func6, Try.ntmps6
  go_upto_region 3 with fail
  go_cut [5, 6, 7] from 5 to 106 (fun s5 s6 s7 wx => ∃ g5 g6 g7 : Nat, s5 = .pointer (some ⟨g5, 0, none⟩) ∧ s6 = .pointer (some ⟨g6, 0, none⟩) ∧ s7 = .pointer (some ⟨g7, 0, none⟩) ∧ Box3 w x y z g5 g6 g7 wx)
  case first =>
    go_wp2_with fail
    go_region
    all_goals go_wp2_with fail
    all_goals go_meet
    all_goals refine ⟨_, _, _, rfl, rfl, rfl, ?_⟩
    all_goals
      first
      | exact (box3 (bel1 w _) (by simp) x y z _).out
      | exact (box3 (bel1 w _) (by simp) x z y _).out132
      | exact (box3 (bel1 w _) (by simp) y x z _).out213
      | exact (box3 (bel1 w _) (by simp) y z x _).out312
      | exact (box3 (bel1 w _) (by simp) z x y _).out231
      | exact (box3 (bel1 w _) (by simp) z y x _).out321
  case rest =>
    obtain ⟨g5, g6, g7, rfl, rfl, rfl, hX⟩ := hcut
    go_upto_region 4 with fail
    go_cut [53] from 21 to 106 (fun s wx => s = .bool false ∧ Box3 w x y z g5 g6 g7 wx)
    case first =>
      have pa0 := fun p => (hX.cells p).a0
      have pa1 := fun p => (hX.cells p).a1
      have pb0 := fun p => (hX.cells p).b0
      have pb1 := fun p => (hX.cells p).b1
      have pc0 := fun p => (hX.cells p).c0
      have pc1 := fun p => (hX.cells p).c1
      have hxx : lessA x x = false := swoL.irrefl x
      have hgd := attGuard
      have hnx := neA_run x y
      by_cases hxy : x = y
      · have hn : decide (x = y) = true := by simp [hxy]
        have h2 : lessA x y = false := by rw [← hxy]; exact hxx
        rw [hn] at hnx
        clear hn hxy
        go_wp2_with fail
        refine wp_region_ext (by kernel_rfl) (by kernel_rfl) ?_
        repeat (first | go_big_quiet_step ((go_at_call 18; first | (with_reducible exact Calls.ext_of (Less_any x x _)) | (with_reducible exact Calls.ext_of (Less_any x y _)) | (with_reducible exact Calls.ext_of (Less_any y x _)) | (with_reducible exact Calls.ext_of (Less_any y z _)) | (with_reducible exact Calls.ext_of (Less_any x z _)))) | quiet_step ((go_at_call 18; first | (with_reducible exact Calls.ext_of (Less_any x x _)) | (with_reducible exact Calls.ext_of (Less_any x y _)) | (with_reducible exact Calls.ext_of (Less_any y x _)) | (with_reducible exact Calls.ext_of (Less_any y z _)) | (with_reducible exact Calls.ext_of (Less_any x z _)))))
        refine wpQuiet_nil ?_
        intro w' hw'
        obtain ⟨⟨W, hbW⟩, hw''⟩ := hw'
        have hw3 : w' = W := hw''
        subst hw3
        have hX2 := hX.ext hbW
        clear hbW hw''
        go_wp2_with fail
        go_meet
        exact ⟨rfl, hX2⟩
      · have hn : decide (x = y) = false := by simp [hxy]
        rw [hn] at hnx
        cases h2 : lessA x y
        · have h3 : lessA y x = true := by
            cases h3 : lessA y x
            · exact absurd (lessA_eq h2 h3) hxy
            · rfl
          clear hn hxy
          go_wp2_with fail
          refine wp_region_ext (by kernel_rfl) (by kernel_rfl) ?_
          repeat (first | go_big_quiet_step ((go_at_call 18; first | (with_reducible exact Calls.ext_of (Less_any x x _)) | (with_reducible exact Calls.ext_of (Less_any x y _)) | (with_reducible exact Calls.ext_of (Less_any y x _)) | (with_reducible exact Calls.ext_of (Less_any y z _)) | (with_reducible exact Calls.ext_of (Less_any x z _)))) | quiet_step ((go_at_call 18; first | (with_reducible exact Calls.ext_of (Less_any x x _)) | (with_reducible exact Calls.ext_of (Less_any x y _)) | (with_reducible exact Calls.ext_of (Less_any y x _)) | (with_reducible exact Calls.ext_of (Less_any y z _)) | (with_reducible exact Calls.ext_of (Less_any x z _)))))
          refine wpQuiet_nil ?_
          intro w' hw'
          obtain ⟨⟨W, hbW⟩, hw''⟩ := hw'
          have hw3 : w' = W := hw''
          subst hw3
          have hX2 := hX.ext hbW
          clear hbW hw''
          go_wp2_with fail
          go_meet
          exact ⟨rfl, hX2⟩
        · have h3 : lessA y x = false := lessA_as h2
          cases h4 : lessA y z
          · clear hn hxy
            go_wp2_with fail
            refine wp_region_ext (by kernel_rfl) (by kernel_rfl) ?_
            repeat (first | go_big_quiet_step ((go_at_call 18; first | (with_reducible exact Calls.ext_of (Less_any x x _)) | (with_reducible exact Calls.ext_of (Less_any x y _)) | (with_reducible exact Calls.ext_of (Less_any y x _)) | (with_reducible exact Calls.ext_of (Less_any y z _)) | (with_reducible exact Calls.ext_of (Less_any x z _)))) | quiet_step ((go_at_call 18; first | (with_reducible exact Calls.ext_of (Less_any x x _)) | (with_reducible exact Calls.ext_of (Less_any x y _)) | (with_reducible exact Calls.ext_of (Less_any y x _)) | (with_reducible exact Calls.ext_of (Less_any y z _)) | (with_reducible exact Calls.ext_of (Less_any x z _)))))
            refine wpQuiet_nil ?_
            intro w' hw'
            obtain ⟨⟨W, hbW⟩, hw''⟩ := hw'
            have hw3 : w' = W := hw''
            subst hw3
            have hX2 := hX.ext hbW
            clear hbW hw''
            go_wp2_with fail
            go_meet
            exact ⟨rfl, hX2⟩
          · have h5 : lessA x z = true := swoL.trans x y z h2 h4
            clear hn hxy
            go_wp2_with fail
            refine wp_region_ext (by kernel_rfl) (by kernel_rfl) ?_
            repeat (first | go_big_quiet_step ((go_at_call 18; first | (with_reducible exact Calls.ext_of (Less_any x x _)) | (with_reducible exact Calls.ext_of (Less_any x y _)) | (with_reducible exact Calls.ext_of (Less_any y x _)) | (with_reducible exact Calls.ext_of (Less_any y z _)) | (with_reducible exact Calls.ext_of (Less_any x z _)))) | quiet_step ((go_at_call 18; first | (with_reducible exact Calls.ext_of (Less_any x x _)) | (with_reducible exact Calls.ext_of (Less_any x y _)) | (with_reducible exact Calls.ext_of (Less_any y x _)) | (with_reducible exact Calls.ext_of (Less_any y z _)) | (with_reducible exact Calls.ext_of (Less_any x z _)))))
            refine wpQuiet_nil ?_
            intro w' hw'
            obtain ⟨⟨W, hbW⟩, hw''⟩ := hw'
            have hw3 : w' = W := hw''
            subst hw3
            have hX2 := hX.ext hbW
            clear hbW hw''
            go_wp2_with fail
            go_meet
            exact ⟨rfl, hX2⟩
    case rest =>
      clear hX
      obtain ⟨rfl, hX⟩ := hcut
      have hBc := hX.below
      clear hX
      have hRc := rdzA HR.out hBc
      have HRC := Lib.hid hRc
      have HBC := Lib.hid hBc
      clear hRc hBc
      obtain ⟨i0, hi0, hz0, hz1, hz2⟩ := info_parts att_info
      go_wp2_with (at_builtin; refine append_rdK encA_1 encA_len (by decide) rfl (.tmp 54) (.tmp 55) 32 rfl wc.heap.size 34 i0 (.agg #[.int .i64 0, .int .i64 0]) 16 Try.underlying32 hi0 hz0 hz1 hz2 rfl _ #[] rfl (empty_ownsK wc 34 encA 2) wc.heap.size A c d rfl (HRC.out.alloc (Nat.le_refl _) _) n (by simp; omega) (by decide) (by simp) ?_; intro v1 w1 hown1 hg1 _)
      have hb1 : Below wc.heap.size wc w1 := (bel1 wc _).grown hg1 (by simp) (fun k hk => ((empty_ownsK wc 34 encA 2).lt k hk).1)
      obtain ⟨A1, c1, rfl, hr1⟩ := own_rd (d := d) (by simpa using hown1)
      clear hown1 hg1
      refine (Sort_any A c d w1 (rdzA HRC.out hb1) (by omega)).mono ?_
      rintro e w2 ⟨A2, c2, rfl, hr2, _, _, hb2⟩
      have HY := Lib.hid (sameA_yes A A1 c c1 d.size d w2 (rdzA (rdzA HRC.out hb1) hb2) (rdzA hr1 hb2) rfl (by omega))
      have HR2 := Lib.hid hr2
      have HRL := Lib.hid (rdzA (rdzA HRC.out hb1) hb2)
      have HB2 := Lib.hid (belStep HBC.out (belStep hb1 hb2))
      clear hr2 hr1 hb1 hb2
      go_wp2_with fail
      refine HY.out.mono ?_
      rintro e w3 ⟨rfl, hb3⟩
      have HM := Lib.hid (rdzA HR2.out hb3)
      have HL3 := Lib.hid (rdzA HRL.out hb3)
      have HB3 := Lib.hid (belStep HB2.out hb3)
      clear hb3 HY HR2 HRL HB2
      go_wp2
      go_loopw [10] (fun i wr => ∃ k : Nat, i = .int .i64 k ∧ k ≤ d.size ∧ Below w3.heap.size w3 wr) (fun i _ => d.size - (intOf i).toNat)
      case atStart => exact ⟨0, rfl, Nat.zero_le _, Below.refl _ _⟩
      case round =>
        obtain ⟨k, rfl, hk, hBi⟩ := hrel
        by_cases hlt : k < d.size
        · have kz : (k : Int) < (d.size : Int) := by omega
          go_upto_region 13 with fail
          go_cut [104] from 70 to 104 (fun s wx => s = .bool false ∧ Below w3.heap.size w3 wx)
          case first =>
            obtain ⟨m, HMM⟩ : ∃ m, Hid (m = srtA d) := ⟨_, rfl⟩
            have hms : m.size = d.size := by rw [HMM.out]; exact HLN.out
            have hrm : RdK encA 2 wr.heap.size wr A2 m := by rw [HMM.out]; exact rdzA HM.out hBi
            obtain ⟨b2, o2, rfl, hl2, f2⟩ := hrm.at_ (i := k) (by omega)
            have HF2 := Lib.hid f2
            have p0 : ∀ p : ExtW wr, p.to.cell? ⟨b2, o2 + k * 2, none⟩ = some (.int .i64 m[k]!.1) := fun p => (p.h.cell (p := ⟨b2, o2 + k * 2, none⟩) hl2).trans (HF2.out 0 (by decide))
            have p1 : ∀ p : ExtW wr, p.to.cell? ⟨b2, o2 + k * 2 + 1, none⟩ = some (.int .i64 m[k]!.2) := fun p => (p.h.cell (p := ⟨b2, o2 + k * 2 + 1, none⟩) hl2).trans (HF2.out 1 (by decide))
            clear f2 HF2
            obtain ⟨u, hu⟩ : ∃ u, m[k]! = u := ⟨_, rfl⟩
            simp only [hu] at p0 p1
            obtain ⟨q, HQ⟩ : ∃ q : Nat, Hid (q = cntA d u d.size) := ⟨_, rfl⟩
            have HT1 := Lib.hid (fun p : ExtW wr => ((times_any (some ⟨b2, o2, none⟩) c2 d.size m u p.to (rdzA hrm p.h) hms (by omega)).mono (fun e w' (h : e = _ ∧ _) => (⟨by rw [h.1, HQ.out, ← cntA_srt, HMM.out], h.2⟩ : e = .returned (.int .i64 (q : Int)) ∧ Below p.to.heap.size p.to w'))))
            have HT2 := Lib.hid (fun p : ExtW wr => ((times_any A c d.size d u p.to (rdzA (rdzA HL3.out hBi) p.h) rfl (by omega)).mono (fun e w' (h : e = _ ∧ _) => (⟨by rw [h.1, HQ.out], h.2⟩ : e = .returned (.int .i64 (q : Int)) ∧ Below p.to.heap.size p.to w'))))
            by_cases hk0 : 0 < k
            · obtain ⟨k0, v1, v2⟩ : ∃ n, n + 1 ≤ k ∧ k ≤ n + 1 := ⟨k - 1, by omega, by omega⟩
              have s9 : (k : Int) - 1 = (k0 : Int) := by omega
              have kz0 : (k0 : Int) < (d.size : Int) := by omega
              have hkz : (0 : Int) < (k : Int) := by omega
              obtain ⟨b3, o3, e3, hl3, f3⟩ := hrm.at_ (i := k0) (by omega)
              injection e3 with e3
              injection e3 with e4 e5
              subst e4 e5
              have HF3 := Lib.hid f3
              have q0 : ∀ p : ExtW wr, p.to.cell? ⟨b2, o2 + k0 * 2, none⟩ = some (.int .i64 m[k0]!.1) := fun p => (p.h.cell (p := ⟨b2, o2 + k0 * 2, none⟩) hl2).trans (HF3.out 0 (by decide))
              have q1 : ∀ p : ExtW wr, p.to.cell? ⟨b2, o2 + k0 * 2 + 1, none⟩ = some (.int .i64 m[k0]!.2) := fun p => (p.h.cell (p := ⟨b2, o2 + k0 * 2 + 1, none⟩) hl2).trans (HF3.out 1 (by decide))
              clear f3 HF3
              have hle : lessA m[k]! m[k0]! = false := by rw [HMM.out]; exact srtA_sorted d (by omega) hlt
              obtain ⟨u0, hu0⟩ : ∃ u, m[k0]! = u := ⟨_, rfl⟩
              simp only [hu0] at q0 q1
              rw [hu, hu0] at hle
              have HL := Lib.hid (fun W => Less_any u u0 W)
              rw [hle] at HL
              clear hu hu0 hle hrm
              go_wp2_with fail
              refine wp_region_ext (by kernel_rfl) (by kernel_rfl) ?_
              repeat (first | go_big_quiet_step ((first | (go_at_call 18; exact Calls.ext_of (HL.out _)) | (go_at_call 25; first | (with_reducible exact Calls.ext_of (HT1.out _)) | (with_reducible exact Calls.ext_of (HT2.out _))))) | quiet_step ((first | (go_at_call 18; exact Calls.ext_of (HL.out _)) | (go_at_call 25; first | (with_reducible exact Calls.ext_of (HT1.out _)) | (with_reducible exact Calls.ext_of (HT2.out _))))))
              refine wpQuiet_nil ?_
              intro w' hw'
              obtain ⟨⟨W, hbW⟩, hw''⟩ := hw'
              have hw4 : w' = W := hw''
              subst hw4
              have hBi2 := belStep hBi hbW
              clear hbW hw''
              go_wp2_with fail
              go_meet
              exact ⟨rfl, hBi2⟩
            · have hkz : decide ((0 : Int) < (k : Int)) = false := by simp; omega
              have HL := Lib.hid (fun W => Less_any u u W)
              clear hu hrm
              go_wp2_with fail
              refine wp_region_ext (by kernel_rfl) (by kernel_rfl) ?_
              repeat (first | go_big_quiet_step ((first | (go_at_call 18; exact Calls.ext_of (HL.out _)) | (go_at_call 25; first | (with_reducible exact Calls.ext_of (HT1.out _)) | (with_reducible exact Calls.ext_of (HT2.out _))))) | quiet_step ((first | (go_at_call 18; exact Calls.ext_of (HL.out _)) | (go_at_call 25; first | (with_reducible exact Calls.ext_of (HT1.out _)) | (with_reducible exact Calls.ext_of (HT2.out _))))))
              refine wpQuiet_nil ?_
              intro w' hw'
              obtain ⟨⟨W, hbW⟩, hw''⟩ := hw'
              have hw4 : w' = W := hw''
              subst hw4
              have hBi2 := belStep hBi hbW
              clear hbW hw''
              go_wp2_with fail
              go_meet
              exact ⟨rfl, hBi2⟩
          case rest =>
            clear hBi
            obtain ⟨rfl, hBi⟩ := hcut
            go_wp2
            exact ⟨⟨k + 1, by go_num, by omega, hBi⟩, by simp [intOf]; omega⟩
        · obtain rfl : k = d.size := by omega
          have hlt' : ¬ (d.size : Int) < (d.size : Int) := by omega
          have HBi := Lib.hid hBi
          clear hBi
          go_wp2_with fail
          refine (awake_any _).mono ?_
          rintro e w9 ⟨rfl, hb9⟩
          go_wp2
          go_ret
          exact ⟨rfl, belStep (belStep HB3.out HBi.out) hb9⟩

set_option maxRecDepth 100000 in
theorem lifted (os : Os) (started : os.Started) (H : Type) (enc : TypeId × Value → H) :
    ReturnsInHanded {} Try.checked os 6 .any (Rows.identOrderSpec.pre6 enc Try.prog Try.f6 Rows.identOrderRow.domain false) (Rows.identOrderSpec.post enc Try.prog Try.f6 false true false false) := by
  refine returnsInHanded_of_change_sized (C := Try.checked) own started (by kernel_rfl) Try.func6
    (ChangeSpec.witness6 (enc := enc) (C := Try.checked) false ⟨#[], #[.slice none 0 0, .agg #[.int .i64 0, .int .i64 0, .int .i64 0, .int .i64 0, .int .i64 0, .int .i64 0]], []⟩ 8 (by kernel_rfl) (by kernel_rfl) (by kernel_rfl) (by kernel_rfl)) ?_
  intro W base args ds gs before hval0 hW _ _ _
  have hval : ∀ (j : Nat) t v, Try.f6.params[j]? = some t → args[j]? = some v → Value.okWide Try.prog W .any base t v := hval0
  have hW' := hW
  obtain ⟨p, q, hA0, hV, rfl, _, _⟩ := hW
  have hA : DataW.TrodAll enc Try.prog W 0 (fun _ => true) true Try.f6.params.toList args.toList ds p := hA0
  rw [Try.params6] at hA hval
  obtain ⟨v0, v1, d0, d1, p0, p1, rfl, rfl, rfl, h0, h1⟩ := trodAll_two hA
  obtain ⟨rfl, rfl⟩ := trodVars_none hV
  obtain ⟨A0, c0, z0, rfl, r0, n0⟩ := open_rdA Try.underlying32 Try.underlying34 (by kernel_rfl) (by kernel_rfl) Try.underlying3 Try.underlying3 (hval 0 32 v0 rfl rfl) h0
  obtain ⟨x1, y1, q1, rfl⟩ := open_arr3 Try.underlying43 (by kernel_rfl) Try.underlying34 (by kernel_rfl) (by kernel_rfl) Try.underlying3 Try.underlying3 (hval 1 43 v1 rfl rfl) h1
  refine (walk A0 c0 z0 x1 y1 q1 W r0 n0).mono fun e W' ⟨he, hb⟩ => ?_
  subst he
  exact ⟨_, rfl, law_post (tb := 4) laidOut (by decide +kernel) rfl hW' rfl rfl rfl rfl Try.underlying4 hb⟩

theorem over : Rows.identOrderRow.holds Try.pinned (OpenSpec.ofChange Rows.identOrderSpec) :=
  OpenClaim.holds_of_wide 6 Try.f6 rfl rfl rfl rfl rfl rfl rfl ⟨rfl, rfl, rfl, rfl, rfl⟩ rfl rfl rfl rfl rfl (by kernel_rfl) Try.func6 (by kernel_rfl)
    (of_decide_eq_true (by kernel_rfl)) (by unfold Func.isWrapper; first | (rw [if_pos (by decide +kernel)]; kernel_rfl) | (rw [if_neg (by decide +kernel)]; exact ⟨rfl, rfl⟩))
    (fun os started H enc _ => lifted os started H enc)
theorem proved : Rows.IdentOrderSaid := over
#print axioms proved
end Go.Proofs.Ythgpjbpkcpbcoaa.identOrder
