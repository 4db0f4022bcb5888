/- May a replica be: the plain answer; sizes; the four methods of state.whole. The methods commands, hears, finished of state.whole, with their function values. -/
import Derived.Test.YtnmojicfmcbgmaaGreatQRpA
import Derived.Test.YtnmojicfmcbgmaaGreatQClkB
namespace Go.Proofs.YtnmojicfmcbgmaaGreat
open Go.RowKit Go.Sort Go.Lib
set_option maxRecDepth 100000
def sizeP (n f : Int) : Prop := 3 ≤ n ∧ n ≤ 9 ∧ 1 ≤ f ∧ 2 * f ≤ n - 1
instance (n f : Int) : Decidable (sizeP n f) := by unfold sizeP; infer_instance
def sizeE (n f : Int) : Int := if sizeP n f then 0 else 2
theorem sizeE_bool (n f : Int) : (sizeE n f != 0) = !decide (sizeP n f) := by
  unfold sizeE; by_cases h : sizeP n f <;> simp [h]
theorem szCheck_any (n f : Int) (w : World) : Calls Tryz.prog 24 #[.int .i64 n, .int .i64 f] w fun e w' => e = .returned (.int .i64 (sizeE n f)) ∧ w' = w := by
  have hq : 3 ≤ n → Int.tdiv (n - 1) 2 = (n - 1) / 2 := fun h => Int.tdiv_eq_ediv_of_nonneg (by omega)
  by_cases g1 : 3 ≤ n ∧ n ≤ 9
  · have hm := manyB_yes g1.1 g1.2
    have h1 := g1.1
    have h2 := g1.2
    have hq' := hq g1.1
    by_cases g2 : sizeP n f
    · have HE : Hid (sizeE n f = 0) := by show _ = _; unfold sizeE; rw [if_pos g2]
      obtain ⟨_, _, a, b⟩ := g2
      have p1 : decide (f < 1) = false := by simp; omega
      have p2 : decide ((n - 1) / 2 < f) = false := by simp; omega
      clear a b g1 hq
      go_enter Tryz.func24, Tryz.ntmps24
      go_wp2_with (go_at_call 69; refine (many_any _ _).mono ?_; rintro _ _ ⟨rfl, rfl⟩)
      all_goals first
        | (go_ret; exact ⟨ret_int HE.out.symm, rfl⟩)
        | (exfalso; omega)
    · have HE : Hid (sizeE n f = 2) := by show _ = _; unfold sizeE; rw [if_neg g2]
      by_cases a : f < 1
      · have p1 : decide (f < 1) = true := decide_eq_true a
        clear a g1 hq g2
        go_enter Tryz.func24, Tryz.ntmps24
        go_wp2_with (go_at_call 69; refine (many_any _ _).mono ?_; rintro _ _ ⟨rfl, rfl⟩)
        all_goals (go_ret; exact ⟨ret_int HE.out.symm, rfl⟩)
      · have p1 : decide (f < 1) = false := decide_eq_false a
        have p2 : decide ((n - 1) / 2 < f) = true := by
          unfold sizeP at g2
          simp only [decide_eq_true_eq]; omega
        clear a g1 hq g2
        go_enter Tryz.func24, Tryz.ntmps24
        go_wp2_with (go_at_call 69; refine (many_any _ _).mono ?_; rintro _ _ ⟨rfl, rfl⟩)
        all_goals first
          | (go_ret; exact ⟨ret_int HE.out.symm, rfl⟩)
          | (exfalso; omega)
  · have hm := manyB_no (n := n) (by omega)
    have HE : Hid (sizeE n f = 2) := by show _ = _; unfold sizeE; rw [if_neg]; rintro ⟨a, b, _⟩; exact g1 ⟨a, b⟩
    clear g1 hq
    go_enter Tryz.func24, Tryz.ntmps24
    go_wp2_with (go_at_call 69; refine (many_any _ _).mono ?_; rintro _ _ ⟨rfl, rfl⟩)
    all_goals (go_ret; exact ⟨ret_int HE.out.symm, rfl⟩)
theorem stWithin_any (n top : Int) (w : World) : Calls Tryz.prog 73 #[.int .i64 n, .int .i64 top] w fun e w' => e = .returned (.bool (withB n top)) ∧ w' = w := by
  go_enter Tryz.func73, Tryz.ntmps73
  go_wp2
  all_goals
    go_ret
    exact ⟨ret_dec (by simp <;> omega), rfl⟩
def countsB (r : RP) : Bool := decide (sizeP r.n r.f) && decide (1 ≤ r.self ∧ r.self ≤ r.n) && decide (0 ≤ r.seq ∧ r.seq ≤ 99999 ∧ 0 ≤ r.ticks ∧ r.ticks ≤ 1000000 ∧ 0 ≤ r.count ∧ r.count ≤ 1000000) && clkB r.clock r.floor r.o.z
def farB (r : RP) (i : Nat) : Bool := decide (r.n < selfN_I r.e.z[i]!.id)
def cmdsB (r : RP) : Bool := chkT r.e.z && !anyN r.e.z.size (farB r)
def hearsB (r : RP) : Bool := decide ((r.k.z.size : Int) = r.n) && !anyN r.k.z.size (fun i => !chkB r.k.z[i]!.kn) && rowsB r.m.z r.n && decide (marksE r.fr.z r.n = 0)
def wrongD (d : Array (Int × Int)) : Bool := (setE_R d != 0) || (decide (0 < d.size) && decide (99999 < d[d.size - 1]!.2))
def lastB (t id : Int) : Bool := decide ((t = 0 ∧ id = 0) ∨ ((10 ≤ id ∧ id ≤ 999999 ∧ id % 10 ≠ 0) ∧ 1 ≤ t ∧ t ≤ 1000000))
def finB (r : RP) : Bool := decide ((r.d.z.size : Int) = r.n) && !anyN r.d.z.size (fun i => wrongD r.d.z[i]!.z) && lastB r.lt r.lid
def chkR (r : RP) : Bool := countsB r && cmdsB r && hearsB r && finB r
def repE (r : RP) : Int := if chkR r = true then 0 else 2
theorem repE_bool0 (r : RP) : (repE r == 0) = chkR r := by unfold repE; cases chkR r <;> rfl
theorem clkE_bool0 (now floor : Int) (d : Array (Int × Int)) : (clkE now floor d == 0) = clkB now floor d := by unfold clkE; cases clkB now floor d <;> rfl
set_option maxHeartbeats 8000000 in
theorem counts_any (r : RP) (w : World) (h : RdP w r) (hf : r.o.z.size ≤ 1000000) :
    Calls Tryz.prog 28 #[.agg (encP r).toArray] w fun e w' => e = .returned (.bool (countsB r)) ∧ Below w.heap.size w w' := by
  have HC := Lib.hid (fun W (hb : Below w.heap.size w W) => clk_any r.clock r.floor r.o.A r.o.c r.o.z W (h.o.below hb).rd hf)
  have hB := Lib.hid (fun T => bel1 w (.cells (encP r).toArray T))
  have hsz := sizeE_bool r.n r.f
  have hck := clkE_bool0 r.clock r.floor r.o.z
  clear h hf
  simp only [encP] at hB ⊢
  go_enter Tryz.func28, Tryz.ntmps28
  go_wp2_with (first
    | (go_at_call 24; refine (szCheck_any _ _ _).mono ?_; rintro _ _ ⟨rfl, rfl⟩)
    | (go_at_call 73; refine (stWithin_any _ _ _).mono ?_; rintro _ _ ⟨rfl, rfl⟩)
    | (go_at_call 74; refine (HC.out _ (hB.out _)).mono ?_; rintro _ w1 ⟨rfl, hb⟩; have HW := Lib.hid (belStep (hB.out _) hb); clear hb))
  all_goals
    go_ret
    refine ⟨ret_bool ?_, by first | exact HW.out | exact hB.out _⟩
    simp only [countsB, withB, decide_eq_true_eq, decide_eq_false_iff_not] at *
    grind
end Go.Proofs.YtnmojicfmcbgmaaGreat
namespace Go.Proofs.YtnmojicfmcbgmaaGreat
open Go.RowKit Go.Sort Go.Lib
set_option maxRecDepth 100000
set_option maxHeartbeats 4000000 in
theorem far_any (e : EN) (n : Int) (g : Nat) (w : World) (hg : g < w.heap.size) (hc : w.cell? ⟨g, 0, none⟩ = some (.int .i64 n)) :
    Calls Tryz.prog 75 #[.agg (encE e).toArray, .pointer (some ⟨g, 0, none⟩)] w fun r w' => r = .returned (.bool (decide (n < selfN_I e.id))) ∧ Below w.heap.size w w' := by
  have HS : Hid (∀ W, Calls Tryz.prog 64 #[.int .i64 e.id] W fun e' w' => e' = .returned (.int .i64 (selfN_I e.id)) ∧ Below W.heap.size W w') := fun W => (Self_any e.id W).mono fun _ _ ⟨he, hw⟩ => ⟨he, hw ▸ Below.refl _ _⟩
  have HB := Lib.hid (bel1 w (.cells (encE e).toArray 60))
  have h0 := heap_alloc_new w (.cells (encE e).toArray 60)
  have hq : (w.alloc (.cells (encE e).toArray 60)).cell? ⟨w.heap.size, 0, none⟩ = some (.int .i64 e.id) := cell_new w _ _ 0
  have hc' : (w.alloc (.cells (encE e).toArray 60)).cell? ⟨g, 0, none⟩ = some (.int .i64 n) := (World.cell?_alloc_lt w _ _ hg).trans hc
  have hl : g < (w.alloc (.cells (encE e).toArray 60)).heap.size := by simp; omega
  have hl2 : w.heap.size < (w.alloc (.cells (encE e).toArray 60)).heap.size := by simp
  simp only [encE] at HB hq hc' hl hl2 ⊢
  generalize selfN_I e.id = sf at HS ⊢
  clear hc h0
  go_enter Tryz.func75, Tryz.ntmps75
  go_wp2_with fail
  generalize w.alloc (.cells #[.int .i64 e.id, .int .i64 e.ph, .int .i64 e.qu, .int .i64 e.t, .int .i64 e.bal, .int .i64 e.abal, .int .i64 e.seen, .int .i64 e.age, .string e.pay, .slice e.A e.z.size e.c] 60) = w1 at HB hq hc' hl hl2 ⊢
  have a0 := fun p : ExtW w1 => p.cell (a := ⟨w.heap.size, 0, none⟩) hl2 hq
  have b0 := fun p : ExtW w1 => p.cell (a := ⟨g, 0, none⟩) hl hc'
  clear hq hc'
  refine wp_region_ext (by kernel_rfl) (by kernel_rfl) ?_
  repeat (first | go_big_quiet_step ((go_at_call 64; exact Calls.ext_of (HS.out _))) | quiet_step ((go_at_call 64; exact Calls.ext_of (HS.out _))))
  refine wpQuiet_nil ?_
  intro wq hw'
  obtain ⟨⟨W, hbW⟩, hw''⟩ := hw'
  have hw3 : wq = W := hw''
  subst hw3
  have HBW := Lib.hid (belStep HB.out hbW)
  clear hbW hw'' a0 b0
  go_wp2
  go_ret
  exact ⟨rfl, HBW.out⟩
set_option maxHeartbeats 8000000 in
theorem cmds_any (r : RP) (w : World) (h : RdP w r) (hf : FewC r) :
    Calls Tryz.prog 29 #[.agg (encP r).toArray] w fun e w' => e = .returned (.bool (cmdsB r)) ∧ Below w.heap.size w w' := by
  have hs : r.e.z.size ≤ 1000000 := by have := hf.es; omega
  have HT := Lib.hid (fun W (hb : Below w.heap.size w W) => tCheck_any r.e.A r.e.c r.e.z W ((h.below hb).tab hf))
  have HX := Lib.hid (BoxW.init w (encP r).toArray 70)
  have HN := Lib.hid (fun W (hb : BoxW w (encP r).toArray W) => enCont (farB r) 75 #[.pointer (some ⟨w.heap.size, 0, none⟩)] (enters_of Tryz.func75 (by kernel_rfl) rfl) r.e.A r.e.c r.e.z W (h.e.below hb.b).rd hs
    (fun i hi W' hb' => far_any r.e.z[i]! r.n w.heap.size W' (Nat.lt_of_lt_of_le hb.lt hb'.size) ((hb.next hb').at_ 0)))
  have hck := tabE_bool r.e.z
  clear h hf
  simp only [encP] at HX HN ⊢
  go_enter Tryz.func29, Tryz.ntmps29
  go_wp2_with (first
    | (go_at_call 76; refine (HT.out _ HX.out.b).mono ?_; rintro _ w1 ⟨rfl, hb⟩; have HX := Lib.hid (HX.out.next hb); clear hb; have c7 := HX.out.at_ 7)
    | (go_at_call 77; refine (HN.out _ HX.out).mono ?_; rintro _ w1 ⟨rfl, hb⟩; have HX := Lib.hid (HX.out.next hb); clear hb))
  all_goals
    go_ret
    refine ⟨ret_bool ?_, HX.out.b⟩
    simp only [cmdsB] at *
    grind
set_option maxHeartbeats 4000000 in
theorem hear1_any (k : KE) (w : World) (h : RdKE w k) :
    Calls Tryz.prog 78 #[.agg (encKE k).toArray] w fun r w' => r = .returned (.bool (!chkB k.kn)) ∧ Below w.heap.size w w' := by
  have HC := Lib.hid (fun W (hb : Below w.heap.size w W) => kCheck_any (.agg (encKE k).toArray) k.kn W (h.below hb).knV)
  have HB := Lib.hid (bel1 w (.cells (encKE k).toArray 53))
  have hck : (chkE k.kn != 0) = !chkB k.kn := by unfold chkE; cases chkB k.kn <;> rfl
  clear h
  simp only [encKE] at HC HB ⊢
  go_enter Tryz.func78, Tryz.ntmps78
  go_wp2_with fail
  refine (HC.out _ HB.out).mono ?_
  rintro e w' ⟨rfl, hb⟩
  have HW := Lib.hid (belStep HB.out hb)
  clear hb
  go_wp2
  go_ret
  exact ⟨rfl, HW.out⟩
set_option maxHeartbeats 4000000 in
theorem fin1_any (A : Option Addr) (c : Nat) (d : Array (Int × Int)) (w : World) (h : RdK encR 2 w.heap.size w A d) (hs : d.size ≤ 1000000) :
    Calls Tryz.prog 83 #[.slice A d.size c] w fun r w' => r = .returned (.bool (wrongD d)) ∧ Below w.heap.size w w' := by
  have HC := Lib.hid (gCheck_any A c d w h)
  have HF : Hid (wrongD d = ((setE_R d != 0) || (decide (0 < d.size) && decide (99999 < d[d.size - 1]!.2)))) := Lib.hid rfl
  have HR := Lib.hid h
  clear h
  generalize setE_R d = g at HC HF
  rcases Nat.eq_zero_or_pos d.size with h0 | h0
  · obtain rfl : d = #[] := Array.eq_empty_of_size_eq_zero h0
    have HF : Hid (wrongD #[] = (g != 0)) := by show _ = _; rw [HF.out]; simp
    simp only [Array.size_empty] at HC ⊢
    clear h0 HR hs
    go_enter Tryz.func83, Tryz.ntmps83
    go_wp2_with fail
    refine HC.out.mono ?_
    rintro e w' ⟨rfl, hb⟩
    have HB := Lib.hid hb
    clear hb
    go_wp2
    all_goals
      go_ret
      refine ⟨ret_bool ?_, HB.out⟩
      rw [HF.out]
      grind
  · have q0 : decide ((0 : Int) < (d.size : Int)) = true := by simp; omega
    rw [decide_eq_true h0] at HF
    obtain ⟨n, hn⟩ : ∃ n, n + 1 = d.size := ⟨d.size - 1, by omega⟩
    have hsub : (d.size : Int) - 1 = (n : Int) := by omega
    have hlt : (n : Int) < (d.size : Int) := by omega
    obtain ⟨b, off, rfl, hbl, f⟩ := HR.out.at_ (i := n) (by omega)
    have e1 := f 1 (by omega)
    rw [show d.size - 1 = n by omega] at HF
    generalize d[n]! = x at e1 HF
    simp only [encR, List.getElem!_cons_zero, List.getElem!_cons_succ] at e1
    clear f h0 hn
    go_enter Tryz.func83, Tryz.ntmps83
    go_wp2_with fail
    refine HC.out.mono ?_
    rintro e w' ⟨rfl, hb⟩
    have u1 := (hb.cell (p := ⟨b, off + n * 2 + 1, none⟩) hbl).trans e1
    have HB := Lib.hid hb
    clear hb
    go_wp2
    all_goals
      go_ret
      refine ⟨ret_bool ?_, HB.out⟩
      rw [HF.out]
      grind
theorem eqA_S (x y : Int × Int) (w : World) : (binOp .eql 29 (.agg #[.int .i64 x.1, .int .i64 x.2]) (.agg #[.int .i64 y.1, .int .i64 y.2])).run Tryz.prog w = .ok (.bool (decide (x = y))) w := by
  have hS : Tryz.prog.underlying 29 = some (.struct (Tryz.prog.fieldsOf 29)) := by kernel_rfl
  have hp : Tryz.prog.stoodInHeld 29 = false := by kernel_rfl
  have u3 := Tryz.underlying3
  rw [run_eql_struct, show (10000 : Nat) = 9999 + 1 from rfl, run_equalIn_agg w 9999 29 _ _ hS hp]
  simp only [Program.fieldsOf, Tryz.underlying29]
  go_simp
  obtain ⟨x1, x2⟩ := x
  obtain ⟨y1, y2⟩ := y
  by_cases h1 : x1 = y1 <;> by_cases h2 : x2 = y2 <;> simp [h1, h2]
set_option maxHeartbeats 8000000 in
theorem hears_any (r : RP) (w : World) (h : RdP w r) (hf : FewC r) :
    Calls Tryz.prog 30 #[.agg (encP r).toArray] w fun e w' => e = .returned (.bool (hearsB r)) ∧ Below w.heap.size w w' := by
  have HX := Lib.hid (BoxW.init w (encP r).toArray 70)
  have HN := Lib.hid (fun W (hb : Below w.heap.size w W) => keCont (fun i => !chkB r.k.z[i]!.kn) 78 #[] (enters_of Tryz.func78 (by kernel_rfl) rfl) r.k.A r.k.c r.k.z W (h.k.below hb).rd (by have := hf.k; omega)
    (fun i hi W' hb' => hear1_any r.k.z[i]! W' (((h.kk i hi).below hb).below hb')))
  have HM := Lib.hid (fun W (hb : Below w.heap.size w W) => swCheck_any r.m.A r.m.c r.m.z r.n W (h.m.below hb).rd (fun i hi => (h.mm i hi).below hb) (by have := hf.m; omega) (fun i hi => by have := hf.mm i hi; omega))
  have HS := Lib.hid (fun W (hb : Below w.heap.size w W) => sCheck_any r.fr.A r.fr.c r.fr.z r.n _ W (h.fr.below hb).rd (by have := hf.fr; omega))
  have hck := rowsE_bool r.m.z r.n
  have hcm : (rowsE r.m.z r.n == 0) = rowsB r.m.z r.n := by unfold rowsE; cases rowsB r.m.z r.n <;> rfl
  have hk20 : (r.k.z.size : Int) ≤ 20 := by have := hf.k; omega
  clear h hf
  simp only [encP] at HX ⊢
  go_enter Tryz.func30, Tryz.ntmps30
  go_wp2_with (first
    | (go_at_call 80; refine (HN.out _ HX.out.b).mono ?_; rintro _ w1 ⟨rfl, hb⟩; have HX := Lib.hid (HX.out.next hb); clear hb; have c0 := HX.out.at_ 0; have c10 := HX.out.at_ 10; have c11 := HX.out.at_ 11)
    | (go_at_call 81; refine (HM.out _ HX.out.b).mono ?_; rintro _ w2 ⟨rfl, hb⟩; have HX := Lib.hid (HX.out.next hb); clear hb; have c0 := HX.out.at_ 0; have c11 := HX.out.at_ 11)
    | (go_at_call 82; refine (HS.out _ HX.out.b).mono ?_; rintro _ w3 ⟨rfl, hb⟩; have HX := Lib.hid (HX.out.next hb); clear hb))
  all_goals
    go_ret
    refine ⟨ret_bool ?_, HX.out.b⟩
    simp only [hearsB] at *
    grind
set_option maxHeartbeats 8000000 in
theorem fin_any (r : RP) (w : World) (h : RdP w r) (hf : FewC r) :
    Calls Tryz.prog 31 #[.agg (encP r).toArray] w fun e w' => e = .returned (.bool (finB r)) ∧ Below w.heap.size w w' := by
  have HX := Lib.hid (BoxW.init w (encP r).toArray 70)
  have HN := Lib.hid (fun W (hb : Below w.heap.size w W) => rrCont (fun i => wrongD r.d.z[i]!.z) 83 #[] (enters_of Tryz.func83 (by kernel_rfl) rfl) r.d.A r.d.c r.d.z W (h.d.below hb).rd (by have := hf.d; omega)
    (fun i hi W' hb' => fin1_any r.d.z[i]!.A r.d.z[i]!.c r.d.z[i]!.z W' (((h.dd i hi).below hb).below hb').rd (by have := hf.dd i hi; omega)))
  have hq := fun W => eqA_S (r.lt, r.lid) (0, 0) W
  have hid := checkE_bool_C r.lid
  have hid0 : (checkE r.lid == 0) = decide (10 ≤ r.lid ∧ r.lid ≤ 999999 ∧ r.lid % 10 ≠ 0) := by
    have : (checkE r.lid == 0) = !(checkE r.lid != 0) := by simp [bne]
    rw [this, hid, Bool.not_not]
  have hd20 : (r.d.z.size : Int) ≤ 20 := by have := hf.d; omega
  clear h hf hid
  simp only [encP] at HX ⊢
  go_enter Tryz.func31, Tryz.ntmps31
  go_wp2_with (first
    | (go_at_call 85; refine (HN.out _ HX.out.b).mono ?_; rintro _ w1 ⟨rfl, hb⟩; have HX := Lib.hid (HX.out.next hb); clear hb; have c13 := HX.out.at_ 13; have c14 := HX.out.at_ 14)
    | (go_at_call 86; refine (Check_any_I _ _).mono ?_; rintro _ _ ⟨rfl, rfl⟩))
  all_goals
    go_ret
    refine ⟨ret_bool ?_, HX.out.b⟩
    simp only [finB, lastB] at *
    grind
end Go.Proofs.YtnmojicfmcbgmaaGreat
