/- A command is put: the plain law; table.Put, rubatoref21.Put. -/
import Derived.Test.YtgpejfkmdenonaaTbE
namespace Go.Proofs.Ytgpejfkmdenonaa
open Go.RowKit Go.Sort Go.Lib
set_option maxRecDepth 100000
theorem drop_arr_E {α : Type} [Inhabited α] (d : Array α) (k : Nat) (h : k < d.size) : d.toList.drop k = d[k]! :: d.toList.drop (k + 1) := by
  rw [List.drop_eq_getElem_cons (by simpa using h), getElem!_pos d k h]; rfl
/-- The document's way through the commands that are left; b: e is in already. -/
def insL (e : EN) : Bool → List EN → List EN
  | b, [] => if b = true then [] else [e]
  | b, x :: r => (if e.id ≤ x.id ∧ b = false then [e] else []) ++ ((if x.id = e.id then [] else [x]) ++ insL e (b || decide (e.id ≤ x.id)) r)
def putS (d : Array EN) (e : EN) : Array EN := (insL e false d.toList).toArray
def putC (d : Array EN) (e : EN) : Int := if (chkT d && chkEn e) = true then (if 40 < (putS d e).size then 8 else 0) else 2
def putD (d : Array EN) (e : EN) : Array EN := if putC d e = 0 then putS d e else #[]
theorem insL_below {e : EN} : ∀ (l1 l2 : List EN), (∀ x ∈ l1, x.id < e.id) → insL e false (l1 ++ l2) = l1 ++ insL e false l2
  | [], _, _ => rfl
  | x :: r, l2, h => by
    have hx := h x (by simp)
    have ih := insL_below r l2 (fun y hy => h y (by simp [hy]))
    rw [List.cons_append, insL, if_neg (by omega), if_neg (by omega), decide_eq_false (by omega), Bool.or_false, ih]
    rfl
theorem insL_in {e : EN} : ∀ (l : List EN), (∀ x ∈ l, x.id ≠ e.id) → insL e true l = l
  | [], _ => rfl
  | x :: r, h => by
    have hx := h x (by simp)
    have ih := insL_in r (fun y hy => h y (by simp [hy]))
    rw [insL, if_neg (by simp), if_neg hx, Bool.true_or, ih]
    rfl
theorem chkT_up {d : Array EN} (h : chkT d = true) : ∀ i j, i < j → j < d.size → d[i]!.id < d[j]!.id := by
  have ha := (chkT_iff.1 h).2
  intro i j
  induction j with
  | zero => intro hij; omega
  | succ j ih =>
    intro hij hj
    have h1 := ha (j + 1) hj
    unfold atT at h1
    rw [Bool.and_eq_true, decide_eq_true_eq] at h1
    have h2 := h1.2 (by omega)
    rw [Nat.add_sub_cancel] at h2
    rcases Nat.lt_or_ge i j with h' | h'
    · have := ih h' (by omega); omega
    · obtain rfl : i = j := by omega
      exact h2
theorem putS_at {d : Array EN} {e : EN} {k : Nat} (hup : ∀ i j, i < j → j < d.size → d[i]!.id < d[j]!.id) (hk : LowB d e.id k) : putS d e = if k < d.size ∧ d[k]!.id = e.id then d.setIfInBounds k e else insEN d k e := by
  obtain ⟨hkd, h1, h2⟩ := hk
  have hl1 : ∀ x ∈ d.toList.take k, x.id < e.id := by
    intro x hx
    obtain ⟨j, hj, rfl⟩ := List.getElem_of_mem hx
    rw [List.length_take] at hj
    have := h1 j (by omega)
    rw [getElem!_pos d j (by omega)] at this
    simpa using this
  have hsp : insL e false d.toList = d.toList.take k ++ insL e false (d.toList.drop k) := by
    have := insL_below (e := e) (d.toList.take k) (d.toList.drop k) hl1
    rwa [List.take_append_drop] at this
  unfold putS
  rw [hsp]
  by_cases hlt : k < d.size
  · rw [drop_arr_E d k hlt]
    have hge := h2 k (Nat.le_refl _) hlt
    have hr : ∀ x ∈ d.toList.drop (k + 1), x.id ≠ e.id := by
      intro x hx
      obtain ⟨j, hj, rfl⟩ := List.getElem_of_mem hx
      rw [List.length_drop] at hj
      have hj' : k + 1 + j < d.size := by simp at hj; omega
      have := hup k (k + 1 + j) (by omega) hj'
      rw [getElem!_pos d (k + 1 + j) hj'] at this
      rw [List.getElem_drop]
      simp only [Array.getElem_toList]
      omega
    rw [insL, if_pos ⟨hge, rfl⟩, decide_eq_true hge, Bool.false_or, insL_in _ hr]
    by_cases he : d[k]!.id = e.id
    · rw [if_pos he, if_pos ⟨hlt, he⟩]
      apply Array.toList_inj.1
      rw [Array.toList_setIfInBounds, List.set_eq_take_append_cons_drop, if_pos (by simpa using hlt)]
      rfl
    · rw [if_neg he, if_neg (fun h => he h.2)]
      unfold insEN
      rw [drop_arr_E d k hlt]
      rfl
  · rw [if_neg (fun h => hlt h.1), List.drop_of_length_le (by simp; omega)]
    unfold insEN
    rw [List.drop_of_length_le (by simp; omega)]
    rfl
theorem insL_mem {e : EN} : ∀ (b : Bool) (l : List EN) (x : EN), x ∈ insL e b l → x ∈ l ∨ x = e
  | b, [], x, h => by
    rw [insL] at h
    split at h
    · cases h
    · right; simpa using h
  | b, y :: r, x, h => by
    rw [insL, List.mem_append, List.mem_append] at h
    rcases h with h | h | h
    · split at h
      · right; simpa using h
      · cases h
    · split at h
      · cases h
      · left; simp at h; simp [h]
    · rcases insL_mem _ r x h with h' | h'
      · left; simp [h']
      · right; exact h'
/-- Rows of these commands and of one more. -/
theorem RdT.sub2 {w w' : World} {A A' : Option Addr} {d d' : Array EN} {e : EN} (h : RdT w A d) (he : RdE w e) (hb : Below w.heap.size w w') (hr : RdK encE 10 w'.heap.size w' A' d') (hs : d'.size ≤ 100) (hm : ∀ x ∈ d'.toList, x ∈ d.toList ∨ x = e) : RdT w' A' d' := by
  refine ⟨hr, fun i hi => ?_, hs⟩
  rcases hm d'[i]! (by rw [getElem!_pos d' i hi]; simp) with h1 | h1
  · obtain ⟨j, hj, ej⟩ := List.getElem_of_mem h1
    have hj' : j < d.size := by simpa using hj
    have := h.el j hj'
    rw [getElem!_pos d j hj'] at this
    have e' : d[j] = d'[i]! := by rw [← ej]; simp
    rw [e'] at this
    exact this.below hb
  · rw [h1]; exact he.below hb
theorem putS_mem {d : Array EN} {e : EN} : ∀ x ∈ (putS d e).toList, x ∈ d.toList ∨ x = e := fun x hx => insL_mem false d.toList x (by simpa [putS] using hx)
theorem putD_mem {d : Array EN} {e : EN} : ∀ x ∈ (putD d e).toList, x ∈ d.toList ∨ x = e := by
  intro x hx
  unfold putD at hx
  split at hx
  · exact putS_mem x hx
  · simp at hx
theorem putD_size (d : Array EN) (e : EN) : (putD d e).size ≤ 40 := by
  unfold putD
  split
  · rename_i h
    unfold putC at h
    split at h
    · split at h
      · cases h
      · omega
    · cases h
  · simp
/-- slices.Insert, wherever there is room. -/
theorem insEN_any (B : Nat) (v : Value) (d : Array EN) (x : EN) (vb i : Nat) (w : World) (hown : w.ownsRow B 25 10 v d.size (flatK encE 10 d).toList) (hvb : w.heap[vb]? = some (.cells (encE x).toArray 25 (0, 0))) (hne : v.ownBlock ≠ some vb) (hB : B ≤ w.heap.size) (hi : i ≤ d.size) (hs : d.size ≤ 1000) :
    Calls Try.prog 31 #[v, .int .i64 i, .slice (some ⟨vb, 0, none⟩) 1 1] w fun e w' => ∃ v', e = .returned v' ∧ w'.ownsRow B 25 10 v' (insEN d i x).size (flatK encE 10 (insEN d i x)).toList ∧ Below B w w' := by
  rcases Nat.lt_or_ge i d.size with hlt | hge
  · have hv : v ≠ .slice none 0 0 := by
      intro hv
      obtain ⟨_, ⟨_, h0⟩ | ⟨g, cap, cur, hv', _⟩⟩ := hown
      · omega
      · rw [hv] at hv'; cases hv'
    obtain ⟨g, cap, e1, hg, hgl, hH⟩ := holds_of_owns hown hv
    obtain ⟨_, ⟨h1, _⟩ | ⟨g', cap', cur, hv', hBg, hh, hnc, hmx, hcur, htk⟩⟩ := hown
    · exact absurd h1 hv
    · subst hv'
      injection e1 with e1 _ e2
      injection e1 with e1
      injection e1 with e1
      subst e1
      have hgne : vb ≠ g' := fun h => hne (by rw [h]; rfl)
      rcases Nat.lt_or_ge d.size cap' with hr | hr
      · exact insN_room B g' cap' i cur.toList d x vb w (by simpa using hh) hBg (by simpa using hcur) hmx htk hlt (by omega) hvb hgne hs
      · obtain rfl : cap' = d.size := by omega
        exact (insN_grow B g' i d x vb w hH hgl hB hlt hvb hs).mono fun _ _ ⟨v', h1, h2, h3⟩ => ⟨v', h1, h2, h3.mono hB⟩
  · obtain rfl : i = d.size := by omega
    exact (insN_end B v d x vb w hown hvb hB hs).mono fun _ _ ⟨v', h1, h2, h3⟩ => ⟨v', h1, h2, (Below.refl B w).grown h3 hB (fun k hk => (hown.lt k hk).1)⟩

/-- What a put tells: the commands behind it, and the number. -/
def PutQ (d : Array EN) (e : EN) (r : Ending) (w' : World) : Prop := ∃ A' c', r = .returned (.tuple #[.slice A' (putD d e).size c', .int .i64 (putC d e)]) ∧ RdT w' A' (putD d e)
set_option maxHeartbeats 16000000 in
theorem tPut_any (A : Option Addr) (c : Nat) (d : Array EN) (e : EN) (w : World) (h : RdT w A d) (he : RdE w e) :
    Calls Try.prog 9 #[.slice A d.size c, .agg (encE e).toArray] w fun r w' => PutQ d e r w' ∧ Below w.heap.size w w' := by
  have HR := Lib.hid h
  have HE := Lib.hid he
  have HX := Lib.hid (BoxW.init w (encE e).toArray 25)
  have HBAD : Hid ((chkT d && chkEn e) = false → ∀ W, Below w.heap.size w W → PutQ d e (Ending.returned (.tuple #[.slice none 0 0, .int .i64 2])) W ∧ Below w.heap.size w W) := fun hf W hb => by
    have e1 : putC d e = 2 := by unfold putC; rw [if_neg (by rw [hf]; exact Bool.false_ne_true)]
    have e2 : putD d e = #[] := by unfold putD; rw [e1]; rfl
    unfold PutQ
    rw [e1, e2]
    exact ⟨⟨none, 0, rfl, fun h => absurd h (by decide), fun i hi => absurd hi (by simp), by decide⟩, hb⟩
  have HC := Lib.hid (fun W (hb : Below w.heap.size w W) => tCheck_any A c d W (h.below hb))
  have HK := Lib.hid (fun W (hb : Below w.heap.size w W) => eCheck_any e W (he.below hb) he.cz)
  have q1 := tabE_bool d
  have q2 := enE_bool e
  have hsz := h.sz
  clear h he
  obtain ⟨g1, hg1⟩ : ∃ g, chkT d = g := ⟨_, rfl⟩
  obtain ⟨g2, hg2⟩ : ∃ g, chkEn e = g := ⟨_, rfl⟩
  rw [hg1] at q1
  rw [hg2] at q2
  have HG1 := Lib.hid hg1
  have HG2 := Lib.hid hg2
  clear hg1 hg2
  generalize tabE d = td at q1 HC
  generalize enE e = te at q2 HK
  simp only [encE] at HX HK ⊢
  cases g1
  · go_enter Try.func9, Try.ntmps9
    go_wp2_with fail
    refine (HC.out _ HX.out.b).mono ?_
    rintro _ w1 ⟨rfl, hb1⟩
    have HX1 := Lib.hid (HX.out.next hb1)
    clear hb1
    go_wp2
    go_ret2
    exact HBAD.out (by rw [HG1.out]; rfl) _ HX1.out.b
  cases g2
  · go_enter Try.func9, Try.ntmps9
    go_wp2_with fail
    refine (HC.out _ HX.out.b).mono ?_
    rintro _ w1 ⟨rfl, hb1⟩
    have HX1 := Lib.hid (HX.out.next hb1)
    clear hb1
    have y0 := HX1.out.at_ 0
    have y1 := HX1.out.at_ 1
    have y2 := HX1.out.at_ 2
    have y3 := HX1.out.at_ 3
    have y4 := HX1.out.at_ 4
    have y5 := HX1.out.at_ 5
    have y6 := HX1.out.at_ 6
    have y7 := HX1.out.at_ 7
    have y8 := HX1.out.at_ 8
    have y9 := HX1.out.at_ 9
    go_wp2_with fail
    refine (HK.out _ HX1.out.b).mono ?_
    rintro _ w2 ⟨rfl, hb2⟩
    have HX2 := Lib.hid (HX1.out.next hb2)
    clear hb2 y0 y1 y2 y3 y4 y5 y6 y7 y8 y9
    go_wp2
    go_ret2
    exact HBAD.out (by rw [HG1.out, HG2.out]; rfl) _ HX2.out.b
  have hup := chkT_up HG1.out
  have HBS := Lib.hid (fun W (hb : Below w.heap.size w W) => bsN_any A c d e.id W (HR.out.below hb).rd (by omega) hup)
  have HCL := Lib.hid (fun W (hb : Below w.heap.size w W) => CloneN A c d W (HR.out.below hb).rd (by omega))
  have HPS := Lib.hid (fun k (hk : LowB d e.id k) => putS_at hup hk)
  have HPC : Hid (putC d e = if 40 < (putS d e).size then 8 else 0) := by
    show _ = _
    unfold putC
    rw [HG1.out, HG2.out]; rfl
  clear hup
  go_enter Try.func9, Try.ntmps9
  go_wp2_with fail
  refine (HC.out _ HX.out.b).mono ?_
  rintro _ w1 ⟨rfl, hb1⟩
  have HX1 := Lib.hid (HX.out.next hb1)
  clear hb1
  have y0 := HX1.out.at_ 0
  have y1 := HX1.out.at_ 1
  have y2 := HX1.out.at_ 2
  have y3 := HX1.out.at_ 3
  have y4 := HX1.out.at_ 4
  have y5 := HX1.out.at_ 5
  have y6 := HX1.out.at_ 6
  have y7 := HX1.out.at_ 7
  have y8 := HX1.out.at_ 8
  have y9 := HX1.out.at_ 9
  go_wp2_with fail
  refine (HK.out _ HX1.out.b).mono ?_
  rintro _ w2 ⟨rfl, hb2⟩
  have HX2 := Lib.hid (HX1.out.next hb2)
  have x0 := HX2.out.at_ 0
  clear hb2 y0 y1 y2 y3 y4 y5 y6 y7 y8 y9
  go_wp2_with fail
  refine (HBS.out _ HX2.out.b).mono ?_
  rintro _ w3 ⟨⟨k, rfl, hk⟩, hb3⟩
  have HX3 := Lib.hid (HX2.out.next hb3)
  generalize hok : decide (k < d.size ∧ d[k]!.id = e.id) = ok
  have HOK := Lib.hid hok
  clear hok
  have HPK := Lib.hid (HPS.out k hk)
  have hkd := hk.1
  clear hb3 hk x0 HPS
  go_wp2_with fail
  refine (HCL.out _ HX3.out.b).mono ?_
  rintro _ w4 ⟨v, rfl, hown, hb4⟩
  have HX4 := Lib.hid (HX3.out.next hb4)
  have hl34 : w.heap.size < w3.heap.size := HX3.out.lt
  have hs34 := hb4.size
  clear hb4
  have y0 := HX4.out.at_ 0
  have y1 := HX4.out.at_ 1
  have y2 := HX4.out.at_ 2
  have y3 := HX4.out.at_ 3
  have y4 := HX4.out.at_ 4
  have y5 := HX4.out.at_ 5
  have y6 := HX4.out.at_ 6
  have y7 := HX4.out.at_ 7
  have y8 := HX4.out.at_ 8
  have y9 := HX4.out.at_ 9
  cases ok
  rotate_left
  · have hf : k < d.size ∧ d[k]!.id = e.id := of_decide_eq_true HOK.out
    have hps := HPK.out
    rw [if_pos hf] at hps
    have hpc : putC d e = 0 := by
      have h40 := (chkT_iff.1 HG1.out).1
      rw [HPC.out, if_neg (by rw [hps]; simp; omega)]
    have hpd : putD d e = d.setIfInBounds k e := by unfold putD; rw [if_pos hpc, hps]
    have hv : v ≠ .slice none 0 0 := by
      intro hv
      obtain ⟨_, ⟨_, h0⟩ | ⟨g, cap, cur, hv', _⟩⟩ := hown
      · omega
      · rw [hv] at hv'; cases hv'
    obtain ⟨g, cap, rfl, hg, hgl, hH⟩ := holds_of_owns hown hv
    have hs0 := SrtK.put encE_len (SrtK.refl hH hgl) hf.1 e
    rw [Nat.zero_add] at hs0
    have HS := Lib.hid hs0
    clear hs0
    have HPD := Lib.hid hpd
    have HPC0 := Lib.hid hpc
    have HPM := Lib.hid (putD_mem (d := d) (e := e))
    have kz : (k : Int) < (d.size : Int) := by omega
    have hB := Lib.hid (HX4.out.b.grown HS.out.grown (by have := HX4.out.b.size; omega) (fun j hj => by injection hj with hj; omega))
    have o0 := hH.cell (i := k) (c := 0) hf.1 (by decide)
    have oc0 := o0.1
    have of0 := o0.2
    have o1 := hH.cell (i := k) (c := 1) hf.1 (by decide)
    have oc1 := o1.1
    have of1 := o1.2
    have o2 := hH.cell (i := k) (c := 2) hf.1 (by decide)
    have oc2 := o2.1
    have of2 := o2.2
    have o3 := hH.cell (i := k) (c := 3) hf.1 (by decide)
    have oc3 := o3.1
    have of3 := o3.2
    have o4 := hH.cell (i := k) (c := 4) hf.1 (by decide)
    have oc4 := o4.1
    have of4 := o4.2
    have o5 := hH.cell (i := k) (c := 5) hf.1 (by decide)
    have oc5 := o5.1
    have of5 := o5.2
    have o6 := hH.cell (i := k) (c := 6) hf.1 (by decide)
    have oc6 := o6.1
    have of6 := o6.2
    have o7 := hH.cell (i := k) (c := 7) hf.1 (by decide)
    have oc7 := o7.1
    have of7 := o7.2
    have o8 := hH.cell (i := k) (c := 8) hf.1 (by decide)
    have oc8 := o8.1
    have of8 := o8.2
    have o9 := hH.cell (i := k) (c := 9) hf.1 (by decide)
    have oc9 := o9.1
    have of9 := o9.2
    simp only [Nat.zero_add, Nat.add_zero] at oc0 of0 oc1 of1 oc2 of2 oc3 of3 oc4 of4 oc5 of5 oc6 of6 oc7 of7 oc8 of8 oc9 of9
    generalize (encE d[k]!)[0]! = old0 at oc0
    generalize (encE d[k]!)[1]! = old1 at oc1
    generalize (encE d[k]!)[2]! = old2 at oc2
    generalize (encE d[k]!)[3]! = old3 at oc3
    generalize (encE d[k]!)[4]! = old4 at oc4
    generalize (encE d[k]!)[5]! = old5 at oc5
    generalize (encE d[k]!)[6]! = old6 at oc6
    generalize (encE d[k]!)[7]! = old7 at oc7
    generalize (encE d[k]!)[8]! = old8 at oc8
    generalize (encE d[k]!)[9]! = old9 at oc9
    clear o0 o1 o2 o3 o4 o5 o6 o7 o8 o9
    clear hf hown hv hps hpc hpd hH hg
    go_wp2
    go_ret2
    unfold PutQ
    rw [HPC0.out]
    have hrd : RdK encE 10 (w4.setCells g (k * 10) (encE e)).heap.size (w4.setCells g (k * 10) (encE e)) (some ⟨g, 0, none⟩) (d.setIfInBounds k e) := RdK.of_holds HS.out.holds HS.out.lt1
    have hrt := HR.out.sub2 HE.out hB.out (A' := some ⟨g, 0, none⟩) (d' := putD d e) (by rw [HPD.out]; exact hrd) (by have := putD_size d e; omega) HPM.out
    exact ⟨⟨some ⟨g, 0, none⟩, cap, by rw [HPD.out, Array.size_setIfInBounds]; rfl, hrt⟩, hB.out⟩
  · have hf : ¬ (k < d.size ∧ d[k]!.id = e.id) := of_decide_eq_false HOK.out
    have hps := HPK.out
    rw [if_neg hf] at hps
    have his := insEN_size (d := d) (x := e) (i := k) hkd
    by_cases h40 : 40 ≤ d.size
    · have h40' : decide ((40 : Int) ≤ (d.size : Int)) = true := decide_eq_true (by omega)
      have hpc : putC d e = 8 := by rw [HPC.out, if_pos (by rw [hps, his]; omega)]
      have hpd : putD d e = #[] := by unfold putD; rw [if_neg (by rw [hpc]; decide)]
      have HPD := Lib.hid hpd
      have HPC0 := Lib.hid hpc
      clear hf hps his hpc hpd hown
      go_wp2
      go_ret2
      unfold PutQ
      rw [HPC0.out, HPD.out]
      exact ⟨⟨none, 0, rfl, fun h => absurd h (by decide), fun i hi => absurd hi (by simp), by decide⟩, HX4.out.b⟩
    · have h40' : decide ((40 : Int) ≤ (d.size : Int)) = false := decide_eq_false (by omega)
      have hpc : putC d e = 0 := by rw [HPC.out, if_neg (by rw [hps, his]; omega)]
      have hpd : putD d e = insEN d k e := by unfold putD; rw [if_pos hpc, hps]
      have HPD := Lib.hid hpd
      have HPC0 := Lib.hid hpc
      have HPM := Lib.hid (putD_mem (d := d) (e := e))
      have hne : v.ownBlock ≠ some w4.heap.size := fun h => by have := (hown.lt _ h).2; omega
      have HIN := Lib.hid (insEN_any w3.heap.size v d e w4.heap.size k (w4.alloc (.cells (encE e).toArray 25)) (hown.alloc _) (heap_alloc_new _ _) hne (by simp; omega) hkd (by omega))
      clear hf hps his hpc hpd hown hne
      simp only [encE] at HIN
      go_wp2_with fail
      refine HIN.out.mono ?_
      rintro _ w5 ⟨v', rfl, hown5, hb5⟩
      have HB5 := Lib.hid ((belAlloc HX4.out.b (.cells (encE e).toArray 25)).trans (hb5.mono (by omega)))
      have HO5 := Lib.hid hown5
      clear hb5 hown5 HIN y0 y1 y2 y3 y4 y5 y6 y7 y8 y9
      go_wp2
      go_ret2
      unfold PutQ
      rw [HPC0.out]
      obtain ⟨A', c', e', hr, _⟩ := rdK_of_owns HO5.out
      have hrt := HR.out.sub2 HE.out HB5.out (A' := A') (d' := putD d e) (by rw [HPD.out]; exact hr) (by have := putD_size d e; omega) HPM.out
      exact ⟨⟨A', c', by rw [HPD.out, ← e']; rfl, hrt⟩, HB5.out⟩
end Go.Proofs.Ytgpejfkmdenonaa
