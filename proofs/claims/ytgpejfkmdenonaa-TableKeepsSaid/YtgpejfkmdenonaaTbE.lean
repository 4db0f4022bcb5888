/- A command's place: slices.BinarySearchFunc by table.Put's closure; slices.Insert at commands. -/
import Derived.Test.YtgpejfkmdenonaaTbD
import Derived.Test.YtgpejfkmdenonaaCopyK
namespace Go.Proofs.Ytgpejfkmdenonaa
open Go.RowKit Go.Sort Go.Lib
set_option maxRecDepth 100000
def cmpI (a b : Int) : Int := if a < b then -1 else if b < a then 1 else 0
theorem cmpI_lt (a b : Int) : decide (cmpI a b < 0) = decide (a < b) := by unfold cmpI; split <;> (try split) <;> simp <;> omega
theorem cmpI_eq (a b : Int) : (cmpI a b == 0) = decide (a = b) := by
  unfold cmpI
  split
  · simp; omega
  · split <;> simp <;> omega
theorem put1_any (x : EN) (n : Int) (w : World) :
    Calls Try.prog 28 #[.agg (encE x).toArray, .int .i64 n] w fun e w' => e = .returned (.int .i64 (cmpI x.id n)) ∧ Below w.heap.size w w' := by
  have HB : Hid (∀ o, Below w.heap.size w (w.alloc o)) := Lib.hid (fun o => bel1 w o)
  have HC := Lib.hid (fun W => Try.cmp_Compare_int x.id n W)
  simp only [encE]
  go_enter Try.func28, Try.ntmps28
  go_wp2_with fail
  refine (HC.out _).mono ?_
  rintro e w1 ⟨rfl, rfl⟩
  go_wp2
  go_ret
  refine ⟨ret_int ?_, HB.out _⟩
  unfold cmpI
  rfl
/-- k is the first place whose command's number is not below n. -/
def LowB (d : Array EN) (n : Int) (k : Nat) : Prop := k ≤ d.size ∧ (∀ j, j < k → d[j]!.id < n) ∧ ∀ j, k ≤ j → j < d.size → n ≤ d[j]!.id
set_option maxHeartbeats 8000000 in
theorem bsN_any (A : Option Addr) (c : Nat) (d : Array EN) (n : Int) (w : World) (h : RdK encE 10 w.heap.size w A d) (hs : d.size ≤ 1000000) (hup : ∀ i j, i < j → j < d.size → d[i]!.id < d[j]!.id) :
    Calls Try.prog 27 #[.slice A d.size c, .int .i64 n, .func (.func 28) #[] #[]] w fun e w' => (∃ k : Nat, e = .returned (.tuple #[.int .i64 k, .bool (decide (k < d.size ∧ d[k]!.id = n))]) ∧ LowB d n k) ∧ Below w.heap.size w w' := by
  have HR := Lib.hid h
  have HU := Lib.hid hup
  clear h hup
  go_enter Try.func27, Try.ntmps27
  go_wp2
  go_loopg [9, 10] d.size (fun g s9 s10 wr => ∃ lo hi : Nat, s9 = .int .i64 lo ∧ s10 = .int .i64 hi ∧ lo ≤ hi ∧ hi ≤ d.size ∧ hi - lo ≤ g ∧ Hid (Below w.heap.size w wr) ∧ Hid ((∀ t, t < lo → d[t]!.id < n) ∧ (∀ t, hi ≤ t → t < d.size → n ≤ d[t]!.id)))
  case atStart => exact ⟨0, d.size, rfl, rfl, Nat.zero_le _, Nat.le_refl _, by omega, Lib.hid (Below.refl _ _), Lib.hid ⟨fun t ht => absurd ht (Nat.not_lt_zero _), fun t h1 h2 => by omega⟩⟩
  case round =>
    obtain ⟨lo, hi, rfl, rfl, hlh, hin, hg, HB, HI⟩ := hrel
    by_cases hlt : lo < hi
    · obtain ⟨b, off, rfl, hbl, f⟩ := (HR.out.below HB.out).at_ (i := (lo + hi) / 2) (by omega)
      have e0 := f 0 (by omega)
      have e1 := f 1 (by omega)
      have e2 := f 2 (by omega)
      have e3 := f 3 (by omega)
      have e4 := f 4 (by omega)
      have e5 := f 5 (by omega)
      have e6 := f 6 (by omega)
      have e7 := f 7 (by omega)
      have e8 := f 8 (by omega)
      have e9 := f 9 (by omega)
      have HC := Lib.hid (fun W => put1_any d[(lo + hi) / 2]! n W)
      have HM : Hid (d[(lo + hi) / 2]!.id = d[(lo + hi) / 2]!.id) := rfl
      obtain ⟨x, hx⟩ : ∃ x, d[(lo + hi) / 2]! = x := ⟨_, rfl⟩
      rw [hx] at e0 e1 e2 e3 e4 e5 e6 e7 e8 e9 HC
      have HX := Lib.hid hx
      clear f hx HM
      simp only [Nat.add_zero, encE, List.getElem!_cons_zero, List.getElem!_cons_succ] at e0 e1 e2 e3 e4 e5 e6 e7 e8 e9 HC
      have hcl := cmpI_lt x.id n
      generalize cmpI x.id n = cv at HC hcl
      by_cases hxn : x.id < n
      · have hv : decide (cv < 0) = true := by rw [hcl]; simpa using hxn
        have HXN := Lib.hid hxn
        clear hcl hxn
        go_wp2_with (go_at_call 28; refine (HC.out _).mono ?_; rintro e w' ⟨rfl, hb'⟩)
        go_roundg (hi - ((lo + hi) / 2 + 1))
        case measure => omega
        case rel =>
          refine ⟨(lo + hi) / 2 + 1, hi, by rw [show ((lo : Int) + (hi : Int)) / 2 + 1 = (((lo + hi) / 2 + 1 : Nat) : Int) by omega], rfl, by omega, hin, Nat.le_refl _, Lib.hid (belStep HB.out hb'), Lib.hid ⟨fun t ht => ?_, HI.out.2⟩⟩
          rcases Nat.lt_or_ge t ((lo + hi) / 2) with h' | h'
          · have h1 := HU.out t ((lo + hi) / 2) h' (by omega)
            rw [HX.out] at h1
            have h2 := HXN.out
            omega
          · obtain rfl : t = (lo + hi) / 2 := by omega
            rw [HX.out]; exact HXN.out
      · have hv : decide (cv < 0) = false := by rw [hcl]; simpa using hxn
        have HXN := Lib.hid hxn
        clear hcl hxn
        go_wp2_with (go_at_call 28; refine (HC.out _).mono ?_; rintro e w' ⟨rfl, hb'⟩)
        go_roundg ((lo + hi) / 2 - lo)
        case measure => omega
        case rel =>
          refine ⟨lo, (lo + hi) / 2, rfl, by rw [show ((lo : Int) + (hi : Int)) / 2 = (((lo + hi) / 2 : Nat) : Int) by omega], by omega, by omega, Nat.le_refl _, Lib.hid (belStep HB.out hb'), Lib.hid ⟨HI.out.1, fun t ht htn => ?_⟩⟩
          have h2 := HXN.out
          rcases Nat.lt_or_ge ((lo + hi) / 2) t with h' | h'
          · have h1 := HU.out ((lo + hi) / 2) t h' htn
            rw [HX.out] at h1
            omega
          · obtain rfl : t = (lo + hi) / 2 := by omega
            rw [HX.out]; omega
    · obtain rfl : lo = hi := by omega
      have HL : Hid (LowB d n lo) := ⟨hin, HI.out.1, HI.out.2⟩
      by_cases hk : lo < d.size
      · have kz : (lo : Int) < (d.size : Int) := by omega
        obtain ⟨b, off, rfl, hbl, f⟩ := (HR.out.below HB.out).at_ (i := lo) (by omega)
        have e0 := f 0 (by omega)
        have e1 := f 1 (by omega)
        have e2 := f 2 (by omega)
        have e3 := f 3 (by omega)
        have e4 := f 4 (by omega)
        have e5 := f 5 (by omega)
        have e6 := f 6 (by omega)
        have e7 := f 7 (by omega)
        have e8 := f 8 (by omega)
        have e9 := f 9 (by omega)
        have HC := Lib.hid (fun W => put1_any d[lo]! n W)
        have HV : Hid (decide (lo < d.size ∧ d[lo]!.id = n) = decide (d[lo]!.id = n)) := by show _ = _; simp [hk]
        obtain ⟨x, hx⟩ : ∃ x, d[lo]! = x := ⟨_, rfl⟩
        rw [hx] at e0 e1 e2 e3 e4 e5 e6 e7 e8 e9 HC
        have HX := Lib.hid hx
        clear f hx
        simp only [Nat.add_zero, encE, List.getElem!_cons_zero, List.getElem!_cons_succ] at e0 e1 e2 e3 e4 e5 e6 e7 e8 e9 HC
        have hce := cmpI_eq x.id n
        have HCE := Lib.hid hce
        clear hce
        generalize cmpI x.id n = cv at HC HCE
        go_wp2_with (go_at_call 28; refine (HC.out _).mono ?_; rintro e w' ⟨rfl, hb'⟩)
        go_ret2
        refine ⟨⟨lo, ?_, HL.out⟩, belStep HB.out hb'⟩
        show Ending.returned (.tuple #[.int .i64 lo, .bool (cv == 0)]) = _
        rw [HV.out, HX.out, HCE.out]
      · have hk' : decide ((lo : Int) < (d.size : Int)) = false := by simp; omega
        have HV : Hid (decide (lo < d.size ∧ d[lo]!.id = n) = false) := by show _ = _; simp [hk]
        go_wp2
        go_ret2
        exact ⟨⟨lo, by rw [HV.out]; rfl, HL.out⟩, HB.out⟩
/-- x laid at place i. -/
def insEN (d : Array EN) (i : Nat) (x : EN) : Array EN := (d.toList.take i ++ x :: d.toList.drop i).toArray
theorem insEN_size {d : Array EN} {i : Nat} {x : EN} (hi : i ≤ d.size) : (insEN d i x).size = d.size + 1 := by unfold insEN; simp; omega
theorem flat_split (d : Array EN) (i : Nat) (x : EN) : (flatK encE 10 (insEN d i x)).toList = (flatK encE 10 d).toList.take (i * 10) ++ (encE x ++ (flatK encE 10 d).toList.drop (i * 10)) := by
  rw [flatK_flatMap encE_len, flatK_flatMap encE_len]
  unfold insEN
  have key : ∀ (l : List EN) (i : Nat), (l.take i).flatMap encE = (l.flatMap encE).take (i * 10) ∧ (l.drop i).flatMap encE = (l.flatMap encE).drop (i * 10) := by
    intro l
    induction l with
    | nil => intro i; simp
    | cons y r ih =>
      intro i
      cases i with
      | zero => simp
      | succ i =>
        have hl : (encE y).length = 10 := encE_len y
        have e1 : (i + 1) * 10 = 10 + i * 10 := by omega
        rw [List.take_succ_cons, List.drop_succ_cons, List.flatMap_cons, List.flatMap_cons, e1, (ih i).1, (ih i).2]
        constructor
        · rw [show (encE y ++ r.flatMap encE).take (10 + i * 10) = encE y ++ (r.flatMap encE).take (i * 10) from by rw [List.take_append, List.take_of_length_le (by rw [hl]; omega), hl, Nat.add_sub_cancel_left]]
        · rw [show (encE y ++ r.flatMap encE).drop (10 + i * 10) = (r.flatMap encE).drop (i * 10) from by rw [List.drop_append, List.drop_of_length_le (by rw [hl]; omega), hl, Nat.add_sub_cancel_left, List.nil_append]]
  rw [← (key d.toList i).1, ← (key d.toList i).2]
  simp
theorem own_blk (A : Option Addr) (n c c' : Nat) : (Value.slice A n c).ownBlock = (Value.slice A n c').ownBlock := by cases A <;> rfl
theorem flat_one (d : Array EN) : ∀ u ∈ (flatK encE 10 d).toList, u.oneCell' = true := one_flat encE_1 encE_len

set_option maxHeartbeats 16000000 in
theorem insN_end (B : Nat) (v : Value) (d : Array EN) (x : EN) (vb : Nat) (w : World) (hown : w.ownsRow B 25 10 v d.size (flatK encE 10 d).toList) (hvb : w.heap[vb]? = some (.cells (encE x).toArray 25 (0, 0))) (hB : B ≤ w.heap.size) (hs : d.size ≤ 1000) :
    Calls Try.prog 31 #[v, .int .i64 d.size, .slice (some ⟨vb, 0, none⟩) 1 1] w fun e w' => ∃ v', e = .returned v' ∧ w'.ownsRow B 25 10 v' (insEN d d.size x).size (flatK encE 10 (insEN d d.size x)).toList ∧ w.grownBy w' v.ownBlock := by
  obtain ⟨i0, hi0, hz0, hz1, hz2⟩ := info_parts ent_info
  have HF : Hid ((flatK encE 10 (insEN d d.size x)).toList = (flatK encE 10 d).toList ++ encE x) := by
    show _ = _
    rw [flat_split, List.take_of_length_le (by simp), List.drop_of_length_le (by simp), List.append_nil]
  have HSZ := Lib.hid (insEN_size (d := d) (x := x) (Nat.le_refl _))
  have hnews : ∀ j u, (encE x)[j]? = some u → w.cell? ((⟨vb, 0, none⟩ : Addr).add j) = some u := fun j u hj => by
    rw [Addr.add_lit, Nat.zero_add, blkC hvb]
    rw [← hj]; simp
  obtain ⟨Av, cv, rfl, hA, hn0⟩ := rdK_of_owns hown
  have HOW := Lib.hid hown
  have hcap : (d.size : Int) ≤ (cv : Int) := by
    obtain ⟨_, ⟨h1, h2⟩ | ⟨g', cap', cur, hv', _, _, hnc, _⟩⟩ := hown
    · injection h1 with _ _ hc; omega
    · injection hv' with _ _ hc; omega
  have hx := Lib.hid (encE_1 x)
  go_enter Try.func31, Try.ntmps31
  go_wp2_with (at_builtin; refine wpList_append_own _ rfl _ _ 22 rfl B 25 i0 (.agg #[.int .i64 0, .int .i64 0, .int .i64 0, .int .i64 0, .int .i64 0, .int .i64 0, .int .i64 0, .int .i64 0, .string ⟨#[]⟩, .slice none 0 0]) 10 104 Try.underlying22 hi0 hz0 hz1 hz2 rfl (by decide) (.slice Av d.size cv) _ _ rfl HOW.out ⟨vb, 0, none⟩ 1 1 (encE x) rfl rfl hnews hx.out (by unfold maxLen; omega) (by omega) hB ?_; intro v' w4 hown' hgrow _)
  all_goals
    go_ret
    exact ⟨v', rfl, (by rw [HSZ.out, HF.out]; exact hown'), by first | exact hgrow | (rw [own_blk Av d.size d.size cv]; exact hgrow)⟩

theorem flat_len (d : Array EN) : (flatK encE 10 d).toList.length = d.size * 10 := by simp
set_option maxHeartbeats 16000000 in
theorem insN_room (B : Nat) (g cap i : Nat) (cur : List Value) (d : Array EN) (x : EN) (vb : Nat) (w : World) (hg : w.heap[g]? = some (.cells cur.toArray 25 (0, 0))) (hBg : B ≤ g) (hcs : cur.length = cap * 10) (hcap : cap ≤ maxLen) (htk : cur.take (d.size * 10) = (flatK encE 10 d).toList) (hi : i < d.size) (hroom : d.size + 1 ≤ cap)
    (hvb : w.heap[vb]? = some (.cells (encE x).toArray 25 (0, 0))) (hne : vb ≠ g) (hs : d.size ≤ 1000) :
    Calls Try.prog 31 #[.slice (some ⟨g, 0, none⟩) d.size cap, .int .i64 i, .slice (some ⟨vb, 0, none⟩) 1 1] w fun e w' => ∃ v', e = .returned v' ∧ w'.ownsRow B 25 10 v' (insEN d i x).size (flatK encE 10 (insEN d i x)).toList ∧ Below B w w' := by
  have hsz : (Try.prog.info? 25).map (·.size) = some 10 := by
    obtain ⟨i0, hi0, _, hz1, _⟩ := info_parts ent_info
    rw [hi0]; simp [hz1]
  have hov : ∀ W : World, W.heap[vb]? = w.heap[vb]? → W.heap[g]? = w.heap[g]? → ∀ lb cb off, (callFunc 56 #[.slice (some ⟨vb, 0, none⟩) 1 1, .slice (some ⟨g, off, none⟩) lb cb]).run Try.prog W = .ok (.value (.bool false)) W := fun W h1 h2 lb cb off => by
    rw [run_callFunc_extern Try.func56 (by kernel_rfl) (by kernel_rfl) (by kernel_rfl) (e := Extern.SlicesOverlaps.overlaps #[22, 22] #[4]) (by kernel_rfl),
      Lib.run_overlaps_apart W 22 4 25 Try.underlying22 10 Try.sizeOf25 ⟨vb, 0, none⟩ ⟨g, off, none⟩ 1 1 lb cb hne 25 25 10 (cap * 10) (by simp [World.shape?, h1, hvb, encE]) (by simp [World.shape?, h2, hg, hcs]) (by omega) (by simp [World.frozen?, h1, hvb]) (by simp [World.frozen?, h1, hvb])]
    rfl
  have hx := Lib.hid (encE_1 x)
  have hfl := flat_len d
  obtain ⟨X, hX⟩ : ∃ X, X = (flatK encE 10 d).toList.drop (i * 10) := ⟨_, rfl⟩
  have hXl : X.length = (d.size - i) * 10 := by rw [hX, List.length_drop, hfl, Nat.sub_mul]
  have hX1 : ∀ u ∈ X, u.oneCell' = true := fun u hu => flat_one d u (by rw [hX] at hu; exact List.mem_of_mem_drop hu)
  have hcu : cur = (flatK encE 10 d).toList ++ cur.drop (d.size * 10) := by rw [← htk]; exact (List.take_append_drop _ _).symm
  have hsrc1 : ∀ W : World, W.heap[g]? = w.heap[g]? → ∀ j v, X[j]? = some v → W.cell? ((⟨g, i * 10, none⟩ : Addr).add j) = some v := fun W hW j v hj => by
    have hjl : j < X.length := by
      rcases Nat.lt_or_ge j X.length with h | h
      · exact h
      · rw [List.getElem?_eq_none h] at hj; cases hj
    rw [Addr.add_lit, cell_of_row W _ _ _ _ (0, 0) (hW.trans hg)]
    rw [hX, List.getElem?_drop] at hj
    rw [← hj]
    have h3 : i * 10 + j < (flatK encE 10 d).toList.length := by rw [hfl]; rw [hXl, Nat.sub_mul] at hjl; omega
    rw [List.getElem?_toArray, hcu, List.getElem?_append_left h3]
  have hsrc2 : ∀ W : World, W.heap[vb]? = w.heap[vb]? → ∀ j v, (encE x)[j]? = some v → W.cell? ((⟨vb, 0, none⟩ : Addr).add j) = some v := fun W hW j v hj => by
    rw [Addr.add_lit, Nat.zero_add, cell_of_row W _ _ _ _ (0, 0) (hW.trans hvb), List.getElem?_toArray]
    exact hj
  have HG := Lib.hid hg
  have HV := Lib.hid hvb
  have HF := Lib.hid (flat_split d i x)
  have HSI := Lib.hid (insEN_size (d := d) (x := x) (i := i) (by omega))
  have hls := lay_shift (L := cur) (E := encE x) (X := X) (a := i * 10) (b := 10) (c := (d.size - i) * 10) rfl hXl (by rw [hcs, Nat.sub_mul]; omega)
  have e10 : i * 10 + 10 = (i + 1) * 10 := by omega
  rw [e10] at hls
  have HLS := Lib.hid hls
  have hXI := Lib.hid hX
  have HTK := Lib.hid htk
  clear hls e10
  have hfit1 : (i + 1) * 10 + X.length ≤ cur.length := by rw [hXl, hcs, Nat.sub_mul]; omega
  have hl1 := layAt_len hfit1
  have HL1 := Lib.hid hl1
  have HXl := Lib.hid hXl
  have HX1 := Lib.hid hX1
  have HCS := Lib.hid hcs
  have HN1 := Lib.hid hsrc1
  have HN2 := Lib.hid hsrc2
  have HO := Lib.hid hov
  have HFI := Lib.hid hfit1
  have hw1 : IntKind.i64.wrap ((i : Int) + 1) = (i : Int) + 1 := by rw [IntKind.wrap_i64]; omega
  have hb1 : (0 : Int) ≤ (i : Int) + 1 := by omega
  have htn : ((i : Int) + 1).toNat = i + 1 := by omega
  have hb2 : ¬ (cap = i + 1) := by omega
  have hb4 : ¬ (cap = i) := by omega
  have hz2 : ¬ ((i : Int) = (d.size : Int)) := by omega
  have hov1 := hov w rfl rfl
  have h63 : cap ≤ 9223372036854775807 := by unfold maxLen at hcap; omega
  have hin : i ≤ d.size := by omega
  have hb3 : (i : Int) ≤ (d.size : Int) + 1 := by omega
  have hb5 : i ≤ d.size + 1 := by omega
  clear hX hcu hsrc1 hsrc2 htk hXl hX1 hl1 hcs hfit1 hov hfl
  go_enter Try.func31, Try.ntmps31
  go_wp2_with (simp only [hov1])
  go_region_law (refine step_copyK rfl (.tmp 73) (.tmp 76) 22 22 rfl 10 25 Try.underlying22 hsz g ((i + 1) * 10) (d.size - i) (cap - (i + 1)) ⟨g, i * 10, none⟩ (d.size + 1 - i) (cap - i) (by simp [Act.eval, Act.put]) (by simp [Act.eval, Act.put]) cur 25 HG.out X (d.size - i) (by simp only [Nat.min_def]; split <;> omega) HXl.out (HN1.out _ rfl) HFI.out HX1.out B w ⟨rfl, rfl, rfl, Nat.le_refl _, fun _ _ => rfl⟩ hBg ?_; intro w4 hg4 hb4 ho4)
  all_goals
    have HV4 := Lib.hid ((ho4.out vb hne).trans HV.out)
    go_wp2_with (refine wpList_copyK rfl (.tmp 80) (.tmp 81) 22 22 rfl 10 25 Try.underlying22 hsz g (i * 10) (d.size + 1 - i) (cap - i) ⟨vb, 0, none⟩ 1 1 (by rfl) (by rfl) (layAt cur ((i + 1) * 10) X) 25 hg4.out (encE x) 1 (by simp only [Nat.min_def]; split <;> omega) rfl (HN2.out _ (ho4.out vb hne)) (by rw [HL1.out, HCS.out, encE_len]; omega) hx.out B w hb4.out hBg ?_; intro w5 hg5 hb5 _)
    go_ret
    refine ⟨_, rfl, ?_, hb5.out⟩
    rw [HSI.out]
    refine ⟨by rw [flat_len, HSI.out], Or.inr ⟨g, cap, _, rfl, hBg, hg5.out, hroom, hcap, ?_, ?_⟩⟩
    · rw [List.size_toArray, layAt_len (by rw [HL1.out, HCS.out, encE_len]; omega), HL1.out]; exact HCS.out
    · rw [HLS.out, HF.out]
      have hl : (cur.take (i * 10) ++ (encE x ++ X)).length = (d.size + 1) * 10 := by
        rw [List.length_append, List.length_append, List.length_take, encE_len, HXl.out, HCS.out, Nat.sub_mul]; omega
      show (cur.take (i * 10) ++ (encE x ++ (X ++ cur.drop ((i + 1) * 10 + (d.size - i) * 10)))).take ((d.size + 1) * 10) = _
      rw [← List.append_assoc (encE x), ← List.append_assoc (cur.take (i * 10)), List.take_append_of_le_length (by rw [hl]; exact Nat.le_refl _), List.take_of_length_le (by rw [hl]; exact Nat.le_refl _), hXI.out, ← HTK.out, List.take_take, Nat.min_eq_left (Nat.mul_le_mul_right 10 hin)]

set_option maxHeartbeats 16000000 in
theorem insN_grow (B : Nat) (g i : Nat) (d : Array EN) (x : EN) (vb : Nat) (w : World) (hH : HoldsK encE 10 w g 0 d) (hgl : g < w.heap.size) (hB : B ≤ w.heap.size) (hi : i < d.size)
    (hvb : w.heap[vb]? = some (.cells (encE x).toArray 25 (0, 0))) (hs : d.size ≤ 1000) :
    Calls Try.prog 31 #[.slice (some ⟨g, 0, none⟩) d.size d.size, .int .i64 i, .slice (some ⟨vb, 0, none⟩) 1 1] w fun e w' => ∃ v', e = .returned v' ∧ w'.ownsRow B 25 10 v' (insEN d i x).size (flatK encE 10 (insEN d i x)).toList ∧ Below w.heap.size w w' := by
  obtain ⟨i0, hi0, hz0, hz1, hz2⟩ := info_parts ent_info
  have hsz : (Try.prog.info? 25).map (·.size) = some 10 := by rw [hi0]; simp [hz1]
  have hx := Lib.hid (encE_1 x)
  have hfl := flat_len d
  have hvl : vb < w.heap.size := blkL hvb
  obtain ⟨X, hX⟩ : ∃ X, X = (flatK encE 10 d).toList.drop (i * 10) := ⟨_, rfl⟩
  obtain ⟨Y, hY⟩ : ∃ Y, Y = (flatK encE 10 d).toList.take (i * 10) := ⟨_, rfl⟩
  have hXl : X.length = (d.size - i) * 10 := by rw [hX, List.length_drop, hfl, Nat.sub_mul]
  have hYl : Y.length = i * 10 := by rw [hY, List.length_take, hfl, Nat.min_eq_left (by omega)]
  have hX1 : ∀ u ∈ X, u.oneCell' = true := fun u hu => flat_one d u (by rw [hX] at hu; exact List.mem_of_mem_drop hu)
  have hat : ∀ t u, (flatK encE 10 d).toList[t]? = some u → w.cell? ⟨g, t, none⟩ = some u := fun t u ht => by
    have htl : t < (flatK encE 10 d).size := by
      rcases Nat.lt_or_ge t (flatK encE 10 d).size with h | h
      · exact h
      · rw [List.getElem?_eq_none (by simpa using h)] at ht; cases ht
    have := (hH t htl).1
    rw [Nat.zero_add] at this
    rw [this, getElem!_pos _ t htl]
    rw [Array.getElem?_toList, Array.getElem?_eq_getElem htl] at ht
    exact ht
  have hold : (Builtin.firstCells i0.size i (.slice (some ⟨g, 0, none⟩) i d.size)).run Try.prog w.drew = .ok Y.toArray w.drew := by
    rw [hz1]
    exact run_firstCells_some (w := w.drew) 10 i ⟨g, 0, none⟩ i d.size Y hYl (fun j v hj => by
      rw [Addr.add_lit, Nat.zero_add]
      rw [hY, List.getElem?_take] at hj
      split at hj
      · exact hat j v hj
      · cases hj)
  obtain ⟨G, hG⟩ : ∃ G, G = grownCap w (d.size + 1) d.size 25 := ⟨_, rfl⟩
  have hGn : d.size + 1 ≤ G := by rw [hG]; exact grownCap_ge w _ _ _
  have hGm : G ≤ maxLen := by rw [hG]; exact grownCap_le_maxLen w (d.size + 1) d.size 25 (by unfold maxLen; omega)
  obtain ⟨ROW, hROW⟩ : ∃ ROW : List Value, ROW = Y ++ (Builtin.zeroCells (Value.agg #[.int .i64 0, .int .i64 0, .int .i64 0, .int .i64 0, .int .i64 0, .int .i64 0, .int .i64 0, .int .i64 0, .string ⟨#[]⟩, .slice none 0 0]).cells (d.size + 1 - i)).toList ++ (Builtin.zeroCells (Value.agg #[.int .i64 0, .int .i64 0, .int .i64 0, .int .i64 0, .int .i64 0, .int .i64 0, .int .i64 0, .int .i64 0, .string ⟨#[]⟩, .slice none 0 0]).cells (G - (d.size + 1))).toList := ⟨_, rfl⟩
  have hkk : (d.size : Int) + 1 - (i : Int) = ((d.size + 1 - i : Nat) : Int) := by omega
  have hrz : ∀ ty, (Builtin.append_ #[22, 3] ty #[.slice (some ⟨g, 0, none⟩) i d.size, .int .i64 ((d.size : Int) + 1 - (i : Int))]).run Try.prog w = .ok (.slice (some ⟨w.heap.size, 0, none⟩) (d.size + 1) G) (w.drew.alloc (.cells ROW.toArray 25)) := fun ty => by
    have hik : i + (d.size + 1 - i) = d.size + 1 := by omega
    have h := Lib.run_append_grow_zeros w 22 3 ty 25 i0 _ .i64 .i64 Try.underlying22 Try.underlying3 hi0 hz0 (some ⟨g, 0, none⟩) i d.size Y hold (d.size + 1 - i) (by omega) (by omega) (by omega) (by omega) (by rw [hz2]; omega) (by rw [hz2, hik]; exact growslice_fits (by omega) (by omega))
    rw [hik, ← hG] at h
    have hrow : Y.toArray ++ Builtin.zeroCells (Value.agg #[.int .i64 0, .int .i64 0, .int .i64 0, .int .i64 0, .int .i64 0, .int .i64 0, .int .i64 0, .int .i64 0, .string ⟨#[]⟩, .slice none 0 0]).cells (d.size + 1 - i) ++ Builtin.zeroCells (Value.agg #[.int .i64 0, .int .i64 0, .int .i64 0, .int .i64 0, .int .i64 0, .int .i64 0, .int .i64 0, .int .i64 0, .string ⟨#[]⟩, .slice none 0 0]).cells (G - (d.size + 1)) = ROW.toArray := by
      rw [hROW]
      apply Array.ext'
      rw [Array.toList_append, Array.toList_append]
    rw [hrow] at h
    rw [hkk]
    exact h
  have hRl : ROW.length = G * 10 := by
    rw [hROW, List.length_append, List.length_append, hYl, zeroCells_len, zeroCells_len]
    show i * 10 + (d.size + 1 - i) * 10 + (G - (d.size + 1)) * 10 = G * 10
    rw [Nat.sub_mul, Nat.sub_mul]; omega
  have hRt : ROW.take (i * 10) = Y := by rw [hROW, List.append_assoc, List.take_append_of_le_length (by rw [hYl]; exact Nat.le_refl _), List.take_of_length_le (by rw [hYl]; exact Nat.le_refl _)]
  obtain ⟨W1, hW1⟩ : ∃ W1, W1 = w.drew.alloc (.cells ROW.toArray 25) := ⟨_, rfl⟩
  rw [← hW1] at hrz
  have hN : W1.heap[w.heap.size]? = some (.cells ROW.toArray 25 (0, 0)) := by rw [hW1]; exact heap_alloc_new w.drew _
  have hO : ∀ k, k < w.heap.size → W1.heap[k]? = w.heap[k]? := fun k hk => by rw [hW1]; exact Below.heap_alloc w.drew _ k hk
  have hb1 : Below w.heap.size w W1 := by rw [hW1]; exact ((Below.refl _ _).drew).alloc (Nat.le_refl _) _
  have hsrc2 : ∀ W : World, W.heap[vb]? = W1.heap[vb]? → ∀ j v, (encE x)[j]? = some v → W.cell? ((⟨vb, 0, none⟩ : Addr).add j) = some v := fun W hW j v hj => by
    rw [Addr.add_lit, Nat.zero_add, cell_of_row W _ _ _ _ (0, 0) ((hW.trans (hO vb hvl)).trans hvb), List.getElem?_toArray]
    exact hj
  have hsrc1 : ∀ W : World, W.heap[g]? = W1.heap[g]? → ∀ j v, X[j]? = some v → W.cell? ((⟨g, i * 10, none⟩ : Addr).add j) = some v := fun W hW j v hj => by
    rw [Addr.add_lit]
    have e1 : W.cell? ⟨g, i * 10 + j, none⟩ = w.cell? ⟨g, i * 10 + j, none⟩ := by unfold World.cell?; simp only [hW.trans (hO g hgl)]
    rw [e1]
    exact hat _ _ (by rw [hX, List.getElem?_drop] at hj; exact hj)
  have HLS0 := lay_two (L := ROW) (E := encE x) (X := X) (a := i * 10) (b := 10) (c := (d.size - i) * 10) rfl hXl (by rw [hRl, Nat.sub_mul]; omega)
  rw [show i * 10 + 10 = (i + 1) * 10 by omega] at HLS0
  have HLS := Lib.hid HLS0
  have hl1 := layAt_len (L := ROW) (off := i * 10) (xs := encE x) (by rw [hRl, encE_len]; omega)
  have HL1 := Lib.hid hl1
  have HXl := Lib.hid hXl
  have HX1 := Lib.hid hX1
  have HYl := Lib.hid hYl
  have HRl := Lib.hid hRl
  have HRt := Lib.hid hRt
  have HN0 := Lib.hid hN
  have HN1 := Lib.hid hsrc1
  have HN2 := Lib.hid hsrc2
  have HB1 := Lib.hid hb1
  have HF := Lib.hid (flat_split d i x)
  have HSI := Lib.hid (insEN_size (d := d) (x := x) (i := i) (by omega))
  have hXI := Lib.hid hX
  have hYI := Lib.hid hY
  have HRZ := Lib.hid hrz
  have HGM := Lib.hid hGm
  have hne : vb ≠ w.heap.size := by omega
  have hneg : g ≠ w.heap.size := by omega
  have hw1 : IntKind.i64.wrap ((i : Int) + 1) = (i : Int) + 1 := by rw [IntKind.wrap_i64]; omega
  have hz3 : ¬ ((i : Int) = (d.size : Int)) := by omega
  have htn : ((i : Int) + 1).toNat = i + 1 := by omega
  have hb1' : (0 : Int) ≤ (i : Int) + 1 := by omega
  have hgi : ¬ (G = i) := by omega
  have hgi1 : ¬ (G = i + 1) := by omega
  have hdi : ¬ (d.size = i) := by omega
  have hin : i ≤ d.size := by omega
  have hb3 : (i : Int) ≤ (d.size : Int) + 1 := by omega
  have hb5 : i ≤ d.size + 1 := by omega
  have h63 : G ≤ 9223372036854775807 := by unfold maxLen at hGm; omega
  clear HLS0 hl1 hXl hX1 hYl hRl hRt hN hsrc1 hsrc2 hb1 hX hY hrz hROW hold hat hfl hkk hG hO hGm hW1 hH hvb
  go_enter Try.func31, Try.ntmps31
  go_wp2_with (first
    | (at_builtin; refine wpList_appRun _ rfl _ _ _ _ rfl _ _ rfl rfl _ _ (HRZ.out _) ?_; rintro w1 rfl)
    | (refine wpList_copyK rfl (.tmp 43) (.tmp 44) 22 22 rfl 10 25 Try.underlying22 hsz w.heap.size (i * 10) (d.size + 1 - i) (G - i) ⟨vb, 0, none⟩ 1 1 (by rfl) (by rfl) ROW 25 HN0.out (encE x) 1 (by simp only [Nat.min_def]; split <;> omega) rfl (HN2.out _ rfl) (by rw [HRl.out, encE_len]; omega) hx.out w.heap.size w HB1.out (Nat.le_refl _) ?_; intro w4 hg4 hb4 ho4))
  go_region_law (refine step_copyK rfl (.tmp 50) (.tmp 53) 22 22 rfl 10 25 Try.underlying22 hsz w.heap.size ((i + 1) * 10) (d.size - i) (G - (i + 1)) ⟨g, i * 10, none⟩ (d.size - i) (d.size - i) (by simp [Act.eval, Act.put]) (by simp [Act.eval, Act.put]) (layAt ROW (i * 10) (encE x)) 25 hg4.out X (d.size - i) (by simp only [Nat.min_def]; split <;> omega) HXl.out (HN1.out _ (ho4.out g hneg)) (by rw [HL1.out, HRl.out, HXl.out, Nat.sub_mul]; omega) HX1.out w.heap.size w (by first | exact hb4.out | exact hb4.out.drew) (Nat.le_refl _) ?_; intro w5 hg5 hb5 _)
  all_goals
    go_wp2
    go_ret
    refine ⟨_, rfl, ?_, hb5.out⟩
    rw [HSI.out]
    refine ⟨by rw [flat_len, HSI.out], Or.inr ⟨w.heap.size, G, _, rfl, hB, hg5.out, hGn, HGM.out, ?_, ?_⟩⟩
    · rw [List.size_toArray, layAt_len (by rw [HL1.out, HRl.out, HXl.out, Nat.sub_mul]; omega), HL1.out]; exact HRl.out
    · rw [HLS.out, HF.out]
      have hl : (ROW.take (i * 10) ++ (encE x ++ X)).length = (d.size + 1) * 10 := by
        rw [List.length_append, List.length_append, HRt.out, encE_len, HXl.out, HYl.out, Nat.sub_mul]; omega
      show (ROW.take (i * 10) ++ (encE x ++ (X ++ ROW.drop ((i + 1) * 10 + (d.size - i) * 10)))).take ((d.size + 1) * 10) = _
      rw [← List.append_assoc (encE x), ← List.append_assoc (ROW.take (i * 10)), List.take_append_of_le_length (by rw [hl]; exact Nat.le_refl _), List.take_of_length_le (by rw [hl]; exact Nat.le_refl _), hXI.out, HRt.out, hYI.out]
end Go.Proofs.Ytgpejfkmdenonaa
