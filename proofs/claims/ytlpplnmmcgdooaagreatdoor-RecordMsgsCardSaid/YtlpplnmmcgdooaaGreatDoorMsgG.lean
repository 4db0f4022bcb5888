/- A message that Check finds sound: its numbers are small. The bytes that it is laid as. msg.Put: an unsound message. msg.Put: a sound message. -/
import Derived.Test.YtlpplnmmcgdooaaGreatDoorMsgF
import Derived.Test.YtlpplnmmcgdooaaGreatDoorErrD
import Derived.Test.YtlpplnmmcgdooaaGreatDoorWrt
namespace Go.Proofs.YtlpplnmmcgdooaaGreatDoor
open Go.RowKit Nb

structure OkM (m : PM) : Prop where
  k : 1 ≤ m.k ∧ m.k ≤ 10
  fr : 1 ≤ m.fr ∧ m.fr ≤ 9
  id : 0 ≤ m.id ∧ m.id ≤ 999999
  t : 0 ≤ m.t ∧ m.t ≤ 1000000
  bal : 0 ≤ m.bal ∧ m.bal ≤ 1000000
  abal : 0 ≤ m.abal ∧ m.abal ≤ 1000000
  ph : 0 ≤ m.ph ∧ m.ph ≤ 4
  q : 0 ≤ m.q ∧ m.q ≤ 511
  pay : m.pay.size ≤ 300
  lo : 0 ≤ m.lo ∧ m.lo ≤ 1000000
  hi : 0 ≤ m.hi ∧ m.hi ≤ 1000000
  dn : 0 ≤ m.dn ∧ m.dn ≤ 1000000
  ats : m.ats.size ≤ 200
  att : ∀ a ∈ m.ats.toList, (0 ≤ a.1 ∧ a.1 ≤ 1000000) ∧ 0 ≤ a.2 ∧ a.2 ≤ 999999
  mks : m.mks.size ≤ 9
  mkv : ∀ j, j < m.mks.size → 0 ≤ m.mks[j]! ∧ m.mks[j]! ≤ 1000000
theorem attL_mem {hi : Int} (l : List (Int × Int)) (lo : Int) (h : attL hi lo l = true) : ∀ a ∈ l, (lo < a.1 ∧ a.1 ≤ hi) ∧ okId a.2 = true := by
  induction l generalizing lo with
  | nil => intro a ha; simp at ha
  | cons b l ih =>
    unfold attL at h
    simp only [Bool.and_eq_true, decide_eq_true_eq] at h
    obtain ⟨⟨⟨h1, h2⟩, h3⟩, h4⟩ := h
    intro a ha
    rcases List.mem_cons.1 ha with rfl | ha
    · exact ⟨⟨h1, h2⟩, h3⟩
    · have := ih b.1 h4 a ha
      exact ⟨⟨by omega, this.1.2⟩, this.2⟩
theorem okM_of {m : PM} (h : chkM m = 0) : OkM m := by
  unfold chkM at h
  by_cases hk : m.k < 1 ∨ 10 < m.k
  · rw [if_pos hk] at h; omega
  rw [if_neg hk] at h
  cases hA : (decide (1 ≤ m.fr ∧ m.fr ≤ 9) && sameM (bareM m) m && mayB m)
  · rw [hA] at h; simp at h
  simp only [Bool.and_eq_true, decide_eq_true_eq] at hA
  obtain ⟨⟨hf, hs⟩, hm⟩ := hA
  unfold sameM at hs
  rw [decide_eq_true_eq] at hs
  obtain ⟨-, -, s1, s2, s3, s4, s5, s6, s7, s8, s9, s10, s11, s12⟩ := hs
  unfold bareM at s1 s2 s3 s4 s5 s6 s7 s8 s9 s10 s11 s12
  dsimp only at s1 s2 s3 s4 s5 s6 s7 s8 s9 s10 s11 s12
  unfold mayB at hm
  by_cases h10 : m.k = 10
  · rw [if_pos h10] at hm
    unfold proB mksB at hm
    simp only [Bool.and_eq_true, decide_eq_true_eq] at hm
    obtain ⟨⟨⟨a1, a2, a3, a4, a5, a6, a7, a8⟩, b1, b2⟩, c1⟩ := hm
    simp [h10] at s1 s2 s3 s4 s5 s6 s7
    have e7 : m.pay.size = 0 := by rw [← s7]; rfl
    refine ⟨by omega, hf, by omega, by omega, by omega, by omega, by omega, by omega, by omega, ⟨a1, a2⟩, ⟨a3, a4⟩, ⟨a6, a7⟩, b2, ?_, a8, ?_⟩
    · intro a ha
      have := attL_mem _ _ b1 a ha
      have h2 := this.2
      unfold okId at h2
      rw [decide_eq_true_eq] at h2
      exact ⟨⟨by omega, by omega⟩, by omega, by omega⟩
    · intro j hj
      have := c1 j hj
      unfold okMark at this
      rw [decide_eq_true_eq] at this
      exact this
  · rw [if_neg h10] at hm
    unfold okId okTime carB tolB at hm
    simp [h10] at s8 s9 s10 s11 s12
    have e11 : m.ats.toList = [] := by simp [s11]
    have e11' : m.ats.size = 0 := by simp [s11]
    have e12 : m.mks.size = 0 := by simp [s12]
    have hks : m.k = 1 ∨ m.k = 2 ∨ m.k = 3 ∨ m.k = 4 ∨ m.k = 5 ∨ m.k = 6 ∨ m.k = 7 ∨ m.k = 8 ∨ m.k = 9 := by omega
    have hq : m.pay.size ≤ 300 ∧ (0 ≤ m.id ∧ m.id ≤ 999999) ∧ (0 ≤ m.t ∧ m.t ≤ 1000000) ∧ (0 ≤ m.bal ∧ m.bal ≤ 1000000) ∧ (0 ≤ m.abal ∧ m.abal ≤ 1000000) ∧ (0 ≤ m.ph ∧ m.ph ≤ 4) ∧ (0 ≤ m.q ∧ m.q ≤ 511) := by
      clear s8 s9 s10 s11 s12 s1
      rcases hks with e | e | e | e | e | e | e | e | e
      all_goals
        simp [e] at hm s2 s3 s4 s5 s6 s7
        try (have e7 : m.pay.size = 0 := by rw [← s7]; rfl)
        omega
    obtain ⟨q1, q2, q3, q4, q5, q6, q7⟩ := hq
    refine ⟨by omega, hf, q2, q3, q4, q5, q6, q7, q1, by omega, by omega, by omega, by omega, ?_, by omega, ?_⟩
    · intro a ha; rw [e11] at ha; simp at ha
    · intro j hj; omega
/-- The attachments as one row. -/
def flA (d : List (Int × Int)) : List Int := d.flatMap fun a => [a.1, a.2]
def m8 (m : PM) : Array Int := #[m.k, m.fr, m.id, m.t, m.bal, m.abal, m.ph, m.q]
def m3 (m : PM) : Array Int := #[m.lo, m.hi, m.dn]
/-- A message's bytes. -/
def msgB (m : PM) : List UInt8 := (nats (m8 m)).flatMap numB ++ textB m.pay.data.toList ++ (nats (m3 m)).flatMap numB ++ rowB (nats (flA m.ats.toList).toArray) ++ rowB (nats m.mks)
theorem layN_of_mem {d : Array Int} (h : ∀ x ∈ d.toList, 0 ≤ x ∧ x ≤ 9223372036854775807) : LayN d := by
  intro i hi
  rw [getElem!_pos d i hi]
  exact h _ (by simp)
theorem OkM.l8 {m : PM} (h : OkM m) : LayN (m8 m) := by
  obtain ⟨h1, h2, h3, h4, h5, h6, h7, h8, -⟩ := h
  refine layN_of_mem ?_
  intro x hx
  simp [m8] at hx
  omega
theorem OkM.l3 {m : PM} (h : OkM m) : LayN (m3 m) := by
  have h1 := h.lo
  have h2 := h.hi
  have h3 := h.dn
  refine layN_of_mem ?_
  intro x hx
  simp [m3] at hx
  omega
theorem flA_len (l : List (Int × Int)) : (flA l).length = 2 * l.length := by
  induction l with
  | nil => rfl
  | cons a l ih => unfold flA at *; simp at *; omega
theorem OkM.la {m : PM} (h : OkM m) : LayN (flA m.ats.toList).toArray := by
  refine layN_of_mem ?_
  intro x hx
  simp only [flA, List.mem_flatMap] at hx
  obtain ⟨a, ha, hx⟩ := hx
  have := h.att a ha
  simp at hx
  omega
theorem OkM.lm {m : PM} (h : OkM m) : LayN m.mks := by
  intro i hi
  have := h.mkv i hi
  omega
end Go.Proofs.YtlpplnmmcgdooaaGreatDoor
namespace Go.Proofs.YtlpplnmmcgdooaaGreatDoor
open Go.RowKit Nb

theorem chk_3 (m : PM) : chkM m = 0 ∨ chkM m = 2 ∨ chkM m = 30 := by
  unfold chkM
  split
  · exact Or.inr (Or.inr rfl)
  split
  · exact Or.inl rfl
  · exact Or.inr (Or.inl rfl)
/-- What msg.Put tells of an unsound message. -/
def PutBad (m : PM) (e : Ending) (w' : World) : Prop := ∃ v, e = .returned (.tuple #[.string ⟨#[]⟩, v]) ∧ ErrV w' [msgW] (chkM m) v
set_option maxRecDepth 100000 in
set_option maxHeartbeats 1000000 in
theorem mPutBad_any (m : PM) (w : World) (hm : RdM w m) (h0 : chkM m ≠ 0) :
    Calls Tryz.prog 10 #[msgV m] w fun e w' => PutBad m e w' ∧ Below w.heap.size w w' := by
  have HC0 := Lib.hid (fun W (h : Below w.heap.size w W) => Check_any m W (hm.next h))
  have hc := (chk_3 m).resolve_left h0
  unfold ChkP at HC0
  unfold PutBad
  simp only [if_neg h0] at HC0
  obtain ⟨c, hcc⟩ : ∃ c, chkM m = c := ⟨_, rfl⟩
  rw [hcc] at hc HC0 ⊢
  unfold msgV at HC0 ⊢
  clear hm h0 hcc
  rcases hc with rfl | rfl
  all_goals
    go_enter Tryz.func10, Tryz.ntmps10
    go_wp2_with fail
    refine (HC0.out _ (bel1 w _)).mono ?_
    rintro e w1 ⟨⟨v, rfl, hv⟩, hb1⟩
    have HV := Lib.hid hv
    have HB1 := Lib.hid (belStep (bel1 w _) hb1)
    have HI30 := Lib.hid (Is_any _ _ 30 v w1 hv (by decide))
    have HI2 := Lib.hid (Is_any _ _ 2 v w1 hv (by decide))
    clear hv hb1
    go_wp2_with (go_at_call 37; first | ((with_reducible refine HI30.out.mono ?_); rintro e w' ⟨rfl, rfl⟩) | ((with_reducible refine HI2.out.mono ?_); rintro e w' ⟨rfl, rfl⟩))
    go_ret2
    exact ⟨⟨v, rfl, HV.out⟩, HB1.out⟩
end Go.Proofs.YtlpplnmmcgdooaaGreatDoor
namespace Go.Proofs.YtlpplnmmcgdooaaGreatDoor
open Go.RowKit Nb

def WP (B b : Nat) (l : List UInt8) (W : World) (e : Ending) (w' : World) : Prop := e = .returned (.tuple #[]) ∧ Wrt B b l w' ∧ Below B W w' ∧ KeepT b W w'
theorem rowB_ne (l : List Nat) : rowB l ≠ [] := by
  intro h
  have h1 := congrArg List.length h
  have h2 := numB_pos l.length
  unfold rowB at h1
  rw [List.length_append, List.length_nil] at h1
  omega
theorem heap_new (w : World) (o : Obj) : (w.alloc o).heap[w.heap.size]? = some o := by show (w.heap.push o)[w.heap.size]? = _; simp
theorem heap_new2 (w : World) (a o : Obj) : ((w.alloc a).alloc o).heap[w.heap.size + 1]? = some o := by
  have h := heap_new (w.alloc a) o
  have e : (w.alloc a).heap.size = w.heap.size + 1 := by simp
  rw [e] at h
  exact h
theorem two_new (w : World) (a : Obj) (u v : Value) (e : TypeId) : ∀ (j : Nat) (x : Value), [u, v][j]? = some x → ((w.alloc a).alloc (.cells #[u, v] e)).cell? (Addr.add ⟨w.heap.size + 1, 0, none⟩ j) = some x := by
  intro j x hj
  match j, hj with
  | 0, hj => simp at hj; subst hj; simp [Addr.add]
  | 1, hj => simp at hj; subst hj; simp [Addr.add]
/-- msg.Put's loop, at a round's head. -/
def MPutR (d : Array (Int × Int)) (w : World) (lv iv : Value) (wr : World) : Prop := ∃ k : Nat, iv = .int .i64 (k : Int) ∧ k ≤ d.size ∧ wr.ownsRow w.heap.size 3 1 lv (flA (d.toList.take k)).length ((flA (d.toList.take k)).map (Value.int .i64)) ∧ Below w.heap.size w wr
theorem flA_take (d : Array (Int × Int)) (k : Nat) (h : k < d.size) : flA (d.toList.take (k + 1)) = flA (d.toList.take k) ++ [d[k]!.1, d[k]!.2] := by
  rw [List.take_add_one, List.getElem?_eq_getElem (by simpa using h), getElem!_pos d k h]
  simp [flA]
set_option maxRecDepth 100000 in
set_option maxHeartbeats 2000000 in
theorem mPutOk_any (m : PM) (w : World) (hm : RdM w m) (h0 : chkM m = 0) :
    Calls Tryz.prog 10 #[msgV m] w fun e w' => e = .returned (.tuple #[.string ⟨(msgB m).toArray⟩, .nilIface]) ∧ Below w.heap.size w w' := by
  have hok := okM_of h0
  have HOK := Lib.hid hok
  have HC0 := Lib.hid (fun W (h : Below w.heap.size w W) => Check_any m W (hm.next h))
  unfold ChkP at HC0
  simp only [h0, if_true] at HC0
  have HN8 : Hid (∀ (B b : Nat) (l : List UInt8) (W : World) (g : Nat), Wrt B b l W → W.heap[g]? = some (.cells #[.int .i64 m.k, .int .i64 m.fr, .int .i64 m.id, .int .i64 m.t, .int .i64 m.bal, .int .i64 m.abal, .int .i64 m.ph, .int .i64 m.q] 3 (0, 0)) → l.length ≤ 900000000 → B ≤ W.heap.size → g ≠ b → Calls Tryz.prog 38 #[.pointer (some ⟨b, 0, none⟩), .slice (some ⟨g, 0, none⟩) 8 8] W (WP B b (l ++ (nats (m8 m)).flatMap numB) W)) := fun B b l W g h hg hl hB hne => WNum_any B b l g 8 (m8 m) W h (by rw [hg]; simp [m8, encI]) hok.l8 (by show 8 ≤ 10000; omega) hl hB hne
  have HN3 : Hid (∀ (B b : Nat) (l : List UInt8) (W : World) (g : Nat), Wrt B b l W → W.heap[g]? = some (.cells #[.int .i64 m.lo, .int .i64 m.hi, .int .i64 m.dn] 3 (0, 0)) → l.length ≤ 900000000 → B ≤ W.heap.size → g ≠ b → Calls Tryz.prog 38 #[.pointer (some ⟨b, 0, none⟩), .slice (some ⟨g, 0, none⟩) 3 3] W (WP B b (l ++ (nats (m3 m)).flatMap numB) W)) := fun B b l W g h hg hl hB hne => WNum_any B b l g 3 (m3 m) W h (by rw [hg]; simp [m3, encI]) hok.l3 (by show 3 ≤ 10000; omega) hl hB hne
  have l8 : ((nats (m8 m)).flatMap numB).length ≤ 72 := by have := flat_len _ hok.l8.nats; rw [nats_len] at this; exact this
  have l3 : ((nats (m3 m)).flatMap numB).length ≤ 27 := by have := flat_len _ hok.l3.nats; rw [nats_len] at this; exact this
  have HMB : Hid (msgB m = (nats (m8 m)).flatMap numB ++ textB m.pay.data.toList ++ (nats (m3 m)).flatMap numB ++ rowB (nats (flA m.ats.toList).toArray) ++ rowB (nats m.mks)) := rfl
  generalize msgB m = bs at HMB ⊢
  generalize (nats (m8 m)).flatMap numB = x8 at HN8 HMB l8
  generalize (nats (m3 m)).flatMap numB = x3 at HN3 HMB l3
  have HRM := Lib.hid hm
  have hLA := hok.la
  have hLM := hok.lm
  have hsa := hok.ats
  have hsm := hok.mks
  have hsp := hok.pay
  clear hm h0 hok HOK
  unfold msgV at HC0 ⊢
  obtain ⟨mk, mfr, mid, mt, mbal, mabal, mph, mq, mpay, mlo, mhi, aA, aC, ats, mA, mC, mks, mdn⟩ := m
  dsimp only at *
  have HRA := Lib.hid HRM.out.ra
  have HRI := Lib.hid HRM.out.rm
  dsimp only at HRA HRI
  clear HRM
  go_enter Tryz.func10, Tryz.ntmps10
  go_wp2_with fail
  refine (HC0.out _ (bel1 w _)).mono ?_
  rintro e w1 ⟨⟨v, rfl, hv⟩, hb1⟩
  obtain rfl : v = .nilIface := by
    rcases hv with ⟨_, _, h⟩ | ⟨h, _⟩
    · exact h
    · exact absurd rfl h
  have HI30 := Lib.hid (Is_any _ _ 30 _ w1 hv (by decide))
  have HI2 := Lib.hid (Is_any _ _ 2 _ w1 hv (by decide))
  have hlt : w.heap.size < w1.heap.size := by have := hb1.size; simp at this; omega
  have HQ : Hid (∀ W, Below w1.heap.size w1 W → W.cell? ⟨w.heap.size, 8, none⟩ = some (.string mpay) ∧ W.cell? ⟨w.heap.size, 9, none⟩ = some (.int .i64 mlo) ∧ W.cell? ⟨w.heap.size, 10, none⟩ = some (.int .i64 mhi) ∧ W.cell? ⟨w.heap.size, 11, none⟩ = some (.slice aA ats.size aC) ∧ W.cell? ⟨w.heap.size, 12, none⟩ = some (.slice mA mks.size mC) ∧ W.cell? ⟨w.heap.size, 13, none⟩ = some (.int .i64 mdn)) := fun W hb => ⟨(hb.cell (p := ⟨w.heap.size, 8, none⟩) hlt).trans ((hb1.cell (p := ⟨w.heap.size, 8, none⟩) (by simp)).trans (by simp)), (hb.cell (p := ⟨w.heap.size, 9, none⟩) hlt).trans ((hb1.cell (p := ⟨w.heap.size, 9, none⟩) (by simp)).trans (by simp)), (hb.cell (p := ⟨w.heap.size, 10, none⟩) hlt).trans ((hb1.cell (p := ⟨w.heap.size, 10, none⟩) (by simp)).trans (by simp)), (hb.cell (p := ⟨w.heap.size, 11, none⟩) hlt).trans ((hb1.cell (p := ⟨w.heap.size, 11, none⟩) (by simp)).trans (by simp)), (hb.cell (p := ⟨w.heap.size, 12, none⟩) hlt).trans ((hb1.cell (p := ⟨w.heap.size, 12, none⟩) (by simp)).trans (by simp)), (hb.cell (p := ⟨w.heap.size, 13, none⟩) hlt).trans ((hb1.cell (p := ⟨w.heap.size, 13, none⟩) (by simp)).trans (by simp))⟩
  have q0 : w1.cell? ⟨w.heap.size, 0, none⟩ = some (.int .i64 mk) := (hb1.cell (p := ⟨w.heap.size, 0, none⟩) (by simp)).trans (by simp)
  have q1 : w1.cell? ⟨w.heap.size, 1, none⟩ = some (.int .i64 mfr) := (hb1.cell (p := ⟨w.heap.size, 1, none⟩) (by simp)).trans (by simp)
  have q2 : w1.cell? ⟨w.heap.size, 2, none⟩ = some (.int .i64 mid) := (hb1.cell (p := ⟨w.heap.size, 2, none⟩) (by simp)).trans (by simp)
  have q3 : w1.cell? ⟨w.heap.size, 3, none⟩ = some (.int .i64 mt) := (hb1.cell (p := ⟨w.heap.size, 3, none⟩) (by simp)).trans (by simp)
  have q4 : w1.cell? ⟨w.heap.size, 4, none⟩ = some (.int .i64 mbal) := (hb1.cell (p := ⟨w.heap.size, 4, none⟩) (by simp)).trans (by simp)
  have q5 : w1.cell? ⟨w.heap.size, 5, none⟩ = some (.int .i64 mabal) := (hb1.cell (p := ⟨w.heap.size, 5, none⟩) (by simp)).trans (by simp)
  have q6 : w1.cell? ⟨w.heap.size, 6, none⟩ = some (.int .i64 mph) := (hb1.cell (p := ⟨w.heap.size, 6, none⟩) (by simp)).trans (by simp)
  have q7 : w1.cell? ⟨w.heap.size, 7, none⟩ = some (.int .i64 mq) := (hb1.cell (p := ⟨w.heap.size, 7, none⟩) (by simp)).trans (by simp)
  have HB1 := Lib.hid (belStep (bel1 w _) hb1)
  clear hv hb1
  go_wp2_with (go_at_call 37; first | ((with_reducible refine HI30.out.mono ?_); rintro e w' ⟨rfl, rfl⟩) | ((with_reducible refine HI2.out.mono ?_); rintro e w' ⟨rfl, rfl⟩))
  refine (HN8.out w1.heap.size w1.heap.size [] _ (w1.heap.size + 1) ((Wrt.new w1).below (bel1 _ _)) (heap_new2 _ _ _) (by simp) (by simp; omega) (by omega)).mono ?_
  rintro e w2 ⟨rfl, h2, hb2, hk2⟩
  have hB2 : Below w1.heap.size w1 w2 := (belAlloc (bel1 w1 _) _).trans hb2
  have hz2 : w1.heap.size + 2 ≤ w2.heap.size := by have := hb2.size; simp at this; omega
  obtain ⟨p8, -, -, -, -, -⟩ := HQ.out w2 hB2
  have HT := Lib.hid (WText_any w1.heap.size w1.heap.size _ mpay w2 h2 (by simp; omega) hB2.size)
  clear q0 q1 q2 q3 q4 q5 q6 q7 hb2 hk2 h2 HI30 HI2
  go_wp2_with fail
  refine HT.out.mono ?_
  rintro e w3 ⟨rfl, h3, hb3, hk3⟩
  have hB3 : Below w1.heap.size w1 w3 := hB2.trans hb3
  have hz3 : w2.heap.size ≤ w3.heap.size := hb3.size
  obtain ⟨-, p9, p10, -, -, p13⟩ := HQ.out w3 hB3
  have HN := Lib.hid (fun (W : World) (hb : Below w3.heap.size w3 W) => HN3.out w1.heap.size w1.heap.size _ W w3.heap.size (h3.below hb))
  clear p8 hb3 hk3 h3 hB2 HT HN8 HN3
  go_wp2_with fail
  refine (HN.out _ (bel1 w3 _) (heap_new _ _) (by simp [textB]; have := numB_len mpay.size (by omega); simp at *; omega) (by simp; omega) (by omega)).mono ?_
  rintro e w4 ⟨rfl, h4, hb4, hk4⟩
  have hB4 : Below w1.heap.size w1 w4 := (belAlloc hB3 _).trans hb4
  have hz4 : w3.heap.size ≤ w4.heap.size := by have := hb4.size; simp at this; omega
  obtain ⟨-, -, -, p11, -, -⟩ := HQ.out w4 hB4
  have H4 := Lib.hid h4
  have HB4 := Lib.hid hB4
  clear p9 p10 p13 hb4 hk4 h4 hB3 HN hB4
  go_wp2
  obtain ⟨i0, hi0, hzz0, hzz1, hzz2⟩ := info_parts int_info
  go_loopw [6, 52] (fun lv iv wr => MPutR ats w4 lv iv wr) (fun _ i _ => ats.size - (intOf i).toNat)
  case atStart => exact ⟨0, rfl, Nat.zero_le _, ⟨rfl, Or.inl ⟨rfl, rfl⟩⟩, Below.refl _ _⟩
  case round =>
    obtain ⟨k, rfl, hk, hown, hB⟩ := hrel
    have HBW := Lib.hid (belStep HB1.out (HB4.out.trans (hB.mono (by omega))))
    by_cases hlt : k < ats.size
    · have kz : (k : Int) < (ats.size : Int) := by omega
      obtain ⟨b, off, rfl, hbl, f⟩ := (HRA.out.below HBW.out).at_ hlt
      have e0 := f 0 (by omega)
      have e1 := f 1 (by omega)
      have HD := Lib.hid (flA_take ats k hlt)
      generalize ats[k]! = x at e0 e1 HD
      simp only [Nat.add_zero, encA, List.getElem!_cons_zero, List.getElem!_cons_succ] at e0 e1
      have hlen := flA_len (ats.toList.take k)
      have hlk : (flA (ats.toList.take k)).length ≤ 400 := by rw [hlen, List.length_take]; omega
      generalize flA (ats.toList.take k) = l at hlk HD hown
      have HBr := Lib.hid hB
      clear f hlen hB
      go_wp2_with (at_builtin; refine wpList_append_own _ rfl _ _ 23 rfl w4.heap.size 3 i0 (.int .i64 0) 1 8 Tryz.underlying23 hi0 hzz0 hzz1 hzz2 rfl (by decide) _ _ _ rfl ((hown.alloc _).alloc _) ⟨wr.heap.size + 1, 0, none⟩ 2 2 [.int .i64 x.1, .int .i64 x.2] rfl rfl ?c1 ?c2 ?c3 ?c4 ?c5 ?_)
      case c1 => exact two_new _ _ _ _ _
      case c2 => intro u hu; simp at hu; rcases hu with rfl | rfl <;> rfl
      case c3 => unfold maxLen; omega
      case c4 => omega
      case c5 => exact (belAlloc (belAlloc HBr.out _) _).size
      intro v' w5 hown' hgrow _
      have HB5 := Lib.hid ((belAlloc (belAlloc HBr.out _) _).grown hgrow (belAlloc (belAlloc HBr.out _) _).size (fun t htt => (hown.lt t htt).1))
      have HO5 := Lib.hid hown'
      clear hown' hgrow hown
      go_wp2
      go_roundw
      case rel => exact ⟨k + 1, by go_num, by omega, by rw [HD.out]; simpa using HO5.out, HB5.out⟩
      case measure => simp [intOf]; omega
    · obtain rfl : k = ats.size := by omega
      have et : ats.toList.take ats.size = ats.toList := List.take_of_length_le (by simp)
      rw [et] at hown
      obtain ⟨A, c, rfl, hrd, -, -⟩ := RdI.of_owns hown
      have hla := flA_len ats.toList
      have hzr := hB.size
      have htl : (textB mpay.data.toList).length ≤ 309 := by
        have := numB_len mpay.size (by omega)
        simp [textB] at *
        omega
      have hrl := flat_len _ hLA.nats
      rw [nats_len] at hrl
      have h9 := numB_len (flA ats.toList).toArray.size (by simp; simp at hla; omega)
      have hrow : (rowB (nats (flA ats.toList).toArray)).length ≤ 4000 := by
        unfold rowB
        rw [List.length_append, nats_len]
        simp at *
        omega
      have hfs : (flA ats.toList).toArray.size ≤ 10000 := by simp at *; omega
      have hBw : Below w1.heap.size w1 wr := HB4.out.trans (hB.mono (by omega))
      have HR1 := Lib.hid (WRow_any w1.heap.size w1.heap.size _ A c _ wr (H4.out.below hB) hrd hLA hfs (by simp at *; omega) (by omega))
      rw [List.size_toArray] at HR1
      have HBw := Lib.hid hBw
      have hlt' : decide ((ats.size : Int) < (ats.size : Int)) = false := by simp
      clear hown hB hrd hLA et hlt hBw hfs h9 hrl hla
      go_wp2_with fail
      refine HR1.out.mono ?_
      rintro e w6 ⟨rfl, h6, hb6, hk6⟩
      have hB6 : Below w1.heap.size w1 w6 := HBw.out.trans hb6
      have hz6 := hb6.size
      obtain ⟨-, -, -, -, p12, -⟩ := HQ.out w6 hB6
      have HBS6 := Lib.hid (belStep HB1.out hB6)
      have HR2 := Lib.hid (WRow_any w1.heap.size w1.heap.size _ mA mC mks w6 h6 ((HRI.out.below HBS6.out).mono HBS6.out.size) hLM (by omega) (by simp at *; omega) (by omega))
      have HB6 := Lib.hid hB6
      clear HR1 h6 hb6 hk6 hB6 p11
      go_wp2_with fail
      refine HR2.out.mono ?_
      rintro e w7 ⟨rfl, h7, hb7, hk7⟩
      have HD := Lib.hid (WDone_any w1.heap.size w1.heap.size _ w7 h7 (fun h => rowB_ne _ (List.append_eq_nil_iff.1 h).2))
      have HB7 := Lib.hid (HB6.out.trans hb7)
      clear HR2 h7 hb7 hk7 p12
      go_wp2_with (go_at_call 41; refine HD.out.mono ?_; rintro e w8 ⟨rfl, hb8⟩; have HB8 := Lib.hid (HB7.out.trans hb8); clear hb8)
      go_ret2
      refine ⟨?_, belStep HB1.out HB8.out⟩
      rw [HMB.out]
      simp
end Go.Proofs.YtlpplnmmcgdooaaGreatDoor
