/- Contracts of the document's ranges: put, edges. -/
import Derived.Test.YtpnjodefnpphkaaRangesL
import Derived.Test.YtpnjodefnpphkaaStableK
import Derived.Deep.RegionHeld3
import Derived.Deep.DrawnRows
namespace Go.Proofs.Ytpnjodefnpphkaa
open Go.RowKit Go.Sort Go.Lib

attribute [local go_sem ↓] Go.wp_at_zero Go.wp_at_succ
/-- A slice is appended to a row of the call's own, at a step of a region that draws its order. -/
theorem step_append_B {P : Program} {w : World} {ops : Array Oper} {o : Oper} {a : Act} {K : Act → World → Prop} {Q : Exit → Act → World → Prop} {E : Prop} (hgd : o.guard = none) (s x : Operand) (t : TypeId)
    (ho : o.op = .call { callee := .builtin .append, args := #[s, x], argTypes := #[t, t] })
    (w0 : World) (e : TypeId) (i : TypeInfo) (z : Value) (size bytes : Nat) (ht : P.underlying t = some (.slice e)) (hi : P.info? e = some i) (hz : i.zero = some z)
    (hsize : i.size = size) (hby : i.bytes = bytes) (hzs : z.cells.size = size) (hsz : 0 < size)
    (v : Value) (n : Nat) (xs : List Value) (hs : a.eval s = v) (hown : w.ownsRow w0.heap.size e size v n xs)
    (ad : Addr) (m c : Nat) (news : List Value) (hx : a.eval x = .slice (some ad) m c) (hl : news.length = m * size) (hnews : ∀ j u, news[j]? = some u → w.cell? (ad.add j) = some u) (h1 : ∀ u ∈ news, u.oneCell' = true)
    (h63 : n + m ≤ maxLen) (hbytes : (n + m) * bytes ≤ 140737488355328) (hB : Below w0.heap.size w0 w)
    (h : ∀ v' w', w'.ownsRow w0.heap.size e size v' (n + m) (xs ++ news) → w.grownBy w' v.ownBlock → Below w0.heap.size w0 w' → K (a.put o.dst v') w') :
    if Region.wanted o (yielded ops a.tmps) = true then Oper.wp P o a w K Q else E := by
  have hw : Region.wanted o (yielded ops a.tmps) = true := by simp [Region.wanted, hgd]
  rw [if_pos hw]
  obtain ⟨v', w', hr, h2, h3, _, _⟩ := run_append_own_at (P := P) w w0.heap.size t o.type e i z size bytes ht hi hz hsize hby hzs hsz v n xs hown ad m c news hl hnews h1 h63 hbytes hB.size
  unfold Oper.wp execOp
  simp only [ho, resolve, invoke, builtin, Sem.run_bind, Sem.run_pure, Result.andThen_ok, List.map_toArray, List.map_cons, List.map_nil, hs, hx, hr]
  exact h v' w' h2 h3 (hB.grown h3 hB.size (fun k hk => (hown.lt k hk).1))
theorem emptyA (w : World) (e : TypeId) : (w.alloc (.cells #[] e)).drew.ownsRow w.heap.size e 1 (.slice (some ⟨w.heap.size, 0, none⟩) 0 0) 0 [] := (empty_owns w e).drew
theorem emptyB (w : World) (e : TypeId) (o : Obj) : ((w.alloc (.cells #[] e)).alloc o).drew.ownsRow w.heap.size e 1 (.slice (some ⟨w.heap.size, 0, none⟩) 0 0) 0 [] := ((empty_owns w e).alloc o).drew
theorem emptyC (w : World) (e : TypeId) (o : Obj) (H : (w.alloc o).heap.size = w.heap.size + 1) : ((w.alloc o).alloc (.cells #[] e)).drew.ownsRow w.heap.size e 1 (.slice (some ⟨w.heap.size + 1, 0, none⟩) 0 0) 0 [] := by
  have := own_mono (empty_owns (w.alloc o) e).drew (base' := w.heap.size) (by simp)
  rw [H] at this
  exact this
theorem take_len {d : Array Int} {k : Nat} (hk : k ≤ d.size) : ((d.toList.take k).map (Value.int .i64)).length = k * 1 := by simp; omega
theorem ints_one (l : List Int) : ∀ u ∈ l.map (Value.int .i64), u.oneCell' = true := by
  intro u hu
  obtain ⟨y, _, rfl⟩ := List.mem_map.1 hu
  rfl
theorem newsA {d : Array Int} {b off k : Nat} {w W : World} (h : ∀ i, i < d.size → w.cell? ⟨b, off + i, none⟩ = some (.int .i64 d[i]!)) (hB : Below w.heap.size w W) (hb : b < w.heap.size) (hk : k ≤ d.size) :
    ∀ j u, ((d.toList.take k).map (Value.int .i64))[j]? = some u → W.cell? ((⟨b, off, none⟩ : Addr).add j) = some u := by
  intro j u hj
  rw [List.getElem?_map, List.getElem?_take] at hj
  split at hj
  · rename_i hlt
    have hd : j < d.size := by omega
    rw [Array.getElem?_toList, Array.getElem?_eq_getElem hd] at hj
    have hu : Value.int .i64 d[j] = u := by simpa using hj
    rw [Addr.add_lit, hB.cell (p := ⟨b, off + j, none⟩) hb, h j hd, getElem!_pos d j hd, hu]
  · simp at hj
theorem newsB {d : Array Int} {b off k : Nat} {w W : World} (h : ∀ i, i < d.size → w.cell? ⟨b, off + i, none⟩ = some (.int .i64 d[i]!)) (hB : Below w.heap.size w W) (hb : b < w.heap.size) :
    ∀ j u, ((d.toList.drop k).map (Value.int .i64))[j]? = some u → W.cell? ((⟨b, off + k, none⟩ : Addr).add j) = some u := by
  intro j u hj
  rw [List.getElem?_map, List.getElem?_drop] at hj
  rcases Nat.lt_or_ge (k + j) d.size with hd | hd
  · rw [Array.getElem?_toList, Array.getElem?_eq_getElem hd] at hj
    have hu : Value.int .i64 d[k + j] = u := by simpa using hj
    rw [Addr.add_lit, Nat.add_assoc, hB.cell (p := ⟨b, off + (k + j), none⟩) hb, h _ hd, getElem!_pos d _ hd, hu]
  · rw [Array.getElem?_toList, Array.getElem?_eq_none hd] at hj; simp at hj
theorem oneA (w1 : World) (n : Int) (e : TypeId) : ∀ j u, [Value.int .i64 n][j]? = some u → (w1.alloc (.cells #[.int .i64 n] e)).drew.cell? ((⟨w1.heap.size, 0, none⟩ : Addr).add j) = some u := app_cell w1 _ e
theorem add0 {H j : Nat} {n : Int} {u : Value} {W : World} (h : [Value.int .i64 n][j]? = some u) (hc : W.cell? ⟨H, 0, none⟩ = some (.int .i64 n)) : W.cell? ((⟨H, 0, none⟩ : Addr).add j) = some u := by
  have hj : j = 0 := by
    rcases Nat.eq_zero_or_pos j with h0 | h0
    · exact h0
    · obtain ⟨i, rfl⟩ : ∃ i, j = i + 1 := ⟨j - 1, by omega⟩
      simp at h
  subst hj
  have : Value.int .i64 n = u := by simpa using h
  rw [← this]
  exact hc
theorem oneB {w W' : World} {n : Int} {e : TypeId} {o : Obj} (hg : ((w.alloc o).alloc (.cells #[.int .i64 n] e)).drew.grownBy W' (Value.slice (some ⟨w.heap.size, 0, none⟩) 0 0).ownBlock) : ∀ j u, [Value.int .i64 n][j]? = some u → W'.cell? ((⟨w.heap.size + 1, 0, none⟩ : Addr).add j) = some u := fun j u h => add0 h (by
  have e1 : w.heap.size + 1 = (w.alloc o).heap.size := by simp
  rw [hg.cell_far ⟨w.heap.size + 1, 0, none⟩ (by simp) (by simp [Value.ownBlock]), e1]
  exact cell_new (w.alloc o) _ _ 0)
theorem oneC {w W' : World} {n : Int} {e : TypeId} {o : Obj} (hg : ((w.alloc (.cells #[.int .i64 n] e)).alloc o).drew.grownBy W' (Value.slice (some ⟨w.heap.size + 1, 0, none⟩) 0 0).ownBlock) : ∀ j u, [Value.int .i64 n][j]? = some u → W'.cell? ((⟨w.heap.size, 0, none⟩ : Addr).add j) = some u := fun j u h => add0 h (by
  rw [hg.cell_far ⟨w.heap.size, 0, none⟩ (by simp; omega) (by simp [Value.ownBlock])]
  exact (World.cell?_alloc_lt (w.alloc (.cells #[.int .i64 n] e)) o ⟨w.heap.size, 0, none⟩ (by simp)).trans (cell_new w _ _ 0))
theorem own_fin {w : World} {base : Nat} {e : TypeId} {v : Value} {l : List Int} (h : w.ownsRow base e 1 v l.length (l.map (Value.int .i64))) (h0 : 0 < l.length) : ∃ g cap, v = .slice (some ⟨g, 0, none⟩) l.length cap ∧ l.length ≤ cap ∧ g < w.heap.size ∧ ∀ i, i < l.length → w.cell? ⟨g, 0 + i, none⟩ = some (.int .i64 l.toArray[i]!) := by
  obtain ⟨A, c, hv, hr⟩ := rdI_of_owns h
  obtain ⟨_, ⟨rfl, h1⟩ | ⟨g, cap, cur, hv', hb, hh, hnc, _⟩⟩ := h
  · omega
  · rw [hv'] at hv
    injection hv with e1 _ e3
    obtain ⟨b, off, e4, hlt, hc⟩ := hr (by simpa using h0)
    rw [e4] at e1
    injection e1 with e1
    injection e1 with e5 e6
    subst e5 e6
    exact ⟨g, cap, hv', hnc, hlt, fun i hi => hc i (by simpa using hi)⟩
theorem put_list {d : Array Int} {n : Int} {k : Nat} (hk : k ≤ d.size) (h1 : ∀ j, j < k → d[j]! < n) (h2 : k < d.size → n ≤ d[k]!) : putL n d.toList = if k < d.size ∧ d[k]! = n then d.toList else d.toList.take k ++ n :: d.toList.drop k := by
  have a1 : ∀ j (h : j < d.toList.length), j < k → d.toList[j] < n := fun j h hj => by
    have := h1 j hj
    rw [getElem!_pos d j (by simpa using h)] at this
    simpa using this
  have a2 : ∀ h : k < d.toList.length, n ≤ d.toList[k] := fun h => by
    have h' : k < d.size := by simpa using h
    have := h2 h'
    rw [getElem!_pos d k h'] at this
    simpa using this
  have := putL_at n d.toList k (by simpa using hk) a1 a2
  rw [this]
  have e1 : d.toList[k]! = d[k]! := by
    rcases Nat.lt_or_ge k d.size with h | h
    · simp [h]
    · simp [h]
  simp [e1]
theorem put_fin {w w3 : World} {e : TypeId} {v : Value} {d : Array Int} {n : Int} {k : Nat} (hp : putL n d.toList = d.toList.take k ++ n :: d.toList.drop k) (hk : k ≤ d.size) (hown : w3.ownsRow w.heap.size e 1 v (0 + k + 1 + (d.size - k)) ([] ++ (d.toList.take k).map (Value.int .i64) ++ [.int .i64 n] ++ (d.toList.drop k).map (Value.int .i64))) (hb : Below w.heap.size w w3) :
    ∃ b' off' c', Ending.returned v = .returned (.slice (some ⟨b', off', none⟩) (putL n d.toList).length c') ∧ (putL n d.toList).length ≤ c' ∧ b' < w3.heap.size ∧ (∀ i, i < (putL n d.toList).length → w3.cell? ⟨b', off' + i, none⟩ = some (.int .i64 (putL n d.toList).toArray[i]!)) ∧ Below w.heap.size w w3 := by
  have hl : (putL n d.toList).length = 0 + k + 1 + (d.size - k) := by rw [hp]; simp; omega
  have h' : w3.ownsRow w.heap.size e 1 v (putL n d.toList).length ((putL n d.toList).map (Value.int .i64)) := by
    rw [hl, hp]
    simpa using hown
  obtain ⟨g, cap, rfl, h1, h2, h3⟩ := own_fin h' (by omega)
  exact ⟨g, 0, cap, rfl, h1, h2, h3, hb⟩
theorem drop_all {d : Array Int} : d.toList.drop d.size = [] := List.drop_of_length_le (by simp)
theorem drop_len {d : Array Int} {k : Nat} : ((d.toList.drop k).map (Value.int .i64)).length = (d.size - k) * 1 := by simp
set_option maxRecDepth 100000 in
set_option maxHeartbeats 4000000 in
theorem put_any (b off c : Nat) (d : Array Int) (n : Int) (w : World) (h0 : 0 < d.size) (hc : d.size ≤ c) (hd : d.size ≤ 1000000) (hb : b < w.heap.size) (h : ∀ i, i < d.size → w.cell? ⟨b, off + i, none⟩ = some (.int .i64 d[i]!)) :
    Calls Try.prog 91 #[.slice (some ⟨b, off, none⟩) d.size c, .int .i64 n] w fun e w' => ∃ b' off' c', e = .returned (.slice (some ⟨b', off', none⟩) (putL n d.toList).length c') ∧ (putL n d.toList).length ≤ c' ∧ b' < w'.heap.size ∧ (∀ i, i < (putL n d.toList).length → w'.cell? ⟨b', off' + i, none⟩ = some (.int .i64 (putL n d.toList).toArray[i]!)) ∧ Below w.heap.size w w' := by
  have HC := Lib.hid h
  clear h
  obtain ⟨i0, hi0, hz0, hz1, hz2⟩ := info_parts int_info
  go_enter Try.func91, Try.ntmps91
  go_wp2
  go_loop [5] (fun t => ∃ k : Nat, k ≤ d.size ∧ t = .int .i64 k ∧ ∀ j, j < k → d[j]! < n) (fun t => d.size - (intOf t).toNat)
  case atStart => exact ⟨0, Nat.zero_le _, rfl, fun j hj => absurd hj (by omega)⟩
  case round =>
    obtain ⟨k, hk, rfl, hj⟩ := hrel
    have HJ := Lib.hid hj; clear hj
    by_cases hlt : k < d.size
    · have ck := HC.out k hlt
      have HX : Hid (d[k]! = d[k]!) := rfl
      generalize hx : d[k]! = x at ck HX
      have HXX := Lib.hid hx; clear hx HX
      have kz : (k : Int) < (d.size : Int) := by omega
      have kc : (k : Int) ≤ (c : Int) := by omega
      have kd : (k : Int) ≤ (d.size : Int) := by omega
      have k0 : (0 : Int) ≤ (k : Int) := by omega
      by_cases hxn : x < n
      · go_wp2
        go_round
        case rel => exact ⟨k + 1, by omega, by go_num, fun j hj => by
          rcases Nat.lt_or_ge j k with h | h
          · exact HJ.out j h
          · obtain rfl : j = k := by omega
            rw [HXX.out]; exact hxn⟩
        case measure => simp [intOf]; omega
      · have hxn' : decide (x < n) = false := by simp; omega
        by_cases hxe : x = n
        · have hq : (x == n) = true := by simp [hxe]
          have HXE := Lib.hid hxe
          have HXN := Lib.hid hxn
          clear hxe hxn
          have HP : Hid (putL n d.toList = d.toList) := by
            show _ = _
            rw [put_list hk HJ.out (fun _ => by rw [HXX.out, HXE.out]; omega), if_pos ⟨hlt, by rw [HXX.out, HXE.out]⟩]
          have HLT := Lib.hid hlt
          go_wp2
          go_ret
          refine ⟨b, off, c, ?_, ?_, hb, ?_, Below.refl _ _⟩
          · rw [HP.out]; simp
          · rw [HP.out]; simpa using hc
          · intro i hi
            rw [HP.out] at hi
            have hi' : i < d.size := by simpa using hi
            rw [HC.out i hi', HP.out]
            simp [hi']
        · have hq : (x == n) = false := by simp [hxe]
          have HXE := Lib.hid hxe
          have HXN := Lib.hid hxn
          clear hxe hxn
          go_wp2_with fail
          have HBZ : Below w.heap.size w w := Below.refl _ _
          have HP : Hid (putL n d.toList = d.toList.take k ++ n :: d.toList.drop k) := by
            show _ = _
            rw [put_list hk HJ.out (fun _ => by rw [HXX.out]; have := HXN.out; omega), if_neg (fun h => HXE.out (by rw [← HXX.out]; exact h.2))]
          have hck : ¬ c = k := by omega
          go_region_held3 (fun w' => Below w.heap.size w w') (first | assumption | exact Below.drew (by assumption) | exact belAlloc (by assumption) _ | exact (belAlloc (by assumption) _).drew | exact belAlloc (Below.drew (by assumption)) _)
            (first
              | (refine step_append_B (by rfl) _ _ _ (by rfl) w 3 i0 _ 1 8 Try.underlying22 hi0 hz0 hz1 hz2 rfl (by decide) _ 0 [] (by rfl) (by first | exact emptyA _ _ | exact emptyB _ _ _ | exact emptyC _ _ _ (by simp)) ⟨b, off, none⟩ k c ((d.toList.take k).map (Value.int .i64)) (by rfl) (take_len hk) (newsA HC.out (by assumption) hb hk) (ints_one _) (by unfold maxLen; omega) (by omega) (by assumption) ?_; intro v1 w1 hown1 hgrow1 hBw1)
              | ((refine step_append_B (by rfl) _ _ _ (by rfl) w 3 i0 _ 1 8 Try.underlying22 hi0 hz0 hz1 hz2 rfl (by decide) v1 (0 + k) ([] ++ (d.toList.take k).map (Value.int .i64)) (by rfl) (by first | exact hown1 | exact (hown1.alloc _).drew) _ 1 1 [.int .i64 n] (by rfl) (by rfl) (by first | exact oneA _ _ _ | exact oneB hgrow1 | exact oneC hgrow1) (ints_one [n]) (by unfold maxLen; omega) (by omega) (by assumption) ?_; intro v2 w2 hown2 hgrow2 hBw2))
              | ((refine step_append_B (by rfl) _ _ _ (by rfl) w 3 i0 _ 1 8 Try.underlying22 hi0 hz0 hz1 hz2 rfl (by decide) v2 (0 + k + 1) ([] ++ (d.toList.take k).map (Value.int .i64) ++ [.int .i64 n]) (by rfl) (by first | exact hown2 | exact hown2.drew) ⟨b, off + k, none⟩ (d.size - k) (c - k) ((d.toList.drop k).map (Value.int .i64)) (by rfl) drop_len (newsB HC.out (by assumption) hb) (ints_one _) (by unfold maxLen; omega) (by omega) (by assumption) ?_; intro v3 w3 hown3 hgrow3 hBw3)))
          all_goals
            go_wp2
            go_ret
            exact put_fin HP.out hk hown3 hBw3
    · obtain rfl : k = d.size := by omega
      have HP : Hid (putL n d.toList = d.toList.take d.size ++ n :: d.toList.drop d.size) := by
        show _ = _
        rw [put_list hk HJ.out (fun h => absurd h hlt), if_neg (fun h => hlt h.1)]
      have HLT := Lib.hid hlt
      clear hlt
      have kc : (d.size : Int) ≤ (c : Int) := by omega
      have k0 : (0 : Int) ≤ (d.size : Int) := by omega
      have HBZ : Below w.heap.size w w := Below.refl _ _
      by_cases hck : c = d.size
      · obtain rfl : c = d.size := hck
        go_wp2_with fail
        go_region_held3 (fun w' => Below w.heap.size w w') (first | assumption | exact Below.drew (by assumption) | exact belAlloc (by assumption) _ | exact (belAlloc (by assumption) _).drew | exact belAlloc (Below.drew (by assumption)) _)
          (first
            | (refine step_append_B (by rfl) _ _ _ (by rfl) w 3 i0 _ 1 8 Try.underlying22 hi0 hz0 hz1 hz2 rfl (by decide) _ 0 [] (by rfl) (by first | exact emptyA _ _ | exact emptyB _ _ _ | exact emptyC _ _ _ (by simp)) ⟨b, off, none⟩ d.size d.size ((d.toList.take d.size).map (Value.int .i64)) (by rfl) (take_len hk) (newsA HC.out (by assumption) hb hk) (ints_one _) (by unfold maxLen; omega) (by omega) (by assumption) ?_; intro v1 w1 hown1 hgrow1 hBw1)
            | ((refine step_append_B (by rfl) _ _ _ (by rfl) w 3 i0 _ 1 8 Try.underlying22 hi0 hz0 hz1 hz2 rfl (by decide) v1 (0 + d.size) ([] ++ (d.toList.take d.size).map (Value.int .i64)) (by rfl) (by first | exact hown1 | exact (hown1.alloc _).drew) _ 1 1 [.int .i64 n] (by rfl) (by rfl) (by first | exact oneA _ _ _ | exact oneB hgrow1 | exact oneC hgrow1) (ints_one [n]) (by unfold maxLen; omega) (by omega) (by assumption) ?_; intro v2 w2 hown2 hgrow2 hBw2))
            | ((refine step_append_B (by rfl) _ _ _ (by rfl) w 3 i0 _ 1 8 Try.underlying22 hi0 hz0 hz1 hz2 rfl (by decide) v2 (0 + d.size + 1) ([] ++ (d.toList.take d.size).map (Value.int .i64) ++ [.int .i64 n]) (by rfl) (by first | exact hown2 | exact hown2.drew) _ 0 _ [] (by rfl) rfl (fun _ _ h => by simp at h) (fun _ h => by simp at h) (by unfold maxLen; omega) (by omega) (by assumption) ?_; intro v3 w3 hown3 hgrow3 hBw3)))
        all_goals
          go_wp2
          go_ret
          exact put_fin (e := 3) HP.out hk (by rw [drop_all]; simpa using hown3) hBw3
      · go_wp2_with fail
        go_region_held3 (fun w' => Below w.heap.size w w') (first | assumption | exact Below.drew (by assumption) | exact belAlloc (by assumption) _ | exact (belAlloc (by assumption) _).drew | exact belAlloc (Below.drew (by assumption)) _)
          (first
            | (refine step_append_B (by rfl) _ _ _ (by rfl) w 3 i0 _ 1 8 Try.underlying22 hi0 hz0 hz1 hz2 rfl (by decide) _ 0 [] (by rfl) (by first | exact emptyA _ _ | exact emptyB _ _ _ | exact emptyC _ _ _ (by simp)) ⟨b, off, none⟩ d.size c ((d.toList.take d.size).map (Value.int .i64)) (by rfl) (take_len hk) (newsA HC.out (by assumption) hb hk) (ints_one _) (by unfold maxLen; omega) (by omega) (by assumption) ?_; intro v1 w1 hown1 hgrow1 hBw1)
            | ((refine step_append_B (by rfl) _ _ _ (by rfl) w 3 i0 _ 1 8 Try.underlying22 hi0 hz0 hz1 hz2 rfl (by decide) v1 (0 + d.size) ([] ++ (d.toList.take d.size).map (Value.int .i64)) (by rfl) (by first | exact hown1 | exact (hown1.alloc _).drew) _ 1 1 [.int .i64 n] (by rfl) (by rfl) (by first | exact oneA _ _ _ | exact oneB hgrow1 | exact oneC hgrow1) (ints_one [n]) (by unfold maxLen; omega) (by omega) (by assumption) ?_; intro v2 w2 hown2 hgrow2 hBw2))
            | ((refine step_append_B (by rfl) _ _ _ (by rfl) w 3 i0 _ 1 8 Try.underlying22 hi0 hz0 hz1 hz2 rfl (by decide) v2 (0 + d.size + 1) ([] ++ (d.toList.take d.size).map (Value.int .i64) ++ [.int .i64 n]) (by rfl) (by first | exact hown2 | exact hown2.drew) _ 0 _ [] (by rfl) rfl (fun _ _ h => by simp at h) (fun _ h => by simp at h) (by unfold maxLen; omega) (by omega) (by assumption) ?_; intro v3 w3 hown3 hgrow3 hBw3)))
        all_goals
          go_wp2
          go_ret
          exact put_fin (e := 3) HP.out hk (by rw [drop_all]; simpa using hown3) hBw3
end Go.Proofs.Ytpnjodefnpphkaa
