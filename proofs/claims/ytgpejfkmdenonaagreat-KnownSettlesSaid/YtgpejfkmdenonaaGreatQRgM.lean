/- Contracts of the document's ranges: put, edges. Contracts of the document's ranges: edges. Contracts of the document's ranges: of. -/
import Derived.Test.YtgpejfkmdenonaaGreatQRgP
import Derived.Test.YtgpejfkmdenonaaGreatQStb
import Derived.Deep.RegionHeld3
import Derived.Deep.DrawnRows
namespace Go.Proofs.YtgpejfkmdenonaaGreat
open Go.RowKit Go.Sort Go.Lib

attribute [local go_sem ↓] Go.wp_at_zero Go.wp_at_succ
/-- A slice is appended to a row of the call's own, at a step of a region that draws its order. -/
theorem step_append_B_R {P : Program} {w : World} {ops : Array Oper} {o : Oper} {a : Act} {K : Act → World → Prop} {Q : Exit → Act → World → Prop} {E : Prop} (hgd : o.guard = none) (s x : Operand) (t : TypeId)
    (ho : o.op = .call { callee := .builtin .append, args := #[s, x], argTypes := #[t, t] })
    (w0 : World) (e : TypeId) (i : TypeInfo) (z : Value) (size bytes : Nat) (ht : P.underlying t = some (.slice e)) (hi : P.info? e = some i) (hz : i.zero = some z)
    (hsize : i.size = size) (hby : i.bytes = bytes) (hzs : z.cells.size = size) (hsz : 0 < size)
    (v : Value) (n : Nat) (xs : List Value) (hs : a.eval s = v) (hown : w.ownsRow w0.heap.size e size v n xs)
    (ad : Addr) (m c : Nat) (news : List Value) (hx : a.eval x = .slice (some ad) m c) (hl : news.length = m * size) (hnews : ∀ j u, news[j]? = some u → w.cell? (ad.add j) = some u) (h1 : ∀ u ∈ news, u.oneCell' = true)
    (h63 : n + m ≤ maxLen) (hbytes : (n + m) * bytes ≤ 140737488355328) (hB : Below w0.heap.size w0 w)
    (h : ∀ v' w', w'.ownsRow w0.heap.size e size v' (n + m) (xs ++ news) → w.grownBy w' v.ownBlock → Below w0.heap.size w0 w' → K (a.put o.dst v') w') :
    if Region.wanted o (yielded ops a.tmps) = true then Oper.wp P o a w K Q else E := by
  have hw : Region.wanted o (yielded ops a.tmps) = true := by simp [Region.wanted, hgd]
  rw [if_pos hw]
  obtain ⟨v', w', hr, h2, h3, _, _⟩ := run_append_own_at (P := P) w w0.heap.size t o.type e i z size bytes ht hi hz hsize hby hzs hsz v n xs hown ad m c news hl hnews h1 h63 hbytes hB.size
  unfold Oper.wp execOp
  simp only [ho, resolve, invoke, builtin, Sem.run_bind, Sem.run_pure, Result.andThen_ok, List.map_toArray, List.map_cons, List.map_nil, hs, hx, hr]
  exact h v' w' h2 h3 (hB.grown h3 hB.size (fun k hk => (hown.lt k hk).1))
theorem emptyA (w : World) (e : TypeId) : (w.alloc (.cells #[] e)).drew.ownsRow w.heap.size e 1 (.slice (some ⟨w.heap.size, 0, none⟩) 0 0) 0 [] := (empty_owns w e).drew
theorem emptyB (w : World) (e : TypeId) (o : Obj) : ((w.alloc (.cells #[] e)).alloc o).drew.ownsRow w.heap.size e 1 (.slice (some ⟨w.heap.size, 0, none⟩) 0 0) 0 [] := ((empty_owns w e).alloc o).drew
theorem emptyC (w : World) (e : TypeId) (o : Obj) (H : (w.alloc o).heap.size = w.heap.size + 1) : ((w.alloc o).alloc (.cells #[] e)).drew.ownsRow w.heap.size e 1 (.slice (some ⟨w.heap.size + 1, 0, none⟩) 0 0) 0 [] := by
  have := own_mono_R (empty_owns (w.alloc o) e).drew (base' := w.heap.size) (by simp)
  rw [H] at this
  exact this
theorem take_len_R {d : Array Int} {k : Nat} (hk : k ≤ d.size) : ((d.toList.take k).map (Value.int .i64)).length = k * 1 := by simp; omega
theorem ints_one (l : List Int) : ∀ u ∈ l.map (Value.int .i64), u.oneCell' = true := by
  intro u hu
  obtain ⟨y, _, rfl⟩ := List.mem_map.1 hu
  rfl
theorem newsA {d : Array Int} {b off k : Nat} {w W : World} (h : ∀ i, i < d.size → w.cell? ⟨b, off + i, none⟩ = some (.int .i64 d[i]!)) (hB : Below w.heap.size w W) (hb : b < w.heap.size) (hk : k ≤ d.size) :
    ∀ j u, ((d.toList.take k).map (Value.int .i64))[j]? = some u → W.cell? ((⟨b, off, none⟩ : Addr).add j) = some u := by
  intro j u hj
  rw [List.getElem?_map, List.getElem?_take] at hj
  split at hj
  · rename_i hlt
    have hd : j < d.size := by omega
    rw [Array.getElem?_toList, Array.getElem?_eq_getElem hd] at hj
    have hu : Value.int .i64 d[j] = u := by simpa using hj
    rw [Addr.add_lit, hB.cell (p := ⟨b, off + j, none⟩) hb, h j hd, getElem!_pos d j hd, hu]
  · simp at hj
theorem newsB {d : Array Int} {b off k : Nat} {w W : World} (h : ∀ i, i < d.size → w.cell? ⟨b, off + i, none⟩ = some (.int .i64 d[i]!)) (hB : Below w.heap.size w W) (hb : b < w.heap.size) :
    ∀ j u, ((d.toList.drop k).map (Value.int .i64))[j]? = some u → W.cell? ((⟨b, off + k, none⟩ : Addr).add j) = some u := by
  intro j u hj
  rw [List.getElem?_map, List.getElem?_drop] at hj
  rcases Nat.lt_or_ge (k + j) d.size with hd | hd
  · rw [Array.getElem?_toList, Array.getElem?_eq_getElem hd] at hj
    have hu : Value.int .i64 d[k + j] = u := by simpa using hj
    rw [Addr.add_lit, Nat.add_assoc, hB.cell (p := ⟨b, off + (k + j), none⟩) hb, h _ hd, getElem!_pos d _ hd, hu]
  · rw [Array.getElem?_toList, Array.getElem?_eq_none hd] at hj; simp at hj
theorem oneA (w1 : World) (n : Int) (e : TypeId) : ∀ j u, [Value.int .i64 n][j]? = some u → (w1.alloc (.cells #[.int .i64 n] e)).drew.cell? ((⟨w1.heap.size, 0, none⟩ : Addr).add j) = some u := app_cell w1 _ e
theorem add0_R {H j : Nat} {n : Int} {u : Value} {W : World} (h : [Value.int .i64 n][j]? = some u) (hc : W.cell? ⟨H, 0, none⟩ = some (.int .i64 n)) : W.cell? ((⟨H, 0, none⟩ : Addr).add j) = some u := by
  have hj : j = 0 := by
    rcases Nat.eq_zero_or_pos j with h0 | h0
    · exact h0
    · obtain ⟨i, rfl⟩ : ∃ i, j = i + 1 := ⟨j - 1, by omega⟩
      simp at h
  subst hj
  have : Value.int .i64 n = u := by simpa using h
  rw [← this]
  exact hc
theorem oneB {w W' : World} {n : Int} {e : TypeId} {o : Obj} (hg : ((w.alloc o).alloc (.cells #[.int .i64 n] e)).drew.grownBy W' (Value.slice (some ⟨w.heap.size, 0, none⟩) 0 0).ownBlock) : ∀ j u, [Value.int .i64 n][j]? = some u → W'.cell? ((⟨w.heap.size + 1, 0, none⟩ : Addr).add j) = some u := fun j u h => add0_R h (by
  have e1 : w.heap.size + 1 = (w.alloc o).heap.size := by simp
  rw [hg.cell_far ⟨w.heap.size + 1, 0, none⟩ (by simp) (by simp [Value.ownBlock]), e1]
  exact cell_new (w.alloc o) _ _ 0)
theorem oneC {w W' : World} {n : Int} {e : TypeId} {o : Obj} (hg : ((w.alloc (.cells #[.int .i64 n] e)).alloc o).drew.grownBy W' (Value.slice (some ⟨w.heap.size + 1, 0, none⟩) 0 0).ownBlock) : ∀ j u, [Value.int .i64 n][j]? = some u → W'.cell? ((⟨w.heap.size, 0, none⟩ : Addr).add j) = some u := fun j u h => add0_R h (by
  rw [hg.cell_far ⟨w.heap.size, 0, none⟩ (by simp; omega) (by simp [Value.ownBlock])]
  exact (World.cell?_alloc_lt (w.alloc (.cells #[.int .i64 n] e)) o ⟨w.heap.size, 0, none⟩ (by simp)).trans (cell_new w _ _ 0))
theorem own_fin {w : World} {base : Nat} {e : TypeId} {v : Value} {l : List Int} (h : w.ownsRow base e 1 v l.length (l.map (Value.int .i64))) (h0 : 0 < l.length) : ∃ g cap, v = .slice (some ⟨g, 0, none⟩) l.length cap ∧ l.length ≤ cap ∧ g < w.heap.size ∧ ∀ i, i < l.length → w.cell? ⟨g, 0 + i, none⟩ = some (.int .i64 l.toArray[i]!) := by
  obtain ⟨A, c, hv, hr⟩ := rdI_of_owns h
  obtain ⟨_, ⟨rfl, h1⟩ | ⟨g, cap, cur, hv', hb, hh, hnc, _⟩⟩ := h
  · omega
  · rw [hv'] at hv
    injection hv with e1 _ e3
    obtain ⟨b, off, e4, hlt, hc⟩ := hr (by simpa using h0)
    rw [e4] at e1
    injection e1 with e1
    injection e1 with e5 e6
    subst e5 e6
    exact ⟨g, cap, hv', hnc, hlt, fun i hi => hc i (by simpa using hi)⟩
theorem put_list {d : Array Int} {n : Int} {k : Nat} (hk : k ≤ d.size) (h1 : ∀ j, j < k → d[j]! < n) (h2 : k < d.size → n ≤ d[k]!) : putL n d.toList = if k < d.size ∧ d[k]! = n then d.toList else d.toList.take k ++ n :: d.toList.drop k := by
  have a1 : ∀ j (h : j < d.toList.length), j < k → d.toList[j] < n := fun j h hj => by
    have := h1 j hj
    rw [getElem!_pos d j (by simpa using h)] at this
    simpa using this
  have a2 : ∀ h : k < d.toList.length, n ≤ d.toList[k] := fun h => by
    have h' : k < d.size := by simpa using h
    have := h2 h'
    rw [getElem!_pos d k h'] at this
    simpa using this
  have := putL_at n d.toList k (by simpa using hk) a1 a2
  rw [this]
  have e1 : d.toList[k]! = d[k]! := by
    rcases Nat.lt_or_ge k d.size with h | h
    · simp [h]
    · simp [h]
  simp [e1]
theorem put_fin {w w3 : World} {e : TypeId} {v : Value} {d : Array Int} {n : Int} {k : Nat} (hp : putL n d.toList = d.toList.take k ++ n :: d.toList.drop k) (hk : k ≤ d.size) (hown : w3.ownsRow w.heap.size e 1 v (0 + k + 1 + (d.size - k)) ([] ++ (d.toList.take k).map (Value.int .i64) ++ [.int .i64 n] ++ (d.toList.drop k).map (Value.int .i64))) (hb : Below w.heap.size w w3) :
    ∃ b' off' c', Ending.returned v = .returned (.slice (some ⟨b', off', none⟩) (putL n d.toList).length c') ∧ (putL n d.toList).length ≤ c' ∧ b' < w3.heap.size ∧ (∀ i, i < (putL n d.toList).length → w3.cell? ⟨b', off' + i, none⟩ = some (.int .i64 (putL n d.toList).toArray[i]!)) ∧ Below w.heap.size w w3 := by
  have hl : (putL n d.toList).length = 0 + k + 1 + (d.size - k) := by rw [hp]; simp; omega
  have h' : w3.ownsRow w.heap.size e 1 v (putL n d.toList).length ((putL n d.toList).map (Value.int .i64)) := by
    rw [hl, hp]
    simpa using hown
  obtain ⟨g, cap, rfl, h1, h2, h3⟩ := own_fin h' (by omega)
  exact ⟨g, 0, cap, rfl, h1, h2, h3, hb⟩
theorem drop_all {d : Array Int} : d.toList.drop d.size = [] := List.drop_of_length_le (by simp)
theorem drop_len {d : Array Int} {k : Nat} : ((d.toList.drop k).map (Value.int .i64)).length = (d.size - k) * 1 := by simp
set_option maxRecDepth 100000 in
set_option maxHeartbeats 4000000 in
theorem put_any_R (b off c : Nat) (d : Array Int) (n : Int) (w : World) (h0 : 0 < d.size) (hc : d.size ≤ c) (hd : d.size ≤ 1000000) (hb : b < w.heap.size) (h : ∀ i, i < d.size → w.cell? ⟨b, off + i, none⟩ = some (.int .i64 d[i]!)) :
    Calls Tryz.prog 112 #[.slice (some ⟨b, off, none⟩) d.size c, .int .i64 n] w fun e w' => ∃ b' off' c', e = .returned (.slice (some ⟨b', off', none⟩) (putL n d.toList).length c') ∧ (putL n d.toList).length ≤ c' ∧ b' < w'.heap.size ∧ (∀ i, i < (putL n d.toList).length → w'.cell? ⟨b', off' + i, none⟩ = some (.int .i64 (putL n d.toList).toArray[i]!)) ∧ Below w.heap.size w w' := by
  have HC := Lib.hid h
  clear h
  obtain ⟨i0, hi0, hz0, hz1, hz2⟩ := info_parts int_info_R
  go_enter Tryz.func112, Tryz.ntmps112
  go_wp2
  go_loop [5] (fun t => ∃ k : Nat, k ≤ d.size ∧ t = .int .i64 k ∧ ∀ j, j < k → d[j]! < n) (fun t => d.size - (intOf t).toNat)
  case atStart => exact ⟨0, Nat.zero_le _, rfl, fun j hj => absurd hj (by omega)⟩
  case round =>
    obtain ⟨k, hk, rfl, hj⟩ := hrel
    have HJ := Lib.hid hj; clear hj
    by_cases hlt : k < d.size
    · have ck := HC.out k hlt
      have HX : Hid (d[k]! = d[k]!) := rfl
      generalize hx : d[k]! = x at ck HX
      have HXX := Lib.hid hx; clear hx HX
      have kz : (k : Int) < (d.size : Int) := by omega
      have kc : (k : Int) ≤ (c : Int) := by omega
      have kd : (k : Int) ≤ (d.size : Int) := by omega
      have k0 : (0 : Int) ≤ (k : Int) := by omega
      by_cases hxn : x < n
      · go_wp2
        go_round
        case rel => exact ⟨k + 1, by omega, by go_num, fun j hj => by
          rcases Nat.lt_or_ge j k with h | h
          · exact HJ.out j h
          · obtain rfl : j = k := by omega
            rw [HXX.out]; exact hxn⟩
        case measure => simp [intOf]; omega
      · have hxn' : decide (x < n) = false := by simp; omega
        by_cases hxe : x = n
        · have hq : (x == n) = true := by simp [hxe]
          have HXE := Lib.hid hxe
          have HXN := Lib.hid hxn
          clear hxe hxn
          have HP : Hid (putL n d.toList = d.toList) := by
            show _ = _
            rw [put_list hk HJ.out (fun _ => by rw [HXX.out, HXE.out]; omega), if_pos ⟨hlt, by rw [HXX.out, HXE.out]⟩]
          have HLT := Lib.hid hlt
          go_wp2
          go_ret
          refine ⟨b, off, c, ?_, ?_, hb, ?_, Below.refl _ _⟩
          · rw [HP.out]; simp
          · rw [HP.out]; simpa using hc
          · intro i hi
            rw [HP.out] at hi
            have hi' : i < d.size := by simpa using hi
            rw [HC.out i hi', HP.out]
            simp [hi']
        · have hq : (x == n) = false := by simp [hxe]
          have HXE := Lib.hid hxe
          have HXN := Lib.hid hxn
          clear hxe hxn
          go_wp2_with fail
          have HBZ : Below w.heap.size w w := Below.refl _ _
          have HP : Hid (putL n d.toList = d.toList.take k ++ n :: d.toList.drop k) := by
            show _ = _
            rw [put_list hk HJ.out (fun _ => by rw [HXX.out]; have := HXN.out; omega), if_neg (fun h => HXE.out (by rw [← HXX.out]; exact h.2))]
          have hck : ¬ c = k := by omega
          go_region_held3 (fun w' => Below w.heap.size w w') (first | assumption | exact Below.drew (by assumption) | exact belAlloc (by assumption) _ | exact (belAlloc (by assumption) _).drew | exact belAlloc (Below.drew (by assumption)) _)
            (first
              | (refine step_append_B_R (by rfl) _ _ _ (by rfl) w 3 i0 _ 1 8 Tryz.underlying40 hi0 hz0 hz1 hz2 rfl (by decide) _ 0 [] (by rfl) (by first | exact emptyA _ _ | exact emptyB _ _ _ | exact emptyC _ _ _ (by simp)) ⟨b, off, none⟩ k c ((d.toList.take k).map (Value.int .i64)) (by rfl) (take_len_R hk) (newsA HC.out (by assumption) hb hk) (ints_one _) (by unfold maxLen; omega) (by omega) (by assumption) ?_; intro v1 w1 hown1 hgrow1 hBw1)
              | ((refine step_append_B_R (by rfl) _ _ _ (by rfl) w 3 i0 _ 1 8 Tryz.underlying40 hi0 hz0 hz1 hz2 rfl (by decide) v1 (0 + k) ([] ++ (d.toList.take k).map (Value.int .i64)) (by rfl) (by first | exact hown1 | exact (hown1.alloc _).drew) _ 1 1 [.int .i64 n] (by rfl) (by rfl) (by first | exact oneA _ _ _ | exact oneB hgrow1 | exact oneC hgrow1) (ints_one [n]) (by unfold maxLen; omega) (by omega) (by assumption) ?_; intro v2 w2 hown2 hgrow2 hBw2))
              | ((refine step_append_B_R (by rfl) _ _ _ (by rfl) w 3 i0 _ 1 8 Tryz.underlying40 hi0 hz0 hz1 hz2 rfl (by decide) v2 (0 + k + 1) ([] ++ (d.toList.take k).map (Value.int .i64) ++ [.int .i64 n]) (by rfl) (by first | exact hown2 | exact hown2.drew) ⟨b, off + k, none⟩ (d.size - k) (c - k) ((d.toList.drop k).map (Value.int .i64)) (by rfl) drop_len (newsB HC.out (by assumption) hb) (ints_one _) (by unfold maxLen; omega) (by omega) (by assumption) ?_; intro v3 w3 hown3 hgrow3 hBw3)))
          all_goals
            go_wp2
            go_ret
            exact put_fin HP.out hk hown3 hBw3
    · obtain rfl : k = d.size := by omega
      have HP : Hid (putL n d.toList = d.toList.take d.size ++ n :: d.toList.drop d.size) := by
        show _ = _
        rw [put_list hk HJ.out (fun h => absurd h hlt), if_neg (fun h => hlt h.1)]
      have HLT := Lib.hid hlt
      clear hlt
      have kc : (d.size : Int) ≤ (c : Int) := by omega
      have k0 : (0 : Int) ≤ (d.size : Int) := by omega
      have HBZ : Below w.heap.size w w := Below.refl _ _
      by_cases hck : c = d.size
      · obtain rfl : c = d.size := hck
        go_wp2_with fail
        go_region_held3 (fun w' => Below w.heap.size w w') (first | assumption | exact Below.drew (by assumption) | exact belAlloc (by assumption) _ | exact (belAlloc (by assumption) _).drew | exact belAlloc (Below.drew (by assumption)) _)
          (first
            | (refine step_append_B_R (by rfl) _ _ _ (by rfl) w 3 i0 _ 1 8 Tryz.underlying40 hi0 hz0 hz1 hz2 rfl (by decide) _ 0 [] (by rfl) (by first | exact emptyA _ _ | exact emptyB _ _ _ | exact emptyC _ _ _ (by simp)) ⟨b, off, none⟩ d.size d.size ((d.toList.take d.size).map (Value.int .i64)) (by rfl) (take_len_R hk) (newsA HC.out (by assumption) hb hk) (ints_one _) (by unfold maxLen; omega) (by omega) (by assumption) ?_; intro v1 w1 hown1 hgrow1 hBw1)
            | ((refine step_append_B_R (by rfl) _ _ _ (by rfl) w 3 i0 _ 1 8 Tryz.underlying40 hi0 hz0 hz1 hz2 rfl (by decide) v1 (0 + d.size) ([] ++ (d.toList.take d.size).map (Value.int .i64)) (by rfl) (by first | exact hown1 | exact (hown1.alloc _).drew) _ 1 1 [.int .i64 n] (by rfl) (by rfl) (by first | exact oneA _ _ _ | exact oneB hgrow1 | exact oneC hgrow1) (ints_one [n]) (by unfold maxLen; omega) (by omega) (by assumption) ?_; intro v2 w2 hown2 hgrow2 hBw2))
            | ((refine step_append_B_R (by rfl) _ _ _ (by rfl) w 3 i0 _ 1 8 Tryz.underlying40 hi0 hz0 hz1 hz2 rfl (by decide) v2 (0 + d.size + 1) ([] ++ (d.toList.take d.size).map (Value.int .i64) ++ [.int .i64 n]) (by rfl) (by first | exact hown2 | exact hown2.drew) _ 0 _ [] (by rfl) rfl (fun _ _ h => by simp at h) (fun _ h => by simp at h) (by unfold maxLen; omega) (by omega) (by assumption) ?_; intro v3 w3 hown3 hgrow3 hBw3)))
        all_goals
          go_wp2
          go_ret
          exact put_fin (e := 3) HP.out hk (by rw [drop_all]; simpa using hown3) hBw3
      · go_wp2_with fail
        go_region_held3 (fun w' => Below w.heap.size w w') (first | assumption | exact Below.drew (by assumption) | exact belAlloc (by assumption) _ | exact (belAlloc (by assumption) _).drew | exact belAlloc (Below.drew (by assumption)) _)
          (first
            | (refine step_append_B_R (by rfl) _ _ _ (by rfl) w 3 i0 _ 1 8 Tryz.underlying40 hi0 hz0 hz1 hz2 rfl (by decide) _ 0 [] (by rfl) (by first | exact emptyA _ _ | exact emptyB _ _ _ | exact emptyC _ _ _ (by simp)) ⟨b, off, none⟩ d.size c ((d.toList.take d.size).map (Value.int .i64)) (by rfl) (take_len_R hk) (newsA HC.out (by assumption) hb hk) (ints_one _) (by unfold maxLen; omega) (by omega) (by assumption) ?_; intro v1 w1 hown1 hgrow1 hBw1)
            | ((refine step_append_B_R (by rfl) _ _ _ (by rfl) w 3 i0 _ 1 8 Tryz.underlying40 hi0 hz0 hz1 hz2 rfl (by decide) v1 (0 + d.size) ([] ++ (d.toList.take d.size).map (Value.int .i64)) (by rfl) (by first | exact hown1 | exact (hown1.alloc _).drew) _ 1 1 [.int .i64 n] (by rfl) (by rfl) (by first | exact oneA _ _ _ | exact oneB hgrow1 | exact oneC hgrow1) (ints_one [n]) (by unfold maxLen; omega) (by omega) (by assumption) ?_; intro v2 w2 hown2 hgrow2 hBw2))
            | ((refine step_append_B_R (by rfl) _ _ _ (by rfl) w 3 i0 _ 1 8 Tryz.underlying40 hi0 hz0 hz1 hz2 rfl (by decide) v2 (0 + d.size + 1) ([] ++ (d.toList.take d.size).map (Value.int .i64) ++ [.int .i64 n]) (by rfl) (by first | exact hown2 | exact hown2.drew) _ 0 _ [] (by rfl) rfl (fun _ _ h => by simp at h) (fun _ h => by simp at h) (by unfold maxLen; omega) (by omega) (by assumption) ?_; intro v3 w3 hown3 hgrow3 hBw3)))
        all_goals
          go_wp2
          go_ret
          exact put_fin (e := 3) HP.out hk (by rw [drop_all]; simpa using hown3) hBw3
end Go.Proofs.YtgpejfkmdenonaaGreat
namespace Go.Proofs.YtgpejfkmdenonaaGreat
open Go.RowKit Go.Sort Go.Lib

/-- The value is a slice that reads as the list. -/
def RowI (w : World) (v : Value) (l : List Int) : Prop := ∃ b off c, v = .slice (some ⟨b, off, none⟩) l.length c ∧ l.length ≤ c ∧ b < w.heap.size ∧ ∀ i, i < l.length → w.cell? ⟨b, off + i, none⟩ = some (.int .i64 l.toArray[i]!)
theorem putL_pos (n : Int) : ∀ l : List Int, 0 < (putL n l).length
  | [] => by simp [putL]
  | x :: l => by unfold putL; split <;> (try split) <;> simp
theorem put_row {w : World} {v : Value} {l : List Int} {n : Int} (h : RowI w v l) (h0 : 0 < l.length) (h1 : l.length ≤ 1000000) :
    Calls Tryz.prog 112 #[v, .int .i64 n] w fun e w' => ∃ v', e = .returned v' ∧ RowI w' v' (putL n l) ∧ Below w.heap.size w w' ∧ 0 < (putL n l).length ∧ (putL n l).length ≤ l.length + 1 := by
  obtain ⟨b, off, c, rfl, h2, h3, h4⟩ := h
  have := put_any_R b off c l.toArray n w (by simpa using h0) (by simpa using h2) (by simpa using h1) h3 (by simpa using h4)
  refine this.mono ?_
  rintro e w' ⟨b', off', c', rfl, k1, k2, k3, k4⟩
  exact ⟨_, rfl, ⟨b', off', c', rfl, k1, k2, k3⟩, k4, putL_pos n l, putL_len n l⟩
set_option maxRecDepth 100000 in
set_option maxHeartbeats 4000000 in
theorem edges_any (A : Option Addr) (c : Nat) (d : Array (Int × Int)) (w : World) (h : RdK encR 2 w.heap.size w A d) (hd : d.size ≤ 400000) :
    Calls Tryz.prog 97 #[.slice A d.size c] w fun e w' => ∃ v, e = .returned v ∧ RowI w' v (edgesN d d.size) ∧ Below w.heap.size w w' := by
  go_enter Tryz.func97, Tryz.ntmps97
  go_wp2
  go_loopw [3, 4] (fun v i wr => ∃ k : Nat, k ≤ d.size ∧ i = .int .i64 k ∧ RowI wr v (edgesN d k) ∧ 0 < (edgesN d k).length ∧ Below w.heap.size w wr) (fun _ i _ => d.size - (intOf i).toNat)
  case atStart => exact ⟨0, Nat.zero_le _, rfl, ⟨w.heap.size, 0, 1, rfl, Nat.le_refl _, by simp, fun i hi => by
    obtain rfl : i = 0 := by simp [edgesN] at hi; omega
    exact cell_new w _ _ 0⟩, by simp [edgesN], bel1 _ _⟩
  case round =>
    obtain ⟨k, hk, rfl, hrow, hl0, hb⟩ := hrel
    have hl1 := edgesN_len d k
    by_cases hlt : k < d.size
    · obtain ⟨b, off, rfl, hbb, f⟩ := (h.below hb).at_ hlt
      have f0 := f 0 (by omega)
      have f1 := f 1 (by omega)
      have HE := Lib.hid (edgesN_succ d k)
      generalize d[k]! = x at f0 f1 HE
      simp only [Nat.add_zero, encR, List.getElem!_cons_zero, List.getElem!_cons_succ] at f0 f1
      clear f
      generalize edgesN d k = E at hrow HE hl0 hl1
      have hbz := hb.size
      have kz : (k : Int) < (d.size : Int) := by omega
      go_wp2_with (go_at_call 112; first
        | ((with_reducible refine (put_row hrow (by omega) (by omega)).mono ?_); rintro e w1 ⟨v1, rfl, hrow1, hb1, hp1, hp2⟩; have g1 : w1.cell? ⟨b, off + k * 2 + 1, none⟩ = some (.int .i64 x.2) := (hb1.cell (p := ⟨b, off + k * 2 + 1, none⟩) (by show b < _; omega)).trans f1)
        | ((with_reducible refine (put_row hrow1 (by omega) (by omega)).mono ?_); rintro e w2 ⟨v2, rfl, hrow2, hb2, hp3, hp4⟩))
      all_goals first
        | (have key : edgesN d (k + 1) = putL (x.2 + 1) (putL x.1 E) := by rw [HE.out, if_pos (show 1 ≤ x.2 ∧ x.2 < 1000000 by omega), if_pos (show 1 < x.1 ∧ x.1 ≤ 1000000 by omega)]
           exact ⟨⟨k + 1, by omega, by go_num, by rw [key]; exact hrow2, by rw [key]; exact hp3, belStep (belStep hb hb1) hb2⟩, by simp [intOf]; omega⟩)
        | (have key : edgesN d (k + 1) = putL x.1 E := by rw [HE.out, if_neg (show ¬ (1 ≤ x.2 ∧ x.2 < 1000000) by omega), if_pos (show 1 < x.1 ∧ x.1 ≤ 1000000 by omega)]
           exact ⟨⟨k + 1, by omega, by go_num, by rw [key]; exact hrow1, by rw [key]; exact hp1, belStep hb hb1⟩, by simp [intOf]; omega⟩)
        | (have key : edgesN d (k + 1) = putL (x.2 + 1) E := by rw [HE.out, if_pos (show 1 ≤ x.2 ∧ x.2 < 1000000 by omega), if_neg (show ¬ (1 < x.1 ∧ x.1 ≤ 1000000) by omega)]
           exact ⟨⟨k + 1, by omega, by go_num, by rw [key]; exact hrow1, by rw [key]; exact hp1, belStep hb hb1⟩, by simp [intOf]; omega⟩)
        | (have key : edgesN d (k + 1) = E := by rw [HE.out, if_neg (show ¬ (1 ≤ x.2 ∧ x.2 < 1000000) by omega), if_neg (show ¬ (1 < x.1 ∧ x.1 ≤ 1000000) by omega)]
           exact ⟨⟨k + 1, by omega, by go_num, by rw [key]; exact hrow, by rw [key]; exact hl0, hb⟩, by simp [intOf]; omega⟩)
    · obtain rfl : k = d.size := by omega
      go_wp2
      go_ret
      exact ⟨_, rfl, hrow, hb⟩
end Go.Proofs.YtgpejfkmdenonaaGreat
namespace Go.Proofs.YtgpejfkmdenonaaGreat
open Go.RowKit Go.Sort Go.Lib

theorem ofN_size (a b : Array (Int × Int)) (e : Array Int) : ∀ i, (ofN a b e i).size ≤ i
  | 0 => Nat.le_refl _
  | i + 1 => by
    have := ofN_size a b e i
    rw [ofN_succ]
    split
    · omega
    · split
      · simp; omega
      · simp; omega
theorem rowE {w : World} {v : Value} {l : Array (Int × Int)} (h : RowI w v (edgesN l l.size)) : ∃ b off c, v = .slice (some ⟨b, off, none⟩) (edgesE l).size c ∧ b < w.heap.size ∧ ∀ i, i < (edgesE l).size → w.cell? ⟨b, off + i, none⟩ = some (.int .i64 (edgesE l)[i]!) := by
  obtain ⟨b, off, c, rfl, _, h2, h3⟩ := h
  exact ⟨b, off, c, by rw [edgesE_len], h2, fun i hi => h3 i (by rw [← edgesE_len]; exact hi)⟩
theorem NL.at_ {d : Array (Int × Int)} (h : NL d.toList) {k : Nat} (hk : k < d.size) : 1 ≤ d[k]!.1 ∧ d[k]!.1 ≤ d[k]!.2 ∧ d[k]!.2 ≤ 1000000 := h.1 _ (by rw [getElem!_pos d k hk]; simp)
theorem edgesE_bd (l : Array (Int × Int)) (i : Nat) (h : i < (edgesE l).size) : 1 ≤ (edgesE l)[i]! ∧ (edgesE l)[i]! ≤ 1000000 := by
  have := bndN_bd l i
  have e : bndN (edgesE l) i = (edgesE l)[i]! := by unfold bndN; rw [if_pos h]
  rw [e] at this
  exact ⟨this.1, this.2.2 h⟩
theorem bnd_in {e : Array Int} {i : Nat} (h : i < e.size) : bndN e i - 1 = e[i]! - 1 := by unfold bndN; rw [if_pos h]
theorem bnd_out {e : Array Int} {i : Nat} (h : ¬ i < e.size) : bndN e i - 1 = 1000000 := by unfold bndN; rw [if_neg h]; rfl
theorem own_app1 {w wr w1 : World} {B : Nat} {o : Obj} {e : TypeId} {s n : Nat} {v : Value} {xs : List Value} (hb : Below B w wr) (hB : B ≤ wr.heap.size) (hown : wr.ownsRow B e s v n xs) (hg : (wr.alloc o).grownBy w1 v.ownBlock) : Below B w w1 :=
  (hb.alloc hB o).grown hg (by simp; omega) (fun k hk => (hown.lt k hk).1)
set_option maxRecDepth 100000 in
set_option maxHeartbeats 8000000 in
theorem of_any_R (A1 : Option Addr) (c1 : Nat) (d1 : Array (Int × Int)) (A2 : Option Addr) (c2 : Nat) (d2 : Array (Int × Int)) (w : World) (h1 : RdK encR 2 w.heap.size w A1 d1) (h2 : RdK encR 2 w.heap.size w A2 d2) (n1 : A1 = none → c1 = 0) (n2 : A2 = none → c2 = 0) (hd : d1.size + d2.size ≤ 100000) :
    Calls Tryz.prog 79 #[.slice A1 d1.size c1, .slice A2 d2.size c2] w fun e w' => ∃ v, e = .returned v ∧ w'.ownsRow w.heap.size 47 2 v (ofE d1 d2).size (flatK encR 2 (ofE d1 d2)).toList ∧ Below w.heap.size w w' := by
  obtain ⟨i0, hi0, hz0, hz1, hz2⟩ := info_parts range_info
  have HE0 := Lib.hid (empty_ownsK w 47 encR 2)
  have HN1 := Lib.hid n1
  have HN2 := Lib.hid n2
  clear n1 n2
  go_enter Tryz.func79, Tryz.ntmps79
  go_wp2_with (first
    | (at_builtin; refine append_rdK encR_one encR_len (by decide) rfl _ _ 22 rfl w.heap.size 47 i0 (.agg #[.int .i64 0, .int .i64 0]) 16 Tryz.underlying22 hi0 hz0 hz1 hz2 rfl _ #[] rfl HE0.out w.heap.size A1 c1 d1 rfl (h1.alloc (Nat.le_refl _) _) HN1.out (by simp; omega) (by decide) (by simp) ?_; intro v1 w1 hown1 hg1 _; have hB1 : Below w.heap.size w w1 := (bel1 w _).grown hg1 (by simp) (fun k hk => (HE0.out.lt k hk).1))
    | (at_builtin; refine append_rdK encR_one encR_len (by decide) rfl _ _ 22 rfl w.heap.size 47 i0 (.agg #[.int .i64 0, .int .i64 0]) 16 Tryz.underlying22 hi0 hz0 hz1 hz2 rfl v1 (#[] ++ d1) rfl hown1 w.heap.size A2 c2 d2 rfl (h2.below hB1) HN2.out (by simp; omega) (by decide) hB1.size ?_; intro v2 w2 hown2 hg2 _; have hB2 : Below w.heap.size w w2 := hB1.grown hg2 hB1.size (fun k hk => (hown1.lt k hk).1); obtain ⟨A3, c3, rfl, hr3, _⟩ := rdK_of_owns hown2))
  have e12 : #[] ++ d1 ++ d2 = d1 ++ d2 := by simp
  rw [e12] at hr3
  have HH := edges_any A3 c3 (d1 ++ d2) w2 hr3 (by simp; omega)
  rw [show Value.slice A3 (d1 ++ d2).size c3 = Value.slice A3 (d1.size + d2.size) c3 by rw [Array.size_append]] at HH
  refine HH.mono ?_
  clear HH e12
  rintro e w3 ⟨ve, rfl, hrow, hb3⟩
  obtain ⟨be, oe, ce, rfl, hbe, hce⟩ := rowE hrow
  have hB3 : Below w.heap.size w w3 := belStep hB2 hb3
  have HB3 := Lib.hid hB3
  have HO := Lib.hid (fun i hi => (ofN_ok d1 d2 i hi).1)
  have HBD := Lib.hid (edgesE_bd (d1 ++ d2))
  have HR : Hid (ofE d1 d2 = ofN d1 d2 (edgesE (d1 ++ d2)) (edgesE (d1 ++ d2)).size) := rfl
  have hse := edgesE_size (d1 ++ d2)
  rw [Array.size_append] at hse
  clear hrow hown1 hown2 hg1 hg2 hb3 hB1 hB2 hr3 HE0
  generalize edgesE (d1 ++ d2) = ea at hce HO HBD HR hse ⊢
  have HCE := Lib.hid hce
  clear hce hB3
  go_wp2
  go_loopw [6, 7] (fun v i wr => ∃ k : Nat, k ≤ ea.size ∧ i = .int .i64 k ∧ wr.ownsRow w3.heap.size 47 2 v (ofN d1 d2 ea k).size (flatK encR 2 (ofN d1 d2 ea k)).toList ∧ Below w3.heap.size w3 wr) (fun _ i _ => ea.size - (intOf i).toNat)
  case atStart => exact ⟨0, Nat.zero_le _, rfl, nil_ownsK _ _ _ _ _, Below.refl _ _⟩
  case round =>
    obtain ⟨k, hk, rfl, hown, hb⟩ := hrel
    have hzb := hb.size
    by_cases hlt : k < ea.size
    · have ck : wr.cell? ⟨be, oe + k, none⟩ = some (.int .i64 ea[k]!) := (hb.cell (p := ⟨be, oe + k, none⟩) hbe).trans (HCE.out k hlt)
      have hE := HBD.out k hlt
      have hE1 := hE.1
      have hE2 := hE.2
      clear hE
      have HS := Lib.hid (ofN_succ d1 d2 ea k)
      have hsz := ofN_size d1 d2 ea k
      have HNL := Lib.hid (HO.out k hk)
      have r1 : RdK encR 2 w.heap.size wr A1 d1 := h1.below (HB3.out.trans (hb.mono HB3.out.size))
      have r2 : RdK encR 2 w.heap.size wr A2 d2 := h2.below (HB3.out.trans (hb.mono HB3.out.size))
      have kz : (k : Int) < (ea.size : Int) := by omega
      generalize ea[k]! = E at ck hE1 hE2 HS
      cases hca : inR d1 E
      · have HE : Hid (ofN d1 d2 ea (k + 1) = ofN d1 d2 ea k) := by show _ = _; rw [HS.out, if_pos (Or.inl hca)]
        go_wp2_with (go_at_call 67; (with_reducible refine (rin_any A1 c1 d1 E w.heap.size wr r1 (by omega)).mono ?_); rintro e w' ⟨rfl, rfl⟩)
        exact ⟨⟨k + 1, by omega, by go_num, by rw [HE.out]; exact hown, hb⟩, by simp [intOf]; omega⟩
      · cases hcb : inR d2 E
        · have HS2 : Hid (ofN d1 d2 ea (k + 1) = if 0 < (ofN d1 d2 ea k).size ∧ (ofN d1 d2 ea k)[(ofN d1 d2 ea k).size - 1]!.2 + 1 = E then (ofN d1 d2 ea k).set! ((ofN d1 d2 ea k).size - 1) ((ofN d1 d2 ea k)[(ofN d1 d2 ea k).size - 1]!.1, bndN ea (k + 1) - 1) else (ofN d1 d2 ea k).push (E, bndN ea (k + 1) - 1)) := by
            show _ = _; rw [HS.out, if_neg (by rw [hca, hcb]; simp)]
          clear HS
          generalize ofN d1 d2 ea k = out at hown HS2 hsz HNL
          by_cases hnx : k + 1 < ea.size
          · have cn : wr.cell? ⟨be, oe + (k + 1), none⟩ = some (.int .i64 ea[k + 1]!) := (hb.cell (p := ⟨be, oe + (k + 1), none⟩) hbe).trans (HCE.out (k + 1) hnx)
            have hN1 := (HBD.out (k + 1) hnx).1
            have hN2 := (HBD.out (k + 1) hnx).2
            have HHI := Lib.hid (bnd_in hnx)
            generalize ea[k + 1]! = N at cn hN1 hN2 HHI
            have kz1 : (k : Int) + 1 < (ea.size : Int) := by omega
            rw [HHI.out] at HS2
            rcases Nat.eq_zero_or_pos out.size with h0 | h0
            · obtain rfl : out = #[] := Array.eq_empty_of_size_eq_zero h0
              have HE : Hid (ofN d1 d2 ea (k + 1) = #[(E, (N - 1))]) := HS2.out.trans (if_neg (by simp))
              obtain ⟨A, c, rfl, _, _⟩ := rdK_of_owns hown
              clear HS2 h0
              go_wp2_with (go_at_call 67; first
                | ((with_reducible refine (rin_any A1 c1 d1 E w.heap.size wr r1 (by omega)).mono ?_); rintro e w' ⟨rfl, rfl⟩)
                | ((with_reducible refine (rin_any A2 c2 d2 E w.heap.size wr r2 (by omega)).mono ?_); rintro e w' ⟨rfl, rfl⟩))
              go_quiet (fail)
              have row' : (wr.drewN nq).ownsRow w3.heap.size 47 2 (.slice A 0 c) 0 [] := by have := hown; rw [flatK_nil] at this; exact this
              go_wp2_with (at_builtin; refine wpList_append_own _ rfl _ _ 22 rfl w3.heap.size 47 i0 (.agg #[.int .i64 0, .int .i64 0]) 2 16 Tryz.underlying22 hi0 hz0 hz1 hz2 rfl (by decide) _ _ _ rfl (row'.alloc _) ⟨wr.heap.size, 0, none⟩ 1 1 [.int .i64 E, .int .i64 (N - 1)] rfl rfl (two_new_R (wr.drewN nq) _ _ _) (by simp [Value.oneCell']) (by unfold maxLen; omega) (by omega) (by simp; omega) ?_; intro v' w2 hown' hgrow _)
              exact ⟨⟨k + 1, by omega, by go_num, (by rw [HE.out]; show w2.ownsRow _ _ _ _ ((#[] : Array (Int × Int)).push (E, (N - 1))).size (flatK encR 2 (#[].push (E, (N - 1)))).toList; rw [Array.size_push, flatK_push encR_len, flatK_nil]; exact hown'), own_app1 (belDrewN hb nq) hzb row' hgrow⟩, by simp [intOf]; omega⟩
            · obtain ⟨g0, cap, rfl, hgb, hgl, hH⟩ := holds_of_owns hown (by
                rintro rfl
                obtain ⟨_, ⟨_, h'⟩ | ⟨_, _, _, e, _⟩⟩ := hown
                · omega
                · cases e)
              have hlo := HNL.out.at_ (k := out.size - 1) (by omega)
              have hc5 := (hH ((out.size - 1) * 2 + 1) (by rw [size_flatK]; omega)).1
              rw [Nat.zero_add, flat_at _ _ _ _ _ (by omega) (by decide)] at hc5
              have HP : Hid (¬ (out[out.size - 1]!.2 + 1 = E) → ofN d1 d2 ea (k + 1) = out.push (E, (N - 1))) := fun h => HS2.out.trans (if_neg (fun h' => h h'.2))
              have HJ : Hid (out[out.size - 1]!.2 + 1 = E → ofN d1 d2 ea (k + 1) = out.set! (out.size - 1) (out[out.size - 1]!.1, (N - 1))) := fun h => HS2.out.trans (if_pos ⟨h0, h⟩)
              have HF : Hid ((flatK encR 2 (out.set! (out.size - 1) (out[out.size - 1]!.1, (N - 1)))).toList = (flatK encR 2 out).toList.set ((out.size - 1) * 2 + 1) (.int .i64 (N - 1))) := flatK_setHi out (out.size - 1) (by omega) _
              have hf5 := hown.frozenAt ((out.size - 1) * 2 + 1)
              have hy1 := hlo.1
              have hy2 := hlo.2.1
              have hy3 := hlo.2.2
              clear hH hlo HS2
              generalize out[out.size - 1]! = y at hy1 hy2 hy3 hc5 HP HJ HF
              simp only [encR, List.getElem!_cons_zero, List.getElem!_cons_succ] at hc5
              have p0 : (0 : Int) ≤ (out.size : Int) - 1 := by omega
              have p1 : (out.size : Int) - 1 < (out.size : Int) := by omega
              have p2 : (1 : Int) ≤ (out.size : Int) := by omega
              have hix : ((out.size : Int) - 1).toNat = out.size - 1 := by omega
              have hwp : IntKind.i64.wrap ((out.size : Int) - 1) = (out.size : Int) - 1 := by rw [IntKind.wrap_i64]; omega
              have hwy : IntKind.i64.wrap (y.2 + 1) = y.2 + 1 := by rw [IntKind.wrap_i64]; omega
              by_cases hj : y.2 + 1 = E
              · have hjb : (y.2 + 1 == E) = true := by simp [hj]
                have HE := Lib.hid (HJ.out hj)
                clear hj
                go_wp2_with (go_at_call 67; first
                | ((with_reducible refine (rin_any A1 c1 d1 E w.heap.size wr r1 (by omega)).mono ?_); rintro e w' ⟨rfl, rfl⟩)
                | ((with_reducible refine (rin_any A2 c2 d2 E w.heap.size wr r2 (by omega)).mono ?_); rintro e w' ⟨rfl, rfl⟩))
                go_quiet (fail)
                go_wp2
                obtain ⟨hs1, hs2⟩ := World.ownsRow.stored (w := wr.drewN nq) (by exact hown) ((out.size - 1) * 2 + 1) (.int .i64 (N - 1))
                exact ⟨⟨k + 1, by omega, by go_num, (by rw [HE.out, HF.out]; simpa using hs1), (belDrewN hb nq).setCell (p := ⟨g0, _, none⟩) hgb _⟩, by simp [intOf]; omega⟩
              · have hjb : (y.2 + 1 == E) = false := by simp [hj]
                have HE := Lib.hid (HP.out hj)
                clear hj
                go_wp2_with (go_at_call 67; first
                | ((with_reducible refine (rin_any A1 c1 d1 E w.heap.size wr r1 (by omega)).mono ?_); rintro e w' ⟨rfl, rfl⟩)
                | ((with_reducible refine (rin_any A2 c2 d2 E w.heap.size wr r2 (by omega)).mono ?_); rintro e w' ⟨rfl, rfl⟩))
                go_quiet (fail)
                have row' : (wr.drewN nq).ownsRow w3.heap.size 47 2 (.slice (some ⟨g0, 0, none⟩) out.size cap) out.size (flatK encR 2 out).toList := hown
                go_wp2_with (at_builtin; refine wpList_append_own _ rfl _ _ 22 rfl w3.heap.size 47 i0 (.agg #[.int .i64 0, .int .i64 0]) 2 16 Tryz.underlying22 hi0 hz0 hz1 hz2 rfl (by decide) _ _ _ rfl (row'.alloc _) ⟨wr.heap.size, 0, none⟩ 1 1 [.int .i64 E, .int .i64 (N - 1)] rfl rfl (two_new_R (wr.drewN nq) _ _ _) (by simp [Value.oneCell']) (by unfold maxLen; omega) (by omega) (by simp; omega) ?_; intro v' w2 hown' hgrow _)
                exact ⟨⟨k + 1, by omega, by go_num, (by rw [HE.out, Array.size_push, flatK_push encR_len]; exact hown'), own_app1 (belDrewN hb nq) hzb row' hgrow⟩, by simp [intOf]; omega⟩
          · have HHI := Lib.hid (bnd_out hnx)
            have kz1 : decide ((k : Int) + 1 < (ea.size : Int)) = false := by simp; omega
            rw [HHI.out] at HS2
            rcases Nat.eq_zero_or_pos out.size with h0 | h0
            · obtain rfl : out = #[] := Array.eq_empty_of_size_eq_zero h0
              have HE : Hid (ofN d1 d2 ea (k + 1) = #[(E, 1000000)]) := HS2.out.trans (if_neg (by simp))
              obtain ⟨A, c, rfl, _, _⟩ := rdK_of_owns hown
              clear HS2 h0
              go_wp2_with (go_at_call 67; first
                | ((with_reducible refine (rin_any A1 c1 d1 E w.heap.size wr r1 (by omega)).mono ?_); rintro e w' ⟨rfl, rfl⟩)
                | ((with_reducible refine (rin_any A2 c2 d2 E w.heap.size wr r2 (by omega)).mono ?_); rintro e w' ⟨rfl, rfl⟩))
              go_quiet (fail)
              have row' : (wr.drewN nq).ownsRow w3.heap.size 47 2 (.slice A 0 c) 0 [] := by have := hown; rw [flatK_nil] at this; exact this
              go_wp2_with (at_builtin; refine wpList_append_own _ rfl _ _ 22 rfl w3.heap.size 47 i0 (.agg #[.int .i64 0, .int .i64 0]) 2 16 Tryz.underlying22 hi0 hz0 hz1 hz2 rfl (by decide) _ _ _ rfl (row'.alloc _) ⟨wr.heap.size, 0, none⟩ 1 1 [.int .i64 E, .int .i64 1000000] rfl rfl (two_new_R (wr.drewN nq) _ _ _) (by simp [Value.oneCell']) (by unfold maxLen; omega) (by omega) (by simp; omega) ?_; intro v' w2 hown' hgrow _)
              exact ⟨⟨k + 1, by omega, by go_num, (by rw [HE.out]; show w2.ownsRow _ _ _ _ ((#[] : Array (Int × Int)).push (E, 1000000)).size (flatK encR 2 (#[].push (E, 1000000))).toList; rw [Array.size_push, flatK_push encR_len, flatK_nil]; exact hown'), own_app1 (belDrewN hb nq) hzb row' hgrow⟩, by simp [intOf]; omega⟩
            · obtain ⟨g0, cap, rfl, hgb, hgl, hH⟩ := holds_of_owns hown (by
                rintro rfl
                obtain ⟨_, ⟨_, h'⟩ | ⟨_, _, _, e, _⟩⟩ := hown
                · omega
                · cases e)
              have hlo := HNL.out.at_ (k := out.size - 1) (by omega)
              have hc5 := (hH ((out.size - 1) * 2 + 1) (by rw [size_flatK]; omega)).1
              rw [Nat.zero_add, flat_at _ _ _ _ _ (by omega) (by decide)] at hc5
              have HP : Hid (¬ (out[out.size - 1]!.2 + 1 = E) → ofN d1 d2 ea (k + 1) = out.push (E, 1000000)) := fun h => HS2.out.trans (if_neg (fun h' => h h'.2))
              have HJ : Hid (out[out.size - 1]!.2 + 1 = E → ofN d1 d2 ea (k + 1) = out.set! (out.size - 1) (out[out.size - 1]!.1, 1000000)) := fun h => HS2.out.trans (if_pos ⟨h0, h⟩)
              have HF : Hid ((flatK encR 2 (out.set! (out.size - 1) (out[out.size - 1]!.1, 1000000))).toList = (flatK encR 2 out).toList.set ((out.size - 1) * 2 + 1) (.int .i64 1000000)) := flatK_setHi out (out.size - 1) (by omega) _
              have hf5 := hown.frozenAt ((out.size - 1) * 2 + 1)
              have hy1 := hlo.1
              have hy2 := hlo.2.1
              have hy3 := hlo.2.2
              clear hH hlo HS2
              generalize out[out.size - 1]! = y at hy1 hy2 hy3 hc5 HP HJ HF
              simp only [encR, List.getElem!_cons_zero, List.getElem!_cons_succ] at hc5
              have p0 : (0 : Int) ≤ (out.size : Int) - 1 := by omega
              have p1 : (out.size : Int) - 1 < (out.size : Int) := by omega
              have p2 : (1 : Int) ≤ (out.size : Int) := by omega
              have hix : ((out.size : Int) - 1).toNat = out.size - 1 := by omega
              have hwp : IntKind.i64.wrap ((out.size : Int) - 1) = (out.size : Int) - 1 := by rw [IntKind.wrap_i64]; omega
              have hwy : IntKind.i64.wrap (y.2 + 1) = y.2 + 1 := by rw [IntKind.wrap_i64]; omega
              by_cases hj : y.2 + 1 = E
              · have hjb : (y.2 + 1 == E) = true := by simp [hj]
                have HE := Lib.hid (HJ.out hj)
                clear hj
                go_wp2_with (go_at_call 67; first
                | ((with_reducible refine (rin_any A1 c1 d1 E w.heap.size wr r1 (by omega)).mono ?_); rintro e w' ⟨rfl, rfl⟩)
                | ((with_reducible refine (rin_any A2 c2 d2 E w.heap.size wr r2 (by omega)).mono ?_); rintro e w' ⟨rfl, rfl⟩))
                go_quiet (fail)
                go_wp2
                obtain ⟨hs1, hs2⟩ := World.ownsRow.stored (w := wr.drewN nq) (by exact hown) ((out.size - 1) * 2 + 1) (.int .i64 1000000)
                exact ⟨⟨k + 1, by omega, by go_num, (by rw [HE.out, HF.out]; simpa using hs1), (belDrewN hb nq).setCell (p := ⟨g0, _, none⟩) hgb _⟩, by simp [intOf]; omega⟩
              · have hjb : (y.2 + 1 == E) = false := by simp [hj]
                have HE := Lib.hid (HP.out hj)
                clear hj
                go_wp2_with (go_at_call 67; first
                | ((with_reducible refine (rin_any A1 c1 d1 E w.heap.size wr r1 (by omega)).mono ?_); rintro e w' ⟨rfl, rfl⟩)
                | ((with_reducible refine (rin_any A2 c2 d2 E w.heap.size wr r2 (by omega)).mono ?_); rintro e w' ⟨rfl, rfl⟩))
                go_quiet (fail)
                have row' : (wr.drewN nq).ownsRow w3.heap.size 47 2 (.slice (some ⟨g0, 0, none⟩) out.size cap) out.size (flatK encR 2 out).toList := hown
                go_wp2_with (at_builtin; refine wpList_append_own _ rfl _ _ 22 rfl w3.heap.size 47 i0 (.agg #[.int .i64 0, .int .i64 0]) 2 16 Tryz.underlying22 hi0 hz0 hz1 hz2 rfl (by decide) _ _ _ rfl (row'.alloc _) ⟨wr.heap.size, 0, none⟩ 1 1 [.int .i64 E, .int .i64 1000000] rfl rfl (two_new_R (wr.drewN nq) _ _ _) (by simp [Value.oneCell']) (by unfold maxLen; omega) (by omega) (by simp; omega) ?_; intro v' w2 hown' hgrow _)
                exact ⟨⟨k + 1, by omega, by go_num, (by rw [HE.out, Array.size_push, flatK_push encR_len]; exact hown'), own_app1 (belDrewN hb nq) hzb row' hgrow⟩, by simp [intOf]; omega⟩
        · have HE : Hid (ofN d1 d2 ea (k + 1) = ofN d1 d2 ea k) := by show _ = _; rw [HS.out, if_pos (Or.inr hcb)]
          go_wp2_with (go_at_call 67; first
            | ((with_reducible refine (rin_any A1 c1 d1 E w.heap.size wr r1 (by omega)).mono ?_); rintro e w' ⟨rfl, rfl⟩)
            | ((with_reducible refine (rin_any A2 c2 d2 E w.heap.size wr r2 (by omega)).mono ?_); rintro e w' ⟨rfl, rfl⟩))
          exact ⟨⟨k + 1, by omega, by go_num, by rw [HE.out]; exact hown, hb⟩, by simp [intOf]; omega⟩
    · obtain rfl : k = ea.size := by omega
      go_wp2
      go_ret
      exact ⟨_, rfl, by rw [HR.out]; exact own_mono_R hown HB3.out.size, HB3.out.trans (hb.mono HB3.out.size)⟩
end Go.Proofs.YtgpejfkmdenonaaGreat
