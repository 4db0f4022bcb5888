/- errors.Is at a chain of faults; where it went wrong (fail.outer, Trace, At). -/
import Derived.Test.YtlpplnmmcgdooaaGreatDoorErrC
import Derived.Test.YtlpplnmmcgdooaaGreatDoorOwnK
namespace Go.Proofs.YtlpplnmmcgdooaaGreatDoor
open Go.RowKit Go.Extern.Stop Go.Stop Go.Extern Go.Sort

section
variable {P : Program} (w : World)
theorem equalIn_two (d : Nat) {ti tn : TypeId} {ms : Array (String × TypeId)} {i : TypeInfo} {k : IntKind} (a b : Int)
    (hi : P.underlying ti = some (.interface ms)) (hn : P.underlying tn = some (.int k)) (hinfo : P.info? tn = some i) (hcomp : i.comparable = true) :
    (Op.equalIn (d + 2) ti (.iface tn (.int k a)) (.iface tn (.int k b))).run P w = .ok (a == b) w := by
  simp [Op.equalIn, run_underlying hi, run_underlying hn, typeInfo, hinfo, hcomp]
theorem eql_two {ti tn : TypeId} {ms : Array (String × TypeId)} {i : TypeInfo} {k : IntKind} (a b : Int)
    (hi : P.underlying ti = some (.interface ms)) (hn : P.underlying tn = some (.int k)) (hinfo : P.info? tn = some i) (hcomp : i.comparable = true) :
    (binOp .eql ti (.iface tn (.int k a)) (.iface tn (.int k b))).run P w = .ok (.bool (a == b)) w := by
  simp only [binOp]
  simp [Op.equal, Op.maxDepth, equalIn_two w 9998 a b hi hn hinfo hcomp]
end
theorem compE : (Tryz.prog.info? 34).map (·.comparable) = some true := by kernel_rfl
theorem eql_errno (a b : Int) (w : World) : (binOp .eql 29 (.iface 34 (.int .i64 a)) (.iface 34 (.int .i64 b))).run Tryz.prog w = .ok (.bool (a == b)) w := by
  obtain ⟨i, hi, hc⟩ := Option.map_eq_some_iff.1 compE
  exact eql_two w a b Tryz.underlying29 Tryz.underlying34 hi hc
theorem eql_fault (p : Value) (b : Int) (w : World) : (binOp .eql 29 (.iface 145 p) (.iface 34 (.int .i64 b))).run Tryz.prog w = .ok (.bool false) w :=
  run_eql_iface_types (P := Tryz.prog) 145 34 p (.int .i64 b) Tryz.underlying29 (by decide) w
def cmpM : Array Value → Sem Value := Extern.ReflectliteType.method fun t => do Extern.Rtype.noPackHeld "Comparable" t; pure (.bool (← typeInfo t).comparable)
theorem comparableE (w : World) : (cmpM #[.agg #[.pointer (some ⟨1, 34, none⟩)]]).run Tryz.prog w = .ok (.bool true) w := by kernel_rfl
theorem ext_comparable (args : Array Value) (w : World) : (callFunc 151 args).run Tryz.prog w = ((cmpM args).run Tryz.prog w).andThen fun v w' => .ok (.value v) w' :=
  @run_callFunc_extern Tryz.prog 151 _ cmpM Tryz.func151 (by kernel_rfl) (by kernel_rfl) (by kernel_rfl) (by kernel_rfl) args w

set_option maxHeartbeats 1000000 in
theorem is_any (ops : List ByteArray) (c d : Int) (v : Value) (w : World) (h : Chain w ops c v) :
    Calls Tryz.prog 75 #[v, .iface 34 (.int .i64 d), .bool true] w fun ev w' => ev = .returned (.bool (c == d)) ∧ w = w' := by
  have f1 := eql_errno
  have f2 := eql_fault
  have f3 := noIsE
  have f4 := noIsF
  have f7 := noUnwrapE
  have f8 := hasUnwrapF
  have f9 := methodUnwrap
  have f10 := noUnwrapsE
  have HC := Lib.hid h
  clear h
  go_enter Tryz.func75, Tryz.ntmps75
  go_wp2
  go_loopg [0] ops.length (fun k v wr => wr = w ∧ ∃ l : List ByteArray, l.length = k ∧ Chain w l c v)
  case atStart => exact ⟨rfl, ops, rfl, HC.out⟩
  case round =>
    obtain ⟨rfl, l, hl, hch⟩ := hrel
    cases l with
    | nil =>
      obtain rfl : _ = _ := hch
      clear hl
      cases hcd : (c == d)
      · go_wp2
        go_ret
        exact ⟨ret_bool hcd.symm, rfl⟩
      · go_wp2
        go_ret
        exact ⟨ret_bool hcd.symm, rfl⟩
    | cons op l =>
      obtain ⟨b, o, u, rfl, hc0, hc1, hu⟩ := hch
      have HU := Lib.hid (Unwrap_any b o u wr hc1)
      have HL := Lib.hid hl
      have HV := Lib.hid hu
      clear hc0 hc1 hl
      cases l with
      | nil =>
        obtain rfl : u = _ := hu
        go_wp2_with (go_at_call 148; refine HU.out.mono ?_; rintro e w' ⟨rfl, rfl⟩)
        go_roundg 0
        case rel => exact ⟨rfl, [], rfl, rfl⟩
        case measure => have := HL.out; simp at this; omega
      | cons op' l =>
        obtain ⟨b', o', u', rfl, _⟩ := hu
        go_wp2_with (go_at_call 148; refine HU.out.mono ?_; rintro e w' ⟨rfl, rfl⟩)
        go_roundg (l.length + 1)
        case rel => exact ⟨rfl, op' :: l, rfl, HV.out⟩
        case measure => have := HL.out; simp at this; omega
theorem Is_any (ops : List ByteArray) (c d : Int) (v : Value) (w : World) (h : ErrV w ops c v) (hd : d ≠ 0) :
    Calls Tryz.prog 37 #[v, .iface 34 (.int .i64 d)] w fun ev w' => ev = .returned (.bool (c == d)) ∧ w = w' := by
  have h1 := ext_typeOf
  have h2 := ext_comparable
  have f1 := typeOfE
  have f2 := methodComparable
  have f3 := comparableE
  rcases h with ⟨rfl, _, rfl⟩ | ⟨hc, h⟩
  · have f4 := run_eql_iface_nil_left (P := Tryz.prog) w 34 (.int .i64 d) Tryz.underlying29
    have e0 : ((0 : Int) == d) = false := by simp; omega
    rw [e0]
    clear hd e0
    go_enter Tryz.func37, Tryz.ntmps37
    go_wp2
    go_ret
    exact ⟨rfl, rfl⟩
  · have HA := Lib.hid (is_any ops c d v w h)
    clear hd hc
    cases ops with
    | nil =>
      obtain rfl : _ = _ := h
      go_enter Tryz.func37, Tryz.ntmps37
      go_wp2_with (go_at_call 75; refine HA.out.mono ?_; rintro e w' ⟨rfl, rfl⟩)
      go_ret
      exact ⟨rfl, rfl⟩
    | cons op ops =>
      obtain ⟨b, o, u, rfl, _⟩ := h
      go_enter Tryz.func37, Tryz.ntmps37
      go_wp2_with (go_at_call 75; refine HA.out.mono ?_; rintro e w' ⟨rfl, rfl⟩)
      go_ret
      exact ⟨rfl, rfl⟩

/-! where it went wrong -/
theorem outerF_any (p : Addr) (w : World) (hg : Glob w) :
    Calls Tryz.prog 99 #[.iface 145 (.pointer (some p))] w fun e w' => e = .returned (.pointer (some p)) ∧ Below w.heap.size w w' := by
  have HA := Lib.hid (AsF_any p ⟨w.heap.size, 0, none⟩ (.pointer none) (w.alloc (.cells #[.pointer none] 145)) (hg.below (bel1 w _)) (by simp) (by simp))
  clear hg
  go_enter Tryz.func99, Tryz.ntmps99
  go_wp2_with (go_at_call 45; refine HA.out.mono ?_; rintro e w' ⟨rfl, hh⟩; have hcell := hh.cell; have HG := Lib.hid hh.grown; clear hh)
  go_ret
  exact ⟨rfl, below_of_grown (bel1 w _) HG.out (Nat.le_refl _)⟩
theorem outerN_any (c : Int) (w : World) (hg : Glob w) :
    Calls Tryz.prog 99 #[.iface 34 (.int .i64 c)] w fun e w' => e = .returned (.pointer none) ∧ Below w.heap.size w w' := by
  have HA := Lib.hid (AsN_any c ⟨w.heap.size, 0, none⟩ (w.alloc (.cells #[.pointer none] 145)) (hg.below (bel1 w _)))
  clear hg
  go_enter Tryz.func99, Tryz.ntmps99
  go_wp2_with (go_at_call 45; refine HA.out.mono ?_; rintro e w' ⟨rfl, hb⟩; have HB := Lib.hid hb; clear hb)
  go_ret
  exact ⟨rfl, belStep (bel1 w _) HB.out⟩
theorem outer0_any (w : World) :
    Calls Tryz.prog 99 #[.nilIface] w fun e w' => e = .returned (.pointer none) ∧ Below w.heap.size w w' := by
  go_enter Tryz.func99, Tryz.ntmps99
  go_wp2
  go_ret
  exact ⟨rfl, bel1 w _⟩
def encS (s : ByteArray) : List Value := [.string s]
theorem encS_len (s : ByteArray) : (encS s).length = 1 := rfl
theorem encS_1 (s : ByteArray) : ∀ u ∈ encS s, u.oneCell' = true := by intro u hu; simp [encS] at hu; subst hu; rfl
end Go.Proofs.YtlpplnmmcgdooaaGreatDoor
