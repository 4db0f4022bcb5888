/- errors.As at a chain of faults: the number at its end, or its outermost fault. -/
import Derived.Test.YtlpplnmmcgdooaaGreatDoorErrA
namespace Go.Proofs.YtlpplnmmcgdooaaGreatDoor
open Go.RowKit Go.Extern.Stop Go.Stop Go.Extern

/-- The variable errors.errorType holds what the program's text lays there. -/
def Glob (w : World) : Prop := w.cell? ⟨0, 0, none⟩ = some (.iface 165 (.agg #[.pointer (some ⟨1, 29, none⟩)]))
theorem Glob.below {w w' : World} (h : Glob w) (hb : Below w.heap.size w w') : Glob w' := (hb.cell (p := ⟨0, 0, none⟩) (lt_of_cell h)).trans h

theorem ext_typeOf (args : Array Value) (w : World) : (callFunc 74 args).run Tryz.prog w = (((ReflectliteType.typeOf) args).run Tryz.prog w).andThen fun v w' => .ok (.value v) w' :=
  @run_callFunc_extern Tryz.prog 74 _ (ReflectliteType.typeOf) Tryz.func74 (by kernel_rfl) (by kernel_rfl) (by kernel_rfl) (by kernel_rfl) args w
theorem ext_valueOf (args : Array Value) (w : World) : (callFunc 83 args).run Tryz.prog w = ((((fun args => ReflectliteValue.unpack (args.getD 0 (.tuple #[])))) args).run Tryz.prog w).andThen fun v w' => .ok (.value v) w' :=
  @run_callFunc_extern Tryz.prog 83 _ ((fun args => ReflectliteValue.unpack (args.getD 0 (.tuple #[])))) Tryz.func83 (by kernel_rfl) (by kernel_rfl) (by kernel_rfl) (by kernel_rfl) args w
theorem ext_type (args : Array Value) (w : World) : (callFunc 84 args).run Tryz.prog w = ((((ReflectliteValue.methodAny (ReflectliteValue.valueError "reflectlite.Value.Type" 0) (fun t _ _ _ => ReflectliteType.toType t))) args).run Tryz.prog w).andThen fun v w' => .ok (.value v) w' :=
  @run_callFunc_extern Tryz.prog 84 _ ((ReflectliteValue.methodAny (ReflectliteValue.valueError "reflectlite.Value.Type" 0) (fun t _ _ _ => ReflectliteType.toType t))) Tryz.func84 (by kernel_rfl) (by kernel_rfl) (by kernel_rfl) (by kernel_rfl) args w
theorem ext_isNil (args : Array Value) (w : World) : (callFunc 85 args).run Tryz.prog w = ((((ReflectliteValue.method (ReflectliteValue.valueError "reflectlite.Value.IsNil" 0) ReflectliteValue.isNil)) args).run Tryz.prog w).andThen fun v w' => .ok (.value v) w' :=
  @run_callFunc_extern Tryz.prog 85 _ ((ReflectliteValue.method (ReflectliteValue.valueError "reflectlite.Value.IsNil" 0) ReflectliteValue.isNil)) Tryz.func85 (by kernel_rfl) (by kernel_rfl) (by kernel_rfl) (by kernel_rfl) args w
theorem ext_kind (args : Array Value) (w : World) : (callFunc 139 args).run Tryz.prog w = ((((ReflectliteType.abiMethod fun t => do pure (.int .u8 (← Rtype.kind t)))) args).run Tryz.prog w).andThen fun v w' => .ok (.value v) w' :=
  @run_callFunc_extern Tryz.prog 139 _ ((ReflectliteType.abiMethod fun t => do pure (.int .u8 (← Rtype.kind t)))) Tryz.func139 (by kernel_rfl) (by kernel_rfl) (by kernel_rfl) (by kernel_rfl) args w
theorem ext_elem (args : Array Value) (w : World) : (callFunc 152 args).run Tryz.prog w = ((((ReflectliteType.method ReflectliteType.elem)) args).run Tryz.prog w).andThen fun v w' => .ok (.value v) w' :=
  @run_callFunc_extern Tryz.prog 152 _ ((ReflectliteType.method ReflectliteType.elem)) Tryz.func152 (by kernel_rfl) (by kernel_rfl) (by kernel_rfl) (by kernel_rfl) args w
theorem ext_implements (args : Array Value) (w : World) : (callFunc 153 args).run Tryz.prog w = ((((ReflectliteType.relation "Implements" ReflectliteType.implements_)) args).run Tryz.prog w).andThen fun v w' => .ok (.value v) w' :=
  @run_callFunc_extern Tryz.prog 153 _ ((ReflectliteType.relation "Implements" ReflectliteType.implements_)) Tryz.func153 (by kernel_rfl) (by kernel_rfl) (by kernel_rfl) (by kernel_rfl) args w
theorem ext_assignable (args : Array Value) (w : World) : (callFunc 150 args).run Tryz.prog w = ((((ReflectliteType.relation "AssignableTo" ReflectliteType.assignableTo)) args).run Tryz.prog w).andThen fun v w' => .ok (.value v) w' :=
  @run_callFunc_extern Tryz.prog 150 _ ((ReflectliteType.relation "AssignableTo" ReflectliteType.assignableTo)) Tryz.func150 (by kernel_rfl) (by kernel_rfl) (by kernel_rfl) (by kernel_rfl) args w
theorem ext_elemV (args : Array Value) (w : World) : (callFunc 106 args).run Tryz.prog w = ((((ReflectliteValue.method (ReflectliteValue.valueError "reflectlite.Value.Elem" 0) ReflectliteValue.elem)) args).run Tryz.prog w).andThen fun v w' => .ok (.value v) w' :=
  @run_callFunc_extern Tryz.prog 106 _ ((ReflectliteValue.method (ReflectliteValue.valueError "reflectlite.Value.Elem" 0) ReflectliteValue.elem)) Tryz.func106 (by kernel_rfl) (by kernel_rfl) (by kernel_rfl) (by kernel_rfl) args w
theorem ext_set (args : Array Value) (w : World) : (callFunc 107 args).run Tryz.prog w = (((ReflectliteValue.set) args).run Tryz.prog w).andThen fun v w' => .ok (.value v) w' :=
  @run_callFunc_extern Tryz.prog 107 _ (ReflectliteValue.set) Tryz.func107 (by kernel_rfl) (by kernel_rfl) (by kernel_rfl) (by kernel_rfl) args w

/-- errors.as at a chain, the target a *api.Errno. -/
theorem asE_any (ops : List ByteArray) (c : Int) (v : Value) (t a : Addr) (old : Value) (w : World) (h : Chain w ops c v) (ha : w.cell? a = some (.pointer (some t))) (ht : w.cell? t = some old) (hf : w.frozen? t = false) :
    Calls Tryz.prog 86 #[v, .iface 88 (.pointer (some t)), .agg #[.pointer (some ⟨1, 88, none⟩), .pointer (some a), .int .u64 150], .iface 165 (.agg #[.pointer (some ⟨1, 34, none⟩)])] w fun ev w' =>
      ev = .returned (.bool true) ∧ w' = ((w.alloc (.cells #[.pointer (some ⟨1, 88, none⟩), .pointer (some a), .int .u64 150] 138)).alloc (.cells #[.int .i64 c] 34)).setCell t (.int .i64 c) := by
  have htl := lt_of_cell ht
  have hal := lt_of_cell ha
  have h1 := ext_typeOf
  have h2 := ext_assignable
  have h3 := ext_valueOf
  have h4 := ext_elemV
  have h5 := ext_set
  have f1 := typeOfE
  have f2 := typeOfF
  have f3 := assignEE
  have f4 := assignFE
  have f5 := valueOfE
  have f6 := methodAssignableTo
  have f7 := noAsF
  have f8 := hasUnwrapF
  have f9 := methodUnwrap
  have el := elemVPE a t (w.alloc (.cells #[.pointer (some ⟨1, 88, none⟩), .pointer (some a), .int .u64 150] 138)) (by rw [World.cell?_alloc_lt _ _ a hal]; exact ha)
  have st := setE t ⟨w.heap.size + 1, 0, none⟩ c old ((w.alloc (.cells #[.pointer (some ⟨1, 88, none⟩), .pointer (some a), .int .u64 150] 138)).alloc (.cells #[.int .i64 c] 34))
    (by rw [World.cell?_alloc_at _ _ _ _ (by simp)]; rfl)
    (by rw [World.cell?_alloc_lt _ _ t (by simp; omega), World.cell?_alloc_lt _ _ t htl]; exact ht)
    (by rw [World.frozen?_alloc_old _ _ t (by simp; omega), World.frozen?_alloc_old _ _ t (Nat.ne_of_lt htl)]; exact hf)
  have HC := Lib.hid h
  clear h ha ht hf htl hal
  go_enter Tryz.func86, Tryz.ntmps86
  go_wp2
  go_loopg [0] ops.length (fun k v wr => wr = w.alloc (.cells #[.pointer (some ⟨1, 88, none⟩), .pointer (some a), .int .u64 150] 138) ∧ ∃ l : List ByteArray, l.length = k ∧ Chain w l c v)
  case atStart => exact ⟨rfl, ops, rfl, HC.out⟩
  case round =>
    obtain ⟨rfl, l, hl, hch⟩ := hrel
    cases l with
    | nil =>
      obtain rfl : _ = _ := hch
      clear hl
      go_wp2
      go_ret
      exact ⟨rfl, rfl⟩
    | cons op l =>
      obtain ⟨b, o, u, rfl, hc0, hc1, hu⟩ := hch
      have hblt := lt_of_cell hc1
      have HU := Lib.hid (Unwrap_any b o u (w.alloc (.cells #[.pointer (some ⟨1, 88, none⟩), .pointer (some a), .int .u64 150] 138)) (by rw [World.cell?_alloc_lt _ _ ⟨b, o + 1, none⟩ hblt]; exact hc1))
      have HL := Lib.hid hl
      have HV := Lib.hid hu
      clear hc0 hc1 hblt hl
      cases l with
      | nil =>
        obtain rfl : u = _ := hu
        go_wp2_with (go_at_call 148; refine HU.out.mono ?_; rintro e w' ⟨rfl, rfl⟩)
        go_roundg 0
        case rel => exact ⟨rfl, [], rfl, rfl⟩
        case measure => have := HL.out; simp at this; omega
      | cons op' l =>
        obtain ⟨b', o', u', rfl, _⟩ := hu
        go_wp2_with (go_at_call 148; refine HU.out.mono ?_; rintro e w' ⟨rfl, rfl⟩)
        go_roundg (l.length + 1)
        case rel => exact ⟨rfl, op' :: l, rfl, HV.out⟩
        case measure => have := HL.out; simp at this; omega
/-- errors.as at a chain, the target a **fail.Fault: the outermost fault. -/
theorem asF_any (p t a : Addr) (old : Value) (w : World) (ha : w.cell? a = some (.pointer (some t))) (ht : w.cell? t = some old) (hf : w.frozen? t = false) :
    Calls Tryz.prog 86 #[.iface 145 (.pointer (some p)), .iface 187 (.pointer (some t)), .agg #[.pointer (some ⟨1, 187, none⟩), .pointer (some a), .int .u64 150], .iface 165 (.agg #[.pointer (some ⟨1, 145, none⟩)])] w fun ev w' =>
      ev = .returned (.bool true) ∧ w' = ((w.alloc (.cells #[.pointer (some ⟨1, 187, none⟩), .pointer (some a), .int .u64 150] 138)).alloc (.cells #[.pointer (some p)] 145)).setCell t (.pointer (some p)) := by
  have htl := lt_of_cell ht
  have hal := lt_of_cell ha
  have h1 := ext_typeOf
  have h2 := ext_assignable
  have h3 := ext_valueOf
  have h4 := ext_elemV
  have h5 := ext_set
  have f2 := typeOfF
  have f4 := assignFF
  have f5 := valueOfF
  have f6 := methodAssignableTo
  have el := elemVPPF a t (w.alloc (.cells #[.pointer (some ⟨1, 187, none⟩), .pointer (some a), .int .u64 150] 138)) (by rw [World.cell?_alloc_lt _ _ a hal]; exact ha)
  have st := setF t ⟨w.heap.size + 1, 0, none⟩ p old ((w.alloc (.cells #[.pointer (some ⟨1, 187, none⟩), .pointer (some a), .int .u64 150] 138)).alloc (.cells #[.pointer (some p)] 145))
    (by rw [World.cell?_alloc_at _ _ _ _ (by simp)]; rfl)
    (by rw [World.cell?_alloc_lt _ _ t (by simp; omega), World.cell?_alloc_lt _ _ t htl]; exact ht)
    (by rw [World.frozen?_alloc_old _ _ t (by simp; omega), World.frozen?_alloc_old _ _ t (Nat.ne_of_lt htl)]; exact hf)
  clear ha ht hf htl hal
  go_enter Tryz.func86, Tryz.ntmps86
  go_wp2
  refine wp_loop_rounds 1 ?_
  rw [rounds_succ]
  go_wp2
  go_ret
  exact ⟨rfl, rfl⟩
/-- errors.as at a bare number, the target a **fail.Fault: none. -/
theorem asN_any (c : Int) (t a : Addr) (w : World) :
    Calls Tryz.prog 86 #[.iface 34 (.int .i64 c), .iface 187 (.pointer (some t)), .agg #[.pointer (some ⟨1, 187, none⟩), .pointer (some a), .int .u64 150], .iface 165 (.agg #[.pointer (some ⟨1, 145, none⟩)])] w fun ev w' =>
      ev = .returned (.bool false) ∧ w' = w.alloc (.cells #[.pointer (some ⟨1, 187, none⟩), .pointer (some a), .int .u64 150] 138) := by
  have h1 := ext_typeOf
  have h2 := ext_assignable
  have f2 := typeOfE
  have f4 := assignEF
  have f6 := methodAssignableTo
  have f7 := noAsE
  have f8 := noUnwrapE
  have f9 := noUnwrapsE
  go_enter Tryz.func86, Tryz.ntmps86
  go_wp2
  refine wp_loop_rounds 1 ?_
  rw [rounds_succ]
  go_wp2
  go_ret
  exact ⟨rfl, rfl⟩
/-- errors.As of no error. -/
theorem AsNil_any (t : Value) (w : World) :
    Calls Tryz.prog 45 #[.nilIface, t] w fun e w' => e = .returned (.bool false) ∧ w = w' := by
  go_enter Tryz.func45, Tryz.ntmps45
  go_wp2
  go_ret
  exact ⟨rfl, rfl⟩
end Go.Proofs.YtlpplnmmcgdooaaGreatDoor
