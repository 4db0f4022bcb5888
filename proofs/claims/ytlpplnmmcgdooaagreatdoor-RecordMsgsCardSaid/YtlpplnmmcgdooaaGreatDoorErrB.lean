/- errors.As at a chain of faults: the number at its end, or its outermost fault. errors.As, and the functions of the package fail, at chains of faults. -/
import Derived.Test.YtlpplnmmcgdooaaGreatDoorErrA
namespace Go.Proofs.YtlpplnmmcgdooaaGreatDoor
open Go.RowKit Go.Extern.Stop Go.Stop Go.Extern

/-- The variable errors.errorType holds what the program's text lays there. -/
def Glob (w : World) : Prop := w.cell? ⟨0, 0, none⟩ = some (.iface 165 (.agg #[.pointer (some ⟨1, 29, none⟩)]))
theorem Glob.below {w w' : World} (h : Glob w) (hb : Below w.heap.size w w') : Glob w' := (hb.cell (p := ⟨0, 0, none⟩) (lt_of_cell h)).trans h

theorem ext_typeOf (args : Array Value) (w : World) : (callFunc 74 args).run Tryz.prog w = (((ReflectliteType.typeOf) args).run Tryz.prog w).andThen fun v w' => .ok (.value v) w' :=
  @run_callFunc_extern Tryz.prog 74 _ (ReflectliteType.typeOf) Tryz.func74 (by kernel_rfl) (by kernel_rfl) (by kernel_rfl) (by kernel_rfl) args w
theorem ext_valueOf (args : Array Value) (w : World) : (callFunc 83 args).run Tryz.prog w = ((((fun args => ReflectliteValue.unpack (args.getD 0 (.tuple #[])))) args).run Tryz.prog w).andThen fun v w' => .ok (.value v) w' :=
  @run_callFunc_extern Tryz.prog 83 _ ((fun args => ReflectliteValue.unpack (args.getD 0 (.tuple #[])))) Tryz.func83 (by kernel_rfl) (by kernel_rfl) (by kernel_rfl) (by kernel_rfl) args w
theorem ext_type (args : Array Value) (w : World) : (callFunc 84 args).run Tryz.prog w = ((((ReflectliteValue.methodAny (ReflectliteValue.valueError "reflectlite.Value.Type" 0) (fun t _ _ _ => ReflectliteType.toType t))) args).run Tryz.prog w).andThen fun v w' => .ok (.value v) w' :=
  @run_callFunc_extern Tryz.prog 84 _ ((ReflectliteValue.methodAny (ReflectliteValue.valueError "reflectlite.Value.Type" 0) (fun t _ _ _ => ReflectliteType.toType t))) Tryz.func84 (by kernel_rfl) (by kernel_rfl) (by kernel_rfl) (by kernel_rfl) args w
theorem ext_isNil (args : Array Value) (w : World) : (callFunc 85 args).run Tryz.prog w = ((((ReflectliteValue.method (ReflectliteValue.valueError "reflectlite.Value.IsNil" 0) ReflectliteValue.isNil)) args).run Tryz.prog w).andThen fun v w' => .ok (.value v) w' :=
  @run_callFunc_extern Tryz.prog 85 _ ((ReflectliteValue.method (ReflectliteValue.valueError "reflectlite.Value.IsNil" 0) ReflectliteValue.isNil)) Tryz.func85 (by kernel_rfl) (by kernel_rfl) (by kernel_rfl) (by kernel_rfl) args w
theorem ext_kind (args : Array Value) (w : World) : (callFunc 139 args).run Tryz.prog w = ((((ReflectliteType.abiMethod fun t => do pure (.int .u8 (← Rtype.kind t)))) args).run Tryz.prog w).andThen fun v w' => .ok (.value v) w' :=
  @run_callFunc_extern Tryz.prog 139 _ ((ReflectliteType.abiMethod fun t => do pure (.int .u8 (← Rtype.kind t)))) Tryz.func139 (by kernel_rfl) (by kernel_rfl) (by kernel_rfl) (by kernel_rfl) args w
theorem ext_elem (args : Array Value) (w : World) : (callFunc 152 args).run Tryz.prog w = ((((ReflectliteType.method ReflectliteType.elem)) args).run Tryz.prog w).andThen fun v w' => .ok (.value v) w' :=
  @run_callFunc_extern Tryz.prog 152 _ ((ReflectliteType.method ReflectliteType.elem)) Tryz.func152 (by kernel_rfl) (by kernel_rfl) (by kernel_rfl) (by kernel_rfl) args w
theorem ext_implements (args : Array Value) (w : World) : (callFunc 153 args).run Tryz.prog w = ((((ReflectliteType.relation "Implements" ReflectliteType.implements_)) args).run Tryz.prog w).andThen fun v w' => .ok (.value v) w' :=
  @run_callFunc_extern Tryz.prog 153 _ ((ReflectliteType.relation "Implements" ReflectliteType.implements_)) Tryz.func153 (by kernel_rfl) (by kernel_rfl) (by kernel_rfl) (by kernel_rfl) args w
theorem ext_assignable (args : Array Value) (w : World) : (callFunc 150 args).run Tryz.prog w = ((((ReflectliteType.relation "AssignableTo" ReflectliteType.assignableTo)) args).run Tryz.prog w).andThen fun v w' => .ok (.value v) w' :=
  @run_callFunc_extern Tryz.prog 150 _ ((ReflectliteType.relation "AssignableTo" ReflectliteType.assignableTo)) Tryz.func150 (by kernel_rfl) (by kernel_rfl) (by kernel_rfl) (by kernel_rfl) args w
theorem ext_elemV (args : Array Value) (w : World) : (callFunc 106 args).run Tryz.prog w = ((((ReflectliteValue.method (ReflectliteValue.valueError "reflectlite.Value.Elem" 0) ReflectliteValue.elem)) args).run Tryz.prog w).andThen fun v w' => .ok (.value v) w' :=
  @run_callFunc_extern Tryz.prog 106 _ ((ReflectliteValue.method (ReflectliteValue.valueError "reflectlite.Value.Elem" 0) ReflectliteValue.elem)) Tryz.func106 (by kernel_rfl) (by kernel_rfl) (by kernel_rfl) (by kernel_rfl) args w
theorem ext_set (args : Array Value) (w : World) : (callFunc 107 args).run Tryz.prog w = (((ReflectliteValue.set) args).run Tryz.prog w).andThen fun v w' => .ok (.value v) w' :=
  @run_callFunc_extern Tryz.prog 107 _ (ReflectliteValue.set) Tryz.func107 (by kernel_rfl) (by kernel_rfl) (by kernel_rfl) (by kernel_rfl) args w

/-- errors.as at a chain, the target a *api.Errno. -/
theorem asE_any (ops : List ByteArray) (c : Int) (v : Value) (t a : Addr) (old : Value) (w : World) (h : Chain w ops c v) (ha : w.cell? a = some (.pointer (some t))) (ht : w.cell? t = some old) (hf : w.frozen? t = false) :
    Calls Tryz.prog 86 #[v, .iface 88 (.pointer (some t)), .agg #[.pointer (some ⟨1, 88, none⟩), .pointer (some a), .int .u64 150], .iface 165 (.agg #[.pointer (some ⟨1, 34, none⟩)])] w fun ev w' =>
      ev = .returned (.bool true) ∧ w' = ((w.alloc (.cells #[.pointer (some ⟨1, 88, none⟩), .pointer (some a), .int .u64 150] 138)).alloc (.cells #[.int .i64 c] 34)).setCell t (.int .i64 c) := by
  have htl := lt_of_cell ht
  have hal := lt_of_cell ha
  have h1 := ext_typeOf
  have h2 := ext_assignable
  have h3 := ext_valueOf
  have h4 := ext_elemV
  have h5 := ext_set
  have f1 := typeOfE
  have f2 := typeOfF
  have f3 := assignEE
  have f4 := assignFE
  have f5 := valueOfE
  have f6 := methodAssignableTo
  have f7 := noAsF
  have f8 := hasUnwrapF
  have f9 := methodUnwrap
  have el := elemVPE a t (w.alloc (.cells #[.pointer (some ⟨1, 88, none⟩), .pointer (some a), .int .u64 150] 138)) (by rw [World.cell?_alloc_lt _ _ a hal]; exact ha)
  have st := setE t ⟨w.heap.size + 1, 0, none⟩ c old ((w.alloc (.cells #[.pointer (some ⟨1, 88, none⟩), .pointer (some a), .int .u64 150] 138)).alloc (.cells #[.int .i64 c] 34))
    (by rw [World.cell?_alloc_at _ _ _ _ (by simp)]; rfl)
    (by rw [World.cell?_alloc_lt _ _ t (by simp; omega), World.cell?_alloc_lt _ _ t htl]; exact ht)
    (by rw [World.frozen?_alloc_old _ _ t (by simp; omega), World.frozen?_alloc_old _ _ t (Nat.ne_of_lt htl)]; exact hf)
  have HC := Lib.hid h
  clear h ha ht hf htl hal
  go_enter Tryz.func86, Tryz.ntmps86
  go_wp2
  go_loopg [0] ops.length (fun k v wr => wr = w.alloc (.cells #[.pointer (some ⟨1, 88, none⟩), .pointer (some a), .int .u64 150] 138) ∧ ∃ l : List ByteArray, l.length = k ∧ Chain w l c v)
  case atStart => exact ⟨rfl, ops, rfl, HC.out⟩
  case round =>
    obtain ⟨rfl, l, hl, hch⟩ := hrel
    cases l with
    | nil =>
      obtain rfl : _ = _ := hch
      clear hl
      go_wp2
      go_ret
      exact ⟨rfl, rfl⟩
    | cons op l =>
      obtain ⟨b, o, u, rfl, hc0, hc1, hu⟩ := hch
      have hblt := lt_of_cell hc1
      have HU := Lib.hid (Unwrap_any b o u (w.alloc (.cells #[.pointer (some ⟨1, 88, none⟩), .pointer (some a), .int .u64 150] 138)) (by rw [World.cell?_alloc_lt _ _ ⟨b, o + 1, none⟩ hblt]; exact hc1))
      have HL := Lib.hid hl
      have HV := Lib.hid hu
      clear hc0 hc1 hblt hl
      cases l with
      | nil =>
        obtain rfl : u = _ := hu
        go_wp2_with (go_at_call 148; refine HU.out.mono ?_; rintro e w' ⟨rfl, rfl⟩)
        go_roundg 0
        case rel => exact ⟨rfl, [], rfl, rfl⟩
        case measure => have := HL.out; simp at this; omega
      | cons op' l =>
        obtain ⟨b', o', u', rfl, _⟩ := hu
        go_wp2_with (go_at_call 148; refine HU.out.mono ?_; rintro e w' ⟨rfl, rfl⟩)
        go_roundg (l.length + 1)
        case rel => exact ⟨rfl, op' :: l, rfl, HV.out⟩
        case measure => have := HL.out; simp at this; omega
/-- errors.as at a chain, the target a **fail.Fault: the outermost fault. -/
theorem asF_any (p t a : Addr) (old : Value) (w : World) (ha : w.cell? a = some (.pointer (some t))) (ht : w.cell? t = some old) (hf : w.frozen? t = false) :
    Calls Tryz.prog 86 #[.iface 145 (.pointer (some p)), .iface 187 (.pointer (some t)), .agg #[.pointer (some ⟨1, 187, none⟩), .pointer (some a), .int .u64 150], .iface 165 (.agg #[.pointer (some ⟨1, 145, none⟩)])] w fun ev w' =>
      ev = .returned (.bool true) ∧ w' = ((w.alloc (.cells #[.pointer (some ⟨1, 187, none⟩), .pointer (some a), .int .u64 150] 138)).alloc (.cells #[.pointer (some p)] 145)).setCell t (.pointer (some p)) := by
  have htl := lt_of_cell ht
  have hal := lt_of_cell ha
  have h1 := ext_typeOf
  have h2 := ext_assignable
  have h3 := ext_valueOf
  have h4 := ext_elemV
  have h5 := ext_set
  have f2 := typeOfF
  have f4 := assignFF
  have f5 := valueOfF
  have f6 := methodAssignableTo
  have el := elemVPPF a t (w.alloc (.cells #[.pointer (some ⟨1, 187, none⟩), .pointer (some a), .int .u64 150] 138)) (by rw [World.cell?_alloc_lt _ _ a hal]; exact ha)
  have st := setF t ⟨w.heap.size + 1, 0, none⟩ p old ((w.alloc (.cells #[.pointer (some ⟨1, 187, none⟩), .pointer (some a), .int .u64 150] 138)).alloc (.cells #[.pointer (some p)] 145))
    (by rw [World.cell?_alloc_at _ _ _ _ (by simp)]; rfl)
    (by rw [World.cell?_alloc_lt _ _ t (by simp; omega), World.cell?_alloc_lt _ _ t htl]; exact ht)
    (by rw [World.frozen?_alloc_old _ _ t (by simp; omega), World.frozen?_alloc_old _ _ t (Nat.ne_of_lt htl)]; exact hf)
  clear ha ht hf htl hal
  go_enter Tryz.func86, Tryz.ntmps86
  go_wp2
  refine wp_loop_rounds 1 ?_
  rw [rounds_succ]
  go_wp2
  go_ret
  exact ⟨rfl, rfl⟩
/-- errors.as at a bare number, the target a **fail.Fault: none. -/
theorem asN_any (c : Int) (t a : Addr) (w : World) :
    Calls Tryz.prog 86 #[.iface 34 (.int .i64 c), .iface 187 (.pointer (some t)), .agg #[.pointer (some ⟨1, 187, none⟩), .pointer (some a), .int .u64 150], .iface 165 (.agg #[.pointer (some ⟨1, 145, none⟩)])] w fun ev w' =>
      ev = .returned (.bool false) ∧ w' = w.alloc (.cells #[.pointer (some ⟨1, 187, none⟩), .pointer (some a), .int .u64 150] 138) := by
  have h1 := ext_typeOf
  have h2 := ext_assignable
  have f2 := typeOfE
  have f4 := assignEF
  have f6 := methodAssignableTo
  have f7 := noAsE
  have f8 := noUnwrapE
  have f9 := noUnwrapsE
  go_enter Tryz.func86, Tryz.ntmps86
  go_wp2
  refine wp_loop_rounds 1 ?_
  rw [rounds_succ]
  go_wp2
  go_ret
  exact ⟨rfl, rfl⟩
/-- errors.As of no error. -/
theorem AsNil_any (t : Value) (w : World) :
    Calls Tryz.prog 45 #[.nilIface, t] w fun e w' => e = .returned (.bool false) ∧ w = w' := by
  go_enter Tryz.func45, Tryz.ntmps45
  go_wp2
  go_ret
  exact ⟨rfl, rfl⟩
end Go.Proofs.YtlpplnmmcgdooaaGreatDoor
namespace Go.Proofs.YtlpplnmmcgdooaaGreatDoor
open Go.RowKit Go.Extern.Stop Go.Stop Go.Extern

/-- What errors.As leaves: the target's cell is set, all else that lay there is as it was. -/
structure Hit (w : World) (t : Addr) (u : Value) (w' : World) : Prop where
  cell : w'.cell? t = some u
  grown : w.grownBy w' (some t.block)
theorem grown_alloc {a w : World} {row : Option Nat} (h : a.grownBy w row) (o : Obj) : a.grownBy (w.alloc o) row :=
  ⟨h.os, h.tape, h.output, Nat.le_trans h.size (by simp), fun i hi hne => (Below.heap_alloc w o i (Nat.lt_of_lt_of_le hi h.size)).trans (h.block i hi hne)⟩
theorem grown_setCell {a w : World} {g : Nat} (h : a.grownBy w (some g)) {p : Addr} (hp : p.block = g) (u : Value) : a.grownBy (w.setCell p u) (some g) :=
  ⟨h.os, h.tape, h.output, by simpa [World.setCell] using h.size, fun i hi hne => (Below.heap_setCell w p u i (by rintro rfl; exact hne (by rw [hp]))).trans (h.block i hi hne)⟩
theorem hit_of {w : World} {t : Addr} {u old : Value} (ht : w.cell? t = some old) (o1 o2 o3 o4 : Obj) : Hit w t u (((((w.alloc o1).alloc o2).alloc o3).alloc o4).setCell t u) := by
  have htl := lt_of_cell ht
  have e1 : ((((w.alloc o1).alloc o2).alloc o3).alloc o4).cell? t = some old := by
    rw [World.cell?_alloc_lt _ _ t (by simp; omega), World.cell?_alloc_lt _ _ t (by simp; omega), World.cell?_alloc_lt _ _ t (by simp; omega), World.cell?_alloc_lt _ _ t htl]; exact ht
  exact ⟨World.cell?_setCell_same _ _ _ e1, grown_setCell (grown_alloc (grown_alloc (grown_alloc (grown_alloc (World.grownBy.refl w _) o1) o2) o3) o4) rfl u⟩
theorem below_of_grown {w a b : World} (h : Below w.heap.size w a) {g : Nat} (hg : a.grownBy b (some g)) (hlt : w.heap.size ≤ g) : Below w.heap.size w b :=
  ⟨hg.os.trans h.os, hg.tape.trans h.tape, hg.output.trans h.output, Nat.le_trans h.size hg.size, fun i hi => (hg.block i (Nat.lt_of_lt_of_le hi h.size) (by intro e; injection e with e; omega)).trans (h.block i hi)⟩

set_option maxHeartbeats 1000000 in
theorem AsE_any (ops : List ByteArray) (c : Int) (v : Value) (t : Addr) (old : Value) (w : World) (hg : Glob w) (h : Chain w ops c v) (ht : w.cell? t = some old) (hf : w.frozen? t = false) :
    Calls Tryz.prog 45 #[v, .iface 88 (.pointer (some t))] w fun ev w' => ev = .returned (.bool true) ∧ Hit w t (.int .i64 c) w' := by
  have htl := lt_of_cell ht
  have h1 := ext_valueOf
  have h2 := ext_type
  have h3 := ext_isNil
  have h4 := ext_kind
  have h5 := ext_elem
  have h6 := ext_implements
  have f1 := valueOfPE
  have f2 := typePE
  have f3 := methodKind
  have f4 := methodElem
  have f5 := methodImplements
  have f6 := kindPE
  have f7 := kindE
  have f8 := elemPE
  have f9 := implE
  have n8 := isNilPE ⟨w.heap.size, 0, none⟩ t ((w.alloc (.cells #[.pointer (some t)] 88)).alloc (.cells #[.pointer (some ⟨1, 88, none⟩), .pointer (some ⟨w.heap.size, 0, none⟩), .int .u64 150] 138)) (by simp)
  have hg1 : ((w.alloc (.cells #[.pointer (some t)] 88)).alloc (.cells #[.pointer (some ⟨1, 88, none⟩), .pointer (some ⟨w.heap.size, 0, none⟩), .int .u64 150] 138)).cell? ⟨0, 0, none⟩ = some (.iface 165 (.agg #[.pointer (some ⟨1, 29, none⟩)])) :=
    hg.below (belAlloc (bel1 w _) _)
  have HA := Lib.hid (asE_any ops c v t ⟨w.heap.size, 0, none⟩ old ((w.alloc (.cells #[.pointer (some t)] 88)).alloc (.cells #[.pointer (some ⟨1, 88, none⟩), .pointer (some ⟨w.heap.size, 0, none⟩), .int .u64 150] 138))
    (h.below (belAlloc (bel1 w _) _)) (by simp)
    (by rw [World.cell?_alloc_lt _ _ t (by simp; omega), World.cell?_alloc_lt _ _ t htl]; exact ht)
    (by rw [World.frozen?_alloc_old _ _ t (by simp; omega), World.frozen?_alloc_old _ _ t (Nat.ne_of_lt htl)]; exact hf))
  have HT := Lib.hid ht
  clear hg htl ht hf
  cases ops with
  | nil =>
    obtain rfl : _ = _ := h
    go_enter Tryz.func45, Tryz.ntmps45
    go_wp2_with (go_at_call 86; refine HA.out.mono ?_; rintro e w' ⟨rfl, rfl⟩)
    go_ret
    exact ⟨rfl, hit_of HT.out _ _ _ _⟩
  | cons op ops =>
    obtain ⟨b, o, u, rfl, _⟩ := h
    go_enter Tryz.func45, Tryz.ntmps45
    go_wp2_with (go_at_call 86; refine HA.out.mono ?_; rintro e w' ⟨rfl, rfl⟩)
    go_ret
    exact ⟨rfl, hit_of HT.out _ _ _ _⟩
set_option maxHeartbeats 1000000 in
theorem AsF_any (p t : Addr) (old : Value) (w : World) (hg : Glob w) (ht : w.cell? t = some old) (hf : w.frozen? t = false) :
    Calls Tryz.prog 45 #[.iface 145 (.pointer (some p)), .iface 187 (.pointer (some t))] w fun ev w' => ev = .returned (.bool true) ∧ Hit w t (.pointer (some p)) w' := by
  have htl := lt_of_cell ht
  have h1 := ext_valueOf
  have h2 := ext_type
  have h3 := ext_isNil
  have h4 := ext_kind
  have h5 := ext_elem
  have h6 := ext_implements
  have f1 := valueOfPPF
  have f2 := typePPF
  have f3 := methodKind
  have f4 := methodElem
  have f5 := methodImplements
  have f6 := kindPPF
  have f7 := kindPF
  have f8 := elemPPF
  have f9 := implF
  have n8 := isNilPPF ⟨w.heap.size, 0, none⟩ t ((w.alloc (.cells #[.pointer (some t)] 187)).alloc (.cells #[.pointer (some ⟨1, 187, none⟩), .pointer (some ⟨w.heap.size, 0, none⟩), .int .u64 150] 138)) (by simp)
  have hg1 : ((w.alloc (.cells #[.pointer (some t)] 187)).alloc (.cells #[.pointer (some ⟨1, 187, none⟩), .pointer (some ⟨w.heap.size, 0, none⟩), .int .u64 150] 138)).cell? ⟨0, 0, none⟩ = some (.iface 165 (.agg #[.pointer (some ⟨1, 29, none⟩)])) :=
    hg.below (belAlloc (bel1 w _) _)
  have HA := Lib.hid (asF_any p t ⟨w.heap.size, 0, none⟩ old ((w.alloc (.cells #[.pointer (some t)] 187)).alloc (.cells #[.pointer (some ⟨1, 187, none⟩), .pointer (some ⟨w.heap.size, 0, none⟩), .int .u64 150] 138))
    (by simp)
    (by rw [World.cell?_alloc_lt _ _ t (by simp; omega), World.cell?_alloc_lt _ _ t htl]; exact ht)
    (by rw [World.frozen?_alloc_old _ _ t (by simp; omega), World.frozen?_alloc_old _ _ t (Nat.ne_of_lt htl)]; exact hf))
  have HT := Lib.hid ht
  clear hg htl ht hf
  go_enter Tryz.func45, Tryz.ntmps45
  go_wp2_with (go_at_call 86; refine HA.out.mono ?_; rintro e w' ⟨rfl, rfl⟩)
  go_ret
  exact ⟨rfl, hit_of HT.out _ _ _ _⟩
set_option maxHeartbeats 1000000 in
theorem AsN_any (c : Int) (t : Addr) (w : World) (hg : Glob w) :
    Calls Tryz.prog 45 #[.iface 34 (.int .i64 c), .iface 187 (.pointer (some t))] w fun ev w' => ev = .returned (.bool false) ∧ Below w.heap.size w w' := by
  have h1 := ext_valueOf
  have h2 := ext_type
  have h3 := ext_isNil
  have h4 := ext_kind
  have h5 := ext_elem
  have h6 := ext_implements
  have f1 := valueOfPPF
  have f2 := typePPF
  have f3 := methodKind
  have f4 := methodElem
  have f5 := methodImplements
  have f6 := kindPPF
  have f7 := kindPF
  have f8 := elemPPF
  have f9 := implF
  have n8 := isNilPPF ⟨w.heap.size, 0, none⟩ t ((w.alloc (.cells #[.pointer (some t)] 187)).alloc (.cells #[.pointer (some ⟨1, 187, none⟩), .pointer (some ⟨w.heap.size, 0, none⟩), .int .u64 150] 138)) (by simp)
  have hg1 : ((w.alloc (.cells #[.pointer (some t)] 187)).alloc (.cells #[.pointer (some ⟨1, 187, none⟩), .pointer (some ⟨w.heap.size, 0, none⟩), .int .u64 150] 138)).cell? ⟨0, 0, none⟩ = some (.iface 165 (.agg #[.pointer (some ⟨1, 29, none⟩)])) :=
    hg.below (belAlloc (bel1 w _) _)
  clear hg
  go_enter Tryz.func45, Tryz.ntmps45
  go_wp2_with (go_at_call 86; refine (asN_any _ _ _ _).mono ?_; rintro e w' ⟨rfl, rfl⟩)
  go_ret
  exact ⟨rfl, belAlloc (belAlloc (bel1 w _) _) _⟩

/-! the package fail -/
theorem Code_any (ops : List ByteArray) (c : Int) (v : Value) (w : World) (hg : Glob w) (h : ErrV w ops c v) :
    Calls Tryz.prog 12 #[v] w fun e w' => e = .returned (.int .i64 c) ∧ Below w.heap.size w w' := by
  rcases h with ⟨rfl, _, rfl⟩ | ⟨hc, h⟩
  · clear hg
    go_enter Tryz.func12, Tryz.ntmps12
    go_wp2
    go_ret
    exact ⟨rfl, Below.refl _ _⟩
  · have hc0 : (c == 0) = false := by simpa using hc
    have HA := Lib.hid (AsE_any ops c v ⟨w.heap.size, 0, none⟩ (.int .i64 0) (w.alloc (.cells #[.int .i64 0] 34)) (hg.below (bel1 w _)) (h.below (bel1 w _)) (by simp) (by simp))
    have hv : v ≠ .nilIface := by
      cases ops with
      | nil => rw [show v = _ from h]; intro e; cases e
      | cons op ops => obtain ⟨b, o, u, rfl, _⟩ := h; intro e; cases e
    clear hc hg
    have key : ∀ V : Value, v = V → Calls Tryz.prog 45 #[V, .iface 88 (.pointer (some ⟨w.heap.size, 0, none⟩))] (w.alloc (.cells #[.int .i64 0] 34)) fun ev w' => ev = .returned (.bool true) ∧ Hit (w.alloc (.cells #[.int .i64 0] 34)) ⟨w.heap.size, 0, none⟩ (.int .i64 c) w' := fun V e => by rw [← e]; exact HA.out
    have HK := Lib.hid key
    clear HA key hv
    cases ops with
    | nil =>
      obtain rfl : _ = _ := h
      go_enter Tryz.func12, Tryz.ntmps12
      go_wp2_with (go_at_call 45; refine (HK.out _ rfl).mono ?_; rintro e w' ⟨rfl, hh⟩; have hcell := hh.cell; have HG := Lib.hid hh.grown; clear hh)
      go_ret
      exact ⟨rfl, below_of_grown (bel1 w _) HG.out (Nat.le_refl _)⟩
    | cons op ops =>
      obtain ⟨b, o, u, rfl, _⟩ := h
      go_enter Tryz.func12, Tryz.ntmps12
      go_wp2_with (go_at_call 45; refine (HK.out _ rfl).mono ?_; rintro e w' ⟨rfl, hh⟩; have hcell := hh.cell; have HG := Lib.hid hh.grown; clear hh)
      go_ret
      exact ⟨rfl, below_of_grown (bel1 w _) HG.out (Nat.le_refl _)⟩
theorem New_any (op : ByteArray) (c : Int) (w : World) (hc : c ≠ 0) :
    Calls Tryz.prog 46 #[.string op, .int .i64 c] w fun e w' => ∃ v, e = .returned v ∧ Chain w' [op] c v ∧ Below w.heap.size w w' := by
  have hc0 : (c == 0) = false := by simpa using hc
  have k0 : (w.alloc (.cells #[.string op, .iface 34 (.int .i64 c)] 147)).cell? ⟨w.heap.size, 0, none⟩ = some (.string op) := by simp
  have k1 : (w.alloc (.cells #[.string op, .iface 34 (.int .i64 c)] 147)).cell? ⟨w.heap.size, 0 + 1, none⟩ = some (.iface 34 (.int .i64 c)) := by simp
  have K0 := Lib.hid k0
  have K1 := Lib.hid k1
  clear hc k0 k1
  go_enter Tryz.func46, Tryz.ntmps46
  go_wp2
  go_ret
  exact ⟨_, rfl, ⟨_, 0, _, rfl, K0.out, K1.out, rfl⟩, bel1 w _⟩
theorem WrapNil_any (op : ByteArray) (w : World) :
    Calls Tryz.prog 60 #[.string op, .nilIface] w fun e w' => e = .returned .nilIface ∧ w = w' := by
  go_enter Tryz.func60, Tryz.ntmps60
  go_wp2
  go_ret
  exact ⟨rfl, rfl⟩
theorem Wrap_any (op : ByteArray) (ops : List ByteArray) (c : Int) (v : Value) (w : World) (h : Chain w ops c v) :
    Calls Tryz.prog 60 #[.string op, v] w fun e w' => ∃ u, e = .returned u ∧ Chain w' (op :: ops) c u ∧ Below w.heap.size w w' := by
  have k0 : (w.alloc (.cells #[.string op, v] 147)).cell? ⟨w.heap.size, 0, none⟩ = some (.string op) := by simp
  have k1 : (w.alloc (.cells #[.string op, v] 147)).cell? ⟨w.heap.size, 0 + 1, none⟩ = some v := by simp
  have K0 := Lib.hid k0
  have K1 := Lib.hid k1
  have HC := Lib.hid (h.below (bel1 w (.cells #[.string op, v] 147)))
  clear k0 k1
  cases ops with
  | nil =>
    obtain rfl : v = _ := h
    go_enter Tryz.func60, Tryz.ntmps60
    go_wp2
    go_ret
    exact ⟨_, rfl, ⟨_, 0, _, rfl, K0.out, K1.out, HC.out⟩, bel1 w _⟩
  | cons op' ops =>
    obtain ⟨b, o, u, rfl, _⟩ := h
    go_enter Tryz.func60, Tryz.ntmps60
    go_wp2
    go_ret
    exact ⟨_, rfl, ⟨_, 0, _, rfl, K0.out, K1.out, HC.out⟩, bel1 w _⟩
end Go.Proofs.YtlpplnmmcgdooaaGreatDoor
