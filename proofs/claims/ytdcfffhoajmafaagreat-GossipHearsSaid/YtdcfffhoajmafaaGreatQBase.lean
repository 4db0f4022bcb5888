/- Small words of our own: results, regions that read and call in worlds that have only grown, slices that read as lists. Contracts of the plain functions of ident and of rubatoref02: what each returns, for every input. Numbers as bytes, in plain words: what is laid, what is read, and that the one comes back of the other. Pieces of bytes, in plain words: rows, texts and flags laid and read; what was laid is read, and what is read was laid. num.great, num.Get and the document's Get: what is read as a number. The document's Get: the same numbers. num.Size, num.Put and the document's Put: a number's bytes. num.Put and the document's Put. -/
import Derived.WalkSpells
import Derived.BigQuiet
import Derived.BigGuardPart
import Derived.WalkLawsBesides
import Derived.Lib.Hide
import Derived.StillTailTactics
import Derived.Test.YtdcfffhoajmafaaGreatRows
import Derived.Test.YtdcfffhoajmafaaGreatShelf
set_option maxHeartbeats 400000
namespace Go.Proofs.YtdcfffhoajmafaaGreat
open Go.RowKit Go.Proofs.Tryz
theorem jw {p:Prop} (h:p:=by first | assumption | exact Below.drew (by assumption) | exact qab (by assumption) _ | exact (qab (by assumption) _).drew):p:=h
theorem jy {p:Prop} (h:p:=by first | assumption | exact Below.drew (by assumption)):p:=h
theorem jn {p:Prop} (h:p:=by first | assumption | exact And.left (by assumption)):p:=h
theorem jN {p:Prop} (h:p:=by assumption):p:=h
theorem jl {p:Prop} (h:p:=by unfold maxLen;omega):p:=h
theorem jV {p:Prop} (h:p:=by simp [Value.oneCell']):p:=h
theorem jr {p:Prop} (h:p:=by rfl):p:=h
theorem jo {p:Prop} (h:p:=by omega):p:=h
theorem jk {p:Prop} (h:p:=by kernel_rfl):p:=h
theorem jd {p:Prop} (h:p:=by decide):p:=h
theorem js {p:Prop} (h:p:=by simp):p:=h
theorem jso {p:Prop} (h:p:=by simp;omega):p:=h
theorem jf {q p:Prop} (x:q) (h:q→p:=by (intro this;first | (simp;done) | (simp;omega))):p:=h x
theorem jg {q p:Prop} (x:q) (h:q→p:=by (intro this;omega)):p:=h x
abbrev vaa:=@Nat.le_refl
abbrev vab:=@decide_eq_false
abbrev vac:=@List.getElem!_cons_zero
abbrev vad:=@Nat.lt_of_lt_of_le
abbrev vae:=@getElem!_pos
abbrev vaf:=@List.getElem!_cons_succ
abbrev vag:=@Below.refl
abbrev vah:=@decide_eq_true
abbrev vai:=@List.exists_cons_of_length_eq_add_one
abbrev vaj:=@Nat.zero_le
abbrev vak:=@Nat.add_zero
abbrev val:=@Nat.lt_or_ge
abbrev vam:=@if_pos
abbrev van:=@wpQuiet_nil
abbrev vao:=@if_neg
abbrev vap:=@decide_eq_true_eq
abbrev vaq:=@Below.drew
abbrev var:=@Array.eq_empty_of_size_eq_zero
abbrev vas:=@cell_of_row
abbrev vat:=@decide_eq_false_iff_not
abbrev vau:=@bodyPost_ret
abbrev vav:=@Bool.and_eq_true
abbrev vaw:=@heap_alloc_new
abbrev vax:=@Nat.le_trans
abbrev vay:=@wpList_append_own
abbrev vaz:=@List.take_of_length_le
abbrev vba:=@Nat.eq_zero_or_pos
abbrev vbb:=@Array.getElem?_setIfInBounds
abbrev vbc:=@IntKind.wrap_i64
abbrev vbd:=@Bool.eq_iff_iff
abbrev vbe:=@Array.getElem?_eq_getElem
abbrev vbf:=@heap_setCell_other
abbrev vbg:=@setRow_other
abbrev vbh:=@Array.getElem?_toList
abbrev vbi:=@Bool.eq_false_iff
abbrev vbj:=@decide_eq_true_iff
abbrev vbk:=@Array.size_push
abbrev vbl:=@List.getElem?_eq_getElem
abbrev vbm:=@Array.getElem?_eq_some_iff
abbrev vbn:=@Array.getElem?_eq_none
abbrev vbo:=@info_parts
abbrev vbp:=@List.pairwise_iff_getElem
abbrev vbq:=@World.cell?_alloc_lt
abbrev vbr:=@List.getElem?_eq_none
abbrev vbs:=@Nat.succ.inj
abbrev vbt:=@List.mem_iff_getElem
abbrev vbu:=@List.pairwise_cons
abbrev vbv:=@List.mem_range
abbrev vbw:=@List.mem_append
abbrev vbx:=@getElem!_def
abbrev vby:=@Nat.le_of_eq
abbrev vbz:=@setRow_heap
abbrev vca:=@List.any_eq_true
abbrev vcb:=@List.mem_cons
abbrev vcc:=@Nat.zero_add
abbrev vcd:=@Bool.or_eq_true
abbrev vce:=@Nat.mul_le_mul_right
abbrev vcf:=@List.length_filter_le
abbrev vcg:=@List.eq_nil_of_length_eq_zero
abbrev vch:=@beq_eq_false_iff_ne
abbrev vci:=@Nat.not_lt_zero
abbrev vcj:=@World.ownsRow_nil
abbrev vck:=@List.mem_filter
abbrev vcl:=@List.drop_of_length_le
abbrev vcm:=@List.pairwise_append
abbrev vcn:=@Bool.true_and
abbrev vco:=@List.mem_singleton
abbrev vcp:=@List.mem_map
abbrev vcq:=@Nat.mul_one
abbrev vcr:=@Nat.lt_succ_self
abbrev vcs:=@World.drewN_drewN
abbrev vct:=@List.contains_iff_mem
abbrev vcu:=@IntWalk.i64_in
abbrev vcv:=@Array.getElem?_map
abbrev vcw:=@Array.getElem?_modify
abbrev vcx:=@List.all_eq_true
abbrev vcy:=@rounds_succ
abbrev vcz:=@World.cell?_setCell_other
abbrev vda:=@Array.toList_inj
abbrev vdb:=@List.take_add_one
abbrev vdc:=@List.getElem?_map
abbrev vdd:=@Array.size_append
abbrev vde:=@Array.getD_eq_getD_getElem?
abbrev vdf:=@World.cell?_of_block
abbrev vdg:=@List.getElem!_eq_getElem?_getD
abbrev vdh:=@heap_setCell_same
abbrev vdi:=@wp_loop_rounds
abbrev vdj:=@Lib.toList_data
abbrev vdk:=@List.length_append
abbrev vdl:=@Nat.add_assoc
abbrev vdm:=@of_decide_eq_true
abbrev vdn:=@List.map_append
abbrev vdo:=@Int.le_refl
abbrev vdp:=@List.drop_eq_getElem_cons
abbrev vdq:=@List.filter_append
abbrev vdr:=@Bool.not_eq_true
abbrev vds:=@Nat.ne_of_gt
abbrev vdt:=@List.pairwise_map
abbrev vdu:=@List.any_eq_false
abbrev vdv:=@Bool.not_eq_true'
abbrev vdw:=@Array.toList_push
abbrev vdx:=@Nat.succ_mul
abbrev vdy:=@List.length_cons
abbrev vdz:=@Bool.and_false
abbrev vea:=@Array.getElem?_append_left
abbrev veb:=@enters_of
abbrev vec:=@List.ext_getElem?
abbrev ved:=@Array.length_toList
abbrev vee:=@decide_eq_decide
abbrev vef:=@beq_iff_eq
abbrev veg:=@run_equalIn_agg
abbrev veh:=@heap_alloc2_new
abbrev vei:=@List.getElem?_append_right
abbrev vej:=@List.getElem?_append_left
abbrev vek:=@run_loadVar_row
abbrev vel:=@List.any_append
abbrev vem:=@Nat.add_sub_cancel
abbrev ven:=@Array.ext_getElem?
abbrev veo:=@List.append_assoc
abbrev vep:=@List.take_append_drop
abbrev veq:=@Lib.run_eql_slice_nil
abbrev ver:=@Bool.and_eq_false_iff
abbrev ves:=@List.foldl_cons
abbrev vet:=@Array.toList_append
abbrev veu:=@Int.lt_or_le
abbrev vev:=@World.ownsRow_made
abbrev vew:=@Nat.mul_le_mul
abbrev vex:=@Bool.false_ne_true
abbrev vey:=@Bool.false_eq_true
abbrev vez:=@Bool.false_and
abbrev vfa:=@Below.heap_setCell
abbrev vfb:=@Nat.mod_one
abbrev vfc:=@Nat.lt_trichotomy
abbrev vfd:=@List.size_toArray
abbrev vfe:=@List.push_toArray
abbrev vff:=@List.getElem?_take_of_lt
abbrev vfg:=@List.any_cons
abbrev vfh:=@Nat.add_sub_cancel_left
abbrev vfi:=@List.filter_cons
theorem hI {p:Prop} (h:p):Hid p:=h
theorem qag {k:IntKind} {a b:Int} (h:a=b):Ending.returned (.int k a)=.returned (.int k b):=by rw [h]
theorem qvz {k e:IntKind} {a b c d:Int} (h:a=b) (f:c=d):Ending.returned (.tuple #[.int k a,.int e c])=.returned (.tuple #[.int k b,.int e d]):=by rw [h,f]
theorem qad {a b:Bool} (h:a=b):Ending.returned (.bool a)=.returned (.bool b):=by rw [h]
theorem bel1 (w:World) (o:Obj):Below w.heap.size w (w.alloc o):=(vag _ _).alloc (vaa _) _
theorem qaj {B:Nat} {a w:World} (h:Below B a w) (n:Nat):Below B a (w.drewN n):=⟨h.os,h.tape,h.output,h.size,h.block⟩
theorem qaa {w a b:World} (h:Below w.heap.size w a) (k:Below a.heap.size a b):Below w.heap.size w b:=h.trans (k.mono h.size)
theorem qab {w a:World} (h:Below w.heap.size w a) (o:Obj):Below w.heap.size w (a.alloc o):=h.alloc h.size o
structure ExtW (w:World) where
 to:World
 h:Below w.heap.size w to
instance (w:World):Inhabited (ExtW w):=⟨⟨w,vag _ _⟩⟩
theorem ExtW.cell {w:World} {a:Addr} {v:Value} (b:a.block < w.heap.size) (h:w.cell? a=some v) (p:ExtW w):p.to.cell? a=some v:=by
 rw [p.h.cell b];exact h
theorem qac {P:Program} {id:Nat} {Q:Exit->Act->World->Prop} {a:Act} {w:World} {l:List Oper} (e:P.follows .mixedOrders=true) (d:Region.lexB .any l.toArray=true)
 (h:wpQuiet P l.toArray (fun b=>∃ p:ExtW w,b=p.to) (fun c=>∀ b,(∃ p:ExtW w,b=p.to)->Q .normal c b) l a):(Code.region id l.toArray true).wp P Q a w :=
 wp_region_quiet (C:=fun b=>∃ p:ExtW w,b=p.to) e d ⟨⟨w.drew,(vag _ _).drew⟩,rfl⟩ (by simpa using h)
theorem wprX {P:Program} {id:Nat} {Q:Exit->Act->World->Prop} {a:Act} {w:World} {l:List Oper} (h:wpQuiet P l.toArray (fun b=>∃ p:ExtW w,b=p.to) (fun c=>∀ b,(∃ p:ExtW w,b=p.to)->Q .normal c b) l a) (hm:P.follows .mixedOrders=true:=by kernel_rfl) (hB:Region.lexB .any l.toArray=true:=by kernel_rfl):(Code.region id l.toArray true).wp P Q a w:=qac hm hB h
theorem wpQn {P:Program} {b:Array Oper} {C:World->Prop} {Q:Exit->Act->World->Prop} {w:World} {a:Act} (h:∀ W,Below w.heap.size w W->Q .normal a W):wpQuiet P b C (fun d=>∀ c,(∃ p:ExtW w,c=p.to)->Q .normal d c) [] a:=van fun _ ⟨⟨W,f⟩,e⟩=>e ▸ h W f
theorem Calls.ext_of {P:Program} {f:FuncId} {args:Array Value} {w:World} {p:ExtW w} {v:Value}
 (h:Calls P f args p.to fun e a=>e=.returned v/\Below p.to.heap.size p.to a):Calls P f args p.to fun e b=>e=.returned v/\∃ q:ExtW w,b=q.to :=
 h.mono fun _ a ⟨c,d⟩=>⟨c,⟨a,p.h.trans (d.mono p.h.size)⟩,rfl⟩
theorem Calls.ext_same {P:Program} {f:FuncId} {args:Array Value} {w:World} {p:ExtW w} {v:Value}
 (h:Calls P f args p.to fun e d=>e=.returned v/\p.to=d):Calls P f args p.to fun e a=>e=.returned v/\∃ q:ExtW w,a=q.to :=
 h.mono fun _ _ ⟨b,c⟩=>⟨b,p,c.symm⟩
theorem qny {P:Program} {id:Nat} {Q:Exit->Act->World->Prop} {a:Act} {w:World} {l:List Oper} (n:Nat) (d:P.follows .mixedOrders=true) (c:Region.lexTailB .any l.toArray n=true)
 (h:wpStill P l.toArray w.drew (fun b=>wpList P l.toArray Q (l.drop n) b w.drew) (l.take n) a):(Code.region id l.toArray true).wp P Q a w :=
 wp_region_still_tail n d c h
theorem qdb {a:Func} (h:a.results=#[]) (tmps:Array Value) (P:Program) (w:World):(results a tmps).run P w=.ok (.tuple #[]) w:=by simp [results,h]
def qfi (id:Int):Int:=if id < 10\/999999 < id\/id % 10=0 then 31 else 0
def qat (id:Int):Int:=if id < 10\/999999 < id\/id % 10=0 then 0 else id % 10
def qfx (id:Int):Int:=if id < 10\/999999 < id\/id % 10=0 then 0 else id / 10
theorem qdc (id:Int) (w:World) :
 Calls prog 130 #[.int .i64 id] w fun e a=>e=.returned (.int .i64 (qfi id))/\w=a:=by
 go_in;go_wp2
 all_goals
  go_ret;exact ⟨qag (by unfold qfi;split <;> simp_all <;> omega),rfl⟩
theorem qol {id:Int} (h:id < 10\/999999 < id\/id % 10=0):qfi id=31:=by unfold qfi;rw [vam h]
theorem qqx {id:Int} (h:¬ (id < 10\/999999 < id\/id % 10=0)):qfi id=0:=by unfold qfi;rw [vao h]
theorem qph (id:Int) (w:World) :
 Calls prog 66 #[.int .i64 id] w fun e a=>e=.returned (.int .i64 (qat id))/\w=a:=by
 by_cases h:id < 10\/999999 < id\/id % 10=0
 .have b:=qol h
  have H:=hI h;clear h;go_in;go_wp2_with (go_at_call 130;refine (qdc _ _).mono ?_;rintro e a ⟨rfl,rfl⟩);go_ret;exact ⟨qag (by unfold qat;rw [vam H.out]),rfl⟩
 have b:=qqx h;have c:0<=id:=by omega
 have d:id<=999999:=by omega
 have H:=hI h;clear h;go_in;go_wp2_with (go_at_call 130;refine (qdc _ _).mono ?_;rintro e a ⟨rfl,rfl⟩);go_ret;exact ⟨qag (by unfold qat;rw [vao H.out]),rfl⟩
theorem Seq_any (id:Int) (w:World) :
 Calls prog 227 #[.int .i64 id] w fun e a=>e=.returned (.int .i64 (qfx id))/\w=a:=by
 by_cases h:id < 10\/999999 < id\/id % 10=0
 .have b:=qol h
  have H:=hI h;clear h;go_in;go_wp2_with (go_at_call 130;refine (qdc _ _).mono ?_;rintro e a ⟨rfl,rfl⟩);go_ret;exact ⟨qag (by unfold qfx;rw [vam H.out]),rfl⟩
 have b:=qqx h;have c:0<=id:=by omega
 have d:id<=999999:=by omega
 have H:=hI h;clear h;go_in;go_wp2_with (go_at_call 130;refine (qdc _ _).mono ?_;rintro e a ⟨rfl,rfl⟩);go_ret;exact ⟨qag (by unfold qfx;rw [vao H.out]),rfl⟩
theorem qdu (id:Int) (w:World) :
 Calls prog 117 #[.int .i64 id] w fun e a=>e=.returned (.tuple #[.int .i64 (qat id),.int .i64 (qfx id)])/\w=a:=by
 go_in;go_wp2
 all_goals
  go_ret2;exact ⟨qvz (by unfold qat;split <;> simp_all <;> omega) (by unfold qfx;split <;> simp_all <;> omega),rfl⟩
end Go.Proofs.YtdcfffhoajmafaaGreat
namespace Go.Proofs.YtdcfffhoajmafaaGreat.Nb
open Go.Proofs.Tryz
def be (n:Nat):List UInt8:=if _h:n=0 then [] else be (n / 256) ++ [UInt8.ofNat (n % 256)]
 termination_by n
 decreasing_by omega
def val (l:List UInt8):Nat:=l.foldl (fun a b=>256 * a + b.toNat) 0
end Go.Proofs.YtdcfffhoajmafaaGreat.Nb
namespace Go.Proofs.YtdcfffhoajmafaaGreat.Nb
open Go.Proofs.Tryz
structure RS where
 pos:Nat
 e:Nat
section
variable {s t:List UInt8} {r:RS} {most:Nat}
end
end Go.Proofs.YtdcfffhoajmafaaGreat.Nb
namespace Go.Proofs.YtdcfffhoajmafaaGreat
open Go.RowKit Nb Go.Proofs.Tryz
theorem drop_at (s:ByteArray) (p:Nat) (h:p < s.size):s.data.toList.drop p=s[p] :: s.data.toList.drop (p + 1):=by
 rw [vdp (by simpa using h)];rfl
theorem idx_str (s:ByteArray) (p:Nat) (h:p < s.size) (b:Nat) (a:s[p].toNat=b) (z:Int) (c:z=(p:Int)) (W:World) :
 (Instr.index 9 (.string s) (.int .i64 z)).run prog W=.ok (.int .u8 (b:Int)) W:=by
 subst c;rw [run_index_string W 9 s .i64 _ underlying9,dif_pos ⟨by omega,by omega⟩];have e:((p:Int)).toNat=p:=by omega
 simp only [e,a]
end Go.Proofs.YtdcfffhoajmafaaGreat
