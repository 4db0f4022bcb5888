/- The law GossipKeeps returns true for every input, and changes nothing that lay there. No condition. -/
import Derived.Test.YtlkmagmdhopcjaaGreatQOGossipKeeps
import Derived.Test.YtlkmagmdhopcjaaGreatQAwG
import Derived.Test.YtlkmagmdhopcjaaGreatQKaF
namespace Go.Proofs.YtlkmagmdhopcjaaGreat.gossipKeeps
open Go.ChangeShapes Go.WideShapes Go.ChangeAt Go.RowKit Go.Deep Go.Sort
set_option maxRecDepth 100000
theorem walk (r:RP) (m:PM) (t:Int) (w:World) (hr:RdP w r) (ra:RdK encA 2 w.heap.size w m.aA m.ats) (rm:RdI w.heap.size w m.mA m.mks) :
 Calls Tryz.prog 4 #[.agg (encP r).toArray,.agg (msgC m),.int .i64 t] w fun e w'=>e=.returned (.bool true)∧Below w.heap.size w w' :=
 qqn r m t w hr ra rm
set_option maxRecDepth 100000 in
theorem lifted (os:Os) (started:os.Started) (H:Type) (enc:TypeId×Value→H) :
 ReturnsInHanded {} Tryz.checked os 4 .any (Rows.gossipKeepsSpec.pre6 enc Tryz.prog Tryz.f4 Rows.gossipKeepsRow.domain false) (Rows.gossipKeepsSpec.post enc Tryz.prog Tryz.f4 false true false false):=by
 refine returnsInHanded_of_change_sized (C:=Tryz.checked) own started (by kernel_rfl) Tryz.func4
  (ChangeSpec.witness6 (enc:=enc) (C:=Tryz.checked) false ⟨#[],#[.agg #[.int .i64 0,.int .i64 0,.int .i64 0,.int .i64 0,.int .i64 0,.int .i64 0,.int .i64 0,.slice none 0 0,.slice none 0 0,.slice none 0 0,.slice none 0 0,.slice none 0 0,.slice none 0 0,.int .i64 0,.int .i64 0,.int .i64 0,.slice none 0 0,.slice none 0 0],.agg #[.int .i64 0,.int .i64 0,.int .i64 0,.int .i64 0,.int .i64 0,.int .i64 0,.int .i64 0,.int .i64 0,.string ⟨#[]⟩,.int .i64 0,.int .i64 0,.slice none 0 0,.slice none 0 0,.int .i64 0],.int .i64 0],[]⟩ 8 (by kernel_rfl) (by kernel_rfl) (by kernel_rfl) (by kernel_rfl)) ?_
 intro W base args ds gs before hval0 hW _ _ _
 have hval:∀ (j:Nat) t v,Tryz.f4.params[j]?=some t→args[j]?=some v→Value.okWide Tryz.prog W .any base t v:=hval0
 have hW':=hW
 obtain ⟨p,q,hA0,hV,rfl,_,_⟩:=hW
 have hA:DataW.TrodAll enc Tryz.prog W 0 (fun _=>true) true Tryz.f4.params.toList args.toList ds p:=hA0
 rw [Tryz.params4] at hA hval
 obtain ⟨v0,v1,v2,d0,d1,d2,p0,p1,p2,rfl,rfl,rfl,h0,h1,h2⟩:=trodAll_three hA
 obtain ⟨rfl,rfl⟩:=trodVars_none hV
 obtain ⟨r0,rfl,q0⟩:=open_rep (hval 0 35 v0 rfl rfl) h0
 obtain ⟨m1,rfl,q1,s1⟩:=open_msgH (hval 1 37 v1 rfl rfl) h1
 obtain ⟨a2,rfl,rfl,rfl,w2⟩:=open_int Tryz.underlying3 (hval 2 3 v2 rfl rfl) h2
 refine (walk r0 m1 a2 W q0 q1 s1).mono fun e W' ⟨he,hb⟩=>?_
 subst he
 exact ⟨_,rfl,law_post (tb:=4) laidOut (by decide +kernel) rfl hW' rfl rfl rfl rfl Tryz.underlying4 hb⟩
theorem over:Rows.gossipKeepsRow.holds Tryz.pinned (OpenSpec.ofChange Rows.gossipKeepsSpec) :=
 OpenClaim.holds_of_wide 4 Tryz.f4 rfl rfl rfl rfl rfl rfl rfl ⟨rfl,rfl,rfl,rfl,rfl⟩ rfl rfl rfl rfl rfl fact1 Tryz.func4 fact2 fact3 fact4 (fun os started H enc _=>lifted os started H enc)
theorem proved:Rows.GossipKeepsSaid:=over
#print axioms proved
end Go.Proofs.YtlkmagmdhopcjaaGreat.gossipKeeps
