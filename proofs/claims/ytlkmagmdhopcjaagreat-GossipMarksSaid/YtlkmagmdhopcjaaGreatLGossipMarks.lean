/- The law GossipMarks returns true for every input, and changes nothing that lay there. No condition. -/
import Derived.Test.YtlkmagmdhopcjaaGreatMOGossipMarks
import Derived.Test.YtlkmagmdhopcjaaGreatMGoR
import Derived.Test.YtlkmagmdhopcjaaGreatMKaF
namespace Go.Proofs.YtlkmagmdhopcjaaGreat.gossipMarks
open Go.ChangeShapes Go.WideShapes Go.ChangeAt Go.RowKit Go.Deep Go.Sort
set_option maxRecDepth 100000
theorem walk (r:RP) (m:PM) (t:Int) (w:World) (hr:RdP w r) (ra:RdK encA 2 w.heap.size w m.aA m.ats) (rm:RdI w.heap.size w m.mA m.mks) :
 Calls Tryz.prog 5 #[.agg (encP r).toArray,.agg (msgC m),.int .i64 t] w fun e w'=>e=.returned (.bool true)∧Below w.heap.size w w' :=
 qra r m t w hr ra rm
set_option maxRecDepth 100000 in
theorem lifted (os:Os) (started:os.Started) (H:Type) (enc:TypeId×Value→H) :
 ReturnsInHanded {} Tryz.checked os 5 .any (Rows.gossipMarksSpec.pre6 enc Tryz.prog Tryz.f5 Rows.gossipMarksRow.domain false) (Rows.gossipMarksSpec.post enc Tryz.prog Tryz.f5 false true false false):=by
 refine returnsInHanded_of_change_sized (C:=Tryz.checked) own started (by kernel_rfl) Tryz.func5
  (ChangeSpec.witness6 (enc:=enc) (C:=Tryz.checked) false ⟨#[],#[.agg #[.int .i64 0,.int .i64 0,.int .i64 0,.int .i64 0,.int .i64 0,.int .i64 0,.int .i64 0,.slice none 0 0,.slice none 0 0,.slice none 0 0,.slice none 0 0,.slice none 0 0,.slice none 0 0,.int .i64 0,.int .i64 0,.int .i64 0,.slice none 0 0,.slice none 0 0],.agg #[.int .i64 0,.int .i64 0,.int .i64 0,.int .i64 0,.int .i64 0,.int .i64 0,.int .i64 0,.int .i64 0,.string ⟨#[]⟩,.int .i64 0,.int .i64 0,.slice none 0 0,.slice none 0 0,.int .i64 0],.int .i64 0],[]⟩ 8 (by kernel_rfl) (by kernel_rfl) (by kernel_rfl) (by kernel_rfl)) ?_
 intro W base args ds gs before hval0 hW _ _ _
 have hval:∀ (j:Nat) t v,Tryz.f5.params[j]?=some t→args[j]?=some v→Value.okWide Tryz.prog W .any base t v:=hval0
 have hW':=hW
 obtain ⟨p,q,hA0,hV,rfl,_,_⟩:=hW
 have hA:DataW.TrodAll enc Tryz.prog W 0 (fun _=>true) true Tryz.f5.params.toList args.toList ds p:=hA0
 rw [Tryz.params5] at hA hval
 obtain ⟨v0,v1,v2,d0,d1,d2,p0,p1,p2,rfl,rfl,rfl,h0,h1,h2⟩:=trodAll_three hA
 obtain ⟨rfl,rfl⟩:=trodVars_none hV
 obtain ⟨r0,rfl,q0⟩:=open_rep (hval 0 35 v0 rfl rfl) h0
 obtain ⟨m1,rfl,q1,s1⟩:=open_msgH (hval 1 37 v1 rfl rfl) h1
 obtain ⟨a2,rfl,rfl,rfl,w2⟩:=open_int Tryz.underlying3 (hval 2 3 v2 rfl rfl) h2
 refine (walk r0 m1 a2 W q0 q1 s1).mono fun e W' ⟨he,hb⟩=>?_
 subst he
 exact ⟨_,rfl,law_post (tb:=4) laidOut (by decide +kernel) rfl hW' rfl rfl rfl rfl Tryz.underlying4 hb⟩
theorem over:Rows.gossipMarksRow.holds Tryz.pinned (OpenSpec.ofChange Rows.gossipMarksSpec) :=
 OpenClaim.holds_of_wide 5 Tryz.f5 rfl rfl rfl rfl rfl rfl rfl ⟨rfl,rfl,rfl,rfl,rfl⟩ rfl rfl rfl rfl rfl fact1 Tryz.func5 fact2 fact3 fact4 (fun os started H enc _=>lifted os started H enc)
theorem proved:Rows.GossipMarksSaid:=over
#print axioms proved
end Go.Proofs.YtlkmagmdhopcjaaGreat.gossipMarks
