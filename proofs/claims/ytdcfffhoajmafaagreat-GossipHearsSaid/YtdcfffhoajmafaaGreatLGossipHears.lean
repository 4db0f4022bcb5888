/- The law GossipHears returns true for every input, and changes nothing that lay there. No condition. -/
import Derived.Test.YtdcfffhoajmafaaGreatQOGossipHears
import Derived.Test.YtdcfffhoajmafaaGreatQGoC
set_option maxRecDepth 100000
namespace Go.Proofs.YtdcfffhoajmafaaGreat.gossipHears
open Go.ChangeShapes Go.WideShapes Go.ChangeAt Go.RowKit Go.Deep Go.Sort
theorem walk (r:RP) (m:PM) (t:Int) (w:World) (hr:RdP w r) (ra:RdK encA 2 w.heap.size w m.aA m.ats) (rm:RdI w.heap.size w m.mA m.mks) :
 Calls Tryz.prog 3 #[.agg (encP r).toArray,.agg (msgC m),.int .i64 t] w fun e w'=>e=.returned (.bool true)/\Below w.heap.size w w' :=
 qrh aw29_any r m t w hr ra rm
theorem lifted (os:Os) (started:os.Started) (H:Type) (enc:TypeId×Value->H) :
 ReturnsInHanded {} Tryz.checked os 3 .any (Rows.gossipHearsSpec.pre6 enc Tryz.prog Tryz.f3 Rows.gossipHearsRow.domain false) (Rows.gossipHearsSpec.post enc Tryz.prog Tryz.f3 false true false false):=by
 refine returnsInHanded_of_change_sized (C:=Tryz.checked) own started jk Tryz.func3
  (ChangeSpec.witness6 (enc:=enc) (C:=Tryz.checked) false ⟨#[],#[.agg #[.int .i64 0,.int .i64 0,.int .i64 0,.int .i64 0,.int .i64 0,.int .i64 0,.int .i64 0,.slice none 0 0,.slice none 0 0,.slice none 0 0,.slice none 0 0,.slice none 0 0,.slice none 0 0,.int .i64 0,.int .i64 0,.int .i64 0,.slice none 0 0,.slice none 0 0],.agg #[.int .i64 0,.int .i64 0,.int .i64 0,.int .i64 0,.int .i64 0,.int .i64 0,.int .i64 0,.int .i64 0,.string ⟨#[]⟩,.int .i64 0,.int .i64 0,.slice none 0 0,.slice none 0 0,.int .i64 0],.int .i64 0],[]⟩ 8 jk jk jk jk) ?_
 intro W base args ds gs before hval0 hW _ _ _;have hval:∀ (j:Nat) t v,Tryz.f3.params[j]?=some t->args[j]?=some v->Value.okWide Tryz.prog W .any base t v:=hval0;have hW':=hW;obtain ⟨p,q,hA0,hV,rfl,_,_⟩:=hW;have hA:DataW.TrodAll enc Tryz.prog W 0 (fun _=>true) true Tryz.f3.params.toList args.toList ds p:=hA0;rw [Tryz.params3] at hA hval;obtain ⟨v0,v1,v2,d0,d1,d2,p0,p1,p2,rfl,rfl,rfl,h0,h1,h2⟩:=trodAll_three hA;obtain ⟨rfl,rfl⟩:=trodVars_none hV;obtain ⟨r0,rfl,q0⟩:=open_rep (hval 0 35 v0 rfl rfl) h0;obtain ⟨m1,rfl,q1,s1⟩:=open_msgH (hval 1 37 v1 rfl rfl) h1;obtain ⟨a2,rfl,rfl,rfl,w2⟩:=open_int Tryz.underlying3 (hval 2 3 v2 rfl rfl) h2;refine (walk r0 m1 a2 W q0 q1 s1).mono fun e W' ⟨he,hb⟩=>?_
 subst he;exact ⟨_,rfl,law_post (tb:=4) laidOut (by decide +kernel) rfl hW' rfl rfl rfl rfl Tryz.underlying4 hb⟩
theorem over:Rows.gossipHearsRow.holds Tryz.pinned (OpenSpec.ofChange Rows.gossipHearsSpec) :=
 OpenClaim.holds_of_wide 3 Tryz.f3 rfl rfl rfl rfl rfl rfl rfl ⟨rfl,rfl,rfl,rfl,rfl⟩ rfl rfl rfl rfl rfl fact1 Tryz.func3 fact2 fact3 fact4 (fun os started H enc _=>lifted os started H enc)
theorem proved:Rows.GossipHearsSaid:=over
#print axioms proved
