/- Texts that the law leans on. -/
import Derived.Deep.RegionHeld3
import Derived.Deep.DrawnRows
import Derived.Maps.AppendAt
import Derived.Deep.AppendLies
import Derived.Test.YtnmojicfmcbgmaaGreatDoorQBase
import Derived.Test.YtnmojicfmcbgmaaGreatDoorQAnyE
import Derived.Test.YtnmojicfmcbgmaaGreatDoorQRdr
import Derived.Test.YtnmojicfmcbgmaaGreatDoorQRowA
namespace Go.Proofs.YtnmojicfmcbgmaaGreatDoor
open Go Go.RowKit Go.Sort Nb
theorem qei {W:World} {g:Nat} {x:Value} {e:TypeId} (h:W.heap[g]?=some (.cells #[x] e (0,0))):∀ j u,[x][j]?=some u→W.cell? ((⟨g,0,none⟩:Addr).add j)=some u:=by
 intro j u hj
 rcases j with _ | j
 ·simp at hj
  subst hj
  rw [Addr.add_lit,qab h]
  rfl
 ·simp at hj
theorem qoe (x:Int):∀ u ∈ [Value.int .i64 x],u.oneCell'=true:=by
 intro u hu
 simp at hu
 subst hu
 rfl
theorem qah (w:World) (o:Obj):(w.alloc o).heap[w.heap.size]?=some o:=by show (w.heap.push o)[w.heap.size]?=_;simp
theorem qcg (w:World) (a o:Obj):((w.alloc a).alloc o).heap[w.heap.size + 1]?=some o:=by
 have h:=qah (w.alloc a) o
 have e:(w.alloc a).heap.size=w.heap.size + 1:=by simp
 rw [e] at h
 exact h
theorem hA1 (w:World) (o:Obj):((w.alloc o).drew).heap[w.heap.size]?=some o:=qah w o
theorem hA2 (w:World) (o o':Obj):(((w.alloc o).alloc o').drew).heap[w.heap.size]?=some o:=(Below.heap_alloc _ _ _ (by simp)).trans (qah w o)
theorem hA3 (w:World) (o o':Obj):(((w.alloc o).alloc o').drew).heap[w.heap.size + 1]?=some o':=qcg w o o'
theorem add0 {H j:Nat} {n:Int} {u:Value} {W:World} (h:[Value.int .i64 n][j]?=some u) (hc:W.cell? ⟨H,0,none⟩=some (.int .i64 n)):W.cell? ((⟨H,0,none⟩:Addr).add j)=some u:=by
 have hj:j=0:=by
  rcases Nat.eq_zero_or_pos j with h0 | h0
  ·exact h0
  ·obtain ⟨i,rfl⟩:∃ i,j=i + 1:=⟨j - 1,by omega⟩
   simp at h
 subst hj
 have:Value.int .i64 n=u:=by simpa using h
 rw [←this]
 exact hc
theorem farB_D {w W':World} {n:Int} {e:TypeId} {o:Obj} {row:Option Nat} (hl:∀ t,row=some t→t < w.heap.size) (hg:((w.alloc o).alloc (.cells #[.int .i64 n] e)).drew.grownBy W' row):∀ j u,[Value.int .i64 n][j]?=some u→W'.cell? ((⟨w.heap.size + 1,0,none⟩:Addr).add j)=some u:=fun j u h=>add0 h (by
 have e1:w.heap.size + 1=(w.alloc o).heap.size:=by simp
 rw [hg.cell_far ⟨w.heap.size + 1,0,none⟩ (by simp) (by intro e;have:=hl _ e.symm;simp at this;omega),e1]
 exact qco (w.alloc o) _ _ 0)
theorem farC_D {w W':World} {n:Int} {e:TypeId} {o:Obj} {row:Option Nat} (hl:∀ t,row=some t→t < w.heap.size) (hg:((w.alloc (.cells #[.int .i64 n] e)).alloc o).drew.grownBy W' row):∀ j u,[Value.int .i64 n][j]?=some u→W'.cell? ((⟨w.heap.size,0,none⟩:Addr).add j)=some u:=fun j u h=>add0 h (by
 rw [hg.cell_far ⟨w.heap.size,0,none⟩ (by simp;omega) (by intro e;have:=hl _ e.symm;simp at this)]
 exact (World.cell?_alloc_lt (w.alloc (.cells #[.int .i64 n] e)) o ⟨w.heap.size,0,none⟩ (by simp)).trans (qco w _ _ 0))
theorem qdb {P:Program} {w:World} {ops:Array Oper} {o:Oper} {a:Act} {K:Act→World→Prop} {Q:Exit→Act→World→Prop} {E:Prop} (hgd:o.guard=none) (s x:Operand) (t:TypeId)
 (ho:o.op=.call { callee:=.builtin .append,args:=#[s,x],argTypes:=#[t,t] })
 (w0:World) (e:TypeId) (i:TypeInfo) (z:Value) (size bytes:Nat) (ht:P.underlying t=some (.slice e)) (hi:P.info? e=some i) (hz:i.zero=some z)
 (hsize:i.size=size) (hby:i.bytes=bytes) (hzs:z.cells.size=size) (hsz:0 < size)
 (v:Value) (n:Nat) (xs:List Value) (hs:a.eval s=v) (hown:w.ownsRow w0.heap.size e size v n xs)
 (ad:Addr) (m c:Nat) (news:List Value) (hx:a.eval x=.slice (some ad) m c) (hl:news.length=m * size) (hnews:∀ j u,news[j]?=some u→w.cell? (ad.add j)=some u) (h1:∀ u ∈ news,u.oneCell'=true)
 (h63:n + m≤maxLen) (hbytes:(n + m) * bytes≤140737488355328) (hB:Below w0.heap.size w0 w)
 (h:∀ v' w',w'.ownsRow w0.heap.size e size v' (n + m) (xs ++ news)→w.grownBy w' v.ownBlock→Below w0.heap.size w0 w'→K (a.put o.dst v') w') :
 if Region.wanted o (yielded ops a.tmps)=true then Oper.wp P o a w K Q else E:=by
 have hw:Region.wanted o (yielded ops a.tmps)=true:=by simp [Region.wanted,hgd]
 rw [if_pos hw]
 obtain ⟨v',w',hr,h2,h3,_,_⟩:=run_append_own_at (P:=P) w w0.heap.size t o.type e i z size bytes ht hi hz hsize hby hzs hsz v n xs hown ad m c news hl hnews h1 h63 hbytes hB.size
 unfold Oper.wp execOp
 simp only [ho,resolve,invoke,builtin,Sem.run_bind,Sem.run_pure,Result.andThen_ok,List.map_toArray,List.map_cons,List.map_nil,hs,hx,hr]
 exact h v' w' h2 h3 (hB.grown h3 hB.size (fun k hk=>(hown.lt k hk).1))
theorem rdI_blk_D {w:World} {g:Nat} {d:Array Int} (h:w.heap[g]?=some (.cells (d.map encI) 3 (0,0))):RdI w.heap.size w (some ⟨g,0,none⟩) d:=fun _=>⟨g,0,rfl,qaa h,fun i hi=>by rw [Nat.zero_add];exact qwl h hi⟩
end Go.Proofs.YtnmojicfmcbgmaaGreatDoor
