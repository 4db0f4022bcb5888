/- Texts that the law leans on. -/
import Derived.Shelf.SlSortCmp.InsertionK
import Derived.Shelf.SlicesQ.IndexFunc
import Derived.Shelf.SlicesE.DeleteFunc
import Derived.Test.YtdcfffhoajmafaaGreatQOwnK
namespace Go.Proofs.YtdcfffhoajmafaaGreat
open Go.RowKit Go.Sort Go.Lib Go.Proofs.Tryz
section
variable {α:Type} [Inhabited α] {enc:α->List Value} {k:Nat} {w w1 w2:World} {blk off:Nat} {d d2:Array α}
structure SrtK (enc:α->List Value) (k:Nat) (w:World) (blk off:Nat) (d:Array α) (w':World):Prop where
 holds:HoldsK enc k w' blk off d
 lt:blk < w.heap.size
 grown:w.grownBy w' (some blk)
theorem qbu {a b c:World} {d:Option Nat} (h:a.grownBy b d) (k:b.grownBy c d):a.grownBy c d :=
 ⟨k.os.trans h.os,k.tape.trans h.tape,k.output.trans h.output,vax h.size k.size,fun i f e=>(k.block i (vad f h.size) e).trans (h.block i f e)⟩
theorem qbf {a b:World} (h:RowKit.Below a.heap.size a b) (c:Option Nat):a.grownBy b c:=⟨h.os,h.tape,h.output,h.size,fun i d _=>h.block i d⟩
theorem qcs (a:World) (g o:Nat) (v:Value):a.grownBy (a.setCell ⟨g,o,none⟩ v) (some g) :=
 ⟨rfl,rfl,rfl,by simp [World.setCell],fun i _ b=>vfa a ⟨g,o,none⟩ v i (fun e=>b (by rw [e]))⟩
theorem qed (g:Nat):∀ (b:List Value) (o:Nat) (a:World),a.grownBy (a.setCells g o b) (some g)
 | [],_,a=>World.grownBy.refl a _
 | v :: b,o,a=>qbu (qcs a g o v) (qed g b (o + 1) (a.setCell ⟨g,o,none⟩ v))
theorem SrtK.refl (h:HoldsK enc k w blk off d) (a:blk < w.heap.size):SrtK enc k w blk off d w:=⟨h,a,World.grownBy.refl w _⟩
theorem SrtK.lt1 (h:SrtK enc k w blk off d w1):blk < w1.heap.size:=vad h.lt h.grown.size
theorem qge (h:HoldsK enc k w1 blk off d) (b:blk < w1.heap.size) (a:RowKit.Below w1.heap.size w1 w2):HoldsK enc k w2 blk off d :=
 fun t c=>⟨(a.cell (p:=⟨blk,off + t,none⟩) b).trans (h t c).1,(a.frozen (p:=⟨blk,off + t,none⟩) b).trans (h t c).2⟩
theorem SrtK.below (h:SrtK enc k w blk off d w1) (a:RowKit.Below w1.heap.size w1 w2):SrtK enc k w blk off d w2 :=
 ⟨qge h.holds h.lt1 a,h.lt,qbu h.grown (qbf a _)⟩
theorem qsz (g:∀ x,(enc x).length=k) (d:Array α) (i:Nat) (hi:i < d.size) (x:α):flatK enc k (d.setIfInBounds i x)=setMany (flatK enc k d) (i * k) (enc x):=by
 have j:i * k + k<=d.size * k:=by
  have:=vce k (show i + 1<=d.size from hi);rwa [Nat.add_mul,Nat.one_mul] at this
 rcases vba k with c | c
 .subst c
  have:enc x=[]:=vcg (g x)
  rw [this];apply Array.ext
  .simp [setMany,size_flatK]
  intro t b f;rw [size_flatK] at b;omega
 apply Array.ext
 .simp [size_flatK]
 intro t b f;have e:t < d.size * k:=by simpa [size_flatK] using b
 rw [<-vae _ t b,<-vae _ t f,get_flatK _ _ _ _ (by simpa using e),get_setMany _ _ _ t (by rw [size_flatK];exact e),get_flatK _ _ _ _ e,g];by_cases a:t / k=i
 .rw [vam ((blk_iff k i t c).2 a),a,getElem!_set_same d i x hi]
  have:t - i * k=t % k:=by subst a;rw [Nat.mod_eq_sub_div_mul]
  rw [this]
 rw [vao (fun h=>a ((blk_iff k i t c).1 h)),getElem!_set_other d i _ x a]
theorem SrtK.put (b:∀ x,(enc x).length=k) (h:SrtK enc k w blk off d w1) {i:Nat} (hi:i < d.size) (x:α):SrtK enc k w blk off (d.setIfInBounds i x) (w1.setCells blk (off + i * k) (enc x)):=by
 have a:i * k + k<=d.size * k:=by
  have:=vce k (show i + 1<=d.size from hi);rwa [Nat.add_mul,Nat.one_mul] at this
 refine ⟨?_,h.lt,qbu h.grown (qed _ _ _ _)⟩;unfold HoldsK;rw [qsz b d i hi x];exact holds_setCells_c h.holds (i * k) (enc x) (by rw [b,size_flatK];exact a)
theorem qfh {P:Program} {n:Nat} (w:World) (t e k:TypeId) (z:Value) (h:P.underlying t=some (.slice e)) (i:∀ w,(zeroValue e).run P w=.ok z w) (d:∀ v ∈ (Builtin.zeroCells z.cells n).toList,v.oneCell'=true) (b o c:Nat) (l:0 < n)
 (f:∀ j,j < (Builtin.zeroCells z.cells n).toList.length->(w.cell? ⟨b,o + j,none⟩).isSome=true) (g:∀ j,j < (Builtin.zeroCells z.cells n).toList.length->w.frozen? ⟨b,o + j,none⟩=false) :
 (Builtin.clear_ #[t] k #[.slice (some ⟨b,o,none⟩) n c]).run P w=.ok (.tuple #[]) (w.setCells b o (Builtin.zeroCells z.cells n).toList):=by
 have a:=run_storeCells_cells (P:=P) b o (Builtin.zeroCells z.cells n).toList 0 w (by simpa using f) (by simpa using g) d;simp only [vak] at a;obtain ⟨m,rfl⟩:∃ m,n=m + 1:=⟨n - 1,by omega⟩
 simp [Builtin.clear_,run_underlying h,i,a]
theorem qhn (z:Array Value) (n:Nat):(Builtin.zeroCells z n).toList.length=n * z.size:=by simp [Builtin.zeroCells]
theorem qho (z:Array Value) (n:Nat) (h:∀ v ∈ z,v.oneCell'=true):∀ v ∈ (Builtin.zeroCells z n).toList,v.oneCell'=true:=by
 intro v c;unfold Builtin.zeroCells at c;rw [Array.mem_toList_iff,Array.mem_map] at c;obtain ⟨i,e,rfl⟩:=c;have b:i < n * z.size:=by simpa using e
 have f:0 < z.size:=by rcases vba z.size with a | a;(rw [a,Nat.mul_zero] at b;omega);exact a
 have d:i % z.size < z.size:=Nat.mod_lt _ f;rw [vae z _ d];exact h _ (Array.getElem_mem d)
theorem qvm {g:Nat->Bool} {c:Array α} {i:Nat} (h:SrtK enc k w blk off c w1) (a:KeptInv g d d.size i c) (n:List Value):RdK enc k w1.heap.size (w1.setCells blk (off + i * k) n) (some ⟨blk,off,none⟩) (keptUpTo g d d.size).toArray:=by
 intro q;refine ⟨blk,off,rfl,h.lt1,fun t f=>?_⟩;have o:i < c.size:=by have:=a.lt;have:=a.size;omega
 have b:(keptUpTo g d d.size).toArray.size=i:=by simpa using a.len
 rw [b] at f;have p:i * k<=c.size * k:=vce k (Nat.le_of_lt o);rw [World.cell?_setCells_out blk n (off + i * k) w1 ⟨blk,off + t,none⟩ (fun _ _=>Or.inl (by show off + t < off + i * k;omega))];rw [(h.holds t (by rw [size_flatK];omega)).1];show some (flatK enc k c)[t]! = _;rw [get_flatK _ _ _ _ jo,get_flatK _ _ _ _ (by rw [b];exact f)];have l:0 < k:=by rcases vba k with j | j;(rw [j,Nat.mul_zero] at f;omega);exact j
 have m:t / k < i:=(Nat.div_lt_iff_lt_mul l).2 f;have e:=a.low (t / k) m
 have:(keptUpTo g d d.size).toArray[t / k]! = c[t / k]!:=by
  rw [vbx,List.getElem?_toArray,e]
 rw [this]
end
