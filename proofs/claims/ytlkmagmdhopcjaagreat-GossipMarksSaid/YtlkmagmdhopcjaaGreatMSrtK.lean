/- Texts that the law leans on. -/
import Derived.Shelf.SlSortCmp.InsertionK
import Derived.Lib.SlKept
import Derived.Lib.SliceRun
import Derived.Shelf.SlicesQ.IndexFunc
import Derived.Shelf.SlicesE.DeleteFunc
import Derived.Test.YtlkmagmdhopcjaaGreatMOwnK
namespace Go.Proofs.YtlkmagmdhopcjaaGreat
open Go.RowKit Go.Sort Go.Lib
section
variable {α:Type} [Inhabited α] {enc:α→List Value} {k:Nat} {w w1 w2:World} {blk off:Nat} {d d2:Array α}
structure SrtK (enc:α→List Value) (k:Nat) (w:World) (blk off:Nat) (d:Array α) (w':World):Prop where
 holds:HoldsK enc k w' blk off d
 lt:blk < w.heap.size
 grown:w.grownBy w' (some blk)
theorem qbj {a b c:World} {row:Option Nat} (h:a.grownBy b row) (k:b.grownBy c row):a.grownBy c row :=
 ⟨k.os.trans h.os,k.tape.trans h.tape,k.output.trans h.output,Nat.le_trans h.size k.size,fun i hi hne=>(k.block i (Nat.lt_of_lt_of_le hi h.size) hne).trans (h.block i hi hne)⟩
theorem qba {a b:World} (h:RowKit.Below a.heap.size a b) (row:Option Nat):a.grownBy b row:=⟨h.os,h.tape,h.output,h.size,fun i hi _=>h.block i hi⟩
theorem qeb (a:World) (g o:Nat) (v:Value):a.grownBy (a.setCell ⟨g,o,none⟩ v) (some g) :=
 ⟨rfl,rfl,rfl,by simp [World.setCell],fun i _ hne=>Below.heap_setCell a ⟨g,o,none⟩ v i (fun e=>hne (by rw [e]))⟩
theorem qdi (g:Nat):∀ (vs:List Value) (o:Nat) (a:World),a.grownBy (a.setCells g o vs) (some g)
 | [],_,a=>World.grownBy.refl a _
 | v :: vs,o,a=>qbj (qeb a g o v) (qdi g vs (o + 1) (a.setCell ⟨g,o,none⟩ v))
theorem SrtK.refl (h:HoldsK enc k w blk off d) (hl:blk < w.heap.size):SrtK enc k w blk off d w:=⟨h,hl,World.grownBy.refl w _⟩
theorem SrtK.lt1 (h:SrtK enc k w blk off d w1):blk < w1.heap.size:=Nat.lt_of_lt_of_le h.lt h.grown.size
theorem qfy (h:HoldsK enc k w1 blk off d) (hl:blk < w1.heap.size) (hb:RowKit.Below w1.heap.size w1 w2):HoldsK enc k w2 blk off d :=
 fun t ht=>⟨(hb.cell (p:=⟨blk,off + t,none⟩) hl).trans (h t ht).1,(hb.frozen (p:=⟨blk,off + t,none⟩) hl).trans (h t ht).2⟩
theorem SrtK.below (h:SrtK enc k w blk off d w1) (hb:RowKit.Below w1.heap.size w1 w2):SrtK enc k w blk off d w2 :=
 ⟨qfy h.holds h.lt1 hb,h.lt,qbj h.grown (qba hb _)⟩
theorem qse (hk:∀ x,(enc x).length=k) (d:Array α) (i:Nat) (hi:i < d.size) (x:α):flatK enc k (d.setIfInBounds i x)=setMany (flatK enc k d) (i * k) (enc x):=by
 have hik:i * k + k≤d.size * k:=by
  have:=Nat.mul_le_mul_right k (show i + 1≤d.size from hi);rwa [Nat.add_mul,Nat.one_mul] at this
 rcases Nat.eq_zero_or_pos k with k0 | k0
 ·subst k0
  have:enc x=[]:=List.eq_nil_of_length_eq_zero (hk x)
  rw [this]
  apply Array.ext
  ·simp [setMany,size_flatK]
  ·intro t h1 h2
   rw [size_flatK] at h1
   omega
 apply Array.ext
 ·simp [size_flatK]
 ·intro t h1 h2
  have ht:t < d.size * k:=by simpa [size_flatK] using h1
  rw [←getElem!_pos _ t h1,←getElem!_pos _ t h2,get_flatK _ _ _ _ (by simpa using ht),get_setMany _ _ _ t (by rw [size_flatK];exact ht),get_flatK _ _ _ _ ht,hk]
  by_cases a:t / k=i
  ·rw [if_pos ((blk_iff k i t k0).2 a),a,getElem!_set_same d i x hi]
   have:t - i * k=t % k:=by subst a;rw [Nat.mod_eq_sub_div_mul]
   rw [this]
  ·rw [if_neg (fun h=>a ((blk_iff k i t k0).1 h)),getElem!_set_other d i _ x a]
theorem SrtK.put (hk:∀ x,(enc x).length=k) (h:SrtK enc k w blk off d w1) {i:Nat} (hi:i < d.size) (x:α):SrtK enc k w blk off (d.setIfInBounds i x) (w1.setCells blk (off + i * k) (enc x)):=by
 have hik:i * k + k≤d.size * k:=by
  have:=Nat.mul_le_mul_right k (show i + 1≤d.size from hi);rwa [Nat.add_mul,Nat.one_mul] at this
 refine ⟨?_,h.lt,qbj h.grown (qdi _ _ _ _)⟩
 unfold HoldsK
 rw [qse hk d i hi x]
 exact holds_setCells_c h.holds (i * k) (enc x) (by rw [hk,size_flatK];exact hik)
theorem qev {P:Program} {n:Nat} (w:World) (t e ty:TypeId) (z:Value) (ht:P.underlying t=some (.slice e)) (hv:∀ w,(zeroValue e).run P w=.ok z w) (h1:∀ v ∈ (Builtin.zeroCells z.cells n).toList,v.oneCell'=true) (b o c:Nat) (hn:0 < n)
 (hc:∀ j,j < (Builtin.zeroCells z.cells n).toList.length→(w.cell? ⟨b,o + j,none⟩).isSome=true) (hf:∀ j,j < (Builtin.zeroCells z.cells n).toList.length→w.frozen? ⟨b,o + j,none⟩=false) :
 (Builtin.clear_ #[t] ty #[.slice (some ⟨b,o,none⟩) n c]).run P w=.ok (.tuple #[]) (w.setCells b o (Builtin.zeroCells z.cells n).toList):=by
 have hst:=run_storeCells_cells (P:=P) b o (Builtin.zeroCells z.cells n).toList 0 w (by simpa using hc) (by simpa using hf) h1
 simp only [Nat.add_zero] at hst
 obtain ⟨m,rfl⟩:∃ m,n=m + 1:=⟨n - 1,by omega⟩
 simp [Builtin.clear_,run_underlying ht,hv,hst]
theorem qec (z:Array Value) (n:Nat):(Builtin.zeroCells z n).toList.length=n * z.size:=by simp [Builtin.zeroCells]
theorem qgw (z:Array Value) (n:Nat) (h:∀ v ∈ z,v.oneCell'=true):∀ v ∈ (Builtin.zeroCells z n).toList,v.oneCell'=true:=by
 intro v hv
 unfold Builtin.zeroCells at hv
 rw [Array.mem_toList_iff,Array.mem_map] at hv
 obtain ⟨i,hi,rfl⟩:=hv
 have hi':i < n * z.size:=by simpa using hi
 have hz:0 < z.size:=by rcases Nat.eq_zero_or_pos z.size with h' | h';(rw [h',Nat.mul_zero] at hi';omega);exact h'
 have hm:i % z.size < z.size:=Nat.mod_lt _ hz
 rw [getElem!_pos z _ hm]
 exact h _ (Array.getElem_mem hm)
theorem que {kp:Nat→Bool} {dk:Array α} {i:Nat} (h:SrtK enc k w blk off dk w1) (hI:KeptInv kp d d.size i dk) (vs:List Value):RdK enc k w1.heap.size (w1.setCells blk (off + i * k) vs) (some ⟨blk,off,none⟩) (keptUpTo kp d d.size).toArray:=by
 intro h0
 refine ⟨blk,off,rfl,h.lt1,fun t ht=>?_⟩
 have hi:i < dk.size:=by have:=hI.lt;have:=hI.size;omega
 have hlen:(keptUpTo kp d d.size).toArray.size=i:=by simpa using hI.len
 rw [hlen] at ht
 have hik:i * k≤dk.size * k:=Nat.mul_le_mul_right k (Nat.le_of_lt hi)
 rw [World.cell?_setCells_out blk vs (off + i * k) w1 ⟨blk,off + t,none⟩ (fun _ _=>Or.inl (by show off + t < off + i * k;omega))]
 rw [(h.holds t (by rw [size_flatK];omega)).1]
 show some (flatK enc k dk)[t]! = _
 rw [get_flatK _ _ _ _ (by omega),get_flatK _ _ _ _ (by rw [hlen];exact ht)]
 have hk0:0 < k:=by rcases Nat.eq_zero_or_pos k with h' | h';(rw [h',Nat.mul_zero] at ht;omega);exact h'
 have hti:t / k < i:=(Nat.div_lt_iff_lt_mul hk0).2 ht
 have e:=hI.low (t / k) hti
 have:(keptUpTo kp d d.size).toArray[t / k]! = dk[t / k]!:=by
  rw [getElem!_def,List.getElem?_toArray,e]
 rw [this]
end
end Go.Proofs.YtlkmagmdhopcjaaGreat
