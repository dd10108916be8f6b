/- Words and contracts, part 38. -/
import Derived.Test.YtmgaloopddiekaaGreatDoorClaimFargsp30
import Derived.Test.YtmgaloopddiekaaGreatDoorClaimFargsp37
import Derived.Deep.Slices
set_option maxRecDepth 100000
set_option maxHeartbeats 0
namespace Go.Proofs.YtmgaloopddiekaaGreatDoor
open Go.ChangeShapes Go.WideShapes Go.RowKit Go.Deep
section
variable {H:Type} {enc:TypeId × Value→H} {w:World} {base:Nat} {spare:Nat→Bool} {held:Bool} {fuel:Nat} {cs:List Value} {x:DataW H × List MemPlace}
instance:Inhabited RawI:=⟨rzI⟩
instance:Inhabited Ln:=⟨⟨0,0,0,rzI⟩⟩
theorem Ix {P:Program}{e:TypeId}{d:DataW H}:∀ {l:List (DataW H)},d∈l→∀ n∈d.weights P e,n∈DataW.weightsAll P e l
 | y :: l, h, n, hn => by
   unfold DataW.weightsAll;rcases List.mem_cons.1 h with rfl | h
   ·exact List.mem_append_left _ hn
   ·exact List.mem_append_right _ (Ix h n hn)
theorem Mm {a:Addr}{n:Nat}{ds:List Value}(h:w.cells? base a n=some ds)(hn:0<n):a.spot=none∧∀ (j:Nat) v,ds[j]?=some v→w.cell? ⟨a.block,a.off+j,none⟩=some v:=by
 obtain ⟨b,off,spot⟩:=a;obtain ⟨-,hl,hc⟩:=World.cells?_some h;have h0:=hc 0 hn;rw [List.getElem?_eq_getElem (by omega)] at h0;have hs:spot=none:=by simpa [Addr.add] using World.cell?_spot h0
 subst hs;refine ⟨rfl,fun j v hj=>?_⟩;have h1:=hc j (by have:=(List.getElem?_eq_some_iff.1 hj).1;omega);rw [hj,Go.WideShapes.add_plain] at h1;exact h1
theorem Pd {t:TypeId}{n:Nat}(h:n*Tryz.prog.bytesOf t≤reachBytes)(hb:1≤Tryz.prog.bytesOf t):n≤1000000000000000:=by
 have hr:reachBytes=140737488351232:=rfl;rw [hr] at h;have:=Nat.le_mul_of_pos_right n (show 0<Tryz.prog.bytesOf t by omega);omega
theorem Adh (h:DataW.trod enc Tryz.prog w base spare held fuel 26 cs=some x)(hs:∀ n∈x.1.weights Tryz.prog 26,n≤reachBytes) :
 ∃ v l,cs=[v]∧IvS w v l∧(∀ a∈l,a.lens 17592186044416)∧l.length≤1000000000000000:=by
 rcases open_slice Tryz.underlying26 h with ⟨rfl,rfl⟩ | ⟨a,len,cap,m,n,D,Pl,rfl,hb,hl,hm,hmm,rfl,hx⟩
 ·exact ⟨_,[],rfl,Hb _,(fun a ha=>by cases ha),by simp⟩
 ·have hlm:len≤m:=by rw [hmm];split<;>omega
  rw [Hf Tryz.underlying26] at hs;have c6:Tryz.prog.cellsOf 51=6:=by kernel_rfl
  rw [c6] at hx;have hlen:=hs _ (List.mem_cons_self ..);have h0:0<len→∃ b off,a=⟨b,off,none⟩:=fun h=>by
   obtain ⟨cs',h1,-⟩:=hx 0 (by omega);have:=(Mm h1 (by decide)).1;obtain ⟨b,off,spot⟩:=a;exact ⟨b,off,by rw [show spot=none from this]⟩
  have key:∀ i,i<len→∃ r:RawI,IvAt w a.block (a.off+i*6) r∧r.lens 17592186044416:=fun i hi=>by
   obtain ⟨cs',h1,h2⟩:=hx i (by omega);obtain ⟨v0,v1,v2,v3,v4,v5,r,rfl,hI,hL⟩:=Yw h2 (fun n hn=>hs n (by
    refine List.mem_cons_of_mem _ (List.mem_append_left _ (Ix (List.mem_map.2 ⟨i,List.mem_range.2 hi,rfl⟩) n hn))))
   obtain ⟨b,off,rfl⟩:=h0 (by omega);rw [Go.WideShapes.add_plain] at h1;obtain ⟨-,ec⟩:=Mm h1 (by decide);exact ⟨r,⟨v0,v1,v2,v3,v4,v5,ec 0 _ rfl,ec 1 _ rfl,ec 2 _ rfl,ec 3 _ rfl,ec 4 _ rfl,ec 5 _ rfl,hI⟩,hL⟩
  obtain ⟨F,hF⟩:=choose_lt key;have hl2:((List.range len).map F).length=len:=by simp
  refine ⟨.slice (some a) len cap,(List.range len).map F,rfl,⟨some a,cap,by rw [hl2],by rw [hl2];exact hl,fun h1=>?_⟩,fun r hr=>?_,?_⟩
  ·rw [hl2] at h1;obtain ⟨b,off,rfl⟩:=h0 h1;refine ⟨b,off,rfl,fun i r hi=>?_⟩;have hi':i<len:=by have:=(List.getElem?_eq_some_iff.1 hi).1;rwa [hl2] at this
   simp only [List.getElem?_map,List.getElem?_range hi',Option.map_some,Option.some.injEq] at hi;subst hi;exact (hF i hi').1
  ·obtain ⟨i,hi,rfl⟩:=List.mem_map.1 hr;exact (hF i (List.mem_range.1 hi)).2
  ·rw [hl2];refine Pd (t:=51) ?_ (of_decide_eq_true (by kernel_rfl));refine Nat.le_trans (Nat.mul_le_mul_right _ ?_) hlen;simp
theorem Z7 (h:DataW.trod enc Tryz.prog w base spare held fuel 53 cs=some x)(hs:∀ n∈x.1.weights Tryz.prog 53,n≤reachBytes) :
 ∃ op a b v0 v1 v2 v3 v4 v5 k,cs=[.int .i64 op,.int .i64 a,.int .i64 b,v0,v1,v2,v3,v4,v5]∧IvR w (.agg #[v0,v1,v2,v3,v4,v5]) k∧k.lens 17592186044416∧-9223372036854775808≤op∧op≤9223372036854775807:=by
 obtain ⟨xs,n,_,rfl,hl,hlen,hf⟩:=DataW.trod_struct Tryz.underlying53 h;rw [Gm Tryz.underlying53] at hs;have hl:cs.length=9:=hl.trans (by kernel_rfl);have c1:Tryz.prog.cellsOf 3=1:=by kernel_rfl
 have c6:Tryz.prog.cellsOf 51=6:=by kernel_rfl
 match xs,hlen,cs,hl with
 | [y0, y1, y2, y3], _, [u0, u1, u2, v0, v1, v2, v3, v4, v5], _ =>
   have h0:=hf 0 _ rfl;have h1:=hf 1 _ rfl;have h2:=hf 2 _ rfl;have h3:=hf 3 _ rfl;simp only [c1,c6,List.drop_zero,List.drop_succ_cons,List.take_succ_cons,List.take_zero,List.getElem?_cons_zero,List.getElem?_cons_succ,List.getElem_toArray,List.getElem_cons_zero,List.getElem_cons_succ] at h0 h1 h2 h3;obtain ⟨k0,e0,-,hk0⟩:=DataW.trod_int Tryz.underlying3 h0;obtain ⟨k1,e1,-,hk1⟩:=DataW.trod_int Tryz.underlying3 h1;obtain ⟨k2,e2,-,hk2⟩:=DataW.trod_int Tryz.underlying3 h2;obtain ⟨_,_,_,_,_,_,r,e3,hI,hL⟩:=Yw h3 (fun n hn=>hs n (by
    simp only [List.map_cons,List.map_nil,DataW.weightsEach];exact List.mem_append_right _ (List.mem_append_right _ (List.mem_append_right _ (List.mem_append_left _ hn)))))
   simp only [List.cons.injEq,and_true] at e0 e1 e2 e3;subst e0 e1 e2;obtain ⟨rfl,rfl,rfl,rfl,rfl,rfl⟩:=e3;refine ⟨_,_,_,_,_,_,_,_,_,r,rfl,hI,hL,?_,?_⟩
   ·simp [Lit.wf,IntKind.min,IntKind.max,IntKind.signed,IntKind.bits] at hk0;omega
   ·simp [Lit.wf,IntKind.min,IntKind.max,IntKind.signed,IntKind.bits] at hk0;omega
theorem Adi (h:DataW.trod enc Tryz.prog w base spare held fuel 22 cs=some x)(hs:∀ n∈x.1.weights Tryz.prog 22,n≤reachBytes) :
 ∃ v ls,cs=[v]∧LnS w v ls∧Ke ls∧ls.length≤1000000000000000:=by
 rcases open_slice Tryz.underlying22 h with ⟨rfl,rfl⟩ | ⟨a,len,cap,m,n,D,Pl,rfl,hb,hl,hm,hmm,rfl,hx⟩
 ·exact ⟨_,[],rfl,⟨none,0,rfl,Nat.le_refl _,fun h=>absurd h (by simp)⟩,(fun a ha=>by cases ha),by simp⟩
 ·have hlm:len≤m:=by rw [hmm];split<;>omega
  rw [Hf Tryz.underlying22] at hs;have c9:Tryz.prog.cellsOf 53=9:=by kernel_rfl
  rw [c9] at hx;have hlen:=hs _ (List.mem_cons_self ..);have h0:0<len→∃ b off,a=⟨b,off,none⟩:=fun h=>by
   obtain ⟨cs',h1,-⟩:=hx 0 (by omega);have:=(Mm h1 (by decide)).1;obtain ⟨b,off,spot⟩:=a;exact ⟨b,off,by rw [show spot=none from this]⟩
  have key:∀ i,i<len→∃ r:Ln,LnAt w a.block (a.off+i*9) r∧(-9223372036854775808≤r.op∧r.op≤9223372036854775807∧r.k.lens 17592186044416):=fun i hi=>by
   obtain ⟨cs',h1,h2⟩:=hx i (by omega);obtain ⟨op,a1,b1,v0,v1,v2,v3,v4,v5,k,rfl,hI,hL,o1,o2⟩:=Z7 h2 (fun n hn=>hs n (by
    refine List.mem_cons_of_mem _ (List.mem_append_left _ (Ix (List.mem_map.2 ⟨i,List.mem_range.2 hi,rfl⟩) n hn))))
   obtain ⟨b,off,rfl⟩:=h0 (by omega);rw [Go.WideShapes.add_plain] at h1;obtain ⟨-,ec⟩:=Mm h1 (by decide);exact ⟨⟨op,a1,b1,k⟩,⟨ec 0 _ rfl,ec 1 _ rfl,ec 2 _ rfl,v0,v1,v2,v3,v4,v5,ec 3 _ rfl,ec 4 _ rfl,ec 5 _ rfl,ec 6 _ rfl,ec 7 _ rfl,ec 8 _ rfl,hI⟩,o1,o2,hL⟩
  obtain ⟨F,hF⟩:=choose_lt key;have hl2:((List.range len).map F).length=len:=by simp
  refine ⟨.slice (some a) len cap,(List.range len).map F,rfl,⟨some a,cap,by rw [hl2],by rw [hl2];exact hl,fun h1=>?_⟩,fun r hr=>?_,?_⟩
  ·rw [hl2] at h1;obtain ⟨b,off,rfl⟩:=h0 h1;refine ⟨b,off,rfl,fun i r hi=>?_⟩;have hi':i<len:=by have:=(List.getElem?_eq_some_iff.1 hi).1;rwa [hl2] at this
   simp only [List.getElem?_map,List.getElem?_range hi',Option.map_some,Option.some.injEq] at hi;subst hi;exact (hF i hi').1
  ·obtain ⟨i,hi,rfl⟩:=List.mem_map.1 hr;exact (hF i (List.mem_range.1 hi)).2
  ·rw [hl2];refine Pd (t:=53) ?_ (of_decide_eq_true (by kernel_rfl));refine Nat.le_trans (Nat.mul_le_mul_right _ ?_) hlen;simp
theorem Adg (h:DataW.trod enc Tryz.prog w base spare held fuel 23 cs=some x)(hs:∀ n∈x.1.weights Tryz.prog 23,n≤reachBytes):∃ v ns,cs=[v]∧InS w v ns∧ns.length≤1000000000000000:=by
 rcases open_ints Tryz.underlying23 Tryz.underlying3 (by kernel_rfl) h with ⟨hcs,-⟩ | ⟨a,len,cap,zs,hcs,-,hl,-,hz,hd,hc,-⟩
 ·exact ⟨_,[],hcs,⟨none,0,rfl,Nat.le_refl _,fun h=>absurd h (by simp)⟩,by simp⟩
 ·have hlz:len≤zs.length:=by rw [hz];split<;>omega
  have hlen:(zs.take len).length=len:=by rw [List.length_take];omega
  refine ⟨_,zs.take len,hcs,⟨some a,cap,by rw [hlen],by omega,fun h0=>?_⟩,?_⟩
  ·obtain ⟨b,off,rfl,hcc⟩:=ints_at hc (by omega);refine ⟨b,off,rfl,fun i n hn=>?_⟩;have hi:i<len:=by have:=(List.getElem?_eq_some_iff.1 hn).1;omega
   rw [hcc i (by omega)];rw [List.getElem?_take_of_lt hi] at hn;rw [List.getD_eq_getElem?_getD,hn];rfl
  ·subst hd;have hw:=hs ((lits (H:=H) .i64 (zs.take len)).length+(lits (H:=H) .i64 (zs.drop len)).length |> (·*Tryz.prog.bytesOf 3)) (by rw [Hf Tryz.underlying23];exact List.mem_cons_self ..);have hll:(lits (H:=H) .i64 (zs.take len)).length=len:=by simp [lits,hlz]
   rw [hlen];refine Pd (t:=3) ?_ (of_decide_eq_true (by kernel_rfl));refine Nat.le_trans (Nat.mul_le_mul_right _ ?_) hw;rw [hll];exact Nat.le_add_right _ _
theorem Z8 {r:Reach}{b0:Nat}{v:Value}{d:DataW H}{p:List MemPlace}(hv:Value.okWide Tryz.prog w r b0 25 v)(h:DataW.Trod enc Tryz.prog w base spare held 25 v d p)
 (hs:∀ n∈d.weights Tryz.prog 25,n≤reachBytes):∃ ls outs,TpR w v ls outs∧Ke ls∧ls.length≤1000000000000000∧outs.length≤1000000000000000:=by
 obtain ⟨cs,rfl,hsz⟩:=okWide_struct Tryz.underlying25 hv;obtain ⟨fuel,hf0⟩:=h;obtain ⟨xs,n,_,e,hl,hlen,hf⟩:=DataW.trod_struct Tryz.underlying25 hf0;obtain ⟨rfl,-⟩:=Prod.mk.inj e;rw [Gm Tryz.underlying25] at hs;have hl:cs.toList.length=2:=hl.trans (by kernel_rfl);have c1:Tryz.prog.cellsOf 22=1:=by kernel_rfl
 have c2:Tryz.prog.cellsOf 23=1:=by kernel_rfl
 obtain ⟨cs,rfl⟩:∃ l:List Value,cs=l.toArray:=⟨cs.toList,by simp⟩
 match xs,hlen,cs,hl with
 | [y0, y1], _, [u0, u1], _ =>
   have h0:=hf 0 _ rfl;have h1:=hf 1 _ rfl;simp only [Value.cells,c1,c2,List.drop_zero,List.drop_succ_cons,List.take_succ_cons,List.take_zero,List.getElem?_cons_zero,List.getElem?_cons_succ,List.getElem_toArray,List.getElem_cons_zero,List.getElem_cons_succ] at h0 h1;obtain ⟨_,ls,e0,hls,ok,n0⟩:=Adi h0 (fun n hn=>hs n (by
    simp only [List.map_cons,List.map_nil,DataW.weightsEach];exact List.mem_append_left _ hn))
   obtain ⟨_,outs,e1,hou,n1⟩:=Adg h1 (fun n hn=>hs n (by
    simp only [List.map_cons,List.map_nil,DataW.weightsEach];exact List.mem_append_right _ (List.mem_append_left _ hn)))
   simp only [List.cons.injEq,and_true] at e0 e1;subst e0 e1;exact ⟨ls,outs,⟨_,_,rfl,hls,hou⟩,ok,n0,n1⟩
end
end Go.Proofs.YtmgaloopddiekaaGreatDoor
namespace Go.Proofs.YtmgaloopddiekaaGreatDoor
open Go.ChangeShapes Go.WideShapes Go.RowKit Go.Deep
section
variable {H:Type} {enc:TypeId × Value→H} {w:World} {base:Nat} {spare:Nat→Bool} {held:Bool}
theorem Uz {r:Reach}{b0:Nat}{v:Value}{d:DataW H}{p:List MemPlace}(hv:Value.okWide Tryz.prog w r b0 26 v)(h:DataW.Trod enc Tryz.prog w base spare held 26 v d p)
 (hs:∀ n∈d.weights Tryz.prog 26,n≤reachBytes):∃ l,IvS w v l∧(∀ a∈l,a.lens 17592186044416)∧l.length≤1000000000000000:=by
 obtain ⟨a0,len0,cap0,rfl⟩:=okWide_slice Tryz.underlying26 hv;obtain ⟨fuel,hf⟩:=h;obtain ⟨u,l,e,h1,h2,h3⟩:=Adh hf hs;simp only [Value.cells,List.cons.injEq,and_true] at e;rw [e];exact ⟨l,h1,h2,h3⟩
end
end Go.Proofs.YtmgaloopddiekaaGreatDoor
namespace Go.Proofs.YtmgaloopddiekaaGreatDoor
open Go.ChangeShapes Go.WideShapes Go.RowKit Go.Deep
theorem Aab:∀ t∈[25,26,30,3],Tryz.prog.readableRec t=true∧t<Tryz.prog.types.size:=by
 intro t ht;simp only [List.mem_cons,List.not_mem_nil,or_false] at ht;rcases ht with rfl | rfl | rfl | rfl
 ·exact ⟨by kernel_rfl,of_decide_eq_true (by kernel_rfl)⟩
 ·exact ⟨by kernel_rfl,of_decide_eq_true (by kernel_rfl)⟩
 ·exact ⟨by kernel_rfl,of_decide_eq_true (by kernel_rfl)⟩
 ·exact ⟨by kernel_rfl,of_decide_eq_true (by kernel_rfl)⟩
end Go.Proofs.YtmgaloopddiekaaGreatDoor
