/- Words and contracts, part 22. -/
import Derived.Test.YtmgaloopddiekaaGreatDoorClaimFargsp21
import Derived.OpenShut
import Derived.ChangeSlices
import Derived.SizedLaws
import Derived.WideKeyArgs
set_option maxRecDepth 100000
set_option maxHeartbeats 0
namespace Go.Proofs.YtmgaloopddiekaaGreatDoor
open Go.ChangeShapes Go.WideShapes Go.RowKit
section
variable {H:Type} {enc:TypeId × Value→H} {w:World} {base:Nat} {spare:Nat→Bool} {held:Bool} {fuel:Nat} {cs:List Value} {x:DataW H × List MemPlace}
theorem Gm {P:Program}{t:TypeId}{fs:Array Field}{parts:List (DataW H)}(ht:P.underlying t=some (.struct fs)):(DataW.agg parts).weights P t=DataW.weightsEach P (fs.toList.map (·.type)) parts:=by
 unfold DataW.weights;rw [ht]
theorem Hf {P:Program}{t e:TypeId}{elems sp:List (DataW H)}(ht:P.underlying t=some (.slice e)):(DataW.slice elems sp).weights P t=(elems.length+sp.length)*P.bytesOf e::(DataW.weightsAll P e elems++DataW.weightsAll P e sp):=by
 conv=>lhs;unfold DataW.weights
 rw [ht]
theorem Lu:∀ (zs:List Int) (i:Nat),nth (zs.map Int.toNat) i=(zs.getD i 0).toNat
 | [],i=>by cases i<;>simp [nth]
 | z::zs,0=>by simp [nth]
 | z::zs,i+1=>by have:=Lu zs i;simpa [nth] using this
theorem Zg:Tryz.prog.bytesOf 54=8:=by kernel_rfl
theorem Xc (h:DataW.trod enc Tryz.prog w base spare held fuel 28 cs=some x)(hs:∀ n∈x.1.weights Tryz.prog 28,n≤reachBytes) :
 ∃ s xs,cs=[s]∧Lim w s xs∧xs.length≤17592186044416:=by
 rcases open_ints Tryz.underlying28 Tryz.underlying54 (by kernel_rfl) h with ⟨rfl,rfl⟩ | ⟨a,len,cap,zs,rfl,hb,hl,hm,hz,rfl,hc,hwf⟩
 ·exact ⟨_,[],rfl,Lim.nil _ _ _,by simp⟩
 ·have hlz:len≤zs.length:=by rw [hz];split<;>omega
  have hlen:(zs.take len).length=len:=by rw [List.length_take];omega
  have hw:=hs ((lits (H:=H) .u64 (zs.take len)).length+(lits (H:=H) .u64 (zs.drop len)).length |> (·*8)) (by rw [Hf Tryz.underlying28,Zg];exact List.mem_cons_self ..);have hll:(lits (H:=H) .u64 (zs.take len)).length=len:=by simp [lits,hlz]
  have hr:reachBytes=140737488351232:=rfl;rw [hll,hr] at hw;have hw:(len+(lits (H:=H) .u64 (zs.drop len)).length)*8≤140737488351232:=hw;refine ⟨_,(zs.take len).map Int.toNat,?_,⟨?_,some a,cap,rfl,?_,?_⟩,?_⟩
  ·rw [List.length_map,hlen]
  ·intro n hn;obtain ⟨z,hz',rfl⟩:=List.mem_map.1 hn;have:=hwf z (List.mem_of_mem_take hz');simp [Lit.wf,IntKind.min,IntKind.max,IntKind.signed,IntKind.bits] at this;omega
  ·rw [List.length_map,hlen];exact hl
  ·intro h0;rw [List.length_map,hlen] at h0;obtain ⟨b,off,rfl,hcc⟩:=ints_at hc (by omega);refine ⟨b,off,rfl,?_,?_⟩
   ·exact Bg (hcc 0 (by omega))
   ·intro i hi;rw [List.length_map,hlen] at hi;have hi':i<zs.length:=by omega
    have hm:zs.getD i 0∈zs:=by rw [List.getD_eq_getElem?_getD,List.getElem?_eq_getElem hi'];exact List.getElem_mem hi'
    have hz0:(0:Int)≤zs.getD i 0:=by
     have:=hwf _ hm;generalize zs.getD i 0=z at *;simp [Lit.wf,IntKind.min,IntKind.max,IntKind.signed,IntKind.bits] at this;omega
    rw [hcc i (by omega),Lu];have e1:(zs.take len).getD i 0=zs.getD i 0:=by
     simp [List.getD,hi]
    rw [e1,Int.toNat_of_nonneg hz0]
  ·rw [List.length_map,hlen];omega
theorem Sv (h:DataW.trod enc Tryz.prog w base spare held fuel 30 cs=some x)(hs:∀ n∈x.1.weights Tryz.prog 30,n≤reachBytes) :
 ∃ v0 v1 v2 r,cs=[v0,v1,v2]∧DyR w (.agg #[v0,v1,v2]) r∧r.m.length≤17592186044416:=by
 obtain ⟨xs,n,_,rfl,hl,hlen,hf⟩:=DataW.trod_struct Tryz.underlying30 h;rw [Gm Tryz.underlying30] at hs;have hl:cs.length=3:=hl.trans (by kernel_rfl);have c1:Tryz.prog.cellsOf 4=1:=by kernel_rfl
 have c2:Tryz.prog.cellsOf 28=1:=by kernel_rfl
 have c3:Tryz.prog.cellsOf 3=1:=by kernel_rfl
 match xs,hlen,cs,hl with
 | [y0, y1, y2], _, [v0, v1, v2], _ =>
   have h0:=hf 0 _ rfl;have h1:=hf 1 _ rfl;have h2:=hf 2 _ rfl

   simp only [c1,c2,c3,List.drop_zero,List.drop_succ_cons,List.take_succ_cons,List.take_zero,List.getElem?_cons_zero,List.getElem?_cons_succ,List.getElem_toArray,List.getElem_cons_zero,List.getElem_cons_succ] at h0 h1 h2;obtain ⟨b,e0,-⟩:=DataW.trod_bool Tryz.underlying4 h0;obtain ⟨k,e2,-,hk⟩:=DataW.trod_int Tryz.underlying3 h2;obtain ⟨s,m,e1,hm,hml⟩:=Xc h1 (fun n hn=>hs n (by
    simp only [List.map_cons,List.map_nil,DataW.weightsEach];exact List.mem_append_right _ (List.mem_append_left _ hn)))
   simp only [List.cons.injEq,and_true] at e0 e1 e2;subst e0 e1 e2;refine ⟨_,_,_,⟨b,m,k⟩,rfl,⟨_,rfl,hm,?_⟩,hml⟩;simp [Lit.wf,IntKind.min,IntKind.max,IntKind.signed,IntKind.bits] at hk;exact ⟨by show (-9223372036854775808:Int)≤k;omega,by show k≤9223372036854775807;omega⟩
theorem Yw (h:DataW.trod enc Tryz.prog w base spare held fuel 51 cs=some x)(hs:∀ n∈x.1.weights Tryz.prog 51,n≤reachBytes) :
 ∃ v0 v1 v2 v3 v4 v5 a,cs=[v0,v1,v2,v3,v4,v5]∧IvR w (.agg #[v0,v1,v2,v3,v4,v5]) a∧a.lens 17592186044416:=by
 obtain ⟨xs,n,_,rfl,hl,hlen,hf⟩:=DataW.trod_struct Tryz.underlying51 h;rw [Gm Tryz.underlying51] at hs;have hl:cs.length=6:=hl.trans (by kernel_rfl);have c1:Tryz.prog.cellsOf 30=3:=by kernel_rfl
 match xs,hlen,cs,hl with
 | [y0, y1], _, [v0, v1, v2, v3, v4, v5], _ =>
   have h0:=hf 0 _ rfl;have h1:=hf 1 _ rfl;simp only [c1,List.drop_zero,List.drop_succ_cons,List.take_succ_cons,List.take_zero,List.getElem?_cons_zero,List.getElem?_cons_succ,List.getElem_toArray,List.getElem_cons_zero,List.getElem_cons_succ] at h0 h1;obtain ⟨_,_,_,r0,e0,d0,l0⟩:=Sv h0 (fun n hn=>hs n (by
    simp only [List.map_cons,List.map_nil,DataW.weightsEach];exact List.mem_append_left _ hn))
   obtain ⟨_,_,_,r1,e1,d1,l1⟩:=Sv h1 (fun n hn=>hs n (by
    simp only [List.map_cons,List.map_nil,DataW.weightsEach];exact List.mem_append_right _ (List.mem_append_left _ hn)))
   simp only [List.cons.injEq,and_true] at e0 e1;obtain ⟨rfl,rfl,rfl⟩:=e0;obtain ⟨rfl,rfl,rfl⟩:=e1;exact ⟨_,_,_,_,_,_,⟨r0,r1⟩,rfl,⟨_,_,_,_,_,_,rfl,d0,d1⟩,l0,l1⟩
theorem Np {r:Reach}{b0:Nat}{v:Value}{d:DataW H}{p:List MemPlace}(hv:Value.okWide Tryz.prog w r b0 30 v)(h:DataW.Trod enc Tryz.prog w base spare held 30 v d p)
 (hs:∀ n∈d.weights Tryz.prog 30,n≤reachBytes):∃ r,DyR w v r∧r.m.length≤17592186044416:=by
 obtain ⟨cs,rfl,hsz⟩:=okWide_struct Tryz.underlying30 hv;obtain ⟨fuel,hf⟩:=h;obtain ⟨v0,v1,v2,r,e,hd,hl⟩:=Sv hf hs;have e:cs.toList=[v0,v1,v2]:=e;obtain rfl:cs=#[v0,v1,v2]:=by cases cs;simp_all
 exact ⟨r,hd,hl⟩
end
theorem Ly {H:Type}{enc:TypeId × Value→H}{P:Program}{base:Nat}{W W':World}{sp:Nat→Bool}(hl:laidOutB P=true) :
 ∀ {ts : List TypeId} {vs : List Value} {ds : List (DataW H)} {ps : List MemPlace}, (∀ t ∈ ts, P.readableRec t = true ∧ t < P.types.size) →
   DataW.TrodAll enc P W base (fun _=>true) true ts vs ds ps→(∀ p∈ps,W.sameAt W' p)→(∀ p∈ps,sp p.block=true)→DataW.TrodAll enc P W' base sp true ts vs ds ps
 | [],[],[],ps,_,h,_,_=>h
 | t :: ts, v :: vs, d :: ds, ps, ha, h, hsame, hs => by
   obtain ⟨p,q,h1,h2,rfl⟩:=h;refine ⟨p,q,Go.WideElems.Trod_stays hl (ha t (List.mem_cons_self ..)).1 (ha t (List.mem_cons_self ..)).2 h1 (fun x hx=>hsame x (List.mem_append_left _ hx)) (fun x hx=>hs x (List.mem_append_left _ hx)),?_,rfl⟩;exact Ly hl (fun t ht=>ha t (List.mem_cons_of_mem _ ht)) h2 (fun x hx=>hsame x (List.mem_append_right _ hx)) (fun x hx=>hs x (List.mem_append_right _ hx))
 | [],[],_::_,_,_,h,_,_=>h.elim
 | [],_::_,[],_,_,h,_,_=>h.elim
 | [],_::_,_::_,_,_,h,_,_=>h.elim
 | _::_,[],_,_,_,h,_,_=>by cases h
 | _::_,_::_,[],_,_,h,_,_=>by cases h
end Go.Proofs.YtmgaloopddiekaaGreatDoor
