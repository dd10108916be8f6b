/- JetFront: coefficients of a lower order are the first ones of a higher order; those of order 0 and 1 are the box, and the derivatives there. For every input. -/
import Derived.Test.YtabjjdicffcolaaGreatDoorClaimJfrontp14
import Derived.Test.YtabjjdicffcolaaGreatDoorClaimJfrontp19
import Derived.Deep.Slices
set_option maxRecDepth 100000
set_option maxHeartbeats 0
namespace Go.Proofs.YtabjjdicffcolaaGreatDoor
open Go.ChangeShapes Go.WideShapes Go.RowKit Go.Deep
section
variable {H:Type} {enc:TypeId × Value->H} {w:World} {base:Nat} {spare:Nat->Bool} {held:Bool} {fuel:Nat} {cs:List Value} {x:DataW H × List MemPlace}
instance:Inhabited RawI:=⟨rzI⟩
instance:Inhabited Ln:=⟨⟨0,0,0,rzI⟩⟩
theorem weightsAll_mem {P:Program}{e:TypeId}{d:DataW H}:∀ {l:List (DataW H)},d∈l->∀ n∈d.weights P e,n∈DataW.weightsAll P e l
 | y :: l, h, n, hn => by
   unfold DataW.weightsAll;rcases List.mem_cons.1 h with rfl | h
   ·exact List.mem_append_left _ hn
   ·exact List.mem_append_right _ (weightsAll_mem h n hn)
theorem cells_at {a:Addr}{n:Nat}{ds:List Value}(h:w.cells? base a n=some ds)(hn:0<n):a.spot=none/\∀ (j:Nat) v,ds[j]?=some v->w.cell? ⟨a.block,a.off+j,none⟩=some v:=by
 obtain ⟨b,off,spot⟩:=a;obtain ⟨-,hl,hc⟩:=World.cells?_some h;have h0:=hc 0 hn;rw [Cd (by omega)] at h0;have hs:spot=none:=by simpa [Addr.add] using World.cell?_spot h0
 subst hs;refine ⟨rfl,λj v hj=>?_⟩;have h1:=hc j (by have:=(Ed hj).1;omega);rw [hj,Go.WideShapes.add_plain] at h1;exact h1
theorem bytes_le {t:TypeId}{n:Nat}(h:n*Tryz.prog.bytesOf t<=reachBytes)(hb:1<=Tryz.prog.bytesOf t):n<=1000000000000000:=by
 have hr:reachBytes=140737488351232:=rfl;rw [hr] at h;have:=Nat.le_mul_of_pos_right n (show 0<Tryz.prog.bytesOf t by omega);omega
theorem open_ivs (h:DataW.trod enc Tryz.prog w base spare held fuel 31 cs=some x)(hs:∀ n∈x.1.weights Tryz.prog 31,n<=reachBytes) :
 ∃ v l,cs=[v]/\IvS w v l/\(∀ a∈l,a.lens 17592186044416)/\l.length<=1000000000000000:=by
 rcases open_slice Tryz.underlying31 h with ⟨rfl,rfl⟩ | ⟨a,len,cap,m,n,D,Pl,rfl,hb,hl,hm,hmm,rfl,hx⟩
 ·exact ⟨_,[],rfl,Lk _,(λa ha=>by cases ha),by simp⟩
 ·have hlm:len≤m:=by rw [hmm];split<;>omega
  rw [Jh Tryz.underlying31] at hs;have c6:Tryz.prog.cellsOf 30=6:=by kernel_rfl
  rw [c6] at hx;have hlen:=hs _ (List.mem_cons_self ..);have h0:0<len->∃ b off,a=⟨b,off,none⟩:=λh=>by
   obtain ⟨cs',h1,-⟩:=hx 0 (by omega);have:=(cells_at h1 (by decide)).1;obtain ⟨b,off,spot⟩:=a;exact ⟨b,off,by rw [show spot=none from this]⟩
  have key:∀ i,i<len->∃ r:RawI,IvAt w a.block (a.off+i*6) r/\r.lens 17592186044416:=λi hi=>by
   obtain ⟨cs',h1,h2⟩:=hx i (by omega);obtain ⟨v0,v1,v2,v3,v4,v5,r,rfl,hI,hL⟩:=Y5 h2 (λn hn=>hs n (by
    refine List.mem_cons_of_mem _ (List.mem_append_left _ (weightsAll_mem (List.mem_map.2 ⟨i,List.mem_range.2 hi,rfl⟩) n hn))))
   obtain ⟨b,off,rfl⟩:=h0 (by omega);rw [Go.WideShapes.add_plain] at h1;obtain ⟨-,ec⟩:=cells_at h1 (by decide);exact ⟨r,⟨v0,v1,v2,v3,v4,v5,ec 0 _ rfl,ec 1 _ rfl,ec 2 _ rfl,ec 3 _ rfl,ec 4 _ rfl,ec 5 _ rfl,hI⟩,hL⟩
  obtain ⟨F,hF⟩:=choose_lt key;have hl2:((List.range len).map F).length=len:=by simp
  refine ⟨.slice (some a) len cap,(List.range len).map F,rfl,⟨some a,cap,by rw [hl2],by rw [hl2];exact hl,λh1=>?_⟩,λr hr=>?_,?_⟩
  ·rw [hl2] at h1;obtain ⟨b,off,rfl⟩:=h0 h1;refine ⟨b,off,rfl,fun i r hi=>?_⟩;have hi':i<len:=by have:=(Ed hi).1;rwa [hl2] at this
   simp only [List.getElem?_map,List.getElem?_range hi',Option.map_some,Option.some.injEq] at hi;subst hi;exact (hF i hi').1
  ·obtain ⟨i,hi,rfl⟩:=List.mem_map.1 hr;exact (hF i (List.mem_range.1 hi)).2
  ·rw [hl2];refine bytes_le (t:=30) ?_ (of_decide_eq_true (by kernel_rfl));refine Bp (Fh _ ?_) hlen;simp
theorem open_line (h:DataW.trod enc Tryz.prog w base spare held fuel 52 cs=some x)(hs:∀ n∈x.1.weights Tryz.prog 52,n<=reachBytes) :
 ∃ op a b v0 v1 v2 v3 v4 v5 k,cs=[.int .i64 op,.int .i64 a,.int .i64 b,v0,v1,v2,v3,v4,v5]/\IvR w (.agg #[v0,v1,v2,v3,v4,v5]) k/\k.lens 17592186044416/\-9223372036854775808<=op/\op<=9223372036854775807:=by
 obtain ⟨xs,n,_,rfl,hl,hlen,hf⟩:=DataW.trod_struct Tryz.underlying52 h;rw [Ik Tryz.underlying52] at hs;have hl:cs.length=9:=hl.trans (by kernel_rfl);have c1:Tryz.prog.cellsOf 3=1:=by kernel_rfl
 have c6:Tryz.prog.cellsOf 30=6:=by kernel_rfl
 match xs,hlen,cs,hl with
 | [y0, y1, y2, y3], _, [u0, u1, u2, v0, v1, v2, v3, v4, v5], _ =>
   have h0:=hf 0 _ rfl;have h1:=hf 1 _ rfl;have h2:=hf 2 _ rfl;have h3:=hf 3 _ rfl;simp only [c1,c6,List.drop_zero,List.drop_succ_cons,List.take_succ_cons,List.take_zero,List.getElem?_cons_zero,List.getElem?_cons_succ,List.getElem_toArray,List.getElem_cons_zero,List.getElem_cons_succ] at h0 h1 h2 h3;obtain ⟨k0,e0,-,hk0⟩:=DataW.trod_int Tryz.underlying3 h0;obtain ⟨k1,e1,-,hk1⟩:=DataW.trod_int Tryz.underlying3 h1;obtain ⟨k2,e2,-,hk2⟩:=DataW.trod_int Tryz.underlying3 h2;obtain ⟨_,_,_,_,_,_,r,e3,hI,hL⟩:=Y5 h3 (λn hn=>hs n (by
    simp only [List.map_cons,List.map_nil,DataW.weightsEach];exact List.mem_append_right _ (List.mem_append_right _ (List.mem_append_right _ (List.mem_append_left _ hn)))))
   simp only [List.cons.injEq,and_true] at e0 e1 e2 e3;subst e0 e1 e2;obtain ⟨rfl,rfl,rfl,rfl,rfl,rfl⟩:=e3;refine ⟨_,_,_,_,_,_,_,_,_,r,rfl,hI,hL,?_,?_⟩
   ·simp [Lit.wf,IntKind.min,IntKind.max,IntKind.signed,IntKind.bits] at hk0;omega
   ·simp [Lit.wf,IntKind.min,IntKind.max,IntKind.signed,IntKind.bits] at hk0;omega
theorem open_lns (h:DataW.trod enc Tryz.prog w base spare held fuel 22 cs=some x)(hs:∀ n∈x.1.weights Tryz.prog 22,n<=reachBytes) :
 ∃ v ls,cs=[v]/\LnS w v ls/\Ru ls/\ls.length<=1000000000000000:=by
 rcases open_slice Tryz.underlying22 h with ⟨rfl,rfl⟩ | ⟨a,len,cap,m,n,D,Pl,rfl,hb,hl,hm,hmm,rfl,hx⟩
 ·exact ⟨_,[],rfl,⟨none,0,rfl,Aq _,λh=>absurd h (by simp)⟩,(λa ha=>by cases ha),by simp⟩
 ·have hlm:len≤m:=by rw [hmm];split<;>omega
  rw [Jh Tryz.underlying22] at hs;have c9:Tryz.prog.cellsOf 52=9:=by kernel_rfl
  rw [c9] at hx;have hlen:=hs _ (List.mem_cons_self ..);have h0:0<len->∃ b off,a=⟨b,off,none⟩:=λh=>by
   obtain ⟨cs',h1,-⟩:=hx 0 (by omega);have:=(cells_at h1 (by decide)).1;obtain ⟨b,off,spot⟩:=a;exact ⟨b,off,by rw [show spot=none from this]⟩
  have key:∀ i,i<len->∃ r:Ln,LnAt w a.block (a.off+i*9) r/\(-9223372036854775808<=r.op/\r.op<=9223372036854775807/\r.k.lens 17592186044416):=λi hi=>by
   obtain ⟨cs',h1,h2⟩:=hx i (by omega);obtain ⟨op,a1,b1,v0,v1,v2,v3,v4,v5,k,rfl,hI,hL,o1,o2⟩:=open_line h2 (λn hn=>hs n (by
    refine List.mem_cons_of_mem _ (List.mem_append_left _ (weightsAll_mem (List.mem_map.2 ⟨i,List.mem_range.2 hi,rfl⟩) n hn))))
   obtain ⟨b,off,rfl⟩:=h0 (by omega);rw [Go.WideShapes.add_plain] at h1;obtain ⟨-,ec⟩:=cells_at h1 (by decide);exact ⟨⟨op,a1,b1,k⟩,⟨ec 0 _ rfl,ec 1 _ rfl,ec 2 _ rfl,v0,v1,v2,v3,v4,v5,ec 3 _ rfl,ec 4 _ rfl,ec 5 _ rfl,ec 6 _ rfl,ec 7 _ rfl,ec 8 _ rfl,hI⟩,o1,o2,hL⟩
  obtain ⟨F,hF⟩:=choose_lt key;have hl2:((List.range len).map F).length=len:=by simp
  refine ⟨.slice (some a) len cap,(List.range len).map F,rfl,⟨some a,cap,by rw [hl2],by rw [hl2];exact hl,λh1=>?_⟩,λr hr=>?_,?_⟩
  ·rw [hl2] at h1;obtain ⟨b,off,rfl⟩:=h0 h1;refine ⟨b,off,rfl,fun i r hi=>?_⟩;have hi':i<len:=by have:=(Ed hi).1;rwa [hl2] at this
   simp only [List.getElem?_map,List.getElem?_range hi',Option.map_some,Option.some.injEq] at hi;subst hi;exact (hF i hi').1
  ·obtain ⟨i,hi,rfl⟩:=List.mem_map.1 hr;exact (hF i (List.mem_range.1 hi)).2
  ·rw [hl2];refine bytes_le (t:=52) ?_ (of_decide_eq_true (by kernel_rfl));refine Bp (Fh _ ?_) hlen;simp
theorem open_ins (h:DataW.trod enc Tryz.prog w base spare held fuel 23 cs=some x)(hs:∀ n∈x.1.weights Tryz.prog 23,n<=reachBytes):∃ v ns,cs=[v]/\InS w v ns/\ns.length<=1000000000000000:=by
 rcases open_ints Tryz.underlying23 Tryz.underlying3 (by kernel_rfl) h with ⟨hcs,-⟩ | ⟨a,len,cap,zs,hcs,-,hl,-,hz,hd,hc,-⟩
 ·exact ⟨_,[],hcs,⟨none,0,rfl,Aq _,λh=>absurd h (by simp)⟩,by simp⟩
 ·have hlz:len≤zs.length:=by rw [hz];split<;>omega
  have hlen:(zs.take len).length=len:=by rw [List.length_take];omega
  refine ⟨_,zs.take len,hcs,⟨some a,cap,by rw [hlen],by omega,λh0=>?_⟩,?_⟩
  ·obtain ⟨b,off,rfl,hcc⟩:=ints_at hc (by omega);refine ⟨b,off,rfl,fun i n hn=>?_⟩;have hi:i<len:=by have:=(Ed hn).1;omega
   rw [hcc i (by omega)];rw [List.getElem?_take_of_lt hi] at hn;rw [Da,hn];rfl
  ·subst hd;have hw:=hs ((lits (H:=H) .i64 (zs.take len)).length+(lits (H:=H) .i64 (zs.drop len)).length |> (·*Tryz.prog.bytesOf 3)) (by rw [Jh Tryz.underlying23];exact List.mem_cons_self ..);have hll:(lits (H:=H) .i64 (zs.take len)).length=len:=by simp [lits,hlz]
   rw [hlen];refine bytes_le (t:=3) ?_ (of_decide_eq_true (by kernel_rfl));refine Bp (Fh _ ?_) hw;rw [hll];exact Nat.le_add_right _ _
theorem open_tape {r:Reach}{b0:Nat}{v:Value}{d:DataW H}{p:List MemPlace}(hv:Value.okWide Tryz.prog w r b0 25 v)(h:DataW.Trod enc Tryz.prog w base spare held 25 v d p)
 (hs:∀ n∈d.weights Tryz.prog 25,n<=reachBytes):∃ ls outs,TpR w v ls outs/\Ru ls/\ls.length<=1000000000000000/\outs.length<=1000000000000000:=by
 obtain ⟨cs,rfl,hsz⟩:=okWide_struct Tryz.underlying25 hv;obtain ⟨fuel,hf0⟩:=h;obtain ⟨xs,n,_,e,hl,hlen,hf⟩:=DataW.trod_struct Tryz.underlying25 hf0;obtain ⟨rfl,-⟩:=Prod.mk.inj e;rw [Ik Tryz.underlying25] at hs;have hl:cs.toList.length=2:=hl.trans (by kernel_rfl);have c1:Tryz.prog.cellsOf 22=1:=by kernel_rfl
 have c2:Tryz.prog.cellsOf 23=1:=by kernel_rfl
 obtain ⟨cs,rfl⟩:∃ l:List Value,cs=l.toArray:=⟨cs.toList,by simp⟩
 match xs,hlen,cs,hl with
 | [y0, y1], _, [u0, u1], _ =>
   have h0:=hf 0 _ rfl;have h1:=hf 1 _ rfl;simp only [Value.cells,c1,c2,List.drop_zero,List.drop_succ_cons,List.take_succ_cons,List.take_zero,List.getElem?_cons_zero,List.getElem?_cons_succ,List.getElem_toArray,List.getElem_cons_zero,List.getElem_cons_succ] at h0 h1;obtain ⟨_,ls,e0,hls,ok,n0⟩:=open_lns h0 (λn hn=>hs n (by
    simp only [List.map_cons,List.map_nil,DataW.weightsEach];exact List.mem_append_left _ hn))
   obtain ⟨_,outs,e1,hou,n1⟩:=open_ins h1 (λn hn=>hs n (by
    simp only [List.map_cons,List.map_nil,DataW.weightsEach];exact List.mem_append_right _ (List.mem_append_left _ hn)))
   simp only [List.cons.injEq,and_true] at e0 e1;subst e0 e1;exact ⟨ls,outs,⟨_,_,rfl,hls,hou⟩,ok,n0,n1⟩
end
end Go.Proofs.YtabjjdicffcolaaGreatDoor
namespace Go.Proofs.YtabjjdicffcolaaGreatDoor
open Go.ChangeShapes Go.WideShapes Go.RowKit Go.Deep
section
variable {H:Type} {enc:TypeId × Value->H} {w:World} {base:Nat} {spare:Nat->Bool} {held:Bool}
theorem open_row {r:Reach}{b0:Nat}{v:Value}{d:DataW H}{p:List MemPlace}(hv:Value.okWide Tryz.prog w r b0 31 v)(h:DataW.Trod enc Tryz.prog w base spare held 31 v d p)
 (hs:∀ n∈d.weights Tryz.prog 31,n<=reachBytes):∃ l,IvS w v l/\(∀ a∈l,a.lens 17592186044416)/\l.length<=1000000000000000:=by
 obtain ⟨a0,len0,cap0,rfl⟩:=okWide_slice Tryz.underlying31 hv;obtain ⟨fuel,hf⟩:=h;obtain ⟨u,l,e,h1,h2,h3⟩:=open_ivs hf hs;simp only [Value.cells,List.cons.injEq,and_true] at e;rw [e];exact ⟨l,h1,h2,h3⟩
end
theorem gJ:∀ t∈[25,31,30,3],Tryz.prog.readableRec t=true/\t<Tryz.prog.types.size:=by
 intro t ht;simp only [List.mem_cons,List.not_mem_nil,or_false] at ht;rcases ht with rfl | rfl | rfl | rfl
 ·exact ⟨by kernel_rfl,of_decide_eq_true (by kernel_rfl)⟩
 ·exact ⟨by kernel_rfl,of_decide_eq_true (by kernel_rfl)⟩
 ·exact ⟨by kernel_rfl,of_decide_eq_true (by kernel_rfl)⟩
 ·exact ⟨by kernel_rfl,of_decide_eq_true (by kernel_rfl)⟩
end Go.Proofs.YtabjjdicffcolaaGreatDoor
namespace Go.Proofs.YtabjjdicffcolaaGreatDoor.jetFront
open Go.ChangeShapes Go.WideShapes Go.RowKit
theorem contract (H:Type)(enc:TypeId × Value->H)(W:World)(base:Nat)(args:Array Value)(ds gs:List (DataW H))(before:List MemPlace)
 (hval:∀ (j:Nat) t v,Tryz.f6.params[j]?=some t->args[j]?=some v->Value.okWide Tryz.prog W .any base t v)
 (hW:DataW.Whole enc Tryz.prog Tryz.f6.params.toList Rows.jetFrontSpec.vars false W args.toList ds gs before)
 (hw:(DataW.weightsEach Tryz.prog (Tryz.f6.params.toList++(OpenSpec.ofChange Rows.jetFrontSpec).bare.plain.varTypes Tryz.prog) (ds++gs)).all (·<=reachBytes)=true)
 (hL:laidMetH Tryz.prog Rows.jetFrontRow.laid W) :
 Calls Tryz.prog 6 args W λe W'=>∃ v,e=.returned v/\Rows.jetFrontSpec.post enc Tryz.prog Tryz.f6 false true false false W args v W':=by
 have hW':=hW;have hlt:=hW.lt;obtain ⟨p,q,hA0,hV,rfl,hfz,hnd⟩:=hW;have hA:DataW.TrodAll enc Tryz.prog W 0 (λ_=>true) true Tryz.f6.params.toList args.toList ds p:=hA0;have hA1:=hA;rw [Tryz.params6] at hA hval hw;obtain ⟨v0,vs0,d0,ds0,p0,q0,hargs,rfl,rfl,h0,r0⟩:=trodAll_cons hA;obtain ⟨v1,vs1,d1,ds1,p1,q1,rfl,rfl,rfl,h1,r1⟩:=trodAll_cons r0;obtain ⟨v2,vs2,d2,ds2,p2,q2,rfl,rfl,rfl,h2,r2⟩:=trodAll_cons r1;obtain ⟨v3,vs3,d3,ds3,p3,q3,rfl,rfl,rfl,h3,r3⟩:=trodAll_cons r2;obtain ⟨v4,vs4,d4,ds4,p4,q4,rfl,rfl,rfl,h4,r4⟩:=trodAll_cons r3;obtain ⟨v5,vs5,d5,ds5,p5,q5,rfl,rfl,rfl,h5,r5⟩:=trodAll_cons r4;obtain ⟨v6,vs6,d6,ds6,p6,q6,rfl,rfl,rfl,h6,r6⟩:=trodAll_cons r5
 obtain ⟨rfl,rfl,rfl⟩:=trodAll_nil r6;obtain rfl:args=#[v0,v1,v2,v3,v4,v5,v6]:=by cases args;simp_all
 obtain ⟨rfl,rfl⟩:=trodVars_none hV;obtain ⟨a0,b0,hv0,ok0,la0,lb0⟩:=open_tape (hval 0 _ v0 rfl rfl) h0 (Pt hw (j:=0) rfl rfl);obtain ⟨a1,hv1,la1⟩:=gE (hval 1 _ v1 rfl rfl) h1 (Pt hw (j:=1) rfl rfl);obtain ⟨a2,hv2,la2,lb2⟩:=open_row (hval 2 _ v2 rfl rfl) h2 (Pt hw (j:=2) rfl rfl);obtain ⟨a3,hv3,la3,lb3⟩:=open_row (hval 3 _ v3 rfl rfl) h3 (Pt hw (j:=3) rfl rfl);obtain ⟨k4,rfl,rfl,rfl,hk4⟩:=open_int Tryz.underlying3 (hval 4 _ v4 rfl rfl) h4;obtain ⟨k5,rfl,rfl,rfl,hk5⟩:=open_int Tryz.underlying3 (hval 5 _ v5 rfl rfl) h5;obtain ⟨k6,rfl,rfl,rfl,hk6⟩:=open_int Tryz.underlying3 (hval 6 _ v6 rfl rfl) h6
 refine (jq hv0 hv1 hv2 hv3 ok0 la0 lb0 la1 la2 lb2 la3 lb3 (qD hL)).mono λe W' ⟨he,hk'⟩=>?_
 refine ⟨_,he,_,_,_,[],p0++(p1++(p2++(p3++([]++([]++([]++[])))))),[],hW',trodAll_mk1 (shut_bool Tryz.underlying4 _),?_,rfl,hk'.frame _,λh=>by cases h⟩
 exact P8 mH (λt ht=>gJ t (by rw [Tryz.params6] at ht;simp only [List.mem_cons,List.not_mem_nil,or_false] at ht ⊢;rcases ht with rfl | rfl | rfl | rfl | rfl | rfl | rfl<;>simp)) hA1
  (λx hx=>hk'.same (hlt x (by simpa using hx))) (λx hx=>of_decide_eq_true (by simpa using hlt x (by simpa using hx)))
def wit:Array Value:=#[.agg #[.slice none 0 0,.slice none 0 0],.agg #[.bool false,.slice none 0 0,.int .i64 0,.bool false,.slice none 0 0,.int .i64 0],.slice none 0 0,.slice none 0 0,.int .i64 0,.int .i64 0,.int .i64 0]
theorem laid_met (os:Os):laidMet Tryz.prog Rows.jetFrontRow.laid ((laidWorld os).forCall (λ_ _=>0) ⟨#[],wit,[]⟩).memory :=
 laidMet_of_run' 8 (by kernel_rfl) (by kernel_rfl)
theorem reads (os:Os){H:Type}(enc:TypeId × Value->H):∃ places,DataW.whole enc Tryz.prog ((laidWorld os).forCall (λ_ _=>0) ⟨#[],wit,[]⟩).memory Tryz.f6.params.toList Rows.jetFrontSpec.vars false wit.toList 8 =
 some ([.agg [.nil,.nil],.agg [.agg [.lit (.bool false),.nil,.lit (.int .i64 0)],.agg [.lit (.bool false),.nil,.lit (.int .i64 0)]],.nil,.nil,.lit (.int .i64 0),.lit (.int .i64 0),.lit (.int .i64 0)],[],places) :=
 ⟨[],by kernel_rfl⟩
theorem lifted (os:Os)(started:os.Started)(H:Type)(enc:TypeId × Value->H)(F:Stop.Interp) :
 ReturnsInHanded {} Tryz.checked os 6 .any ((OpenSpec.ofChange Rows.jetFrontSpec).preRow enc Tryz.prog Tryz.f6 Rows.jetFrontRow.domain false Rows.jetFrontRow.laid) (((OpenSpec.ofChange Rows.jetFrontSpec).at F).post enc Tryz.prog Tryz.f6 false true false false):=by
 obtain ⟨places,hx⟩:=reads os enc
 refine returnsInHanded_of_row (C:=Tryz.checked) (s:=OpenSpec.ofChange Rows.jetFrontSpec) own started (by kernel_rfl) Tryz.func6
  (witness_row_at (enc:=enc) (C:=Tryz.checked) false (laidWorld os) wit rfl (by kernel_rfl) (by kernel_rfl) (by kernel_rfl)
    (OpenSpec.preRow_of_cond 8 hx (by kernel_rfl) (λk hk=>by cases hk) (by kernel_rfl) (laid_met os))) ?_
 intro W base args ds gs before hval hW _ _ hsz hL _ _;exact contract H enc W base args ds gs before hval hW hsz hL
theorem ss:Rows.JetFrontSaid :=
 OpenClaim.holds_of_cond 6 Tryz.f6 rfl rfl rfl rfl rfl rfl rfl ⟨rfl,rfl,rfl,rfl,rfl⟩ rfl rfl rfl rfl rfl (by kernel_rfl) Tryz.func6 (by kernel_rfl)
  (of_decide_eq_true (by kernel_rfl)) (by unfold Func.isWrapper;first | (rw [Ak (by decide +kernel)];kernel_rfl) | (rw [Af (by decide +kernel)];exact ⟨rfl,rfl⟩))
  (λos started H enc _ F=>by rw [OpenClaim.pre_eq_preRow];exact lifted os started H enc F)
theorem plain (f : FuncId) (fn : Func) (hf : Tryz.pinned.checked.prog.funcNamed "sluiceway/sluicewaylaw9.JetFront" = some f) (hfn : Tryz.pinned.checked.prog.funcs[f]? = some fn) :
 true=Tryz.pinned.checked.prog.looks []/\∀ (j:Nat) t,fn.params[j]?=some t->Tryz.pinned.checked.prog.wantsStandIn t=false:=by
 obtain rfl : f = 6 := Option.some.inj ((show Tryz.prog.funcNamed "sluiceway/sluicewaylaw9.JetFront" = some 6 by kernel_rfl).symm.trans hf) |>.symm
 obtain rfl:fn=Tryz.f6:=(Option.some.inj (Tryz.func6.symm.trans hfn)).symm;refine ⟨by kernel_rfl,λj t ht=>?_⟩;rw [Tryz.params6] at ht;have hm:=Array.mem_of_getElem? ht;simp only [List.mem_toArray,List.mem_cons,List.not_mem_nil,or_false] at hm;rcases hm with rfl | rfl | rfl | rfl | rfl | rfl | rfl
 ·exact (show Tryz.prog.wantsStandIn 25=false by kernel_rfl)
 ·exact (show Tryz.prog.wantsStandIn 30=false by kernel_rfl)
 ·exact (show Tryz.prog.wantsStandIn 31=false by kernel_rfl)
 ·exact (show Tryz.prog.wantsStandIn 31=false by kernel_rfl)
 ·exact (show Tryz.prog.wantsStandIn 3=false by kernel_rfl)
 ·exact (show Tryz.prog.wantsStandIn 3=false by kernel_rfl)
 ·exact (show Tryz.prog.wantsStandIn 3=false by kernel_rfl)
theorem card:Rows.JetFrontCardSaid :=
 Claim7.holds_tied_plain_at .later [] _ _ _ _ ss (λ_ h=>by cases h) (by kernel_rfl) (λ_ h=>by cases h) jetFront_row_tie rfl ⟨rfl,rfl⟩ (by kernel_rfl) rfl plain (by kernel_rfl)
end Go.Proofs.YtabjjdicffcolaaGreatDoor.jetFront
