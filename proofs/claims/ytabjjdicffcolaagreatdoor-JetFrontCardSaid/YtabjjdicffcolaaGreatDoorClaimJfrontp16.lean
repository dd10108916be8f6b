/- Words and contracts, part 16. -/
import Derived.Test.YtabjjdicffcolaaGreatDoorClaimJfrontp15
set_option maxRecDepth 100000
set_option maxHeartbeats 0
namespace Go.Proofs.YtabjjdicffcolaaGreatDoor
open Go.RowKit
variable {neg rest up z:Bool} {a d d' s t x y:Dy} {o oH oL:Dy × Dy} {B:Int} {S b b' b0 c f i j l m n p wk:Nat} {L:Nat->Bool} {u:Nat->Value} {A A':Option Addr} {v:Value} {Y w w':World}
def Dg (a:Dy):Nat:=(Bj a+8).toNat
def Vm (p:Nat) (up:Bool) (x:Dy):Dy:=I7 p up (Ch x x).v
def Nx (p:Nat) (up:Bool):Nat->Dy->Dy
 | 0,x=>x
 | n+1,x=>Nx p up n (Vm p up x)
def H9 (a:Dy):Dy:=(Hp a (-(Dg a:Int))).v
theorem Oh {p:Nat}{up:Bool}{r:Dy}{o:Dy × Dy}:∀ f j s t,G6 p up r f j s t=some o->s.Ok->t.Ok->o.1.Ok/\o.2.Ok
 | 0,_,_,_,h,_,_=>by simp [G6] at h
 | f + 1, j, s, t, h, hs, ht => by
   have h1:(Es p up s (Db p up r t j)).Ok:=Pp _ _ _;have h2:(Db p up r t j).Ok:=(Kx _ _ _ _).1;rw [G6] at h;split at h
   ·obtain rfl:=Option.some.inj h;exact ⟨h1,h2⟩
   ·exact Oh f _ _ _ h h1 h2
theorem Rc (h:o.1.Ok/\o.2.Ok):(J5 p up o).Ok:=by
 unfold J5;split
 ·exact Pp _ _ _
 ·exact h.1
theorem bZ (hv:DyR w v d.raw)(ok:d.Ok)(p1:1<=p)(p2:p<=2000)(hT:Tab w)(hG:G6 p up (H9 d) f 1 one one=some o)(hf:f<=1000000) :
 Calls Tryz.prog 202 #[.agg #[.int .i64 (p:Int),.bool up],v] w (RetD (Nx p up (Dg d) (J5 p up o)).raw w):=by
 have T:=Ad hT;have hb4:=Dw d.m 64 ok.len;have e1:=ok.lo;have e2:=ok.hi;have hkb:Dg d<=1100000:=by unfold Dg Bj;omega
 have hkw:IntKind.i64.wrap (Bj d+8)=Bj d+8:=fJ (by unfold Bj;omega) (by unfold Bj;omega);have hkm:max 0 (Bj d+8)=((Dg d:Nat):Int):=by unfold Dg;omega
 obtain ⟨A,l,c,rfl,hs⟩:=Bx hv;obtain ⟨r,hr⟩:∃ r,r=H9 d:=⟨_,rfl⟩;have okr:r.Ok:=by rw [hr];exact (Xm ok _).1
 obtain ⟨x0,hx0⟩:∃ x0,x0=J5 p up o:=⟨_,rfl⟩;have okn:(J5 p up o).Ok:=Rc (Oh _ _ _ _ hG J4 J4);obtain ⟨o1,ho1⟩:∃ o,o=(Hp d (-(Dg d:Int))).raw:=⟨_,rfl⟩;have C1:=Ad (λw1 v (h:DyR w1 v d.raw)=>lB h ok);have C2:=Ad (λw1 v (k:Kept w w1) (h:DyR w1 v d.raw)=>show Calls Tryz.prog 209 #[v,.int .i64 (-(Dg d:Int))] w1 (RetE o1 w1) by rw [ho1];exact lI h ok (by omega) (by omega) (T.o.kept k));have C3:=Ad (λw1 v (k:Kept w w1) (h:DyR w1 v o1.v)=>show Calls Tryz.prog 208 #[.agg #[.int .i64 (p:Int),.bool up],v] w1 (RetD x0.raw w1) by
  rw [hx0];rw [ho1] at h;exact nZ (r:=H9 d) h (by rw [<-hr];exact okr) p1 p2 (T.o.kept k) hG hf)
 rw [<-hx0] at okn ⊢;clear ho1 hG okr hr;have HS:=Ad hs;have OKN:=Ad okn;clear hv hs hT ok okn hb4 e1 e2 hx0 r;obtain ⟨out,hout⟩:∃ out,out=Nx p up (Dg d) x0:=⟨_,rfl⟩;rw [<-hout];have HOUT:=Ad hout;clear hout;generalize Dg d=k at *;generalize Bj d=tt at *;generalize d.raw=rr,d.neg=n1,d.e=e1 at *;obtain ⟨W,hW,kW,BS,BA,BR⟩:=eu w p up (.bool n1) (.slice A l c) (.int .i64 e1);have HW:=Ad hW;have K:=Ad kW;have HB:=Ad BR;have HA:=Ad BA;have HP:=Ad BS;clear hW kW BR BS;obtain ⟨-,a0,a1,a2,-⟩:=BA.facts;go_enter Tryz.func202,Tryz.ntmps202;go_upto_region 1 with fail
 rw [<-HW.o];clear HW;go_wp2_with fail;refine (C1.o _ _ (HS.o.kept K.o)).mono ?_;rintro ee w1 ⟨rfl,q⟩;simp only [];replace K:=Ad (K.o.trans q);replace HB:=Ad (HB.o.kept q);replace HA:=Ad (HA.o.kept q);replace HP:=Ad (HP.o.kept q);clear q a0 a1 a2 C1 BA;go_upto_region 2 with fail
 refine Ih 10 ([(vE (.agg #[.int .i64 (p:Int),.bool up])),(vE (.agg #[.bool n1,.slice A l c,.int .i64 e1])),(vE (.int .i64 (k:Int))),(vE (.int .i64 (-(k:Int)))),(λv wv=>∃ d,v=.tuple #[d,.int .i64 o1.k]/\DyR wv d o1.v),(λv wv=>DyR wv v o1.v),(vE (.int .i64 o1.k)),(λv wv=>DyR wv v o1.v),(λv wv=>DyR wv v x0.raw),(λv wv=>∃ b,v=.pointer (some ⟨b,0,none⟩)/\w1.heap.size<=b/\Blk wv b (.bool false) (.slice none 0 0) (.int .i64 0))])
  ⟨
   (λaF wF F=>by have s2:=F.q 2 (.pointer (some ⟨w.heap.size,0,none⟩));have c0:=Ai HP.o F.kept 0 _ rfl;have c1:=Ai HP.o F.kept 1 _ rfl;exact sv rfl),(E3 3 λ_ k=>c3 HA.o k),(gq 5),(λaF wF F=>by have s13:=F.v 2 13;exact sw (by (go_simp;exact fJ (by omega) (by omega))) rfl),(λaF wF F=>by have s12:=F.v 1 12;have s14:=F.v 3 14;exact sE (C2.o _ _ (K.o.trans F.kept) (HS.o.kept (K.o.trans F.kept))) λ_ _ h=>h),(λaF wF F=>by have s15:=F.p 4 15;obtain ⟨dd,ee,hh⟩:=s15;exact sv hh),(λaF wF F=>by have s15:=F.p 4 15;exact sw (by obtain ⟨dd,ee,hh⟩:=s15;go_simp) rfl),(λaF wF F=>by have s16:=F.p 5 16;have s17:=F.v 6 17;exact sD (G5 (k:=o1.k) s16) λ_ _ h=>h),(λaF wF F=>by have s11:=F.v 0 11;have s18:=F.p 7 18;exact sD (C3.o _ _ (K.o.trans F.kept) s18) λ_ _ h=>h),(λaF wF F=>by exact sN ⟨_,rfl,F.kept.size,El _⟩),
   trivial⟩ ?_
 intro u w1 k1 hu;have p15:=hp hu 4;have p16:=hp hu 5;have p18:=hp hu 7;have p19:=hp hu 8;have p6:=hp hu 9;simp only [Bb,Ap,Act.put,Ep,hv hu 0,hv hu 1,hv hu 2,hv hu 3,hv hu 6];clear hu;generalize u 4=v15,u 5=v16,u 7=v18,u 8=v19,u 9=v6 at *;obtain ⟨b6,rfl,hb6,hx⟩:=p6;obtain ⟨A6,j6,c6,rfl,z1⟩:=Bx p19;clear p15 p16 p18 p19 C2 C3;have l6:w.heap.size+1+1<b6:=Dn HB.o.facts.1 hb6;obtain ⟨-,y0,y1,y2,f0,f1,f2⟩:=hx.facts;go_simp;go_upto_region 3 with fail;change Code.wp _ _ _ _ (dyW _ b6 _ _ _);have UD:Hid (∀ v r,DyR w1 v r->DyR (dyW w1 b6 (.bool x0.neg) (.slice A6 j6 c6) (.int .i64 x0.e)) v r):=λ_ _ h=>h.dyW hx (Ah _) (Ag _ _ _) (Aj _) _ _ _
 have UB:Hid (∀ b' x y z,Blk w1 b' x y z->¬b'=b6->Blk (dyW w1 b6 (.bool x0.neg) (.slice A6 j6 c6) (.int .i64 x0.e)) b' x y z):=λ_ _ _ _ h hne=>h.laid_other hne _ _ _
 have HX':=Ad (hx.laid (.bool x0.neg) (.slice A6 j6 c6) (.int .i64 x0.e));replace K:=Ad (Au (x:=.bool x0.neg) (y:=.slice A6 j6 c6) (z:=.int .i64 x0.e) (K.o.trans k1) (show w.heap.size<=b6 by omega));replace HP:=Ad ((HP.o.kept k1).dyW (show ¬w.heap.size=b6 by omega) (.bool x0.neg) (.slice A6 j6 c6) (.int .i64 x0.e));replace HA:=Ad (UB.o _ _ _ _ (HA.o.kept k1) (by omega));replace HB:=Ad (UB.o _ _ _ _ (HB.o.kept k1) (by omega));have H6:=Ad HX'.o;have Z6:=Ad (UD.o _ _ z1);clear UD UB HX' hx y0 y1 y2 f0 f1 f2 z1 k1;generalize dyW w1 b6 (.bool x0.neg) (.slice A6 j6 c6) (.int .i64 x0.e)=X at *
 go_wp2_with fail
 go_loopw [21] (λi wr=>∃ (j:Nat) (x:Dy) (A0:Option Addr) (j0 c0:Nat),i=.int .i64 (j:Int)/\j<=k/\Nx p up (k-j) x=out/\x.Ok/\Kept w wr/\SBlk wr w.heap.size p up/\Blk wr (w.heap.size+1) (.bool n1) (.slice A l c) (.int .i64 e1) /\
  Blk wr (w.heap.size+1+1) (.bool false) (.slice none 0 0) (.int .i64 0)/\Blk wr b6 (.bool x.neg) (.slice A0 j0 c0) (.int .i64 x.e)/\DyR wr (.agg #[.bool x.neg,.slice A0 j0 c0,.int .i64 x.e]) x.raw) (λi _=>(k-intOf i).toNat)
 case atStart=>exact ⟨0,x0,A6,j6,c6,rfl,Nat.zero_le _,HOUT.o.symm,OKN.o,K.o,HP.o,HA.o,HB.o,H6.o,Z6.o⟩
 case round =>
  clear K HP HA HB H6 Z6 HOUT OKN HS;obtain ⟨j,x,A0,j0,c0,rfl,hj,hG,ox,hK,hP,hA,hB,h6,hz6⟩:=hrel;have K:=Ad hK;have HP:=Ad hP;have HA:=Ad hA;have HB:=Ad hB;have H6:=Ad h6;have Z6:=Ad hz6;clear hK hP hA hB h6 hz6;by_cases hlt:j<k
  ·obtain ⟨i,hi⟩:∃ i,k-j=i+1:=⟨k-j-1,by omega⟩;rw [hi,Nx] at hG;obtain ⟨x',hx'⟩:∃ x',x'=Vm p up x:=⟨_,rfl⟩;rw [←hx'] at hG;obtain ⟨o2,ho2⟩:∃ o,o=(Ch x x).raw:=⟨_,rfl⟩;have C4:=Ad (fun w1 v u (k:Kept w w1) (hv:DyR w1 v x.raw) (hu:DyR w1 u x.raw)=>show Calls _ _ _ w1 (RetE o2 w1) by rw [ho2];exact Sq hv hu ox ox (T.out.kept k));have C5:=Ad (fun w1 v (k:Kept w w1) (hv:DyR w1 v o2.v)=>show Calls Tryz.prog 185 #[.agg #[.int .i64 (p:Int),.bool up],v] w1 (RetD x'.raw w1) by rw [hx'];rw [ho2] at hv;exact O6 hv (Kf x x).1 p1 p2 (T.out.kept k));have O1:Hid x'.Ok:=by rw [hx'];exact Pp _ _ _
   have HG:=Ad hG;have HI:=Ad hi;clear ho2 hx' ox hG hi;go_wp2_with fail
   refine Ih 8 ([(vE (.agg #[.int .i64 (p:Int),.bool up])),(vE (.agg #[.bool x.neg,.slice A0 j0 c0,.int .i64 x.e])),(vE (.agg #[.bool x.neg,.slice A0 j0 c0,.int .i64 x.e])),(λv wv=>∃ d,v=.tuple #[d,.int .i64 o2.k]/\DyR wv d o2.v),(λv wv=>DyR wv v o2.v),(vE (.int .i64 o2.k)),(λv wv=>DyR wv v o2.v),(λv wv=>DyR wv v x'.raw)])
    ⟨
     (λaF wF F=>by have s2:=F.q 2 (.pointer (some ⟨w.heap.size,0,none⟩));have c0:=Ai HP.o F.kept 0 _ rfl;have c1:=Ai HP.o F.kept 1 _ rfl;exact sv rfl),(E3 6 λ_ k=>c3 H6.o k),(E3 6 λ_ k=>c3 H6.o k),(λaF wF F=>by have s24:=F.v 1 24;have s25:=F.v 2 25;exact sE (C4.o _ _ _ (K.o.trans F.kept) (Z6.o.kept F.kept) (Z6.o.kept F.kept)) λ_ _ h=>h),(λaF wF F=>by have s26:=F.p 3 26;obtain ⟨dd,ee,hh⟩:=s26;exact sv hh),(λaF wF F=>by have s26:=F.p 3 26;exact sw (by obtain ⟨dd,ee,hh⟩:=s26;go_simp) rfl),(λaF wF F=>by have s27:=F.p 4 27;have s28:=F.v 5 28;exact sD (G5 (k:=o2.k) s27) λ_ _ h=>h),(λaF wF F=>by have s23:=F.v 0 23;have s29:=F.p 6 29;exact sD (C5.o _ _ (K.o.trans F.kept) s29) λ_ _ h=>h),
     trivial⟩ ?_
   intro u w1 k1 hu;have p26:=hp hu 3;have p27:=hp hu 4;have p29:=hp hu 6;have p30:=hp hu 7;simp only [Bb,Ap,Act.put,Ep,hv hu 0,hv hu 1,hv hu 2,hv hu 5];clear hu;generalize u 3=v26,u 4=v27,u 6=v29,u 7=v30 at *;obtain ⟨A7,j7,c7,rfl,z1⟩:=Bx p30;clear p26 p27 p29 p30 C4 C5;have hx:=H6.o.kept k1;obtain ⟨-,y0,y1,y2,f0,f1,f2⟩:=hx.facts;go_upto_region 6 with fail;change Code.wp _ _ _ _ (dyW _ b6 _ _ _);have UD:Hid (∀ v r,DyR w1 v r->DyR (dyW w1 b6 (.bool x'.neg) (.slice A7 j7 c7) (.int .i64 x'.e)) v r):=λ_ _ h=>h.dyW hx (Ah _) (Ag _ _ _) (Aj _) _ _ _
   have UB:Hid (∀ b' x y z,Blk w1 b' x y z->¬b'=b6->Blk (dyW w1 b6 (.bool x'.neg) (.slice A7 j7 c7) (.int .i64 x'.e)) b' x y z):=λ_ _ _ _ h hne=>h.laid_other hne _ _ _
   have HX':=Ad (hx.laid (.bool x'.neg) (.slice A7 j7 c7) (.int .i64 x'.e));replace K:=Ad (Au (x:=.bool x'.neg) (y:=.slice A7 j7 c7) (z:=.int .i64 x'.e) (K.o.trans k1) (show w.heap.size<=b6 by omega));replace HP:=Ad ((HP.o.kept k1).dyW (show ¬w.heap.size=b6 by omega) (.bool x'.neg) (.slice A7 j7 c7) (.int .i64 x'.e));replace HA:=Ad (UB.o _ _ _ _ (HA.o.kept k1) (by omega));replace HB:=Ad (UB.o _ _ _ _ (HB.o.kept k1) (by omega));replace H6:=Ad HX'.o;replace Z6:=Ad (UD.o _ _ z1);clear UD UB HX' hx y0 y1 y2 f0 f1 f2 z1 k1;generalize dyW w1 b6 (.bool x'.neg) (.slice A7 j7 c7) (.int .i64 x'.e)=X at *
   go_wp2_with fail;go_roundw
   case rel=>exact ⟨j+1,x',A7,j7,c7,by go_num,by omega,by rw [show k-(j+1)=i by have:=HI.o;omega];exact HG.o,O1.o,K.o,HP.o,HA.o,HB.o,H6.o,Z6.o⟩
   case measure=>simp [intOf];omega
  ·obtain rfl:j=k:=by omega
   rw [Nat.sub_self,Nx] at hG;have HG:=Ad hG;clear hG;obtain ⟨-,y0,y1,y2,-⟩:=H6.o.facts;obtain ⟨-,x0,x1,x2,f0,f1,f2⟩:=HB.o.facts;go_wp2_with fail;exact Ct (HB.o.laid _ _ _) rfl rfl rfl ⟨Au K.o (by omega),_,rfl,by rw [<-HG.o];exact Z6.o.dyW HB.o (Ah _) (Ag _ _ _) (Aj _) _ _ _⟩
def iw (lo hi:Raw) (w:World) (e:Ending) (w':World):Prop:=Kept w w'/\∃ v u,e=.returned (.tuple #[v,u])/\DyR w' v lo/\DyR w' u hi
theorem fy {fn:Func}{R:Ending->World->Prop}{a:Act}{t t':Nat}{x y z x' y' z':Value}(h:Blk w b x y z)(h':Blk w b' x' y' z')
 (hres:fn.results=#[.cell t 28,.cell t' 28]) (ht:a.tmps.getD t undef=.pointer (some ⟨b,0,none⟩)) (ht':a.tmps.getD t' undef=.pointer (some ⟨b',0,none⟩)) (hd:a.defers=[])
 (hR:R (.returned (.tuple #[.agg #[x,y,z],.agg #[x',y',z']])) w):bodyPost Tryz.prog fn R .ret a w:=by
 obtain ⟨_,c0,c1,c2,_⟩:=h.facts;obtain ⟨_,d0,d1,d2,_⟩:=h'.facts;refine bodyPost_ret (v:=.tuple #[.agg #[x,y,z],.agg #[x',y',z']]) ?_ hd hR;have ht2:a.tmps[t]?.getD undef=.pointer (some ⟨b,0,none⟩):=by simpa using ht
 have ht3:a.tmps[t']?.getD undef=.pointer (some ⟨b',0,none⟩):=by simpa using ht'
 simp [results,hres,ht2,ht3,go_sem,c0,c1,c2,d0,d1,d2]
def Ds (d:Dy):Dy:=⟨false,d.m,d.e⟩
theorem lJ (h:d.Ok):(Ds d).Ok:=⟨h.len,λh0=>⟨rfl,(h.zero h0).2⟩,h.odd,h.lo,h.hi⟩
def Jw (p:Nat) (up:Bool) (d:Dy) (o:Dy × Dy):Dy:=Nx p up (Dg (Ds d)) (J5 p up o)
def Np (p:Nat) (d lo hi:Dy):Dy × Dy:=if d.neg then ((Cz one hi p false).v,(Cz one lo p true).v) else (lo,hi)
theorem Tu (p:Nat)(up:Bool):∀ k x,x.Ok->(Nx p up k x).Ok
 | 0,_,h=>h
 | k+1,_,_=>Tu p up k _ (Pp _ _ _)
theorem ae {x y z:Value}(h:Blk Y b x y z):Blk Y.drew b x y z:=h
theorem fQ (k:Kept w Y):Kept w Y.drew:=⟨k.os,k.tape,k.output,k.size,k.block⟩
theorem eJ {r:Raw}(h:DyR Y v r):DyR Y.drew v r:=by
 obtain ⟨s,rfl,⟨hs,A,c,rfl,hc,hA⟩,h1,h2⟩:=h;exact ⟨_,rfl,⟨hs,A,c,rfl,hc,hA⟩,h1,h2⟩
theorem fG {X:World}{l' c':Nat}(hY:Y=dyW (dyW X b (.bool x.neg) (.slice A l c) (.int .i64 x.e)) b' (.bool y.neg) (.slice A' l' c') (.int .i64 y.e))(K:Kept w X)(h:Blk X b (.bool x.neg) (.slice A l c) (.int .i64 x.e))(h':Blk X b' (.bool y.neg) (.slice A' l' c') (.int .i64 y.e))
 (z:DyR X (.agg #[.bool x.neg,.slice A l c,.int .i64 x.e]) x.raw) (z':DyR X (.agg #[.bool y.neg,.slice A' l' c',.int .i64 y.e]) y.raw) (hne:¬b=b') (hb:w.heap.size<=b) (hb':w.heap.size<=b') :
 Blk Y.drew b (.bool x.neg) (.slice A l c) (.int .i64 x.e)/\Blk Y.drew b' (.bool y.neg) (.slice A' l' c') (.int .i64 y.e) /\
 iw x.raw y.raw w (.returned (.tuple #[.agg #[.bool x.neg,.slice A l c,.int .i64 x.e],.agg #[.bool y.neg,.slice A' l' c',.int .i64 y.e]])) Y.drew:=by
 have h2:=h'.laid_other (b':=b) (λe=>hne e.symm) (.bool x.neg) (.slice A l c) (.int .i64 x.e);have k:Kept w Y:=by rw [hY];exact Au (Au K hb) hb'
 have b1:Blk Y b (.bool x.neg) (.slice A l c) (.int .i64 x.e):=by rw [hY];exact (h.laid _ _ _).laid_other hne _ _ _
 have b2:Blk Y b' (.bool y.neg) (.slice A' l' c') (.int .i64 y.e):=by rw [hY];exact h2.laid _ _ _
 have d1:DyR Y (.agg #[.bool x.neg,.slice A l c,.int .i64 x.e]) x.raw:=by rw [hY];exact (z.dyW h (Ah _) (Ag _ _ _) (Aj _) _ _ _).dyW h2 (Ah _) (Ag _ _ _) (Aj _) _ _ _
 have d2:DyR Y (.agg #[.bool y.neg,.slice A' l' c',.int .i64 y.e]) y.raw:=by rw [hY];exact (z'.dyW h (Ah _) (Ag _ _ _) (Aj _) _ _ _).dyW h2 (Ah _) (Ag _ _ _) (Aj _) _ _ _
 clear hY;exact ⟨ae b1,ae b2,fQ k,_,_,rfl,eJ d1,eJ d2⟩
theorem il (hv:DyR w v d.raw)(ok:d.Ok)(p1:1<=p)(p2:p<=2000)(hT:Tab w)
 (hL:G6 p false (H9 (Ds d)) f 1 one one=some oL) (hH:G6 p true (H9 (Ds d)) f 1 one one=some oH) (hf:f<=1000000) :
 Calls Tryz.prog 184 #[v,.int .i64 (p:Int)] w (iw (Np p d (Jw p false d oL) (Jw p true d oH)).1.raw (Np p d (Jw p false d oL) (Jw p true d oH)).2.raw w):=by
 have T:=Ad hT;obtain ⟨A,l,c,rfl,hs⟩:=Bx hv;have oka:=lJ ok;have hsl:DyR w (.agg #[.bool false,.slice A l c,.int .i64 d.e]) (Ds d).raw:=by
  obtain ⟨s,he,hs,h1,h2⟩:=hs;simp only [Value.agg.injEq,List.cons.injEq,Array.mk.injEq,and_true] at he;obtain ⟨-,rfl,-⟩:=he;exact ⟨_,rfl,hs,h1,h2⟩
 have C1:=Ad (λw1 v (k:Kept w w1) (h:DyR w1 v (Ds d).raw)=>show Calls Tryz.prog 202 #[.agg #[.int .i64 (p:Int),.bool false],v] w1 (RetD (Jw p false d oL).raw w1) from bZ h oka p1 p2 (T.o.kept k) hL hf);have C2:=Ad (λw1 v (k:Kept w w1) (h:DyR w1 v (Ds d).raw)=>show Calls Tryz.prog 202 #[.agg #[.int .i64 (p:Int),.bool true],v] w1 (RetD (Jw p true d oH).raw w1) from bZ h oka p1 p2 (T.o.kept k) hH hf);obtain ⟨lo,hlo⟩:∃ lo,lo=Jw p false d oL:=⟨_,rfl⟩;obtain ⟨hi,hhi⟩:∃ hi,hi=Jw p true d oH:=⟨_,rfl⟩;have okl:lo.Ok:=by rw [hlo];exact Tu _ _ _ _ (Rc (Oh _ _ _ _ hL J4 J4))
 have okh:hi.Ok:=by rw [hhi];exact Tu _ _ _ _ (Rc (Oh _ _ _ _ hH J4 J4))
 rw [<-hlo] at C1 ⊢;rw [<-hhi] at C2 ⊢;have CO:=Ad (λw1 (k:Kept w w1)=>show Calls Tryz.prog 20 #[.int .i64 1,.int .i64 0] w1 (RetE ⟨one.raw,0⟩ w1) by
  have h:=Rv (w:=w1) (k:=1) (e:=0) (by decide) (by decide) (by decide) (T.o.kept k);rw [jf] at h;exact h)
 obtain ⟨o3,ho3⟩:∃ o,o=(Cz one hi p false).raw:=⟨_,rfl⟩;obtain ⟨o4,ho4⟩:∃ o,o=(Cz one lo p true).raw:=⟨_,rfl⟩;have C3:=Ad (λw1 v u (k:Kept w w1) (hv:DyR w1 v one.raw) (hu:DyR w1 u hi.raw)=>show Calls Tryz.prog 129 #[v,u,.int .i64 (p:Int),.bool false] w1 (RetE o3 w1) by rw [ho3];exact Qo hv hu J4 okh (T.o.kept k) p1 p2);have C4:=Ad (λw1 v u (k:Kept w w1) (hv:DyR w1 v one.raw) (hu:DyR w1 u lo.raw)=>show Calls Tryz.prog 129 #[v,u,.int .i64 (p:Int),.bool true] w1 (RetE o4 w1) by rw [ho4];exact Qo hv hu J4 okl (T.o.kept k) p1 p2);obtain ⟨lo2,hlo2⟩:∃ x,x=(Cz one hi p false).v:=⟨_,rfl⟩
 obtain ⟨hi2,hhi2⟩:∃ x,x=(Cz one lo p true).v:=⟨_,rfl⟩;have V3:Hid (o3.v=lo2.raw):=by rw [ho3,hlo2];rfl
 have V4:Hid (o4.v=hi2.raw):=by rw [ho4,hhi2];rfl
 have HR1:Hid (d.neg=true->Np p d lo hi=(lo2,hi2)):=λh=>by unfold Np;rw [Ak h,hlo2,hhi2]
 have HR2:Hid (d.neg=false->Np p d lo hi=(lo,hi)):=λh=>by unfold Np;rw [Af (by rw [h];decide)]
 have HSL:=Ad hsl;clear hsl hs hv hT ok oka hL hH hlo hhi okl okh ho3 ho4 hlo2 hhi2;obtain ⟨res,hres⟩:∃ res,Np p d lo hi=res:=⟨_,rfl⟩;rw [hres] at HR1 HR2 ⊢;clear hres;generalize (Ds d).raw=ra at *;generalize d.neg=n1,d.e=e1 at *;obtain ⟨W,hW,kW,B0,B1,B2⟩:=Lw w (.bool n1) (.slice A l c) (.int .i64 e1) (.bool false) (.slice none 0 0) (.int .i64 0);have HW:=Ad hW;have K:=Ad kW;have HA:=Ad B0;have H4:=Ad B1;have H5:=Ad B2;clear hW kW B1 B2;obtain ⟨-,a0,a1,a2,-⟩:=B0.facts;go_enter Tryz.func184,Tryz.ntmps184;go_upto_region 1 with fail;rw [<-HW.o];clear HW;obtain ⟨V,hV,kV,hb,lV⟩:=Nu W (.bool n1) (.slice A l c) (.int .i64 e1)
 have HV:=Ad hV;have l6:=H5.o.facts.1;replace K:=Ad (K.o.trans kV);replace HA:=Ad (HA.o.kept kV);replace H4:=Ad (H4.o.kept kV);replace H5:=Ad (H5.o.kept kV);have H6:=Ad hb;clear hV kV hb B0;go_upto_region 2 with fail;rw [<-HV.o];clear HV a0 a1 a2;generalize W.heap.size=b6 at *;obtain ⟨-,y0,y1,y2,f0,f1,f2⟩:=H6.o.facts;go_upto_region 3 with fail;obtain ⟨X,hX⟩:∃ X,X=V.setCell ⟨b6,0,none⟩ (.bool false):=⟨_,rfl⟩;rw [<-hX];replace H6:Hid (Blk X b6 (.bool false) (.slice A l c) (.int .i64 e1)):=by rw [hX];exact Bw H6.o _
 replace HA:Hid (Blk X w.heap.size (.bool n1) (.slice A l c) (.int .i64 e1)):=by rw [hX];exact Bh HA.o (by omega) _
 replace H4:Hid (Blk X (w.heap.size+1) (.bool false) (.slice none 0 0) (.int .i64 0)):=by rw [hX];exact Bh H4.o (by omega) _
 replace H5:Hid (Blk X (w.heap.size+1+1) (.bool false) (.slice none 0 0) (.int .i64 0)):=by rw [hX];exact Bh H5.o (by omega) _
 replace K:Hid (Kept w X):=by rw [hX];exact K.o.setCell (p:=⟨b6,0,none⟩) (by show w.heap.size<=b6;omega) _
 clear hX y0 y1 y2 f0 f1 f2 lV
 refine Qp 8 ([(vE (.int .i64 (p:Int))),(vE (.agg #[.int .i64 (p:Int),.bool false])),(vE (.agg #[.bool false,.slice A l c,.int .i64 e1])),(λv wv=>DyR wv v lo.raw),(vE (.int .i64 (p:Int))),(vE (.agg #[.int .i64 (p:Int),.bool true])),(vE (.agg #[.bool false,.slice A l c,.int .i64 e1])),(λv wv=>DyR wv v hi.raw)])
  ⟨
   (gq 1),(λaF wF F=>by have s10:=F.v 0 10;simp only [Cv] at s10;exact sv rfl),(E3 6 λ_ k=>c3 H6.o k),(λaF wF F=>by have s11:=F.v 1 11;have s12:=F.v 2 12;exact sD (C1.o _ _ (K.o.trans F.kept) (HSL.o.kept (K.o.trans F.kept))) λ_ _ h=>h),(gq 1),(λaF wF F=>by have s14:=F.v 4 14;simp only [Cv] at s14;exact sv rfl),(E3 6 λ_ k=>c3 H6.o k),(λaF wF F=>by have s15:=F.v 5 15;have s16:=F.v 6 16;exact sD (C2.o _ _ (K.o.trans F.kept) (HSL.o.kept (K.o.trans F.kept))) λ_ _ h=>h),
   trivial⟩ ?_
 intro u w1 k1 hu;have p13:=hp hu 3;have p17:=hp hu 7;simp only [Bb,Ap,Act.put,Ep,hv hu 0,hv hu 1,hv hu 2,hv hu 4,hv hu 5,hv hu 6];clear hu;generalize u 3=v13,u 7=v17 at *;refine ⟨?_,.inl (by kernel_rfl)⟩;obtain ⟨A1,j1,c1,rfl,z1⟩:=Bx p13;obtain ⟨A2,j2,c2,rfl,z2⟩:=Bx p17;clear p13 p17 C1 C2 H6;have hx4:=H4.o.kept k1;have hx5:=H5.o.kept k1;obtain ⟨-,y0,y1,y2,f0,f1,f2⟩:=hx4.facts;obtain ⟨-,v0,v1,v2,g0,g1,g2⟩:=hx5.facts;go_simp;go_upto_region 4 with fail;change Code.wp _ _ _ _ (dyW (dyW w1 (w.heap.size+1) (.bool lo.neg) (.slice A1 j1 c1) (.int .i64 lo.e)) (w.heap.size+1+1) (.bool hi.neg) (.slice A2 j2 c2) (.int .i64 hi.e))
 obtain ⟨X,hX⟩:∃ X,X=dyW (dyW w1 (w.heap.size+1) (.bool lo.neg) (.slice A1 j1 c1) (.int .i64 lo.e)) (w.heap.size+1+1) (.bool hi.neg) (.slice A2 j2 c2) (.int .i64 hi.e):=⟨_,rfl⟩;rw [<-hX];replace HA:Hid (Blk X w.heap.size (.bool n1) (.slice A l c) (.int .i64 e1)):=by rw [hX];exact ((HA.o.kept k1).laid_other (by omega) _ _ _).laid_other (by omega) _ _ _
 have hx5':=hx5.laid_other (b':=w.heap.size+1) (by omega) (.bool lo.neg) (.slice A1 j1 c1) (.int .i64 lo.e);replace H4:Hid (Blk X (w.heap.size+1) (.bool lo.neg) (.slice A1 j1 c1) (.int .i64 lo.e)):=by rw [hX];exact (hx4.laid _ _ _).laid_other (by omega) _ _ _
 replace H5:Hid (Blk X (w.heap.size+1+1) (.bool hi.neg) (.slice A2 j2 c2) (.int .i64 hi.e)):=by rw [hX];exact hx5'.laid _ _ _
 have Z4:Hid (DyR X (.agg #[.bool lo.neg,.slice A1 j1 c1,.int .i64 lo.e]) lo.raw):=by rw [hX];exact (z1.dyW hx4 (Ah _) (Ag _ _ _) (Aj _) _ _ _).dyW hx5' (Ah _) (Ag _ _ _) (Aj _) _ _ _
 have Z5:Hid (DyR X (.agg #[.bool hi.neg,.slice A2 j2 c2,.int .i64 hi.e]) hi.raw):=by rw [hX];exact (z2.dyW hx4 (Ah _) (Ag _ _ _) (Aj _) _ _ _).dyW hx5' (Ah _) (Ag _ _ _) (Aj _) _ _ _
 replace K:Hid (Kept w X):=by rw [hX];exact Au (Au (K.o.trans k1) (by omega)) (by omega)
 clear hX hx4 hx5 hx5' z1 z2 y0 y1 y2 f0 f1 f2 v0 v1 v2 g0 g1 g2 k1;obtain ⟨-,a0,a1,a2,-⟩:=HA.o.facts;cases n1 with
 | false =>
   obtain rfl:=HR2.o rfl;clear HR1 HR2;obtain ⟨-,y0,y1,y2,f0,f1,f2⟩:=H4.o.facts;obtain ⟨-,v0,v1,v2,g0,g1,g2⟩:=H5.o.facts;go_wp2_with fail;go_region
   all_goals
    go_wp2_with fail;change bodyPost _ _ _ _ _ (dyW (dyW X (w.heap.size+1) (.bool lo.neg) (.slice A1 j1 c1) (.int .i64 lo.e)) (w.heap.size+1+1) (.bool hi.neg) (.slice A2 j2 c2) (.int .i64 hi.e)).drew;obtain ⟨Y,hY⟩:∃ Y,Y=dyW (dyW X (w.heap.size+1) (.bool lo.neg) (.slice A1 j1 c1) (.int .i64 lo.e)) (w.heap.size+1+1) (.bool hi.neg) (.slice A2 j2 c2) (.int .i64 hi.e):=⟨_,rfl⟩;rw [<-hY];have he:=fG hY K.o H4.o H5.o Z4.o Z5.o (by omega) (by omega) (by omega);exact fy he.1 he.2.1 rfl rfl rfl rfl he.2.2
 | true =>
   obtain rfl:=HR1.o rfl;clear HR1 HR2;go_wp2_with fail;refine (CO.o _ K.o).mono ?_;rintro ee w5 ⟨q,u,rfl,hd⟩;simp only [];replace K:=Ad (K.o.trans q);replace HA:=Ad (HA.o.kept q);replace H4:=Ad (H4.o.kept q);replace H5:=Ad (H5.o.kept q);replace Z4:=Ad (Z4.o.kept q);replace Z5:=Ad (Z5.o.kept q);have HD:=Ad hd;clear q hd CO a0 a1 a2;go_wp2_with fail;refine (G5 HD.o).mono ?_;rintro ee w6 ⟨q,v6,rfl,hd2⟩;obtain ⟨A7,j7,c7,rfl,hd3⟩:=Bx hd2;simp only [];obtain ⟨V2,hV,kV,hb,lV⟩:=Nu w6 (.bool one.neg) (.slice A7 j7 c7) (.int .i64 one.e);have HV:=Ad hV;have kk:=q.trans kV
   have l7:w.heap.size+1+1<w6.heap.size:=Dn H5.o.facts.1 q.size;replace K:=Ad (K.o.trans kk);replace HA:=Ad (HA.o.kept kk);replace H4:=Ad (H4.o.kept kk);replace H5:=Ad (H5.o.kept kk);replace Z4:=Ad (Z4.o.kept kk);replace Z5:=Ad (Z5.o.kept kk);have H7:=Ad hb;have Z7:=Ad (hd3.kept kV);clear hV kV hb kk q hd2 hd3 HD;go_upto_region 6 with fail;rw [<-HV.o];clear HV;generalize w6.heap.size=b7 at *
   refine Qp 14 ([(vE (.agg #[.bool one.neg,.slice A7 j7 c7,.int .i64 one.e])),(vE (.agg #[.bool hi.neg,.slice A2 j2 c2,.int .i64 hi.e])),(vE (.int .i64 (p:Int))),(λv wv=>∃ d,v=.tuple #[d,.int .i64 o3.k]/\DyR wv d o3.v),(λv wv=>DyR wv v o3.v),(vE (.int .i64 o3.k)),(λv wv=>DyR wv v o3.v),(vE (.agg #[.bool one.neg,.slice A7 j7 c7,.int .i64 one.e])),(vE (.agg #[.bool lo.neg,.slice A1 j1 c1,.int .i64 lo.e])),(vE (.int .i64 (p:Int))),(λv wv=>∃ d,v=.tuple #[d,.int .i64 o4.k]/\DyR wv d o4.v),(λv wv=>DyR wv v o4.v),(vE (.int .i64 o4.k)),(λv wv=>DyR wv v o4.v)])
    ⟨
     (E3 7 λ_ k=>c3 H7.o k),(E3 5 λ_ k=>c3 H5.o k),(gq 1),(λaF wF F=>by have s24:=F.v 0 24;have s25:=F.v 1 25;have s26:=F.v 2 26;exact sE (C3.o _ _ _ (K.o.trans F.kept) (Z7.o.kept F.kept) (Z5.o.kept F.kept)) λ_ _ h=>h),(λaF wF F=>by have s27:=F.p 3 27;obtain ⟨dd,ee,hh⟩:=s27;exact sv hh),(λaF wF F=>by have s27:=F.p 3 27;exact sw (by obtain ⟨dd,ee,hh⟩:=s27;go_simp) rfl),(λaF wF F=>by have s28:=F.p 4 28;have s29:=F.v 5 29;exact sD (G5 (k:=o3.k) s28) λ_ _ h=>h),(E3 7 λ_ k=>c3 H7.o k),(E3 4 λ_ k=>c3 H4.o k),(gq 1),(λaF wF F=>by have s31:=F.v 7 31;have s32:=F.v 8 32;have s33:=F.v 9 33;exact sE (C4.o _ _ _ (K.o.trans F.kept) (Z7.o.kept F.kept) (Z4.o.kept F.kept)) λ_ _ h=>h),(λaF wF F=>by have s34:=F.p 10 34;obtain ⟨dd,ee,hh⟩:=s34;exact sv hh),(λaF wF F=>by have s34:=F.p 10 34;exact sw (by obtain ⟨dd,ee,hh⟩:=s34;go_simp) rfl),(λaF wF F=>by have s35:=F.p 11 35;have s36:=F.v 12 36;exact sD (G5 (k:=o4.k) s35) λ_ _ h=>h),
     trivial⟩ ?_
   intro u w1 k1 hu;have p27:=hp hu 3;have p28:=hp hu 4;have p30:=hp hu 6;have p34:=hp hu 10;have p35:=hp hu 11;have p37:=hp hu 13;simp only [Bb,Ap,Act.put,Ep,hv hu 0,hv hu 1,hv hu 2,hv hu 5,hv hu 7,hv hu 8,hv hu 9,hv hu 12];clear hu;generalize u 3=v27,u 4=v28,u 6=v30,u 10=v34,u 11=v35,u 13=v37 at *;refine ⟨?_,.inl (by kernel_rfl)⟩;rw [V3.o] at p30;rw [V4.o] at p37;obtain ⟨A8,j8,c8,rfl,z1⟩:=Bx p30;obtain ⟨A9,j9,c9,rfl,z2⟩:=Bx p37;clear p27 p28 p30 p34 p35 p37 C3 C4 Z4 Z5 H7 Z7 V3 V4;have hx4:=H4.o.kept k1;have hx5:=H5.o.kept k1;obtain ⟨-,y0,y1,y2,f0,f1,f2⟩:=hx4.facts
   obtain ⟨-,v0,v1,v2,g0,g1,g2⟩:=hx5.facts;go_simp;go_upto_region 7 with fail;change Code.wp _ _ _ _ (dyW (dyW w1 (w.heap.size+1) (.bool lo2.neg) (.slice A8 j8 c8) (.int .i64 lo2.e)) (w.heap.size+1+1) (.bool hi2.neg) (.slice A9 j9 c9) (.int .i64 hi2.e));clear X;obtain ⟨X,hX⟩:∃ X,X=dyW (dyW w1 (w.heap.size+1) (.bool lo2.neg) (.slice A8 j8 c8) (.int .i64 lo2.e)) (w.heap.size+1+1) (.bool hi2.neg) (.slice A9 j9 c9) (.int .i64 hi2.e):=⟨_,rfl⟩;rw [<-hX];replace HA:Hid (Blk X w.heap.size (.bool true) (.slice A l c) (.int .i64 e1)):=by rw [hX];exact ((HA.o.kept k1).laid_other (by omega) _ _ _).laid_other (by omega) _ _ _
   have hx5':=hx5.laid_other (b':=w.heap.size+1) (by omega) (.bool lo2.neg) (.slice A8 j8 c8) (.int .i64 lo2.e);replace H4:Hid (Blk X (w.heap.size+1) (.bool lo2.neg) (.slice A8 j8 c8) (.int .i64 lo2.e)):=by rw [hX];exact (hx4.laid _ _ _).laid_other (by omega) _ _ _
   replace H5:Hid (Blk X (w.heap.size+1+1) (.bool hi2.neg) (.slice A9 j9 c9) (.int .i64 hi2.e)):=by rw [hX];exact hx5'.laid _ _ _
   have Z4:Hid (DyR X (.agg #[.bool lo2.neg,.slice A8 j8 c8,.int .i64 lo2.e]) lo2.raw):=by rw [hX];exact (z1.dyW hx4 (Ah _) (Ag _ _ _) (Aj _) _ _ _).dyW hx5' (Ah _) (Ag _ _ _) (Aj _) _ _ _
   have Z5:Hid (DyR X (.agg #[.bool hi2.neg,.slice A9 j9 c9,.int .i64 hi2.e]) hi2.raw):=by rw [hX];exact (z2.dyW hx4 (Ah _) (Ag _ _ _) (Aj _) _ _ _).dyW hx5' (Ah _) (Ag _ _ _) (Aj _) _ _ _
   replace K:Hid (Kept w X):=by rw [hX];exact Au (Au (K.o.trans k1) (by omega)) (by omega)
   clear hX hx4 hx5 hx5' z1 z2 y0 y1 y2 f0 f1 f2 v0 v1 v2 g0 g1 g2 k1;obtain ⟨-,y0,y1,y2,f0,f1,f2⟩:=H4.o.facts;obtain ⟨-,v0,v1,v2,g0,g1,g2⟩:=H5.o.facts;go_region
   all_goals
    go_wp2_with fail;change bodyPost _ _ _ _ _ (dyW (dyW X (w.heap.size+1) (.bool lo2.neg) (.slice A8 j8 c8) (.int .i64 lo2.e)) (w.heap.size+1+1) (.bool hi2.neg) (.slice A9 j9 c9) (.int .i64 hi2.e)).drew;obtain ⟨Y,hY⟩:∃ Y,Y=dyW (dyW X (w.heap.size+1) (.bool lo2.neg) (.slice A8 j8 c8) (.int .i64 lo2.e)) (w.heap.size+1+1) (.bool hi2.neg) (.slice A9 j9 c9) (.int .i64 hi2.e):=⟨_,rfl⟩;rw [<-hY];have he:=fG hY K.o H4.o H5.o Z4.o Z5.o (by omega) (by omega) (by omega);exact fy he.1 he.2.1 rfl rfl rfl rfl he.2.2
def far:Dy:=⟨false,1,6⟩
theorem Yk:far.Ok:=kf _ _ (by decide) (by decide)
theorem m6:Ck false 64 0=⟨far,0⟩:=by
 have ht:tz 64=6:=I9 64 6 1 rfl rfl;unfold Ck;rw [ht];rw [Af (by decide),Af (by simp [jw]),Af (by decide),Af (by decide)];rfl
def Gi (r:Raw) (p:Int):Int :=
 if (Io r&&!decide (p<1)&&!decide (300<p))=true then
  (if (decide (Dh r.dy.q far.q<=0)&&decide (0<=Dh r.dy.q (Ff far).q))=true then (if r.e < -400 then 2 else 0) else 4)
 else 1
theorem Wc {r:Raw}{p:Int}(hv:DyR w v r)(hl:r.m.length<=17592186044416)(hT:Tab w) :
 Calls Tryz.prog 143 #[v,.int .i64 p] w (RetK (.int .i64 (Gi r p)) w):=by
 have T:=Ad hT;have M:=Ad (λw1 (k:Kept w w1)=>Od (hv.kept k) hl);have hsm:=Mg hv;obtain ⟨A,l,c,rfl,hs⟩:=Bf hv;have CC:Hid (Io r=true->(r.dy.raw=r/\r.dy.Ok)):=λh=>Kt hsm h
 have CO:=Ad (λw1 (k:Kept w w1)=>show Calls Tryz.prog 20 #[.int .i64 64,.int .i64 0] w1 (RetE ⟨far.raw,0⟩ w1) by
  have h:=Rv (w:=w1) (k:=64) (e:=0) (by decide) (by decide) (by decide) (T.o.kept k);rw [m6] at h;exact h)
 have HS:=Ad hs;clear hv hs hl hT hsm;obtain ⟨res,hres⟩:∃ res,Gi r p=res:=⟨_,rfl⟩;rw [hres];unfold Gi at hres;obtain ⟨bm,hbm⟩:∃ b,Io r=b:=⟨_,rfl⟩;obtain ⟨b1,hb1⟩:∃ b,(!decide (p<1))=b:=⟨_,rfl⟩;obtain ⟨b2,hb2⟩:∃ b,(!decide (300<p))=b:=⟨_,rfl⟩;rw [hbm,hb1,hb2] at hres;rw [hbm] at M CC;have H1:Hid (decide (p<1)=!b1):=by rw [<-hb1,Bool.not_not];exact rfl
 have H2:Hid (decide (300<p)=!b2):=by rw [<-hb2,Bool.not_not];exact rfl
 clear hbm hb1 hb2;obtain ⟨q,hq⟩:∃ q,q=r.dy:=⟨_,rfl⟩;rw [<-hq] at CC hres;obtain ⟨n1,hn1⟩:∃ x,r.neg=x:=⟨_,rfl⟩;obtain ⟨e1,he1⟩:∃ x,r.e=x:=⟨_,rfl⟩;rw [hn1,he1] at HS ⊢;rw [he1] at hres;simp only [hn1,he1] at M;clear hq hn1 he1;have HM:=Ad hres;clear hres;obtain ⟨W,hW,kW,BA⟩:∃ W,W=w.alloc (.cells #[.bool n1,.slice A l c,.int .i64 e1] 28)/\Kept w W/\Blk W w.heap.size (.bool n1) (.slice A l c) (.int .i64 e1):=⟨_,rfl,Ab _ _,Bz _ _ _ _⟩;have HW:=Ad hW;have K:=Ad kW;have HA:=Ad BA;clear hW kW BA;go_enter Tryz.func143,Tryz.ntmps143;go_upto_region 1 with fail;rw [<-HW.o];clear HW
 refine rS 11 ([(vE (.agg #[.bool n1,.slice A l c,.int .i64 e1])),(vE (.bool bm)),(vE (.bool (!bm))),(vE (.bool (!bm))),(λv wv=>(bm=true->(λv _=>v=.int .i64 p) v wv)/\(bm=false->v=undef)),(λv wv=>(bm=true->(λv _=>v=(.bool (!b1))) v wv)/\(bm=false->v=undef)),(vE (.bool (!(bm&&b1)))),(vE (.bool (!(bm&&b1)))),(λv wv=>((bm&&b1)=true->(λv _=>v=.int .i64 p) v wv)/\((bm&&b1)=false->v=undef)),(λv wv=>((bm&&b1)=true->(λv _=>v=(.bool (!b2))) v wv)/\((bm&&b1)=false->v=undef)),(vE (.bool (!(bm&&b1&&b2))))])
  ⟨
   (E3 2 λ_ k=>c3 HA.o k),(λaF wF F=>by have s7:=F.v 0 7;exact sK (M.o _ (K.o.trans F.kept)) λ_ _ h=>h),(gv 1 8),(gv 2 9),
   (λaF wF F=>by
  have sg:=F.v 3 10;have s1:=F.q 1 (.int .i64 p);rcases Cb bm with hC | hC
  ·refine J0 hC (vE (.int .i64 p)) ?_;exact Dz rfl rfl sg (by first | rfl | simp [hC])
  ·exact J2 rfl rfl sg (by first | rfl | simp [hC]) (nW hC)),
   (λaF wF F=>by
  have sg:=F.v 3 10;have s11:(bm=true->aF.tmps.getD 11 undef=.int .i64 p)/\(bm=false->aF.tmps.getD 11 undef=undef):=F.done 4 11 (by kernel_rfl) rfl;rcases Cb bm with hC | hC
  ·refine J0 hC (vE (.bool (!b1))) ?_;replace s11:=s11.1 hC;exact Bc ((Am rfl rfl sg).trans (by first | rfl | simp [hC])) (by (go_simp;exact H1.o)) rfl
  ·exact J2 rfl rfl sg (by first | rfl | simp [hC]) (nW hC)),
   (λaF wF F=>by
  have s10:=F.v 3 10;have s12:(bm=true->aF.tmps.getD 12 undef=(.bool (!b1)))/\(bm=false->aF.tmps.getD 12 undef=undef):=F.done 5 12 (by kernel_rfl) rfl;rcases Cb bm with hE | hE
  ·replace s12:=s12.1 hE;exact sw (by first | (go_simp;done) | (go_simp;simp_all;done) | (simp_all;done)) rfl
  ·exact sw (by first | (go_simp;done) | (go_simp;simp_all;done) | (simp_all;done)) rfl),(gv 6 13),
   (λaF wF F=>by
  have sg:=F.v 7 14;have s1:=F.q 1 (.int .i64 p);rcases Cb (bm&&b1) with hC | hC
  ·refine J0 hC (vE (.int .i64 p)) ?_;exact Dz rfl rfl sg (by first | rfl | simp [hC])
  ·exact J2 rfl rfl sg (by first | rfl | simp [hC]) (nW hC)),
   (λaF wF F=>by
  have sg:=F.v 7 14;have s15:((bm&&b1)=true->aF.tmps.getD 15 undef=.int .i64 p)/\((bm&&b1)=false->aF.tmps.getD 15 undef=undef):=F.done 8 15 (by kernel_rfl) rfl;rcases Cb (bm&&b1) with hC | hC
  ·refine J0 hC (vE (.bool (!b2))) ?_;replace s15:=s15.1 hC;exact Bc ((Am rfl rfl sg).trans (by first | rfl | simp [hC])) (by (go_simp;exact H2.o)) rfl
  ·exact J2 rfl rfl sg (by first | rfl | simp [hC]) (nW hC)),
   (λaF wF F=>by
  have s14:=F.v 7 14;have s16:((bm&&b1)=true->aF.tmps.getD 16 undef=(.bool (!b2)))/\((bm&&b1)=false->aF.tmps.getD 16 undef=undef):=F.done 9 16 (by kernel_rfl) rfl;rcases Cb (bm&&b1) with hE | hE
  ·replace s16:=s16.1 hE;exact sw (by first | (go_simp;done) | (go_simp;simp_all;done) | (simp_all;done)) rfl
  ·exact sw (by first | (go_simp;done) | (go_simp;simp_all;done) | (simp_all;done)) rfl),
   trivial⟩ ?_
 intro u w1 k1 hu;have p11:=hp hu 4;have p12:=hp hu 5;have p15:=hp hu 8;have p16:=hp hu 9;simp only [Bb,Ap,Act.put,Ep,hv hu 0,hv hu 1,hv hu 2,hv hu 3,hv hu 6,hv hu 7,hv hu 10];clear hu;generalize u 4=v11,u 5=v12,u 8=v15,u 9=v16 at *;clear p11 p12 p15 p16 M H1 H2;replace K:=Ad (K.o.trans k1);replace HA:=Ad (HA.o.kept k1);clear k1;rcases (Cb (bm&&b1&&b2)).symm with hg | hg
 ·rw [hg];have hm:=HM.out;rw [hg] at hm;have HM2:Hid ((1:Int)=res):=by rw [←hm];exact rfl
  clear HM hm hg;go_wp2_with fail;go_ret;exact ⟨Jf HM2.o,K.o⟩
 rw [hg];rw [hg] at HM;simp only [Bool.and_eq_true] at hg;obtain ⟨hr,ok⟩:=CC.o hg.1.1;rw [<-hr] at HS;have C1:=Ad (λw1 v (k:Kept w w1) (h:DyR w1 v far.raw)=>N5 (HS.o.kept k) h ok Yk);have C2:=Ad (λw1 v (k:Kept w w1) (h:DyR w1 v (Ff far).raw)=>N5 (HS.o.kept k) h ok (Kg Yk));have CN:=Ad (λw1 v (h:DyR w1 v far.raw)=>show Calls Tryz.prog 139 #[v] w1 (RetD (Ff far).raw w1) by
  have h:=Yf h (by have:=Eb Yk;omega);rwa [Rd _ Yk] at h)
 obtain ⟨q1,hq1⟩:∃ b,decide (Dh q.q far.q<=0)=b:=⟨_,rfl⟩;obtain ⟨q2,hq2⟩:∃ b,decide (0<=Dh q.q (Ff far).q)=b:=⟨_,rfl⟩;have Q1:Hid (decide (0<Dh q.q far.q)=!q1):=by
  rw [<-hq1];by_cases h:Dh q.q far.q<=0
  ·rw [decide_eq_true h,decide_eq_false (by omega)];rfl
  ·rw [decide_eq_false h,decide_eq_true (by omega)];rfl
 have Q2:Hid (decide (Dh q.q (Ff far).q<0)=!q2):=by
  rw [<-hq2];by_cases h:0<=Dh q.q (Ff far).q
  ·rw [decide_eq_true h,decide_eq_false (by omega)];rfl
  ·rw [decide_eq_false h,decide_eq_true (by omega)];rfl
 have R1:=Ad hq1;have R2:=Ad hq2;clear hq1 hq2 hg hr ok CC HS;rw [R1.o,R2.o] at HM;clear R1 R2;generalize Dh q.q far.q=c1 at *;generalize Dh q.q (Ff far).q=c2 at *;go_wp2_with fail;refine (CO.o _ K.o).mono ?_;rintro ee w5 ⟨q5,u,rfl,hd⟩;obtain ⟨A5,j5,c5,rfl,z1⟩:=Bf hd;simp only [];obtain ⟨V,hV,kV,hb,lV⟩:=Nu w5 (.bool far.raw.neg) (.slice A5 j5 c5) (.int .i64 far.raw.e);have HV:=Ad hV;have kk:=q5.trans kV;replace K:=Ad (K.o.trans kk);replace HA:=Ad (HA.o.kept kk);have H5:=Ad hb;have Z5:=Ad (z1.kept kV);clear hV kV hb kk q5 hd z1 lV CO;go_upto_region 4 with fail
 rw [<-HV.o];clear HV;generalize w5.heap.size=b5,far.raw.neg=n5,far.raw.e=e5 at *
 refine Sv 11 ([(vE (.agg #[.bool n1,.slice A l c,.int .i64 e1])),(vE (.agg #[.bool n5,.slice A5 j5 c5,.int .i64 e5])),(vE (.int .i64 c1)),(vE (.bool (!q1))),(vE (.bool (!q1))),(λv wv=>(q1=true->(λv _=>v=(.agg #[.bool n1,.slice A l c,.int .i64 e1])) v wv)/\(q1=false->v=undef)),(λv wv=>(q1=true->(λv _=>v=(.agg #[.bool n5,.slice A5 j5 c5,.int .i64 e5])) v wv)/\(q1=false->v=undef)),(λv wv=>(q1=true->(λv wv=>DyR wv v ((Ff far).raw)) v wv)/\(q1=false->v=undef)),(λv wv=>(q1=true->(λv _=>v=(.int .i64 c2)) v wv)/\(q1=false->v=undef)),(λv wv=>(q1=true->(λv _=>v=(.bool (!q2))) v wv)/\(q1=false->v=undef)),(vE (.bool (!(q1&&q2))))])
  ⟨
   (E3 2 λ_ k=>c3 HA.o k),(E3 5 λ_ k=>c3 H5.o k),(λaF wF F=>by have s22:=F.v 0 22;have s23:=F.v 1 23;exact sK (C1.o _ _ (K.o.trans F.kept) (Z5.o.kept F.kept)) λ_ _ h=>h),(λaF wF F=>by have s24:=F.v 2 24;exact sw (by (go_simp;exact Q1.o)) rfl),(gv 3 25),
   (λaF wF F=>by
  have sg:=F.v 4 26;have s2:=F.q 2 (.pointer (some ⟨w.heap.size,0,none⟩));obtain ⟨c0,c1,c2⟩:=c3 HA.o F.kept;rcases Cb q1 with hC | hC
  ·refine J0 hC (vE (.agg #[.bool n1,.slice A l c,.int .i64 e1])) ?_;exact Dz rfl rfl sg (by first | rfl | simp [hC])
  ·exact J2 rfl rfl sg (by first | rfl | simp [hC]) (nW hC)),
   (λaF wF F=>by
  have sg:=F.v 4 26;have s5:=F.q 5 (.pointer (some ⟨b5,0,none⟩));obtain ⟨c0,c1,c2⟩:=c3 H5.o F.kept;rcases Cb q1 with hC | hC
  ·refine J0 hC (vE (.agg #[.bool n5,.slice A5 j5 c5,.int .i64 e5])) ?_;exact Dz rfl rfl sg (by first | rfl | simp [hC])
  ·exact J2 rfl rfl sg (by first | rfl | simp [hC]) (nW hC)),
   (λaF wF F=>by
  have sg:=F.v 4 26;have s28:(q1=true->aF.tmps.getD 28 undef=(.agg #[.bool n5,.slice A5 j5 c5,.int .i64 e5]))/\(q1=false->aF.tmps.getD 28 undef=undef):=F.done 6 28 (by kernel_rfl) rfl;rcases Cb q1 with hC | hC
  ·refine J0 hC (λv wv=>DyR wv v ((Ff far).raw)) ?_;replace s28:=s28.1 hC;exact Ax ((Am rfl rfl sg).trans (by first | rfl | simp [hC])) (by go_simp) (CN.o _ _ (Z5.o.kept F.kept)) (λ_ _ h=>RetD.good h) (λ_ _ h=>h)
  ·exact J2 rfl rfl sg (by first | rfl | simp [hC]) (nW hC)),
   (λaF wF F=>by
  have sg:=F.v 4 26;have s27:(q1=true->aF.tmps.getD 27 undef=(.agg #[.bool n1,.slice A l c,.int .i64 e1]))/\(q1=false->aF.tmps.getD 27 undef=undef):=F.done 5 27 (by kernel_rfl) rfl;have s29:(q1=true->(λv wv=>DyR wv v ((Ff far).raw)) (aF.tmps.getD 29 undef) wF)/\(q1=false->aF.tmps.getD 29 undef=undef):=F.done 7 29 (by kernel_rfl) rfl;rcases Cb q1 with hC | hC
  ·refine J0 hC (vE (.int .i64 c2)) ?_;replace s27:=s27.1 hC;replace s29:=s29.1 hC;exact Ax ((Am rfl rfl sg).trans (by first | rfl | simp [hC])) (by go_simp) (C2.o _ _ (K.o.trans F.kept) s29) (λ_ _ h=>RetK.good h) (λ_ _ h=>h)
  ·exact J2 rfl rfl sg (by first | rfl | simp [hC]) (nW hC)),
   (λaF wF F=>by
  have sg:=F.v 4 26;have s30:(q1=true->aF.tmps.getD 30 undef=(.int .i64 c2))/\(q1=false->aF.tmps.getD 30 undef=undef):=F.done 8 30 (by kernel_rfl) rfl;rcases Cb q1 with hC | hC
  ·refine J0 hC (vE (.bool (!q2))) ?_;replace s30:=s30.1 hC;exact Bc ((Am rfl rfl sg).trans (by first | rfl | simp [hC])) (by (go_simp;exact Q2.o)) rfl
  ·exact J2 rfl rfl sg (by first | rfl | simp [hC]) (nW hC)),
   (λaF wF F=>by
  have s26:=F.v 4 26;have s31:(q1=true->aF.tmps.getD 31 undef=(.bool (!q2)))/\(q1=false->aF.tmps.getD 31 undef=undef):=F.done 9 31 (by kernel_rfl) rfl;rcases Cb q1 with hE | hE
  ·replace s31:=s31.1 hE;exact sw (by first | (go_simp;done) | (go_simp;simp_all;done) | (simp_all;done)) rfl
  ·exact sw (by first | (go_simp;done) | (go_simp;simp_all;done) | (simp_all;done)) rfl),
   trivial⟩ ?_
 intro u w1 k1 hu;have p27:=hp hu 5;have p28:=hp hu 6;have p29:=hp hu 7;have p30:=hp hu 8;have p31:=hp hu 9;simp only [Bb,Ap,Act.put,Ep,hv hu 0,hv hu 1,hv hu 2,hv hu 3,hv hu 4,hv hu 10];clear hu;generalize u 5=v27,u 6=v28,u 7=v29,u 8=v30,u 9=v31 at *;clear p27 p28 p29 p30 p31 C1 C2 CN Q1 Q2;replace K:=Ad (K.o.trans k1);replace HA:=Ad (HA.o.kept k1);clear k1;rcases (Cb (q1&&q2)).symm with hg | hg
 ·rw [hg];have hm:=HM.out;rw [hg] at hm;have HM2:Hid ((4:Int)=res):=by rw [←hm];exact rfl
  clear HM hm hg;go_wp2_with fail;go_ret;exact ⟨Jf HM2.o,K.o⟩
 rw [hg];have hm:=HM.o;rw [hg] at hm;have HM2:Hid ((if e1 < -400 then (2:Int) else 0)=res):=by rw [<-hm];exact rfl
 clear HM hm hg;obtain ⟨-,a0,a1,a2,-⟩:=HA.o.facts;by_cases he:e1 < -400
 ·have d1:decide (e1 < -400)=true:=by simp [he]
  rw [Ak he] at HM2;clear he;go_wp2_with fail;go_ret;exact ⟨Jf HM2.o,K.o⟩
 ·have d1:decide (e1 < -400)=false:=by simp;omega
  rw [Af he] at HM2;clear he;go_wp2_with fail;go_ret;exact ⟨Jf HM2.o,K.o⟩
theorem Hb {e:Int}(h0:n≠0)(hb:bl n-tz n<=4096)(h1:-1048576<=e)(h2:bl n+e<=1048576) :
 (Ck neg n e).v.m≠0/\Bj (Ck neg n e).v=bl n+e/\bl (Ck neg n e).v.m=bl n-tz n:=by
 have ht:tz n<bl n:=O0 n (bl n) h0 (Bm n);have hd:bl (n/2^tz n)=bl n-tz n:=N1 _ _;have hl:(Al (n/2^tz n)).length<=64:=Ph (k:=64) (by omega);unfold Ck;rw [Af h0,Af (by omega),Af (by omega),Af (by omega)];refine ⟨?_,?_,hd⟩
 ·show n/2^tz n≠0
  intro h;rw [h,Hi] at hd;omega
 ·show ((bl (n/2^tz n):Nat):Int)+(e+tz n)=bl n+e
  omega
theorem Ue {e:Int}(hm:m≠0)(p1:1<=p)(p2:p<=2000)(h1:-1000000<=e)(h2:bl m+e<=1000000) :
 (Kc neg m e rest p up).v.m≠0/\bl (Kc neg m e rest p up).v.m<=p/\Bj (Kc neg m e rest p up).v<=bl m+e+1:=by
 unfold Kc;have hp:=Df m hm;have hb:bl (m/2^(bl m-p))=bl m-(bl m-p):=N1 _ _;have h2':Fd m rest p (up != neg)<=m/2^(bl m-p)+1/\m/2^(bl m-p)<=Fd m rest p (up != neg):=by
  unfold Fd Jx;simp only;split<;>omega
 have h3:=Bm (m/2^(bl m-p));have h5:2^bl (m/2^(bl m-p))<=2^p:=Ee (by decide) (by omega);have hz:Fd m rest p (up != neg)≠0:=by
  intro h;rw [h] at h2';have h0:m/2^(bl m-p)=0:=Nat.le_zero.1 h2'.2;rw [h0,Hi] at hb;omega
 have h6:bl (Fd m rest p (up != neg))<=bl (m/2^(bl m-p))+1:=Gl _ _ (by
  have:=Nat.two_pow_succ (bl (m/2^(bl m-p)));have:=Nat.two_pow_pos (bl (m/2^(bl m-p)));generalize m/2^(bl m-p)=z at *;omega)
 have h7:bl (Fd m rest p (up != neg))-tz (Fd m rest p (up != neg))<=p:=by
  by_cases hl:bl (Fd m rest p (up != neg))<=p
  ·omega
  ·have h8:=D9 _ hz;have h9:2^p≤2^(bl (Fd m rest p (up != neg))-1):=Ee (by decide) (by omega);have h10:Fd m rest p (up != neg)=2^p:=by
    generalize m/2^(bl m-p)=z at *;omega
   have h11:tz (Fd m rest p (up != neg))=p:=I9 _ p 1 rfl (by rw [h10,Nat.one_mul]);omega
 obtain ⟨a,b,c⟩:=Hb (neg:=neg) (e:=e+((bl m-p:Nat):Int)) hz (by omega) (by omega) (by omega);exact ⟨a,by omega,by omega⟩
theorem rX (j1:1<=j)(j2:j<=1000000):(fv j).m≠0/\1<=Bj (fv j)/\Bj (fv j)<=20/\bl (fv j).m<=20:=by
 have hb:bl j<=20:=Gl _ _ (by omega);have hp:=Df j (by omega);obtain ⟨a,b,c⟩:=Hb (neg:=false) (n:=j) (e:=0) (by omega) (by omega) (by decide) (by omega);exact ⟨a,by unfold fv;omega,by unfold fv;omega,by unfold fv;omega⟩
theorem U0 {r:Dy}(p1:1<=p)(p2:p<=2000)(hr:r.m≠0)(hr1:-500<=r.e)(hr2:Bj r<=-8)(ht:t.m≠0)(ht1:bl t.m<=p)(ht2:-3000<=Bj t)(ht3:Bj t<=100)
 (j1:1<=j) (j2:j<=1000000):(Db p up r t j).m≠0/\bl (Db p up r t j).m<=p/\Bj (Db p up r t j)<=Bj t-6:=by
 obtain ⟨b1,b2,b3,b4⟩:=rX j1 j2;have hbt:=Df _ ht;have hbr:=Df _ hr;unfold Bj at hr2 ht2 ht3;have hmz:t.m*r.m≠0:=Nat.mul_ne_zero ht hr;have hmb:=I0 (Aq (bl t.m)) (Aq (bl r.m));have hmp:=Df _ hmz;obtain ⟨c1,c2,c3⟩:=Hb (neg:=t.neg != r.neg) (n:=t.m*r.m) (e:=t.e+r.e) hmz (by omega) (by omega) (by omega);unfold Db Cz;rw [Af b1];obtain ⟨a,ha⟩:∃ a,a=(Ch t r).v:=⟨_,rfl⟩;have c1:a.m≠0:=by rw [ha];exact c1
 have c2:Bj a=bl (t.m*r.m)+(t.e+r.e):=by rw [ha];exact c2
 have c3:bl a.m<=bl (t.m*r.m):=by rw [ha];show bl (Ck _ _ _).v.m<=_;omega
 rw [<-ha];generalize fv j=b at *;have hba:=Df _ c1;have hbb:=Df _ b1;unfold Bj at c2 b2 b3;unfold Bg;have hK:Ce a b p=p+1+bl b.m-bl a.m:=rfl;have hq:=Ri a.m b.m p c1 b1 (Ce a b p) (by omega);have hk:bl (2^Ce a b p)<=Ce a b p+1:=Gl _ _ (Nat.pow_lt_pow_right (by decide) (by omega));have hm2:=I0 (Aq (bl a.m)) hk;have hd:=Te (x:=a.m*2^Ce a b p) b1;have hz:a.m*2^Ce a b p/b.m≠0:=by intro h;rw [h,Hi] at hq;omega
 obtain ⟨x,y,z⟩:=Ue (neg:=a.neg != b.neg) (rest:=decide (¬a.m*2^Ce a b p%b.m=0)) (up:=up) (e:=a.e-b.e-Ce a b p) hz p1 p2 (by omega) (by omega);exact ⟨x,y,by unfold Bj at *;omega⟩
theorem aD {p:Nat}{up:Bool}{r:Dy}(p1:1<=p)(p2:p<=2000)(hr:r.m≠0)(hr1:-500<=r.e)(hr2:Bj r<=-8):∀ (f j:Nat) (s t:Dy),t.m≠0->bl t.m<=p->-(p:Int)-8<=Bj t->Bj t<=100 ->
 Bj t < -(p:Int)-8+6*f->1<=j->j+f<=1000000->∃ o,G6 p up r f j s t=some o
 | 0,j,s,t,_,_,h1,_,h2,_,_=>by omega
 | f + 1, j, s, t, ht, ht1, h1, h3, h2, j1, j2 => by
   obtain ⟨a,b,c⟩:=U0 (up:=up) p1 p2 hr hr1 hr2 ht ht1 (by omega) h3 j1 (by omega);rw [G6];split
   ·exact ⟨_,rfl⟩
   ·exact aD p1 p2 hr hr1 hr2 f (j+1) _ _ a b (by omega) (by omega) (by omega) (by omega) (by omega)
theorem dr {p : Nat} {up : Bool} {r : Dy} (p1 : 1 ≤ p) (p2 : p ≤ 2000) (hr : r.m ≠ 0) (hr1 : -500 ≤ r.e) (hr2 : Bj   r ≤ -8) : ∃ o, G6    p up r 400 1 one one = some o :=
 aD       p1 p2 hr hr1 hr2 400 1 one one (by decide) (by have : bl one.m = 1 := by decide
                                                         omega) (by have : Bj   one = 1 := by decide
                                                                    omega) (by decide) (by have : Bj   one = 1 := by decide
                                                                                           omega) (by decide) (by decide)
theorem T7 (h0:d.m≠0)(hl:bl d.m<=4096)(h1:-400<=d.e)(h2:Bj d<=7):(H9 d).m≠0/\-500<=(H9 d).e/\Bj (H9 d)<=-8:=by
 have hp:=Df _ h0;have h2':=h2;unfold Bj at h2';have hK:(Dg d:Int)=max (Bj d+8) 0:=by unfold Dg;omega
 obtain ⟨a,b,c⟩:=Hb (neg:=d.neg) (n:=d.m) (e:=d.e+-(Dg d:Int)) h0 (by omega) (by omega) (by omega);unfold H9 Hp;rw [Af h0,Af (by omega)];have ht:tz d.m<bl d.m:=O0 d.m (bl d.m) h0 (Bm d.m);refine ⟨a,?_,?_⟩
 ·have b':=b;unfold Bj at b';omega
 ·rw [b];unfold Bj at hK;omega
def Cs (f:Nat->Rat):Nat->Rat
 | 0=>0
 | n+1=>Cs f n+f n
theorem Hw {f g:Nat->Rat}:∀ n,(∀ i,i<n->f i=g i)->Cs f n=Cs g n
 | 0,_=>rfl
 | n + 1, h => by
   rw [Cs,Cs,Hw n (λi hi=>h i (by omega)),h n (by omega)]
theorem Mq (a:Rat)(f:Nat->Rat):∀ n,Cs (λi=>a*f i) n=a*Cs f n
 | 0=>by simp [Cs]
 | n + 1 => by
   rw [Cs,Cs,Mq a f n];grind
theorem Sn (f g:Nat->Rat):∀ n,Cs (λi=>f i+g i) n=Cs f n+Cs g n
 | 0=>by simp only [Cs];grind
 | n + 1 => by
   rw [Cs,Cs,Cs,Sn f g n];grind
theorem Sx (f:Nat->Rat):∀ n,Cs f (n+1)=f 0+Cs (λi=>f (i+1)) n
 | 0=>by simp only [Cs];grind
 | n + 1 => by
   rw [Cs,Sx f n,Cs];grind
theorem Rn {f:Nat->Rat}:∀ n,(∀ i,i<n->0<=f i)->0<=Cs f n
 | 0,_=>Rat.le_refl
 | n + 1, h => by
   have h1:=Rn n (λi hi=>h i (by omega));have h2:=h n (by omega);rw [Cs];grind
theorem Vz {f g:Nat->Rat}:∀ n,(∀ i,i<n->f i<=g i)->Cs f n<=Cs g n
 | 0,_=>Rat.le_refl
 | n + 1, h => by
   have h1:=Vz n (λi hi=>h i (by omega));have h2:=h n (by omega);rw [Cs,Cs];grind
def eT (x:Rat):Nat->Rat
 | 0=>1
 | n+1=>eT x n*x/((n+1:Nat):Rat)
def eS (x:Rat) (n:Nat):Rat:=Cs (eT x) n
theorem succ_pos (n:Nat):(0:Rat)<((n+1:Nat):Rat):=by exact_mod_cast Nat.succ_pos n
theorem Tn (x:Rat)(n:Nat):((n+1:Nat):Rat)*eT x (n+1)=x*eT x n:=by
 have h:=succ_pos n;rw [eT];generalize ((n+1:Nat):Rat)=k at *;rw [Rat.div_def];have hk:k*k⁻¹=1:=Rat.mul_inv_cancel k (by grind);grind
theorem Hq {x:Rat}(h:0<=x):∀ n,0<=eT x n
 | 0=>show (0:Rat)<=1 by decide
 | n + 1 => by
   rw [eT,Rat.div_def];exact Rat.mul_nonneg (Rat.mul_nonneg (Hq h n) h) (Rat.le_of_lt (Rat.inv_pos.2 (succ_pos n)))
def conv (x y:Rat) (k:Nat):Rat:=Cs (λi=>eT x i*eT y (k-i)) (k+1)
theorem fP (x y:Rat)(k:Nat):((k+1:Nat):Rat)*conv x y (k+1)=(x+y)*conv x y k:=by
 have A:Cs (λi=>(i:Rat)*(eT x i*eT y (k+1-i))) (k+1+1)=x*conv x y k:=by
  rw [Sx];have e:Cs (λi=>((i+1:Nat):Rat)*(eT x (i+1)*eT y (k+1-(i+1)))) (k+1)=Cs (λi=>x*(eT x i*eT y (k-i))) (k+1):=Hw _ (λi hi=>by
   have h:=Tn x i;have e:k+1-(i+1)=k-i:=by omega
   rw [e];grind)
  rw [e,Mq];unfold conv;have z:((0:Nat):Rat)=0:=rfl;rw [z];grind
 have B:Cs (λi=>((k+1-i:Nat):Rat)*(eT x i*eT y (k+1-i))) (k+1+1)=y*conv x y k:=by
  rw [Cs];have e:Cs (λi=>((k+1-i:Nat):Rat)*(eT x i*eT y (k+1-i))) (k+1)=Cs (λi=>y*(eT x i*eT y (k-i))) (k+1):=Hw _ (λi hi=>by
   have h:=Tn y (k-i);have e:k+1-i=k-i+1:=by omega
   rw [e];grind)
  rw [e,Mq];unfold conv;have z:((k+1-(k+1):Nat):Rat)=0:=by rw [Nat.sub_self];rfl
  rw [z];grind
 have C:Cs (λi=>((k+1:Nat):Rat)*(eT x i*eT y (k+1-i))) (k+1+1)=Cs (λi=>(i:Rat)*(eT x i*eT y (k+1-i))+((k+1-i:Nat):Rat)*(eT x i*eT y (k+1-i))) (k+1+1) :=
  Hw _ (λi hi=>by
   have e:((k+1:Nat):Rat)=(i:Rat)+((k+1-i:Nat):Rat):=by
    rw [<-Rat.natCast_add]
    congr 1
    omega
   rw [e];grind)
 rw [Sn,A,B,Mq] at C;unfold conv at *;grind
theorem eE (x y:Rat):∀ k,conv x y k=eT (x+y) k
 | 0=>by simp only [conv,Cs,Nat.sub_self,eT];grind
 | k + 1 => by
   have h:=fP x y k;have h2:=Tn (x+y) k;rw [eE x y k] at h;rw [<-h2] at h;have hp:=succ_pos k;generalize ((k+1:Nat):Rat)=q at *;have hk:q*q⁻¹=1:=Rat.mul_inv_cancel q (by grind);grind
theorem eO {x:Rat}(h:0<=x){m:Nat}:∀ {n:Nat},m<=n->eS x m<=eS x n
 | 0, hm => by
   have e:m=0:=by omega
   rw [e];exact Rat.le_refl
 | n + 1, hm => by
   by_cases e:m=n+1
   ·rw [e];exact Rat.le_refl
   ·have h1:=eO h (m:=m) (n:=n) (by omega);have h2:=Hq h n;have h3:eS x (n+1)=eS x n+eT x n:=rfl;grind
theorem cQ (x:Rat):eS x 1=1:=by
 show (0:Rat)+1=1
 grind
theorem pJ {x:Rat}(h:0<=x)(hn:1<=n):1<=eS x n:=by
 have:=eO h hn;rwa [cQ] at this
theorem Ry {x:Rat}(h:0<=x)(n:Nat):0<=eS x n:=Rn _ (λi _=>Hq h i)
theorem eQ {x y:Rat}(h:0<=x)(hy:x<=y):∀ n,eT x n<=eT y n
 | 0=>Rat.le_refl
 | n + 1 => by
   have h1:=eQ h hy n;have h2:eT x n*x<=eT y n*x:=Rat.mul_le_mul_of_nonneg_right h1 h;have h3:eT y n*x<=eT y n*y:=Rat.mul_le_mul_of_nonneg_left hy (Hq (Rat.le_trans h hy) n);rw [eT,eT,Rat.div_def,Rat.div_def];exact Rat.mul_le_mul_of_nonneg_right (Rat.le_trans h2 h3) (Rat.le_of_lt (Rat.inv_pos.2 (succ_pos n)))
theorem mp {x y:Rat}(h:0<=x)(hy:x<=y)(n:Nat):eS x n<=eS y n:=Vz n (λi _=>eQ h hy i)
theorem Vy (x y:Rat):∀ n,Cs (conv x y) n=Cs (λi=>eT x i*eS y (n-i)) n
 | 0=>rfl
 | n + 1 => by
   have e:Cs (λi=>eT x i*eS y (n+1-i)) (n+1)=Cs (λi=>eT x i*eS y (n-i)+eT x i*eT y (n-i)) (n+1):=Hw _ (λi hi=>by
    have e:n+1-i=n-i+1:=by omega
    have e2:eS y (n-i+1)=eS y (n-i)+eT y (n-i):=rfl;rw [e,e2];grind)
   rw [e,Sn,Cs,Vy x y n];have h:Cs (λi=>eT x i*eS y (n-i)) (n+1)=Cs (λi=>eT x i*eS y (n-i)) n:=by
    rw [Cs,Nat.sub_self];have z:eS y 0=0:=rfl;rw [z];grind
   rw [h];rfl
theorem pI {x y:Rat}(hx:0<=x)(hy:0<=y)(n:Nat):eS (x+y) n<=eS x n*eS y n:=by
 have h1:eS (x+y) n=Cs (conv x y) n:=Hw n (λi _=>(eE x y i).symm);rw [h1,Vy];have h2:Cs (λi=>eT x i*eS y (n-i)) n<=Cs (λi=>eS y n*eT x i) n:=Vz n (λi _=>by
  have h3:=Rat.mul_le_mul_of_nonneg_left (eO hy (m:=n-i) (n:=n) (by omega)) (Hq hx i);grind)
 rw [Mq] at h2;have h4:Cs (eT x) n=eS x n:=rfl;rw [h4] at h2;grind
theorem N9 {e:Int}(h0:n≠0)(hb:bl n-tz n<=4096)(h1:-1048576<=e)(h2:bl n+e<=1048576) :
 (Ck neg n e).k=0/\(Ck neg n e).v.neg=neg:=by
 have ht:tz n<bl n:=O0 n (bl n) h0 (Bm n);have hl:(Al (n/2^tz n)).length<=64:=Ph (k:=64) (by rw [N1];omega);unfold Ck;rw [Af h0,Af (by omega),Af (by omega),Af (by omega)];exact ⟨rfl,rfl⟩
theorem cL {e:Int}(hm:m≠0)(p1:1<=p)(p2:p<=2000)(h1:-1000000<=e)(h2:bl m+e<=1000000) :
 (Kc neg m e rest p up).k=0/\(Kc neg m e rest p up).v.neg=neg/\bl m+e<=Bj (Kc neg m e rest p up).v:=by
 unfold Kc;have hp:=Df m hm;have hb:bl (m/2^(bl m-p))=bl m-(bl m-p):=N1 _ _;have h2':Fd m rest p (up != neg)<=m/2^(bl m-p)+1/\m/2^(bl m-p)<=Fd m rest p (up != neg):=by
  unfold Fd Jx;simp only;split<;>omega
 have h3:=Bm (m/2^(bl m-p));have h4:=Ka h2'.2;have hz:Fd m rest p (up != neg)≠0:=by
  intro h;rw [h,Hi] at h4;omega
 have h6:bl (Fd m rest p (up != neg))<=bl (m/2^(bl m-p))+1:=Gl _ _ (by
  have:=Nat.two_pow_succ (bl (m/2^(bl m-p)));have:=Nat.two_pow_pos (bl (m/2^(bl m-p)));generalize m/2^(bl m-p)=z at *;omega)
 obtain ⟨a,b⟩:=N9 (neg:=neg) (e:=e+((bl m-p:Nat):Int)) hz (by omega) (by omega) (by omega);obtain ⟨c,d,-⟩:=Hb (neg:=neg) (e:=e+((bl m-p:Nat):Int)) hz (by omega) (by omega) (by omega);exact ⟨a,b,by omega⟩
theorem cD {x y:Nat}(h:y≠0):bl x<=bl (x/y)+bl y:=by
 by_cases hx:x=0
 ·rw [hx,Hi];omega
 ·refine Gl _ _ ?_;have h1:=Bm (x/y);have h2:=Bm y;have h3:=Nat.lt_mul_div_succ x (Nat.pos_of_ne_zero h);have h4:y*(x/y+1)<=2^bl y*2^bl (x/y):=Nat.mul_le_mul (Nat.le_of_lt h2) h1;rw [<-Nat.pow_add] at h4;rw [Nat.add_comm];omega
theorem Sa {x y:Nat}(hx:x≠0)(hy:y≠0):bl x+bl y<=bl (x*y)+1:=by
 have h1:=D9 x hx;have h2:=D9 y hy;have h3:=Nat.mul_le_mul h1 h2;rw [<-Nat.pow_add] at h3;have h4:=Nat.lt_of_le_of_lt h3 (Bm (x*y));have h5:=(Nat.pow_lt_pow_iff_right (by decide:1<2)).1 h4;have:=Df x hx;have:=Df y hy;omega
theorem du {r:Dy}(p1:1<=p)(p2:p<=2000)(hr:r.m≠0)(rn:r.neg=false)(hr1:-500<=r.e)(hr2:Bj r<=-8)(ht:t.m≠0)(tn:t.neg=false)(ht1:bl t.m<=p)(ht2:-3000<=Bj t)(ht3:Bj t<=100)
 (j1:1<=j) (j2:j<=1000000):(Db p up r t j).neg=false/\Kn up p (t.q*r.q/(j:Rat)) (Db p up r t j).q/\Bj t+Bj r-25<=Bj (Db p up r t j):=by
 obtain ⟨b1,b2,b3,b4⟩:=rX j1 j2;have hjq:(fv j).q=(j:Rat):=by
  have hb:bl j<=20:=Gl _ _ (by omega);have h:=Lx (N9 (neg:=false) (n:=j) (e:=0) (by omega) (by omega) (by decide) (by omega)).1
  show (Ck false j 0).v.q=_
  rw [h,F3,Rat.mul_one];rfl
 have hbt:=Df _ ht;have hbr:=Df _ hr;unfold Bj at hr2 ht2 ht3;have hmz:t.m*r.m≠0:=Nat.mul_ne_zero ht hr;have hmb:=I0 (Aq (bl t.m)) (Aq (bl r.m));have hmp:=Df _ hmz;have hmg:=Sa ht hr;obtain ⟨c1,c2,c3⟩:=Hb (neg:=t.neg != r.neg) (n:=t.m*r.m) (e:=t.e+r.e) hmz (by omega) (by omega) (by omega);obtain ⟨c4,c5⟩:=N9 (neg:=t.neg != r.neg) (n:=t.m*r.m) (e:=t.e+r.e) hmz (by omega) (by omega) (by omega);have hmq:(Ch t r).v.q=t.q*r.q:=Na c4;unfold Db Cz;rw [Af b1,<-hjq,<-hmq];obtain ⟨a,ha⟩:∃ a,a=(Ch t r).v:=⟨_,rfl⟩;have c1:a.m≠0:=by rw [ha];exact c1
 have c2:Bj a=bl (t.m*r.m)+(t.e+r.e):=by rw [ha];exact c2
 have c3:bl a.m<=bl (t.m*r.m):=by rw [ha];show bl (Ck _ _ _).v.m<=_;omega
 have c5:a.neg=false:=by rw [ha];refine Eq.trans c5 ?_;rw [tn,rn];rfl
 have b5:(fv j).neg=false:=by
  have hb:bl j<=20:=Gl _ _ (by omega);exact (N9 (neg:=false) (n:=j) (e:=0) (by omega) (by omega) (by decide) (by omega)).2
 rw [<-ha];clear hmq ha hjq;generalize fv j=b at *;have hba:=Df _ c1;have hbb:=Df _ b1;unfold Bj at c2 b2 b3;have hK:Ce a b p=p+1+bl b.m-bl a.m:=rfl;have hq:=Ri a.m b.m p c1 b1 (Ce a b p) (by omega);have hk:bl (2^Ce a b p)<=Ce a b p+1:=Gl _ _ (Nat.pow_lt_pow_right (by decide) (by omega));have hm2:=I0 (Aq (bl a.m)) hk;have hk1:Ce a b p+1<=bl (2^Ce a b p):=by
  have h:=Bm (2^Ce a b p);have h2:=(Nat.pow_lt_pow_iff_right (by decide:1<2)).1 h;omega
 have hm3:=Sa c1 (Nat.ne_of_gt (Nat.two_pow_pos (Ce a b p)));have hd:=Te (x:=a.m*2^Ce a b p) b1;have hd2:=cD (x:=a.m*2^Ce a b p) b1;have hz:a.m*2^Ce a b p/b.m≠0:=by intro h;rw [h,Hi] at hq;omega
 obtain ⟨x,y,z⟩:=cL (neg:=a.neg != b.neg) (rest:=decide (¬a.m*2^Ce a b p%b.m=0)) (up:=up) (e:=a.e-b.e-Ce a b p) hz p1 p2 (by omega) (by omega);refine ⟨?_,Po p1 b1 x,?_⟩
 ·refine Eq.trans y ?_;rw [c5,b5];rfl
 ·have z':(bl (a.m*2^Ce a b p/b.m):Int)+(a.e-b.e-Ce a b p)<=Bj (Bg a b p up).v:=z;unfold Bj at z' ⊢;omega
theorem dA {a b:Int}(h:pw a<=pw b):a<=b:=by
 rcases Int.lt_or_le b a with h1 | h1
 ·exfalso;have h2:=Gz (show b+1<=a by omega);have h3:=I6 b;rw [Fz,Sf] at h2;grind
 ·exact h1
theorem I5 {a b:Int}(h:pw a<pw b):a<b:=by
 rcases Int.lt_or_le a b with h1 | h1
 ·exact h1
 ·exfalso;have h2:=Gz h1;grind
theorem gG (hn:d.neg=false):d.q=(d.m:Rat)*pw d.e:=by
 unfold Dy.q sq;rw [hn];rfl
theorem aO (h:d.m≠0)(hn:d.neg=false):0<d.q:=by
 rw [gG hn];exact U6 h d.e
theorem Lp (h:d.m≠0)(hn:d.neg=false):pw (Bj d-1)<=d.q/\d.q<pw (Bj d):=by
 rw [gG hn];exact Yu h d.e
theorem Hc (hp:1<=p):Fits p 1:=⟨false,1,0,hp,by simp [sq,F3]⟩
theorem Jc (hp:1<=p)(e:Int):Fits p (pw e):=by
 have h:=(Hc hp).pw e;rwa [Rat.one_mul] at h
theorem Zi {c:Int}(h:x.m≠0)(hn:x.neg=false)(hq:pw c<=x.q):c+1<=Bj x:=by
 have h1:=(Lp h hn).2;have h2:pw c<pw (Bj x):=by grind
 have:=I5 h2;omega
theorem dW {c:Int}(h:x.m≠0)(hn:x.neg=false)(hq:x.q<=pw c):Bj x<=c+1:=by
 have h1:=(Lp h hn).1;have h2:pw (Bj x-1)<=pw c:=by grind
 have:=dA h2;omega
theorem fF (h:x.m≠0)(hn:x.neg=false)(h1:1<=x.q)(h2:x.q<2):Bj x=1:=by
 have a:=Zi (c:=0) h hn (by rw [F3];exact h1);have b:=(Lp h hn).1;have c:pw (Bj x-1)<pw 1:=by rw [Sf];grind
 have:=I5 c;omega
theorem rW (p2:p<=2000)(s0:s.m≠0)(sn:s.neg=false)(sb:bl s.m<=p)(s1:1<=s.q)(t0:t.m≠0)(tn:t.neg=false)(tk:t.Ok)(h2:s.q+t.q<2) :
 ((Ey s t).k=0↔-4095<=t.e)/\((Ey s t).k=0->(Ey s t).v.m≠0/\(Ey s t).v.neg=false/\Bj (Ey s t).v=1/\-5000<=(Ey s t).v.e):=by
 have t1:=aO t0 tn;have hs1:=(Lp s0 sn).1;have hs2:=(Lp s0 sn).2;have hs3:Bj s=1:=by
  have a:pw (Bj s-1)<pw 1:=by rw [Sf];grind
  have b:pw 0<pw (Bj s):=by rw [F3];grind
  have:=I5 a;have:=I5 b;omega
 have hs4:(bl s.m:Int)+s.e=1:=hs3;have sp:=Df _ s0;have key:∀ (n:Nat) (e:Int),n≠0->(n:Rat)*pw e=s.q+t.q->(bl n:Int)+e=1:=by
  intro n e hn he;obtain ⟨a,b⟩:=Yu hn e;rw [he] at a b;have c:pw (bl n+e-1)<pw 1:=by rw [Sf];grind
  have d:pw 0<pw (bl n+e):=by rw [F3];grind
  have:=I5 c;have:=I5 d;omega
 unfold Ey;rw [Af s0,Af t0];by_cases h:s.e<t.e
 ·rw [Ak h];have hn:t.m*2^(t.e-s.e).toNat+s.m≠0:=by omega
  have he:((t.m*2^(t.e-s.e).toNat+s.m:Nat):Rat)*pw s.e=s.q+t.q:=by
   rw [gG sn,gG tn,Rat.natCast_add,Rat.add_mul,<-Jd t.m (Int.le_of_lt h)];grind
  have hb:=key _ _ hn he;have hg:¬(¬t.e=s.e/\4097-(bl t.m:Int)<t.e-s.e):=by
   have hbt:bl t.m+(t.e-s.e).toNat<=bl (t.m*2^(t.e-s.e).toNat+s.m):=by
    rw [<-Iu _ _ t0];exact Ka (Nat.le_add_right _ _)
   omega
  have hz:=O0 _ _ hn (Bm (t.m*2^(t.e-s.e).toNat+s.m));unfold Oz;rw [Af hg,Ak (tn.trans sn.symm),tn];obtain ⟨k1,k2⟩:=N9 (neg:=false) (e:=s.e) hn (by omega) (by omega) (by omega);obtain ⟨f1,f2,f3⟩:=Hb (neg:=false) (e:=s.e) hn (by omega) (by omega) (by omega);have f2':=f2;unfold Bj at f2';exact ⟨⟨λ_=>by omega,λ_=>k1⟩,λ_=>⟨f1,k2,by omega,by omega⟩⟩
 ·rw [Af    h];have hn:s.m*2^(s.e-t.e).toNat+t.m≠0:=by omega
  have he:((s.m*2^(s.e-t.e).toNat+t.m:Nat):Rat)*pw t.e=s.q+t.q:=by
   rw [gG sn,gG tn,Rat.natCast_add,Rat.add_mul,<-Jd s.m (by omega:t.e<=s.e)]
  have hb:=key _ _ hn he;have hz:=O0 _ _ hn (Bm (s.m*2^(s.e-t.e).toNat+t.m));unfold Oz;by_cases hte:-4095<=t.e
  ·rw [Af (by omega),Ak (sn.trans tn.symm),sn];obtain ⟨k1,k2⟩:=N9 (neg:=false) (e:=t.e) hn (by omega) (by omega) (by omega);obtain ⟨f1,f2,f3⟩:=Hb (neg:=false) (e:=t.e) hn (by omega) (by omega) (by omega);have f2':=f2;unfold Bj at f2';exact ⟨⟨λ_=>hte,λ_=>k1⟩,λ_=>⟨f1,k2,by omega,by omega⟩⟩
  ·have hk:∀ o:Outc Dy,o.k≠0→(o.k=0↔-4095≤t.e)∧(o.k=0→o.v.m≠0∧o.v.neg=false∧Bj o.v=1∧-5000≤o.v.e) :=
    λo ho=>⟨⟨λa=>absurd a ho,λa=>absurd a hte⟩,λa=>absurd a ho⟩
   apply hk;split
   ·decide
   ·rw [Ak (sn.trans tn.symm)];have ho:(s.m*2^(s.e-t.e).toNat+t.m)%2=1:=by
     have h1:=tk.odd t0;have h2:(s.e-t.e).toNat=(s.e-t.e).toNat-1+1:=by omega
     rw [h2,Nat.pow_succ,<-Nat.mul_assoc];omega
    have hl:64<(Al (s.m*2^(s.e-t.e).toNat+t.m)).length:=by
     refine Decidable.byContradiction λhc=>?_
     have hb2:=Dw (s.m*2^(s.e-t.e).toNat+t.m) 64 (by omega);omega
    unfold Ck;rw [Af hn,fH ho,Nat.pow_zero,Nat.div_one,Ak hl]
    decide
theorem U9 (p1:1<=p)(p2:p<=2000)(h0:d.m≠0)(h1:-1000000<=d.e)(h2:Bj d<=1000000) :
 Kn up p d.q (I7 p up d).q/\(I7 p up d).neg=d.neg/\(I7 p up d).m≠0/\bl (I7 p up d).m<=p:=by
 unfold Bj at h2;obtain ⟨a,b,c⟩:=cL (neg:=d.neg) (rest:=false) (up:=up) h0 p1 p2 h1 h2;obtain ⟨x,y,z⟩:=Ue (neg:=d.neg) (rest:=false) (up:=up) h0 p1 p2 h1 h2;exact ⟨Ug p1 a,b,x,y⟩
theorem Sg (p:Nat)(up:Bool):I7 p up dz=dz:=by
 unfold I7 Dj Kc;have h:Fd 0 false p (up != dz.neg)=0:=by unfold Fd Jx;simp [bl]
 show (Ck dz.neg (Fd 0 false p (up != dz.neg)) _).v=dz
 rw [h];rfl
theorem My {x d b:Rat}(h:Kn up p x d)(hb:Fits p b)(hx:x<=b):d<=b:=by
 cases up with
 | true=>exact IsUp.best h b hb hx
 | false=>exact Rat.le_trans (IsDown.le h) hx
theorem N6 {x d b:Rat}(h:Kn up p x d)(hb:Fits p b)(hx:b<=x):b<=d:=by
 cases up with
 | true=>exact Rat.le_trans hx (IsUp.le h)
 | false=>exact IsDown.best h b hb hx
theorem fq (p1:1<=p)(p2:p<=2000)(s0:s.m≠0)(sn:s.neg=false)(sb:bl s.m<=p)(s1:1<=s.q)(t0:t.m≠0)(tn:t.neg=false)(tk:t.Ok)(h2:s.q+t.q<2) :
 (-4095<=t.e->Kn up p (s.q+t.q) (Es p up s t).q/\(Es p up s t).neg=false/\(Es p up s t).m≠0/\bl (Es p up s t).m<=p)/\(t.e < -4095->Es p up s t=dz):=by
 obtain ⟨a,b⟩:=rW p2 s0 sn sb s1 t0 tn tk h2;constructor
 ·intro h;have hk:=a.2 h;obtain ⟨b1,b2,b3,b4⟩:=b hk;have hq:=Qs hk;obtain ⟨c1,c2,c3,c4⟩:=U9 (up:=up) p1 p2 b1 (by omega) (by omega);rw [hq] at c1;exact ⟨c1,c2.trans b2,c3,c4⟩
 ·intro h;have hk:(Ey s t).k≠0:=fun e=>by have:=a.1 e;omega
  have hz:(Ey s t).v=dz:=by
   have hs:s.Ok\/True:=.inr trivial;unfold Ey at hk ⊢;rw [Af s0,Af t0] at hk ⊢;split at hk<;>rename_i hc
   ·rw [Ak hc];exact (Zf _ _).2 hk
   ·rw [Af hc];exact (Zf _ _).2 hk
  unfold Es;rw [hz,Sg]
theorem mu {r:Rat}(h0:0<=r)(h1:r<=1/2)(j:Nat):2*eT r (j+1)<=eT r j:=by
 have h2:=Tn r j;have h3:=Hq h0 (j+1);have h4:=Hq h0 j;have h5:(1:Rat)<=((j+1:Nat):Rat):=by exact_mod_cast Nat.le_add_left 1 j
 have h6:=Rat.mul_le_mul_of_nonneg_right h5 h3;have h7:=Rat.mul_le_mul_of_nonneg_right h1 h4;rw [h2] at h6;grind
theorem mr {r:Rat}(h0:0<=r)(h1:r<=1/2)(j n:Nat):eS r n<=eS r (j+1)+eT r j:=by
 have step:∀ m,eS r (j+1+m)+eT r (j+m)<=eS r (j+1)+eT r j:=by
  intro m
  induction m with
  | zero=>exact Rat.le_refl
  | succ m ih =>
    have h2:=mu h0 h1 (j+m);have e1:eS r (j+1+(m+1))=eS r (j+1+m)+eT r (j+1+m):=rfl;have e2:j+1+m=j+m+1:=by omega
    rw [e2] at e1 ih;have e3:j+(m+1)=j+m+1:=by omega
    rw [e1,e3];grind
 have h2:=step n;have h3:=eO h0 (m:=n) (n:=j+1+n) (by omega);have h4:=Hq h0 (j+n);grind
def sB (j:Nat):Nat:=if j<=1 then 65536 else 65790+j
theorem qw:(sB 1:Rat)*pw (-16)=1:=by decide +kernel
theorem aM:pw (-1)=1/2:=by decide +kernel
theorem rQ:pw (-8)=1/256:=by decide +kernel
theorem nN (h:1<=j):(sB j:Rat)*pw (-16)+pw (-8*(j:Int))<=(sB (j+1):Rat)*pw (-16):=by
 by_cases h1:j=1
 ·subst h1
  decide +kernel
 ·have e:(sB (j+1):Rat)=(sB j:Rat)+1:=by
   have:sB (j+1)=sB j+1:=by
    unfold sB;rw [Af (by omega),Af (by omega)];omega
   rw [this,Rat.natCast_add];rfl
  have h2:=Gz (show -8*(j:Int)<=-16 by omega);rw [e];grind
theorem oO (h:j<=500):(sB j:Rat)*pw (-16)<=17/16:=by
 have h1:sB j<=69632:=by unfold sB;split<;>omega
 have h2:=(Ht (-16)).2 (Dd.2 h1);have h3:((69632:Nat):Rat)*pw (-16)=17/16:=by decide +kernel
 rwa [h3] at h2
theorem nM (h:j<=500)(hp:17<=p):Fits p ((sB j:Rat)*pw (-16)):=by
 have h1:sB j<2^17:=by unfold sB;split<;>omega
 exact (L8 (p:=p) (m:=sB j) (Bp (Gl _ _ h1) hp)).pw (-16)
structure NI (p:Nat) (up:Bool) (r:Rat) (j:Nat) (s t:Dy):Prop where
 s0:s.m≠0
 sn:s.neg=false
 sb:bl s.m<=p
 s1:1<=s.q
 s2:s.q<=(sB j:Rat)*pw (-16)
 t0:t.m≠0
 tn:t.neg=false
 tb:bl t.m<=p
 t2:t.q<=pw (-8*((j:Int)-1))
 t3:-(p:Int)-8<=Bj t
 dir:if up then eT r (j-1)<=t.q/\eS r j<=s.q else t.q<=eT r (j-1)/\s.q<=eS r j
theorem U4:one.q=1:=by decide +kernel
theorem NI.start {r:Rat}(p1:1<=p):NI p up r 1 one one:=by
 have b:bl one.m=1:=by decide
 have t:Bj one=1:=by decide
 refine ⟨by decide,rfl,by omega,by rw [U4];exact Rat.le_refl,by rw [U4,qw];exact Rat.le_refl,by decide,rfl,by omega,?_,by omega,?_⟩
 ·rw [U4]
  show (1:Rat)<=pw 0
  rw [F3];exact Rat.le_refl
 ·rw [U4,cQ];cases up
  ·exact ⟨Rat.le_refl,Rat.le_refl⟩
  ·exact ⟨Rat.le_refl,Rat.le_refl⟩
theorem mv (r:Rat)(h:1<=j):eT r j=eT r (j-1)*r/(j:Rat):=by
 obtain ⟨i,rfl⟩:∃ i,j=i+1:=⟨j-1,by omega⟩;rfl
theorem Sb {r:Dy}(p1:1<=p)(p2:p<=2000)(hr:r.m≠0)(rn:r.neg=false)(hr1:-500<=r.e)(hr2:Bj r<=-8)(j1:1<=j)(j2:j<=500)(h:NI p up r.q j s t) :
 (Db p up r t j).m≠0/\(Db p up r t j).neg=false/\bl (Db p up r t j).m<=p/\(Db p up r t j).q<=pw (-8*(j:Int))/\Bj t+Bj r-25<=Bj (Db p up r t j) /\
   (if up then eT r.q j<=(Db p up r t j).q else (Db p up r t j).q<=eT r.q j):=by
 have tp:=aO h.t0 h.tn;have tt:=(Lp h.t0 h.tn).1;have rp:=aO hr rn;have rt:r.q<pw (-8):=by
  have:=(Lp hr rn).2;have:=Gz hr2;grind
 have t4:Bj t<=100:=by
  have a:=h.t2;have b:=Gz (show -8*((j:Int)-1)<=0 by omega);have c:pw (Bj t-1)<=pw 0:=by grind
  have:=dA c;omega
 have t3:=h.t3;obtain ⟨a1,a2,a3⟩:=U0 (up:=up) p1 p2 hr hr1 hr2 h.t0 h.tb (by omega) t4 j1 (by omega);obtain ⟨b1,b2,b3⟩:=du (up:=up) p1 p2 hr rn hr1 hr2 h.t0 h.tn h.tb (by omega) t4 j1 (by omega);have hj:(1:Rat)<=(j:Rat):=by exact_mod_cast j1
 have hji:(0:Rat)<(j:Rat)⁻¹:=Rat.inv_pos.2 (by grind);have hjm:(j:Rat)*(j:Rat)⁻¹=1:=Rat.mul_inv_cancel _ (by grind);have hji1:(j:Rat)⁻¹<=1:=by
  have:=Rat.mul_le_mul_of_nonneg_right hj (Rat.le_of_lt hji);grind
 have tr0:0<t.q*r.q:=Rat.mul_pos tp rp;have hle:t.q*r.q/(j:Rat)<=t.q*r.q:=by
  rw [Rat.div_def];have:=Rat.mul_le_mul_of_nonneg_left hji1 (Rat.le_of_lt tr0);grind
 refine ⟨a1,b1,a2,?_,b3,?_⟩
 ·refine My b2 (Jc p1 _) (Rat.le_trans hle ?_);have e:-8*(j:Int)=-8*((j:Int)-1)+-8:=by omega
  rw [e,Fz];have c1:=Rat.mul_le_mul_of_nonneg_right h.t2 (Rat.le_of_lt rp);have c2:=Rat.mul_le_mul_of_nonneg_left (Rat.le_of_lt rt) (Dx (-8*((j:Int)-1)));exact Rat.le_trans c1 c2
 ·have hd:=h.dir;have hm:∀ {x y:Rat},x≤y→x*r.q/(j:Rat)≤y*r.q/(j:Rat):=fun hxy=>by
   rw [Rat.div_def,Rat.div_def];exact Rat.mul_le_mul_of_nonneg_right (Rat.mul_le_mul_of_nonneg_right hxy (Rat.le_of_lt rp)) (Rat.le_of_lt hji)
  rw [mv _ j1];cases up with
  | true =>
    rw [Ak rfl] at hd
    show _<=_
    exact Rat.le_trans (hm hd.1) (IsUp.le b2)
  | false =>
    rw [Af (by decide)] at hd
    show _<=_
    exact Rat.le_trans (IsDown.le b2) (hm hd.1)
theorem NI.next {r:Dy}(p1:17<=p)(p2:p<=2000)(hr:r.m≠0)(rn:r.neg=false)(hr1:-500<=r.e)(hr2:Bj r<=-8)(j1:1<=j)(j2:j<=499)(h:NI p up r.q j s t) :
 (s.q+(Db p up r t j).q<2)/\(-4095<=(Db p up r t j).e->(Es p up s (Db p up r t j)).m≠0/\(Es p up s (Db p up r t j)).neg=false/\bl (Es p up s (Db p up r t j)).m<=p/\1<=(Es p up s (Db p up r t j)).q /\
   (Es p up s (Db p up r t j)).q<=(sB (j+1):Rat)*pw (-16)/\(if up then eS r.q (j+1)<=(Es p up s (Db p up r t j)).q else (Es p up s (Db p up r t j)).q<=eS r.q (j+1))) /\
   ((Db p up r t j).e < -4095->Es p up s (Db p up r t j)=dz):=by
 obtain ⟨a1,a2,a3,a4,a5,a6⟩:=Sb (up:=up) (s:=s) (by omega) p2 hr rn hr1 hr2 j1 (by omega) h;have tk:(Db p up r t j).Ok:=(Kx _ _ _ _).1;generalize Db p up r t j=t' at *;have hs:=h.s2;have hb:=nN j1;have hb2:=oO (show j+1<=500 by omega);have hsum:s.q+t'.q<=(sB (j+1):Rat)*pw (-16):=by grind
 have hlt:s.q+t'.q<2:=by grind
 have tp:=aO a1 a2;obtain ⟨c1,c2⟩:=fq (up:=up) (by omega) p2 h.s0 h.sn h.sb h.s1 a1 a2 tk hlt;refine ⟨hlt,λhe=>?_,c2⟩;obtain ⟨d1,d2,d3,d4⟩:=c1 he;refine ⟨d3,d2,d4,?_,My d1 (nM (by omega) p1) hsum,?_⟩
 ·have:=h.s1;exact N6 d1 (Hc (by omega)) (by grind)
 ·have hd:=h.dir;have e:eS r.q (j+1)=eS r.q j+eT r.q j:=rfl;rw [e];cases up with
  | true =>
    have hd2:eT r.q (j-1)<=t.q/\eS r.q j<=s.q:=hd;have a6':eT r.q j<=t'.q:=a6
    show _<=_
    have:=IsUp.le d1;grind
  | false =>
    have hd2:t.q<=eT r.q (j-1)/\s.q<=eS r.q j:=hd;have a6':t'.q<=eT r.q j:=a6
    show _<=_
    have:=IsDown.le d1;grind
def Tx (p:Nat) (r x:Dy):Prop:=(x=dz/\Bj r < -60\/x.m≠0/\x.neg=false/\bl x.m<=p/\1<=x.q/\x.q<2)/\∃ n,1<=n/\x.q<=eS r.q n
def Tw (p:Nat) (r x:Dy):Prop:=x.m≠0/\x.neg=false/\bl x.m<=p/\(Bj r < -60/\x.q<=1/2/\-6000<=Bj x\/1<=x.q/\x.q<2/\∀ n,eS r.q n<=x.q)
theorem jV {r:Dy}(p1:17<=p)(p2:p<=2000)(hr:r.m≠0)(rn:r.neg=false)(hr1:-500<=r.e)(hr2:Bj r<=-8)(j1:1<=j)(j2:j<=498)(h:NI p up r.q j s t) :
 if up then Tw p r (J5 p up (Es p up s (Db p up r t j),Db p up r t j)) else Tx p r (J5 p up (Es p up s (Db p up r t j),Db p up r t j)):=by
 obtain ⟨a1,a2,a3,a4,a5,a6⟩:=Sb (up:=up) (s:=s) (by omega) p2 hr rn hr1 hr2 j1 (by omega) h;obtain ⟨b1,b2,b3⟩:=h.next p1 p2 hr rn hr1 hr2 j1 (by omega);have tk:(Db p up r t j).Ok:=(Kx _ _ _ _).1;have t3:=h.t3;generalize Db p up r t j=t' at *;have rp:=aO hr rn;have tp:=aO a1 a2;have rt:r.q<=1/2:=by
  have:=(Lp hr rn).2;have:=Gz (show Bj r<=-1 by omega);have e:=aM;grind
 have a5':Bj t+Bj r-25<=(bl t'.m:Int)+t'.e:=a5;by_cases he:-4095<=t'.e
 ·obtain ⟨c1,c2,c3,c4,c5,c6⟩:=b2 he;have hb2:=oO (show j+1≤500 by omega);cases up with
  | false =>
    show Tx _ _ _
    refine ⟨.inr ⟨c1,c2,c3,c4,?_⟩,j+1,by omega,c6⟩
    show (Es p false s t').q<2
    grind
  | true =>
    show Tw p r (Es p true (Es p true s t') t')
    have a6':eT r.q j<=t'.q:=a6;have c6':eS r.q (j+1)<=(Es p true s t').q:=c6;have t8:t'.q<=pw (-8):=Rat.le_trans a4 (Gz (by omega));have e8:=rQ;generalize Es p true s t'=s' at *;have c5':=Rat.le_trans c5 hb2;have t8':t'.q<=1/256:=by rw [<-e8];exact t8
    clear hb2 c5 t8 e8 b1 b2 b3 a4 a5' h a5;obtain ⟨d1,-⟩:=fq (up:=true) (by omega) p2 c1 c2 c3 c4 a1 a2 tk (by grind);obtain ⟨f1,f2,f3,f4⟩:=d1 he;have hup:=IsUp.le f1;refine ⟨f3,f2,f4,.inr ⟨by grind,?_,λn=>?_⟩⟩
    ·have hf:Fits p (3/2):=by
      have:=(L8 (p:=p) (m:=3) (Bp (Gl 3 2 (by decide)) (by omega))).pw (-1);have e:((3:Nat):Rat)*pw (-1)=3/2:=by decide +kernel
      rwa [e] at this
     have:=My f1 hf (by grind);grind
    ·have:=mr (Rat.le_of_lt rp) rt j n;grind
 ·have h0:=b3 (by omega);have hr60:Bj r < -60:=by omega
  cases up with
  | false =>
    show Tx _ _ _
    refine ⟨.inl ⟨h0,hr60⟩,1,by omega,?_⟩
    show (Es p false s t').q<=_
    rw [h0,ah,cQ]
    decide
  | true =>
    show Tw p r (Es p true (Es p true s t') t')
    rw [h0];have e:Es p true dz t'=I7 p true t':=by
     unfold Es Ey;rw [Ak (show dz.m=0 from rfl)];rfl
    rw [e];have tt:Bj t'<=0:=by
     have c:=(Lp a1 a2).1;have d:=Gz (show -8*(j:Int)<=-8 by omega);have f:pw (Bj t'-1)<=pw (-8):=by grind
     have:=dA f;omega
    have hr3:Bj r=(bl r.m:Int)+r.e:=rfl;have te:-5000<=t'.e:=by omega
    obtain ⟨c1,c2,c3,c4⟩:=U9 (up:=true) (by omega) p2 a1 (by omega) (by omega);refine ⟨c3,c2.trans a2,c4,.inl ⟨hr60,?_,?_⟩⟩
    ·have f2:=Jc (p:=p) (by omega) (-1);have e2:=aM;rw [<-e2];exact My c1 f2 (Rat.le_trans a4 (Gz (by omega)))
    ·have u1:=N6 c1 (Jc (by omega) (Bj t'-1)) (Lp a1 a2).1;have:=Zi c3 (c2.trans a2) u1;have e3:Bj t'=(bl t'.m:Int)+t'.e:=rfl;omega
theorem Yz {p:Nat}{up:Bool}{r:Dy}(p1:17<=p)(p2:p<=2000)(hr:r.m≠0)(rn:r.neg=false)(hr1:-500<=r.e)(hr2:Bj r<=-8):∀ (f j:Nat) (s t:Dy) (o:Dy × Dy),NI p up r.q j s t->1<=j->j+f<=498->G6 p up r f j s t=some o ->
 if up then Tw p r (J5 p up o) else Tx p r (J5 p up o)
 | 0,j,s,t,o,_,_,_,h=>by simp [G6] at h
 | f + 1, j, s, t, o, hI, j1, j2, h => by
   rw [G6] at h;split at h
   ·obtain rfl:=Option.some.inj h;exact jV p1 p2 hr rn hr1 hr2 j1 (by omega) hI
   ·rename_i hc;obtain ⟨a1,a2,a3,a4,a5,a6⟩:=Sb (up:=up) (s:=s) (by omega) p2 hr rn hr1 hr2 j1 (by omega) hI;obtain ⟨b1,b2,b3⟩:=hI.next p1 p2 hr rn hr1 hr2 j1 (by omega);have he:-4095≤(Db p up r t j).e:=by
     have:¬(bl (Db p up r t j).m:Int)+(Db p up r t j).e < -(p:Int)-8:=hc;omega
    obtain ⟨c1,c2,c3,c4,c5,c6⟩:=b2 he;refine Yz p1 p2 hr rn hr1 hr2 f (j+1) _ _ o ⟨c1,c2,c3,c4,c5,a1,a2,a3,?_,by omega,?_⟩ (by omega) (by omega) h
    ·have e:-8*(((j+1:Nat):Int)-1)=-8*(j:Int):=by omega
     rw [e];exact a4
    ·cases up with
     | true=>exact ⟨a6,c6⟩
     | false=>exact ⟨a6,c6⟩
theorem nX {r:Raw}{p:Int}(hv:DyR w v r)(hl:r.m.length<=17592186044416)(hT:Tab w)(h0:Gi r p≠0) :
 Calls Tryz.prog 144 #[v,.int .i64 p,.bool up] w (RetE ⟨rz,Gi r p⟩ w):=by
 have C:=Ad (λw1 (k:Kept w w1)=>Wc (p:=p) (hv.kept k) hl (hT.kept k));obtain ⟨A,l,c,rfl,hs⟩:=Bf hv;clear hv hs hl hT;generalize Gi r p=k at *;generalize r.neg=n1,r.e=e1 at *;have hk:(k != 0)=true:=by simpa using h0
 clear h0;obtain ⟨W,hW,kW,BA,BR⟩:=Mt w (.bool n1) (.slice A l c) (.int .i64 e1);have HW:=Ad hW;have K:=Ad kW;have HB:=Ad BR;obtain ⟨-,a0,a1,a2,-⟩:=BA.facts;clear hW kW BA BR;go_enter Tryz.func144,Tryz.ntmps144;go_upto_region 1 with fail;rw [<-HW.o];go_step3;go_wp2_with fail;refine (C.o _ K.o).mono ?_;rintro ee w1 ⟨rfl,q⟩;simp only [];replace K:=Ad (K.o.trans q);replace HB:=Ad (HB.o.kept q);clear q a0 a1 a2;obtain ⟨-,x0,x1,x2,f0,f1,f2⟩:=HB.o.facts;go_wp2_with fail;exact Fa (HB.o.laid _ _ _) rfl rfl rfl ⟨Au K.o (by omega),_,rfl,Cw _⟩
theorem nV {p:Int}(hv:DyR w v d.raw)(ok:d.Ok)(hT:Tab w)(h0:Gi d.raw p=0)(hz:d.m=0) :
 Calls Tryz.prog 144 #[v,.int .i64 p,.bool up] w (RetE ⟨one.raw,0⟩ w):=by
 have C:=Ad (λw1 (k:Kept w w1)=>Wc (p:=p) (hv.kept k) (by have:=Eb ok;omega) (hT.kept k));rw [h0] at C;have CO:=Ad (λw1 (k:Kept w w1)=>show Calls Tryz.prog 20 #[.int .i64 1,.int .i64 0] w1 (RetE ⟨one.raw,0⟩ w1) by
  have h:=Rv (w:=w1) (k:=1) (e:=0) (by decide) (by decide) (by decide) (hT.kept k);rw [jf] at h;exact h)
 obtain ⟨A,l,c,rfl,hl,-,-,-⟩:=hv.shape;have hl0:l=0:=by rw [hl];show (Al d.m).length=0;rw [hz,Be];rfl
 subst hl0;clear hv hl hT ok hz h0;generalize d.raw.neg=n1,d.raw.e=e1 at *;obtain ⟨W,hW,kW,BA,BR⟩:=Mt w (.bool n1) (.slice A 0 c) (.int .i64 e1);have HW:=Ad hW;have K:=Ad kW;have HA:=Ad BA;have HB:=Ad BR;obtain ⟨-,a0,a1,a2,-⟩:=BA.facts;clear hW kW BA BR;go_enter Tryz.func144,Tryz.ntmps144;go_upto_region 1 with fail;rw [<-HW.o];go_step3;go_wp2_with fail;refine (C.o _ K.o).mono ?_;rintro ee w1 ⟨rfl,q⟩;simp only [];replace K:=Ad (K.o.trans q);replace HA:=Ad (HA.o.kept q);replace HB:=Ad (HB.o.kept q);clear q a0 a1 a2;obtain ⟨-,a0,a1,a2,-⟩:=HA.o.facts;go_wp2_with fail
 refine (CO.o _ K.o).mono ?_;rintro ee w2 ⟨q,u,rfl,hd⟩;obtain ⟨A5,j5,c5,rfl,-,hd,g1,g2⟩:=hd.shape;simp only [];replace K:=Ad (K.o.trans q);replace HB:=Ad (HB.o.kept q);have HD:=Ad hd;clear q a0 a1 a2 hd;obtain ⟨-,x0,x1,x2,f0,f1,f2⟩:=HB.o.facts;go_wp2_with fail;exact Fa (HB.o.laid _ _ _) rfl rfl rfl ⟨Au K.o (by omega),_,rfl,(HD.o.dyW HB.o (Ah _) (Ag _ _ _) (Aj _)).dyR g1 g2⟩
def Fv (p:Nat) (up:Bool) (d:Dy):Dy × Dy:=(G6 p up (H9 (Ds d)) 400 1 one one).getD (one,one)
def Wg (d:Dy) (w:Nat):Dy × Dy:=Np w d (Jw w false d (Fv w false d)) (Jw w true d (Fv w true d))
def io (d:Dy) (p w:Nat) (up:Bool):Dy:=I7 p up (Wg d w).1
def mz (d:Dy) (p w:Nat) (up:Bool):Dy:=I7 p up (Wg d w).2
def Qf (d:Dy) (p:Nat) (up:Bool):Nat->Nat->Outc Dy
 | 0,_=>Wv 2
 | f+1,w=>if 2000<w then Wv 2 else if Mk (io d p w up).raw (mz d p w up).raw=true then good (io d p w up) else Qf d p up f (w+w/2)
def Ha (d:Dy) (p:Nat) (up:Bool):Outc Dy:=if Gi d.raw p≠0 then Wv (Gi d.raw p) else if d.m=0 then good one else Qf d p up 2000 (p+40)
theorem iZ (d:Dy)(p w:Nat)(up:Bool):(io d p w up).Ok:=Pp _ _ _
theorem eW (d:Dy)(p:Nat)(up:Bool):∀ f w,(Qf d p up f w).Ok
 | 0,_=>Nz _
 | f + 1, w => by
   rw [Qf];split
   ·exact Nz _
   ·split
    ·exact Q7 (iZ _ _ _ _)
    ·exact eW d p up f _
theorem eV (d:Dy)(p:Nat)(up:Bool):(Ha d p up).Ok:=by
 unfold Ha;split
 ·exact Nz _
 ·split
  ·exact Q7 J4
  ·exact eW _ _ _ _ _
def ExB (S:Nat) (z:Bool) (d:Dy) (v:Value) (w:World):Prop:=∃ b,v=.pointer (some ⟨b,0,none⟩)/\S<=b/\(z=false->Blk w b (.bool false) (.slice none 0 0) (.int .i64 0)) /\
 (z=true->∃ A l c,Blk w b (.bool d.neg) (.slice A l c) (.int .i64 d.e)/\DyR w (.agg #[.bool d.neg,.slice A l c,.int .i64 d.e]) d.raw)
theorem ExB.kept (h:ExB S z d v w)(k:Kept w w'):ExB S z d v w':=by
 obtain ⟨b,h1,h2,h4,h5⟩:=h;exact ⟨b,h1,h2,λe=>(h4 e).kept k,λe=>by obtain ⟨A,l,c,a1,a2⟩:=h5 e;exact ⟨A,l,c,a1.kept k,a2.kept k⟩⟩
theorem ExB.ne (h:ExB S z d v w):v≠.pointer (some ⟨w.heap.size,0,none⟩):=by
 obtain ⟨b,rfl,h2,h4,h5⟩:=h;intro e;have hb:b<w.heap.size:=by
  cases z with
  | false=>exact (h4 rfl).facts.1
  | true=>obtain ⟨A,l,c,a1,a2⟩:=h5 rfl;exact a1.facts.1
 cases e;omega
theorem ExB.new (d:Dy)(h:S<=w.heap.size):ExB S false d (.pointer (some ⟨w.heap.size,0,none⟩)) (w.alloc (.cells #[.bool false,.slice none 0 0,.int .i64 0] 28)) :=
 ⟨_,rfl,h,λ_=>El _,λe=>by cases e⟩
theorem ExB.other (h:ExB S z d v w)(hb:Blk w b0 (.bool false) (.slice none 0 0) (.int .i64 0))(hv:v≠.pointer (some ⟨b0,0,none⟩))(x' y' z':Value) :
 ExB S z d v (dyW w b0 x' y' z'):=by
 obtain ⟨b,h1,h2,h4,h5⟩:=h;have hne:¬b=b0:=λe=>hv (by rw [h1,e])
 refine ⟨b,h1,h2,λe=>(h4 e).laid_other hne _ _ _,λe=>?_⟩;obtain ⟨A,l,c,a1,a2⟩:=h5 e;exact ⟨A,l,c,a1.laid_other hne _ _ _,a2.dyW hb (Ah _) (Ag _ _ _) (Aj _) _ _ _⟩
theorem ExB.laid (hb:Blk w b0 (.bool false) (.slice none 0 0) (.int .i64 0))(hS:S<=b0)(hd:DyR w (.agg #[.bool d.neg,.slice A l c,.int .i64 d.e]) d.raw) :
 ExB S true d (.pointer (some ⟨b0,0,none⟩)) (dyW w b0 (.bool d.neg) (.slice A l c) (.int .i64 d.e)) :=
 ⟨_,rfl,hS,λe=>(by cases e),λ_=>⟨A,l,c,hb.laid _ _ _,hd.dyW hb (Ah _) (Ag _ _ _) (Aj _) _ _ _⟩⟩
def ExG (S:Nat) (x y:Dy) (L:Nat->Bool) (u:Nat->Value) (w:World):Prop :=
 (L 10=true->ExB S (L 12) x (u 10) w)/\(L 11=true->ExB S (L 13) y (u 11) w)/\(L 10=true->L 11=true->u 10≠u 11)/\(L 10=false->L 12=false)/\(L 11=false->L 13=false)
theorem ExG.keep (hE:(i==10||i==11||i==12||i==13)=false)(k:Kept w w')(h:ExG S x y L u w):ExG S x y (Fg L i true) (Fg u i v) w':=by
 simp only [Bool.or_eq_false_iff,Ek] at hE;obtain ⟨⟨⟨h10,h11⟩,h12⟩,h13⟩:=hE;obtain ⟨a,b,c,d,e⟩:=h;have u1:∀ {α:Type} (f:Nat->α) (x:α) (j:Nat),¬i=j->Fg f i x j=f j:=λf x j hj=>by unfold Fg;rw [Af (λe=>hj e.symm)]
 refine ⟨?_,?_,?_,?_,?_⟩<;>simp only [u1 _ _ 10 h10,u1 _ _ 11 h11,u1 _ _ 12 h12,u1 _ _ 13 h13]
 ·exact λq=>(a q).kept k
 ·exact λq=>(b q).kept k
 ·exact c
 ·exact d
 ·exact e
theorem ExG.put10 (hS:S<=w.heap.size)(h:ExG S x y L u w)(h0:L 10=false) :
 ExG S x y (Fg L 10 true) (Fg u 10 (.pointer (some ⟨w.heap.size,0,none⟩))) (w.alloc (.cells #[.bool false,.slice none 0 0,.int .i64 0] 28)):=by
 obtain ⟨a,b,c,d,e⟩:=h;have h12:=d h0;unfold ExG;simp only [Fg,reduceIte,Nat.reduceEqDiff,h12];exact ⟨λ_=>ExB.new x hS,λq=>(b q).kept (Ab _ _),λ_ q=>λe=>(b q).ne e.symm,λq=>trivial,e⟩
theorem ExG.put11 (hS:S<=w.heap.size)(h:ExG S x y L u w)(h0:L 11=false) :
 ExG S x y (Fg L 11 true) (Fg u 11 (.pointer (some ⟨w.heap.size,0,none⟩))) (w.alloc (.cells #[.bool false,.slice none 0 0,.int .i64 0] 28)):=by
 obtain ⟨a,b,c,d,e⟩:=h;have h13:=e h0;unfold ExG;simp only [Fg,reduceIte,Nat.reduceEqDiff,h13];exact ⟨λq=>(a q).kept (Ab _ _),λ_=>ExB.new y hS,λq _=>(a q).ne,d,λq=>trivial⟩
theorem ExG.put12 (h:ExG S x y L u w)(h0:L 10=true)(e0:u 10=.pointer (some ⟨b0,0,none⟩))(hS:S<=b0)
 (hb:Blk w b0 (.bool false) (.slice none 0 0) (.int .i64 0)) (hd:DyR w (.agg #[.bool x.neg,.slice A l c,.int .i64 x.e]) x.raw) :
 ExG S x y (Fg L 12 true) (Fg u 12 v) (dyW w b0 (.bool x.neg) (.slice A l c) (.int .i64 x.e)):=by
 obtain ⟨a,b,c,d,e⟩:=h;unfold ExG;simp only [Fg,reduceIte,Nat.reduceEqDiff,h0];refine ⟨λ_=>by rw [e0];exact ExB.laid hb hS hd,λq=>(b q).other hb (λee=>c h0 q (e0.trans ee.symm)) _ _ _,λ_ q=>c h0 q,λq=>by (cases q),e⟩
theorem ExG.put13 (h:ExG S x y L u w)(h0:L 11=true)(e0:u 11=.pointer (some ⟨b0,0,none⟩))(hS:S<=b0)
 (hb:Blk w b0 (.bool false) (.slice none 0 0) (.int .i64 0)) (hd:DyR w (.agg #[.bool y.neg,.slice A l c,.int .i64 y.e]) y.raw) :
 ExG S x y (Fg L 13 true) (Fg u 13 v) (dyW w b0 (.bool y.neg) (.slice A l c) (.int .i64 y.e)):=by
 obtain ⟨a,b,c,d,e⟩:=h;unfold ExG;simp only [Fg,reduceIte,Nat.reduceEqDiff,h0];refine ⟨λq=>(a q).other hb (λee=>c q h0 (ee.trans e0.symm)) _ _ _,λ_=>by rw [e0];exact ExB.laid hb hS hd,λq _=>c q h0,d,λq=>by (cases q)⟩
theorem iY (w:World):DyR w (.agg #[.bool false,.slice none 0 0,.int .i64 0]) (Wv 2:Outc Dy).raw.v:=by
 have h:(Wv 2:Outc Dy).raw.v=rz:=Ge;rw [h];exact Cw w
theorem nY (hv:DyR w v d.raw)(ok:d.Ok)(p1:1≤p)(p2:p≤300)(hT:Tab w)(h0:Gi   d.raw p=0)(hz:d.m≠0)
 (hB:∀ wk:Nat,1<=wk->wk<=2000->∀ w1,Kept w w1->Calls Tryz.prog 184 #[v,.int .i64 (wk:Int)] w1 (iw (Wg d wk).1.raw (Wg d wk).2.raw w1))
 (hO:∀ wk,(Wg d wk).1.Ok/\(Wg d wk).2.Ok) :
 Calls Tryz.prog 144 #[v,.int .i64 (p:Int),.bool up] w (RetE (Qf d p up 2000 (p+40)).raw w):=by
 have C:=Ad (λw1 (k:Kept w w1)=>Wc (p:=(p:Int)) (hv.kept k) (by have:=Eb ok;omega) (hT.kept k));rw [h0] at C;have CB:=Ad hB;have C1:=Ad (λ(wk:Nat) w1 v (k:Kept w w1) (h:DyR w1 v (Wg d wk).1.raw)=>show Calls Tryz.prog 185 #[.agg #[.int .i64 (p:Int),.bool up],v] w1 (RetD (io d p wk up).raw w1) from O6 h (hO wk).1 p1 (by omega) (hT.kept k));have C2:=Ad (λ(wk:Nat) w1 v (k:Kept w w1) (h:DyR w1 v (Wg d wk).2.raw)=>show Calls Tryz.prog 185 #[.agg #[.int .i64 (p:Int),.bool up],v] w1 (RetD (mz d p wk up).raw w1) from O6 h (hO wk).2 p1 (by omega) (hT.kept k))
 have CS:=Ad (λ(wk:Nat) w1 v u (h:DyR w1 v (io d p wk up).raw) (h2:DyR w1 u (mz d p wk up).raw)=>show Calls Tryz.prog 35 #[v,u] w1 (RetK (.bool (Mk (io d p wk up).raw (mz d p wk up).raw)) w1) from
  Yg h h2 (by have:=Eb (iZ d p wk up);omega))
 obtain ⟨A,l,c,rfl,hl,-,-,-⟩:=hv.shape;have hl0:((l:Int)==0)=false:=by
  have:=Br d.m hz;rw [Ek,hl]
  show ((Al d.m).length:Int)≠0
  omega
 clear hv hl hT ok hz h0 hB hO;obtain ⟨fu,hf0⟩:∃ f,f=2000:=⟨_,rfl⟩;rw [<-hf0];obtain ⟨o,ho⟩:∃ o,o=Qf d p up fu (p+40):=⟨_,rfl⟩;rw [<-ho];have HO:=Ad ho;have HF:=Ad hf0;clear ho hf0;generalize hn1:d.raw.neg=n1,he1:d.raw.e=e1 at *;clear hn1 he1;obtain ⟨W,hW,kW,BA,BR⟩:=Mt w (.bool n1) (.slice A l c) (.int .i64 e1);have HW:=Ad hW;have K:=Ad kW;have HA:=Ad BA;have HB:=Ad BR;obtain ⟨-,a0,a1,a2,-⟩:=BA.facts;clear hW kW BA BR;go_enter Tryz.func144,Tryz.ntmps144;go_upto_region 1 with fail;rw [<-HW.o];go_step3;go_wp2_with fail;refine (C.o _ K.o).mono ?_;rintro ee w1 ⟨rfl,q⟩
 simp only [];replace K:=Ad (K.o.trans q);replace HA:=Ad (HA.o.kept q);replace HB:=Ad (HB.o.kept q);clear q a0 a1 a2 HW C;obtain ⟨-,a0,a1,a2,-⟩:=HA.o.facts;go_wp2_with fail;go_step3;go_wp2_with fail;clear a0 a1 a2 hl0
 go_loopw [9] (λj wr=>∃ f wk:Nat,j=.int .i64 (wk:Int)/\2<=wk/\2000<wk+f/\Qf d p up f wk=o/\wk<=3000/\Kept w wr/\Blk wr w.heap.size (.bool n1) (.slice A l c) (.int .i64 e1) /\
  Blk wr (w.heap.size+1) (.bool false) (.slice none 0 0) (.int .i64 0)) (λj _=>(3001-intOf j).toNat)
 case atStart=>exact ⟨fu,p+40,by simp,by omega,by have:=HF.o;omega,HO.o.symm,by omega,K.o,HA.o,HB.o⟩
 case round =>
  clear HO K HA HB;obtain ⟨f,wk,rfl,hw1,hw2,hE,hw3,hK,hA,hB⟩:=hrel;have K:=Ad hK;have HA:=Ad hA;have HB:=Ad hB;have HE:=Ad hE;clear hK hA hB hE;obtain ⟨-,a0,a1,a2,-⟩:=HA.o.facts;obtain ⟨-,x0,x1,x2,y0,y1,y2⟩:=HB.o.facts;cases f with
  | zero =>
    have hwk:2000<wk:=by omega
    have ho:o=Wv 2:=HE.o.symm;subst ho;clear HE;go_wp2_with fail;exact Fa (HB.o.laid _ _ _) rfl rfl rfl ⟨Au K.o (by omega),_,rfl,iY _⟩
  | succ f =>
    have hE:=HE.o;rw [Qf] at hE;by_cases hwk:2000<wk
    ·rw [Ak hwk] at hE;subst hE;clear HE;go_wp2_with fail;exact Fa (HB.o.laid _ _ _) rfl rfl rfl ⟨Au K.o (by omega),_,rfl,iY _⟩
    ·rw [Af    hwk] at hE;replace HE:=Ad  hE;have hwk':wk≤2000:=by omega
     clear hE hwk;have CBw:=Ad (CB.o wk (by omega) hwk');go_wp2_with fail;refine (CBw.o _ K.o).mono ?_;rintro ee w2 ⟨q,va,vb,rfl,h1,h2⟩;obtain ⟨A1,j1,c1,rfl,h1⟩:=Bx h1;obtain ⟨A2,j2,c2,rfl,h2⟩:=Bx h2;simp only [];obtain ⟨W2,hW2,kW2,BL,BH⟩:=T8 w2 (.bool (Wg d wk).1.neg) (.slice A1 j1 c1) (.int .i64 (Wg d wk).1.e) (.bool (Wg d wk).2.neg) (.slice A2 j2 c2) (.int .i64 (Wg d wk).2.e);have HW2:=Ad hW2;have kk:=q.trans kW2;have lR:w.heap.size+1<w2.heap.size:=Dn HB.o.facts.1 q.size;have lW:w2.heap.size<=W2.heap.size:=kW2.size;replace K:=Ad (K.o.trans kk)
     replace HA:=Ad (HA.o.kept kk);replace HB:=Ad (HB.o.kept kk);have HL:=Ad BL;have HH:=Ad BH;have ZL:=Ad (h1.kept kW2);have ZH:=Ad (h2.kept kW2);clear hW2 kW2 BL BH q h1 h2 kk CBw a0 a1 a2 x0 x1 x2 y0 y1 y2;replace C1:=Ad (C1.o wk);replace C2:=Ad (C2.o wk);replace CS:=Ad (CS.o wk);generalize Wg d wk=lh at *;obtain ⟨lo,hi⟩:=lh;generalize hxe:io d p wk up=x at *;generalize hye:mz d p wk up=y at *;clear hxe hye;go_upto_region 10 with fail;rw [<-HW2.o];clear HW2;generalize w2.heap.size=b10 at *;have NN:∀ b:Nat,b∉([]:List Nat):=λb=>by simp
     refine aW (m:=14) (E:=λi=>i==10||i==11||i==12||i==13) (G:=λL u w'=>ExG W2.heap.size x y L u w') (J:=λL w=>KB W2 [] w/\(λL w'=>True) L w) (l:=[(vE (.int .i64 (p:Int))),(vE (.bool up)),(vE (.agg #[.int .i64 (p:Int),.bool up])),(vE (.agg #[.bool lo.neg,.slice A1 j1 c1,.int .i64 lo.e])),(λv wv=>DyR wv v x.raw),(vE (.int .i64 (p:Int))),(vE (.bool up)),(vE (.agg #[.int .i64 (p:Int),.bool up])),(vE (.agg #[.bool hi.neg,.slice A2 j2 c2,.int .i64 hi.e])),(λv wv=>DyR wv v y.raw),(λv _=>∃ b,v=.pointer (some ⟨b,0,none⟩)),(λv _=>∃ b,v=.pointer (some ⟨b,0,none⟩)),(λv _=>True),(λv _=>True)])
      (by kernel_rfl) (λi hE L u v w w' k h=>by exact ExG.keep hE k h) (by exact ⟨λe=>(by cases e),λe=>(by cases e),λe=>(by cases e),λ_=>rfl,λ_=>rfl⟩) rfl (by kernel_rfl) (by kernel_rfl) (by kernel_rfl) ⟨mE,mE,mE,mE,mD,mE,mE,mE,mE,mD,λv w w' k h=>by first | exact h | exact h.kept k | exact ⟨h.1,h.2.kept k⟩,λv w w' k h=>by first | exact h | exact h.kept k | exact ⟨h.1,h.2.kept k⟩,λv w w' k h=>by first | exact h | exact h.kept k | exact ⟨h.1,h.2.kept k⟩,λv w w' k h=>by first | exact h | exact h.kept k | exact ⟨h.1,h.2.kept k⟩,trivial⟩ ⟨(KB.refl _ _).drew,(by trivial)⟩ (⟨
        (.inl ⟨rfl,λLF aF wF F=>by
      have FK:KB W2 [] wF:=F.frame.1;have fj:=F.frame.2;refine ⟨λwq kq=>⟨FK.step kq,by trivial⟩,?_⟩;have s1:=F.q 1 (.int .i64 (p:Int))
      exact sv rfl⟩),
       (.inl ⟨rfl,λLF aF wF F=>by
      have FK:KB W2 [] wF:=F.frame.1;have fj:=F.frame.2;refine ⟨λwq kq=>⟨FK.step kq,by trivial⟩,?_⟩;have s2:=F.q 2 (.bool up)
      exact sv rfl⟩),
       (.inl ⟨rfl,λLF aF wF F=>by
      have FK:KB W2 [] wF:=F.frame.1;have fj:=F.frame.2;refine ⟨λwq kq=>⟨FK.step kq,by trivial⟩,?_⟩;have s42:=F.v 0 42;have s43:=F.v 1 43;simp only [Cv] at s42;simp only [Cv] at s43
      exact sv rfl⟩),
       (.inl ⟨rfl,λLF aF wF F=>by
      have FK:KB W2 [] wF:=F.frame.1;have fj:=F.frame.2;refine ⟨λwq kq=>⟨FK.step kq,by trivial⟩,?_⟩;have s10:=F.q 10 (.pointer (some ⟨b10,0,none⟩));have c0:=Bt HL.o FK (NN _) 0 _ rfl;have c1:=Bt HL.o FK (NN _) 1 _ rfl;have c2:=Bt HL.o FK (NN _) 2 _ rfl
      exact sv rfl⟩),
       (.inl ⟨rfl,λLF aF wF F=>by
      have FK:KB W2 [] wF:=F.frame.1;have fj:=F.frame.2;refine ⟨λwq kq=>⟨FK.step kq,by trivial⟩,?_⟩;have s44:=F.v 2 44;have s45:=F.v 3 45
      exact Ax (by simp [Region.wanted]) (by go_simp) (C1.o _ _ (K.o.trans FK.nil) (ZL.o.kept FK.nil)) (λ_ _ h=>RetD.good h) (λ_ _ h=>h)⟩),
       (.inl ⟨rfl,λLF aF wF F=>by
      have FK:KB W2 [] wF:=F.frame.1;have fj:=F.frame.2;refine ⟨λwq kq=>⟨FK.step kq,by trivial⟩,?_⟩;have s1:=F.q 1 (.int .i64 (p:Int))
      exact sv rfl⟩),
       (.inl ⟨rfl,λLF aF wF F=>by
      have FK:KB W2 [] wF:=F.frame.1;have fj:=F.frame.2;refine ⟨λwq kq=>⟨FK.step kq,by trivial⟩,?_⟩;have s2:=F.q 2 (.bool up)
      exact sv rfl⟩),
       (.inl ⟨rfl,λLF aF wF F=>by
      have FK:KB W2 [] wF:=F.frame.1;have fj:=F.frame.2;refine ⟨λwq kq=>⟨FK.step kq,by trivial⟩,?_⟩;have s47:=F.v 5 47;have s48:=F.v 6 48;simp only [Cv] at s47;simp only [Cv] at s48
      exact sv rfl⟩),
       (.inl ⟨rfl,λLF aF wF F=>by
      have FK:KB W2 [] wF:=F.frame.1;have fj:=F.frame.2;refine ⟨λwq kq=>⟨FK.step kq,by trivial⟩,?_⟩;have s11:=F.q 11 (.pointer (some ⟨b10+1,0,none⟩));have c0:=Bt HH.o FK (NN _) 0 _ rfl;have c1:=Bt HH.o FK (NN _) 1 _ rfl;have c2:=Bt HH.o FK (NN _) 2 _ rfl
      exact sv rfl⟩),
       (.inl ⟨rfl,λLF aF wF F=>by
      have FK:KB W2 [] wF:=F.frame.1;have fj:=F.frame.2;refine ⟨λwq kq=>⟨FK.step kq,by trivial⟩,?_⟩;have s49:=F.v 7 49;have s50:=F.v 8 50
      exact Ax (by simp [Region.wanted]) (by go_simp) (C2.o _ _ (K.o.trans FK.nil) (ZH.o.kept FK.nil)) (λ_ _ h=>RetD.good h) (λ_ _ h=>h)⟩),
       (.inr λLF uF aF wF F FV=>by
      have FK:KB W2 [] wF:=F.frame.1;have fj:=F.frame.2
      exact Vo (by simp [Region.wanted]) (by go_simp) ⟨(FK.nil.trans (Ab _ _)).kb [],trivial⟩ (Ii _ ⟨.inr vS,.inr vS,.inr vS,.inr vS,.inr (λu h=>by first | exact h.kept (Ab _ _) | exact h),.inr vS,.inr vS,.inr vS,.inr vS,.inr (λu h=>by first | exact h.kept (Ab _ _) | exact h),.inl rfl,.inr (λu h=>by first | exact h.kept (Ab _ _) | exact h),.inr (λu h=>h),.inr (λu h=>h),trivial⟩) ⟨_,rfl⟩ (FV.g.put10 FK.size F.yet)),
       (.inr λLF uF aF wF F FV=>by
      have FK:KB W2 [] wF:=F.frame.1;have fj:=F.frame.2
      exact Vo (by simp [Region.wanted]) (by go_simp) ⟨(FK.nil.trans (Ab _ _)).kb [],trivial⟩ (Ii _ ⟨.inr vS,.inr vS,.inr vS,.inr vS,.inr (λu h=>by first | exact h.kept (Ab _ _) | exact h),.inr vS,.inr vS,.inr vS,.inr vS,.inr (λu h=>by first | exact h.kept (Ab _ _) | exact h),.inr (λu h=>by first | exact h.kept (Ab _ _) | exact h),.inl rfl,.inr (λu h=>h),.inr (λu h=>h),trivial⟩) ⟨_,rfl⟩ (FV.g.put11 FK.size F.yet)),
       (.inr λLF uF aF wF F FV=>by
      have FK:KB W2 [] wF:=F.frame.1;have fj:=F.frame.2;have s12:=F.p 10 12;have s46:=F.p 4 46
      obtain ⟨b,hb,hS,B0,-⟩:=FV.g.1 (F.wait 10 (by kernel_rfl));replace B0:=B0 F.yet;have e12:=(FV.eq 10 12 (by kernel_rfl) rfl).trans hb;clear s12;obtain ⟨A3,j3,c3,e46,z1⟩:=Bx s46;obtain ⟨-,y0,y1,y2,g0,g1,g2⟩:=B0.facts;exact Rl (w':=dyW wF b (.bool x.neg) (.slice A3 j3 c3) (.int .i64 x.e)) (by simp [Region.wanted]) (by go_simp;rfl) ⟨(Au FK.nil hS).kb [],trivial⟩ (Ii _ ⟨.inr vS,.inr vS,.inr vS,.inr vS,.inr (λu h=>by first | exact h.dyW B0 (Ah _) (Ag _ _ _) (Aj _) _ _ _ | exact h),.inr vS,.inr vS,.inr vS,.inr vS,.inr (λu h=>by first | exact h.dyW B0 (Ah _) (Ag _ _ _) (Aj _) _ _ _ | exact h),.inr (λu h=>by first | exact h.dyW B0 (Ah _) (Ag _ _ _) (Aj _) _ _ _ | exact h),.inr (λu h=>by first | exact h.dyW B0 (Ah _) (Ag _ _ _) (Aj _) _ _ _ | exact h),.inl rfl,.inr (λu h=>h),trivial⟩) trivial (FV.g.put12 (F.wait 10 (by kernel_rfl)) hb hS B0 z1)),
       (.inr λLF uF aF wF F FV=>by
      have FK:KB W2 [] wF:=F.frame.1;have fj:=F.frame.2;have s13:=F.p 11 13;have s51:=F.p 9 51
      obtain ⟨b,hb,hS,B0,-⟩:=FV.g.2.1 (F.wait 11 (by kernel_rfl));replace B0:=B0 F.yet;have e13:=(FV.eq 11 13 (by kernel_rfl) rfl).trans hb;clear s13;obtain ⟨A3,j3,c3,e51,z1⟩:=Bx s51;obtain ⟨-,y0,y1,y2,g0,g1,g2⟩:=B0.facts;exact Rl (w':=dyW wF b (.bool y.neg) (.slice A3 j3 c3) (.int .i64 y.e)) (by simp [Region.wanted]) (by go_simp;rfl) ⟨(Au FK.nil hS).kb [],trivial⟩ (Ii _ ⟨.inr vS,.inr vS,.inr vS,.inr vS,.inr (λu h=>by first | exact h.dyW B0 (Ah _) (Ag _ _ _) (Aj _) _ _ _ | exact h),.inr vS,.inr vS,.inr vS,.inr vS,.inr (λu h=>by first | exact h.dyW B0 (Ah _) (Ag _ _ _) (Aj _) _ _ _ | exact h),.inr (λu h=>by first | exact h.dyW B0 (Ah _) (Ag _ _ _) (Aj _) _ _ _ | exact h),.inr (λu h=>by first | exact h.dyW B0 (Ah _) (Ag _ _ _) (Aj _) _ _ _ | exact h),.inr (λu h=>h),.inl rfl,trivial⟩) trivial (FV.g.put13 (F.wait 11 (by kernel_rfl)) hb hS B0 z1)),
       trivial⟩) ?_
     intro u w5 L1 hL j1 hu hg;obtain ⟨hgx,hgy,hgn,-,-⟩:=hg;replace hgx:=hgx (hL 10 (by decide));replace hgy:=hgy (hL 11 (by decide));rw [hL 12 (by decide)] at hgx;rw [hL 13 (by decide)] at hgy;obtain ⟨q5,j1⟩:=j1;have p46:=hp hu 4;have p51:=hp hu 9;have p12:=hp hu 10;have p13:=hp hu 11;simp only [Bb,Ap,Act.put,Ep,hv hu 0,hv hu 1,hv hu 2,hv hu 3,hv hu 5,hv hu 6,hv hu 7,hv hu 8];clear hu;generalize u 4=v46,u 9=v51,u 10=v12,u 11=v13 at *;obtain ⟨b12,rfl,hb12,-,hx⟩:=hgx;obtain ⟨b13,rfl,hb13,-,hy⟩:=hgy;obtain ⟨A3,j3,c3,BX,Z3⟩:=hx rfl;obtain ⟨A4,j4,c4,BY,Z4⟩:=hy rfl
     have lX:w.heap.size+1<b12:=by omega
     replace K:=Ad (K.o.trans q5.nil);replace HA:=Ad (HA.o.kept q5.nil);replace HB:=Ad (HB.o.kept q5.nil);have HX:=Ad BX;have HY:=Ad BY;replace Z3:=Ad Z3;replace Z4:=Ad Z4;clear hx hy BX BY q5 j1 hL hgn p46 p51 p12 p13 HL HH ZL ZH C1 C2;obtain ⟨-,a0,a1,a2,-⟩:=HX.o.facts;obtain ⟨-,x0,x1,x2,-⟩:=HY.o.facts;go_wp2_with fail;refine (CS.o _ _ _ Z3.o Z4.o).mono ?_;rintro ee w6 ⟨rfl,q⟩;simp only [];replace K:=Ad (K.o.trans q);replace HA:=Ad (HA.o.kept q);replace HB:=Ad (HB.o.kept q);replace HX:=Ad (HX.o.kept q);replace Z3:=Ad (Z3.o.kept q);clear q a0 a1 a2 x0 x1 x2 HY Z4 CS
     cases hsm:Mk x.raw y.raw with
     | true =>
       rw [hsm,Ak rfl] at HE;have ho:=HE.o;subst ho;clear HE;obtain ⟨-,a0,a1,a2,-⟩:=HX.o.facts;obtain ⟨-,x0,x1,x2,y0,y1,y2⟩:=HB.o.facts;go_wp2_with fail;rw [Exit.noGoto_ret];exact Fa (HB.o.laid _ _ _) rfl rfl rfl ⟨Au K.o (by omega),_,rfl,Z3.o.dyW HB.o (Ah _) (Ag _ _ _) (Aj _) _ _ _⟩
     | false =>
       rw [hsm,Af (by decide)] at HE;go_wp2_with fail;exact ⟨⟨f,wk+wk/2,congrArg (Value.int .i64) (by omega),by omega,by omega,HE.o,by omega,K.o,HA.o,HB.o⟩,by simp [intOf];omega⟩
theorem ry:far.q=64:=by
 have h:pw 6=((2^6:Nat):Rat):=Jy 6
 show (1:Rat)*pw 6=64
 rw [h,Rat.one_mul];rfl
theorem li {e:Int}(h0:m≠0)(h:(m:Rat)*pw e<=64):(bl m:Int)+e<=7:=by
 by_cases hc:(bl m:Int)+e<=7
 ·exact hc
 ·exfalso;have hp:=Df m h0;have h2:pw ((bl m-1:Nat):Int)≤(m:Rat):=by rw [Jy];exact Rat.natCast_le_natCast.2 (D9 m h0)
  have h3:pw ((bl m-1:Nat):Int)*pw e<=(m:Rat)*pw e:=Rat.mul_le_mul_of_nonneg_right h2 (Dx e);rw [<-Fz] at h3;have h4:pw 7<=pw (((bl m-1:Nat):Int)+e):=Gz (by omega);have h5:pw 7=128:=(Jy 7).trans (by rfl);grind
theorem Qm {p:Int}(h:Gi d.raw p=0):-400<=d.e/\(d.m≠0->Bj (Ds d)<=7):=by
 unfold Gi at h;split at h
 ·split at h
  ·rename_i h1 h2;split at h
   ·exact absurd h (by decide)
   ·rename_i h3;refine ⟨by have:d.raw.e=d.e:=rfl;omega,fun h0=>?_⟩;simp only [Bool.and_eq_true,decide_eq_true_eq,Dy.raw_dy] at h2;have a:=Mv.1 h2.1;have b:=Ti.1 h2.2;rw [dv] at b;rw [ry] at a b;refine li h0 ?_
    show (d.m:Rat)*pw d.e<=64
    unfold Dy.q sq at a b;cases hn:d.neg<;>simp only [hn] at a b<;>grind
  ·exact absurd h (by decide)
 ·exact absurd h (by decide)
theorem Tq (ok:d.Ok)(hz:d.m≠0)(h:-400<=d.e/\(d.m≠0->Bj (Ds d)<=7))(h1:1<=wk)(h2:wk<=2000)(up:Bool):G6 wk up (H9 (Ds d)) 400 1 one one=some (Fv wk up d):=by
 obtain ⟨a,b,c⟩:=T7 (d:=Ds d) hz (Dw d.m 64 ok.len) h.1 (h.2 hz);obtain ⟨o,ho⟩:=dr (up:=up) h1 h2 a b c;unfold Fv;rw [ho];rfl
theorem jU (p:Nat)(up:Bool)(d:Dy):(Fv p up d).1.Ok/\(Fv p up d).2.Ok:=by
 unfold Fv;cases h:G6 p up (H9 (Ds d)) 400 1 one one with
 | none=>exact ⟨J4,J4⟩
 | some o=>exact Oh _ _ _ _ h J4 J4
theorem pg (d:Dy)(w:Nat):(Wg d w).1.Ok/\(Wg d w).2.Ok:=by
 have h:∀ up,(Jw w up d (Fv w up d)).Ok:=λup=>Tu _ _ _ _ (Rc (jU _ _ _))
 unfold Wg Np;split
 ·exact ⟨(Kx _ _ _ _).1,(Kx _ _ _ _).1⟩
 ·exact ⟨h _,h _⟩
theorem fK (hv:DyR w v d.raw)(ok:d.Ok)(p1:1<=p)(p2:p<=300)(hT:Tab w) :
 Calls Tryz.prog 144 #[v,.int .i64 (p:Int),.bool up] w (RetE (Ha d p up).raw w):=by
 unfold Ha;by_cases h0:Gi d.raw p=0
 ·rw [Af (by simpa using h0)];by_cases hz:d.m=0
  ·rw [Ak hz];exact nV hv ok hT h0 hz
  ·rw [Af hz];have hm:=Qm h0;exact nY hv ok p1 p2 hT h0 hz (λwk a b w1 k=>il (hv.kept k) ok a b (hT.kept k) (Tq ok hz hm a b false) (Tq ok hz hm a b true) (by decide)) (pg d)
 ·rw [Ak h0];have h:=nX (up:=up) hv (by have:=Eb ok;omega) hT h0;have e:(Wv (Gi d.raw p):Outc Dy).raw=⟨rz,Gi d.raw p⟩:=by show Outc.mk dz.raw _=_;rw [Ge];rfl
  rw [e];exact h
def Wf (x:Rat):Nat->Rat
 | 0=>x
 | k+1=>Wf (x*x) k
theorem Js:∀ (k:Nat) {x y:Rat},0<=x->x<=y->Wf x k<=Wf y k
 | 0,_,_,_,h=>h
 | k + 1, x, y, h0, h => by
   refine Js k (Rat.mul_nonneg h0 h0) ?_;have h1:=Rat.mul_le_mul_of_nonneg_left h h0;have h2:=Rat.mul_le_mul_of_nonneg_right h (Rat.le_trans h0 h);exact Rat.le_trans h1 h2
theorem fC:∀ k,Wf 1 k=1
 | 0=>rfl
 | k + 1 => by
   show Wf (1*1) k=1
   rw [Rat.mul_one];exact fC k
theorem qA {x:Rat}(k:Nat)(h:1<=x):1<=Wf x k:=by
 have h2:=Js k (show (0:Rat)<=1 by decide) h;rwa [fC] at h2
theorem mo {x:Rat}(h:0<=x)(n:Nat):eS x n<=eS (x*pw (-1)) n*eS (x*pw (-1)) n:=by
 have e:=aM;have h1:0<=x*pw (-1):=Rat.mul_nonneg h (Dx _);have h2:=pI h1 h1 n;have h3:x*pw (-1)+x*pw (-1)=x:=by rw [e];grind
 rwa [h3] at h2
theorem W4 {x:Rat}(h:0<=x)(n k:Nat):∀ i:Nat,Wf (eS x n) k<=Wf (eS (x*pw (-(i:Int))) n) (k+i)
 | 0 => by
   have e:x*pw (-((0:Nat):Int))=x:=by
    rw [show (-((0:Nat):Int))=0 from rfl,F3,Rat.mul_one]
   rw [e];exact Rat.le_refl
 | i + 1 => by
   have h1:=W4 h n k i;have h0:0<=x*pw (-(i:Int)):=Rat.mul_nonneg h (Dx _);have h2:=Js (k+i) (Ry h0 n) (mo h0 n);have e:x*pw (-(i:Int))*pw (-1)=x*pw (-((i+1:Nat):Int)):=by
    rw [Rat.mul_assoc,<-Fz]
    congr 2
    omega
   rw [e] at h2;exact Rat.le_trans h1 h2
theorem ph (h0:d.m≠0)(hl:bl d.m<=4096)(h1:-400<=d.e)(h2:Bj d<=7):(H9 d).q=d.q*pw (-(Dg d:Int))/\(H9 d).neg=d.neg/\Bj (H9 d)=Bj d-(Dg d:Int):=by
 have hp:=Df _ h0;have h2':=h2;unfold Bj at h2';have hK:(Dg d:Int)=max (Bj d+8) 0:=by unfold Dg;omega
 have hz:=O0 _ _ h0 (Bm d.m);have ek:(Hp d (-(Dg d:Int)))=Ck d.neg d.m (d.e+-(Dg d:Int)):=by
  unfold Hp;rw [Af h0,Af (by omega)]
 obtain ⟨a,b⟩:=N9 (neg:=d.neg) (n:=d.m) (e:=d.e+-(Dg d:Int)) h0 (by omega) (by omega) (by omega);obtain ⟨c,f,g⟩:=Hb (neg:=d.neg) (n:=d.m) (e:=d.e+-(Dg d:Int)) h0 (by omega) (by omega) (by omega);refine ⟨kG (by rw [ek];exact a),?_,?_⟩
 ·unfold H9;rw [ek];exact b
 ·unfold H9;rw [ek,f];unfold Bj;omega
def eP (a:Dy) (n:Nat):Rat:=Wf (eS (H9 a).q n) (Dg a)
structure ExN (a:Dy):Prop where
 m:a.m≠0
 neg:a.neg=false
 len:bl a.m<=4096
 e:-400<=a.e
 top:Bj a<=7
theorem ExN.r (h:ExN a):(H9 a).q=a.q*pw (-(Dg a:Int))/\(H9 a).neg=false/\Bj (H9 a)=Bj a-(Dg a:Int)/\(H9 a).m≠0/\-500<=(H9 a).e/\Bj (H9 a)<=-8:=by
 obtain ⟨b1,b2,b3⟩:=ph h.m h.len h.e h.top;obtain ⟨c1,c2,c3⟩:=T7 h.m h.len h.e h.top;exact ⟨b1,b2.trans h.neg,b3,c1,c2,c3⟩
theorem ExN.pos (h:ExN a):0<a.q:=aO h.m h.neg
theorem ExN.rpos (h:ExN a):0<=(H9 a).q:=by
 rw [h.r.1];exact Rat.mul_nonneg (Rat.le_of_lt h.pos) (Dx _)
theorem oD (h:ExN a)(hn:1<=n):1<=eP a n:=qA _ (pJ h.rpos hn)
theorem eM {b:Dy}(ha:ExN a)(hb:ExN b)(h:a.q<=b.q)(n:Nat):eP a n<=eP b n:=by
 have ht:Bj a<=Bj b:=by
  have h1:=(Lp ha.m ha.neg).1;have h2:=(Lp hb.m hb.neg).2;have h3:pw (Bj a-1)<pw (Bj b):=by grind
  have:=I5 h3;omega
 have hk:Dg a<=Dg b:=by unfold Dg;omega
 unfold eP;obtain ⟨i,hi⟩:∃ i:Nat,Dg b=Dg a+i:=⟨Dg b-Dg a,by omega⟩;rw [ha.r.1,hb.r.1,hi];have h1:a.q*pw (-(Dg a:Int))<=b.q*pw (-(Dg a:Int)):=Rat.mul_le_mul_of_nonneg_right h (Dx _);have h0:0<=a.q*pw (-(Dg a:Int)):=Rat.mul_nonneg (Rat.le_of_lt ha.pos) (Dx _);have h2:=Js (Dg a) (Ry h0 n) (mp h0 h1 n);have h3:=W4 (Rat.le_trans h0 h1) n (Dg a) i;have e:b.q*pw (-(Dg a:Int))*pw (-(i:Int))=b.q*pw (-((Dg a+i:Nat):Int)):=by
  rw [Rat.mul_assoc,<-Fz]
  congr 2
  omega
 rw [e] at h3;exact Rat.le_trans h2 h3
def EL (d:Dy) (y:Rat):Prop:=if d.m=0 then y<=1 else if d.neg then ∃ c,1<=c/\(∀ n,eP (Ds d) n<=c)/\y*c<=1 else ∃ n,1<=n/\y<=eP (Ds d) n
def EU (d:Dy) (y:Rat):Prop:=if d.m=0 then 1<=y else if d.neg then 0<y/\∃ n,1<=y*eP (Ds d) n else ∀ n,eP (Ds d) n<=y
theorem X6 :d.q=if d.neg then -(Ds d).q else (Ds d).q:=by
 unfold Dy.q sq Ds;cases d.neg
 ·simp
 ·simp [Rat.neg_mul]
def qI (d:Dy):Prop:=d.m≠0->ExN (Ds d)
theorem qQ {y y':Rat}(hd:qI  d)(hd':qI  d')(h:d.q≤d'.q)(hl:EL d y)(hu:EU d' y'):y≤y':=by
 have q0:∀ {d:Dy},d.m=0->d.q=0:=λh=>Qt h
 unfold EL at hl;unfold EU at hu;by_cases h1:d.m=0
 ·rw [Ak    h1] at hl;by_cases h2:d'.m=0
  ·rw [Ak h2] at hu;exact Rat.le_trans hl hu
  ·rw [Af h2] at hu;have n2:=hd' h2;cases hn:d'.neg with
   | true =>
     exfalso;have e:=X6 (d:=d');rw [hn,Ak rfl] at e;have:=n2.pos;rw [q0 h1,e] at h;grind
   | false =>
     rw [hn,Af (by decide)] at hu;exact Rat.le_trans hl (Rat.le_trans (oD n2 (Aq 1)) (hu 1))
 ·rw [Af    h1] at hl;have n1:=hd h1;have e1:=X6     (d:=d);have p1:=n1.pos;cases hn1:d.neg with
  | true =>
    rw [hn1,Ak rfl] at hl e1;obtain ⟨c,c1,c2,c3⟩:=hl;have hy:y<=1:=by
     rcases Rat.le_total (a:=y) (b:=0) with hy0 | hy0
     ·exact Rat.le_trans hy0 (by decide)
     ·have:=Rat.mul_le_mul_of_nonneg_left c1 hy0;rw [Rat.mul_one] at this;exact Rat.le_trans this c3
    by_cases h2:d'.m=0
    ·rw [Ak h2] at hu;exact Rat.le_trans hy hu
    ·rw [Af    h2] at hu;have n2:=hd' h2;cases hn:d'.neg with
     | true =>
       rw [hn,Ak rfl] at hu;obtain ⟨u1,n,u2⟩:=hu;have e2:=X6 (d:=d');rw [hn,Ak rfl] at e2;have h3:(Ds d').q<=(Ds d).q:=by
        rw [e1,e2] at h;grind
       have h4:=Rat.le_trans (eM n2 n1 h3 n) (c2 n);have h5:=Rat.mul_le_mul_of_nonneg_left h4 (Rat.le_of_lt u1);have h6:y*c<=y'*c:=Rat.le_trans c3 (Rat.le_trans u2 h5);have h7:0<c:=by grind
       have h8:0<c⁻¹:=Rat.inv_pos.2 h7;have h9:c*c⁻¹=1:=Rat.mul_inv_cancel _ (by grind);have h10:=Rat.mul_le_mul_of_nonneg_right h6 (Rat.le_of_lt h8);rwa [Rat.mul_assoc,Rat.mul_assoc,h9,Rat.mul_one,Rat.mul_one] at h10
     | false =>
       rw [hn,Af (by decide)] at hu;exact Rat.le_trans hy (Rat.le_trans (oD n2 (Aq 1)) (hu 1))
  | false =>
    rw [hn1,Af (by decide)] at hl e1;obtain ⟨n,hn0,hl⟩:=hl;by_cases h2:d'.m=0
    ·exfalso;rw [q0 h2,e1] at h;grind
    ·rw [Af h2] at hu;have n2:=hd' h2;have e2:=X6 (d:=d');have p2:=n2.pos;cases hn:d'.neg with
     | true =>
       exfalso;rw [hn,Ak rfl] at e2;rw [e1,e2] at h;grind
     | false =>
       rw [hn,Af (by decide)] at hu e2;rw [e1,e2] at h;exact Rat.le_trans hl (Rat.le_trans (eM n1 n2 h n) (hu n))
def ExpS (d:Dy) (p:Nat) (up:Bool) (z:Dy):Prop:=∃ lo hi,EL d lo/\EU d hi/\Kn up p lo z.q/\Kn up p hi z.q
theorem ExpS.order {p':Nat}{z z':Dy}(hd:qI d)(hd':qI d')(h:d.q<=d'.q)(a:ExpS d p false z)(b:ExpS d' p' true z'):z.q<=z'.q:=by
 obtain ⟨lo,hi,a1,a2,a3,a4⟩:=a;obtain ⟨lo',hi',b1,b2,b3,b4⟩:=b;exact Rat.le_trans (IsDown.le a3) (Rat.le_trans (qQ hd hd' h a1 b2) (IsUp.le b4))
structure Nm (p:Nat) (B:Int) (x:Dy):Prop where
 m:x.m≠0
 neg:x.neg=false
 b:bl x.m<=p
 lo:-B<=Bj x
 hi:Bj x<=B
theorem Nm.pos (h:Nm p B x):0<x.q:=aO h.m h.neg
theorem Va (p1:1<=p)(p2:p<=2000)(h0:d.m≠0)(hn:d.neg=false)(h1:-1000000<=d.e)(h2:Bj d<=B)(h3:-B<=Bj d)(hB:B<=1000000) :
 Nm p (B+1) (I7 p up d)/\Kn up p d.q (I7 p up d).q:=by
 obtain ⟨a,b,c,e⟩:=U9 (up:=up) p1 p2 h0 h1 (by omega);obtain ⟨t1,t2⟩:=Lp h0 hn;have hb:=b.trans hn;have u1:=N6 a (Jc p1 (Bj d-1)) t1;have u2:=My a (Jc p1 (Bj d)) (Rat.le_of_lt t2);have:=Zi c hb u1;have:=dW c hb u2;exact ⟨⟨c,hb,e,by omega,by omega⟩,a⟩
theorem pU (p2:p<=2000)(h:Nm p B x)(hB:B<=200000):(Ch x x).v.m≠0/\(Ch x x).v.neg=false/\(Ch x x).v.q=x.q*x.q/\Bj (Ch x x).v<=2*Bj x/\2*Bj x-1<=Bj (Ch x x).v/\-900000<=(Ch x x).v.e:=by
 have hlo:=h.lo;have hhi:=h.hi;have hb:=h.b;have hp:=Df _ h.m;unfold Bj at hlo hhi;have hz:=Nat.mul_ne_zero h.m h.m;have h1:=I0 (Aq (bl x.m)) (Aq (bl x.m));have h2:=Sa h.m h.m;have h3:=O0 _ _ hz (Bm _);obtain ⟨a,b⟩:=N9 (neg:=x.neg != x.neg) (e:=x.e+x.e) hz (by omega) (by omega) (by omega);obtain ⟨c,f,g⟩:=Hb (neg:=x.neg != x.neg) (e:=x.e+x.e) hz (by omega) (by omega) (by omega);have f':Bj (Ch x x).v=(bl (x.m*x.m):Int)+(x.e+x.e):=f;have g':bl (Ch x x).v.m=bl (x.m*x.m)-tz (x.m*x.m):=g;refine ⟨c,?_,Na a,?_,?_,?_⟩
 ·refine Eq.trans b ?_;cases x.neg<;>rfl
 ·rw [f'];unfold Bj;omega
 ·rw [f'];unfold Bj;omega
 ·unfold Bj at f';omega
theorem kK (p1:1<=p)(p2:p<=2000)(h:Nm p B x)(hB:B<=200000):Nm p (2*B+2) (Vm p up x)/\Kn up p (x.q*x.q) (Vm p up x).q:=by
 obtain ⟨a,b,c,d,e,f⟩:=pU p2 h hB;have hlo:=h.lo;have hhi:=h.hi;obtain ⟨g1,g2⟩:=Va (B:=2*B+1) (up:=up) p1 p2 a b (by omega) (by omega) (by omega) (by omega);rw [c] at g2;exact ⟨⟨g1.m,g1.neg,g1.b,by have:=g1.lo;show _<=Bj (I7 p up (Ch x x).v);omega,by have:=g1.hi;show Bj (I7 p up (Ch x x).v)<=_;omega⟩,g2⟩
theorem Ze {p:Nat}{up:Bool}(p1:1<=p)(p2:p<=2000):∀ (k:Nat) (x:Dy) (B:Int),k<=15->B+2<=2^(17-k)->Nm p B x->1<=x.q ->
 Nm p 200000 (Nx p up k x)/\1<=(Nx p up k x).q/\(if up then Wf x.q k<=(Nx p up k x).q else (Nx p up k x).q<=Wf x.q k)
 | 0, x, B, _, hB, h, h1 => by
   have hB':B+2<=131072:=by simpa using hB
   refine ⟨⟨h.m,h.neg,h.b,?_,?_⟩,h1,?_⟩
   ·have:=h.lo
    show _<=Bj x
    omega
   ·have:=h.hi
    show Bj x<=_
    omega
   ·cases up
    ·exact Rat.le_refl
    ·exact Rat.le_refl
 | k + 1, x, B, hk, hB, h, h1 => by
   have e:(17-k:Nat)=17-(k+1)+1:=by omega
   have hB2:(2*B+2)+2<=2^(17-k):=by
    rw [e,Int.pow_succ];omega
   have hBm:B<=200000:=by
    have h2:(2:Int)^(17-(k+1))<=2^17:=by
     have:=Ee (show 0<2 by decide) (show 17-(k+1)<=17 by omega)
     exact_mod_cast this
    have h3:(2:Int)^17=131072:=by decide
    omega
   obtain ⟨g1,g2⟩:=kK (up:=up) p1 p2 h hBm;have hx:1<=x.q*x.q:=by
    have:=Rat.mul_le_mul_of_nonneg_left h1 (Rat.le_trans (show (0:Rat)<=1 by decide) h1);grind
   have h1':=N6 g2 (Hc p1) hx;obtain ⟨i1,i2,i3⟩:=Ze p1 p2 k (Vm p up x) (2*B+2) (by omega) hB2 g1 h1';refine ⟨i1,i2,?_⟩;cases up with
   | true =>
     have i3':Wf (Vm p true x).q k<=(Nx p true k (Vm p true x)).q:=i3
     show Wf (x.q*x.q) k<=(Nx p true k (Vm p true x)).q
     exact Rat.le_trans (Js k (Rat.le_trans (show (0:Rat)<=1 by decide) hx) (IsUp.le g2)) i3'
   | false =>
     have i3':(Nx p false k (Vm p false x)).q<=Wf (Vm p false x).q k:=i3
     show (Nx p false k (Vm p false x)).q<=Wf (x.q*x.q) k
     exact Rat.le_trans i3' (Js k (Rat.le_trans (show (0:Rat)<=1 by decide) h1') (IsDown.le g2))
theorem pj (p1:17<=p)(p2:p<=2000)(h:ExN (Ds d))(hn:G6 p false (H9 (Ds d)) 400 1 one one=some (Fv p false d)) :
 (Jw p false d (Fv p false d)=dz)\/(Nm p 200000 (Jw p false d (Fv p false d))/\1<=(Jw p false d (Fv p false d)).q/\∃ n,1<=n/\(Jw p false d (Fv p false d)).q<=eP (Ds d) n):=by
 obtain ⟨r1,r2,r3,r4,r5,r6⟩:=h.r;have hg:Tx p (H9 (Ds d)) (J5 p false (Fv p false d)):=Yz (up:=false) p1 p2 r4 r2 r5 r6 400 1 one one _ (NI.start (by omega)) (by decide) (by decide) hn;obtain ⟨g,n,hn1,hn2⟩:=hg;unfold Jw;have hK:Dg (Ds d)<=15:=by have:=h.top;unfold Dg;omega
 generalize J5 p false (Fv p false d)=x at *;rcases g with ⟨g1,g2⟩ | ⟨g1,g2,g3,g4,g5⟩
 ·left
  have hk0:Dg (Ds d)=0:=by
   have hk:(Dg (Ds d):Int)=max (Bj (Ds d)+8) 0:=by unfold Dg;omega
   omega
  rw [hk0,g1];rfl
 ·right
  have ht:=fF g1 g2 g4 g5;have hB:(2:Int)+2<=2^(17-Dg (Ds d)):=by
   have:=Ee (show 0<2 by decide) (show 2<=17-Dg (Ds d) by omega);have h2:((2^2:Nat):Int)<=((2^(17-Dg (Ds d)):Nat):Int):=by exact_mod_cast this
   have h3:((2^(17-Dg (Ds d)):Nat):Int)=(2:Int)^(17-Dg (Ds d)):=by norm_cast
   omega
  obtain ⟨i1,i2,i3⟩:=Ze (up:=false) (by omega) p2 (Dg (Ds d)) x 2 hK hB ⟨g1,g2,g3,by omega,by omega⟩ g4;refine ⟨i1,i2,n,hn1,?_⟩;have i3':(Nx p false (Dg (Ds d)) x).q<=Wf x.q (Dg (Ds d)):=i3;exact Rat.le_trans i3' (Js _ (Rat.le_trans (show (0:Rat)<=1 by decide) g4) hn2)
theorem pi (p1:17<=p)(p2:p<=2000)(h:ExN (Ds d))(hn:G6 p true (H9 (Ds d)) 400 1 one one=some (Fv p true d)) :
 Nm p 200000 (Jw p true d (Fv p true d))/\((Jw p true d (Fv p true d)).q<=1/2\/(1<=(Jw p true d (Fv p true d)).q/\∀ n,eP (Ds d) n<=(Jw p true d (Fv p true d)).q)):=by
 obtain ⟨r1,r2,r3,r4,r5,r6⟩:=h.r;have hg:Tw p (H9 (Ds d)) (J5 p true (Fv p true d)):=Yz (up:=true) p1 p2 r4 r2 r5 r6 400 1 one one _ (NI.start (by omega)) (by decide) (by decide) hn;obtain ⟨g1,g2,g3,g⟩:=hg;unfold Jw;have hK:Dg (Ds d)<=15:=by have:=h.top;unfold Dg;omega
 generalize J5 p true (Fv p true d)=x at *;rcases g with ⟨g4,g5,g6⟩ | ⟨g4,g5,g6⟩
 ·have hk0:Dg (Ds d)=0:=by
   have hk:(Dg (Ds d):Int)=max (Bj (Ds d)+8) 0:=by unfold Dg;omega
   omega
  rw [hk0];have ht:Bj x<=0:=by
   have e:=aM;have:=dW (c:=-1) g1 g2 (by rw [e];exact g5);omega
  refine ⟨⟨g1,g2,g3,?_,?_⟩,.inl g5⟩
  ·show _≤Bj x
   omega
  ·show Bj x≤_
   omega
 ·have ht:=fF g1 g2 g4 g5;have hB:(2:Int)+2≤2^(17-Dg (Ds d)):=by
   have:=Ee (show 0<2 by decide) (show 2<=17-Dg (Ds d) by omega);have h2:((2^2:Nat):Int)<=((2^(17-Dg (Ds d)):Nat):Int):=by exact_mod_cast this
   have h3:((2^(17-Dg (Ds d)):Nat):Int)=(2:Int)^(17-Dg (Ds d)):=by norm_cast
   omega
  obtain ⟨i1,i2,i3⟩:=Ze (up:=true) (by omega) p2 (Dg (Ds d)) x 2 hK hB ⟨g1,g2,g3,by omega,by omega⟩ g4;refine ⟨i1,.inr ⟨i2,λn=>?_⟩⟩;have i3':Wf x.q (Dg (Ds d))<=(Nx p true (Dg (Ds d)) x).q:=i3;exact Rat.le_trans (Js _ (Ry h.rpos n) (g6 n)) i3'
theorem Yq {a b:Rat}(h0:0<a)(h:a<=b):1/b<=1/a:=by
 have hb:0<b:=by grind
 have ia:0<a⁻¹:=Rat.inv_pos.2 h0;have ib:0<b⁻¹:=Rat.inv_pos.2 hb;have ea:a*a⁻¹=1:=Rat.mul_inv_cancel _ (by grind);have eb:b*b⁻¹=1:=Rat.mul_inv_cancel _ (by grind);have h1:=Rat.mul_le_mul_of_nonneg_right h (Rat.le_of_lt (Rat.mul_pos ia ib));rw [Rat.div_def,Rat.div_def,Rat.one_mul,Rat.one_mul];have e1:a*(a⁻¹*b⁻¹)=b⁻¹:=by rw [<-Rat.mul_assoc,ea,Rat.one_mul]
 have e2:b*(a⁻¹*b⁻¹)=a⁻¹:=by rw [Rat.mul_comm a⁻¹ b⁻¹,<-Rat.mul_assoc,eb,Rat.one_mul]
 rwa [e1,e2] at h1
theorem pN (c:Int):1/pw c=pw (-c):=by
 have h:=Qn c;have h0:=I6 c;have e:pw c*(pw c)⁻¹=1:=Rat.mul_inv_cancel _ (by grind);rw [Rat.div_def,Rat.one_mul];have h1:pw c*(pw c)⁻¹=pw c*pw (-c):=by rw [e,h]
 grind
theorem oM {b:Dy}(p1:1<=p)(p2:p<=2000)(h:Nm p 200000 b) :
 Nm p 200010 (Cz one b p up).v/\Kn up p (1/b.q) (Cz one b p up).v.q/\-300000<=(Cz one b p up).v.e:=by
 have b1:=h.m;have hlo:=h.lo;have hhi:=h.hi;have hb:=h.b;have hbb:=Df _ b1;have o1:one.m≠0:=by decide
 have ob:bl one.m=1:=by decide
 have oe:one.e=0:=rfl;unfold Bj at hlo hhi;have ez:Cz one b p up=Bg one b p up:=by
  unfold Cz;rw [Af b1]
 rw [ez];have hK:Ce one b p=p+1+bl b.m-bl one.m:=rfl;have hq:=Ri one.m b.m p o1 b1 (Ce one b p) (by omega);have hk:bl (2^Ce one b p)<=Ce one b p+1:=Gl _ _ (Nat.pow_lt_pow_right (by decide) (by omega));have hm2:=I0 (Aq (bl one.m)) hk;have hd:=Te (x:=one.m*2^Ce one b p) b1;have hz:one.m*2^Ce one b p/b.m≠0:=by intro h;rw [h,Hi] at hq;omega
 obtain ⟨x,y,z⟩:=cL (neg:=one.neg != b.neg) (rest:=decide (¬one.m*2^Ce one b p%b.m=0)) (up:=up) (e:=one.e-b.e-Ce one b p) hz p1 p2 (by omega) (by omega);obtain ⟨x',y',z'⟩:=Ue (neg:=one.neg != b.neg) (rest:=decide (¬one.m*2^Ce one b p%b.m=0)) (up:=up) (e:=one.e-b.e-Ce one b p) hz p1 p2 (by omega) (by omega);have hneg:(Bg one b p up).v.neg=false:=by
  refine Eq.trans y ?_;rw [h.neg];rfl
 have hdir:Kn up p (1/b.q) (Bg one b p up).v.q:=by
  have:=Po (up:=up) p1 b1 x;rwa [U4] at this
 have hm':(Bg one b p up).v.m≠0:=x';have hb':bl (Bg one b p up).v.m<=p:=y';obtain ⟨t1,t2⟩:=Lp b1 h.neg;have u1:=Yq (I6 _) t1;have u2:=Yq h.pos (Rat.le_of_lt t2);rw [pN] at u1 u2;have v1:=Zi hm' hneg (N6 hdir (Jc p1 _) u2);have v2:=dW hm' hneg (My hdir (Jc p1 _) u1);have hlo':=h.lo;have hhi':=h.hi;have e3:Bj (Bg one b p up).v=(bl (Bg one b p up).v.m:Int)+(Bg one b p up).v.e:=rfl;exact ⟨⟨hm',hneg,hb',by omega,by omega⟩,hdir,by omega⟩
theorem kC {b:Dy}(h:Mk a.raw b.raw=true):a=b:=by
 unfold Mk Dy.raw at h;simp only [Bool.and_eq_true,beq_iff_eq] at h;obtain ⟨⟨h1,h2⟩,h3⟩:=h;have h4:a.m=b.m:=by
  have:=congrArg Bq h3;rwa [Cq,Cq] at this
 cases a;cases b;simp only at h1 h2 h4;subst h1 h2 h4;rfl
theorem Nm.e (h:Nm p B x):-B-p<=x.e:=by
 have h1:=h.lo;have h2:=h.b;unfold Bj at h1;omega
theorem dI {w:Nat}(ok:d.Ok)(p1:1<=p)(p2:p<=300)(w1:17<=w)(w2:w<=2000)(hz:d.m≠0)(hd:-400<=d.e/\(d.m≠0->Bj (Ds d)<=7))(hs:io d p w up=mz d p w up):ExpS d p up (io d p w up):=by
 have hN:ExN (Ds d):=⟨hz,rfl,Dw d.m 64 ok.len,hd.1,hd.2 hz⟩;have lo:=pj w1 w2 hN (Tq ok hz hd (by omega) w2 false);have hi:=pi w1 w2 hN (Tq ok hz hd (by omega) w2 true);have eX:io d p w up=I7 p up (Wg d w).1:=rfl;have eY:mz d p w up=I7 p up (Wg d w).2:=rfl;have eB:Wg d w=Np w d (Jw w false d (Fv w false d)) (Jw w true d (Fv w true d)):=rfl;generalize Jw w false d (Fv w false d)=L at *;generalize Jw w true d (Fv w true d)=H at *;obtain ⟨hH,hi⟩:=hi;have two:pw 1=2:=Sf;have half:pw (-1)=1/2:=aM;cases hn:d.neg with
 | false =>
   have eb:Wg d w=(L,H):=by
    rw [eB];unfold Np;rw [hn];rfl
   rw [eb] at eX eY;have eX:io d p w up=I7 p up L:=eX;have eY:mz d p w up=I7 p up H:=eY;obtain ⟨g1,g2⟩:=Va (B:=200000) (up:=up) p1 (by omega) hH.m hH.neg (by have:=hH.e;omega) hH.hi hH.lo (by decide);rw [<-eY,<-hs] at g1 g2;rcases lo with lo | ⟨lo1,lo2,lo3⟩
   ·exfalso;rw [lo,Sg] at eX;rw [eX] at g1;exact g1.m rfl
   ·obtain ⟨f1,f2⟩:=Va (B:=200000) (up:=up) p1 (by omega) lo1.m lo1.neg (by have:=lo1.e;omega) lo1.hi lo1.lo (by decide);rw [←eX] at f1 f2;rcases hi with hi | ⟨hi1,hi2⟩
    ·exfalso;have a:=N6 f2 (Hc p1) lo2;have b:=My g2 (Jc p1 (-1)) (by rw [half];exact hi);rw [half] at b;grind
    ·refine ⟨L.q,H.q,?_,?_,f2,g2⟩
     ·unfold EL;rw [Af hz,hn,Af (by decide)];exact lo3
     ·unfold EU;rw [Af hz,hn,Af (by decide)];exact hi2
 | true =>
   have eb:Wg d w=((Cz one H w false).v,(Cz one L w true).v):=by
    rw [eB];unfold Np;rw [hn];rfl
   rw [eb] at eX eY;have eX:io d p w up=I7 p up (Cz one H w false).v:=eX;have eY:mz d p w up=I7 p up (Cz one L w true).v:=eY;obtain ⟨qH,dH,tH⟩:=oM (up:=false) (by omega) w2 hH;obtain ⟨f1,f2⟩:=Va (B:=200010) (up:=up) p1 (by omega) qH.m qH.neg (by omega) qH.hi qH.lo (by decide);rw [<-eX] at f1 f2;rcases lo with lo | ⟨lo1,lo2,n,lo3,lo4⟩
   ·exfalso;have e:(Cz one L w true).v=dz:=by
     rw [lo];rfl
    rw [e,Sg] at eY;rw [hs,eY] at f1;exact f1.m rfl
   ·obtain ⟨qL,dL,tL⟩:=oM (up:=true) (by omega) w2 lo1;obtain ⟨g1,g2⟩:=Va (B:=200010) (up:=up) p1 (by omega) qL.m qL.neg (by omega) qL.hi qL.lo (by decide);rw [←eY,←hs] at g1 g2;have L0:=lo1.pos;have H0:=hH.pos;have iL:L.q*(L.q)⁻¹=1:=Rat.mul_inv_cancel _ (by grind);have iH:H.q*(H.q)⁻¹=1:=Rat.mul_inv_cancel _ (by grind);rcases hi with hi | ⟨hi1,hi2⟩
    ·exfalso;have a:pw 1≤1/H.q:=by
      have:=Yq H0 hi;rw [two];have e:(1:Rat)/(1/2)=2:=by decide +kernel
      rwa [e] at this
     have a1:=N6 dH (Jc (by omega) 1) a;have a2:=N6 f2 (Jc p1 1) a1;have b:1/L.q<=1:=by
      have:=Yq (show (0:Rat)<1 by decide) lo2;have e:(1:Rat)/1=1:=by decide +kernel
      rwa [e] at this
     have b1:=My dL (Hc (by omega)) b;have b2:=My g2 (Hc p1) b1;rw [two] at a2;grind
    ·refine ⟨(Cz one H w false).v.q,(Cz one L w true).v.q,?_,?_,f2,g2⟩
     ·unfold EL;rw [Af hz,hn,Ak rfl];refine ⟨H.q,hi1,hi2,?_⟩;have:=Rat.mul_le_mul_of_nonneg_right (IsDown.le dH) (Rat.le_of_lt H0);rw [Rat.div_def,Rat.one_mul,Rat.mul_comm (H.q)⁻¹,iH] at this;exact this
     ·unfold EU;rw [Af hz,hn,Ak rfl];refine ⟨qL.pos,n,?_⟩;have h1:=Rat.mul_le_mul_of_nonneg_right (IsUp.le dL) (Rat.le_of_lt L0);rw [Rat.div_def,Rat.one_mul,Rat.mul_comm (L.q)⁻¹,iL] at h1;exact Rat.le_trans h1 (Rat.mul_le_mul_of_nonneg_left lo4 (Rat.le_of_lt qL.pos))
theorem W5 {d:Dy}{p:Nat}{up:Bool}(ok:d.Ok)(p1:1<=p)(p2:p<=300)(hz:d.m≠0)(hd:-400<=d.e/\(d.m≠0->Bj (Ds d)<=7)):∀ (f w:Nat),17<=w->(Qf d p up f w).k=0->ExpS d p up (Qf d p up f w).v
 | 0, _, _, h => by
   rw [Qf] at h;exact absurd h (by decide)
 | f + 1, w, hw, h => by
   rw [Qf] at h ⊢;split at h
   ·exact absurd h (by decide)
   ·rename_i h1;rw [Af h1];split at h
    ·rename_i h2;rw [Ak h2];exact dI ok p1 p2 hw (by omega) hz hd (kC h2)
    ·rename_i h2;rw [Af h2];exact W5 ok p1 p2 hz hd f _ (by omega) h
theorem fR (p1:1<=p)(hz:d.m=0):ExpS d p up one:=by
 refine ⟨1,1,?_,?_,?_,?_⟩
 ·unfold EL;rw [Ak hz];exact Rat.le_refl
 ·unfold EU;rw [Ak hz];exact Rat.le_refl
 ·rw [U4];cases up
  ·exact IsDown.of_fits (Hc p1)
  ·exact IsUp.of_fits (Hc p1)
 ·rw [U4];cases up
  ·exact IsDown.of_fits (Hc p1)
  ·exact IsUp.of_fits (Hc p1)
theorem pR {r:Raw}{p:Int}(h:Gi r p=0):Io r=true/\1<=p/\p<=300:=by
 unfold Gi at h;split at h
 ·rename_i h1;simp only [Bool.and_eq_true,Bool.not_eq_true',decide_eq_false_iff_not] at h1;exact ⟨h1.1.1,by omega,by omega⟩
 ·exact absurd h (by decide)
theorem eZ {p:Int}(ok:d.Ok)(h:Gi d.raw p=0):qI d:=λhz=>by
 have hd:=Qm h;exact ⟨hz,rfl,Dw d.m 64 ok.len,hd.1,hd.2 hz⟩
theorem Pe (ok:d.Ok)(h:(Ha d p up).k=0):qI d/\ExpS d p up (Ha d p up).v/\Gi d.raw p=0/\1<=p/\p<=300:=by
 unfold Ha at h ⊢;split at h
 ·rename_i h0;exact absurd h h0
 ·rename_i h0;have h0':Gi d.raw p=0:=by omega
  obtain ⟨-,p1,p2⟩:=pR h0';rw [Af h0];split at h
  ·rename_i hz;rw [Ak hz];exact ⟨eZ ok h0',fR (by omega) hz,h0',by omega,by omega⟩
  ·rename_i hz;rw [Af hz];exact ⟨eZ ok h0',W5 ok (by omega) (by omega) hz (Qm h0') _ _ (by omega) h,h0',by omega,by omega⟩
def ki (a b:Int):Int:=if a=1\/b=1 then 1 else if a=4\/b=4 then 4 else if a=2\/b=2 then 2 else 0
def P4 (a:Iv) (p:Nat):Outc Iv :=
 if ki (Gi a.lo.raw p) (Gi a.hi.raw p)≠0 then ⟨iz,ki (Gi a.lo.raw p) (Gi a.hi.raw p)⟩
 else if (Ha a.lo p false).k≠0\/(Ha a.hi p true).k≠0 then ⟨iz,max (Ha a.lo p false).k (Ha a.hi p true).k⟩
 else ⟨⟨(Ha a.lo p false).v,(Ha a.hi p true).v⟩,0⟩
theorem M8 (r:Raw)(p:Int):Gi r p=0\/Gi r p=1\/Gi r p=2\/Gi r p=4:=by
 unfold Gi;split
 ·split
  ·split<;>simp
  ·simp
 ·simp
theorem kj {a b:Int}(ha:a=0\/a=1\/a=2\/a=4)(hb:b=0\/b=1\/b=2\/b=4):ki a b=0↔a=0/\b=0:=by
 unfold ki;rcases ha with rfl | rfl | rfl | rfl<;>rcases hb with rfl | rfl | rfl | rfl<;>simp
theorem jb (d:Dy)(p:Nat)(up:Bool):∀ f w,(Qf d p up f w).k=0\/(Qf d p up f w).k=2
 | 0,_=>.inr rfl
 | f + 1, w => by
   rw [Qf];split
   ·exact .inr rfl
   ·split
    ·exact .inl rfl
    ·exact jb d p up f _
theorem ja (h:Gi d.raw p=0):(Ha d p up).k=0\/(Ha d p up).k=2:=by
 unfold Ha;rw [Af (by rw [h];decide)];split
 ·exact .inl rfl
 ·exact jb _ _ _ _ _
theorem aG {a:Iv}(h:(P4 a p).k=0):(Ha a.lo p false).k=0/\(Ha a.hi p true).k=0/\(P4 a p).v=⟨(Ha a.lo p false).v,(Ha a.hi p true).v⟩:=by
 unfold P4 at h ⊢;split at h
 ·rename_i h0;exact absurd h h0
 ·rename_i h0;rw [Af h0];have h0':=(kj (M8 a.lo.raw p) (M8 a.hi.raw p)).1 (by omega);split at h
  ·rename_i h1;exfalso;have h':max (Ha a.lo p false).k (Ha a.hi p true).k=0:=h;rcases ja (up:=false) h0'.1 with e1 | e1<;>rcases ja (up:=true) h0'.2 with e2 | e2<;>omega
  ·rename_i h1;rw [Af h1];exact ⟨by omega,by omega,rfl⟩
theorem kl (a:Iv)(p:Nat)(ha:a.Ok)(_:1<=p)(_:p<=300):We (P4 a p):=by
 by_cases hk:(P4 a p).k=0
 ·obtain ⟨a1,a2,a3⟩:=aG hk;obtain ⟨c1,c2,-⟩:=Pe ha.lo a1;obtain ⟨c3,c4,-⟩:=Pe ha.hi a2;refine ⟨?_,λh=>absurd hk h⟩;rw [a3];exact ⟨(eV _ _ _).1,(eV _ _ _).1,c2.order c1 c3 ha.le c4⟩
 ·have hz:(P4 a p).v=iz:=by
   unfold P4 at hk ⊢;split
   ·rfl
   ·split
    ·rfl
    ·rename_i h1 h2;rw [Af h1,Af h2] at hk;exact absurd rfl hk
  exact ⟨by rw [hz];exact Ss,λ_=>hz⟩
def Wth (a x:Iv):Prop:=x.lo.q<=a.lo.q/\a.hi.q<=x.hi.q
def S0 (a:Iv) (i:Bool):Dy:=if i then a.hi else a.lo
theorem W3 {a b:Iv}(hb:b.Ok)(hp:1<=p)(hk:(Cm a b p).k=0):¬(b.lo.q<=0/\0<=b.hi.q) /\
 (∃ i j,IsDown p ((S0 a i).q/(S0 b j).q) (Cm a b p).v.lo.q)/\(∃ i j,IsUp p ((S0 a i).q/(S0 b j).q) (Cm a b p).v.hi.q) /\
 (∀ i j,∃ d,IsDown p ((S0 a i).q/(S0 b j).q) d/\(Cm a b p).v.lo.q<=d)/\(∀ i j,∃ d,IsUp p ((S0 a i).q/(S0 b j).q) d/\d<=(Cm a b p).v.hi.q):=by
 unfold Cm at hk ⊢;by_cases hz:D4 b=true
 ·rw [Ak hz] at hk;exact absurd hk (by decide)
 ·rw [Af hz] at hk ⊢;have hz':¬(b.lo.q≤0∧0≤b.hi.q):=fun h=>hz ((Hs b).2 h)
  obtain ⟨n1,n2⟩:=Kq hb hz;obtain ⟨k1,k2,k3,k4,e⟩:=Q0 hk;rw [e] at hk ⊢;obtain ⟨k5,k6,k7,k8,e⟩:=Q0 hk;rw [e];simp only;obtain ⟨l1,l2,l3,l4⟩:=Ur (x:=(Bg a.lo b.lo p false).v) (y:=(Bg a.lo b.hi p false).v) (z:=(Bg a.hi b.lo p false).v) (u:=(Bg a.hi b.hi p false).v);obtain ⟨g1,g2,g3,g4⟩:=L9 (x:=(Bg a.lo b.lo p true).v) (y:=(Bg a.lo b.hi p true).v) (z:=(Bg a.hi b.lo p true).v) (u:=(Bg a.hi b.hi p true).v);have d1:=F4 hp n1 k1;have d2:=F4 hp n2 k2;have d3:=F4 hp n1 k3;have d4:=F4 hp n2 k4;have u1:=Ig hp n1 k5
  have u2:=Ig hp n2 k6;have u3:=Ig hp n1 k7;have u4:=Ig hp n2 k8;refine ⟨hz',?_,?_,?_,?_⟩
  ·rcases Qi (x:=(Bg a.lo b.lo p false).v) (y:=(Bg a.lo b.hi p false).v) (z:=(Bg a.hi b.lo p false).v) (u:=(Bg a.hi b.hi p false).v) with h | h | h | h<;>rw [h]
   ·exact ⟨false,false,d1⟩
   ·exact ⟨false,true,d2⟩
   ·exact ⟨true,false,d3⟩
   ·exact ⟨true,true,d4⟩
  ·rcases Ly (x:=(Bg a.lo b.lo p true).v) (y:=(Bg a.lo b.hi p true).v) (z:=(Bg a.hi b.lo p true).v) (u:=(Bg a.hi b.hi p true).v) with h | h | h | h<;>rw [h]
   ·exact ⟨false,false,u1⟩
   ·exact ⟨false,true,u2⟩
   ·exact ⟨true,false,u3⟩
   ·exact ⟨true,true,u4⟩
  ·intro i j;cases i<;>cases j
   ·exact ⟨_,d1,l1⟩
   ·exact ⟨_,d2,l2⟩
   ·exact ⟨_,d3,l3⟩
   ·exact ⟨_,d4,l4⟩
  ·intro i j;cases i<;>cases j
   ·exact ⟨_,u1,g1⟩
   ·exact ⟨_,u2,g2⟩
   ·exact ⟨_,u3,g3⟩
   ·exact ⟨_,u4,g4⟩
theorem Rx {o:Obj}(h:w.heap[b]?=some o)(k:Kept w w'):w'.heap[b]?=some o:=(k.block b (Bi h).1).trans h
theorem sf (w:World)(x y z:Value):∃ V,V=w.alloc (.cells #[x,y,z] 3)/\Kept w V/\V.heap[w.heap.size]?=some (.cells #[x,y,z] 3 (0,0)) :=
 ⟨_,rfl,Ab _ _,heap_alloc_new _ _⟩
theorem og {a:Iv}(hv:IvC w v a)(ok:a.Ok)(hT:Tab w)(p1:1<=p)(p2:p<=300) :
 Calls Tryz.prog 102 #[v,.int .i64 (p:Nat)] w (RetIE (Bn (P4 a p)) w):=by
 have M:=Ad (λw1 (k:Kept w w1)=>Yp (hv.kept k) ok);obtain ⟨A,l,c,A',l',c',rfl,h1,h2⟩:=Ca hv;have X0:=Ad (λw1 (k:Kept w w1)=>Wc (p:=p) (h1.kept k) (Bp ok.lo.len (by decide)) (hT.kept k));have X1:=Ad (λw1 (k:Kept w w1)=>Wc (p:=p) (h2.kept k) (Bp ok.hi.len (by decide)) (hT.kept k));have E0:=Ad (λw1 (k:Kept w w1)=>fK (up:=false) (h1.kept k) ok.lo p1 p2 (hT.kept k));have E1:=Ad (λw1 (k:Kept w w1)=>fK (up:=true) (h2.kept k) ok.hi p1 p2 (hT.kept k));have hb:∀ k,ki (Gi a.lo.raw p) (Gi a.hi.raw p)=k->k≠0->Bn (P4 a p)=⟨rzI,k⟩:=λk hk h0=>by
  unfold P4;rw [Ak (by rw [hk];exact h0),hk];unfold Bn;rw [R5]
 have hg:Gi a.lo.raw p=0->Gi a.hi.raw p=0->Bn (P4 a p)=if (Ha a.lo p false).raw.k≠0\/(Ha a.hi p true).raw.k≠0 then ⟨rzI,max (Ha a.lo p false).raw.k (Ha a.hi p true).raw.k⟩ else ⟨⟨(Ha a.lo p false).raw.v,(Ha a.hi p true).raw.v⟩,0⟩:=λh h'=>by
  unfold P4;rw [Af (by rw [h,h'];decide)]
  show _=if (Ha a.lo p false).k≠0\/(Ha a.hi p true).k≠0 then _ else _
  split
  ·unfold Bn;rw [R5];rfl
  ·rfl
 have c0:=M8 a.lo.raw p;have c1:=M8 a.hi.raw p;generalize Gi a.lo.raw p=m0 at *;generalize Gi a.hi.raw p=m1 at *;generalize (Ha a.lo p false).raw=o0 at *;generalize (Ha a.hi p true).raw=o1 at *;obtain ⟨T,hTT⟩:∃ T,Bn (P4 a p)=T:=⟨_,rfl⟩;rw [hTT] at hb hg ⊢;have BAD:=Ad hb;have GOOD:=Ad hg;have C0:=Ad c0;have C1:=Ad c1;clear hTT hb hg c0 c1 hv ok hT h1 h2;generalize a.lo.neg=n1,a.lo.e=e1,a.hi.neg=n2,a.hi.e=e2 at *;obtain ⟨W,hW,kW,BA,BR⟩:=X7 w (.bool n1) (.slice A l c) (.int .i64 e1) (.bool n2) (.slice A' l' c') (.int .i64 e2) (.bool false) (.slice none 0 0) (.int .i64 0) (.bool false) (.slice none 0 0) (.int .i64 0)
 have HW:=Ad hW;have K:=Ad kW;have HB:=Ad BA;have HR:=Ad BR;obtain ⟨-,a0,a1,a2,a3,a4,a5⟩:=BA.facts;clear hW kW BA BR;go_enter Tryz.func102,Tryz.ntmps102;go_upto_region 1 with fail;rw [<-HW.o];go_wp2_with fail;refine (M.o _ K.o).mono ?_;rintro ee w1 ⟨rfl,q⟩;simp only [];replace K:=Ad (K.o.trans q);replace HB:=Ad (HB.o.kept q);replace HR:=Ad (HR.o.kept q);clear q a0 a1 a2 a3 a4 a5 M HW;have lR:=HR.o.facts.1;obtain ⟨V,hV,kV,hv3⟩:=sf w1 (.int .i64 1) (.int .i64 4) (.int .i64 2);have HV:=Ad hV;have V3:=Ad hv3;replace K:=Ad (K.o.trans kV);replace HB:=Ad (HB.o.kept kV);replace HR:=Ad (HR.o.kept kV)
 have KX:Hid (Kept V V):=Ad (Below.refl _ _);obtain ⟨-,a0,a1,a2,a3,a4,a5⟩:=HB.o.facts;clear hV kV hv3;go_upto_region 4 with fail;rw [<-HV.o];refine wp_loop_rounds 4 ?_
 -- a round of the loop over the errors: C the error, I its place
 rw [rounds_succ];have v9:=Ae (Rx V3.o KX.o) 0 _ rfl;go_upto_region 6 with fail;by_cases h0:m0=1
 ·have g0:(m0==1)=true:=by simp [h0]
  go_wp2_with fail;refine (X0.o _ (K.o.trans KX.o)).mono ?_;rintro ee w2 ⟨rfl,q⟩;simp only [];have KK:=Ad (K.o.trans (KX.o.trans q));have HR2:=Ad ((HR.o.kept KX.o).kept q);clear q a0 a1 a2 a3 a4 a5 v9;obtain ⟨-,x0,x1,x2,x3,x4,x5⟩:=HR2.o.facts;obtain ⟨f0,f1,f2,f3,f4,f5⟩:=HR2.o.free;go_wp2_with fail;have e:T=⟨rzI,1⟩:=BAD.o 1 (by unfold ki;rw [Ak (by omega)]) (by decide);subst e;exact Cx (HR2.o.laid _ _ _ _ _ _) rfl rfl rfl ⟨Az KK.o (by omega),_,rfl,_,_,_,_,_,_,rfl,Cw _,Cw _⟩
 have g0:(m0==1)=false:=by simp [h0]
 go_wp2_with fail;refine (X0.o _ (K.o.trans KX.o)).mono ?_;rintro ee w2 ⟨rfl,q⟩;simp only [];replace KX:=Ad (KX.o.trans q);clear q a0 a1 a2 a3 a4 a5;obtain ⟨-,a0,a1,a2,a3,a4,a5⟩:=(HB.o.kept KX.o).facts;by_cases h1:m1=1
 ·have g1:(m1==1)=true:=by simp [h1]
  go_wp2_with fail;refine (X1.o _ (K.o.trans KX.o)).mono ?_;rintro ee w2 ⟨rfl,q⟩;simp only [];have KK:=Ad (K.o.trans (KX.o.trans q));have HR2:=Ad ((HR.o.kept KX.o).kept q);clear q a0 a1 a2 a3 a4 a5 v9;obtain ⟨-,x0,x1,x2,x3,x4,x5⟩:=HR2.o.facts;obtain ⟨f0,f1,f2,f3,f4,f5⟩:=HR2.o.free;go_wp2_with fail;have e:T=⟨rzI,1⟩:=BAD.o 1 (by unfold ki;rw [Ak (by omega)]) (by decide);subst e;exact Cx (HR2.o.laid _ _ _ _ _ _) rfl rfl rfl ⟨Az KK.o (by omega),_,rfl,_,_,_,_,_,_,rfl,Cw _,Cw _⟩
 have g1:(m1==1)=false:=by simp [h1]
 go_wp2_with fail;refine (X1.o _ (K.o.trans KX.o)).mono ?_;rintro ee w3 ⟨rfl,q⟩;simp only [];replace KX:=Ad (KX.o.trans q);clear q a0 a1 a2 a3 a4 a5;obtain ⟨-,a0,a1,a2,a3,a4,a5⟩:=(HB.o.kept KX.o).facts;go_wp2_with fail;have H1:=Ad (And.intro h0 h1);clear g0 g1 h0 h1 v9
 -- a round of the loop over the errors: C the error, I its place
 rw [rounds_succ];have v9:=Ae (Rx V3.o KX.o) 1 _ rfl;go_upto_region 6 with fail;by_cases h0:m0=4
 ·have g0:(m0==4)=true:=by simp [h0]
  go_wp2_with fail;refine (X0.o _ (K.o.trans KX.o)).mono ?_;rintro ee w2 ⟨rfl,q⟩;simp only [];have KK:=Ad (K.o.trans (KX.o.trans q));have HR2:=Ad ((HR.o.kept KX.o).kept q);clear q a0 a1 a2 a3 a4 a5 v9;obtain ⟨-,x0,x1,x2,x3,x4,x5⟩:=HR2.o.facts;obtain ⟨f0,f1,f2,f3,f4,f5⟩:=HR2.o.free;go_wp2_with fail;have e:T=⟨rzI,4⟩:=BAD.o 4 (by have a9:=H1.o;unfold ki;rw [Af (by omega),Ak (by omega)]) (by decide);subst e;exact Cx (HR2.o.laid _ _ _ _ _ _) rfl rfl rfl ⟨Az KK.o (by omega),_,rfl,_,_,_,_,_,_,rfl,Cw _,Cw _⟩
 have g0:(m0==4)=false:=by simp [h0]
 go_wp2_with fail;refine (X0.o _ (K.o.trans KX.o)).mono ?_;rintro ee w4 ⟨rfl,q⟩;simp only [];replace KX:=Ad (KX.o.trans q);clear q a0 a1 a2 a3 a4 a5;obtain ⟨-,a0,a1,a2,a3,a4,a5⟩:=(HB.o.kept KX.o).facts;by_cases h1:m1=4
 ·have g1:(m1==4)=true:=by simp [h1]
  go_wp2_with fail;refine (X1.o _ (K.o.trans KX.o)).mono ?_;rintro ee w2 ⟨rfl,q⟩;simp only [];have KK:=Ad (K.o.trans (KX.o.trans q));have HR2:=Ad ((HR.o.kept KX.o).kept q);clear q a0 a1 a2 a3 a4 a5 v9;obtain ⟨-,x0,x1,x2,x3,x4,x5⟩:=HR2.o.facts;obtain ⟨f0,f1,f2,f3,f4,f5⟩:=HR2.o.free;go_wp2_with fail;have e:T=⟨rzI,4⟩:=BAD.o 4 (by have a9:=H1.o;unfold ki;rw [Af (by omega),Ak (by omega)]) (by decide);subst e;exact Cx (HR2.o.laid _ _ _ _ _ _) rfl rfl rfl ⟨Az KK.o (by omega),_,rfl,_,_,_,_,_,_,rfl,Cw _,Cw _⟩
 have g1:(m1==4)=false:=by simp [h1]
 go_wp2_with fail;refine (X1.o _ (K.o.trans KX.o)).mono ?_;rintro ee w5 ⟨rfl,q⟩;simp only [];replace KX:=Ad (KX.o.trans q);clear q a0 a1 a2 a3 a4 a5;obtain ⟨-,a0,a1,a2,a3,a4,a5⟩:=(HB.o.kept KX.o).facts;go_wp2_with fail;have H4:=Ad (And.intro h0 h1);clear g0 g1 h0 h1 v9
 -- a round of the loop over the errors: C the error, I its place
 rw [rounds_succ];have v9:=Ae (Rx V3.o KX.o) 2 _ rfl;go_upto_region 6 with fail;by_cases h0:m0=2
 ·have g0:(m0==2)=true:=by simp [h0]
  go_wp2_with fail;refine (X0.o _ (K.o.trans KX.o)).mono ?_;rintro ee w2 ⟨rfl,q⟩;simp only [];have KK:=Ad (K.o.trans (KX.o.trans q));have HR2:=Ad ((HR.o.kept KX.o).kept q);clear q a0 a1 a2 a3 a4 a5 v9;obtain ⟨-,x0,x1,x2,x3,x4,x5⟩:=HR2.o.facts;obtain ⟨f0,f1,f2,f3,f4,f5⟩:=HR2.o.free;go_wp2_with fail;have e:T=⟨rzI,2⟩:=BAD.o 2 (by have a9:=H1.o;have a8:=H4.o;unfold ki;rw [Af (by omega),Af (by omega),Ak (by omega)]) (by decide);subst e;exact Cx (HR2.o.laid _ _ _ _ _ _) rfl rfl rfl ⟨Az KK.o (by omega),_,rfl,_,_,_,_,_,_,rfl,Cw _,Cw _⟩
 have g0:(m0==2)=false:=by simp [h0]
 go_wp2_with fail;refine (X0.o _ (K.o.trans KX.o)).mono ?_;rintro ee w6 ⟨rfl,q⟩;simp only [];replace KX:=Ad (KX.o.trans q);clear q a0 a1 a2 a3 a4 a5;obtain ⟨-,a0,a1,a2,a3,a4,a5⟩:=(HB.o.kept KX.o).facts;by_cases h1:m1=2
 ·have g1:(m1==2)=true:=by simp [h1]
  go_wp2_with fail;refine (X1.o _ (K.o.trans KX.o)).mono ?_;rintro ee w2 ⟨rfl,q⟩;simp only [];have KK:=Ad (K.o.trans (KX.o.trans q));have HR2:=Ad ((HR.o.kept KX.o).kept q);clear q a0 a1 a2 a3 a4 a5 v9;obtain ⟨-,x0,x1,x2,x3,x4,x5⟩:=HR2.o.facts;obtain ⟨f0,f1,f2,f3,f4,f5⟩:=HR2.o.free;go_wp2_with fail;have e:T=⟨rzI,2⟩:=BAD.o 2 (by have a9:=H1.o;have a8:=H4.o;unfold ki;rw [Af (by omega),Af (by omega),Ak (by omega)]) (by decide);subst e;exact Cx (HR2.o.laid _ _ _ _ _ _) rfl rfl rfl ⟨Az KK.o (by omega),_,rfl,_,_,_,_,_,_,rfl,Cw _,Cw _⟩
 have g1:(m1==2)=false:=by simp [h1]
 go_wp2_with fail;refine (X1.o _ (K.o.trans KX.o)).mono ?_;rintro ee w7 ⟨rfl,q⟩;simp only [];replace KX:=Ad (KX.o.trans q);clear q a0 a1 a2 a3 a4 a5;obtain ⟨-,a0,a1,a2,a3,a4,a5⟩:=(HB.o.kept KX.o).facts;go_wp2_with fail;have H2:=Ad (And.intro h0 h1);clear g0 g1 h0 h1 v9;rw [rounds_succ];have hm0:m0=0/\m1=0:=by
  have a1:=H1.o;have a2:=H4.o;have a3:=H2.o;have a4:=C0.o;have a5:=C1.o;omega
 have HT:=Ad (GOOD.o hm0.1 hm0.2);clear hm0 GOOD BAD H1 H4 H2 C0 C1 X0 X1;obtain ⟨k0,hk0⟩:∃ k,k=o0.k:=⟨_,rfl⟩;obtain ⟨k1,hk1⟩:∃ k,k=o1.k:=⟨_,rfl⟩;have HK0:=Ad hk0;have HK1:=Ad hk1;clear hk0 hk1;go_upto_region 9 with fail;go_wp2_with fail;refine (E0.o _ (K.o.trans KX.o)).mono ?_;rintro ee w8 ⟨q,v0,rfl,hv0⟩;obtain ⟨B,j,f,rfl,d0⟩:=Bf hv0;rw [<-HK0.o];simp only [];have D0:=Ad d0;replace KX:=Ad (KX.o.trans q);clear q a0 a1 a2 a3 a4 a5 hv0 d0 E0;obtain ⟨V9,hV9,kV9,bV9,-⟩:=Nu w8 (.bool o0.v.neg) (.slice B j f) (.int .i64 o0.v.e);have HV9:=Ad hV9;replace KX:=Ad (KX.o.trans kV9)
 have B9:=Ad bV9;replace D0:=Ad (D0.o.kept kV9);obtain ⟨-,a0,a1,a2,a3,a4,a5⟩:=(HB.o.kept KX.o).facts;clear hV9 kV9 bV9;go_upto_region 10 with fail;rw [<-HV9.o];go_wp2_with fail;refine (E1.o _ (K.o.trans KX.o)).mono ?_;rintro ee w10 ⟨q,v1,rfl,hv1⟩;obtain ⟨B',j',f',rfl,d1⟩:=Bf hv1;rw [<-HK1.o];simp only [];have D1:=Ad d1;replace KX:=Ad (KX.o.trans q);replace B9:=Ad (B9.o.kept q);replace D0:=Ad (D0.o.kept q);clear q a0 a1 a2 a3 a4 a5 hv1 d1 E1 HV9;obtain ⟨V11,hV11,kV11,bV11,-⟩:=Nu w10 (.bool o1.v.neg) (.slice B' j' f') (.int .i64 o1.v.e);have HV11:=Ad hV11;replace KX:=Ad (KX.o.trans kV11)
 replace B9:=Ad (B9.o.kept kV11);have B11:=Ad bV11;replace D0:=Ad (D0.o.kept kV11);replace D1:=Ad (D1.o.kept kV11);have HR2:=Ad (HR.o.kept KX.o);have KK:=Ad (K.o.trans KX.o);clear hV11 kV11 bV11 HR HB KX;go_upto_region 11 with fail;rw [<-HV11.o];obtain ⟨-,x0,x1,x2,x3,x4,x5⟩:=HR2.o.facts;obtain ⟨f0,f1,f2,f3,f4,f5⟩:=HR2.o.free;by_cases z0:k0=0
 ·by_cases z1:k1=0
  ·have g0:(k0 != 0)=false:=by simp [z0]
   have g1:(k1 != 0)=false:=by simp [z1]
   obtain ⟨-,c0,c1,c2⟩:=B9.o.facts;obtain ⟨-,e0,e1,e2⟩:=B11.o.facts;go_wp2_with fail;have e:T=⟨⟨o0.v,o1.v⟩,0⟩:=by
    rw [HT.o,Af (by rw [<-HK0.o,<-HK1.o];omega)]
   subst e;exact Cx (HR2.o.laid _ _ _ _ _ _) rfl rfl rfl ⟨Az KK.o (by omega),_,rfl,_,_,_,_,_,_,rfl,D0.o.ivW HR2.o _ _ _ _ _ _,D1.o.ivW HR2.o _ _ _ _ _ _⟩
  ·have g0:(k0 != 0)=false:=by simp [z0]
   have g1:(k1 != 0)=true:=by simp [z1]
   go_wp2_with fail;have e:T=⟨rzI,max 0 k1⟩:=by
    rw [HT.o,Ak (by rw [<-HK0.o,<-HK1.o];omega),<-HK0.o,<-HK1.o,z0]
   subst e;exact Cx (HR2.o.laid _ _ _ _ _ _) rfl rfl rfl ⟨Az KK.o (by omega),_,rfl,_,_,_,_,_,_,rfl,Cw _,Cw _⟩
 ·have g0:(k0 != 0)=true:=by simp [z0]
  go_wp2_with fail;have e:T=⟨rzI,max k0 k1⟩:=by
   rw [HT.o,Ak (by rw [<-HK0.o,<-HK1.o];omega),<-HK0.o,<-HK1.o]
  subst e;exact Cx (HR2.o.laid _ _ _ _ _ _) rfl rfl rfl ⟨Az KK.o (by omega),_,rfl,_,_,_,_,_,_,rfl,Cw _,Cw _⟩
theorem Y7:qJ P4:=⟨λa p ha p1 p2=>kl a p ha p1 p2,λ_ _ _ _ hv ok hT p1 p2=>og hv ok hT p1 p2⟩
end Go.Proofs.YtabjjdicffcolaaGreatDoor
