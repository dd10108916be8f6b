/- Words and contracts, part 10. -/
import Derived.Test.YtabjjdicffcolaaGreatDoorClaimJfrontp09
set_option maxRecDepth 100000
set_option maxHeartbeats 0
namespace Go.Proofs.YtabjjdicffcolaaGreatDoor
open Go.RowKit
variable {cs:Array Value} {n n' up:Bool} {d d0:Dy} {e:Ending} {R:Ending->World->Prop} {e' k:Int} {a:Iv} {l:List Dy} {xs ys:List Nat} {b b2 b3 base bp bu bx c c' i l' p:Nat} {o:Obj} {A A':Option Addr} {row:Option Nat} {r:Raw} {T' t:TypeId} {q s u v v' x x' y y' z z':Value} {w w' w0:World}
def lD (w:World) (b:Nat) (d:Dy):Prop:=∃ A l c,Blk w b (.bool d.neg) (.slice A l c) (.int .i64 d.e)/\DyR w (.agg #[.bool d.neg,.slice A l c,.int .i64 d.e]) d.raw
theorem mi (h:DyR w (.agg #[.bool d.neg,s,.int .i64 d.e]) d.raw) :
 DyS (w.alloc (.cells #[.bool d.neg,s,.int .i64 d.e] 28)) (.slice (some ⟨w.heap.size,0,none⟩) 1 1) [d]:=by
 refine ⟨_,1,rfl,Aq _,λ_=>⟨_,_,rfl,λi x hi=>?_⟩⟩;have:i=0:=by
  have:=(Ed hi).1;simp at this;exact this
 subst this;simp at hi;subst hi;obtain ⟨_,c0,c1,c2,_⟩:=(Bz w (.bool d.neg) s (.int .i64 d.e)).facts;exact ⟨s,c0,c1,c2,h.kept (Ab _ _)⟩
theorem ag {n:Nat}(hn:w.heap.size=n)(h:DyR w (.agg #[.bool d.neg,s,.int .i64 d.e]) d.raw) :
 DyS (w.alloc (.cells #[.bool d.neg,s,.int .i64 d.e] 28)) (.slice (some ⟨n,0,none⟩) 1 1) [d]:=by
 subst hn;exact mi h
theorem pm (w:World):∃ W,W=w.alloc (.cells #[.bool false,.slice none 0 0,.int .i64 0] 28)/\Kept w W/\Blk W w.heap.size (.bool false) (.slice none 0 0) (.int .i64 0)/\W.heap.size=w.heap.size+1 :=
 ⟨_,rfl,Ab _ _,El w,by simp⟩
theorem iU (d:Dy)(p:Nat)(up:Bool):(Dj d p up).raw.k≠0->(Dj d p up).raw.v=rz:=by
 intro h
 show ((Dj d p up).v).raw=rz
 rw [(Ia d p up).2 h,Ge]
theorem ab {bd:Nat}(hd:d.Ok)(hT:Tab w)(p1:1<=p)(p2:p<=2000)
 (cp:w.cell? ⟨bp,0,none⟩=some (.int .i64 p)) (cd:lD w bd d) (cu:w.cell? ⟨bu,0,none⟩=some (.bool up)) :
 Calls Tryz.prog 169 #[.pointer (some ⟨bp,0,none⟩),.pointer (some ⟨bd,0,none⟩),.pointer (some ⟨bu,0,none⟩)] w (J6 185 (Dj d p up).raw w):=by
 obtain ⟨A,l,c,hb,hR⟩:=cd;have x1:=hd.lo;have x2:=hd.hi;have hl:=hd.len
 have hc:=λw1 (k:Kept w w1)=>iT (v:=.slice A l c) (m:=d.m) (p:=p) (e:=d.e) d.neg false up (w:=w1)
  (by
    obtain ⟨A',l',c',he,-,hlim,-,-⟩:=hR.shape;injection he with he;injection he with he
    simp only [List.cons.injEq,and_true] at he;have e1:=he.2.1;rw [<-e1] at hlim;exact ⟨hlim.kept k,Bp hl (by decide),by omega,by omega,p1,p2,hT.kept k⟩)
 have hm:=λw1 (k:Kept w w1) v (hv:DyS w1 v [d])=>dG hv (by intro x hx;simp at hx;subst hx;exact hd) (by simp) (by omega:(1:Int)<=(p:Int)) (by omega)
 obtain ⟨W,hW,kW,BR,sW⟩:=pm w;have hone:=ag sW (hR.kept kW);have lp:=Av cp;have lu:=Av cu;simp only at lp lu;have HC:=Ad hc;have HM:=Ad hm;have HO:=Ad hone;have HB:=Ad hb;have CP:=Ad cp;have CU:=Ad cu;obtain ⟨lb,b0,b1,b2,-⟩:=hb.facts;clear hc hm hone hb hR hd hT x1 x2 hl p1 p2;have ho:Kc d.neg d.m d.e false p up=Dj d p up:=rfl;rw [ho] at HC;clear ho;generalize Dj d p up=o at *;have HK:=Ad kW;have HR:=Ad BR;have HW:=Ad hW;clear hW kW BR sW;generalize d.neg=nd,d.e=ed at *;go_enter Tryz.func169,Tryz.ntmps169
 go_wp2_with (go_at_call 170;rw [<-HW.o];refine (HM.o _ (HK.o.trans (Ab _ _)) _ HO.o).mono ?_;rintro e w1 ⟨rfl,q⟩;have K:=Ad (HK.o.trans ((Ab _ _).trans q));have hr:=HR.o.kept ((Ab _ _).trans q);have HR2:=Ad hr;clear q hr b0 b1 b2 cp cu;have cp:=An K.o CP.o;have cu:=An K.o CU.o;obtain ⟨-,b0,b1,b2,-⟩:=(HB.o.kept K.o).facts)
 refine (HC.o _ K.o).mono ?_;rintro e w2 ⟨q,⟨h0,u,rfl,hd⟩ | ⟨h0,rfl⟩⟩
 ·obtain ⟨A',l',c',rfl,hd,g1,g2⟩:=Et hd;have hr:=HR2.o.kept q;obtain ⟨_,r0,r1,r2,f0,f1,f2⟩:=hr.facts;have HD:=Ad hd;have H0:=Ad h0;have HR3:=Ad hr;have Q:=Ad q;clear hd h0 hr q;simp only [];go_wp2_with fail;exact Ct (HR3.o.laid _ _ _) rfl rfl rfl ⟨Au (K.o.trans Q.o) (Aq _),.inl ⟨H0.o,_,rfl,(HD.o.dyW HR3.o (Ah _) (Ag _ _ _) (Aj _)).dyR g1 g2⟩⟩
 ·exact ⟨rfl,K.o.trans q,.inr ⟨h0,rfl⟩⟩
theorem iJ (w:World)(x y z p u:Value):∃ W,W=(((w.alloc (.cells #[x,y,z] 28)).alloc (.cells #[p] 3)).alloc (.cells #[u] 4)).alloc (.cells #[.bool false,.slice none 0 0,.int .i64 0] 28) /\
 Kept w W/\Blk W w.heap.size x y z/\W.cell? ⟨w.heap.size+1,0,none⟩=some p/\W.cell? ⟨w.heap.size+1+1,0,none⟩=some u/\Blk W (w.heap.size+1+1+1) (.bool false) (.slice none 0 0) (.int .i64 0) :=
 ⟨_, rfl, (((Ab         _ _).trans (Ab         _ _)).trans (Ab         _ _)).trans (Ab         _ _), Bl        (Bl        (Bl        (Bz      _ _ _ _) _) _) _,
  An (Ab _ _) (An (Ab _ _) (nj _ _ _ _)),An (Ab _ _) (nk _ _ _ _ _),T6 _ _ _ _ _ _ _⟩
theorem Bx (h:DyR w v d.raw):∃ A l c,v=.agg #[.bool d.neg,.slice A l c,.int .i64 d.e]/\DyR w (.agg #[.bool d.neg,.slice A l c,.int .i64 d.e]) d.raw:=by
 obtain ⟨A,l,c,rfl,-,-,-,-⟩:=h.shape;exact ⟨A,l,c,rfl,h⟩
theorem Uh (hv:DyR w v d.raw)(hd:d.Ok)(hT:Tab w)(p1:1<=p)(p2:p<=2000) :
 Calls Tryz.prog 123 #[v,.int .i64 p,.bool up] w (RetE (Dj d p up).raw w):=by
 have hmf:=Hf;obtain ⟨A,l,c,rfl,hv⟩:=Bx hv;obtain ⟨W,hW,kW,B0,cp,cu,BR⟩:=iJ w (.bool d.neg) (.slice A l c) (.int .i64 d.e) (.int .i64 p) (.bool up)
 have hf:=Yj (w:=W) (K:=169) (cap:=#[.pointer (some ⟨w.heap.size+1,0,none⟩),.pointer (some ⟨w.heap.size,0,none⟩),.pointer (some ⟨w.heap.size+1+1,0,none⟩)]) (o:=(Dj d p up).raw)
  (λw1 k=>ab hd (hT.kept (kW.trans k)) p1 p2 (An k cp) ⟨A,l,c,B0.kept k,hv.kept (kW.trans k)⟩ (An k cu)) (iU d p up) (λ_=>rfl)
 have HF:=Ad hf;have HW:=Ad hW;have HK:=Ad kW;have HR:=Ad BR;clear hf hW kW B0 cp cu BR hv hd hT p1 p2;generalize Dj d p up=o at *;generalize d.neg=nd,d.e=ed at *;go_enter Tryz.func123,Tryz.ntmps123
 go_wp2_with (go_at_call 168;rw [<-HW.o];refine HF.o.mono ?_;rintro e w1 ⟨q,u,rfl,hd⟩;obtain ⟨A',l',c',rfl,hd,g3,g4⟩:=Et hd;have HD:=Ad hd;have hb2:=HR.o.kept q;obtain ⟨_,c0,c1,c2,f0,f1,f2⟩:=hb2.facts;have HB2:=Ad hb2;clear hd hb2)
 exact Fa (HB2.o.laid _ _ _) rfl rfl rfl ⟨Au (HK.o.trans q) (by omega),_,rfl,(HD.o.dyW HB2.o (Ah _) (Ag _ _ _) (Aj _)).dyR g3 g4⟩
theorem Mt (w:World)(x y z:Value):∃ W,W=(w.alloc (.cells #[x,y,z] 28)).alloc (.cells #[.bool false,.slice none 0 0,.int .i64 0] 28) /\
 Kept w W/\Blk W w.heap.size x y z/\Blk W (w.heap.size+1) (.bool false) (.slice none 0 0) (.int .i64 0) :=
 ⟨_,rfl,(Ab _ _).trans (Ab _ _),Bl (Bz _ _ _ _) _,Em _ _ _ _ _⟩
theorem Qb (hv:DyR w v d.raw)(hd:d.Ok)(hT:Tab w)(p1:1<=p)(p2:p<=2000) :
 Calls Tryz.prog 91 #[v,.int .i64 p] w (RetE (Dj d p false).raw w):=by
 have hc:=λw1 (k:Kept w w1)=>Uh (up:=false) (hv.kept k) hd (hT.kept k) p1 p2
 obtain ⟨A,l,c,rfl,hv⟩:=Bx hv;obtain ⟨W,hW,kW,B0,BR⟩:=Mt w (.bool d.neg) (.slice A l c) (.int .i64 d.e);have HC:=Ad hc;have HW:=Ad hW;have HK:=Ad kW;have HR:=Ad BR;clear hc hW kW B0 BR hv hd hT p1 p2;generalize Dj d p false=o at *;generalize d.neg=nd,d.e=ed at *;go_enter Tryz.func91,Tryz.ntmps91
 go_wp2_with (go_at_call 123;rw [<-HW.o];refine (HC.o _ HK.o).mono ?_;rintro e w1 ⟨q,u,rfl,hd⟩;obtain ⟨A',l',c',rfl,hd,g3,g4⟩:=Et hd;have HD:=Ad hd;have hb2:=HR.o.kept q;obtain ⟨_,c0,c1,c2,f0,f1,f2⟩:=hb2.facts;have HB2:=Ad hb2;clear hd hb2)
 exact Fa (HB2.o.laid _ _ _) rfl rfl rfl ⟨Au (HK.o.trans q) (by omega),_,rfl,(HD.o.dyW HB2.o (Ah _) (Ag _ _ _) (Aj _)).dyR g3 g4⟩
theorem cz (hv:DyR w v d.raw)(hd:d.Ok)(hT:Tab w)(p1:1<=p)(p2:p<=2000) :
 Calls Tryz.prog 92 #[v,.int .i64 p] w (RetE (Dj d p true).raw w):=by
 have hc:=λw1 (k:Kept w w1)=>Uh (up:=true) (hv.kept k) hd (hT.kept k) p1 p2
 obtain ⟨A,l,c,rfl,hv⟩:=Bx hv;obtain ⟨W,hW,kW,B0,BR⟩:=Mt w (.bool d.neg) (.slice A l c) (.int .i64 d.e);have HC:=Ad hc;have HW:=Ad hW;have HK:=Ad kW;have HR:=Ad BR;clear hc hW kW B0 BR hv hd hT p1 p2;generalize Dj d p true=o at *;generalize d.neg=nd,d.e=ed at *;go_enter Tryz.func92,Tryz.ntmps92
 go_wp2_with (go_at_call 123;rw [<-HW.o];refine (HC.o _ HK.o).mono ?_;rintro e w1 ⟨q,u,rfl,hd⟩;obtain ⟨A',l',c',rfl,hd,g3,g4⟩:=Et hd;have HD:=Ad hd;have hb2:=HR.o.kept q;obtain ⟨_,c0,c1,c2,f0,f1,f2⟩:=hb2.facts;have HB2:=Ad hb2;clear hd hb2)
 exact Fa (HB2.o.laid _ _ _) rfl rfl rfl ⟨Au (HK.o.trans q) (by omega),_,rfl,(HD.o.dyW HB2.o (Ah _) (Ag _ _ _) (Aj _)).dyR g3 g4⟩
theorem Tm {s':Value}{d':Dy}{n:Nat}(hn:w.heap.size=n)(h:DyR w (.agg #[.bool d.neg,s,.int .i64 d.e]) d.raw)(h':DyR w (.agg #[.bool d'.neg,s',.int .i64 d'.e]) d'.raw) :
 DyS (w.alloc (.cells #[.bool d.neg,s,.int .i64 d.e,.bool d'.neg,s',.int .i64 d'.e] 28)) (.slice (some ⟨n,0,none⟩) 2 2) [d,d']:=by
 subst hn;refine ⟨_,2,rfl,Aq _,λ_=>⟨_,_,rfl,λi x hi=>?_⟩⟩;have hb:=heap_alloc_new w (.cells #[.bool d.neg,s,.int .i64 d.e,.bool d'.neg,s',.int .i64 d'.e] 28);have hlt:i<2:=by
  have:=(Ed hi).1;simpa using this
 rcases i with _ | _ | i
 ·simp at hi;subst hi;exact ⟨s,Ae hb 0 _ rfl,Ae hb 1 _ rfl,Ae hb 2 _ rfl,h.kept (Ab _ _)⟩
 ·simp at hi;subst hi;exact ⟨s',Ae hb 3 _ rfl,Ae hb 4 _ rfl,Ae hb 5 _ rfl,h'.kept (Ab _ _)⟩
 ·omega
def Cz (a b:Dy) (p:Nat) (up:Bool):Outc Dy:=if b.m=0 then Wv 4 else Bg a b p up
theorem Kx (a b:Dy)(p:Nat)(up:Bool):(Cz a b p up).Ok:=by
 unfold Cz;split
 ·exact Nz _
 ·exact Fo _ _ _ _
theorem nI {x y:Dy}{bY:Nat}(hx:x.Ok)(hy:y.Ok)(hT:Tab w)(p1:1<=p)(p2:p<=2000)
 (cp:w.cell? ⟨bp,0,none⟩=some (.int .i64 p)) (cx:lD w bx x) (cy:lD w bY y) (cu:w.cell? ⟨bu,0,none⟩=some (.bool up)) :
 Calls Tryz.prog 173 #[.pointer (some ⟨bp,0,none⟩),.pointer (some ⟨bx,0,none⟩),.pointer (some ⟨bY,0,none⟩),.pointer (some ⟨bu,0,none⟩)] w (J6 185 (Cz x y p up).raw w):=by
 obtain ⟨A,l,c,hbx,hRx⟩:=cx;obtain ⟨A2,l2,c2,hby,hRy⟩:=cy;obtain ⟨W,hW,kW,BR,sW⟩:=pm w;have htwo:=Tm sW (hRx.kept kW) (hRy.kept kW);have hm:=λw1 (k:Kept w w1) v (hv:DyS w1 v [x,y])=>dG hv (by intro z hz;simp at hz;rcases hz with rfl | rfl;exact hx;exact hy) (by simp) (by omega:(1:Int)<=(p:Int)) (by omega)
 have HM:=Ad hm;have HO:=Ad htwo;have HW:=Ad hW;have HK:=Ad kW;have HR:=Ad BR;have HBX:=Ad hbx;have HBY:=Ad hby;have CP:=Ad cp;have CU:=Ad cu;have lp:=Av cp;have lu:=Av cu;simp only at lp lu;obtain ⟨lbx,x0,x1,x2,-⟩:=hbx.facts;obtain ⟨lby,y0,y1,y2,-⟩:=hby.facts;clear hm htwo hW kW BR sW hbx hby;by_cases h0:y.m=0
 ·unfold Cz;rw [Ak h0];have hl2:l2=0:=by
   obtain ⟨A',l',c',he,hl',-,-,-⟩:=hRy.shape;injection he with he;injection he with he
   simp only [List.cons.injEq,and_true] at he;have e1:=he.2.1;injection e1 with _ e2 _
   rw [e2,hl'];simp only [Dy.raw];rw [h0,Be];rfl
  subst hl2;clear hRx hRy hx hy hT p1 p2 h0;generalize x.neg=n1,x.e=e1,y.neg=n2,y.e=e2 at *;go_enter Tryz.func173,Tryz.ntmps173
  go_wp2_with (first
   | (go_at_call 170;rw [<-HW.o];refine (HM.o _ (HK.o.trans (Ab _ _)) _ HO.o).mono ?_;rintro e w1 ⟨rfl,q⟩;have K:=Ad (HK.o.trans ((Ab _ _).trans q));have hr:=HR.o.kept ((Ab _ _).trans q);have HR2:=Ad hr;clear q hr x0 x1 x2 y0 y1 y2 cp cu;have cp:=An K.o CP.o;have cu:=An K.o CU.o;obtain ⟨-,x0,x1,x2,-⟩:=(HBX.o.kept K.o).facts;obtain ⟨-,y0,y1,y2,-⟩:=(HBY.o.kept K.o).facts)
   | (go_at_call 174;refine (Gg _ _ _).mono ?_;rintro e w3 ⟨he,rfl⟩;obtain rfl:e=.panicked (By 185 _):=he))
  exact ⟨rfl,K.o,.inr ⟨by decide,rfl⟩⟩
 ·unfold Cz;rw [Af h0];have bx1:=Dw x.m 64 hx.len;have by1:=Dw y.m 64 hy.len;have xl:=hx.lo;have xh:=hx.hi;have yl:=hy.lo;have yh:=hy.hi;obtain ⟨kk,hK⟩:∃ kk,kk=Ce x y p:=⟨_,rfl⟩;have hKle:kk≤6200:=by rw [hK];unfold Ce;omega
  have limx:Lim w (.slice A l c) (Al x.m):=by
   obtain ⟨A',l',c',he,-,hlim,-,-⟩:=hRx.shape;injection he with he;injection he with he
   simp only [List.cons.injEq,and_true] at he;rw [he.2.1];exact hlim
  have limy:Lim w (.slice A2 l2 c2) (Al y.m):=by
   obtain ⟨A',l',c',he,-,hlim,-,-⟩:=hRy.shape;injection he with he;injection he with he
   simp only [List.cons.injEq,and_true] at he;rw [he.2.1];exact hlim
  have hl2:0<l2:=by
   obtain ⟨A',l',c',he,hl',-⟩:=limy.shape;injection he with e1 e2 e3
   rw [e2,hl'];exact Br y.m h0
  have hs1:=λw1 (k:Kept w w1)=>Nk (limx.kept k) (by have:=hx.len;omega)
  have hs2:=λw1 (k:Kept w w1)=>Nk (limy.kept k) (by have:=hy.len;omega)
  have hle:=λw1 (k:Kept w w1)=>Oc (limx.kept k) kk (by have:=hx.len;omega) (by omega)
  have blX:bl (x.m*2^kk)<=10296:=by
   by_cases hz:x.m=0
   ·rw [hz,Nat.zero_mul,Hi];omega
   ·rw [Iu _ _ hz];omega
  have lenX:=Dt (x.m*2^kk) 161 (by omega);have hqr:=λw1 u (k:Kept w w1) (hu:Lim w1 u (Al (x.m*2^kk)))=>aP hu (limy.kept k) (by omega) (by have:=hy.len;omega) h0
  have hcu:=λw1 u (rb:Bool) (k:Kept w w1) (hu:Lim w1 u (Al (x.m*2^kk/y.m)))=>iT (v:=u) (m:=x.m*2^kk/y.m) (p:=p) (e:=x.e-y.e-kk) (x.neg != y.neg) rb up (w:=w1)
   ⟨hu,Bp (E7 (Nat.div_le_self _ _)) (by omega),by omega,by omega,p1,p2,hT.kept k⟩
  have hout:Bg x y p up=Kc (x.neg != y.neg) (x.m*2^kk/y.m) (x.e-y.e-kk) (decide (¬x.m*2^kk%y.m=0)) p up:=by unfold Bg;rw [hK]
  obtain ⟨o,ho⟩:∃ o,o=Bg x y p up:=⟨_,rfl⟩;have hoc:=ho.trans hout;have hrl:∀ (w1:World) (v:Value),Lim w1 v (Al (x.m*2^kk%y.m))->∃ A l c,v=.slice A l c/\decide (0<l)=decide (¬x.m*2^kk%y.m=0):=by
   intro w1 v hv;obtain ⟨A,l,c,rfl,hl,-⟩:=hv.shape;refine ⟨A,l,c,rfl,?_⟩;rw [hl];by_cases hz:x.m*2^kk%y.m=0
   ·rw [hz,Be];rfl
   ·have:=Br _ hz;simp [hz];omega
  rw [<-ho];obtain ⟨nb,hnb⟩:∃ nb,(x.neg != y.neg)=nb:=⟨_,rfl⟩;have hnb1:((!x.neg)==y.neg)=nb:=by rw [<-hnb];cases x.neg<;>cases y.neg<;>rfl
  have hnb2:(!(x.neg==y.neg))=nb:=by rw [<-hnb];cases x.neg<;>cases y.neg<;>rfl
  rw [hnb] at hcu hoc;obtain ⟨s1,hs1'⟩:∃ s:Int,(p:Int)+1=s:=⟨_,rfl⟩;obtain ⟨s2,hs2'⟩:∃ s:Int,s1+(bl y.m:Int)=s:=⟨_,rfl⟩;obtain ⟨s3,hs3'⟩:∃ s:Int,s2-(bl x.m:Int)=s:=⟨_,rfl⟩;have hw1:IntKind.i64.wrap ((p:Int)+1)=s1:=by simp [IntKind.wrap_i64];omega
  have hw2:IntKind.i64.wrap (s1+(bl y.m:Int))=s2:=by simp [IntKind.wrap_i64];omega
  have hw3:IntKind.i64.wrap (s2-(bl x.m:Int))=s3:=by simp [IntKind.wrap_i64];omega
  have hmx:max 0 s3=(kk:Int):=by rw [hK];unfold Ce;omega
  obtain ⟨d1,hd1⟩:∃ d:Int,x.e-y.e=d:=⟨_,rfl⟩;obtain ⟨d2,hd2⟩:∃ d:Int,d1-(kk:Int)=d:=⟨_,rfl⟩;have hw4:IntKind.i64.wrap (x.e-y.e)=d1:=by rw [hd1];simp [IntKind.wrap_i64];omega
  have hw5:IntKind.i64.wrap (d1-(kk:Int))=d2:=by rw [hd2];simp [IntKind.wrap_i64];omega
  rw [hd1,hd2] at hcu hoc;have hcu2:=λw1 u (k:Kept w w1) (hu:Lim w1 u (Al (x.m*2^kk/y.m)))=>hcu w1 u (decide (¬x.m*2^kk%y.m=0)) k hu
  rw [<-hoc] at hcu2;have H1:=Ad hs1;have H2:=Ad hs2;have HL:=Ad hle;have HQ:=Ad hqr;have HC:=Ad hcu2;have HRL:=Ad hrl;have hl2d:decide (0<l2)=true:=by simp [hl2]
  clear hs1 hs2 hle hqr hcu hcu2 hrl hl2 hRx hRy hx hy hT p1 p2 h0 bx1 by1 xl xh yl yh limx limy blX lenX hout ho hoc hnb hs1' hs2' hs3' hd1 hd2 hK hKle;obtain ⟨rb,hrb⟩:∃ rb,decide (¬x.m*2^kk%y.m=0)=rb:=⟨_,rfl⟩;rw [hrb] at HC HRL;clear hrb;generalize Al (x.m*2^kk)=xs at *;generalize bl x.m=b1 at *;generalize bl y.m=b2 at *;generalize x.neg=n1,x.e=e1,y.neg=n2,y.e=e2 at *;go_enter Tryz.func173,Tryz.ntmps173
  go_wp2_with (first
   | (go_at_call 170;rw [<-HW.o];refine (HM.o _ (HK.o.trans (Ab _ _)) _ HO.o).mono ?_;rintro e w1 ⟨rfl,q⟩;have K:=Ad (HK.o.trans ((Ab _ _).trans q));have hr:=HR.o.kept ((Ab _ _).trans q);have HR2:=Ad hr;clear q hr x0 x1 x2 y0 y1 y2 cp cu;have cp:=An K.o CP.o;have cu:=An K.o CU.o;obtain ⟨-,x0,x1,x2,-⟩:=(HBX.o.kept K.o).facts;obtain ⟨-,y0,y1,y2,-⟩:=(HBY.o.kept K.o).facts)
   | (go_at_call 174;refine (Gg _ _ _).mono ?_;rintro e w3 ⟨he,rfl⟩;obtain rfl:e=.returned (.tuple #[]):=he))
  clear x0 x1 x2 y0 y1 y2 cp cu hl2d
  refine Sv 12 ([(vE (.int .i64 p)),(vE (.int .i64 s1)),(vP bY 1),(vE (.slice A2 l2 c2)),(vE (.int .i64 b2)),(vE (.int .i64 s2)),(vP bx 1),(vE (.slice A l c)),(vE (.int .i64 b1)),(vE (.int .i64 s3)),(vE (.int .i64 kk)),(vE (.int .i64 kk))])
   ⟨
    (λaF wF F=>by have s0:=F.q 0 (.pointer (some ⟨bp,0,none⟩));exact sw (by have cq:=An F.kept (An K.o CP.o);go_simp) rfl),(gv 0 18),(gq 2),(Ie 2 20 λ_ k=>Ai (HBY.o.kept K.o) k 1 _ rfl),(λaF wF F=>by have s21:=F.v 3 21;exact sQ (H2.o _ (K.o.trans F.kept)) λ_ _ h=>h),(Hz 1 19 4 22),(gq 1),(Ie 6 24 λ_ k=>Ai (HBX.o.kept K.o) k 1 _ rfl),(λaF wF F=>by have s25:=F.v 7 25;exact sQ (H1.o _ (K.o.trans F.kept)) λ_ _ h=>h),(Hz 5 23 8 26),(gv 9 27),(gv 10 28),
    trivial⟩ ?_
  intro u w1 k1 hu;simp only [Bb,Ap,Act.put,Ep,hv hu 0,hv hu 1,hv hu 2,hv hu 3,hv hu 4,hv hu 5,hv hu 6,hv hu 7,hv hu 8,hv hu 9,hv hu 10,hv hu 11];clear hu;have K1:=Ad (K.o.trans k1);have HK1:=Ad k1;clear k1 hw1 hw2 hw3 hmx;go_wp2_with fail
  refine Sv 12 ([(vP bx 1),(vE (.slice A l c)),(vE (.int .i64 kk)),(λv wv=>Lim wv v (xs)),(vP bY 1),(vE (.slice A2 l2 c2)),(λv wv=>∃ q r,v=.tuple #[q,r]/\Lim wv q (Al (x.m*2^kk/y.m))/\Lim wv r (Al (x.m*2^kk%y.m))),(λv wv=>∃ q r,v=.tuple #[q,r]/\Lim wv q (Al (x.m*2^kk/y.m))/\Lim wv r (Al (x.m*2^kk%y.m))),(λv wv=>Lim wv v (Al (x.m*2^kk/y.m))),(λv wv=>Lim wv v (Al (x.m*2^kk%y.m))),(λv wv=>Lim wv v (Al (x.m*2^kk/y.m))),(λv wv=>Lim wv v (Al (x.m*2^kk%y.m)))])
   (hM:=⟨⟨mE,mE,mE,mL,mE,mE,λv w w' k h=>by obtain ⟨q,r,e,a,b⟩:=h;exact ⟨q,r,e,a.kept k,b.kept k⟩,λv w w' k h=>by obtain ⟨q,r,e,a,b⟩:=h;exact ⟨q,r,e,a.kept k,b.kept k⟩,mL,mL,mL,mL,trivial⟩⟩) ⟨
     (gq 1),(Ie 0 30 λ_ k=>Ai (HBX.o.kept K1.o) k 1 _ rfl),(gq 5),(λaF wF F=>by have s31:=F.v 1 31;have s32:=F.v 2 32;exact sL (HL.o _ (K1.o.trans F.kept)) λ_ _ h=>h),(gq 2),(Ie 4 34 λ_ k=>Ai (HBY.o.kept K1.o) k 1 _ rfl),(λaF wF F=>by have s33:=F.p 3 33;have s35:=F.v 5 35;exact Ax (by simp [Region.wanted]) (by go_simp) (HQ.o _ _ (K1.o.trans F.kept) s33) (λ_ _ h=>RetQR.good h) (λ_ _ h=>h)),(gm 6 36),(λaF wF F=>by have s29:=F.p 7 29;obtain ⟨q,r,e,a,b⟩:=s29;exact sv a),(λaF wF F=>by have s29:=F.p 7 29;obtain ⟨q,r,e,a,b⟩:=s29;exact sv b),(gm 8 37),(gm 9 38),
     trivial⟩ ?_
  intro u w1 k1 hu;have p33:=hp hu 3;have p36:=hp hu 6;have p29:=hp hu 7;have p37:=hp hu 8;have p38:=hp hu 9;have p6:=hp hu 10;have p7:=hp hu 11;simp only [Bb,Ap,Act.put,Ep,hv hu 0,hv hu 1,hv hu 2,hv hu 4,hv hu 5];clear hu;generalize u 3=v33,u 6=v36,u 7=v29,u 8=v37,u 9=v38,u 10=v6,u 11=v7 at *;have K2:=Ad (K1.o.trans k1);have HR3:=Ad (HR2.o.kept (HK1.o.trans k1));have P37:=Ad p6;obtain ⟨A3,l3,c3,rfl,hl3⟩:=HRL.o _ _ p7;clear p33 p36 p29 p37 p38 p6 p7 k1 HL HQ H1 H2;obtain ⟨-,x0,x1,x2,-⟩:=(HBX.o.kept K2.o).facts;obtain ⟨-,y0,y1,y2,-⟩:=(HBY.o.kept K2.o).facts
  have cp:=An K2.o CP.o;have cu:=An K2.o CU.o;go_wp2_with fail;refine (HC.o _ _ K2.o P37.o).mono ?_;rintro e w2 ⟨q,⟨h0,u,rfl,hd⟩ | ⟨h0,rfl⟩⟩
  ·obtain ⟨A',l',c',rfl,hd,g1,g2⟩:=Et hd;have hr:=HR3.o.kept q;obtain ⟨_,r0,r1,r2,f0,f1,f2⟩:=hr.facts;have HD:=Ad hd;have H0:=Ad h0;have HR4:=Ad hr;have Q:=Ad q;clear hd h0 hr q;simp only [];go_wp2_with fail;exact Ct (HR4.o.laid _ _ _) rfl rfl rfl ⟨Au (K2.o.trans Q.o) (Aq _),.inl ⟨H0.o,_,rfl,(HD.o.dyW HR4.o (Ah _) (Ag _ _ _) (Aj _)).dyR g1 g2⟩⟩
  ·exact ⟨rfl,K2.o.trans q,.inr ⟨h0,rfl⟩⟩
theorem gH (a b:Dy)(p:Nat)(up:Bool):(Cz a b p up).raw.k≠0->(Cz a b p up).raw.v=rz:=by
 intro h
 show ((Cz a b p up).v).raw=rz
 rw [(Kx a b p up).2 h,Ge]
theorem pA (w:World)(x y z x' y' z' p u:Value):∃ W,W=((((w.alloc (.cells #[x,y,z] 28)).alloc (.cells #[x',y',z'] 28)).alloc (.cells #[p] 3)).alloc (.cells #[u] 4)).alloc (.cells #[.bool false,.slice none 0 0,.int .i64 0] 28) /\
 Kept w W/\Blk W w.heap.size x y z/\Blk W (w.heap.size+1) x' y' z'/\W.cell? ⟨w.heap.size+1+1,0,none⟩=some p/\W.cell? ⟨w.heap.size+1+1+1,0,none⟩=some u/\Blk W (w.heap.size+1+1+1+1) (.bool false) (.slice none 0 0) (.int .i64 0):=by
 have k1:=Ab w (.cells #[x,y,z] 28)
 refine ⟨_,rfl,(((k1.trans (Ab _ _)).trans (Ab _ _)).trans (Ab _ _)).trans (Ab _ _),Bl (Bl (Bl (Bl (Bz _ _ _ _) _) _) _) _,Bl (Bl (Bl (Em _ _ _ _ _) _) _) _,
  An (Ab _ _) (An (Ab _ _) (nk _ _ _ _ _)),An (Ab _ _) ?_,?_⟩
 ·have:=jX (((w.alloc (.cells #[x,y,z] 28)).alloc (.cells #[x',y',z'] 28)).alloc (.cells #[p] 3)) u 4;simp only [World.size_alloc] at this;exact this
 ·have:=Bz ((((w.alloc (.cells #[x,y,z] 28)).alloc (.cells #[x',y',z'] 28)).alloc (.cells #[p] 3)).alloc (.cells #[u] 4)) (.bool false) (.slice none 0 0) (.int .i64 0);simp only [World.size_alloc] at this;exact this
theorem Qo {x y:Dy}(hv:DyR w v x.raw)(hv':DyR w v' y.raw)(hx:x.Ok)(hy:y.Ok)(hT:Tab w)(p1:1<=p)(p2:p<=2000) :
 Calls Tryz.prog 129 #[v,v',.int .i64 p,.bool up] w (RetE (Cz x y p up).raw w):=by
 have hmf:=Hf;obtain ⟨A,l,c,rfl,hv⟩:=Bx hv;obtain ⟨A2,l2,c2,rfl,hv'⟩:=Bx hv';obtain ⟨W,hW,kW,B0,B1,cp,cu,BR⟩:=pA w (.bool x.neg) (.slice A l c) (.int .i64 x.e) (.bool y.neg) (.slice A2 l2 c2) (.int .i64 y.e) (.int .i64 p) (.bool up)
 have hf:=Yj (w:=W) (K:=173) (cap:=#[.pointer (some ⟨w.heap.size+1+1,0,none⟩),.pointer (some ⟨w.heap.size,0,none⟩),.pointer (some ⟨w.heap.size+1,0,none⟩),.pointer (some ⟨w.heap.size+1+1+1,0,none⟩)]) (o:=(Cz x y p up).raw)
  (λw1 k=>nI hx hy (hT.kept (kW.trans k)) p1 p2 (An k cp) ⟨A,l,c,B0.kept k,hv.kept (kW.trans k)⟩ ⟨A2,l2,c2,B1.kept k,hv'.kept (kW.trans k)⟩ (An k cu)) (gH x y p up) (λ_=>rfl)
 have HF:=Ad hf;have HW:=Ad hW;have HK:=Ad kW;have HR:=Ad BR;clear hf hW kW B0 B1 cp cu BR hv hv' hx hy hT p1 p2;generalize Cz x y p up=o at *;generalize x.neg=nx,x.e=ex,y.neg=ny,y.e=ey at *;go_enter Tryz.func129,Tryz.ntmps129
 go_wp2_with (go_at_call 168;rw [<-HW.o];refine HF.o.mono ?_;rintro e w1 ⟨q,u,rfl,hd⟩;obtain ⟨A',l',c',rfl,hd,g3,g4⟩:=Et hd;have HD:=Ad hd;have hb2:=HR.o.kept q;obtain ⟨_,c0,c1,c2,f0,f1,f2⟩:=hb2.facts;have HB2:=Ad hb2;clear hd hb2)
 exact Fa (HB2.o.laid _ _ _) rfl rfl rfl ⟨Au (HK.o.trans q) (by omega),_,rfl,(HD.o.dyW HB2.o (Ah _) (Ag _ _ _) (Aj _)).dyR g3 g4⟩
def Jn (d:Dy) (p:Nat) (up:Bool):Outc Dy:=if d.neg then Wv 4 else Jm d p up
theorem kx (d:Dy)(p:Nat)(up:Bool):(Jn d p up).Ok:=by
 unfold Jn;split
 ·exact Nz _
 ·exact Vc _ _ _
theorem gO (d:Dy)(p:Nat)(up:Bool):(Jn d p up).raw.k≠0->(Jn d p up).raw.v=rz:=by
 intro h
 show ((Jn d p up).v).raw=rz
 rw [(kx d p up).2 h,Ge]
theorem pf (n:Nat):bl (Kj n)<=bl n:=by
 refine Ka ?_;have h:=(Ob n).1;by_cases h0:Kj n=0
 ·omega
 ·have:=Nat.mul_le_mul_left (Kj n) (Nat.pos_of_ne_zero h0);omega
theorem nJ {x:Dy}(hx:x.Ok)(hT:Tab w)(p1:1<=p)(p2:p<=2000)
 (cp:w.cell? ⟨bp,0,none⟩=some (.int .i64 p)) (cx:lD w bx x) (cu:w.cell? ⟨bu,0,none⟩=some (.bool up)) :
 Calls Tryz.prog 182 #[.pointer (some ⟨bp,0,none⟩),.pointer (some ⟨bx,0,none⟩),.pointer (some ⟨bu,0,none⟩)] w (J6 185 (Jn x p up).raw w):=by
 obtain ⟨A,l,c,hbx,hRx⟩:=cx;obtain ⟨W,hW,kW,BR,sW⟩:=pm w;have hone:=ag sW (hRx.kept kW);have hm:=λw1 (k:Kept w w1) v (hv:DyS w1 v [x])=>dG hv (by intro z hz;simp at hz;subst hz;exact hx) (by simp) (by omega:(1:Int)<=(p:Int)) (by omega)
 have HM:=Ad hm;have HO:=Ad hone;have HW:=Ad hW;have HK:=Ad kW;have HR:=Ad BR;have HBX:=Ad hbx;have CP:=Ad cp;have CU:=Ad cu;have lp:=Av cp;have lu:=Av cu;simp only at lp lu;obtain ⟨lbx,x0,x1,x2,-⟩:=hbx.facts;clear hm hone hW kW BR sW hbx;cases hn:x.neg
 ·have hz:Jn x p up=Jm x p up:=by unfold Jn;rw [hn];rfl
  rw [hz];rw [hn] at x0 HBX HO;have bx1:=Dw x.m 64 hx.len;have xl:=hx.lo;have xh:=hx.hi;have limx:Lim w (.slice A l c) (Al x.m):=by
   obtain ⟨A',l',c',he,-,hlim,-,-⟩:=hRx.shape;injection he with he;injection he with he
   simp only [List.cons.injEq,and_true] at he;rw [he.2.1];exact hlim
  obtain ⟨k0,hk0⟩:∃ k,k=L4 x p:=⟨_,rfl⟩;obtain ⟨kk,hkk⟩:∃ k,k=Oq x p:=⟨_,rfl⟩;have hk0le:k0<=4002:=by rw [hk0];unfold L4;omega
  have hkk':kk=if (x.e-k0)%2=0 then k0 else k0+1:=by rw [hkk,hk0];rfl
  have hev:(x.e-kk)%2=0:=by rw [hkk];exact Vd x p
  have hkle:kk<=4003:=by rw [hkk'];split<;>omega
  have hs1:=λw1 (k:Kept w w1)=>Nk (limx.kept k) (by have:=hx.len;omega)
  have hle:=λw1 (k:Kept w w1)=>Oc (limx.kept k) kk (by have:=hx.len;omega) (by omega)
  have blX:bl (x.m*2^kk)<=8100:=by
   by_cases hz:x.m=0
   ·rw [hz,Nat.zero_mul,Hi];omega
   ·rw [Iu _ _ hz];omega
  have lenX:=Dt (x.m*2^kk) 127 (by omega);have lenI:=Dt (Kj (x.m*2^kk)) 127 (by have:=pf (x.m*2^kk);omega);have hsq:=λw1 u (hu:Lim w1 u (Al (x.m*2^kk)))=>kM hu (by omega)
  have hti:=λw1 u (hu:Lim w1 u (Al (Kj (x.m*2^kk))))=>fE hu hu (by omega) (by omega)
  have lenS:(Al (Kj (x.m*2^kk)*Kj (x.m*2^kk))).length<=127:=Bp (E7 (Ob (x.m*2^kk)).1) lenX;have hor:=λw1 u v (hu:Lim w1 u (Al (Kj (x.m*2^kk)*Kj (x.m*2^kk)))) (hv:Lim w1 v (Al (x.m*2^kk)))=>Nc hu hv (by omega) (by omega)
  obtain ⟨hh,hhh⟩:∃ h:Int,(x.e-kk)/2=h:=⟨_,rfl⟩;obtain ⟨rb,hrb⟩:∃ rb,decide (¬Kj (x.m*2^kk)*Kj (x.m*2^kk)=x.m*2^kk)=rb:=⟨_,rfl⟩;have hcm:(Fx (Kj (x.m*2^kk)*Kj (x.m*2^kk)) (x.m*2^kk) != 0)=rb:=by
   rw [<-hrb];unfold Fx;have:=(Ob (x.m*2^kk)).1;by_cases h1:Kj (x.m*2^kk)*Kj (x.m*2^kk)<x.m*2^kk
   ·rw [Ak h1];simp;omega
   ·rw [Af h1,Ak (by omega)];simp;omega
  have hcu:=λw1 u (k:Kept w w1) (hu:Lim w1 u (Al (Kj (x.m*2^kk))))=>iT (v:=u) (m:=Kj (x.m*2^kk)) (p:=p) (e:=hh) false rb up (w:=w1)
   ⟨hu,by omega,by omega,by omega,p1,p2,hT.kept k⟩
  have hout:Jm x p up=Kc false (Kj (x.m*2^kk)) hh rb p up:=by unfold Jm;rw [<-hkk,hhh,hrb]
  obtain ⟨o,ho⟩:∃ o,o=Jm x p up:=⟨_,rfl⟩;rw [<-ho];rw [<-ho.trans hout] at hcu;obtain ⟨s1,hs1'⟩:∃ s:Int,2*(p:Int)=s:=⟨_,rfl⟩;obtain ⟨s2,hs2'⟩:∃ s:Int,s1+2=s:=⟨_,rfl⟩;obtain ⟨s3,hs3'⟩:∃ s:Int,s2-(bl x.m:Int)=s:=⟨_,rfl⟩;have hw1:IntKind.i64.wrap (2*(p:Int))=s1:=by simp [IntKind.wrap_i64];omega
  have hw2:IntKind.i64.wrap (s1+2)=s2:=by simp [IntKind.wrap_i64];omega
  have hw3:IntKind.i64.wrap (s2-(bl x.m:Int))=s3:=by simp [IntKind.wrap_i64];omega
  have hmx:max 0 s3=(k0:Int):=by rw [hk0];unfold L4;omega
  obtain ⟨d0,hd0⟩:∃ d:Int,x.e-(k0:Int)=d:=⟨_,rfl⟩;obtain ⟨d1,hd1⟩:∃ d:Int,x.e-(kk:Int)=d:=⟨_,rfl⟩;have hw4:IntKind.i64.wrap (x.e-(k0:Int))=d0:=by rw [hd0];simp [IntKind.wrap_i64];omega
  have hw5:IntKind.i64.wrap (x.e-(kk:Int))=d1:=by rw [hd1];simp [IntKind.wrap_i64];omega
  have hw6:IntKind.i64.wrap (d1.tdiv 2)=hh:=by
   have:d1.tdiv 2=hh:=by
    rw [<-hhh,hd1];rw [hd1] at hev;rw [Int.tdiv_eq_ediv];split<;>omega
   rw [this];simp [IntKind.wrap_i64];omega
  have H1:=Ad hs1;have HL:=Ad hle;have HSQ:=Ad hsq;have HTI:=Ad hti;have HOR:=Ad hor;have HC:=Ad hcu;have HW5:=Ad hw5;have HW6:=Ad hw6;have HCM:=Ad hcm;have hq1:IntKind.i64.wrap ((k0:Int)+1)=((k0+1:Nat):Int):=by simp [IntKind.wrap_i64];omega
  have hpar:d0.tmod 2=0↔(x.e-k0)%2=0:=by rw [hd0,<-Int.dvd_iff_tmod_eq_zero,Int.dvd_iff_emod_eq_zero]
  have HP:=Ad hpar;have HKK:=Ad hkk';clear hs1 hle hsq hti hor hcu hw5 hw6 hcm hpar hkk' hRx hx hT p1 p2 hz hn bx1 xl xh limx hk0 hkk hk0le hev hkle blX lenX lenI lenS hhh hrb hout ho hs1' hs2' hs3' hd0 hd1;generalize bl x.m=b1 at *;by_cases hpp:d0.tmod 2=0
  ·have hk:=HKK.out;rw [Ak (HP.out.1 hpp)] at hk;subst hk;have hpb:(d0.tmod 2 != 0)=false:=by simp [hpp]
   have hpc:(d0.tmod 2==0)=true:=by simp [hpp]
   clear hpp HKK HP hq1;generalize x.e=e1 at *;go_enter Tryz.func182,Tryz.ntmps182
   go_wp2_with (first
    | (go_at_call 170;rw [<-HW.o];refine (HM.o _ (HK.o.trans (Ab _ _)) _ HO.o).mono ?_;rintro e w1 ⟨rfl,q⟩;have K:=Ad (HK.o.trans ((Ab _ _).trans q));have hr:=HR.o.kept ((Ab _ _).trans q);have HR2:=Ad hr;clear q hr x0 x1 x2 cp cu;have cp:=An K.o CP.o;have cu:=An K.o CU.o;obtain ⟨-,x0,x1,x2,-⟩:=(HBX.o.kept K.o).facts)
    | (go_at_call 174;refine (Gg _ _ _).mono ?_;rintro e w3 ⟨he,rfl⟩;obtain rfl:e=.returned (.tuple #[]):=he))
   clear x0 x1 x2 cp cu
   refine Sv 9 ([(vE (.int .i64 p)),(vE (.int .i64 s1)),(vE (.int .i64 s2)),(vP bx 1),(vE (.slice A l c)),(vE (.int .i64 b1)),(vE (.int .i64 s3)),(vE (.int .i64 kk)),(vE (.int .i64 kk))])
    ⟨
     (λaF wF F=>by have s0:=F.q 0 (.pointer (some ⟨bp,0,none⟩));exact sw (by have cq:=An F.kept (An K.o CP.o);go_simp) rfl),(gv 0 15),(gv 1 16),(gq 1),(Ie 3 18 λ_ k=>Ai (HBX.o.kept K.o) k 1 _ rfl),(λaF wF F=>by have s19:=F.v 4 19;exact sQ (H1.o _ (K.o.trans F.kept)) λ_ _ h=>h),(Hz 2 17 5 20),(gv 6 21),(gv 7 22),
     trivial⟩ ?_
   intro u w1 k1 hu;simp only [Bb,Ap,Act.put,Ep,hv hu 0,hv hu 1,hv hu 2,hv hu 3,hv hu 4,hv hu 5,hv hu 6,hv hu 7,hv hu 8];clear hu;have K1:=Ad (K.o.trans k1);have HR3:=Ad (HR2.o.kept k1);clear k1 u hw1 hw2 hw3 hmx;obtain ⟨-,x0,x1,x2,-⟩:=(HBX.o.kept K1.o).facts;go_wp2_with fail;clear hpb hpc;refine (HL.o _ K1.o).mono ?_;rintro e w2 ⟨M,rfl,hM,q⟩;have K2:=Ad (K1.o.trans q);have HR4:=Ad (HR3.o.kept q);have LM:=Ad hM;clear hM q x0 x1 x2;simp only [];go_wp2_with fail;refine (HSQ.o _ _ LM.o).mono ?_;rintro e w3 ⟨X,rfl,hX,q⟩;have K3:=Ad (K2.o.trans q)
   have HR5:=Ad (HR4.o.kept q);have LX:=Ad hX;replace LM:=Ad (LM.o.kept q);clear hX q hw4;have hw5:=HW5.o;have hw6:=HW6.o;have hcm:=HCM.o;simp only [];go_wp2_with fail
   refine Ih 15 ([(vE X),(vP bx 2),(vE (.int .i64 e1)),(vE (.int .i64 ((kk:Nat):Int))),(vE (.int .i64 d1)),(vE (.int .i64 hh)),(vE X),(vE X),(λv wv=>Lim wv v (Al (Kj (x.m*2^kk)*Kj (x.m*2^kk)))),(vE M),(vE (.int .i64 (Fx (Kj (x.m*2^kk)*Kj (x.m*2^kk)) (x.m*2^kk)))),(vE (.bool rb)),(vE (.int .i64 p)),(vE (.bool up)),(λv wv=>o.raw.k=0/\DyR wv v o.raw.v)])
    ⟨
     (gq 6),(gq 1),(Ie 1 38 λ_ k=>Ai (HBX.o.kept K3.o) k 2 _ rfl),(gq 4),(λaF wF F=>by have s39:=F.v 2 39;have s40:=F.v 3 40;exact sw (by have hx:=HW5.o;push_cast at hx;go_simp) rfl),(gv 4 41),(gq 6),(gq 6),(λaF wF F=>by have s43:=F.v 6 43;have s44:=F.v 7 44;exact sL (HTI.o _ _ (LX.o.kept F.kept)) λ_ _ h=>h),(gq 5),(λaF wF F=>by have s45:=F.p 8 45;have s46:=F.v 9 46;exact sQ (HOR.o _ _ _ s45 (LM.o.kept F.kept)) λ_ _ h=>h),(gv 10 47),(λaF wF F=>by have s0:=F.q 0 (.pointer (some ⟨bp,0,none⟩));exact sw (by have cq:=An F.kept (An K3.o CP.o);go_simp) rfl),(λaF wF F=>by have s2:=F.q 2 (.pointer (some ⟨bu,0,none⟩));exact sw (by have cq:=An F.kept (An K3.o CU.o);go_simp) rfl),(λaF wF F=>by have s37:=F.v 0 37;have s42:=F.v 5 42;have s48:=F.v 11 48;have s49:=F.v 12 49;have s50:=F.v 13 50;exact sG (HC.o _ _ (K3.o.trans F.kept) (LX.o.kept F.kept)) (λ_ _ _ h0 h=>⟨h0,h⟩) (λw2 k2 h0=>⟨F.defers,⟨K3.o.trans (F.kept.trans k2),.inr ⟨h0,rfl⟩⟩⟩)),
     trivial⟩ ?_
   intro u w1 k1 hu;have p45:=hp hu 8;have p51:=hp hu 14;simp only [Bb,Ap,Act.put,Ep,hv hu 0,hv hu 1,hv hu 2,hv hu 3,hv hu 4,hv hu 5,hv hu 6,hv hu 7,hv hu 9,hv hu 10,hv hu 11,hv hu 12,hv hu 13];clear hu;generalize u 8=v45,u 14=v51 at *;obtain ⟨h0,hd⟩:=p51;obtain ⟨A',l',c',rfl,hd,g1,g2⟩:=Et hd;have hb:=HR5.o.kept k1;obtain ⟨_,c0,c1,c2,f0,f1,f2⟩:=hb.facts;have HD:=Ad hd;have H0:=Ad h0;have HB:=Ad hb;have K4:=Ad (K3.o.trans k1);clear hd h0 hb k1 p45;go_simp;go_wp2_with fail;exact Ct (HB.o.laid _ _ _) rfl rfl rfl ⟨Au K4.o (Aq _),.inl ⟨H0.o,_,rfl,(HD.o.dyW HB.o (Ah _) (Ag _ _ _) (Aj _)).dyR g1 g2⟩⟩
  ·have hk:=HKK.out;rw [Af (fun h=>hpp (HP.out.2 h))] at hk;subst hk;have hpb:(d0.tmod 2 != 0)=true:=by simp [hpp]
   have hpc:(d0.tmod 2==0)=false:=by simp [hpp]
   clear hpp HKK HP;generalize x.e=e1 at *;go_enter Tryz.func182,Tryz.ntmps182
   go_wp2_with (first
    | (go_at_call 170;rw [<-HW.o];refine (HM.o _ (HK.o.trans (Ab _ _)) _ HO.o).mono ?_;rintro e w1 ⟨rfl,q⟩;have K:=Ad (HK.o.trans ((Ab _ _).trans q));have hr:=HR.o.kept ((Ab _ _).trans q);have HR2:=Ad hr;clear q hr x0 x1 x2 cp cu;have cp:=An K.o CP.o;have cu:=An K.o CU.o;obtain ⟨-,x0,x1,x2,-⟩:=(HBX.o.kept K.o).facts)
    | (go_at_call 174;refine (Gg _ _ _).mono ?_;rintro e w3 ⟨he,rfl⟩;obtain rfl:e=.returned (.tuple #[]):=he))
   clear x0 x1 x2 cp cu
   refine Sv 9 ([(vE (.int .i64 p)),(vE (.int .i64 s1)),(vE (.int .i64 s2)),(vP bx 1),(vE (.slice A l c)),(vE (.int .i64 b1)),(vE (.int .i64 s3)),(vE (.int .i64 k0)),(vE (.int .i64 k0))])
    ⟨
     (λaF wF F=>by have s0:=F.q 0 (.pointer (some ⟨bp,0,none⟩));exact sw (by have cq:=An F.kept (An K.o CP.o);go_simp) rfl),(gv 0 15),(gv 1 16),(gq 1),(Ie 3 18 λ_ k=>Ai (HBX.o.kept K.o) k 1 _ rfl),(λaF wF F=>by have s19:=F.v 4 19;exact sQ (H1.o _ (K.o.trans F.kept)) λ_ _ h=>h),(Hz 2 17 5 20),(gv 6 21),(gv 7 22),
     trivial⟩ ?_
   intro u w1 k1 hu;simp only [Bb,Ap,Act.put,Ep,hv hu 0,hv hu 1,hv hu 2,hv hu 3,hv hu 4,hv hu 5,hv hu 6,hv hu 7,hv hu 8];clear hu;have K1:=Ad (K.o.trans k1);have HR3:=Ad (HR2.o.kept k1);clear k1 u hw1 hw2 hw3 hmx;obtain ⟨-,x0,x1,x2,-⟩:=(HBX.o.kept K1.o).facts;go_wp2_with fail;clear hpb hpc hq1;refine (HL.o _ K1.o).mono ?_;rintro e w2 ⟨M,rfl,hM,q⟩;have K2:=Ad (K1.o.trans q);have HR4:=Ad (HR3.o.kept q);have LM:=Ad hM;clear hM q x0 x1 x2;simp only [];go_wp2_with fail;refine (HSQ.o _ _ LM.o).mono ?_;rintro e w3 ⟨X,rfl,hX,q⟩;have K3:=Ad (K2.o.trans q)
   have HR5:=Ad (HR4.o.kept q);have LX:=Ad hX;replace LM:=Ad (LM.o.kept q);clear hX q hw4;have hw5:=HW5.o;have hw6:=HW6.o;have hcm:=HCM.o;simp only [];go_wp2_with fail
   refine Ih 15 ([(vE X),(vP bx 2),(vE (.int .i64 e1)),(vE (.int .i64 (((k0+1):Nat):Int))),(vE (.int .i64 d1)),(vE (.int .i64 hh)),(vE X),(vE X),(λv wv=>Lim wv v (Al (Kj (x.m*2^(k0+1))*Kj (x.m*2^(k0+1))))),(vE M),(vE (.int .i64 (Fx (Kj (x.m*2^(k0+1))*Kj (x.m*2^(k0+1))) (x.m*2^(k0+1))))),(vE (.bool rb)),(vE (.int .i64 p)),(vE (.bool up)),(λv wv=>o.raw.k=0/\DyR wv v o.raw.v)])
    ⟨
     (gq 6),(gq 1),(Ie 1 38 λ_ k=>Ai (HBX.o.kept K3.o) k 2 _ rfl),(gq 4),(λaF wF F=>by have s39:=F.v 2 39;have s40:=F.v 3 40;exact sw (by have hx:=HW5.o;push_cast at hx;go_simp) rfl),(gv 4 41),(gq 6),(gq 6),(λaF wF F=>by have s43:=F.v 6 43;have s44:=F.v 7 44;exact sL (HTI.o _ _ (LX.o.kept F.kept)) λ_ _ h=>h),(gq 5),(λaF wF F=>by have s45:=F.p 8 45;have s46:=F.v 9 46;exact sQ (HOR.o _ _ _ s45 (LM.o.kept F.kept)) λ_ _ h=>h),(gv 10 47),(λaF wF F=>by have s0:=F.q 0 (.pointer (some ⟨bp,0,none⟩));exact sw (by have cq:=An F.kept (An K3.o CP.o);go_simp) rfl),(λaF wF F=>by have s2:=F.q 2 (.pointer (some ⟨bu,0,none⟩));exact sw (by have cq:=An F.kept (An K3.o CU.o);go_simp) rfl),(λaF wF F=>by have s37:=F.v 0 37;have s42:=F.v 5 42;have s48:=F.v 11 48;have s49:=F.v 12 49;have s50:=F.v 13 50;exact sG (HC.o _ _ (K3.o.trans F.kept) (LX.o.kept F.kept)) (λ_ _ _ h0 h=>⟨h0,h⟩) (λw2 k2 h0=>⟨F.defers,⟨K3.o.trans (F.kept.trans k2),.inr ⟨h0,rfl⟩⟩⟩)),
     trivial⟩ ?_
   intro u w1 k1 hu;have p45:=hp hu 8;have p51:=hp hu 14;simp only [Bb,Ap,Act.put,Ep,hv hu 0,hv hu 1,hv hu 2,hv hu 3,hv hu 4,hv hu 5,hv hu 6,hv hu 7,hv hu 9,hv hu 10,hv hu 11,hv hu 12,hv hu 13];clear hu;generalize u 8=v45,u 14=v51 at *;obtain ⟨h0,hd⟩:=p51;obtain ⟨A',l',c',rfl,hd,g1,g2⟩:=Et hd;have hb:=HR5.o.kept k1;obtain ⟨_,c0,c1,c2,f0,f1,f2⟩:=hb.facts;have HD:=Ad hd;have H0:=Ad h0;have HB:=Ad hb;have K4:=Ad (K3.o.trans k1);clear hd h0 hb k1 p45;go_simp;go_wp2_with fail;exact Ct (HB.o.laid _ _ _) rfl rfl rfl ⟨Au K4.o (Aq _),.inl ⟨H0.o,_,rfl,(HD.o.dyW HB.o (Ah _) (Ag _ _ _) (Aj _)).dyR g1 g2⟩⟩
 ·have hz:Jn x p up=Wv 4:=by unfold Jn;rw [hn];rfl
  rw [hz];rw [hn] at x0 HBX HO;clear hRx hx hT p1 p2 hz hn;generalize x.e=e1 at *;go_enter Tryz.func182,Tryz.ntmps182
  go_wp2_with (first
   | (go_at_call 170;rw [<-HW.o];refine (HM.o _ (HK.o.trans (Ab _ _)) _ HO.o).mono ?_;rintro e w1 ⟨rfl,q⟩;have K:=Ad (HK.o.trans ((Ab _ _).trans q));have hr:=HR.o.kept ((Ab _ _).trans q);have HR2:=Ad hr;clear q hr x0 x1 x2 cp cu;have cp:=An K.o CP.o;have cu:=An K.o CU.o;obtain ⟨-,x0,x1,x2,-⟩:=(HBX.o.kept K.o).facts)
   | (go_at_call 174;refine (Gg _ _ _).mono ?_;rintro e w3 ⟨he,rfl⟩;obtain rfl:e=.panicked (By 185 _):=he))
  exact ⟨rfl,K.o,.inr ⟨by decide,rfl⟩⟩
theorem ky (hv:DyR w v d.raw)(hd:d.Ok)(hT:Tab w)(p1:1<=p)(p2:p<=2000) :
 Calls Tryz.prog 142 #[v,.int .i64 p,.bool up] w (RetE (Jn d p up).raw w):=by
 have hmf:=Hf;obtain ⟨A,l,c,rfl,hv⟩:=Bx hv;obtain ⟨W,hW,kW,B0,cp,cu,BR⟩:=iJ w (.bool d.neg) (.slice A l c) (.int .i64 d.e) (.int .i64 p) (.bool up)
 have hf:=Yj (w:=W) (K:=182) (cap:=#[.pointer (some ⟨w.heap.size+1,0,none⟩),.pointer (some ⟨w.heap.size,0,none⟩),.pointer (some ⟨w.heap.size+1+1,0,none⟩)]) (o:=(Jn d p up).raw)
  (λw1 k=>nJ hd (hT.kept (kW.trans k)) p1 p2 (An k cp) ⟨A,l,c,B0.kept k,hv.kept (kW.trans k)⟩ (An k cu)) (gO d p up) (λ_=>rfl)
 have HF:=Ad hf;have HW:=Ad hW;have HK:=Ad kW;have HR:=Ad BR;clear hf hW kW B0 cp cu BR hv hd hT p1 p2;generalize Jn d p up=o at *;generalize d.neg=nd,d.e=ed at *;go_enter Tryz.func142,Tryz.ntmps142
 go_wp2_with (go_at_call 168;rw [<-HW.o];refine HF.o.mono ?_;rintro e w1 ⟨q,u,rfl,hd⟩;obtain ⟨A',l',c',rfl,hd,g3,g4⟩:=Et hd;have HD:=Ad hd;have hb2:=HR.o.kept q;obtain ⟨_,c0,c1,c2,f0,f1,f2⟩:=hb2.facts;have HB2:=Ad hb2;clear hd hb2)
 exact Fa (HB2.o.laid _ _ _) rfl rfl rfl ⟨Au (HK.o.trans q) (by omega),_,rfl,(HD.o.dyW HB2.o (Ah _) (Ag _ _ _) (Aj _)).dyR g3 g4⟩
def IvR (w:World) (v:Value) (a:RawI):Prop:=∃ x y z x' y' z',v=.agg #[x,y,z,x',y',z']/\DyR w (.agg #[x,y,z]) a.lo/\DyR w (.agg #[x',y',z']) a.hi
theorem IvR.kept {a:RawI}(h:IvR w v a)(k:Kept w w'):IvR w' v a:=by
 obtain ⟨x,y,z,x',y',z',rfl,h1,h2⟩:=h;exact ⟨x,y,z,x',y',z',rfl,h1.kept k,h2.kept k⟩
theorem Bf (h:DyR w v r):∃ A l c,v=.agg #[.bool r.neg,.slice A l c,.int .i64 r.e]/\DyR w (.agg #[.bool r.neg,.slice A l c,.int .i64 r.e]) r:=by
 obtain ⟨A,l,c,rfl,-,-,-,-⟩:=h.shape;exact ⟨A,l,c,rfl,h⟩
theorem Ar {a:RawI}(h:IvR w v a):∃ A l c A' l' c',v=.agg #[.bool a.lo.neg,.slice A l c,.int .i64 a.lo.e,.bool a.hi.neg,.slice A' l' c',.int .i64 a.hi.e] /\
 DyR w (.agg #[.bool a.lo.neg,.slice A l c,.int .i64 a.lo.e]) a.lo/\DyR w (.agg #[.bool a.hi.neg,.slice A' l' c',.int .i64 a.hi.e]) a.hi:=by
 obtain ⟨x,y,z,x',y',z',rfl,h1,h2⟩:=h;obtain ⟨A,l,c,e1,h1⟩:=Bf h1;obtain ⟨A',l',c',e2,h2⟩:=Bf h2;injection e1 with e1;injection e1 with e1
 injection e2 with e2;injection e2 with e2
 simp only [List.cons.injEq,and_true] at e1 e2;obtain ⟨rfl,rfl,rfl⟩:=e1;obtain ⟨rfl,rfl,rfl⟩:=e2;exact ⟨A,l,c,A',l',c',rfl,h1,h2⟩
def BlkI (w:World) (b:Nat) (x y z x' y' z':Value):Prop:=w.heap[b]?=some (.cells #[x,y,z,x',y',z'] 30 (0,0))
theorem BlkI.facts (h:BlkI w b x y z x' y' z'):b<w.heap.size/\w.cell? ⟨b,0,none⟩=some x/\w.cell? ⟨b,1,none⟩=some y/\w.cell? ⟨b,2,none⟩=some z /\
 w.cell? ⟨b,3,none⟩=some x'/\w.cell? ⟨b,4,none⟩=some y'/\w.cell? ⟨b,5,none⟩=some z' :=
 ⟨(Bi h).1,Ae h 0 _ rfl,Ae h 1 _ rfl,Ae h 2 _ rfl,Ae h 3 _ rfl,Ae h 4 _ rfl,Ae h 5 _ rfl⟩
theorem BlkI.kept {w1:World}(h:BlkI w b x y z x' y' z')(k:Kept w w1):BlkI w1 b x y z x' y' z' :=
 (k.block b (Bi h).1).trans h
theorem Ea (w:World)(x y z x' y' z':Value):BlkI (w.alloc (.cells #[x,y,z,x',y',z'] 30)) w.heap.size x y z x' y' z':=heap_alloc_new _ _
def RawI.lens (a:RawI) (k:Nat):Prop:=a.lo.m.length<=k/\a.hi.m.length<=k
theorem rf (w:World)(x y z x' y' z':Value):∃ W,W=w.alloc (.cells #[x,y,z,x',y',z'] 30)/\Kept w W/\BlkI W w.heap.size x y z x' y' z' :=
 ⟨_,rfl,Ab _ _,Ea _ _ _ _ _ _ _⟩
theorem Mg (h:DyR w v r):Small r.m:=by
 obtain ⟨s,-,hs,-,-⟩:=h;exact hs.1
theorem Up {a:RawI}(hv:IvR w v a)(hl:a.lens 17592186044416) :
 Calls Tryz.prog 50 #[v] w (RetK (.bool (Dl a)) w):=by
 obtain ⟨A,l,c,A',l',c',rfl,h1,h2⟩:=Ar hv;have m1:=λw1 (k:Kept w w1)=>Od (h1.kept k) hl.1
 have m2:=λw1 (k:Kept w w1)=>Od (h2.kept k) hl.2
 have hc:Io a.lo=true->Io a.hi=true->∀ w1,Kept w w1->Calls Tryz.prog 40 #[.agg #[.bool a.lo.neg,.slice A l c,.int .i64 a.lo.e],.agg #[.bool a.hi.neg,.slice A' l' c',.int .i64 a.hi.e]] w1 (RetK (.int .i64 (Dh a.lo.dy.q a.hi.dy.q)) w1):=by
  intro d1 d2 w1 k;obtain ⟨e1,o1⟩:=Kt (Mg h1) d1;obtain ⟨e2,o2⟩:=Kt (Mg h2) d2;have g1:=h1.kept k;have g2:=h2.kept k;exact N5 (x:=a.lo.dy) (y:=a.hi.dy) (by rw [e1];exact g1) (by rw [e2];exact g2) o1 o2
 unfold Dl;have M1:=Ad m1;have M2:=Ad m2;have HC:=Ad hc;clear m1 m2 hc h1 h2 hv hl;generalize a.lo.neg=n1,a.lo.e=e1,a.hi.neg=n2,a.hi.e=e2 at *;generalize Dh a.lo.dy.q a.hi.dy.q=cc at *;generalize Io a.lo=b1 at *;generalize Io a.hi=b2 at *;obtain ⟨W,hW,kW,BI⟩:=rf w (.bool n1) (.slice A l c) (.int .i64 e1) (.bool n2) (.slice A' l' c') (.int .i64 e2);have HW:=Ad hW;have HK:=Ad kW;have HB:=Ad BI;clear hW kW BI;cases b1
 ·rw [Bool.false_and,Bool.false_and];go_enter Tryz.func50,Tryz.ntmps50
  go_wp2_with (go_at_call 53;rw [<-HW.o];refine (M1.o _ HK.o).mono ?_;rintro e w1 ⟨rfl,q⟩)
  go_ret;exact ⟨rfl,HK.o.trans q⟩
 ·cases b2
  ·rw [Bool.and_false,Bool.false_and];go_enter Tryz.func50,Tryz.ntmps50;go_wp2_with fail;rw [<-HW.o];refine (M1.o _ HK.o).mono ?_;rintro e w1 ⟨rfl,q⟩;have K:=Ad (HK.o.trans q);obtain ⟨-,c0,c1,c2,c3,c4,c5⟩:=(HB.o.kept q).facts;have HB2:=Ad (HB.o.kept q);clear q;simp only [];go_wp2_with fail;refine (M2.o _ K.o).mono ?_;rintro e w2 ⟨rfl,q⟩;replace K:=Ad (K.o.trans q);clear c0 c1 c2 c3 c4 c5;obtain ⟨-,c0,c1,c2,c3,c4,c5⟩:=(HB2.o.kept q).facts;clear q;simp only [];go_wp2_with fail;go_ret;exact ⟨rfl,K.o⟩
  ·rw [Bool.and_true,Bool.true_and];have hc:=HC.out rfl rfl;clear HC;have HC:=Ad hc;clear hc;obtain ⟨rb,hrb⟩:∃ rb,decide (cc≤0)=rb:=⟨_,rfl⟩;rw [hrb];go_enter Tryz.func50,Tryz.ntmps50;go_wp2_with fail;rw [←HW.out];refine (M1.out _ HK.out).mono ?_;rintro e w1 ⟨rfl,q⟩;have K:=Ad (HK.out.trans q);obtain ⟨-,c0,c1,c2,c3,c4,c5⟩:=(HB.out.kept q).facts;have HB2:=Ad (HB.out.kept q);clear q;simp only [];go_wp2_with fail;refine (M2.out _ K.out).mono ?_;rintro e w2 ⟨rfl,q⟩;replace K:=Ad (K.out.trans q);clear c0 c1 c2 c3 c4 c5;obtain ⟨-,c0,c1,c2,c3,c4,c5⟩:=(HB2.out.kept q).facts;clear q;simp only [];go_wp2_with fail
   refine (HC.o _ K.o).mono ?_;rintro e w3 ⟨rfl,q⟩;replace K:=Ad (K.o.trans q);clear q;simp only [];go_wp2_with fail;go_ret;exact ⟨rfl,K.o⟩
instance iI {r:RawI}:Nonempty (Lv λv w=>IvR w v r):=⟨λ_ _ _ k h=>h.kept k⟩
instance iNI {S:Nat} {x y z x' y' z':Value}:Nonempty (Lv λv w=>∃ b,v=.pointer (some ⟨b,0,none⟩)/\S<=b/\BlkI w b x y z x' y' z'):=⟨λ_ _ _ k q=>by obtain ⟨b,e,q1,q2⟩:=q;exact ⟨b,e,q1,q2.kept k⟩⟩
def IvC (w:World) (v:Value) (a:Iv):Prop:=IvR w v a.raw
theorem IvC.kept (h:IvC w v a)(k:Kept w w'):IvC w' v a:=IvR.kept h k
theorem Ca (h:IvC w v a):∃ A l c A' l' c',v=.agg #[.bool a.lo.neg,.slice A l c,.int .i64 a.lo.e,.bool a.hi.neg,.slice A' l' c',.int .i64 a.hi.e] /\
 DyR w (.agg #[.bool a.lo.neg,.slice A l c,.int .i64 a.lo.e]) a.lo.raw/\DyR w (.agg #[.bool a.hi.neg,.slice A' l' c',.int .i64 a.hi.e]) a.hi.raw:=Ar h
theorem Gx (h:a.Ok):a.raw.lens 17592186044416:=⟨by have:=Eb h.lo;show a.lo.raw.m.length<=_;omega,by have:=Eb h.hi;show a.hi.raw.m.length<=_;omega⟩
theorem Yp (hv:IvC w v a)(h:a.Ok):Calls Tryz.prog 50 #[v] w (RetK (.bool true) w):=by
 have:=Up hv (Gx h);rwa [Ev h] at this
theorem jK (hv:DyR w v d.raw)(h:d.Ok):Calls Tryz.prog 53 #[v] w (RetK (.bool true) w):=by
 have:=Od hv (by have:=Eb h;omega);rwa [h.may] at this
def aq (a:Iv) (d:Dy):Bool:=decide (Dh a.lo.q d.q<=0)&&decide (Dh d.q a.hi.q<=0)
theorem pr (w:World)(x y z x' y' z' p q r:Value):∃ W,W=(w.alloc (.cells #[x,y,z,x',y',z'] 30)).alloc (.cells #[p,q,r] 28)/\Kept w W/\BlkI W w.heap.size x y z x' y' z'/\Blk W (w.heap.size+1) p q r :=
 ⟨_,rfl,(Ab _ _).trans (Ab _ _),(Ea _ _ _ _ _ _ _).kept (Ab _ _),Em _ _ _ _ _⟩
theorem jl (hv:IvC w v a)(hu:DyR w u d.raw)(ha:a.Ok)(hd:d.Ok) :
 Calls Tryz.prog 24 #[v,u] w (RetK (.bool (aq a d)) w):=by
 have m1:=λw1 (k:Kept w w1)=>Yp (hv.kept k) ha
 have m2:=λw1 (k:Kept w w1)=>jK (hu.kept k) hd
 obtain ⟨A,l,c,A',l',c',rfl,h1,h2⟩:=Ca hv;obtain ⟨A3,l3,c3,rfl,hu⟩:=Bx hu;have q1:=λw1 (k:Kept w w1)=>N5 (h1.kept k) (hu.kept k) ha.lo hd
 have q2:=λw1 (k:Kept w w1)=>N5 (hu.kept k) (h2.kept k) hd ha.hi
 unfold aq;have M1:=Ad m1;have M2:=Ad m2;have Q1:=Ad q1;have Q2:=Ad q2;clear m1 m2 q1 q2 h1 h2 hv hu ha hd;generalize Dh a.lo.q d.q=r1 at *;generalize Dh d.q a.hi.q=r2 at *;generalize a.lo.neg=n1,a.lo.e=e1,a.hi.neg=n2,a.hi.e=e2,d.neg=n3,d.e=e3 at *;obtain ⟨W,hW,kW,BI,BD⟩:=pr w (.bool n1) (.slice A l c) (.int .i64 e1) (.bool n2) (.slice A' l' c') (.int .i64 e2) (.bool n3) (.slice A3 l3 c3) (.int .i64 e3);have HW:=Ad hW;have K:=Ad kW;have HB:=Ad BI;have HD:=Ad BD;clear hW kW BI BD;have hr1:decide (r1<=0)=true\/decide (r1<=0)=false:=Cb _
 rcases hr1 with hr1 | hr1
 ·rw [hr1,Bool.true_and];obtain ⟨rb,hrb⟩:∃ rb,decide (r2≤0)=rb:=⟨_,rfl⟩;rw [hrb];go_enter Tryz.func24,Tryz.ntmps24;go_wp2_with fail;rw [←HW.out];refine (M1.out _ K.out).mono ?_;rintro e w1 ⟨rfl,q⟩;replace K:=Ad (K.out.trans q);replace HB:=Ad (HB.out.kept q);replace HD:=Ad (HD.out.kept q);clear q;obtain ⟨-,c0,c1,c2,c3,c4,c5⟩:=HB.out.facts;obtain ⟨-,d0,d1,d2,-⟩:=HD.out.facts;simp only [];go_wp2_with fail;refine (M2.out _ K.out).mono ?_;clear c0 c1 c2 c3 c4 c5 d0 d1 d2;rintro e w1 ⟨rfl,q⟩;replace K:=Ad (K.out.trans q);replace HB:=Ad (HB.out.kept q);replace HD:=Ad (HD.out.kept q);clear q;obtain ⟨-,c0,c1,c2,c3,c4,c5⟩:=HB.out.facts
  obtain ⟨-,d0,d1,d2,-⟩:=HD.o.facts;simp only [];go_wp2_with fail;refine (Q1.o _ K.o).mono ?_;clear c0 c1 c2 c3 c4 c5 d0 d1 d2;rintro e w1 ⟨rfl,q⟩;replace K:=Ad (K.o.trans q);replace HB:=Ad (HB.o.kept q);replace HD:=Ad (HD.o.kept q);clear q;obtain ⟨-,c0,c1,c2,c3,c4,c5⟩:=HB.o.facts;obtain ⟨-,d0,d1,d2,-⟩:=HD.o.facts;simp only [];go_wp2_with fail;refine (Q2.o _ K.o).mono ?_;rintro e w4 ⟨rfl,q⟩;replace K:=Ad (K.o.trans q);clear q;simp only [];go_wp2_with fail;go_ret;exact ⟨rfl,K.o⟩
 ·rw [hr1,Bool.false_and];go_enter Tryz.func24,Tryz.ntmps24;go_wp2_with fail;rw [←HW.out];refine (M1.out _ K.out).mono ?_;rintro e w1 ⟨rfl,q⟩;replace K:=Ad (K.out.trans q);replace HB:=Ad (HB.out.kept q);replace HD:=Ad (HD.out.kept q);clear q;obtain ⟨-,c0,c1,c2,c3,c4,c5⟩:=HB.out.facts;obtain ⟨-,d0,d1,d2,-⟩:=HD.out.facts;simp only [];go_wp2_with fail;refine (M2.out _ K.out).mono ?_;clear c0 c1 c2 c3 c4 c5 d0 d1 d2;rintro e w1 ⟨rfl,q⟩;replace K:=Ad (K.out.trans q);replace HB:=Ad (HB.out.kept q);replace HD:=Ad (HD.out.kept q);clear q;obtain ⟨-,c0,c1,c2,c3,c4,c5⟩:=HB.out.facts;obtain ⟨-,d0,d1,d2,-⟩:=HD.out.facts
  simp only [];go_wp2_with fail;refine (Q1.o _ K.o).mono ?_;clear c0 c1 c2 c3 c4 c5 d0 d1 d2;rintro e w1 ⟨rfl,q⟩;replace K:=Ad (K.o.trans q);replace HB:=Ad (HB.o.kept q);replace HD:=Ad (HD.o.kept q);clear q;obtain ⟨-,c0,c1,c2,c3,c4,c5⟩:=HB.o.facts;obtain ⟨-,d0,d1,d2,-⟩:=HD.o.facts;simp only [];go_wp2_with fail;go_ret;exact ⟨rfl,K.o⟩
theorem X7 (w:World)(x y z x' y' z' p q r p' q' r':Value):∃ W,W=(w.alloc (.cells #[x,y,z,x',y',z'] 30)).alloc (.cells #[p,q,r,p',q',r'] 30)/\Kept w W/\BlkI W w.heap.size x y z x' y' z'/\BlkI W (w.heap.size+1) p q r p' q' r':=by
 refine ⟨_,rfl,(Ab _ _).trans (Ab _ _),(Ea _ _ _ _ _ _ _).kept (Ab _ _),?_⟩;have:=Ea (w.alloc (.cells #[x,y,z,x',y',z'] 30)) p q r p' q' r';simpa using this
theorem T9 (h:w.heap[b]?=some (.cells cs t (0,0)))(i:Nat):w.cell? ⟨b,i,none⟩=cs[i]?:=by
 simp [World.cell?,h]
theorem Lim.setBlock (h:Lim w s xs)(hb:w.heap[b]?=some (.cells cs t (0,0)))(hn:∀ (i:Nat) (v:Value),cs[i]?=some v->Bv v)
 (hs:w.heap.size<=w'.heap.size) (ho:∀ k,k<w.heap.size->k≠b->w'.heap[k]?=w.heap[k]?):Lim w' s xs:=by
 obtain ⟨hsm,A,c,rfl,hc,hA⟩:=h;refine ⟨hsm,A,c,rfl,hc,λhp=>?_⟩;obtain ⟨b1,off,rfl,hb1,hcell⟩:=hA hp;have hne:b1≠b:=by
  rintro rfl;have h5:=hcell 0 hp;rw [T9 hb] at h5;exact hn _ _ h5 _ rfl
 refine ⟨b1,off,rfl,Dn hb1 hs,λi hi=>?_⟩;rw [<-hcell i hi];exact World.cell?_of_block (ho b1 hb1 hne)
def ivW (w:World) (b:Nat) (x y z x' y' z':Value):World :=
 (((((w.setCell ⟨b,0,none⟩ x).setCell ⟨b,1,none⟩ y).setCell ⟨b,2,none⟩ z).setCell ⟨b,3,none⟩ x').setCell ⟨b,4,none⟩ y').setCell ⟨b,5,none⟩ z'
theorem BlkI.laid {p r p' q' r':Value}(h:BlkI w b p q r p' q' r')(x y z x' y' z':Value):BlkI (ivW w b x y z x' y' z') b x y z x' y' z' :=
 Bw (Bw (Bw (Bw (Bw (Bw h _) _) _) _) _) _
theorem Az (h:Kept w0 w)(h2:w0.heap.size<=b):Kept w0 (ivW w b x y z x' y' z') :=
 (((((h.setCell (p:=⟨b,0,none⟩) h2 x).setCell (p:=⟨b,1,none⟩) h2 y).setCell (p:=⟨b,2,none⟩) h2 z).setCell (p:=⟨b,3,none⟩) h2 x').setCell (p:=⟨b,4,none⟩) h2 y').setCell (p:=⟨b,5,none⟩) h2 z'
theorem F8 (w:World)(b k:Nat)(x y z x' y' z':Value)(h:k≠b):(ivW w b x y z x' y' z').heap[k]?=w.heap[k]?:=by
 unfold ivW;rw [Below.heap_setCell _ _ _ _ h,Below.heap_setCell _ _ _ _ h,Below.heap_setCell _ _ _ _ h,Below.heap_setCell _ _ _ _ h,Below.heap_setCell _ _ _ _ h,Below.heap_setCell _ _ _ _ h]
theorem BlkI.noLimb {l:Nat}{e:Int}(_h:BlkI w b (.bool n) (.slice A l c) (.int .i64 e) (.bool n') (.slice A' l' c') (.int .i64 e')) :
 ∀ (i:Nat) (v:Value),(#[Value.bool n,.slice A l c,.int .i64 e,.bool n',.slice A' l' c',.int .i64 e']:Array Value)[i]?=some v->Bv v:=by
 intro i v hv;rcases i with _ | _ | _ | _ | _ | _ | i
 ·simp at hv;subst hv;exact Ah _
 ·simp at hv;subst hv;exact Ag _ _ _
 ·simp at hv;subst hv;exact Aj _
 ·simp at hv;subst hv;exact Ah _
 ·simp at hv;subst hv;exact Ag _ _ _
 ·simp at hv;subst hv;exact Aj _
 ·simp at hv
theorem Lim.ivW {l:Nat}{e:Int}(h:Lim w s xs)(hb:BlkI w b (.bool n) (.slice A l c) (.int .i64 e) (.bool n') (.slice A' l' c') (.int .i64 e'))(x y z x' y' z':Value) :
 Lim (Go.Proofs.YtabjjdicffcolaaGreatDoor.ivW w b x y z x' y' z') s xs :=
 h.setBlock hb hb.noLimb (by simp [Go.Proofs.YtabjjdicffcolaaGreatDoor.ivW,World.setCell]) (λk _ hne=>F8 _ _ _ _ _ _ _ _ _ hne)
theorem DyR.ivW {l:Nat}{e:Int}(h:DyR w v r)(hb:BlkI w b (.bool n) (.slice A l c) (.int .i64 e) (.bool n') (.slice A' l' c') (.int .i64 e'))(x y z x' y' z':Value) :
 DyR (Go.Proofs.YtabjjdicffcolaaGreatDoor.ivW w b x y z x' y' z') v r:=by
 obtain ⟨s,rfl,hs,h1,h2⟩:=h;exact ⟨s,rfl,hs.ivW hb _ _ _ _ _ _,h1,h2⟩
theorem BlkI.free (h:BlkI w b x y z x' y' z'):w.frozen? ⟨b,0,none⟩=false/\w.frozen? ⟨b,1,none⟩=false/\w.frozen? ⟨b,2,none⟩=false/\w.frozen? ⟨b,3,none⟩=false/\w.frozen? ⟨b,4,none⟩=false/\w.frozen? ⟨b,5,none⟩=false :=
 ⟨Aw h 0,Aw h 1,Aw h 2,Aw h 3,Aw h 4,Aw h 5⟩
theorem Fp {fn:Func}{a:Act}{t:Nat}(h:BlkI w b x y z x' y' z')
 (hres:fn.results=#[.cell t 30]) (ht:a.tmps.getD t undef=.pointer (some ⟨b,0,none⟩)) (hd:a.defers=[]) (hR:R (.returned (.agg #[x,y,z,x',y',z'])) w) :
 bodyPost Tryz.prog fn R .ret a w:=by
 obtain ⟨_,c0,c1,c2,c3,c4,c5⟩:=h.facts;refine bodyPost_ret (v:=.agg #[x,y,z,x',y',z']) ?_ hd hR;have ht2:a.tmps[t]?.getD undef=.pointer (some ⟨b,0,none⟩):=by simpa using ht
 simp [results,hres,ht2,go_sem,c0,c1,c2,c3,c4,c5]
theorem Cx {fn:Func}{a:Act}{t u:Nat}(h:BlkI w b x y z x' y' z')
 (hres:fn.results=#[.cell t 30,.tmp u]) (ht:a.tmps.getD t undef=.pointer (some ⟨b,0,none⟩)) (hd:a.defers=[])
 (hR:R (.returned (.tuple #[.agg #[x,y,z,x',y',z'],a.tmps.getD u undef])) w):bodyPost Tryz.prog fn R .ret a w:=by
 obtain ⟨_,c0,c1,c2,c3,c4,c5⟩:=h.facts;refine bodyPost_ret (v:=.tuple #[.agg #[x,y,z,x',y',z'],a.tmps.getD u undef]) ?_ hd hR;have ht2:a.tmps[t]?.getD undef=.pointer (some ⟨b,0,none⟩):=by simpa using ht
 simp [results,hres,ht2,go_sem,c0,c1,c2,c3,c4,c5]
def RetI (a:RawI) (w:World) (e:Ending) (w':World):Prop:=Kept w w'/\∃ v,e=.returned v/\IvR w' v a
def RetIE (o:Outc RawI) (w:World) (e:Ending) (w':World):Prop:=Kept w w'/\∃ v,e=.returned (.tuple #[v,.int .i64 o.k])/\IvR w' v o.v
theorem Gw (w:World):BlkI (w.alloc (.cells #[.bool false,.slice none 0 0,.int .i64 0,.bool false,.slice none 0 0,.int .i64 0] 30)) w.heap.size (.bool false) (.slice none 0 0) (.int .i64 0) (.bool false) (.slice none 0 0) (.int .i64 0):=heap_alloc_new _ _
theorem oF (hv:DyR w v r):Calls Tryz.prog 21 #[v] w (RetI ⟨r,r⟩ w):=by
 have hv':=hv;obtain ⟨A,l,c,rfl,hv⟩:=Bf hv;have HV:=Ad hv;clear hv hv';have hb1:=Ea (w.alloc (.cells #[.bool r.neg,.slice A l c,.int .i64 r.e] 28)) (.bool r.neg) (.slice A l c) (.int .i64 r.e) (.bool r.neg) (.slice A l c) (.int .i64 r.e);simp only [World.size_alloc] at hb1;have HB:=Ad hb1;clear hb1;go_enter Tryz.func21,Tryz.ntmps21;go_wp2_with fail;exact Fp HB.o rfl rfl rfl ⟨(Ab _ _).trans (Ab _ _),_,rfl,_,_,_,_,_,_,rfl,HV.o.kept ((Ab _ _).trans (Ab _ _)),HV.o.kept ((Ab _ _).trans (Ab _ _))⟩
theorem i4 (hl:xs.length=ys.length)(h:∀ i,i<xs.length->Ba xs i=Ba ys i):xs=ys:=by
 apply List.ext_getElem hl;intro i h1 h2;have:=h i h1;unfold Ba at this;rw [Da,Da,Cd h1,Cd h2] at this;exact this
theorem my (hv:Lim w v xs)(hu:Lim w u ys)(hl:xs.length<=17592186044416) :
 Calls Tryz.prog 72 #[v,u] w (RetK (.bool (xs==ys)) w):=by
 obtain ⟨hs,A,c,rfl,hc,hA⟩:=hv;obtain ⟨hs',A',c',rfl,hc',hA'⟩:=hu;by_cases hne:xs.length=ys.length
 ·have hlb:((xs.length:Int)==(ys.length:Int))=true:=by rw [beq_iff_eq];omega
  have HE:=Ad hne;obtain ⟨n,hn⟩:∃ n,n=xs.length:=⟨_,rfl⟩;have hn2:n=ys.length:=by omega
  rw [<-hn] at hl hc hA ⊢;rw [<-hn2] at hc' hA' ⊢;rw [<-hn,<-hn2] at hlb;have HA:=Ad hA;have HA':=Ad hA';have HS:=Ad hs;have HS':=Ad hs';have HN:=Ad hn;clear hA hA' hs hs' hn hn2 hne hlb;have hlb:((n:Int)==(n:Int))=true:=by rw [beq_iff_eq]
  go_enter Tryz.func72,Tryz.ntmps72;go_wp2_with fail
  go_loopw [13] (λt wr=>∃ k:Nat,k<=n/\t=.int .i64 k/\(∀ i,i<k->Ba xs i=Ba ys i)/\Kept w wr) (λt _=>(n-intOf t).toNat)
  case atStart=>exact ⟨0,Nat.zero_le _,rfl,λi hi=>absurd hi (Nat.not_lt_zero _),Below.refl _ _⟩
  case round =>
   obtain ⟨k,hk,rfl,heq,hK⟩:=hrel;have K:=Ad hK;clear hK;have HQ:=Ad heq;clear heq;by_cases hlt:k<n
   ·obtain ⟨b,off,rfl,hb,hcell⟩:=HA.out (by omega);obtain ⟨b',off',rfl,hb',hcell'⟩:=HA'.out (by omega);have h1:=fun w1 (q:Kept wr w1)=>((K.out.trans q).cell (p:=⟨b,off+k,none⟩) hb).trans (hcell k hlt)
    have h2:=λw1 (q:Kept wr w1)=>((K.o.trans q).cell (p:=⟨b',off'+k,none⟩) hb').trans (hcell' k hlt)
    have H1:=Ad h1;have H2:=Ad h2;have hx0:(0:Int)<=(k:Int):=by omega
    have hx1:(k:Int)<(n:Int):=by omega
    clear hcell hcell' h1 h2;by_cases hxy:Ba xs k=Ba ys k
    ·have hb1:(((Ba xs k:Nat):Int) != ((Ba ys k:Nat):Int))=false:=by simp [hxy]
     have HXY:=Ad hxy;clear hxy;generalize hgx:Ba xs k=x at *;generalize hgy:Ba ys k=y at *;have GX:=Ad hgx;have GY:=Ad hgy;clear hgx hgy;go_wp2_with fail
     refine Sv 9 ([(vE (.slice (some ⟨b,off,none⟩) n c)),(vE (.int .i64 k)),(vE (.pointer (some ⟨b,off+k,none⟩))),(vE (.int .u64 x)),(vE (.slice (some ⟨b',off',none⟩) n c')),(vE (.int .i64 k)),(vE (.pointer (some ⟨b',off'+k,none⟩))),(vE (.int .u64 y)),(vE (.bool false))])
      ⟨
       (gq 0),(gq 5),(Hz 0 16 1 17),(λaF wF F=>by have s18:=F.v 2 18;exact sw (by have h:=H1.o _ F.kept;go_simp) rfl),(gq 1),(gq 5),(Hz 4 20 5 21),(λaF wF F=>by have s22:=F.v 6 22;exact sw (by have h:=H2.o _ F.kept;go_simp) rfl),(Hz 3 19 7 23),
       trivial⟩ ?_
     intro u w1 k1 hu;simp only [Bb,Ap,Act.put,Ep,hv hu 0,hv hu 1,hv hu 2,hv hu 3,hv hu 4,hv hu 5,hv hu 6,hv hu 7,hv hu 8];clear hu;go_wp2_with fail;go_roundw
     case rel =>
      refine ⟨k+1,by omega,by go_num,λi hi=>?_,K.o.trans k1⟩;by_cases hik:i=k
      ·rw [hik,GX.o,GY.o];exact HXY.o
      ·exact HQ.o i (by omega)
     case measure=>simp [intOf];omega
    ·have hb1:(((Ba xs k:Nat):Int) != ((Ba ys k:Nat):Int))=true:=by simp;omega
     have hres:(xs==ys)=false:=by
      rw [Ek];intro h;exact hxy (by rw [h])
     rw [hres];clear hres;have HXY:=Ad hxy;clear hxy;generalize hgx:Ba xs k=x at *;generalize hgy:Ba ys k=y at *;have GX:=Ad hgx;have GY:=Ad hgy;clear hgx hgy;go_wp2_with fail
     refine Sv 9 ([(vE (.slice (some ⟨b,off,none⟩) n c)),(vE (.int .i64 k)),(vE (.pointer (some ⟨b,off+k,none⟩))),(vE (.int .u64 x)),(vE (.slice (some ⟨b',off',none⟩) n c')),(vE (.int .i64 k)),(vE (.pointer (some ⟨b',off'+k,none⟩))),(vE (.int .u64 y)),(vE (.bool true))])
      ⟨
       (gq 0),(gq 5),(Hz 0 16 1 17),(λaF wF F=>by have s18:=F.v 2 18;exact sw (by have h:=H1.o _ F.kept;go_simp) rfl),(gq 1),(gq 5),(Hz 4 20 5 21),(λaF wF F=>by have s22:=F.v 6 22;exact sw (by have h:=H2.o _ F.kept;go_simp) rfl),(Hz 3 19 7 23),
       trivial⟩ ?_
     intro u w1 k1 hu;simp only [Bb,Ap,Act.put,Ep,hv hu 0,hv hu 1,hv hu 2,hv hu 3,hv hu 4,hv hu 5,hv hu 6,hv hu 7,hv hu 8];clear hu;go_wp2_with fail;go_ret;exact ⟨rfl,K.o.trans k1⟩
   ·obtain rfl:k=n:=by omega
    have hres:(xs==ys)=true:=by
     rw [beq_iff_eq];exact i4 HE.o (λi hi=>HQ.o i (by have:=HN.o;omega))
    go_wp2_with fail;go_ret;exact ⟨by rw [hres];rfl,K.o⟩
 ·have hres:(xs==ys)=false:=by
   rw [Ek];intro h;exact hne (by rw [h])
  rw [hres];have hlb:((xs.length:Int)==(ys.length:Int))=false:=by rw [Ek];omega
  clear hA hA' hs hs' hne hres;generalize xs.length=n,ys.length=n' at *;go_enter Tryz.func72,Tryz.ntmps72;go_wp2_with fail;go_ret;exact ⟨rfl,Below.refl _ _⟩
def Mk (a b:Raw):Bool:=(a.neg==b.neg)&&(a.e==b.e)&&(a.m==b.m)
theorem Yg {a b:Raw}(ha:DyR w v a)(hb:DyR w u b)(hl:a.m.length<=17592186044416) :
 Calls Tryz.prog 35 #[v,u] w (RetK (.bool (Mk a b)) w):=by
 obtain ⟨A,l,c,rfl,-,la,-,-⟩:=ha.shape;obtain ⟨A2,l2,c2,rfl,-,lb,-,-⟩:=hb.shape;have he:=λw1 (k:Kept w w1)=>my (la.kept k) (lb.kept k) hl
 unfold Mk;have HE:=Ad he;clear he la lb ha hb hl;generalize (a.m==b.m)=r3 at *;generalize a.neg=n1,a.e=e1,b.neg=n2,b.e=e2 at *;obtain ⟨W,hW,kW,B0,B1⟩:=T8 w (.bool n1) (.slice A l c) (.int .i64 e1) (.bool n2) (.slice A2 l2 c2) (.int .i64 e2);have HW:=Ad hW;have K:=Ad kW;clear hW kW B0 B1;have hr1:(n1==n2)=true\/(n1==n2)=false:=Cb _;have hr2:(e1==e2)=true\/(e1==e2)=false:=Cb _;rcases hr1 with hr1 | hr1
 ·rw [hr1,Bool.true_and];rcases hr2 with hr2 | hr2
  ·rw [hr2,Bool.true_and];go_enter Tryz.func35,Tryz.ntmps35;go_wp2_with fail;rw [<-HW.o];refine (HE.o _ K.o).mono ?_;rintro e w1 ⟨rfl,q⟩;simp only [];go_wp2_with fail;go_ret;exact ⟨rfl,K.o.trans q⟩
  ·rw [hr2,Bool.false_and];go_enter Tryz.func35,Tryz.ntmps35;go_wp2_with fail;go_ret;exact ⟨rfl,by have:=K.o;rwa [HW.o] at this⟩
 ·rw [hr1,Bool.false_and,Bool.false_and];clear hr2;go_enter Tryz.func35,Tryz.ntmps35;go_wp2_with fail;go_ret;exact ⟨rfl,by have:=K.o;rwa [HW.o] at this⟩
theorem mA {a b:RawI}(hv:IvR w v a)(hu:IvR w u b)(hl:a.lens 17592186044416) :
 Calls Tryz.prog 119 #[v,u] w (RetK (.bool (Mk a.lo b.lo&&Mk a.hi b.hi)) w):=by
 obtain ⟨A,l,c,A',l',c',rfl,h1,h2⟩:=Ar hv;obtain ⟨B,j,e,B',j',e',rfl,g1,g2⟩:=Ar hu;have q1:=λw1 (k:Kept w w1)=>Yg (h1.kept k) (g1.kept k) hl.1
 have q2:=λw1 (k:Kept w w1)=>Yg (h2.kept k) (g2.kept k) hl.2
 have Q1:=Ad q1;have Q2:=Ad q2;clear q1 q2 h1 h2 g1 g2 hv hu hl;generalize Mk a.lo b.lo=r1 at *;generalize Mk a.hi b.hi=r2 at *;generalize a.lo.neg=n1,a.lo.e=e1,a.hi.neg=n2,a.hi.e=e2,b.lo.neg=n3,b.lo.e=e3,b.hi.neg=n4,b.hi.e=e4 at *;obtain ⟨W,hW,kW,BI,BJ⟩:=X7 w (.bool n1) (.slice A l c) (.int .i64 e1) (.bool n2) (.slice A' l' c') (.int .i64 e2) (.bool n3) (.slice B j e) (.int .i64 e3) (.bool n4) (.slice B' j' e') (.int .i64 e4);have HW:=Ad hW;have K:=Ad kW;have HB:=Ad BI
 have HD:=Ad BJ;clear hW kW BI BJ;cases r1
 ·rw [Bool.false_and];go_enter Tryz.func119,Tryz.ntmps119;go_wp2_with fail;rw [<-HW.o];refine (Q1.o _ K.o).mono ?_;rintro e w1 ⟨rfl,q⟩;replace K:=Ad (K.o.trans q);replace HB:=Ad (HB.o.kept q);replace HD:=Ad (HD.o.kept q);clear q;obtain ⟨-,c0,c1,c2,c3,c4,c5⟩:=HB.o.facts;obtain ⟨-,d0,d1,d2,d3,d4,d5⟩:=HD.o.facts;simp only [];go_wp2_with fail;go_ret;exact ⟨rfl,K.o⟩
 ·rw [Bool.true_and];go_enter Tryz.func119,Tryz.ntmps119;go_wp2_with fail;rw [←HW.out];refine (Q1.out _ K.out).mono ?_;rintro e w1 ⟨rfl,q⟩;replace K:=Ad (K.out.trans q);replace HB:=Ad (HB.out.kept q);replace HD:=Ad (HD.out.kept q);clear q;obtain ⟨-,c0,c1,c2,c3,c4,c5⟩:=HB.out.facts;obtain ⟨-,d0,d1,d2,d3,d4,d5⟩:=HD.out.facts;simp only [];go_wp2_with fail;refine (Q2.out _ K.out).mono ?_;clear c0 c1 c2 c3 c4 c5 d0 d1 d2 d3 d4 d5;rintro e w1 ⟨rfl,q⟩;replace K:=Ad (K.out.trans q);replace HB:=Ad (HB.out.kept q);replace HD:=Ad (HD.out.kept q);clear q;obtain ⟨-,c0,c1,c2,c3,c4,c5⟩:=HB.out.facts;obtain ⟨-,d0,d1,d2,d3,d4,d5⟩:=HD.out.facts
  simp only [];go_wp2_with fail;go_ret;exact ⟨rfl,K.o⟩
theorem jR (k:Int)(w:World):Calls Tryz.prog 126 #[.bool true,.int .i64 k] w λe w'=>e=.returned (.tuple #[])/\w=w':=by
 go_enter Tryz.func126,Tryz.ntmps126;go_wp2
 go_end0
 exact ⟨rfl,rfl⟩
theorem gz (k:Int)(w:World):Calls Tryz.prog 126 #[.bool false,.int .i64 k] w λe w'=>e=.panicked (By 166 k)/\w=w':=by
 go_enter Tryz.func126,Tryz.ntmps126;go_wp2;exact ⟨rfl,rfl,rfl⟩
theorem Nb (b:Bool)(k:Int)(w:World):Calls Tryz.prog 126 #[.bool b,.int .i64 k] w λe w'=>e=aB 166 b k/\w=w':=by
 cases b
 ·exact gz k w
 ·exact jR k w
theorem Kv (k:Int)(w:World):Calls Tryz.prog 126 #[.bool true,.int .i64 k] w (RetK (.tuple #[]) w):=(Nb true k w).mono λ_ _ ⟨he,hw⟩=>⟨he,hw▸Below.refl _ _⟩
theorem Si (k:Int)(w:World):(Instr.typeAssert (.iface 166 (.agg #[.int .i64 k])) 20 166 true).run Tryz.prog w=.ok (.tuple #[.agg #[.int .i64 k],.bool true]) w:=by
 kernel_rfl
theorem Ta (w:World):(Instr.typeAssert .nilIface 20 166 true).run Tryz.prog w=.ok (.tuple #[.agg #[.int .i64 0],.bool false]) w:=by
 kernel_rfl
theorem D3 (hv:DyR w v d.raw) :
 Calls Tryz.prog 128 #[v,.int .i64 k] w (J6 166 (Outc.raw ⟨d,k⟩) w):=by
 obtain ⟨A,l,c,rfl,-,la,xa,xb⟩:=hv.shape;obtain ⟨W,hW,kW,B0,BR⟩:=Mt w (.bool d.neg) (.slice A l c) (.int .i64 d.e);have HW:=Ad hW;have K:=Ad kW;have HB:=Ad B0;have HR:=Ad BR;have LA:=Ad la;have BX:=Ad (And.intro xa xb);clear hW kW B0 BR la xa xb hv;simp only [Dy.raw] at *;generalize hgn:d.neg=n1,hge:d.e=e1 at *;have GN:=Ad hgn;have GE:=Ad hge;clear hgn hge;by_cases hk:k=0
 ·subst hk;go_enter Tryz.func128,Tryz.ntmps128
  go_wp2_with (go_at_call 126;rw [<-HW.o];refine (Kv 0 _).mono ?_;rintro e w1 ⟨rfl,q⟩;replace K:=Ad (K.o.trans q);have hb:=HB.o.kept q;have hr:=HR.o.kept q;obtain ⟨-,a0,a1,a2,-⟩:=hb.facts;obtain ⟨_,c0,c1,c2,f0,f1,f2⟩:=hr.facts;have HR2:=Ad hr;clear hb hr q)
  exact Ct (HR2.o.laid _ _ _) rfl rfl rfl ⟨Au K.o (by omega),.inl ⟨rfl,_,rfl,by
   have:=((LA.o.kept K.o).dyW (x':=.bool n1) (y':=.slice A l c) (z':=.int .i64 e1) HR2.o (Ah _) (Ag _ _ _) (Aj _)).dyR (r:=⟨n1,Al d.m,e1⟩) BX.o.1 BX.o.2
   show DyR _ _ ⟨d.neg,Al d.m,d.e⟩
   rw [GN.o,GE.o];exact this⟩⟩
 ·have hkb:(k==0)=false:=by rw [Ek];exact hk
  have HKK:=Ad hk;clear hk;go_enter Tryz.func128,Tryz.ntmps128
  go_wp2_with (go_at_call 126;rw [<-HW.o];refine (Nb _ _ _).mono ?_;rintro e w3 ⟨he,rfl⟩;obtain rfl:e=.panicked (By 166 _):=he)
  exact ⟨rfl,K.o,.inr ⟨HKK.o,rfl⟩⟩
theorem eK (h:DyR w (.agg #[x,s,z]) r):Lim w s r.m/\-9223372036854775808<=r.e/\r.e<=9223372036854775807:=by
 obtain ⟨s',he,hs,h1,h2⟩:=h;injection he with he;injection he with he
 simp only [List.cons.injEq,and_true] at he;rw [he.2.1];exact ⟨hs,h1,h2⟩
theorem au (l:List Dy)(x:Dy):∀ d,Ci d (l++[x])=if Dh x.q (Ci d l).q<0 then x else Ci d l:=by
 induction l with
 | nil=>intro d;rfl
 | cons y l ih=>intro d;simp only [List.cons_append,Ci];exact ih _
theorem Um (l:List Dy)(x:Dy):∀ d,Bd d (l++[x])=if 0<Dh x.q (Bd d l).q then x else Bd d l:=by
 induction l with
 | nil=>intro d;rfl
 | cons y l ih=>intro d;simp only [List.cons_append,Bd];exact ih _
theorem Yr (hv:DyS w v (d0::l))(hl:qn (d0::l))(hn:(d0::l).length<=1000) :
 Calls Tryz.prog 130 #[v] w (RetD (Ci d0 (d0::l)).raw w):=by
 obtain ⟨A,c,rfl,hc,hA⟩:=hv;obtain ⟨b,off,rfl,hd⟩:=hA (by simp);have hat:=hd 0 d0 rfl;rw [Nat.zero_mul,Nat.add_zero] at hat;obtain ⟨s,h0,h1,h2,hR⟩:=hat;have hok0:=hl d0 (List.mem_cons_self ..);obtain ⟨L,hL⟩:∃ L,L=d0::l:=⟨_,rfl⟩;rw [<-hL] at hd hl hn hc ⊢;obtain ⟨n,hn'⟩:∃ n,n=L.length:=⟨_,rfl⟩;rw [<-hn'] at hn hc ⊢;have hn0:0<n:=by rw [hn',hL];simp
 have lb:=Av h0;simp only at lb;obtain ⟨A1,l1,c1,es,-,-,-,-⟩:=hR.shape;injection es with es;injection es with es
 simp only [List.cons.injEq,and_true] at es;obtain rfl:=es.2.1;clear es hA;have HD:=Ad hd;have HL:=Ad hl;have HN:=Ad hn';have HR:=Ad hR;have HO:=Ad hok0;have HLL:=Ad hL;clear hd hl hn' hR hok0 hL;obtain ⟨n0,hg1⟩:∃ x,x=d0.neg:=⟨_,rfl⟩;obtain ⟨e0,hg2⟩:∃ x,x=d0.e:=⟨_,rfl⟩;rw [<-hg1] at h0;rw [<-hg2] at h2;have G1:=Ad hg1;have G2:=Ad hg2;clear hg1 hg2;go_enter Tryz.func130,Tryz.ntmps130;go_wp2_with fail
 go_loopw [11] (λt wr=>∃ (k:Nat) (cur:Dy) (Ac:Option Addr) (lc cc:Nat),k<=n/\t=.int .i64 k/\cur=Ci d0 (L.take k)/\cur.Ok/\DyR w (.agg #[.bool cur.neg,.slice Ac lc cc,.int .i64 cur.e]) cur.raw /\
  Blk wr (w.heap.size+1) (.bool cur.neg) (.slice Ac lc cc) (.int .i64 cur.e)/\Blk wr w.heap.size (.bool false) (.slice none 0 0) (.int .i64 0)/\Kept w wr) (λt _=>(n-intOf t).toNat)
 case atStart =>
  refine ⟨0,d0,A1,l1,c1,Nat.zero_le _,rfl,rfl,HO.o,HR.o,?_,Bl (El w) _,(Ab _ _).trans (Ab _ _)⟩;rw [<-G1.o,<-G2.o];exact Em _ _ _ _ _
 case round =>
  obtain ⟨k,cur,Ac,lc,cc,hk,rfl,hcur,hok,hRc,hB1,hB0,hK⟩:=hrel;have K:=Ad hK;have HB1:=Ad hB1;have HB0:=Ad hB0;have HC:=Ad hcur;have HRC:=Ad hRc;have HOK:=Ad hok;clear hK hcur hRc hok;by_cases hlt:k<n
  ·obtain ⟨d,hdk⟩:∃ d,L[k]?=some d:=⟨_,Cd (by have:=HN.out;omega)⟩;obtain ⟨s',p0,p1,p2,hRd⟩:=(HD.out k d hdk);obtain ⟨A3,l3,c3,es,-,-,-,-⟩:=hRd.shape;injection es with es;injection es with es
   simp only [List.cons.injEq,and_true] at es;obtain rfl:=es.2.1;clear es;have hokd:=HL.o d (Dc hdk);have hnext:Ci d0 (L.take (k+1))=if Dh d.q cur.q<0 then d else cur:=by
    rw [List.take_succ_eq_append_getElem (by have:=HN.o;omega)];have:L[k]'(by have:=HN.o;omega)=d:=by
     rw [Cd (by have:=HN.o;omega)] at hdk;exact Option.some.inj hdk
    rw [this,au,<-HC.o]
   have hcmp:=λw1 (q:Kept w w1)=>N5 (hRd.kept q) (HRC.o.kept q) hokd HOK.o
   have q0:=(K.o.cell (p:=⟨b,off+k*3,none⟩) lb).trans p0;have q1:=(K.o.cell (p:=⟨b,off+k*3+1,none⟩) lb).trans p1;have q2:=(K.o.cell (p:=⟨b,off+k*3+2,none⟩) lb).trans p2;have HCM:=Ad hcmp;have HRD:=Ad hRd;have HOD:=Ad hokd;have HNX:=Ad hnext;clear hnext hcmp hRd hokd hdk p0 p1 p2 h0 h1 h2;obtain ⟨lb1,r0,r1,r2,g0,g1,g2⟩:=hB1.facts;clear hB1 hB0;generalize hcc:Dh d.q cur.q=cmp at *;clear hcc;obtain ⟨nd,hnd⟩:∃ x,x=d.neg:=⟨_,rfl⟩;obtain ⟨ed,hed⟩:∃ x,x=d.e:=⟨_,rfl⟩;obtain ⟨nc,hnc⟩:∃ x,x=cur.neg:=⟨_,rfl⟩;obtain ⟨ec,hec⟩:∃ x,x=cur.e:=⟨_,rfl⟩;rw [<-hnd] at q0 HCM HRD;rw [<-hed] at q2 HCM HRD;rw [<-hnc] at r0 HCM HRC HB1
   rw [<-hec] at r2 HCM HRC HB1;have X1:=Ad hnd;have X2:=Ad hed;have X3:=Ad hnc;have X4:=Ad hec;clear hnd hed hnc hec;by_cases hc:cmp<0
   ·have hd':decide (cmp<0)=true:=by simp [hc]
    have hnx:=HNX.o;rw [Ak hc] at hnx;clear hc HNX;have HNX:=Ad hnx;clear hnx;go_wp2_with fail;refine (HCM.o _ (K.o.trans (Ab _ _))).mono ?_;rintro e w2 ⟨rfl,q⟩;have hx:=(Bz wr (.bool nd) (.slice A3 l3 c3) (.int .i64 ed)).kept q;have hb1:=HB1.o.kept ((Ab _ _).trans q);have hb0:=HB0.o.kept ((Ab _ _).trans q);replace K:=Ad (K.o.trans ((Ab _ _).trans q));clear q lb1 r0 r1 r2 g0 g1 g2;obtain ⟨_,t0,t1,t2,-⟩:=hx.facts;obtain ⟨lb1,r0,r1,r2,g0,g1,g2⟩:=hb1.facts;have HX1:=Ad hb1;have HX0:=Ad hb0;clear hx hb1 hb0;simp only [];go_wp2_with fail;go_roundw
    case rel =>
     refine ⟨k+1,d,A3,l3,c3,by omega,by go_num,HNX.o.symm,HOD.o,?_,?_,HX0.o.laid_other (by omega) _ _ _,Au K.o (by omega)⟩
     ·rw [<-X1.o,<-X2.o];exact HRD.o
     ·rw [<-X1.o,<-X2.o];exact HX1.o.laid _ _ _
    case measure=>simp [intOf];omega
   ·have hd':decide (cmp<0)=false:=by simp [hc]
    have hnx:=HNX.o;rw [Af hc] at hnx;clear hc HNX;have HNX:=Ad hnx;clear hnx;go_wp2_with fail;refine (HCM.o _ (K.o.trans (Ab _ _))).mono ?_;rintro e w2 ⟨rfl,q⟩;have hx:=(Bz wr (.bool nd) (.slice A3 l3 c3) (.int .i64 ed)).kept q;have hb1:=HB1.o.kept ((Ab _ _).trans q);have hb0:=HB0.o.kept ((Ab _ _).trans q);replace K:=Ad (K.o.trans ((Ab _ _).trans q));clear q lb1 r0 r1 r2 g0 g1 g2;obtain ⟨_,t0,t1,t2,-⟩:=hx.facts;obtain ⟨lb1,r0,r1,r2,g0,g1,g2⟩:=hb1.facts;have HX1:=Ad hb1;have HX0:=Ad hb0;clear hx hb1 hb0;simp only [];go_wp2_with fail;go_roundw
    case rel =>
     refine ⟨k+1,cur,Ac,lc,cc,by omega,by go_num,HNX.o.symm,HOK.o,?_,?_,HX0.o,K.o⟩
     ·rw [<-X3.o,<-X4.o];exact HRC.o
     ·rw [<-X3.o,<-X4.o];exact HX1.o
    case measure=>simp [intOf];omega
  ·obtain rfl:k=n:=by omega
   have hfin:Ci d0 L=cur:=by rw [HC.o,Fq (by have:=HN.o;omega)]
   obtain ⟨_,r0,r1,r2,-⟩:=hB1.facts;obtain ⟨_,c0,c1',c2,f0,f1,f2⟩:=hB0.facts;have HF:=Ad hfin;obtain ⟨lim,xa,xb⟩:=eK HRC.o;have LIM:=Ad lim;have BX:=Ad (And.intro xa xb);clear hfin hB1 hB0 lim xa xb;go_wp2_with fail;refine Ct (HB0.o.laid _ _ _) rfl rfl rfl ⟨Au K.o (Aq _),_,rfl,?_⟩;rw [HF.o];exact ((LIM.o.kept K.o).dyW HB0.o (Ah _) (Ag _ _ _) (Aj _)).dyR (r:=cur.raw) BX.o.1 BX.o.2
theorem Qg (hv:DyS w v (d0::l))(hl:qn (d0::l))(hn:(d0::l).length<=1000) :
 Calls Tryz.prog 131 #[v] w (RetD (Bd d0 (d0::l)).raw w):=by
 obtain ⟨A,c,rfl,hc,hA⟩:=hv;obtain ⟨b,off,rfl,hd⟩:=hA (by simp);have hat:=hd 0 d0 rfl;rw [Nat.zero_mul,Nat.add_zero] at hat;obtain ⟨s,h0,h1,h2,hR⟩:=hat;have hok0:=hl d0 (List.mem_cons_self ..);obtain ⟨L,hL⟩:∃ L,L=d0::l:=⟨_,rfl⟩;rw [<-hL] at hd hl hn hc ⊢;obtain ⟨n,hn'⟩:∃ n,n=L.length:=⟨_,rfl⟩;rw [<-hn'] at hn hc ⊢;have hn0:0<n:=by rw [hn',hL];simp
 have lb:=Av h0;simp only at lb;obtain ⟨A1,l1,c1,es,-,-,-,-⟩:=hR.shape;injection es with es;injection es with es
 simp only [List.cons.injEq,and_true] at es;obtain rfl:=es.2.1;clear es hA;have HD:=Ad hd;have HL:=Ad hl;have HN:=Ad hn';have HR:=Ad hR;have HO:=Ad hok0;have HLL:=Ad hL;clear hd hl hn' hR hok0 hL;obtain ⟨n0,hg1⟩:∃ x,x=d0.neg:=⟨_,rfl⟩;obtain ⟨e0,hg2⟩:∃ x,x=d0.e:=⟨_,rfl⟩;rw [<-hg1] at h0;rw [<-hg2] at h2;have G1:=Ad hg1;have G2:=Ad hg2;clear hg1 hg2;go_enter Tryz.func131,Tryz.ntmps131;go_wp2_with fail
 go_loopw [11] (λt wr=>∃ (k:Nat) (cur:Dy) (Ac:Option Addr) (lc cc:Nat),k<=n/\t=.int .i64 k/\cur=Bd d0 (L.take k)/\cur.Ok/\DyR w (.agg #[.bool cur.neg,.slice Ac lc cc,.int .i64 cur.e]) cur.raw /\
  Blk wr (w.heap.size+1) (.bool cur.neg) (.slice Ac lc cc) (.int .i64 cur.e)/\Blk wr w.heap.size (.bool false) (.slice none 0 0) (.int .i64 0)/\Kept w wr) (λt _=>(n-intOf t).toNat)
 case atStart =>
  refine ⟨0,d0,A1,l1,c1,Nat.zero_le _,rfl,rfl,HO.o,HR.o,?_,Bl (El w) _,(Ab _ _).trans (Ab _ _)⟩;rw [<-G1.o,<-G2.o];exact Em _ _ _ _ _
 case round =>
  obtain ⟨k,cur,Ac,lc,cc,hk,rfl,hcur,hok,hRc,hB1,hB0,hK⟩:=hrel;have K:=Ad hK;have HB1:=Ad hB1;have HB0:=Ad hB0;have HC:=Ad hcur;have HRC:=Ad hRc;have HOK:=Ad hok;clear hK hcur hRc hok;by_cases hlt:k<n
  ·obtain ⟨d,hdk⟩:∃ d,L[k]?=some d:=⟨_,Cd (by have:=HN.out;omega)⟩;obtain ⟨s',p0,p1,p2,hRd⟩:=(HD.out k d hdk);obtain ⟨A3,l3,c3,es,-,-,-,-⟩:=hRd.shape;injection es with es;injection es with es
   simp only [List.cons.injEq,and_true] at es;obtain rfl:=es.2.1;clear es;have hokd:=HL.o d (Dc hdk);have hnext:Bd d0 (L.take (k+1))=if 0<Dh d.q cur.q then d else cur:=by
    rw [List.take_succ_eq_append_getElem (by have:=HN.o;omega)];have:L[k]'(by have:=HN.o;omega)=d:=by
     rw [Cd (by have:=HN.o;omega)] at hdk;exact Option.some.inj hdk
    rw [this,Um,<-HC.o]
   have hcmp:=λw1 (q:Kept w w1)=>N5 (hRd.kept q) (HRC.o.kept q) hokd HOK.o
   have q0:=(K.o.cell (p:=⟨b,off+k*3,none⟩) lb).trans p0;have q1:=(K.o.cell (p:=⟨b,off+k*3+1,none⟩) lb).trans p1;have q2:=(K.o.cell (p:=⟨b,off+k*3+2,none⟩) lb).trans p2;have HCM:=Ad hcmp;have HRD:=Ad hRd;have HOD:=Ad hokd;have HNX:=Ad hnext;clear hnext hcmp hRd hokd hdk p0 p1 p2 h0 h1 h2;obtain ⟨lb1,r0,r1,r2,g0,g1,g2⟩:=hB1.facts;clear hB1 hB0;generalize hcc:Dh d.q cur.q=cmp at *;clear hcc;obtain ⟨nd,hnd⟩:∃ x,x=d.neg:=⟨_,rfl⟩;obtain ⟨ed,hed⟩:∃ x,x=d.e:=⟨_,rfl⟩;obtain ⟨nc,hnc⟩:∃ x,x=cur.neg:=⟨_,rfl⟩;obtain ⟨ec,hec⟩:∃ x,x=cur.e:=⟨_,rfl⟩;rw [<-hnd] at q0 HCM HRD;rw [<-hed] at q2 HCM HRD;rw [<-hnc] at r0 HCM HRC HB1
   rw [<-hec] at r2 HCM HRC HB1;have X1:=Ad hnd;have X2:=Ad hed;have X3:=Ad hnc;have X4:=Ad hec;clear hnd hed hnc hec;by_cases hc:0<cmp
   ·have hd':decide (0<cmp)=true:=by simp [hc]
    have hnx:=HNX.o;rw [Ak hc] at hnx;clear hc HNX;have HNX:=Ad hnx;clear hnx;go_wp2_with fail;refine (HCM.o _ (K.o.trans (Ab _ _))).mono ?_;rintro e w2 ⟨rfl,q⟩;have hx:=(Bz wr (.bool nd) (.slice A3 l3 c3) (.int .i64 ed)).kept q;have hb1:=HB1.o.kept ((Ab _ _).trans q);have hb0:=HB0.o.kept ((Ab _ _).trans q);replace K:=Ad (K.o.trans ((Ab _ _).trans q));clear q lb1 r0 r1 r2 g0 g1 g2;obtain ⟨_,t0,t1,t2,-⟩:=hx.facts;obtain ⟨lb1,r0,r1,r2,g0,g1,g2⟩:=hb1.facts;have HX1:=Ad hb1;have HX0:=Ad hb0;clear hx hb1 hb0;simp only [];go_wp2_with fail;go_roundw
    case rel =>
     refine ⟨k+1,d,A3,l3,c3,by omega,by go_num,HNX.o.symm,HOD.o,?_,?_,HX0.o.laid_other (by omega) _ _ _,Au K.o (by omega)⟩
     ·rw [<-X1.o,<-X2.o];exact HRD.o
     ·rw [<-X1.o,<-X2.o];exact HX1.o.laid _ _ _
    case measure=>simp [intOf];omega
   ·have hd':decide (0<cmp)=false:=by simp [hc]
    have hnx:=HNX.o;rw [Af hc] at hnx;clear hc HNX;have HNX:=Ad hnx;clear hnx;go_wp2_with fail;refine (HCM.o _ (K.o.trans (Ab _ _))).mono ?_;rintro e w2 ⟨rfl,q⟩;have hx:=(Bz wr (.bool nd) (.slice A3 l3 c3) (.int .i64 ed)).kept q;have hb1:=HB1.o.kept ((Ab _ _).trans q);have hb0:=HB0.o.kept ((Ab _ _).trans q);replace K:=Ad (K.o.trans ((Ab _ _).trans q));clear q lb1 r0 r1 r2 g0 g1 g2;obtain ⟨_,t0,t1,t2,-⟩:=hx.facts;obtain ⟨lb1,r0,r1,r2,g0,g1,g2⟩:=hb1.facts;have HX1:=Ad hb1;have HX0:=Ad hb0;clear hx hb1 hb0;simp only [];go_wp2_with fail;go_roundw
    case rel =>
     refine ⟨k+1,cur,Ac,lc,cc,by omega,by go_num,HNX.o.symm,HOK.o,?_,?_,HX0.o,K.o⟩
     ·rw [<-X3.o,<-X4.o];exact HRC.o
     ·rw [<-X3.o,<-X4.o];exact HX1.o
    case measure=>simp [intOf];omega
  ·obtain rfl:k=n:=by omega
   have hfin:Bd d0 L=cur:=by rw [HC.o,Fq (by have:=HN.o;omega)]
   obtain ⟨_,r0,r1,r2,-⟩:=hB1.facts;obtain ⟨_,c0,c1',c2,f0,f1,f2⟩:=hB0.facts;have HF:=Ad hfin;obtain ⟨lim,xa,xb⟩:=eK HRC.o;have LIM:=Ad lim;have BX:=Ad (And.intro xa xb);clear hfin hB1 hB0 lim xa xb;go_wp2_with fail;refine Ct (HB0.o.laid _ _ _) rfl rfl rfl ⟨Au K.o (Aq _),_,rfl,?_⟩;rw [HF.o];exact ((LIM.o.kept K.o).dyW HB0.o (Ah _) (Ag _ _ _) (Aj _)).dyR (r:=cur.raw) BX.o.1 BX.o.2
def laidI (w:World) (b2 b3:Nat) (x y z x' y' z' q:Value) (o:Obj):World:=((ivW w b2 x y z x' y' z').setCell ⟨b3,0,none⟩ q).alloc o
theorem Jk {a b c a' b' c' q0:Value}(h0:BlkI w b2 a b c a' b' c')(h1:w.heap[b3]?=some (.cells #[q0] T' (0,0)))(hne:¬b2=b3) :
 BlkI (laidI w b2 b3 x y z x' y' z' q o) b2 x y z x' y' z'/\(laidI w b2 b3 x y z x' y' z' q o).cell? ⟨b3,0,none⟩=some q:=by
 have l2:b2<w.heap.size:=(Bi h0).1;have l3:b3<w.heap.size:=(Bi h1).1;constructor
 ·unfold BlkI laidI;rw [Below.heap_alloc _ _ _ (by simp [World.setCell,ivW,l2])];exact Bh (h0.laid _ _ _ _ _ _) hne _
 ·have g1:(laidI w b2 b3 x y z x' y' z' q o).heap[b3]?=some (.cells #[q] T' (0,0)):=by
   unfold laidI;rw [Below.heap_alloc _ _ _ (by simp [World.setCell,ivW,l3])];have h2:(ivW w b2 x y z x' y' z').heap[b3]?=some (.cells #[q0] T' (0,0)):=by rw [F8 _ _ _ _ _ _ _ _ _ (λh=>hne h.symm)];exact h1
   exact Bw h2 _
  exact Ae g1 0 _ rfl
theorem Kr (h:Kept w0 w)(h2:w0.heap.size<=b2)(h3:w0.heap.size<=b3):Kept w0 (laidI w b2 b3 x y z x' y' z' q o) :=
 ((Az h h2).setCell (p:=⟨b3,0,none⟩) h3 q).alloc (by simpa [World.setCell,ivW] using h.size) o
theorem DyR.laidI {l:Nat}{e q0:Int}(h:DyR w v r)(hb:BlkI w b2 (.bool n) (.slice A l c) (.int .i64 e) (.bool n') (.slice A' l' c') (.int .i64 e'))
 (h1:w.heap[b3]?=some (.cells #[.int .i64 q0] T' (0,0))) (hne:¬b2=b3) (x y z x' y' z' q:Value) (o:Obj):DyR (Go.Proofs.YtabjjdicffcolaaGreatDoor.laidI w b2 b3 x y z x' y' z' q o) v r:=by
 obtain ⟨s,rfl,hs,e1,e2⟩:=h;have hs2:=hs.ivW hb x y z x' y' z';have h2:(Go.Proofs.YtabjjdicffcolaaGreatDoor.ivW w b2 x y z x' y' z').cell? ⟨b3,0,none⟩=some (.int .i64 q0):=by
  have h2:(Go.Proofs.YtabjjdicffcolaaGreatDoor.ivW w b2 x y z x' y' z').heap[b3]?=some (.cells #[.int .i64 q0] T' (0,0)):=by rw [F8 _ _ _ _ _ _ _ _ _ (λh=>hne h.symm)];exact h1
  exact Ae h2 0 _ rfl
 have hs3:=hs2.setCell h2 (Aj _) q;exact ⟨s,rfl,hs3.kept (Ab _ _),e1,e2⟩
theorem Le (b2 b3:Nat)(w:World)(k:Int)(x y z x' y' z' q:Value)
 (h0:BlkI w b2 x y z x' y' z') (h1:w.heap[b3]?=some (.cells #[q] 3 (0,0))) (hne:¬b2=b3) :
 CallsD Tryz.prog 172 #[.pointer (some ⟨b2,0,none⟩),.pointer (some ⟨b3,0,none⟩)] (.panicking (By 166 k)) w λe u' w' =>
  e = .returned (.tuple #[]) ∧ u' = .panicking [{ v := .iface 166 (.agg #[.int .i64 k]), recovered := true }] ∧
    w'=(laidI w b2 b3 (.bool false) (.slice none 0 0) (.int .i64 0) (.bool false) (.slice none 0 0) (.int .i64 0) (.int .i64 k) (.cells #[.int .i64 k] 166)).drew:=by
 have ha:=Si k;have l2:b2<w.heap.size:=(Bi h0).1;have l3:b3<w.heap.size:=(Bi h1).1;have n2:¬b2=w.heap.size:=by omega
 have n3:¬b3=w.heap.size:=by omega
 have n2':¬w.heap.size=b2:=by omega
 have n3':¬w.heap.size=b3:=by omega
 have hne':¬b3=b2:=λh=>hne h.symm
 obtain ⟨-,c0,c1,c2,c3,c4,c5⟩:=h0.facts;obtain ⟨f0,f1,f2,f3,f4,f5⟩:=h0.free;have c30:=Ae h1 0 q rfl;have f30:=Aw h1 0;refine callsD_of_wpS Tryz.func172 rfl λc₀ cs hu=>?_
 simp only [Tryz.ntmps172,List.size_toArray,List.length_cons,List.length_nil,Nat.reduceAdd,Nat.reduceSub,Array.replicate_succ,
  Array.replicate_zero,List.push_toArray,List.append_toArray,List.nil_append,List.cons_append]
 refine Fb (v:=.iface 166 (.agg #[.int .i64 k])) (cs':={ c₀ with mode:=.panicking [{ v:=.iface 166 (.agg #[.int .i64 k]),recovered:=true }] }::cs) (w':=w) rfl ?_ ?_ ?_
 ·simp [go_sem]
 ·rw [recoverD,hu];exact ⟨rfl,rfl⟩
 go_wp2_with fail;go_region
 all_goals exact ⟨rfl,_,rfl,_,results_none rfl _ _ _,rfl,rfl,rfl⟩
theorem Zs (b2 b3:Nat)(w:World) :
 CallsD Tryz.prog 172 #[.pointer (some ⟨b2,0,none⟩),.pointer (some ⟨b3,0,none⟩)] .returning w λe u' w' =>
  e=.returned (.tuple #[])/\u'=.returning/\w'=w.alloc (.cells #[.int .i64 0] 166):=by
 have ha:=Ta;refine callsD_of_wpS Tryz.func172 rfl λc₀ cs hu=>?_
 simp only [Tryz.ntmps172,List.size_toArray,List.length_cons,List.length_nil,Nat.reduceAdd,Nat.reduceSub,Array.replicate_succ,
  Array.replicate_zero,List.push_toArray,List.append_toArray,List.nil_append,List.cons_append]
 refine Fb (v:=.nilIface) (cs':=c₀::cs) (w':=w) rfl ?_ ?_ ?_
 ·simp [go_sem]
 ·rw [recoverD,hu];exact ⟨rfl,rfl⟩
 go_wp2_with fail;exact ⟨rfl,.returning,by rw [<-hu],_,results_none rfl _ _ _,rfl,rfl,rfl⟩
section
variable {P:Program} {ops:Array Oper} {Q:Exit->Act->World->Prop}
theorem gR {m:Nat}{V:Nat->Value->World->Prop}{a0:Act}{W:World}
 (hsz:m<=ops.size) (hap:Cg ops m=true) (hin:Dv ops m a0.tmps.size=true) (hbk:Er .any ops=true)
 (hmono:∀ i v w w',Kept w w'->V i v w->V i v w')
 (hstep:∀ i o,i<m->ops[i]?=some o->∀ a w,Finds .any ops m V a0 W i a w->Bo P ops Q V i o a w)
 (hend:∀ u w,Kept W w->(∀ i,i<m->V i (u i) w)->wpOps P ops Q (List.range' m (ops.size-m)) (Bb ops (λ_=>true) u m a0) w) :
 ∀ (k i:Nat) (u:Nat->Value) (w:World),i+k=m->Kept W w->(∀ j,j<i->V j (u j) w)->wpOps P ops Q (List.range' i (ops.size-i)) (Bb ops (λj=>decide (j<i)) u m a0) w:=by
 intro k
 induction k with
 | zero =>
   intro i u w hi hk hu;obtain rfl:i=m:=by omega
   have e:Bb ops (λj=>decide (j<i)) u i a0=Bb ops (λ_=>true) u i a0:=I4 i (λj hj=>⟨by simp [hj],rfl⟩);rw [e];exact hend u w hk hu
 | succ k ih =>
   intro i u w hi hk hu;have him:i<m:=by omega
   have his:i<ops.size:=by omega
   obtain ⟨r,hr⟩:∃ r,ops.size-i=r+1:=⟨ops.size-i-1,by omega⟩;have hr':ops.size-(i+1)=r:=by omega
   rw [hr,List.range'_succ];have hoi:=Array.getElem?_eq_getElem his;have hback:∀ x y,Bu .any ops x y=true->y<x:=by
    intro x y hxy;unfold Bu at hxy;by_cases hx:x<ops.size
    ·have h1:=De hbk x hx;rw [Array.getElem?_eq_getElem hx] at h1 hxy;simp only [Option.map_some,Option.getD_some,Array.all_eq_true',Array.any_eq_true'] at h1 hxy;obtain ⟨e,he,hb⟩:=hxy;simp only [Bool.and_eq_true,beq_iff_eq] at hb;have:=h1 e he;rw [hb.1,hb.2] at this;simpa using this
    ·rw [Array.getElem?_eq_none (by omega)] at hxy;simp at hxy
   have hF:Finds .any ops m V a0 W i (Bb ops (λj=>decide (j<i)) u m a0) w:=by
    refine ⟨hk,Lo m,λj t hw hs=>?_,λt hu0=>?_⟩
    ·have hji:=hback i j hw;have hjm:j<m:=by omega
     have htn:t<a0.tmps.size:=by
      have:=De hin j hjm;rw [hs] at this;simpa using this
     rw [Id (i:=j) htn (by simp [hji]) hs m hjm (λj' hj' hne=>?_)]
     ·exact hu j hji
     ·have h1:=De (De hap j hjm) j' hj';rw [hs] at h1;simp only [Bool.or_eq_true,beq_iff_eq,bne_iff_ne] at h1;rcases h1 with (h1 | h1) | h1
      ·exact absurd h1.symm hne
      ·cases h1
      ·exact λh=>h1 h.symm
    ·refine Ic m (fun j hj hjl hs=>?_);have h1:=De hu0 j hj;rw [hs] at h1;simp only [bne_self_eq_false,Bool.false_or,Bool.or_eq_true,beq_iff_eq] at h1;simp only [decide_eq_true_eq] at hjl;rcases h1 with h1 | h1
     ·omega
     ·have:=hback j i h1;omega
   have hs:=hstep i ops[i] him hoi _ w hF;unfold Bo at hs;have hso:(ops[i]).dst=Ap ops i:=by unfold Ap;rw [hoi];rfl
   have hput:∀ v,(Bb ops (λj=>decide (j<i)) u m a0).put (ops[i]).dst v=Bb ops (λj=>decide (j<i+1)) (Fg u i v) m a0:=by
    intro v;rw [hso,U5 (S:=λj=>decide (j<i)) (by simp) m him (λj hj hne=>?_)]
    ·refine I4 m (fun j _=>⟨?_,rfl⟩);unfold Fg;by_cases hj:j=i
     ·rw [Ak hj];simp;omega
     ·rw [Af hj];by_cases h2:j<i
      ·simp [h2];omega
      ·simp [h2];omega
    ·have h1:=De (De hap i him) j hj;simp only [Bool.or_eq_true,beq_iff_eq,bne_iff_ne] at h1;rcases h1 with (h1 | h1) | h1
     ·exact absurd h1.symm hne
     ·exact .inl h1
     ·exact .inr h1
   have hnext:∀ v w',Kept w w'->V i v w'->wpOps P ops Q (List.range' (i+1) r) ((Bb ops (λj=>decide (j<i)) u m a0).put (ops[i]).dst v) w':=by
    intro v w' hk' hv;rw [hput];have:=ih (i+1) (Fg u i v) w' (by omega) (hk.trans hk') (λj hj=>by
     unfold Fg;by_cases hji:j=i
     ·subst hji;rw [Ak rfl];exact hv
     ·rw [Af hji];exact hmono j _ _ _ hk' (hu j (by omega)))
    rw [hr'] at this;exact this
   unfold wpOps;simp only [hoi];by_cases hw:Region.wanted ops[i] (yielded ops (Bb ops (λj=>decide (j<i)) u m a0).tmps)=true
   ·rw [Ak hw] at hs ⊢;refine .inl (Oper.wp_mono (λa' w' h=>?_) hs);obtain ⟨v,rfl,hk',hv⟩:=h;exact hnext v w' hk' hv
   ·rw [Af hw] at hs ⊢;exact hnext undef w (Below.refl _ _) hs
theorem Sl {id m:Nat}{V:Nat->Value->World->Prop}{a0:Act}{W:World}
 (hsz:m<=ops.size) (hap:Cg ops m=true) (hin:Dv ops m a0.tmps.size=true) (hbk:Er .any ops=true)
 (hmono:∀ i v w w',Kept w w'->V i v w->V i v w')
 (hstep:∀ i o,i<m->ops[i]?=some o->∀ a w,Finds .any ops m V a0 W i a w->Bo P ops Q V i o a w)
 (hend:∀ u w,Kept W w->(∀ i,i<m->V i (u i) w)->wpOps P ops Q (List.range' m (ops.size-m)) (Bb ops (λ_=>true) u m a0) w) :
 (Code.region id ops false).wp P Q a0 W:=by
 refine wp_region ?_;rw [List.range_eq_range'];have h:=gR hsz hap hin hbk hmono hstep hend m 0 (λ_=>undef) W (by omega) (Below.refl _ _) (λj hj=>absurd hj (Nat.not_lt_zero _));have e:∀ n,Bb ops (λj=>decide (j<0)) (λ_=>undef) n a0=a0:=by
  intro n
  induction n with
  | zero=>rfl
  | succ n ih=>unfold Bb;rw [Af (by simp),ih]
 rw [e m,Nat.sub_zero] at h;exact h
theorem dE {id m:Nat}{V:Nat->Value->World->Prop}{a0:Act}{W:World}
 (hsz:m=ops.size) (hap:Cg ops m=true) (hin:Dv ops m a0.tmps.size=true) (hbk:Er .any ops=true)
 (hmono:∀ i v w w',Kept w w'->V i v w->V i v w')
 (hstep:∀ i o,i<m->ops[i]?=some o->∀ a w,Finds .any ops m V a0 W i a w->Bo P ops Q V i o a w)
 (hend:∀ u w,Kept W w->(∀ i,i<m->V i (u i) w)->Q .normal (Bb ops (λ_=>true) u m a0) w) :
 (Code.region id ops false).wp P Q a0 W:=by
 refine Sl (by omega) hap hin hbk hmono hstep (λu w k hu=>?_);have:ops.size-m=0:=by omega
 rw [this];exact hend u w k hu
theorem Sp {i:Nat}{o:Oper}{a:Act}{w:World}{rest:List Nat}(ho:ops[i]?=some o)(hg:o.guard=none)(h:o.wp P a w (λa w=>wpOps P ops Q rest a w) Q):wpOps P ops Q (i::rest) a w:=by
 unfold wpOps;simp only [ho];have:Region.wanted o (yielded ops a.tmps)=true:=by simp [Region.wanted,hg]
 rw [Ak this];exact .inl h
theorem aX {id m:Nat}{V:Nat->Value->World->Prop}{a0:Act}{W:World}{o:Oper}
 (hsz:m+1=ops.size) (ho:ops[m]?=some o) (hg:o.guard=none) (hap:Cg ops m=true) (hin:Dv ops m a0.tmps.size=true) (hbk:Er .any ops=true)
 (hmono:∀ i v w w',Kept w w'->V i v w->V i v w')
 (hstep:∀ i o,i<m->ops[i]?=some o->∀ a w,Finds .any ops m V a0 W i a w->Bo P ops Q V i o a w)
 (hend:∀ u w,Kept W w->(∀ i,i<m->V i (u i) w)->o.wp P (Bb ops (λ_=>true) u m a0) w (Q .normal) Q) :
 (Code.region id ops false).wp P Q a0 W:=by
 refine Sl (by omega) hap hin hbk hmono hstep (λu w k hu=>?_);have:ops.size-m=0+1:=by omega
 rw [this,List.range'_succ];exact Sp ho hg (hend u w k hu)
theorem aY {id m:Nat}{V:Nat->Value->World->Prop}{a0:Act}{W:World}{o o':Oper}
 (hsz:m+2=ops.size) (ho:ops[m]?=some o) (hg:o.guard=none) (ho':ops[m+1]?=some o') (hg':o'.guard=none) (hap:Cg ops m=true) (hin:Dv ops m a0.tmps.size=true) (hbk:Er .any ops=true)
 (hmono:∀ i v w w',Kept w w'->V i v w->V i v w')
 (hstep:∀ i o,i<m->ops[i]?=some o->∀ a w,Finds .any ops m V a0 W i a w->Bo P ops Q V i o a w)
 (hend:∀ u w,Kept W w->(∀ i,i<m->V i (u i) w)->o.wp P (Bb ops (λ_=>true) u m a0) w (λa w=>o'.wp P a w (Q .normal) Q) Q) :
 (Code.region id ops false).wp P Q a0 W:=by
 refine Sl (by omega) hap hin hbk hmono hstep (λu w k hu=>?_);have:ops.size-m=1+1:=by omega
 rw [this,List.range'_succ];refine Sp ho hg (Oper.wp_mono (λa w h=>?_) (hend u w k hu));rw [List.range'_succ];exact Sp ho' hg' h
theorem rS {id:Nat}{a0:Act}{W:World}(m:Nat)(l:List (Value->World->Prop))(hs:J8 P .any ops Q m (VL l) a0 W 0 m ops.toList)(he:∀ u w,Kept W w->(∀ i,i<m->VL l i (u i) w)->Q .normal (Bb ops (λ_=>true) u m a0) w)(hM:Nonempty (Ld l):=by infer_instance)
 (hz:m=ops.size:=by exact rfl) (ha:Cg ops m=true:=by kernel_rfl) (hi:Dv ops m a0.tmps.size=true:=by kernel_rfl) (hb:Er .any ops=true:=by kernel_rfl):(Code.region id ops false).wp P Q a0 W :=
 dE hz ha hi hb (Ke l (Gy hM)) (Mo hs) he
theorem qu {id:Nat}{a0:Act}{W:World}{o:Oper}(m:Nat)(l:List (Value->World->Prop))(hs:J8 P .any ops Q m (VL l) a0 W 0 m ops.toList)(he:∀ u w,Kept W w->(∀ i,i<m->VL l i (u i) w)->o.wp P (Bb ops (λ_=>true) u m a0) w (Q .normal) Q)(hM:Nonempty (Ld l):=by infer_instance)
 (hz:m+1=ops.size:=by exact rfl) (ho:ops[m]?=some o:=by exact rfl) (hg:o.guard=none:=by exact rfl) (ha:Cg ops m=true:=by kernel_rfl) (hi:Dv ops m a0.tmps.size=true:=by kernel_rfl)
 (hb:Er .any ops=true:=by kernel_rfl):(Code.region id ops false).wp P Q a0 W :=
 aX hz ho hg ha hi hb (Ke l (Gy hM)) (Mo hs) he
theorem oN {id:Nat}{a0:Act}{W:World}{o o':Oper}(m:Nat)(l:List (Value->World->Prop))(hs:J8 P .any ops Q m (VL l) a0 W 0 m ops.toList)(he:∀ u w,Kept W w->(∀ i,i<m->VL l i (u i) w)->o.wp P (Bb ops (λ_=>true) u m a0) w (λa w=>o'.wp P a w (Q .normal) Q) Q)(hM:Nonempty (Ld l):=by infer_instance)
 (hz:m+2=ops.size:=by exact rfl) (ho:ops[m]?=some o:=by exact rfl) (hg:o.guard=none:=by exact rfl) (ho':ops[m+1]?=some o':=by exact rfl) (hg':o'.guard=none:=by exact rfl) (ha:Cg ops m=true:=by kernel_rfl) (hi:Dv ops m a0.tmps.size=true:=by kernel_rfl)
 (hb:Er .any ops=true:=by kernel_rfl):(Code.region id ops false).wp P Q a0 W :=
 aY hz ho hg ho' hg' ha hi hb (Ke l (Gy hM)) (Mo hs) he
end
theorem Lim.grown (h:Lim w v xs)(hg:w.grownBy w' row)(hN:∀ g,row=some g->Ws w g):Lim w' v xs:=by
 obtain ⟨hs,A,c,rfl,hc,hA⟩:=h;refine ⟨hs,A,c,rfl,hc,λh0=>?_⟩;obtain ⟨b,off,rfl,hb,hd⟩:=hA h0;refine ⟨b,off,rfl,Dn hb hg.size,λi hi=>?_⟩;refine hg.cell (hd i hi) ?_;intro he;obtain ⟨cur,e,h1,h2⟩:=hN b he.symm;have h3:=hd i hi;simp only [World.cell?,h1] at h3;have h4:cur[off+i]?=some (.int .u64 (Ba xs i)):=by simpa using h3
 exact h2 _ (Array.mem_toList_iff.2 (Array.mem_of_getElem? h4)) _ rfl
theorem DyR.grown (h:DyR w v r)(hg:w.grownBy w' row)(hN:∀ g,row=some g->Ws w g):DyR w' v r:=by
 obtain ⟨s,rfl,hs,h1,h2⟩:=h;exact ⟨s,rfl,hs.grown hg hN,h1,h2⟩
theorem rv:(Tryz.prog.info? 28).map (λi=>(i.zero,i.size,i.bytes))=some (some (.agg #[.bool false,.slice none 0 0,.int .i64 0]),3,40):=by kernel_rfl
structure OwnS (w:World) (base:Nat) (v:Value) (l:List Dy) (xs:List Value):Prop where
 row:w.ownsRow base 28 3 v l.length xs
 nl:∀ u∈xs,Bv u
 one:∀ u∈xs,u.oneCell'=true
 blk:∀ g,v.ownBlock=some g->Ws w g
 dys:∀ i d,l[i]?=some d->∃ s,xs[i*3]?=some (.bool d.neg)/\xs[i*3+1]?=some s/\xs[i*3+2]?=some (.int .i64 d.e)/\DyR w (.agg #[.bool d.neg,s,.int .i64 d.e]) d.raw
theorem OwnS.nil (w:World)(base:Nat):OwnS w base (.slice none 0 0) [] [] :=
 ⟨World.ownsRow_nil _ _ _ _,by simp,by simp,(by intro g h;simp [Value.ownBlock] at h),by simp⟩
theorem OwnS.kept {xs:List Value}(h:OwnS w base v l xs)(k:Kept w w'):OwnS w' base v l xs:=by
 obtain ⟨h1,h2,h2',h3,h4⟩:=h;refine ⟨⟨h1.1,?_⟩,h2,h2',?_,?_⟩
 ·rcases h1.2 with hn | ⟨g,cap,cur,rfl,hb,hg,rest⟩
  ·exact .inl hn
  ·exact .inr ⟨g,cap,cur,rfl,hb,(k.block g (Bi hg).1).trans hg,rest⟩
 ·intro g hg;have:=h3 g hg;obtain ⟨cur,e,q1,q2⟩:=this;exact ⟨cur,e,(k.block g (Bi q1).1).trans q1,q2⟩
 ·intro i d hi;obtain ⟨s,a,b,c,hd⟩:=h4 i d hi;exact ⟨s,a,b,c,hd.kept k⟩
theorem OwnS.dyS {xs:List Value}(h:OwnS w base v l xs):DyS w v l:=by
 obtain ⟨h1,h2,h2',h3,h4⟩:=h;have hc:=h1.2;rcases hc with ⟨rfl,h0⟩ | ⟨g,cap,cur,rfl,hb,hg,hn,-⟩
 ·obtain rfl:l=[]:=G9 h0;exact ⟨none,0,rfl,Aq _,λh=>absurd h (by simp)⟩
 ·refine ⟨_,cap,rfl,hn,fun _=>⟨g,0,rfl,fun i d hi=>?_⟩⟩;obtain ⟨s,a,b,c,hd⟩:=h4 i d hi;have cl:=h1.cells (g:=g) rfl;have ad:∀ j,(⟨g,0,none⟩:Addr).add j=⟨g,j,none⟩:=by intro j;unfold Addr.add;split<;>simp_all
  refine ⟨s,?_,?_,?_,hd⟩
  ·have:=cl _ _ a;rw [ad] at this;simpa using this
  ·have:=cl _ _ b;rw [ad] at this;simpa using this
  ·have:=cl _ _ c;rw [ad] at this;simpa using this
theorem OwnS.snoc {xs:List Value}{n g':Nat}(h:OwnS w base v l xs)
 (hd:DyR w (.agg #[.bool d.neg,.slice A n c,.int .i64 d.e]) d.raw)
 (hr:w'.ownsRow base 28 3 v' (l.length+1) (xs++[.bool d.neg,.slice A n c,.int .i64 d.e])) (hg:w.grownBy w' v.ownBlock) (hv':v'.ownBlock=some g') (hN:Ws w' g') :
 OwnS w' base v' (l++[d]) (xs++[.bool d.neg,.slice A n c,.int .i64 d.e]):=by
 obtain ⟨h1,h2,h2',h3,h4⟩:=h;refine ⟨by simpa using hr,?_,?_,?_,?_⟩
 ·intro u hu;rcases List.mem_append.1 hu with hu | hu
  ·exact h2 u hu
  ·simp at hu;rcases hu with rfl | rfl | rfl
   ·exact Ah _
   ·exact Ag _ _ _
   ·exact Aj _
 ·intro u hu;rcases List.mem_append.1 hu with hu | hu
  ·exact h2' u hu
  ·simp at hu;rcases hu with rfl | rfl | rfl<;>rfl
 ·intro g hg;rw [hv'] at hg;cases hg;exact hN
 ·intro i e hi;have hxl:=h1.1;by_cases hlt:i<l.length
  ·rw [Gf hlt] at hi;obtain ⟨s,a,b,c,hd'⟩:=h4 i e hi;have hh:=(Ed c).1;refine ⟨s,?_,?_,?_,hd'.grown hg h3⟩
   ·rw [Gf (by omega)];exact a
   ·rw [Gf (by omega)];exact b
   ·rw [Gf (by omega)];exact c
  ·rw [Gk (by omega)] at hi;obtain ⟨hz,he⟩:=Ed hi;simp at hz;have hi':i=l.length:=by omega
   subst hi';simp at he;subst he;refine ⟨.slice A n c,?_,?_,?_,hd.grown hg h3⟩
   ·rw [Gk (by omega),hxl,show l.length*3-l.length*3=0 by omega];rfl
   ·rw [Gk (by omega),hxl,show l.length*3+1-l.length*3=1 by omega];rfl
   ·rw [Gk (by omega),hxl,show l.length*3+2-l.length*3=2 by omega];rfl
theorem Fc {o:Oper}{a:Act}{K:Act->World->Prop}{Q:Exit->Act->World->Prop}(s x:Operand)
 (ho:o.op=.call { callee:=.builtin .append,args:=#[s,x],argTypes:=#[137,137] })
 {base:Nat} {v:Value} {l:List Dy} {xs:List Value} (hs:a.eval s=v) (hown:OwnS w base v l xs) {d:Dy} {A:Option Addr} {n c b:Nat}
 (hd:DyR w (.agg #[.bool d.neg,.slice A n c,.int .i64 d.e]) d.raw) (hb:Blk w b (.bool d.neg) (.slice A n c) (.int .i64 d.e)) (hx:a.eval x=.slice (some ⟨b,0,none⟩) 1 1)
 (hl:l.length<=1000) (hbase:base<=w.heap.size)
 (h:∀ v' w',OwnS w' base v' (l++[d]) (xs++[.bool d.neg,.slice A n c,.int .i64 d.e])->w.grownBy w' v.ownBlock->K (a.put o.dst v') w'):o.wp Tryz.prog a w K Q:=by
 obtain ⟨i0,hi,hz0,hz1,hz2⟩:=info_parts rv;obtain ⟨-,c0,c1,c2,-⟩:=hb.facts;have ad:∀ j,(⟨b,0,none⟩:Addr).add j=⟨b,j,none⟩:=by intro j;unfold Addr.add;split<;>simp_all
 refine Qa s x _ ho base 28 i0 (.agg #[.bool false,.slice none 0 0,.int .i64 0]) 3 40 Tryz.underlying137 hi hz0 hz1 hz2 rfl (by decide) v l.length xs hs hown.row _ 1 1 [.bool d.neg,.slice A n c,.int .i64 d.e] hx rfl ?_ ?_ (by unfold maxLen;omega) (by omega) hbase (by decide) hown.nl ?_ ?_ hown.blk ?_
 ·intro j u hu;rw [ad];rcases j with _ | _ | _ | j
  ·cases hu;exact c0
  ·cases hu;exact c1
  ·cases hu;exact c2
  ·simp at hu
 ·intro u hu;simp at hu;rcases hu with rfl | rfl | rfl<;>rfl
 ·intro u hu;simp at hu;rcases hu with rfl | rfl | rfl
  ·exact Ah _
  ·exact Ag _ _ _
  ·exact Aj _
 ·intro u hu;simp [Value.cells] at hu;rcases hu with rfl | rfl | rfl
  ·exact Ah _
  ·exact Ag _ _ _
  ·exact Aj _
 ·intro v' w' g' q1 q2 q3 q4;exact h v' w' (hown.snoc hd q1 q2 q3 q4) q2
theorem RetIE.good {o:Outc RawI}(h:RetIE o w e w'):J7 (λu w=>∃ d,u=.tuple #[d,.int .i64 o.k]/\IvR w d o.v) w e w':=by
 obtain ⟨k,v,he,hl⟩:=h;exact ⟨_,he,k,v,rfl,hl⟩
theorem RetI.good {a:RawI}(h:RetI a w e w'):J7 (λu w=>IvR w u a) w e w':=by
 obtain ⟨k,v,he,hl⟩:=h;exact ⟨v,he,k,hl⟩
section
variable {P:Program} {ops:Array Oper} {Q:Exit->Act->World->Prop} {i:Nat} {a:Act} {w:World} {V:Nat->Value->World->Prop} {o:Oper} {f:FuncId} {args:Array Value}
theorem sI {x:RawI}(hc:Calls P f args w (RetI x w))(hp:∀ v w',IvR w' v x->V i v w')(hw:Region.wanted o (yielded ops a.tmps)=true:=by simp [Region.wanted])(h:(execOp a.eval o).run P w=.ok (.enter f args) w:=by go_simp):Bo P ops Q V i o a w :=
 Ax hw h hc (λ_ _ h=>RetI.good h) hp
theorem sP {x:Outc RawI}(hc:Calls P f args w (RetIE x w))(hp:∀ v w',(∃ d,v=.tuple #[d,.int .i64 x.k]/\IvR w' d x.v)->V i v w')(hw:Region.wanted o (yielded ops a.tmps)=true:=by simp [Region.wanted])(h:(execOp a.eval o).run P w=.ok (.enter f args) w:=by go_simp):Bo P ops Q V i o a w :=
 Ax hw h hc (λ_ _ h=>RetIE.good h) hp
end
section
variable {P:Program} {ops:Array Oper} {Q:Exit->Act->World->Prop}
theorem kN {V V1:Nat->Value->World->Prop}{i:Nat}{o:Oper}{a:Act}{w:World}(h:Bo P ops Q V1 i o a w)(hi:∀ v w',V1 i v w'->V i v w'):Bo P ops Q V i o a w:=by
 unfold Bo at *;by_cases hw:Region.wanted o (yielded ops a.tmps)=true
 ·rw [Ak hw] at h ⊢;exact Oper.wp_mono (λa' w' ⟨v,h1,h2,h3⟩=>⟨v,h1,h2,hi v w' h3⟩) h
 ·rw [Af hw] at h ⊢;exact hi _ _ h
theorem J2 {V:Nat->Value->World->Prop}{i:Nat}{o:Oper}{a:Act}{w:World}{g t:Nat}{b v:Bool}(hg:o.guard=some (g,b))(hs:Ap ops g=some t)(sg:a.tmps.getD t undef=.bool v)(hb:(v==b)=false)(hv:V i undef w):Bo P ops Q V i o a w:=Jt ((Am hg hs sg).trans hb) hv
theorem Dz {V:Nat->Value->World->Prop}{i:Nat}{o:Oper}{a:Act}{w:World}{x:Value}{g t:Nat}{b v:Bool}(hg:o.guard=some (g,b))(hs:Ap ops g=some t)(sg:a.tmps.getD t undef=.bool v)(hb:(v==b)=true)(hv:V i x w:=by exact rfl)(h:(execOp a.eval o).run P w=.ok (.value x) w:=by go_simp):Bo P ops Q V i o a w:=Bc ((Am hg hs sg).trans hb) h hv
instance iCond {C:Bool} {p:Value->World->Prop} [h:Nonempty (Lv p)]:Nonempty (Lv λv w=>(C=true->p v w)/\(C=false->v=undef)):=⟨λv w w' k q=>⟨λe=>Gy h v w w' k (q.1 e),q.2⟩⟩
theorem nW {C:Bool}{q:Prop}(h:C=false):(C=true->q)/\(C=false->undef=undef):=⟨λe=>absurd (h.symm.trans e) (by decide),λ_=>rfl⟩
theorem J0 {V:Nat->Value->World->Prop}{i:Nat}{o:Oper}{a:Act}{w:World}{C:Bool}(hC:C=true)(p:Value->World->Prop)(h:Bo P ops Q (λ_=>p) i o a w)(e:∀ v w',((C=true->p v w')->(C=false->v=undef)->V i v w'):=by exact λ_ _ a b=>⟨a,b⟩):Bo P ops Q V i o a w :=
 kN h λv w' q=>e v w' (λ_=>q) (λn=>absurd (hC.symm.trans n) (by decide))
end
theorem oT (h:i<1000000):wrap64 ((i:Int)+1)=((i+1:Nat):Int):=by unfold wrap64;omega
theorem pS {q:Nat}(h:i<q):((q:Int)-((i+1:Nat):Int)).toNat<((q:Int)-(i:Int)).toNat:=by omega
theorem X9 {o:Nat}(h:w.cell? ⟨b,o,none⟩=some v)(k:Kept w w'):w'.cell? ⟨b,o,none⟩=some v:=(k.cell (p:=⟨b,o,none⟩) (Av h)).trans h
theorem f7 (hv:DyR w v r)(hu:DyR w u r)(hr:r.m.length<=1000000):Calls Tryz.prog 61 #[v,u] w (RetK (.bool true) w):=by
 obtain ⟨s,rfl,hl,-,-⟩:=hv;obtain ⟨s',rfl,hl',-,-⟩:=hu;obtain ⟨-,A,c,rfl,-,hA⟩:=hl;obtain ⟨-,A',c',rfl,-,hA'⟩:=hl';generalize r.neg=n1,r.e=e1 at *;obtain ⟨W,hW,kW,B0,B1⟩:=T8 w (.bool n1) (.slice A r.m.length c) (.int .i64 e1) (.bool n1) (.slice A' r.m.length c') (.int .i64 e1);have HA:=Ad hA;have HA':=Ad hA';have HW:=Ad hW;have K:=Ad kW;have HB:=Ad B0;have HD:=Ad B1;have RN:=Ad hr;clear hA hA' hW kW B0 B1 hr;obtain ⟨-,c0,c1,c2,-⟩:=HB.o.facts;obtain ⟨-,d0,d1,d2,-⟩:=HD.o.facts;go_enter Tryz.func61,Tryz.ntmps61;go_upto_region 1 with fail;rw [<-HW.o];go_wp2_with fail
 go_loopw [5] (λvi wr=>∃ i:Nat,i<=r.m.length/\vi=.int .i64 i/\Kept W wr) (λvi _=>(r.m.length-intOf vi).toNat)
 case atStart=>exact ⟨0,Nat.zero_le _,rfl,Below.refl _ _⟩
 case round =>
  obtain ⟨i,hi,rfl,hkr⟩:=hrel;have KR:=Ad hkr;clear hkr c0 c1 c2 d0 d1 d2;obtain ⟨-,c0,c1,c2,-⟩:=(HB.o.kept KR.o).facts;obtain ⟨-,d0,d1,d2,-⟩:=(HD.o.kept KR.o).facts;by_cases hlt:i<r.m.length
  ·obtain ⟨b,off,rfl,-,hb⟩:=HA.out (by omega);obtain ⟨b',off',rfl,-,hb'⟩:=HA'.out (by omega);have x0:=X9 (hb i hlt) (K.out.trans KR.out);have x1:=X9 (hb' i hlt) (K.out.trans KR.out);obtain ⟨z,hz⟩:∃ z,z=Ba r.m i:=⟨_,rfl⟩;rw [←hz] at x0 x1;have X0:=Ad x0;have X1:=Ad x1;have BB:=Ad (HB.out.kept KR.out);have BD:=Ad (HD.out.kept KR.out);have HLT:=Ad hlt;clear x0 x1 hb hb' hz hlt;go_wp2_with fail
   refine Sv 11 ([(vP w.heap.size 1),(vE (.slice (some ⟨b,off,none⟩) r.m.length c)),(vE (.int .i64 (i:Int))),(vE (.pointer (some ⟨b,off+i,none⟩))),(vE (.int .u64 (z:Int))),(vP (w.heap.size+1) 1),(vE (.slice (some ⟨b',off',none⟩) r.m.length c')),(vE (.int .i64 (i:Int))),(vE (.pointer (some ⟨b',off'+i,none⟩))),(vE (.int .u64 (z:Int))),(vE (.bool false))])
    ⟨
     (gq 2),(Ie 0 34 λ_ k=>Ai BB.o k 1 _ rfl),(gq 5),(λaF wF F=>by have s35:=F.v 1 35;have s36:=F.v 2 36;exact sw (by (have h9:=HLT.o;go_simp)) rfl),(λaF wF F=>by have s37:=F.v 3 37;exact sw (by (have n0:=X9 X0.o F.kept;go_simp)) rfl),(gq 3),(Ie 5 39 λ_ k=>Ai BD.o k 1 _ rfl),(gq 5),(λaF wF F=>by have s40:=F.v 6 40;have s41:=F.v 7 41;exact sw (by (have h9:=HLT.o;go_simp)) rfl),(λaF wF F=>by have s42:=F.v 8 42;exact sw (by (have n0:=X9 X1.o F.kept;go_simp)) rfl),(Hz 4 38 9 43),
     trivial⟩ ?_
   intro u w6 q6 hu;simp only [Bb,Ap,Act.put,Ep,hv hu 0,hv hu 1,hv hu 2,hv hu 3,hv hu 4,hv hu 5,hv hu 6,hv hu 7,hv hu 8,hv hu 9,hv hu 10];clear hu;have K6:=Ad (KR.o.trans q6);clear q6;go_wp2_with fail;go_roundw
   case rel=>exact ⟨i+1,HLT.o,congrArg _ (oT (Dn HLT.o RN.o)),K6.o⟩
   case measure =>
    rw [oT (Dn HLT.o RN.o)];simp only [intOf];exact pS HLT.o
  ·obtain rfl:i=r.m.length:=by omega
   go_wp2_with fail;go_ret;exact ⟨rfl,K.o.trans KR.o⟩
theorem bj {a:RawI}(hv:IvR w v a)(hu:IvR w u a)(hl:a.lens 1000000):Calls Tryz.prog 28 #[v,u] w (RetK (.bool true) w):=by
 obtain ⟨A,l,c,A',l',c',rfl,h1,h2⟩:=Ar hv;obtain ⟨B,j,e,B',j',e',rfl,g1,g2⟩:=Ar hu;have q1:=λw1 (k:Kept w w1)=>f7 (h1.kept k) (g1.kept k) hl.1
 have q2:=λw1 (k:Kept w w1)=>f7 (h2.kept k) (g2.kept k) hl.2
 have Q1:=Ad q1;have Q2:=Ad q2;clear q1 q2 h1 h2 g1 g2 hv hu hl;generalize a.lo.neg=n1,a.lo.e=e1,a.hi.neg=n2,a.hi.e=e2 at *;obtain ⟨W,hW,kW,BI,BJ⟩:=X7 w (.bool n1) (.slice A l c) (.int .i64 e1) (.bool n2) (.slice A' l' c') (.int .i64 e2) (.bool n1) (.slice B j e) (.int .i64 e1) (.bool n2) (.slice B' j' e') (.int .i64 e2);have HW:=Ad hW;have K:=Ad kW;have HB:=Ad BI;have HD:=Ad BJ;clear hW kW BI BJ;go_enter Tryz.func28,Tryz.ntmps28;go_upto_region 1 with fail;rw [<-HW.o]
 refine rS 13 ([(vP w.heap.size 0),(vE (.agg #[.bool n1,.slice A l c,.int .i64 e1])),(vP (w.heap.size+1) 0),(vE (.agg #[.bool n1,.slice B j e,.int .i64 e1])),(vE (.bool true)),(vE (.bool true)),(vP w.heap.size 3),(vE (.agg #[.bool n2,.slice A' l' c',.int .i64 e2])),(vP (w.heap.size+1) 3),(vE (.agg #[.bool n2,.slice B' j' e',.int .i64 e2])),(vE (.bool true)),(vE (.bool true)),(vE (.bool true))])
  ⟨
   (gq 2),(λaF wF F=>by have s5:=F.v 0 5;have c0:=Ai HB.o F.kept 0 _ rfl;have c1:=Ai HB.o F.kept 1 _ rfl;have c2:=Ai HB.o F.kept 2 _ rfl;exact sv rfl),(gq 3),(λaF wF F=>by have s7:=F.v 2 7;have c0:=Ai HD.o F.kept 0 _ rfl;have c1:=Ai HD.o F.kept 1 _ rfl;have c2:=Ai HD.o F.kept 2 _ rfl;exact sv rfl),(λaF wF F=>by have s6:=F.v 1 6;have s8:=F.v 3 8;exact sK (Q1.o _ (K.o.trans F.kept)) λ_ _ h=>h),(gv 4 9),(λaF wF F=>by have s2:=F.q 2 (.pointer (some ⟨w.heap.size,0,none⟩));exact Dz rfl rfl (F.v 5 10) rfl),(λaF wF F=>by have s11:=F.v 6 11;have c0:=Ai HB.o F.kept 3 _ rfl;have c1:=Ai HB.o F.kept 4 _ rfl;have c2:=Ai HB.o F.kept 5 _ rfl;exact Dz rfl rfl (F.v 5 10) rfl),(λaF wF F=>by have s3:=F.q 3 (.pointer (some ⟨w.heap.size+1,0,none⟩));exact Dz rfl rfl (F.v 5 10) rfl),(λaF wF F=>by have s13:=F.v 8 13;have c0:=Ai HD.o F.kept 3 _ rfl;have c1:=Ai HD.o F.kept 4 _ rfl;have c2:=Ai HD.o F.kept 5 _ rfl;exact Dz rfl rfl (F.v 5 10) rfl),(λaF wF F=>by have s12:=F.v 7 12;have s14:=F.v 9 14;have sg:=F.v 5 10;exact Ax ((Am rfl rfl sg).trans rfl) (by go_simp) (Q2.o _ (K.o.trans F.kept)) (λ_ _ h=>RetK.good h) (λ_ _ h=>h)),(Hz 5 10 10 15),(gv 11 16),
   trivial⟩ ?_
 intro u w1 k1 hu;simp only [Bb,Ap,Act.put,Ep,hv hu 0,hv hu 1,hv hu 2,hv hu 3,hv hu 4,hv hu 5,hv hu 6,hv hu 7,hv hu 8,hv hu 9,hv hu 10,hv hu 11,hv hu 12];clear hu;have KF:=Ad (K.o.trans k1);clear k1;go_wp2_with fail;go_ret;exact ⟨rfl,KF.o⟩
theorem kF {b0 b1:Nat}{n:Int}{l:Nat}(hb:Blk w b0 (.bool d.neg) (.slice A l c) (.int .i64 d.e))(hd:Lim w (.slice A l c) (Al d.m))(c1:w.cell? ⟨b1,0,none⟩=some (.int .i64 n))
 (ok:d.Ok) (n1:-2097152<=n) (n2:n<=2097152) (hT:Tab w) :
 Calls Tryz.prog 210 #[.pointer (some ⟨b0,0,none⟩),.pointer (some ⟨b1,0,none⟩)] w (J6 129 (Hp d n).raw w):=by
 have hlen:=hd.len;have hdy:DyR w (.agg #[.bool d.neg,.slice A l c,.int .i64 d.e]) d.raw:=hd.dyR (r:=d.raw) (by show (-9223372036854775808:Int)<=d.e;have:=ok.lo;omega) (by show d.e<=9223372036854775807;have:=ok.hi;omega);have hm:=λw1 (k:Kept w w1)=>jK (hdy.kept k) ok
 have M:=Ad hm;have HB:=Ad hb;have HC:=Ad c1;have hl1:=Av c1;simp only at hl1;have e1:=ok.lo;have e2:=ok.hi;have hf:=λw1 (k:Kept w w1)=>fi (neg:=d.neg) (n:=d.m) (e:=d.e+n) (hd.kept k) (by have:=Eb ok;show (Al d.m).length<=_;have h2:(Al d.m).length<=64:=ok.len;omega) (by omega) (by omega) (hT.kept k)
 have F:=Ad hf;have hwr:IntKind.i64.wrap (d.e+n)=d.e+n:=by simp [IntKind.wrap_i64];omega
 unfold Hp;by_cases h0:d.m=0
 ·rw [Ak h0];have hl0:l=0:=by rw [hlen,h0,Be];rfl
  subst hl0;have HD:=Ad hd;clear hf hm hdy hb hd c1 hlen hT F hwr
  show Calls _ _ _ _ (J6 _ ⟨d.raw,0⟩ w)
  have RR:Hid (d.raw=⟨d.neg,Al d.m,d.e⟩):=rfl;rw [RR.o];clear RR ok h0;generalize d.neg=n1,d.e=e at *;generalize Al d.m=xs at *;obtain ⟨hlt0,a0,a1,a2,-⟩:=HB.o.facts;go_enter Tryz.func210,Tryz.ntmps210;go_wp2_with fail;refine (M.o _ (Ab _ _)).mono ?_;rintro _ w1 ⟨rfl,q⟩;simp only [];have KK:=Ad ((Ab _ _).trans q);have B2:=Ad ((Bz _ _ _ _).kept q);clear q a0 a1 a2;obtain ⟨-,a0,a1,a2,-⟩:=(HB.o.kept KK.o).facts;go_wp2_with fail;refine (I3 _ _ _).mono ?_;rintro ee w2 ⟨he,rfl⟩;obtain rfl:ee=.returned (.tuple #[]):=he;simp only [];obtain ⟨-,x0,x1,x2,f0,f1,f2⟩:=B2.o.facts
  go_wp2_with fail;exact Ct (B2.o.laid _ _ _) rfl rfl rfl ⟨Au KK.o (Aq _),.inl ⟨rfl,_,rfl,((HD.o.kept KK.o).dyW B2.o (Ah _) (Ag _ _ _) (Aj _)).dyR (r:=⟨n1,xs,e⟩) (by show (-9223372036854775808:Int)<=e;omega) (by show e<=9223372036854775807;omega)⟩⟩
 ·rw [Af h0,Af (by omega)];have hl0:((l:Int)==0)=false:=by
   have:=Br d.m h0;rw [Ek,hlen];omega
  have d1:decide (n<=2097152)=true:=by simp;omega
  have d2:decide (-2097152<=n)=true:=by simp;omega
  clear hf hm hdy hb hd c1 hlen hT ok h0;generalize Ck d.neg d.m (d.e+n)=o at *;generalize d.neg=n1,d.e=e at *;obtain ⟨hlt0,a0,a1,a2,-⟩:=HB.o.facts;have hc1:=HC.o;go_enter Tryz.func210,Tryz.ntmps210;go_wp2_with fail;refine (M.o _ (Ab _ _)).mono ?_;rintro _ w1 ⟨rfl,q⟩;simp only [];have KK:=Ad ((Ab _ _).trans q);have B2:=Ad ((Bz _ _ _ _).kept q);clear q a0 a1 a2 hc1;obtain ⟨-,a0,a1,a2,-⟩:=(HB.o.kept KK.o).facts;have hc1:=An KK.o HC.o;go_wp2_with fail;refine (I3 _ _ _).mono ?_;rintro ee w2 ⟨he,rfl⟩;obtain rfl:ee=.returned (.tuple #[]):=he
  simp only [];go_wp2_with fail;refine (I3 _ _ _).mono ?_;rintro ee w2 ⟨he,rfl⟩;obtain rfl:ee=.returned (.tuple #[]):=he;simp only [];go_wp2_with fail;refine (F.o _ KK.o).mono ?_;rintro ee w3 ⟨qk,⟨h0,u,rfl,hd⟩ | ⟨h0,rfl⟩⟩
  ·obtain ⟨A',l',c',rfl,-,hd,g1,g2⟩:=hd.shape;have b2:=B2.o.kept qk;obtain ⟨-,x0,x1,x2,f0,f1,f2⟩:=b2.facts;have HD:=Ad hd;have HB2:=Ad b2;clear hd b2 a0 a1 a2 hc1;simp only [];go_wp2_with fail;exact Ct (HB2.o.laid _ _ _) rfl rfl rfl ⟨Au (KK.o.trans qk) (Aq _),.inl ⟨h0,_,rfl,(HD.o.dyW HB2.o (Ah _) (Ag _ _ _) (Aj _)).dyR g1 g2⟩⟩
  ·exact ⟨rfl,KK.o.trans qk,.inr ⟨h0,rfl⟩⟩
theorem Ww (w:World)(o o':Obj)(x y z:Value):Blk (((w.alloc o).alloc o').alloc (.cells #[x,y,z] 28)) (w.heap.size+1+1) x y z:=by
 have:=Bz ((w.alloc o).alloc o') x y z;simp only [World.size_alloc] at this;exact this
theorem lI {n:Int}(hv:DyR w v d.raw)(ok:d.Ok)(n1:-2097152<=n)(n2:n<=2097152)(hT:Tab w) :
 Calls Tryz.prog 209 #[v,.int .i64 n] w (RetE (Hp d n).raw w):=by
 have hmf:=Hf;obtain ⟨A,l,c,rfl,-,hs,-,-⟩:=hv.shape;have hf:=λ(W:World) (k:Kept w W) (H:Nat) (c0:Blk W H (.bool d.neg) (.slice A l c) (.int .i64 d.e)) (c1:W.cell? ⟨H+1,0,none⟩=some (.int .i64 n)) =>
  cS (w:=W) (K:=210) (cap:=#[.pointer (some ⟨H,0,none⟩),.pointer (some ⟨H+1,0,none⟩)])
   (λW1 k1=>kF (c0.kept k1) (hs.kept (k.trans k1)) (An k1 c1) ok n1 n2 (hT.kept (k.trans k1))) (λh=>by have:=(Xm ok n).2 h;show ((Hp d n).v).raw=rz;rw [this,Ge]) (λ_=>rfl)
 have HF:=Ad hf;clear hf hv hs hT n1 n2
 show Calls _ _ #[.agg #[.bool d.neg,.slice A l c,.int .i64 d.e],_] _ _
 generalize (Hp d n).raw=o at *;generalize d.neg=n1,d.e=e at *;go_enter Tryz.func209,Tryz.ntmps209;go_wp2_with fail;refine (HF.o _ ?k _ ?c0 ?c1).mono ?m
 case k=>exact ((Ab _ _).trans (Ab _ _)).trans (Ab _ _)
 case c0=>exact ((Bz _ _ _ _).kept (Ab _ _)).kept (Ab _ _)
 case c1=>exact An (Ab _ _) (nj _ _ _ _)
 case m =>
  rintro e w1 ⟨qk,u,rfl,hd⟩;obtain ⟨A',l',c',rfl,-,hd,g1,g2⟩:=hd.shape;have b0:=(Ww _ _ _ _ _ _).kept qk;obtain ⟨_,c0,c1,c2,f0,f1,f2⟩:=b0.facts;have HD:=Ad hd;clear hd;simp only [];go_wp2_with fail;exact Fa (Blk.laid b0 _ _ _) rfl rfl rfl ⟨Au ((((Ab _ _).trans (Ab _ _)).trans (Ab _ _)).trans qk) (by omega),_,rfl,(HD.o.dyW b0 (Ah _) (Ag _ _ _) (Aj _)).dyR g1 g2⟩
theorem G5 (hv:DyR w v r):Calls Tryz.prog 203 #[v,.int .i64 k] w (RetD r w):=by
 obtain ⟨A,l,c,rfl,-,hs,g1,g2⟩:=hv.shape;obtain ⟨W,hW,kW,B0,BR⟩:=Mt w (.bool r.neg) (.slice A l c) (.int .i64 r.e);have HW:=Ad hW;have K:=Ad kW;have HS:=Ad hs;have HB:=Ad BR;obtain ⟨-,a0,a1,a2,-⟩:=B0.facts;obtain ⟨-,x0,x1,x2,f0,f1,f2⟩:=BR.facts;clear hW kW hs hv B0 BR;go_enter Tryz.func203,Tryz.ntmps203;go_upto_region 1 with fail;rw [<-HW.o];go_wp2_with fail;exact Ct (HB.o.laid _ _ _) rfl rfl rfl ⟨Au K.o (by omega),_,rfl,((HS.o.kept K.o).dyW HB.o (Ah _) (Ag _ _ _) (Aj _)).dyR g1 g2⟩
def Bj (d:Dy):Int:=bl d.m+d.e
def I7 (p:Nat) (up:Bool) (d:Dy):Dy:=(Dj d p up).v
theorem Pp (p:Nat)(up:Bool)(d:Dy):(I7 p up d).Ok:=(Ia d p up).1
theorem lB (hv:DyR w v d.raw)(ok:d.Ok):Calls Tryz.prog 207 #[v] w (RetK (.int .i64 (Bj d)) w):=by
 obtain ⟨A,l,c,rfl,-,hs,-,-⟩:=hv.shape;have hc:=λw1 (k:Kept w w1)=>Nk (hs.kept k) (by have:=ok.len;omega)
 have hb:=Dw d.m 64 ok.len;have e1:=ok.lo;have e2:=ok.hi;have hw:IntKind.i64.wrap ((bl d.m:Int)+d.e)=Bj d:=by unfold Bj;simp [IntKind.wrap_i64];omega
 have C:=Ad hc;have HX:=Ad hw;clear hc hs hv hw hb e1 e2
 show Calls _ _ #[.agg #[.bool d.neg,.slice A l c,.int .i64 d.e]] _ _
 generalize Bj d=t at *;generalize bl d.m=m at *;generalize d.neg=n1,d.e=e at *;go_enter Tryz.func207,Tryz.ntmps207;go_wp2_with fail
 refine Sv 7 ([(vP w.heap.size 1),(vE (.slice A l c)),(vE (.int .i64 m)),(vP w.heap.size 2),(vE (.int .i64 e)),(vE (.int .i64 t)),(vE (.int .i64 t))])
  ⟨
   (gq 1),(Ie 0 3 λ_ k=>Ai (Bz w _ _ _) k 1 _ rfl),(λaF wF F=>by have s4:=F.v 1 4;exact sQ (C.o _ ((Ab _ _).trans F.kept)) λ_ _ h=>h),(gq 1),(Ie 3 6 λ_ k=>Ai (Bz w _ _ _) k 2 _ rfl),(λaF wF F=>by have s5:=F.v 2 5;have s7:=F.v 4 7;exact sw (by (go_simp;exact HX.o)) rfl),(gv 5 8),
   trivial⟩ ?_
 intro u w1 k1 hu;simp only [Bb,Ap,Act.put,Ep,hv hu 0,hv hu 1,hv hu 2,hv hu 3,hv hu 4,hv hu 5,hv hu 6];clear hu;go_wp2_with fail;go_ret;exact ⟨rfl,(Ab _ _).trans k1⟩
end Go.Proofs.YtabjjdicffcolaaGreatDoor
