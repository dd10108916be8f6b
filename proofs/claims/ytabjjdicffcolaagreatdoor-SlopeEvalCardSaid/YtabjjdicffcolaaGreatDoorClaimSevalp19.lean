/- Words and contracts, part 19. -/
import Derived.Test.YtabjjdicffcolaaGreatDoorClaimSevalp18
set_option maxRecDepth 100000
set_option maxHeartbeats 0
namespace Go.Proofs.YtabjjdicffcolaaGreatDoor
open Go.Lib (hid)
open Go.RowKit
def BlkD (w:World) (b:Nat) (d:Dy):Prop:=∃ A l c,Blk w b (.bool d.neg) (.slice A l c) (.int .i64 d.e)∧DyR w (.agg #[.bool d.neg,.slice A l c,.int .i64 d.e]) d.raw
theorem BlkD.kept {w w':World}{b:Nat}{d:Dy}(h:BlkD w b d)(k:Kept w w'):BlkD w' b d:=by
 obtain ⟨A,l,c,h1,h2⟩:=h;exact ⟨A,l,c,h1.kept k,h2.kept k⟩
theorem Af9 {w:World}{s:Value}{d:Dy}(h:DyR w (.agg #[.bool d.neg,s,.int .i64 d.e]) d.raw) :
 DyS (w.alloc (.cells #[.bool d.neg,s,.int .i64 d.e] 28)) (.slice (some ⟨w.heap.size,0,none⟩) 1 1) [d]:=by
 refine ⟨_,1,rfl,Nat.le_refl _,fun _=>⟨_,_,rfl,fun i x hi=>?_⟩⟩;have:i=0:=by
  have:=(List.getElem?_eq_some_iff.1 hi).1;simp at this;exact this
 subst this;simp at hi;subst hi;obtain ⟨_,c0,c1,c2,_⟩:=(Bk w (.bool d.neg) s (.int .i64 d.e)).facts;exact ⟨s,c0,c1,c2,h.kept (Ad _ _)⟩
theorem Vr {w:World}{s:Value}{d:Dy}{n:Nat}(hn:w.heap.size=n)(h:DyR w (.agg #[.bool d.neg,s,.int .i64 d.e]) d.raw) :
 DyS (w.alloc (.cells #[.bool d.neg,s,.int .i64 d.e] 28)) (.slice (some ⟨n,0,none⟩) 1 1) [d]:=by
 subst hn;exact Af9 h
theorem Aiu (w:World):∃ W,W=w.alloc (.cells #[.bool false,.slice none 0 0,.int .i64 0] 28)∧Kept w W∧Blk W w.heap.size (.bool false) (.slice none 0 0) (.int .i64 0)∧W.heap.size=w.heap.size+1 :=
 ⟨_,rfl,Ad _ _,Dn w,by simp⟩
theorem Ac6 (d:Dy)(p:Nat)(up:Bool):(Dc d p up).raw.k≠0→(Dc d p up).raw.v=rz:=by
 intro h
 show ((Dc d p up).v).raw=rz
 rw [(Gi d p up).2 h,Ez]
theorem Vo {w:World}{d:Dy}{p:Nat}{up:Bool}{bp bd bu:Nat}(hd:d.Ok)(hT:Tab w)(p1:1≤p)(p2:p≤2000)
 (cp:w.cell? ⟨bp,0,none⟩=some (.int .i64 p)) (cd:BlkD w bd d) (cu:w.cell? ⟨bu,0,none⟩=some (.bool up)) :
 Calls Tryz.prog 169 #[.pointer (some ⟨bp,0,none⟩),.pointer (some ⟨bd,0,none⟩),.pointer (some ⟨bu,0,none⟩)] w (Goes 185 (Dc d p up).raw w):=by
 obtain ⟨A,l,c,hb,hR⟩:=cd;have x1:=hd.lo;have x2:=hd.hi;have hl:=hd.len
 have hc:=fun w1 (k:Kept w w1)=>Ac5 (v:=.slice A l c) (m:=d.m) (p:=p) (e:=d.e) d.neg false up (w:=w1)
  (by
    obtain ⟨A',l',c',he,-,hlim,-,-⟩:=hR.shape;injection he with he;injection he with he
    simp only [List.cons.injEq,and_true] at he;have e1:=he.2.1;rw [←e1] at hlim;exact ⟨hlim.kept k,Nat.le_trans hl (by decide),by omega,by omega,p1,p2,hT.kept k⟩)
 have hm:=fun w1 (k:Kept w w1) v (hv:DyS w1 v [d])=>Y4 hv (by intro x hx;simp at hx;subst hx;exact hd) (by simp) (by omega:(1:Int)≤(p:Int)) (by omega)
 obtain ⟨W,hW,kW,BR,sW⟩:=Aiu w;have hone:=Vr sW (hR.kept kW);have lp:=Ap cp;have lu:=Ap cu;simp only at lp lu;have HC:=hid hc;have HM:=hid hm;have HO:=hid hone;have HB:=hid hb;have CP:=hid cp;have CU:=hid cu;obtain ⟨lb,b0,b1,b2,-⟩:=hb.facts;clear hc hm hone hb hR hd hT x1 x2 hl p1 p2;have ho:I5 d.neg d.m d.e false p up=Dc d p up:=rfl;rw [ho] at HC;clear ho;generalize Dc d p up=o at *;have HK:=hid kW;have HR:=hid BR;have HW:=hid hW;clear hW kW BR sW;generalize d.neg=nd at *;generalize d.e=ed at *;go_enter Tryz.func169,Tryz.ntmps169
 go_wp2_with (go_at_call 170;rw [←HW.out];refine (HM.out _ (HK.out.trans (Ad _ _)) _ HO.out).mono ?_;rintro e w1 ⟨rfl,q⟩;have K:=hid (HK.out.trans ((Ad _ _).trans q));have hr:=HR.out.kept ((Ad _ _).trans q);have HR2:=hid hr;clear q hr b0 b1 b2 cp cu;have cp:=Al K.out CP.out;have cu:=Al K.out CU.out;obtain ⟨-,b0,b1,b2,-⟩:=(HB.out.kept K.out).facts)
 refine (HC.out _ K.out).mono ?_;rintro e w2 ⟨q,⟨h0,u,rfl,hd⟩ | ⟨h0,rfl⟩⟩
 ·obtain ⟨A',l',c',rfl,hd,g1,g2⟩:=Dt hd;have hr:=HR2.out.kept q;obtain ⟨_,r0,r1,r2,f0,f1,f2⟩:=hr.facts;have HD:=hid hd;have H0:=hid h0;have HR3:=hid hr;have Q:=hid q;clear hd h0 hr q;simp only [];go_wp2_with fail;exact Ca (HR3.out.laid _ _ _) rfl rfl rfl ⟨Am (K.out.trans Q.out) (Nat.le_refl _),.inl ⟨H0.out,_,rfl,(HD.out.dyW HR3.out (Ah _) (Ag _ _ _) (Af _)).dyR g1 g2⟩⟩
 ·exact ⟨rfl,K.out.trans q,.inr ⟨h0,rfl⟩⟩
theorem Acw (w:World)(x y z p u:Value):∃ W,W=(((w.alloc (.cells #[x,y,z] 28)).alloc (.cells #[p] 3)).alloc (.cells #[u] 4)).alloc (.cells #[.bool false,.slice none 0 0,.int .i64 0] 28) ∧
 Kept w W∧Blk W w.heap.size x y z∧W.cell? ⟨w.heap.size+1,0,none⟩=some p∧W.cell? ⟨w.heap.size+1+1,0,none⟩=some u∧Blk W (w.heap.size+1+1+1) (.bool false) (.slice none 0 0) (.int .i64 0) :=
 ⟨_, rfl, (((Ad         _ _).trans (Ad         _ _)).trans (Ad         _ _)).trans (Ad         _ _), Bb        (Bb        (Bb        (Bk      _ _ _ _) _) _) _,
  Al (Ad _ _) (Al (Ad _ _) (Ag6 _ _ _ _)),Al (Ad _ _) (Ag7 _ _ _ _ _),Qg _ _ _ _ _ _ _⟩
theorem Bi {w:World}{v:Value}{d:Dy}(h:DyR w v d.raw):∃ A l c,v=.agg #[.bool d.neg,.slice A l c,.int .i64 d.e]∧DyR w (.agg #[.bool d.neg,.slice A l c,.int .i64 d.e]) d.raw:=by
 obtain ⟨A,l,c,rfl,-,-,-,-⟩:=h.shape;exact ⟨A,l,c,rfl,h⟩
theorem Qs {w:World}{v:Value}{d:Dy}{p:Nat}{up:Bool}(hv:DyR w v d.raw)(hd:d.Ok)(hT:Tab w)(p1:1≤p)(p2:p≤2000) :
 Calls Tryz.prog 123 #[v,.int .i64 p,.bool up] w (RetE (Dc d p up).raw w):=by
 have hmf:=Gq;obtain ⟨A,l,c,rfl,hv⟩:=Bi hv;obtain ⟨W,hW,kW,B0,cp,cu,BR⟩:=Acw w (.bool d.neg) (.slice A l c) (.int .i64 d.e) (.int .i64 p) (.bool up)
 have hf:=Ue (w:=W) (K:=169) (cap:=#[.pointer (some ⟨w.heap.size+1,0,none⟩),.pointer (some ⟨w.heap.size,0,none⟩),.pointer (some ⟨w.heap.size+1+1,0,none⟩)]) (o:=(Dc d p up).raw)
  (fun w1 k=>Vo hd (hT.kept (kW.trans k)) p1 p2 (Al k cp) ⟨A,l,c,B0.kept k,hv.kept (kW.trans k)⟩ (Al k cu)) (Ac6 d p up) (fun _=>rfl)
 have HF:=hid hf;have HW:=hid hW;have HK:=hid kW;have HR:=hid BR;clear hf hW kW B0 cp cu BR hv hd hT p1 p2;generalize Dc d p up=o at *;generalize d.neg=nd at *;generalize d.e=ed at *;go_enter Tryz.func123,Tryz.ntmps123
 go_wp2_with (go_at_call 168;rw [←HW.out];refine HF.out.mono ?_;rintro e w1 ⟨q,u,rfl,hd⟩;obtain ⟨A',l',c',rfl,hd,g3,g4⟩:=Dt hd;have HD:=hid hd;have hb2:=HR.out.kept q;obtain ⟨_,c0,c1,c2,f0,f1,f2⟩:=hb2.facts;have HB2:=hid hb2;clear hd hb2)
 exact Dv (HB2.out.laid _ _ _) rfl rfl rfl ⟨Am (HK.out.trans q) (by omega),_,rfl,(HD.out.dyW HB2.out (Ah _) (Ag _ _ _) (Af _)).dyR g3 g4⟩
theorem Kc (w:World)(x y z:Value):∃ W,W=(w.alloc (.cells #[x,y,z] 28)).alloc (.cells #[.bool false,.slice none 0 0,.int .i64 0] 28) ∧
 Kept w W∧Blk W w.heap.size x y z∧Blk W (w.heap.size+1) (.bool false) (.slice none 0 0) (.int .i64 0) :=
 ⟨_,rfl,(Ad _ _).trans (Ad _ _),Bb (Bk _ _ _ _) _,Dp _ _ _ _ _⟩
theorem M0 {w:World}{v:Value}{d:Dy}{p:Nat}(hv:DyR w v d.raw)(hd:d.Ok)(hT:Tab w)(p1:1≤p)(p2:p≤2000) :
 Calls Tryz.prog 91 #[v,.int .i64 p] w (RetE (Dc d p false).raw w):=by
 have hc:=fun w1 (k:Kept w w1)=>Qs (up:=false) (hv.kept k) hd (hT.kept k) p1 p2
 obtain ⟨A,l,c,rfl,hv⟩:=Bi hv;obtain ⟨W,hW,kW,B0,BR⟩:=Kc w (.bool d.neg) (.slice A l c) (.int .i64 d.e);have HC:=hid hc;have HW:=hid hW;have HK:=hid kW;have HR:=hid BR;clear hc hW kW B0 BR hv hd hT p1 p2;generalize Dc d p false=o at *;generalize d.neg=nd at *;generalize d.e=ed at *;go_enter Tryz.func91,Tryz.ntmps91
 go_wp2_with (go_at_call 123;rw [←HW.out];refine (HC.out _ HK.out).mono ?_;rintro e w1 ⟨q,u,rfl,hd⟩;obtain ⟨A',l',c',rfl,hd,g3,g4⟩:=Dt hd;have HD:=hid hd;have hb2:=HR.out.kept q;obtain ⟨_,c0,c1,c2,f0,f1,f2⟩:=hb2.facts;have HB2:=hid hb2;clear hd hb2)
 exact Dv (HB2.out.laid _ _ _) rfl rfl rfl ⟨Am (HK.out.trans q) (by omega),_,rfl,(HD.out.dyW HB2.out (Ah _) (Ag _ _ _) (Af _)).dyR g3 g4⟩
theorem Xo {w:World}{v:Value}{d:Dy}{p:Nat}(hv:DyR w v d.raw)(hd:d.Ok)(hT:Tab w)(p1:1≤p)(p2:p≤2000) :
 Calls Tryz.prog 92 #[v,.int .i64 p] w (RetE (Dc d p true).raw w):=by
 have hc:=fun w1 (k:Kept w w1)=>Qs (up:=true) (hv.kept k) hd (hT.kept k) p1 p2
 obtain ⟨A,l,c,rfl,hv⟩:=Bi hv;obtain ⟨W,hW,kW,B0,BR⟩:=Kc w (.bool d.neg) (.slice A l c) (.int .i64 d.e);have HC:=hid hc;have HW:=hid hW;have HK:=hid kW;have HR:=hid BR;clear hc hW kW B0 BR hv hd hT p1 p2;generalize Dc d p true=o at *;generalize d.neg=nd at *;generalize d.e=ed at *;go_enter Tryz.func92,Tryz.ntmps92
 go_wp2_with (go_at_call 123;rw [←HW.out];refine (HC.out _ HK.out).mono ?_;rintro e w1 ⟨q,u,rfl,hd⟩;obtain ⟨A',l',c',rfl,hd,g3,g4⟩:=Dt hd;have HD:=hid hd;have hb2:=HR.out.kept q;obtain ⟨_,c0,c1,c2,f0,f1,f2⟩:=hb2.facts;have HB2:=hid hb2;clear hd hb2)
 exact Dv (HB2.out.laid _ _ _) rfl rfl rfl ⟨Am (HK.out.trans q) (by omega),_,rfl,(HD.out.dyW HB2.out (Ah _) (Ag _ _ _) (Af _)).dyR g3 g4⟩
theorem P4 {w:World}{s s':Value}{d d':Dy}{n:Nat}(hn:w.heap.size=n)(h:DyR w (.agg #[.bool d.neg,s,.int .i64 d.e]) d.raw)(h':DyR w (.agg #[.bool d'.neg,s',.int .i64 d'.e]) d'.raw) :
 DyS (w.alloc (.cells #[.bool d.neg,s,.int .i64 d.e,.bool d'.neg,s',.int .i64 d'.e] 28)) (.slice (some ⟨n,0,none⟩) 2 2) [d,d']:=by
 subst hn;refine ⟨_,2,rfl,Nat.le_refl _,fun _=>⟨_,_,rfl,fun i x hi=>?_⟩⟩;have hb:=heap_alloc_new w (.cells #[.bool d.neg,s,.int .i64 d.e,.bool d'.neg,s',.int .i64 d'.e] 28);have hlt:i<2:=by
  have:=(List.getElem?_eq_some_iff.1 hi).1;simpa using this
 rcases i with _ | _ | i
 ·simp at hi;subst hi;exact ⟨s,Ae hb 0 _ rfl,Ae hb 1 _ rfl,Ae hb 2 _ rfl,h.kept (Ad _ _)⟩
 ·simp at hi;subst hi;exact ⟨s',Ae hb 3 _ rfl,Ae hb 4 _ rfl,Ae hb 5 _ rfl,h'.kept (Ad _ _)⟩
 ·omega
def Cf (a b:Dy) (p:Nat) (up:Bool):Outc Dy:=if b.m=0 then bad 4 else Bq a b p up
theorem Iy (a b:Dy)(p:Nat)(up:Bool):(Cf a b p up).Ok:=by
 unfold Cf;split
 ·exact Lh _
 ·exact Eg _ _ _ _
theorem Ahc {w:World}{x y:Dy}{p:Nat}{up:Bool}{bp bx bY bu:Nat}(hx:x.Ok)(hy:y.Ok)(hT:Tab w)(p1:1≤p)(p2:p≤2000)
 (cp:w.cell? ⟨bp,0,none⟩=some (.int .i64 p)) (cx:BlkD w bx x) (cy:BlkD w bY y) (cu:w.cell? ⟨bu,0,none⟩=some (.bool up)) :
 Calls Tryz.prog 173 #[.pointer (some ⟨bp,0,none⟩),.pointer (some ⟨bx,0,none⟩),.pointer (some ⟨bY,0,none⟩),.pointer (some ⟨bu,0,none⟩)] w (Goes 185 (Cf x y p up).raw w):=by
 obtain ⟨A,l,c,hbx,hRx⟩:=cx;obtain ⟨A2,l2,c2,hby,hRy⟩:=cy;obtain ⟨W,hW,kW,BR,sW⟩:=Aiu w;have htwo:=P4 sW (hRx.kept kW) (hRy.kept kW);have hm:=fun w1 (k:Kept w w1) v (hv:DyS w1 v [x,y])=>Y4 hv (by intro z hz;simp at hz;rcases hz with rfl | rfl;exact hx;exact hy) (by simp) (by omega:(1:Int)≤(p:Int)) (by omega)
 have HM:=hid hm;have HO:=hid htwo;have HW:=hid hW;have HK:=hid kW;have HR:=hid BR;have HBX:=hid hbx;have HBY:=hid hby;have CP:=hid cp;have CU:=hid cu;have lp:=Ap cp;have lu:=Ap cu;simp only at lp lu;obtain ⟨lbx,x0,x1,x2,-⟩:=hbx.facts;obtain ⟨lby,y0,y1,y2,-⟩:=hby.facts;clear hm htwo hW kW BR sW hbx hby;by_cases h0:y.m=0
 ·unfold Cf;rw [if_pos h0];have hl2:l2=0:=by
   obtain ⟨A',l',c',he,hl',-,-,-⟩:=hRy.shape;injection he with he;injection he with he
   simp only [List.cons.injEq,and_true] at he;have e1:=he.2.1;injection e1 with _ e2 _
   rw [e2,hl'];simp only [Dy.raw];rw [h0,Aw];rfl
  subst hl2;clear hRx hRy hx hy hT p1 p2 h0;generalize x.neg=n1 at *;generalize x.e=e1 at *;generalize y.neg=n2 at *;generalize y.e=e2 at *;go_enter Tryz.func173,Tryz.ntmps173
  go_wp2_with (first
   | (go_at_call 170;rw [←HW.out];refine (HM.out _ (HK.out.trans (Ad _ _)) _ HO.out).mono ?_;rintro e w1 ⟨rfl,q⟩;have K:=hid (HK.out.trans ((Ad _ _).trans q));have hr:=HR.out.kept ((Ad _ _).trans q);have HR2:=hid hr;clear q hr x0 x1 x2 y0 y1 y2 cp cu;have cp:=Al K.out CP.out;have cu:=Al K.out CU.out;obtain ⟨-,x0,x1,x2,-⟩:=(HBX.out.kept K.out).facts;obtain ⟨-,y0,y1,y2,-⟩:=(HBY.out.kept K.out).facts)
   | (go_at_call 174;refine (E3 _ _ _).mono ?_;rintro e w3 ⟨he,rfl⟩;obtain rfl:e=.panicked (Cw 185 _):=he))
  exact ⟨rfl,K.out,.inr ⟨by decide,rfl⟩⟩
 ·unfold Cf;rw [if_neg h0];have bx1:=Da x.m 64 hx.len;have by1:=Da y.m 64 hy.len;have xl:=hx.lo;have xh:=hx.hi;have yl:=hy.lo;have yh:=hy.hi;obtain ⟨kk,hK⟩:∃ kk,kk=Bu x y p:=⟨_,rfl⟩;have hKle:kk≤6200:=by rw [hK];unfold Bu;omega
  have limx:Lim w (.slice A l c) (Ai x.m):=by
   obtain ⟨A',l',c',he,-,hlim,-,-⟩:=hRx.shape;injection he with he;injection he with he
   simp only [List.cons.injEq,and_true] at he;rw [he.2.1];exact hlim
  have limy:Lim w (.slice A2 l2 c2) (Ai y.m):=by
   obtain ⟨A',l',c',he,-,hlim,-,-⟩:=hRy.shape;injection he with he;injection he with he
   simp only [List.cons.injEq,and_true] at he;rw [he.2.1];exact hlim
  have hl2:0<l2:=by
   obtain ⟨A',l',c',he,hl',-⟩:=limy.shape;injection he with e1 e2 e3
   rw [e2,hl'];exact Bj y.m h0
  have hs1:=fun w1 (k:Kept w w1)=>Kx (limx.kept k) (by have:=hx.len;omega)
  have hs2:=fun w1 (k:Kept w w1)=>Kx (limy.kept k) (by have:=hy.len;omega)
  have hle:=fun w1 (k:Kept w w1)=>Lp (limx.kept k) kk (by have:=hx.len;omega) (by omega)
  have blX:bl (x.m*2^kk)≤10296:=by
   by_cases hz:x.m=0
   ·rw [hz,Nat.zero_mul,Gg];omega
   ·rw [Gs _ _ hz];omega
  have lenX:=Cx (x.m*2^kk) 161 (by omega);have hqr:=fun w1 u (k:Kept w w1) (hu:Lim w1 u (Ai (x.m*2^kk)))=>Wo hu (limy.kept k) (by omega) (by have:=hy.len;omega) h0
  have hcu:=fun w1 u (rb:Bool) (k:Kept w w1) (hu:Lim w1 u (Ai (x.m*2^kk/y.m)))=>Ac5 (v:=u) (m:=x.m*2^kk/y.m) (p:=p) (e:=x.e-y.e-kk) (x.neg != y.neg) rb up (w:=w1)
   ⟨hu,Nat.le_trans (D7 (Nat.div_le_self _ _)) (by omega),by omega,by omega,p1,p2,hT.kept k⟩
  have hout:Bq x y p up=I5 (x.neg != y.neg) (x.m*2^kk/y.m) (x.e-y.e-kk) (decide (¬x.m*2^kk%y.m=0)) p up:=by unfold Bq;rw [hK]
  obtain ⟨o,ho⟩:∃ o,o=Bq x y p up:=⟨_,rfl⟩;have hoc:=ho.trans hout;have hrl:∀ (w1:World) (v:Value),Lim w1 v (Ai (x.m*2^kk%y.m))→∃ A l c,v=.slice A l c∧decide (0<l)=decide (¬x.m*2^kk%y.m=0):=by
   intro w1 v hv;obtain ⟨A,l,c,rfl,hl,-⟩:=hv.shape;refine ⟨A,l,c,rfl,?_⟩;rw [hl];by_cases hz:x.m*2^kk%y.m=0
   ·rw [hz,Aw];rfl
   ·have:=Bj _ hz;simp [hz];omega
  rw [←ho];obtain ⟨nb,hnb⟩:∃ nb,(x.neg != y.neg)=nb:=⟨_,rfl⟩;have hnb1:((!x.neg)==y.neg)=nb:=by rw [←hnb];cases x.neg<;>cases y.neg<;>rfl
  have hnb2:(!(x.neg==y.neg))=nb:=by rw [←hnb];cases x.neg<;>cases y.neg<;>rfl
  rw [hnb] at hcu hoc;obtain ⟨s1,hs1'⟩:∃ s:Int,(p:Int)+1=s:=⟨_,rfl⟩;obtain ⟨s2,hs2'⟩:∃ s:Int,s1+(bl y.m:Int)=s:=⟨_,rfl⟩;obtain ⟨s3,hs3'⟩:∃ s:Int,s2-(bl x.m:Int)=s:=⟨_,rfl⟩;have hw1:IntKind.i64.wrap ((p:Int)+1)=s1:=by simp [IntKind.wrap_i64];omega
  have hw2:IntKind.i64.wrap (s1+(bl y.m:Int))=s2:=by simp [IntKind.wrap_i64];omega
  have hw3:IntKind.i64.wrap (s2-(bl x.m:Int))=s3:=by simp [IntKind.wrap_i64];omega
  have hmx:max 0 s3=(kk:Int):=by rw [hK];unfold Bu;omega
  obtain ⟨d1,hd1⟩:∃ d:Int,x.e-y.e=d:=⟨_,rfl⟩;obtain ⟨d2,hd2⟩:∃ d:Int,d1-(kk:Int)=d:=⟨_,rfl⟩;have hw4:IntKind.i64.wrap (x.e-y.e)=d1:=by rw [hd1];simp [IntKind.wrap_i64];omega
  have hw5:IntKind.i64.wrap (d1-(kk:Int))=d2:=by rw [hd2];simp [IntKind.wrap_i64];omega
  rw [hd1,hd2] at hcu hoc;have hcu2:=fun w1 u (k:Kept w w1) (hu:Lim w1 u (Ai (x.m*2^kk/y.m)))=>hcu w1 u (decide (¬x.m*2^kk%y.m=0)) k hu
  rw [←hoc] at hcu2;have H1:=hid hs1;have H2:=hid hs2;have HL:=hid hle;have HQ:=hid hqr;have HC:=hid hcu2;have HRL:=hid hrl;have hl2d:decide (0<l2)=true:=by simp [hl2]
  clear hs1 hs2 hle hqr hcu hcu2 hrl hl2 hRx hRy hx hy hT p1 p2 h0 bx1 by1 xl xh yl yh limx limy blX lenX hout ho hoc hnb hs1' hs2' hs3' hd1 hd2 hK hKle;obtain ⟨rb,hrb⟩:∃ rb,decide (¬x.m*2^kk%y.m=0)=rb:=⟨_,rfl⟩;rw [hrb] at HC HRL;clear hrb;generalize Ai (x.m*2^kk)=xs at *;generalize bl x.m=b1 at *;generalize bl y.m=b2 at *;generalize x.neg=n1 at *;generalize x.e=e1 at *;generalize y.neg=n2 at *;generalize y.e=e2 at *;go_enter Tryz.func173,Tryz.ntmps173
  go_wp2_with (first
   | (go_at_call 170;rw [←HW.out];refine (HM.out _ (HK.out.trans (Ad _ _)) _ HO.out).mono ?_;rintro e w1 ⟨rfl,q⟩;have K:=hid (HK.out.trans ((Ad _ _).trans q));have hr:=HR.out.kept ((Ad _ _).trans q);have HR2:=hid hr;clear q hr x0 x1 x2 y0 y1 y2 cp cu;have cp:=Al K.out CP.out;have cu:=Al K.out CU.out;obtain ⟨-,x0,x1,x2,-⟩:=(HBX.out.kept K.out).facts;obtain ⟨-,y0,y1,y2,-⟩:=(HBY.out.kept K.out).facts)
   | (go_at_call 174;refine (E3 _ _ _).mono ?_;rintro e w3 ⟨he,rfl⟩;obtain rfl:e=.returned (.tuple #[]):=he))
  clear x0 x1 x2 y0 y1 y2 cp cu hl2d
  refine rgL 12 ([(vE (.int .i64 p)),(vE (.int .i64 s1)),(vP bY 1),(vE (.slice A2 l2 c2)),(vE (.int .i64 b2)),(vE (.int .i64 s2)),(vP bx 1),(vE (.slice A l c)),(vE (.int .i64 b1)),(vE (.int .i64 s3)),(vE (.int .i64 kk)),(vE (.int .i64 kk))])
   ⟨
    (fun aF wF F=>by have s0:=F.q 0 (.pointer (some ⟨bp,0,none⟩));exact sw (by have cq:=Al F.kept (Al K.out CP.out);go_simp) rfl),(gv 0 18),(gq 2),(gvl 2 20 fun _ k=>Aj (HBY.out.kept K.out) k 1 _ rfl),(fun aF wF F=>by have s21:=F.v 3 21;exact sQ (H2.out _ (K.out.trans F.kept)) fun _ _ h=>h),(gvv 1 19 4 22),(gq 1),(gvl 6 24 fun _ k=>Aj (HBX.out.kept K.out) k 1 _ rfl),(fun aF wF F=>by have s25:=F.v 7 25;exact sQ (H1.out _ (K.out.trans F.kept)) fun _ _ h=>h),(gvv 5 23 8 26),(gv 9 27),(gv 10 28),
    trivial⟩ ?_
  intro u w1 k1 hu;simp only [Ay,An,if_true,Act.put,zlA,zlB,zlC,zlD,zlE,zlF,zlG,hv hu 0,hv hu 1,hv hu 2,hv hu 3,hv hu 4,hv hu 5,hv hu 6,hv hu 7,hv hu 8,hv hu 9,hv hu 10,hv hu 11];clear hu;have K1:=hid (K.out.trans k1);have HK1:=hid k1;clear k1 hw1 hw2 hw3 hmx;go_wp2_with fail
  refine rgL 12 ([(vP bx 1),(vE (.slice A l c)),(vE (.int .i64 kk)),(fun v wv=>Lim wv v (xs)),(vP bY 1),(vE (.slice A2 l2 c2)),(fun v wv=>∃ q r,v=.tuple #[q,r]∧Lim wv q (Ai (x.m*2^kk/y.m))∧Lim wv r (Ai (x.m*2^kk%y.m))),(fun v wv=>∃ q r,v=.tuple #[q,r]∧Lim wv q (Ai (x.m*2^kk/y.m))∧Lim wv r (Ai (x.m*2^kk%y.m))),(fun v wv=>Lim wv v (Ai (x.m*2^kk/y.m))),(fun v wv=>Lim wv v (Ai (x.m*2^kk%y.m))),(fun v wv=>Lim wv v (Ai (x.m*2^kk/y.m))),(fun v wv=>Lim wv v (Ai (x.m*2^kk%y.m)))])
   (hM:=⟨⟨mE,mE,mE,mL,mE,mE,fun v w w' k h=>by obtain ⟨q,r,e,a,b⟩:=h;exact ⟨q,r,e,a.kept k,b.kept k⟩,fun v w w' k h=>by obtain ⟨q,r,e,a,b⟩:=h;exact ⟨q,r,e,a.kept k,b.kept k⟩,mL,mL,mL,mL,trivial⟩⟩) ⟨
     (gq 1),(gvl 0 30 fun _ k=>Aj (HBX.out.kept K1.out) k 1 _ rfl),(gq 5),(fun aF wF F=>by have s31:=F.v 1 31;have s32:=F.v 2 32;exact sL (HL.out _ (K1.out.trans F.kept)) fun _ _ h=>h),(gq 2),(gvl 4 34 fun _ k=>Aj (HBY.out.kept K1.out) k 1 _ rfl),(fun aF wF F=>by have s33:=F.p 3 33;have s35:=F.v 5 35;exact Av (by simp [Region.wanted]) (by go_simp) (HQ.out _ _ (K1.out.trans F.kept) s33) (fun _ _ h=>RetQR.good h) (fun _ _ h=>h)),(gm 6 36),(fun aF wF F=>by have s29:=F.p 7 29;obtain ⟨q,r,e,a,b⟩:=s29;exact sv a),(fun aF wF F=>by have s29:=F.p 7 29;obtain ⟨q,r,e,a,b⟩:=s29;exact sv b),(gm 8 37),(gm 9 38),
     trivial⟩ ?_
  intro u w1 k1 hu;have p33:=hp hu 3;have p36:=hp hu 6;have p29:=hp hu 7;have p37:=hp hu 8;have p38:=hp hu 9;have p6:=hp hu 10;have p7:=hp hu 11;simp only [Ay,An,if_true,Act.put,zlA,zlB,zlC,zlD,zlE,zlF,zlG,hv hu 0,hv hu 1,hv hu 2,hv hu 4,hv hu 5];clear hu;generalize u 3=v33,u 6=v36,u 7=v29,u 8=v37,u 9=v38,u 10=v6,u 11=v7 at *;have K2:=hid (K1.out.trans k1);have HR3:=hid (HR2.out.kept (HK1.out.trans k1));have P37:=hid p6;obtain ⟨A3,l3,c3,rfl,hl3⟩:=HRL.out _ _ p7;clear p33 p36 p29 p37 p38 p6 p7 k1 HL HQ H1 H2;obtain ⟨-,x0,x1,x2,-⟩:=(HBX.out.kept K2.out).facts;obtain ⟨-,y0,y1,y2,-⟩:=(HBY.out.kept K2.out).facts
  have cp:=Al K2.out CP.out;have cu:=Al K2.out CU.out;go_wp2_with fail;refine (HC.out _ _ K2.out P37.out).mono ?_;rintro e w2 ⟨q,⟨h0,u,rfl,hd⟩ | ⟨h0,rfl⟩⟩
  ·obtain ⟨A',l',c',rfl,hd,g1,g2⟩:=Dt hd;have hr:=HR3.out.kept q;obtain ⟨_,r0,r1,r2,f0,f1,f2⟩:=hr.facts;have HD:=hid hd;have H0:=hid h0;have HR4:=hid hr;have Q:=hid q;clear hd h0 hr q;simp only [];go_wp2_with fail;exact Ca (HR4.out.laid _ _ _) rfl rfl rfl ⟨Am (K2.out.trans Q.out) (Nat.le_refl _),.inl ⟨H0.out,_,rfl,(HD.out.dyW HR4.out (Ah _) (Ag _ _ _) (Af _)).dyR g1 g2⟩⟩
  ·exact ⟨rfl,K2.out.trans q,.inr ⟨h0,rfl⟩⟩
theorem Abv (a b:Dy)(p:Nat)(up:Bool):(Cf a b p up).raw.k≠0→(Cf a b p up).raw.v=rz:=by
 intro h
 show ((Cf a b p up).v).raw=rz
 rw [(Iy a b p up).2 h,Ez]
theorem Aiy (w:World)(x y z x' y' z' p u:Value):∃ W,W=((((w.alloc (.cells #[x,y,z] 28)).alloc (.cells #[x',y',z'] 28)).alloc (.cells #[p] 3)).alloc (.cells #[u] 4)).alloc (.cells #[.bool false,.slice none 0 0,.int .i64 0] 28) ∧
 Kept w W∧Blk W w.heap.size x y z∧Blk W (w.heap.size+1) x' y' z'∧W.cell? ⟨w.heap.size+1+1,0,none⟩=some p∧W.cell? ⟨w.heap.size+1+1+1,0,none⟩=some u∧Blk W (w.heap.size+1+1+1+1) (.bool false) (.slice none 0 0) (.int .i64 0):=by
 have k1:=Ad w (.cells #[x,y,z] 28)
 refine ⟨_,rfl,(((k1.trans (Ad _ _)).trans (Ad _ _)).trans (Ad _ _)).trans (Ad _ _),Bb (Bb (Bb (Bb (Bk _ _ _ _) _) _) _) _,Bb (Bb (Bb (Dp _ _ _ _ _) _) _) _,
  Al (Ad _ _) (Al (Ad _ _) (Ag7 _ _ _ _ _)),Al (Ad _ _) ?_,?_⟩
 ·have:=Aed (((w.alloc (.cells #[x,y,z] 28)).alloc (.cells #[x',y',z'] 28)).alloc (.cells #[p] 3)) u 4;simp only [World.size_alloc] at this;exact this
 ·have:=Bk ((((w.alloc (.cells #[x,y,z] 28)).alloc (.cells #[x',y',z'] 28)).alloc (.cells #[p] 3)).alloc (.cells #[u] 4)) (.bool false) (.slice none 0 0) (.int .i64 0);simp only [World.size_alloc] at this;exact this
theorem Nh {w:World}{v v':Value}{x y:Dy}{p:Nat}{up:Bool}(hv:DyR w v x.raw)(hv':DyR w v' y.raw)(hx:x.Ok)(hy:y.Ok)(hT:Tab w)(p1:1≤p)(p2:p≤2000) :
 Calls Tryz.prog 129 #[v,v',.int .i64 p,.bool up] w (RetE (Cf x y p up).raw w):=by
 have hmf:=Gq;obtain ⟨A,l,c,rfl,hv⟩:=Bi hv;obtain ⟨A2,l2,c2,rfl,hv'⟩:=Bi hv';obtain ⟨W,hW,kW,B0,B1,cp,cu,BR⟩:=Aiy w (.bool x.neg) (.slice A l c) (.int .i64 x.e) (.bool y.neg) (.slice A2 l2 c2) (.int .i64 y.e) (.int .i64 p) (.bool up)
 have hf:=Ue (w:=W) (K:=173) (cap:=#[.pointer (some ⟨w.heap.size+1+1,0,none⟩),.pointer (some ⟨w.heap.size,0,none⟩),.pointer (some ⟨w.heap.size+1,0,none⟩),.pointer (some ⟨w.heap.size+1+1+1,0,none⟩)]) (o:=(Cf x y p up).raw)
  (fun w1 k=>Ahc hx hy (hT.kept (kW.trans k)) p1 p2 (Al k cp) ⟨A,l,c,B0.kept k,hv.kept (kW.trans k)⟩ ⟨A2,l2,c2,B1.kept k,hv'.kept (kW.trans k)⟩ (Al k cu)) (Abv x y p up) (fun _=>rfl)
 have HF:=hid hf;have HW:=hid hW;have HK:=hid kW;have HR:=hid BR;clear hf hW kW B0 B1 cp cu BR hv hv' hx hy hT p1 p2;generalize Cf x y p up=o at *;generalize x.neg=nx at *;generalize x.e=ex at *;generalize y.neg=ny at *;generalize y.e=ey at *;go_enter Tryz.func129,Tryz.ntmps129
 go_wp2_with (go_at_call 168;rw [←HW.out];refine HF.out.mono ?_;rintro e w1 ⟨q,u,rfl,hd⟩;obtain ⟨A',l',c',rfl,hd,g3,g4⟩:=Dt hd;have HD:=hid hd;have hb2:=HR.out.kept q;obtain ⟨_,c0,c1,c2,f0,f1,f2⟩:=hb2.facts;have HB2:=hid hb2;clear hd hb2)
 exact Dv (HB2.out.laid _ _ _) rfl rfl rfl ⟨Am (HK.out.trans q) (by omega),_,rfl,(HD.out.dyW HB2.out (Ah _) (Ag _ _ _) (Af _)).dyR g3 g4⟩
def Hs (d:Dy) (p:Nat) (up:Bool):Outc Dy:=if d.neg then bad 4 else Hr d p up
theorem Aes (d:Dy)(p:Nat)(up:Bool):(Hs d p up).Ok:=by
 unfold Hs;split
 ·exact Lh _
 ·exact Ro _ _ _
theorem Ab2 (d:Dy)(p:Nat)(up:Bool):(Hs d p up).raw.k≠0→(Hs d p up).raw.v=rz:=by
 intro h
 show ((Hs d p up).v).raw=rz
 rw [(Aes d p up).2 h,Ez]
theorem Aio (n:Nat):bl (isq n)≤bl n:=by
 refine Fw ?_;have h:=(Lo n).1;by_cases h0:isq n=0
 ·omega
 ·have:=Nat.mul_le_mul_left (isq n) (Nat.pos_of_ne_zero h0);omega
theorem Ahd {w:World}{x:Dy}{p:Nat}{up:Bool}{bp bx bu:Nat}(hx:x.Ok)(hT:Tab w)(p1:1≤p)(p2:p≤2000)
 (cp:w.cell? ⟨bp,0,none⟩=some (.int .i64 p)) (cx:BlkD w bx x) (cu:w.cell? ⟨bu,0,none⟩=some (.bool up)) :
 Calls Tryz.prog 182 #[.pointer (some ⟨bp,0,none⟩),.pointer (some ⟨bx,0,none⟩),.pointer (some ⟨bu,0,none⟩)] w (Goes 185 (Hs x p up).raw w):=by
 obtain ⟨A,l,c,hbx,hRx⟩:=cx;obtain ⟨W,hW,kW,BR,sW⟩:=Aiu w;have hone:=Vr sW (hRx.kept kW);have hm:=fun w1 (k:Kept w w1) v (hv:DyS w1 v [x])=>Y4 hv (by intro z hz;simp at hz;subst hz;exact hx) (by simp) (by omega:(1:Int)≤(p:Int)) (by omega)
 have HM:=hid hm;have HO:=hid hone;have HW:=hid hW;have HK:=hid kW;have HR:=hid BR;have HBX:=hid hbx;have CP:=hid cp;have CU:=hid cu;have lp:=Ap cp;have lu:=Ap cu;simp only at lp lu;obtain ⟨lbx,x0,x1,x2,-⟩:=hbx.facts;clear hm hone hW kW BR sW hbx;cases hn:x.neg
 ·have hz:Hs x p up=Hr x p up:=by unfold Hs;rw [hn];rfl
  rw [hz];rw [hn] at x0 HBX HO;have bx1:=Da x.m 64 hx.len;have xl:=hx.lo;have xh:=hx.hi;have limx:Lim w (.slice A l c) (Ai x.m):=by
   obtain ⟨A',l',c',he,-,hlim,-,-⟩:=hRx.shape;injection he with he;injection he with he
   simp only [List.cons.injEq,and_true] at he;rw [he.2.1];exact hlim
  obtain ⟨k0,hk0⟩:∃ k,k=Jn x p:=⟨_,rfl⟩;obtain ⟨kk,hkk⟩:∃ k,k=L3 x p:=⟨_,rfl⟩;have hk0le:k0≤4002:=by rw [hk0];unfold Jn;omega
  have hkk':kk=if (x.e-k0)%2=0 then k0 else k0+1:=by rw [hkk,hk0];rfl
  have hev:(x.e-kk)%2=0:=by rw [hkk];exact Rp x p
  have hkle:kk≤4003:=by rw [hkk'];split<;>omega
  have hs1:=fun w1 (k:Kept w w1)=>Kx (limx.kept k) (by have:=hx.len;omega)
  have hle:=fun w1 (k:Kept w w1)=>Lp (limx.kept k) kk (by have:=hx.len;omega) (by omega)
  have blX:bl (x.m*2^kk)≤8100:=by
   by_cases hz:x.m=0
   ·rw [hz,Nat.zero_mul,Gg];omega
   ·rw [Gs _ _ hz];omega
  have lenX:=Cx (x.m*2^kk) 127 (by omega);have lenI:=Cx (isq (x.m*2^kk)) 127 (by have:=Aio (x.m*2^kk);omega);have hsq:=fun w1 u (hu:Lim w1 u (Ai (x.m*2^kk)))=>Ae5 hu (by omega)
  have hti:=fun w1 u (hu:Lim w1 u (Ai (isq (x.m*2^kk))))=>Aas hu hu (by omega) (by omega)
  have lenS:(Ai (isq (x.m*2^kk)*isq (x.m*2^kk))).length≤127:=Nat.le_trans (D7 (Lo (x.m*2^kk)).1) lenX;have hor:=fun w1 u v (hu:Lim w1 u (Ai (isq (x.m*2^kk)*isq (x.m*2^kk)))) (hv:Lim w1 v (Ai (x.m*2^kk)))=>Ks hu hv (by omega) (by omega)
  obtain ⟨hh,hhh⟩:∃ h:Int,(x.e-kk)/2=h:=⟨_,rfl⟩;obtain ⟨rb,hrb⟩:∃ rb,decide (¬isq (x.m*2^kk)*isq (x.m*2^kk)=x.m*2^kk)=rb:=⟨_,rfl⟩;have hcm:(Em (isq (x.m*2^kk)*isq (x.m*2^kk)) (x.m*2^kk) != 0)=rb:=by
   rw [←hrb];unfold Em;have:=(Lo (x.m*2^kk)).1;by_cases h1:isq (x.m*2^kk)*isq (x.m*2^kk)<x.m*2^kk
   ·rw [if_pos h1];simp;omega
   ·rw [if_neg h1,if_pos (by omega)];simp;omega
  have hcu:=fun w1 u (k:Kept w w1) (hu:Lim w1 u (Ai (isq (x.m*2^kk))))=>Ac5 (v:=u) (m:=isq (x.m*2^kk)) (p:=p) (e:=hh) false rb up (w:=w1)
   ⟨hu,by omega,by omega,by omega,p1,p2,hT.kept k⟩
  have hout:Hr x p up=I5 false (isq (x.m*2^kk)) hh rb p up:=by unfold Hr;rw [←hkk,hhh,hrb]
  obtain ⟨o,ho⟩:∃ o,o=Hr x p up:=⟨_,rfl⟩;rw [←ho];rw [←ho.trans hout] at hcu;obtain ⟨s1,hs1'⟩:∃ s:Int,2*(p:Int)=s:=⟨_,rfl⟩;obtain ⟨s2,hs2'⟩:∃ s:Int,s1+2=s:=⟨_,rfl⟩;obtain ⟨s3,hs3'⟩:∃ s:Int,s2-(bl x.m:Int)=s:=⟨_,rfl⟩;have hw1:IntKind.i64.wrap (2*(p:Int))=s1:=by simp [IntKind.wrap_i64];omega
  have hw2:IntKind.i64.wrap (s1+2)=s2:=by simp [IntKind.wrap_i64];omega
  have hw3:IntKind.i64.wrap (s2-(bl x.m:Int))=s3:=by simp [IntKind.wrap_i64];omega
  have hmx:max 0 s3=(k0:Int):=by rw [hk0];unfold Jn;omega
  obtain ⟨d0,hd0⟩:∃ d:Int,x.e-(k0:Int)=d:=⟨_,rfl⟩;obtain ⟨d1,hd1⟩:∃ d:Int,x.e-(kk:Int)=d:=⟨_,rfl⟩;have hw4:IntKind.i64.wrap (x.e-(k0:Int))=d0:=by rw [hd0];simp [IntKind.wrap_i64];omega
  have hw5:IntKind.i64.wrap (x.e-(kk:Int))=d1:=by rw [hd1];simp [IntKind.wrap_i64];omega
  have hw6:IntKind.i64.wrap (d1.tdiv 2)=hh:=by
   have:d1.tdiv 2=hh:=by
    rw [←hhh,hd1];rw [hd1] at hev;rw [Int.tdiv_eq_ediv];split<;>omega
   rw [this];simp [IntKind.wrap_i64];omega
  have H1:=hid hs1;have HL:=hid hle;have HSQ:=hid hsq;have HTI:=hid hti;have HOR:=hid hor;have HC:=hid hcu;have HW5:=hid hw5;have HW6:=hid hw6;have HCM:=hid hcm;have hq1:IntKind.i64.wrap ((k0:Int)+1)=((k0+1:Nat):Int):=by simp [IntKind.wrap_i64];omega
  have hpar:d0.tmod 2=0↔(x.e-k0)%2=0:=by rw [hd0,←Int.dvd_iff_tmod_eq_zero,Int.dvd_iff_emod_eq_zero]
  have HP:=hid hpar;have HKK:=hid hkk';clear hs1 hle hsq hti hor hcu hw5 hw6 hcm hpar hkk' hRx hx hT p1 p2 hz hn bx1 xl xh limx hk0 hkk hk0le hev hkle blX lenX lenI lenS hhh hrb hout ho hs1' hs2' hs3' hd0 hd1;generalize bl x.m=b1 at *;by_cases hpp:d0.tmod 2=0
  ·have hk:=HKK.out;rw [if_pos (HP.out.1 hpp)] at hk;subst hk;have hpb:(d0.tmod 2 != 0)=false:=by simp [hpp]
   have hpc:(d0.tmod 2==0)=true:=by simp [hpp]
   clear hpp HKK HP hq1;generalize x.e=e1 at *;go_enter Tryz.func182,Tryz.ntmps182
   go_wp2_with (first
    | (go_at_call 170;rw [←HW.out];refine (HM.out _ (HK.out.trans (Ad _ _)) _ HO.out).mono ?_;rintro e w1 ⟨rfl,q⟩;have K:=hid (HK.out.trans ((Ad _ _).trans q));have hr:=HR.out.kept ((Ad _ _).trans q);have HR2:=hid hr;clear q hr x0 x1 x2 cp cu;have cp:=Al K.out CP.out;have cu:=Al K.out CU.out;obtain ⟨-,x0,x1,x2,-⟩:=(HBX.out.kept K.out).facts)
    | (go_at_call 174;refine (E3 _ _ _).mono ?_;rintro e w3 ⟨he,rfl⟩;obtain rfl:e=.returned (.tuple #[]):=he))
   clear x0 x1 x2 cp cu
   refine rgL 9 ([(vE (.int .i64 p)),(vE (.int .i64 s1)),(vE (.int .i64 s2)),(vP bx 1),(vE (.slice A l c)),(vE (.int .i64 b1)),(vE (.int .i64 s3)),(vE (.int .i64 kk)),(vE (.int .i64 kk))])
    ⟨
     (fun aF wF F=>by have s0:=F.q 0 (.pointer (some ⟨bp,0,none⟩));exact sw (by have cq:=Al F.kept (Al K.out CP.out);go_simp) rfl),(gv 0 15),(gv 1 16),(gq 1),(gvl 3 18 fun _ k=>Aj (HBX.out.kept K.out) k 1 _ rfl),(fun aF wF F=>by have s19:=F.v 4 19;exact sQ (H1.out _ (K.out.trans F.kept)) fun _ _ h=>h),(gvv 2 17 5 20),(gv 6 21),(gv 7 22),
     trivial⟩ ?_
   intro u w1 k1 hu;simp only [Ay,An,if_true,Act.put,zlA,zlB,zlC,zlD,zlE,zlF,zlG,hv hu 0,hv hu 1,hv hu 2,hv hu 3,hv hu 4,hv hu 5,hv hu 6,hv hu 7,hv hu 8];clear hu;have K1:=hid (K.out.trans k1);have HR3:=hid (HR2.out.kept k1);clear k1 u hw1 hw2 hw3 hmx;obtain ⟨-,x0,x1,x2,-⟩:=(HBX.out.kept K1.out).facts;go_wp2_with fail;clear hpb hpc;refine (HL.out _ K1.out).mono ?_;rintro e w2 ⟨M,rfl,hM,q⟩;have K2:=hid (K1.out.trans q);have HR4:=hid (HR3.out.kept q);have LM:=hid hM;clear hM q x0 x1 x2;simp only [];go_wp2_with fail;refine (HSQ.out _ _ LM.out).mono ?_;rintro e w3 ⟨X,rfl,hX,q⟩;have K3:=hid (K2.out.trans q)
   have HR5:=hid (HR4.out.kept q);have LX:=hid hX;replace LM:=hid (LM.out.kept q);clear hX q hw4;have hw5:=HW5.out;have hw6:=HW6.out;have hcm:=HCM.out;simp only [];go_wp2_with fail
   refine Ni 15 ([(vE X),(vP bx 2),(vE (.int .i64 e1)),(vE (.int .i64 ((kk:Nat):Int))),(vE (.int .i64 d1)),(vE (.int .i64 hh)),(vE X),(vE X),(fun v wv=>Lim wv v (Ai (isq (x.m*2^kk)*isq (x.m*2^kk)))),(vE M),(vE (.int .i64 (Em (isq (x.m*2^kk)*isq (x.m*2^kk)) (x.m*2^kk)))),(vE (.bool rb)),(vE (.int .i64 p)),(vE (.bool up)),(fun v wv=>o.raw.k=0∧DyR wv v o.raw.v)])
    ⟨
     (gq 6),(gq 1),(gvl 1 38 fun _ k=>Aj (HBX.out.kept K3.out) k 2 _ rfl),(gq 4),(fun aF wF F=>by have s39:=F.v 2 39;have s40:=F.v 3 40;exact sw (by have hx:=HW5.out;push_cast at hx;go_simp) rfl),(gv 4 41),(gq 6),(gq 6),(fun aF wF F=>by have s43:=F.v 6 43;have s44:=F.v 7 44;exact sL (HTI.out _ _ (LX.out.kept F.kept)) fun _ _ h=>h),(gq 5),(fun aF wF F=>by have s45:=F.p 8 45;have s46:=F.v 9 46;exact sQ (HOR.out _ _ _ s45 (LM.out.kept F.kept)) fun _ _ h=>h),(gv 10 47),(fun aF wF F=>by have s0:=F.q 0 (.pointer (some ⟨bp,0,none⟩));exact sw (by have cq:=Al F.kept (Al K3.out CP.out);go_simp) rfl),(fun aF wF F=>by have s2:=F.q 2 (.pointer (some ⟨bu,0,none⟩));exact sw (by have cq:=Al F.kept (Al K3.out CU.out);go_simp) rfl),(fun aF wF F=>by have s37:=F.v 0 37;have s42:=F.v 5 42;have s48:=F.v 11 48;have s49:=F.v 12 49;have s50:=F.v 13 50;exact sG (HC.out _ _ (K3.out.trans F.kept) (LX.out.kept F.kept)) (fun _ _ _ h0 h=>⟨h0,h⟩) (fun w2 k2 h0=>⟨F.defers,⟨K3.out.trans (F.kept.trans k2),.inr ⟨h0,rfl⟩⟩⟩)),
     trivial⟩ ?_
   intro u w1 k1 hu;have p45:=hp hu 8;have p51:=hp hu 14;simp only [Ay,An,if_true,Act.put,zlA,zlB,zlC,zlD,zlE,zlF,zlG,hv hu 0,hv hu 1,hv hu 2,hv hu 3,hv hu 4,hv hu 5,hv hu 6,hv hu 7,hv hu 9,hv hu 10,hv hu 11,hv hu 12,hv hu 13];clear hu;generalize u 8=v45,u 14=v51 at *;obtain ⟨h0,hd⟩:=p51;obtain ⟨A',l',c',rfl,hd,g1,g2⟩:=Dt hd;have hb:=HR5.out.kept k1;obtain ⟨_,c0,c1,c2,f0,f1,f2⟩:=hb.facts;have HD:=hid hd;have H0:=hid h0;have HB:=hid hb;have K4:=hid (K3.out.trans k1);clear hd h0 hb k1 p45;go_simp;go_wp2_with fail;exact Ca (HB.out.laid _ _ _) rfl rfl rfl ⟨Am K4.out (Nat.le_refl _),.inl ⟨H0.out,_,rfl,(HD.out.dyW HB.out (Ah _) (Ag _ _ _) (Af _)).dyR g1 g2⟩⟩
  ·have hk:=HKK.out;rw [if_neg (fun h=>hpp (HP.out.2 h))] at hk;subst hk;have hpb:(d0.tmod 2 != 0)=true:=by simp [hpp]
   have hpc:(d0.tmod 2==0)=false:=by simp [hpp]
   clear hpp HKK HP;generalize x.e=e1 at *;go_enter Tryz.func182,Tryz.ntmps182
   go_wp2_with (first
    | (go_at_call 170;rw [←HW.out];refine (HM.out _ (HK.out.trans (Ad _ _)) _ HO.out).mono ?_;rintro e w1 ⟨rfl,q⟩;have K:=hid (HK.out.trans ((Ad _ _).trans q));have hr:=HR.out.kept ((Ad _ _).trans q);have HR2:=hid hr;clear q hr x0 x1 x2 cp cu;have cp:=Al K.out CP.out;have cu:=Al K.out CU.out;obtain ⟨-,x0,x1,x2,-⟩:=(HBX.out.kept K.out).facts)
    | (go_at_call 174;refine (E3 _ _ _).mono ?_;rintro e w3 ⟨he,rfl⟩;obtain rfl:e=.returned (.tuple #[]):=he))
   clear x0 x1 x2 cp cu
   refine rgL 9 ([(vE (.int .i64 p)),(vE (.int .i64 s1)),(vE (.int .i64 s2)),(vP bx 1),(vE (.slice A l c)),(vE (.int .i64 b1)),(vE (.int .i64 s3)),(vE (.int .i64 k0)),(vE (.int .i64 k0))])
    ⟨
     (fun aF wF F=>by have s0:=F.q 0 (.pointer (some ⟨bp,0,none⟩));exact sw (by have cq:=Al F.kept (Al K.out CP.out);go_simp) rfl),(gv 0 15),(gv 1 16),(gq 1),(gvl 3 18 fun _ k=>Aj (HBX.out.kept K.out) k 1 _ rfl),(fun aF wF F=>by have s19:=F.v 4 19;exact sQ (H1.out _ (K.out.trans F.kept)) fun _ _ h=>h),(gvv 2 17 5 20),(gv 6 21),(gv 7 22),
     trivial⟩ ?_
   intro u w1 k1 hu;simp only [Ay,An,if_true,Act.put,zlA,zlB,zlC,zlD,zlE,zlF,zlG,hv hu 0,hv hu 1,hv hu 2,hv hu 3,hv hu 4,hv hu 5,hv hu 6,hv hu 7,hv hu 8];clear hu;have K1:=hid (K.out.trans k1);have HR3:=hid (HR2.out.kept k1);clear k1 u hw1 hw2 hw3 hmx;obtain ⟨-,x0,x1,x2,-⟩:=(HBX.out.kept K1.out).facts;go_wp2_with fail;clear hpb hpc hq1;refine (HL.out _ K1.out).mono ?_;rintro e w2 ⟨M,rfl,hM,q⟩;have K2:=hid (K1.out.trans q);have HR4:=hid (HR3.out.kept q);have LM:=hid hM;clear hM q x0 x1 x2;simp only [];go_wp2_with fail;refine (HSQ.out _ _ LM.out).mono ?_;rintro e w3 ⟨X,rfl,hX,q⟩;have K3:=hid (K2.out.trans q)
   have HR5:=hid (HR4.out.kept q);have LX:=hid hX;replace LM:=hid (LM.out.kept q);clear hX q hw4;have hw5:=HW5.out;have hw6:=HW6.out;have hcm:=HCM.out;simp only [];go_wp2_with fail
   refine Ni 15 ([(vE X),(vP bx 2),(vE (.int .i64 e1)),(vE (.int .i64 (((k0+1):Nat):Int))),(vE (.int .i64 d1)),(vE (.int .i64 hh)),(vE X),(vE X),(fun v wv=>Lim wv v (Ai (isq (x.m*2^(k0+1))*isq (x.m*2^(k0+1))))),(vE M),(vE (.int .i64 (Em (isq (x.m*2^(k0+1))*isq (x.m*2^(k0+1))) (x.m*2^(k0+1))))),(vE (.bool rb)),(vE (.int .i64 p)),(vE (.bool up)),(fun v wv=>o.raw.k=0∧DyR wv v o.raw.v)])
    ⟨
     (gq 6),(gq 1),(gvl 1 38 fun _ k=>Aj (HBX.out.kept K3.out) k 2 _ rfl),(gq 4),(fun aF wF F=>by have s39:=F.v 2 39;have s40:=F.v 3 40;exact sw (by have hx:=HW5.out;push_cast at hx;go_simp) rfl),(gv 4 41),(gq 6),(gq 6),(fun aF wF F=>by have s43:=F.v 6 43;have s44:=F.v 7 44;exact sL (HTI.out _ _ (LX.out.kept F.kept)) fun _ _ h=>h),(gq 5),(fun aF wF F=>by have s45:=F.p 8 45;have s46:=F.v 9 46;exact sQ (HOR.out _ _ _ s45 (LM.out.kept F.kept)) fun _ _ h=>h),(gv 10 47),(fun aF wF F=>by have s0:=F.q 0 (.pointer (some ⟨bp,0,none⟩));exact sw (by have cq:=Al F.kept (Al K3.out CP.out);go_simp) rfl),(fun aF wF F=>by have s2:=F.q 2 (.pointer (some ⟨bu,0,none⟩));exact sw (by have cq:=Al F.kept (Al K3.out CU.out);go_simp) rfl),(fun aF wF F=>by have s37:=F.v 0 37;have s42:=F.v 5 42;have s48:=F.v 11 48;have s49:=F.v 12 49;have s50:=F.v 13 50;exact sG (HC.out _ _ (K3.out.trans F.kept) (LX.out.kept F.kept)) (fun _ _ _ h0 h=>⟨h0,h⟩) (fun w2 k2 h0=>⟨F.defers,⟨K3.out.trans (F.kept.trans k2),.inr ⟨h0,rfl⟩⟩⟩)),
     trivial⟩ ?_
   intro u w1 k1 hu;have p45:=hp hu 8;have p51:=hp hu 14;simp only [Ay,An,if_true,Act.put,zlA,zlB,zlC,zlD,zlE,zlF,zlG,hv hu 0,hv hu 1,hv hu 2,hv hu 3,hv hu 4,hv hu 5,hv hu 6,hv hu 7,hv hu 9,hv hu 10,hv hu 11,hv hu 12,hv hu 13];clear hu;generalize u 8=v45,u 14=v51 at *;obtain ⟨h0,hd⟩:=p51;obtain ⟨A',l',c',rfl,hd,g1,g2⟩:=Dt hd;have hb:=HR5.out.kept k1;obtain ⟨_,c0,c1,c2,f0,f1,f2⟩:=hb.facts;have HD:=hid hd;have H0:=hid h0;have HB:=hid hb;have K4:=hid (K3.out.trans k1);clear hd h0 hb k1 p45;go_simp;go_wp2_with fail;exact Ca (HB.out.laid _ _ _) rfl rfl rfl ⟨Am K4.out (Nat.le_refl _),.inl ⟨H0.out,_,rfl,(HD.out.dyW HB.out (Ah _) (Ag _ _ _) (Af _)).dyR g1 g2⟩⟩
 ·have hz:Hs x p up=bad 4:=by unfold Hs;rw [hn];rfl
  rw [hz];rw [hn] at x0 HBX HO;clear hRx hx hT p1 p2 hz hn;generalize x.e=e1 at *;go_enter Tryz.func182,Tryz.ntmps182
  go_wp2_with (first
   | (go_at_call 170;rw [←HW.out];refine (HM.out _ (HK.out.trans (Ad _ _)) _ HO.out).mono ?_;rintro e w1 ⟨rfl,q⟩;have K:=hid (HK.out.trans ((Ad _ _).trans q));have hr:=HR.out.kept ((Ad _ _).trans q);have HR2:=hid hr;clear q hr x0 x1 x2 cp cu;have cp:=Al K.out CP.out;have cu:=Al K.out CU.out;obtain ⟨-,x0,x1,x2,-⟩:=(HBX.out.kept K.out).facts)
   | (go_at_call 174;refine (E3 _ _ _).mono ?_;rintro e w3 ⟨he,rfl⟩;obtain rfl:e=.panicked (Cw 185 _):=he))
  exact ⟨rfl,K.out,.inr ⟨by decide,rfl⟩⟩
theorem Aet {w:World}{v:Value}{d:Dy}{p:Nat}{up:Bool}(hv:DyR w v d.raw)(hd:d.Ok)(hT:Tab w)(p1:1≤p)(p2:p≤2000) :
 Calls Tryz.prog 142 #[v,.int .i64 p,.bool up] w (RetE (Hs d p up).raw w):=by
 have hmf:=Gq;obtain ⟨A,l,c,rfl,hv⟩:=Bi hv;obtain ⟨W,hW,kW,B0,cp,cu,BR⟩:=Acw w (.bool d.neg) (.slice A l c) (.int .i64 d.e) (.int .i64 p) (.bool up)
 have hf:=Ue (w:=W) (K:=182) (cap:=#[.pointer (some ⟨w.heap.size+1,0,none⟩),.pointer (some ⟨w.heap.size,0,none⟩),.pointer (some ⟨w.heap.size+1+1,0,none⟩)]) (o:=(Hs d p up).raw)
  (fun w1 k=>Ahd hd (hT.kept (kW.trans k)) p1 p2 (Al k cp) ⟨A,l,c,B0.kept k,hv.kept (kW.trans k)⟩ (Al k cu)) (Ab2 d p up) (fun _=>rfl)
 have HF:=hid hf;have HW:=hid hW;have HK:=hid kW;have HR:=hid BR;clear hf hW kW B0 cp cu BR hv hd hT p1 p2;generalize Hs d p up=o at *;generalize d.neg=nd at *;generalize d.e=ed at *;go_enter Tryz.func142,Tryz.ntmps142
 go_wp2_with (go_at_call 168;rw [←HW.out];refine HF.out.mono ?_;rintro e w1 ⟨q,u,rfl,hd⟩;obtain ⟨A',l',c',rfl,hd,g3,g4⟩:=Dt hd;have HD:=hid hd;have hb2:=HR.out.kept q;obtain ⟨_,c0,c1,c2,f0,f1,f2⟩:=hb2.facts;have HB2:=hid hb2;clear hd hb2)
 exact Dv (HB2.out.laid _ _ _) rfl rfl rfl ⟨Am (HK.out.trans q) (by omega),_,rfl,(HD.out.dyW HB2.out (Ah _) (Ag _ _ _) (Af _)).dyR g3 g4⟩
def IvR (w:World) (v:Value) (a:RawI):Prop:=∃ x y z x' y' z',v=.agg #[x,y,z,x',y',z']∧DyR w (.agg #[x,y,z]) a.lo∧DyR w (.agg #[x',y',z']) a.hi
theorem IvR.kept {w w':World}{v:Value}{a:RawI}(h:IvR w v a)(k:Kept w w'):IvR w' v a:=by
 obtain ⟨x,y,z,x',y',z',rfl,h1,h2⟩:=h;exact ⟨x,y,z,x',y',z',rfl,h1.kept k,h2.kept k⟩
theorem Ax {w:World}{v:Value}{r:Raw}(h:DyR w v r):∃ A l c,v=.agg #[.bool r.neg,.slice A l c,.int .i64 r.e]∧DyR w (.agg #[.bool r.neg,.slice A l c,.int .i64 r.e]) r:=by
 obtain ⟨A,l,c,rfl,-,-,-,-⟩:=h.shape;exact ⟨A,l,c,rfl,h⟩
theorem Aq {w:World}{v:Value}{a:RawI}(h:IvR w v a):∃ A l c A' l' c',v=.agg #[.bool a.lo.neg,.slice A l c,.int .i64 a.lo.e,.bool a.hi.neg,.slice A' l' c',.int .i64 a.hi.e] ∧
 DyR w (.agg #[.bool a.lo.neg,.slice A l c,.int .i64 a.lo.e]) a.lo∧DyR w (.agg #[.bool a.hi.neg,.slice A' l' c',.int .i64 a.hi.e]) a.hi:=by
 obtain ⟨x,y,z,x',y',z',rfl,h1,h2⟩:=h;obtain ⟨A,l,c,e1,h1⟩:=Ax h1;obtain ⟨A',l',c',e2,h2⟩:=Ax h2;injection e1 with e1;injection e1 with e1
 injection e2 with e2;injection e2 with e2
 simp only [List.cons.injEq,and_true] at e1 e2;obtain ⟨rfl,rfl,rfl⟩:=e1;obtain ⟨rfl,rfl,rfl⟩:=e2;exact ⟨A,l,c,A',l',c',rfl,h1,h2⟩
def BlkI (w:World) (b:Nat) (x y z x' y' z':Value):Prop:=w.heap[b]?=some (.cells #[x,y,z,x',y',z'] 30 (0,0))
theorem BlkI.facts {w:World}{b:Nat}{x y z x' y' z':Value}(h:BlkI w b x y z x' y' z'):b<w.heap.size∧w.cell? ⟨b,0,none⟩=some x∧w.cell? ⟨b,1,none⟩=some y∧w.cell? ⟨b,2,none⟩=some z ∧
 w.cell? ⟨b,3,none⟩=some x'∧w.cell? ⟨b,4,none⟩=some y'∧w.cell? ⟨b,5,none⟩=some z' :=
 ⟨(Array.getElem?_eq_some_iff.1 h).1,Ae h 0 _ rfl,Ae h 1 _ rfl,Ae h 2 _ rfl,Ae h 3 _ rfl,Ae h 4 _ rfl,Ae h 5 _ rfl⟩
theorem BlkI.kept {w w1:World}{b:Nat}{x y z x' y' z':Value}(h:BlkI w b x y z x' y' z')(k:Kept w w1):BlkI w1 b x y z x' y' z' :=
 (k.block b (Array.getElem?_eq_some_iff.1 h).1).trans h
theorem Et (w:World)(x y z x' y' z':Value):BlkI (w.alloc (.cells #[x,y,z,x',y',z'] 30)) w.heap.size x y z x' y' z':=heap_alloc_new _ _
def RawI.lens (a:RawI) (k:Nat):Prop:=a.lo.m.length≤k∧a.hi.m.length≤k
theorem Akb (w:World)(x y z x' y' z':Value):∃ W,W=w.alloc (.cells #[x,y,z,x',y',z'] 30)∧Kept w W∧BlkI W w.heap.size x y z x' y' z' :=
 ⟨_,rfl,Ad _ _,Et _ _ _ _ _ _ _⟩
theorem Jy {w:World}{v:Value}{r:Raw}(h:DyR w v r):Small r.m:=by
 obtain ⟨s,-,hs,-,-⟩:=h;exact hs.1
theorem Uj {w:World}{v:Value}{a:RawI}(hv:IvR w v a)(hl:a.lens 17592186044416) :
 Calls Tryz.prog 50 #[v] w (RetK (.bool (Fh a)) w):=by
 obtain ⟨A,l,c,A',l',c',rfl,h1,h2⟩:=Aq hv;have m1:=fun w1 (k:Kept w w1)=>Lq (h1.kept k) hl.1
 have m2:=fun w1 (k:Kept w w1)=>Lq (h2.kept k) hl.2
 have hc:Gp a.lo=true→Gp a.hi=true→∀ w1,Kept w w1→Calls Tryz.prog 40 #[.agg #[.bool a.lo.neg,.slice A l c,.int .i64 a.lo.e],.agg #[.bool a.hi.neg,.slice A' l' c',.int .i64 a.hi.e]] w1 (RetK (.int .i64 (Co a.lo.dy.q a.hi.dy.q)) w1):=by
  intro d1 d2 w1 k;obtain ⟨e1,o1⟩:=It (Jy h1) d1;obtain ⟨e2,o2⟩:=It (Jy h2) d2;have g1:=h1.kept k;have g2:=h2.kept k;exact M6 (x:=a.lo.dy) (y:=a.hi.dy) (by rw [e1];exact g1) (by rw [e2];exact g2) o1 o2
 unfold Fh;have M1:=hid m1;have M2:=hid m2;have HC:=hid hc;clear m1 m2 hc h1 h2 hv hl;generalize a.lo.neg=n1 at *;generalize a.lo.e=e1 at *;generalize a.hi.neg=n2 at *;generalize a.hi.e=e2 at *;generalize Co a.lo.dy.q a.hi.dy.q=cc at *;generalize Gp a.lo=b1 at *;generalize Gp a.hi=b2 at *;obtain ⟨W,hW,kW,BI⟩:=Akb w (.bool n1) (.slice A l c) (.int .i64 e1) (.bool n2) (.slice A' l' c') (.int .i64 e2);have HW:=hid hW;have HK:=hid kW;have HB:=hid BI;clear hW kW BI;cases b1
 ·rw [Bool.false_and,Bool.false_and];go_enter Tryz.func50,Tryz.ntmps50
  go_wp2_with (go_at_call 53;rw [←HW.out];refine (M1.out _ HK.out).mono ?_;rintro e w1 ⟨rfl,q⟩)
  go_ret;exact ⟨rfl,HK.out.trans q⟩
 ·cases b2
  ·rw [Bool.and_false,Bool.false_and];go_enter Tryz.func50,Tryz.ntmps50;go_wp2_with fail;rw [←HW.out];refine (M1.out _ HK.out).mono ?_;rintro e w1 ⟨rfl,q⟩;have K:=hid (HK.out.trans q);obtain ⟨-,c0,c1,c2,c3,c4,c5⟩:=(HB.out.kept q).facts;have HB2:=hid (HB.out.kept q);clear q;simp only [];go_wp2_with fail;refine (M2.out _ K.out).mono ?_;rintro e w2 ⟨rfl,q⟩;replace K:=hid (K.out.trans q);clear c0 c1 c2 c3 c4 c5;obtain ⟨-,c0,c1,c2,c3,c4,c5⟩:=(HB2.out.kept q).facts;clear q;simp only [];go_wp2_with fail;go_ret;exact ⟨rfl,K.out⟩
  ·rw [Bool.and_true,Bool.true_and];have hc:=HC.out rfl rfl;clear HC;have HC:=hid hc;clear hc;obtain ⟨rb,hrb⟩:∃ rb,decide (cc≤0)=rb:=⟨_,rfl⟩;rw [hrb];go_enter Tryz.func50,Tryz.ntmps50;go_wp2_with fail;rw [←HW.out];refine (M1.out _ HK.out).mono ?_;rintro e w1 ⟨rfl,q⟩;have K:=hid (HK.out.trans q);obtain ⟨-,c0,c1,c2,c3,c4,c5⟩:=(HB.out.kept q).facts;have HB2:=hid (HB.out.kept q);clear q;simp only [];go_wp2_with fail;refine (M2.out _ K.out).mono ?_;rintro e w2 ⟨rfl,q⟩;replace K:=hid (K.out.trans q);clear c0 c1 c2 c3 c4 c5;obtain ⟨-,c0,c1,c2,c3,c4,c5⟩:=(HB2.out.kept q).facts;clear q;simp only [];go_wp2_with fail
   refine (HC.out _ K.out).mono ?_;rintro e w3 ⟨rfl,q⟩;replace K:=hid (K.out.trans q);clear q;simp only [];go_wp2_with fail;go_ret;exact ⟨rfl,K.out⟩
instance iI {r:RawI}:Nonempty (Jf fun v w=>IvR w v r):=⟨fun _ _ _ k h=>h.kept k⟩
instance iNI {S:Nat} {x y z x' y' z':Value}:Nonempty (Jf fun v w=>∃ b,v=.pointer (some ⟨b,0,none⟩)∧S≤b∧BlkI w b x y z x' y' z'):=⟨fun _ _ _ k q=>by obtain ⟨b,e,q1,q2⟩:=q;exact ⟨b,e,q1,q2.kept k⟩⟩
def IvC (w:World) (v:Value) (a:Iv):Prop:=IvR w v a.raw
theorem IvC.kept {w w':World}{v:Value}{a:Iv}(h:IvC w v a)(k:Kept w w'):IvC w' v a:=IvR.kept h k
theorem Gu {w:World}{v:Value}{a:Iv}(h:IvC w v a):∃ A l c A' l' c',v=.agg #[.bool a.lo.neg,.slice A l c,.int .i64 a.lo.e,.bool a.hi.neg,.slice A' l' c',.int .i64 a.hi.e] ∧
 DyR w (.agg #[.bool a.lo.neg,.slice A l c,.int .i64 a.lo.e]) a.lo.raw∧DyR w (.agg #[.bool a.hi.neg,.slice A' l' c',.int .i64 a.hi.e]) a.hi.raw:=Aq h
theorem Fg {a:Iv}(h:a.Ok):a.raw.lens 17592186044416:=⟨by have:=Dr h.lo;show a.lo.raw.m.length≤_;omega,by have:=Dr h.hi;show a.hi.raw.m.length≤_;omega⟩
theorem Ui {w:World}{v:Value}{a:Iv}(hv:IvC w v a)(h:a.Ok):Calls Tryz.prog 50 #[v] w (RetK (.bool true) w):=by
 have:=Uj hv (Fg h);rwa [D8 h] at this
theorem Adz {w:World}{v:Value}{d:Dy}(hv:DyR w v d.raw)(h:d.Ok):Calls Tryz.prog 53 #[v] w (RetK (.bool true) w):=by
 have:=Lq hv (by have:=Dr h;omega);rwa [h.may] at this
def Vy (a:Iv) (d:Dy):Bool:=decide (Co a.lo.q d.q≤0)&&decide (Co d.q a.hi.q≤0)
theorem Aiv (w:World)(x y z x' y' z' p q r:Value):∃ W,W=(w.alloc (.cells #[x,y,z,x',y',z'] 30)).alloc (.cells #[p,q,r] 28)∧Kept w W∧BlkI W w.heap.size x y z x' y' z'∧Blk W (w.heap.size+1) p q r :=
 ⟨_,rfl,(Ad _ _).trans (Ad _ _),(Et _ _ _ _ _ _ _).kept (Ad _ _),Dp _ _ _ _ _⟩
theorem Adl {w:World}{v u:Value}{a:Iv}{d:Dy}(hv:IvC w v a)(hu:DyR w u d.raw)(ha:a.Ok)(hd:d.Ok) :
 Calls Tryz.prog 24 #[v,u] w (RetK (.bool (Vy a d)) w):=by
 have m1:=fun w1 (k:Kept w w1)=>Ui (hv.kept k) ha
 have m2:=fun w1 (k:Kept w w1)=>Adz (hu.kept k) hd
 obtain ⟨A,l,c,A',l',c',rfl,h1,h2⟩:=Gu hv;obtain ⟨A3,l3,c3,rfl,hu⟩:=Bi hu;have q1:=fun w1 (k:Kept w w1)=>M6 (h1.kept k) (hu.kept k) ha.lo hd
 have q2:=fun w1 (k:Kept w w1)=>M6 (hu.kept k) (h2.kept k) hd ha.hi
 unfold Vy;have M1:=hid m1;have M2:=hid m2;have Q1:=hid q1;have Q2:=hid q2;clear m1 m2 q1 q2 h1 h2 hv hu ha hd;generalize Co a.lo.q d.q=r1 at *;generalize Co d.q a.hi.q=r2 at *;generalize a.lo.neg=n1 at *;generalize a.lo.e=e1 at *;generalize a.hi.neg=n2 at *;generalize a.hi.e=e2 at *;generalize d.neg=n3 at *;generalize d.e=e3 at *;obtain ⟨W,hW,kW,BI,BD⟩:=Aiv w (.bool n1) (.slice A l c) (.int .i64 e1) (.bool n2) (.slice A' l' c') (.int .i64 e2) (.bool n3) (.slice A3 l3 c3) (.int .i64 e3);have HW:=hid hW;have K:=hid kW;have HB:=hid BI;have HD:=hid BD;clear hW kW BI BD;have hr1:decide (r1≤0)=true∨decide (r1≤0)=false:=Bs _
 rcases hr1 with hr1 | hr1
 ·rw [hr1,Bool.true_and];obtain ⟨rb,hrb⟩:∃ rb,decide (r2≤0)=rb:=⟨_,rfl⟩;rw [hrb];go_enter Tryz.func24,Tryz.ntmps24;go_wp2_with fail;rw [←HW.out];refine (M1.out _ K.out).mono ?_;rintro e w1 ⟨rfl,q⟩;replace K:=hid (K.out.trans q);replace HB:=hid (HB.out.kept q);replace HD:=hid (HD.out.kept q);clear q;obtain ⟨-,c0,c1,c2,c3,c4,c5⟩:=HB.out.facts;obtain ⟨-,d0,d1,d2,-⟩:=HD.out.facts;simp only [];go_wp2_with fail;refine (M2.out _ K.out).mono ?_;clear c0 c1 c2 c3 c4 c5 d0 d1 d2;rintro e w1 ⟨rfl,q⟩;replace K:=hid (K.out.trans q);replace HB:=hid (HB.out.kept q);replace HD:=hid (HD.out.kept q);clear q;obtain ⟨-,c0,c1,c2,c3,c4,c5⟩:=HB.out.facts
  obtain ⟨-,d0,d1,d2,-⟩:=HD.out.facts;simp only [];go_wp2_with fail;refine (Q1.out _ K.out).mono ?_;clear c0 c1 c2 c3 c4 c5 d0 d1 d2;rintro e w1 ⟨rfl,q⟩;replace K:=hid (K.out.trans q);replace HB:=hid (HB.out.kept q);replace HD:=hid (HD.out.kept q);clear q;obtain ⟨-,c0,c1,c2,c3,c4,c5⟩:=HB.out.facts;obtain ⟨-,d0,d1,d2,-⟩:=HD.out.facts;simp only [];go_wp2_with fail;refine (Q2.out _ K.out).mono ?_;rintro e w4 ⟨rfl,q⟩;replace K:=hid (K.out.trans q);clear q;simp only [];go_wp2_with fail;go_ret;exact ⟨rfl,K.out⟩
 ·rw [hr1,Bool.false_and];go_enter Tryz.func24,Tryz.ntmps24;go_wp2_with fail;rw [←HW.out];refine (M1.out _ K.out).mono ?_;rintro e w1 ⟨rfl,q⟩;replace K:=hid (K.out.trans q);replace HB:=hid (HB.out.kept q);replace HD:=hid (HD.out.kept q);clear q;obtain ⟨-,c0,c1,c2,c3,c4,c5⟩:=HB.out.facts;obtain ⟨-,d0,d1,d2,-⟩:=HD.out.facts;simp only [];go_wp2_with fail;refine (M2.out _ K.out).mono ?_;clear c0 c1 c2 c3 c4 c5 d0 d1 d2;rintro e w1 ⟨rfl,q⟩;replace K:=hid (K.out.trans q);replace HB:=hid (HB.out.kept q);replace HD:=hid (HD.out.kept q);clear q;obtain ⟨-,c0,c1,c2,c3,c4,c5⟩:=HB.out.facts;obtain ⟨-,d0,d1,d2,-⟩:=HD.out.facts
  simp only [];go_wp2_with fail;refine (Q1.out _ K.out).mono ?_;clear c0 c1 c2 c3 c4 c5 d0 d1 d2;rintro e w1 ⟨rfl,q⟩;replace K:=hid (K.out.trans q);replace HB:=hid (HB.out.kept q);replace HD:=hid (HD.out.kept q);clear q;obtain ⟨-,c0,c1,c2,c3,c4,c5⟩:=HB.out.facts;obtain ⟨-,d0,d1,d2,-⟩:=HD.out.facts;simp only [];go_wp2_with fail;go_ret;exact ⟨rfl,K.out⟩
theorem Tz (w:World)(x y z x' y' z' p q r p' q' r':Value):∃ W,W=(w.alloc (.cells #[x,y,z,x',y',z'] 30)).alloc (.cells #[p,q,r,p',q',r'] 30)∧Kept w W∧BlkI W w.heap.size x y z x' y' z'∧BlkI W (w.heap.size+1) p q r p' q' r':=by
 refine ⟨_,rfl,(Ad _ _).trans (Ad _ _),(Et _ _ _ _ _ _ _).kept (Ad _ _),?_⟩;have:=Et (w.alloc (.cells #[x,y,z,x',y',z'] 30)) p q r p' q' r';simpa using this
end Go.Proofs.YtabjjdicffcolaaGreatDoor
