/- Words and contracts, part 21. -/
import Derived.Test.YtmgaloopddiekaaGreatDoorClaimFargsp20
set_option maxRecDepth 100000
set_option maxHeartbeats 0
namespace Go.Proofs.YtmgaloopddiekaaGreatDoor
open Go.Lib (hid)
open Go.RowKit
def BlkD (w:World) (b:Nat) (d:Dy):Prop:=∃ A l c,Blk w b (.bool d.neg) (.slice A l c) (.int .i64 d.e)∧DyR w (.agg #[.bool d.neg,.slice A l c,.int .i64 d.e]) d.raw
theorem BlkD.kept {w w':World}{b:Nat}{d:Dy}(h:BlkD w b d)(k:Kept w w'):BlkD w' b d:=by
 obtain ⟨A,l,c,h1,h2⟩:=h;exact ⟨A,l,c,h1.kept k,h2.kept k⟩
theorem Afa {w:World}{s:Value}{d:Dy}(h:DyR w (.agg #[.bool d.neg,s,.int .i64 d.e]) d.raw) :
 DyS (w.alloc (.cells #[.bool d.neg,s,.int .i64 d.e] 30)) (.slice (some ⟨w.heap.size,0,none⟩) 1 1) [d]:=by
 refine ⟨_,1,rfl,Nat.le_refl _,fun _=>⟨_,_,rfl,fun i x hi=>?_⟩⟩;have:i=0:=by
  have:=(List.getElem?_eq_some_iff.1 hi).1;simp at this;exact this
 subst this;simp at hi;subst hi;obtain ⟨_,c0,c1,c2,_⟩:=(blk_new w (.bool d.neg) s (.int .i64 d.e)).facts;exact ⟨s,c0,c1,c2,h.kept (Ad _ _)⟩
theorem Abp {w:World}{s:Value}{d:Dy}{n:Nat}(hn:w.heap.size=n)(h:DyR w (.agg #[.bool d.neg,s,.int .i64 d.e]) d.raw) :
 DyS (w.alloc (.cells #[.bool d.neg,s,.int .i64 d.e] 30)) (.slice (some ⟨n,0,none⟩) 1 1) [d]:=by
 subst hn;exact Afa h
theorem Aix (w:World):∃ W,W=w.alloc (.cells #[.bool false,.slice none 0 0,.int .i64 0] 30)∧Kept w W∧Blk W w.heap.size (.bool false) (.slice none 0 0) (.int .i64 0)∧W.heap.size=w.heap.size+1 :=
 ⟨_,rfl,Ad _ _,Gg w,by simp⟩
theorem Abn (d:Dy)(p:Nat)(up:Bool):(Eh d p up).raw.k≠0→(Eh d p up).raw.v=rz:=by
 intro h
 show ((Eh d p up).v).raw=rz
 rw [(G8 d p up).2 h,Hq]
theorem Uf {w:World}{d:Dy}{p:Nat}{up:Bool}{bp bd bu:Nat}(hd:d.Ok)(hT:Tab w)(p1:1≤p)(p2:p≤2000)
 (cp:w.cell? ⟨bp,0,none⟩=some (.int .i64 p)) (cd:BlkD w bd d) (cu:w.cell? ⟨bu,0,none⟩=some (.bool up)) :
 Calls Tryz.prog 219 #[.pointer (some ⟨bp,0,none⟩),.pointer (some ⟨bd,0,none⟩),.pointer (some ⟨bu,0,none⟩)] w (Goes 213 (Eh d p up).raw w):=by
 obtain ⟨A,l,c,hb,hR⟩:=cd;have x1:=hd.lo;have x2:=hd.hi;have hl:=hd.len
 have hc:=fun w1 (k:Kept w w1)=>Ag4 (v:=.slice A l c) (m:=d.m) (p:=p) (e:=d.e) d.neg false up (w:=w1)
  (by
    obtain ⟨A',l',c',he,-,hlim,-,-⟩:=hR.shape;injection he with he;injection he with he
    simp only [List.cons.injEq,and_true] at he;have e1:=he.2.1;rw [←e1] at hlim;exact ⟨hlim.kept k,Nat.le_trans hl (by decide),by omega,by omega,p1,p2,hT.kept k⟩)
 have hm:=fun w1 (k:Kept w w1) v (hv:DyS w1 v [d])=>Adt hv (by intro x hx;simp at hx;subst hx;exact hd) (by simp) (by omega:(1:Int)≤(p:Int)) (by omega)
 obtain ⟨W,hW,kW,BR,sW⟩:=Aix w;have hone:=Abp sW (hR.kept kW);have lp:=Bg cp;have lu:=Bg cu;simp only at lp lu;have HC:=hid hc;have HM:=hid hm;have HO:=hid hone;have HB:=hid hb;have CP:=hid cp;have CU:=hid cu;obtain ⟨lb,b0,b1,b2,-⟩:=hb.facts;clear hc hm hone hb hR hd hT x1 x2 hl p1 p2;have ho:Ph d.neg d.m d.e false p up=Eh d p up:=rfl;rw [ho] at HC;clear ho;generalize Eh d p up=o at *;have HK:=hid kW;have HR:=hid BR;have HW:=hid hW;clear hW kW BR sW;generalize d.neg=nd at *;generalize d.e=ed at *;go_enter Tryz.func219,Tryz.ntmps219
 go_wp2_with (go_at_call 220;rw [←HW.out];refine (HM.out _ (HK.out.trans (Ad _ _)) _ HO.out).mono ?_;rintro e w1 ⟨rfl,q⟩;have K:=hid (HK.out.trans ((Ad _ _).trans q));have hr:=HR.out.kept ((Ad _ _).trans q);have HR2:=hid hr;clear q hr b0 b1 b2 cp cu;have cp:=Bc K.out CP.out;have cu:=Bc K.out CU.out;obtain ⟨-,b0,b1,b2,-⟩:=(HB.out.kept K.out).facts)
 refine (HC.out _ K.out).mono ?_;rintro e w2 ⟨q,⟨h0,u,rfl,hd⟩ | ⟨h0,rfl⟩⟩
 ·obtain ⟨A',l',c',rfl,hd,g1,g2⟩:=Eu hd;have hr:=HR2.out.kept q;obtain ⟨_,r0,r1,r2,f0,f1,f2⟩:=hr.facts;have HD:=hid hd;have H0:=hid h0;have HR3:=hid hr;have Q:=hid q;clear hd h0 hr q;simp only [];go_wp2_with fail;exact Co (HR3.out.laid _ _ _) rfl rfl rfl ⟨Bj (K.out.trans Q.out) (Nat.le_refl _),.inl ⟨H0.out,_,rfl,(HD.out.dyW HR3.out (An _) (Ak _ _ _) (Aq _)).dyR g1 g2⟩⟩
 ·exact ⟨rfl,K.out.trans q,.inr ⟨h0,rfl⟩⟩
theorem Ahn (w:World)(x y z p u:Value):∃ W,W=(((w.alloc (.cells #[x,y,z] 30)).alloc (.cells #[p] 3)).alloc (.cells #[u] 4)).alloc (.cells #[.bool false,.slice none 0 0,.int .i64 0] 30) ∧
 Kept w W∧Blk W w.heap.size x y z∧W.cell? ⟨w.heap.size+1,0,none⟩=some p∧W.cell? ⟨w.heap.size+1+1,0,none⟩=some u∧Blk W (w.heap.size+1+1+1) (.bool false) (.slice none 0 0) (.int .i64 0) :=
 ⟨_, rfl, (((Ad         _ _).trans (Ad         _ _)).trans (Ad         _ _)).trans (Ad         _ _), Bn        (Bn        (Bn        (blk_new _ _ _ _) _) _) _,
  Bc (Ad _ _) (Bc (Ad _ _) (Ah9 _ _ _ _)),Bc (Ad _ _) (Af7 _ _ _ _ _),Pb _ _ _ _ _ _ _⟩
theorem Bu {w:World}{v:Value}{d:Dy}(h:DyR w v d.raw):∃ A l c,v=.agg #[.bool d.neg,.slice A l c,.int .i64 d.e]∧DyR w (.agg #[.bool d.neg,.slice A l c,.int .i64 d.e]) d.raw:=by
 obtain ⟨A,l,c,rfl,-,-,-,-⟩:=h.shape;exact ⟨A,l,c,rfl,h⟩
theorem Pj {w:World}{v:Value}{d:Dy}{p:Nat}{up:Bool}(hv:DyR w v d.raw)(hd:d.Ok)(hT:Tab w)(p1:1≤p)(p2:p≤2000) :
 Calls Tryz.prog 197 #[v,.int .i64 p,.bool up] w (RetE (Eh d p up).raw w):=by
 have hmf:=Es;obtain ⟨A,l,c,rfl,hv⟩:=Bu hv;obtain ⟨W,hW,kW,B0,cp,cu,BR⟩:=Ahn w (.bool d.neg) (.slice A l c) (.int .i64 d.e) (.int .i64 p) (.bool up)
 have hf:=Ym (w:=W) (K:=219) (cap:=#[.pointer (some ⟨w.heap.size+1,0,none⟩),.pointer (some ⟨w.heap.size,0,none⟩),.pointer (some ⟨w.heap.size+1+1,0,none⟩)]) (o:=(Eh d p up).raw)
  (fun w1 k=>Uf hd (hT.kept (kW.trans k)) p1 p2 (Bc k cp) ⟨A,l,c,B0.kept k,hv.kept (kW.trans k)⟩ (Bc k cu)) (Abn d p up) (fun _=>rfl)
 have HF:=hid hf;have HW:=hid hW;have HK:=hid kW;have HR:=hid BR;clear hf hW kW B0 cp cu BR hv hd hT p1 p2;generalize Eh d p up=o at *;generalize d.neg=nd at *;generalize d.e=ed at *;go_enter Tryz.func197,Tryz.ntmps197
 go_wp2_with (go_at_call 218;rw [←HW.out];refine HF.out.mono ?_;rintro e w1 ⟨q,u,rfl,hd⟩;obtain ⟨A',l',c',rfl,hd,g3,g4⟩:=Eu hd;have HD:=hid hd;have hb2:=HR.out.kept q;obtain ⟨_,c0,c1,c2,f0,f1,f2⟩:=hb2.facts;have HB2:=hid hb2;clear hd hb2)
 exact Hd (HB2.out.laid _ _ _) rfl rfl rfl ⟨Bj (HK.out.trans q) (by omega),_,rfl,(HD.out.dyW HB2.out (An _) (Ak _ _ _) (Aq _)).dyR g3 g4⟩
theorem Sf (w:World)(x y z:Value):∃ W,W=(w.alloc (.cells #[x,y,z] 30)).alloc (.cells #[.bool false,.slice none 0 0,.int .i64 0] 30) ∧
 Kept w W∧Blk W w.heap.size x y z∧Blk W (w.heap.size+1) (.bool false) (.slice none 0 0) (.int .i64 0) :=
 ⟨_,rfl,(Ad _ _).trans (Ad _ _),Bn (blk_new _ _ _ _) _,C8 _ _ _ _ _⟩
theorem Vw {w:World}{v:Value}{d:Dy}{p:Nat}(hv:DyR w v d.raw)(hd:d.Ok)(hT:Tab w)(p1:1≤p)(p2:p≤2000) :
 Calls Tryz.prog 172 #[v,.int .i64 p] w (RetE (Eh d p false).raw w):=by
 have hc:=fun w1 (k:Kept w w1)=>Pj (up:=false) (hv.kept k) hd (hT.kept k) p1 p2
 obtain ⟨A,l,c,rfl,hv⟩:=Bu hv;obtain ⟨W,hW,kW,B0,BR⟩:=Sf w (.bool d.neg) (.slice A l c) (.int .i64 d.e);have HC:=hid hc;have HW:=hid hW;have HK:=hid kW;have HR:=hid BR;clear hc hW kW B0 BR hv hd hT p1 p2;generalize Eh d p false=o at *;generalize d.neg=nd at *;generalize d.e=ed at *;go_enter Tryz.func172,Tryz.ntmps172
 go_wp2_with (go_at_call 197;rw [←HW.out];refine (HC.out _ HK.out).mono ?_;rintro e w1 ⟨q,u,rfl,hd⟩;obtain ⟨A',l',c',rfl,hd,g3,g4⟩:=Eu hd;have HD:=hid hd;have hb2:=HR.out.kept q;obtain ⟨_,c0,c1,c2,f0,f1,f2⟩:=hb2.facts;have HB2:=hid hb2;clear hd hb2)
 exact Hd (HB2.out.laid _ _ _) rfl rfl rfl ⟨Bj (HK.out.trans q) (by omega),_,rfl,(HD.out.dyW HB2.out (An _) (Ak _ _ _) (Aq _)).dyR g3 g4⟩
theorem Ahf {w:World}{v:Value}{d:Dy}{p:Nat}(hv:DyR w v d.raw)(hd:d.Ok)(hT:Tab w)(p1:1≤p)(p2:p≤2000) :
 Calls Tryz.prog 174 #[v,.int .i64 p] w (RetE (Eh d p true).raw w):=by
 have hc:=fun w1 (k:Kept w w1)=>Pj (up:=true) (hv.kept k) hd (hT.kept k) p1 p2
 obtain ⟨A,l,c,rfl,hv⟩:=Bu hv;obtain ⟨W,hW,kW,B0,BR⟩:=Sf w (.bool d.neg) (.slice A l c) (.int .i64 d.e);have HC:=hid hc;have HW:=hid hW;have HK:=hid kW;have HR:=hid BR;clear hc hW kW B0 BR hv hd hT p1 p2;generalize Eh d p true=o at *;generalize d.neg=nd at *;generalize d.e=ed at *;go_enter Tryz.func174,Tryz.ntmps174
 go_wp2_with (go_at_call 197;rw [←HW.out];refine (HC.out _ HK.out).mono ?_;rintro e w1 ⟨q,u,rfl,hd⟩;obtain ⟨A',l',c',rfl,hd,g3,g4⟩:=Eu hd;have HD:=hid hd;have hb2:=HR.out.kept q;obtain ⟨_,c0,c1,c2,f0,f1,f2⟩:=hb2.facts;have HB2:=hid hb2;clear hd hb2)
 exact Hd (HB2.out.laid _ _ _) rfl rfl rfl ⟨Bj (HK.out.trans q) (by omega),_,rfl,(HD.out.dyW HB2.out (An _) (Ak _ _ _) (Aq _)).dyR g3 g4⟩
theorem Afb {w:World}{s s':Value}{d d':Dy}{n:Nat}(hn:w.heap.size=n)(h:DyR w (.agg #[.bool d.neg,s,.int .i64 d.e]) d.raw)(h':DyR w (.agg #[.bool d'.neg,s',.int .i64 d'.e]) d'.raw) :
 DyS (w.alloc (.cells #[.bool d.neg,s,.int .i64 d.e,.bool d'.neg,s',.int .i64 d'.e] 30)) (.slice (some ⟨n,0,none⟩) 2 2) [d,d']:=by
 subst hn;refine ⟨_,2,rfl,Nat.le_refl _,fun _=>⟨_,_,rfl,fun i x hi=>?_⟩⟩;have hb:=heap_alloc_new w (.cells #[.bool d.neg,s,.int .i64 d.e,.bool d'.neg,s',.int .i64 d'.e] 30);have hlt:i<2:=by
  have:=(List.getElem?_eq_some_iff.1 hi).1;simpa using this
 rcases i with _ | _ | i
 ·simp at hi;subst hi;exact ⟨s,Ag hb 0 _ rfl,Ag hb 1 _ rfl,Ag hb 2 _ rfl,h.kept (Ad _ _)⟩
 ·simp at hi;subst hi;exact ⟨s',Ag hb 3 _ rfl,Ag hb 4 _ rfl,Ag hb 5 _ rfl,h'.kept (Ad _ _)⟩
 ·omega
def Et (a b:Dy) (p:Nat) (up:Bool):Outc Dy:=if b.m=0 then bad 4 else Cg a b p up
theorem Adr (a b:Dy)(p:Nat)(up:Bool):(Et a b p up).Ok:=by
 unfold Et;split
 ·exact V8 _
 ·exact Ed _ _ _ _
theorem Agf {w:World}{x y:Dy}{p:Nat}{up:Bool}{bp bx bY bu:Nat}(hx:x.Ok)(hy:y.Ok)(hT:Tab w)(p1:1≤p)(p2:p≤2000)
 (cp:w.cell? ⟨bp,0,none⟩=some (.int .i64 p)) (cx:BlkD w bx x) (cy:BlkD w bY y) (cu:w.cell? ⟨bu,0,none⟩=some (.bool up)) :
 Calls Tryz.prog 237 #[.pointer (some ⟨bp,0,none⟩),.pointer (some ⟨bx,0,none⟩),.pointer (some ⟨bY,0,none⟩),.pointer (some ⟨bu,0,none⟩)] w (Goes 213 (Et x y p up).raw w):=by
 obtain ⟨A,l,c,hbx,hRx⟩:=cx;obtain ⟨A2,l2,c2,hby,hRy⟩:=cy;obtain ⟨W,hW,kW,BR,sW⟩:=Aix w;have htwo:=Afb sW (hRx.kept kW) (hRy.kept kW);have hm:=fun w1 (k:Kept w w1) v (hv:DyS w1 v [x,y])=>Adt hv (by intro z hz;simp at hz;rcases hz with rfl | rfl;exact hx;exact hy) (by simp) (by omega:(1:Int)≤(p:Int)) (by omega)
 have HM:=hid hm;have HO:=hid htwo;have HW:=hid hW;have HK:=hid kW;have HR:=hid BR;have HBX:=hid hbx;have HBY:=hid hby;have CP:=hid cp;have CU:=hid cu;have lp:=Bg cp;have lu:=Bg cu;simp only at lp lu;obtain ⟨lbx,x0,x1,x2,-⟩:=hbx.facts;obtain ⟨lby,y0,y1,y2,-⟩:=hby.facts;clear hm htwo hW kW BR sW hbx hby;by_cases h0:y.m=0
 ·unfold Et;rw [if_pos h0];have hl2:l2=0:=by
   obtain ⟨A',l',c',he,hl',-,-,-⟩:=hRy.shape;injection he with he;injection he with he
   simp only [List.cons.injEq,and_true] at he;have e1:=he.2.1;injection e1 with _ e2 _
   rw [e2,hl'];simp only [Dy.raw];rw [h0,Bd];rfl
  subst hl2;clear hRx hRy hx hy hT p1 p2 h0;generalize x.neg=n1 at *;generalize x.e=e1 at *;generalize y.neg=n2 at *;generalize y.e=e2 at *;go_enter Tryz.func237,Tryz.ntmps237
  go_wp2_with (first
   | (go_at_call 220;rw [←HW.out];refine (HM.out _ (HK.out.trans (Ad _ _)) _ HO.out).mono ?_;rintro e w1 ⟨rfl,q⟩;have K:=hid (HK.out.trans ((Ad _ _).trans q));have hr:=HR.out.kept ((Ad _ _).trans q);have HR2:=hid hr;clear q hr x0 x1 x2 y0 y1 y2 cp cu;have cp:=Bc K.out CP.out;have cu:=Bc K.out CU.out;obtain ⟨-,x0,x1,x2,-⟩:=(HBX.out.kept K.out).facts;obtain ⟨-,y0,y1,y2,-⟩:=(HBY.out.kept K.out).facts)
   | (go_at_call 236;refine (Gj _ _ _).mono ?_;rintro e w3 ⟨he,rfl⟩;obtain rfl:e=.panicked (Ch 213 _):=he))
  exact ⟨rfl,K.out,.inr ⟨by decide,rfl⟩⟩
 ·unfold Et;rw [if_neg h0];have bx1:=Eb x.m 64 hx.len;have by1:=Eb y.m 64 hy.len;have xl:=hx.lo;have xh:=hx.hi;have yl:=hy.lo;have yh:=hy.hi;obtain ⟨kk,hK⟩:∃ kk,kk=Ee x y p:=⟨_,rfl⟩;have hKle:kk≤6200:=by rw [hK];unfold Ee;omega
  have limx:Lim w (.slice A l c) (limbs x.m):=by
   obtain ⟨A',l',c',he,-,hlim,-,-⟩:=hRx.shape;injection he with he;injection he with he
   simp only [List.cons.injEq,and_true] at he;rw [he.2.1];exact hlim
  have limy:Lim w (.slice A2 l2 c2) (limbs y.m):=by
   obtain ⟨A',l',c',he,-,hlim,-,-⟩:=hRy.shape;injection he with he;injection he with he
   simp only [List.cons.injEq,and_true] at he;rw [he.2.1];exact hlim
  have hl2:0<l2:=by
   obtain ⟨A',l',c',he,hl',-⟩:=limy.shape;injection he with e1 e2 e3
   rw [e2,hl'];exact Bq y.m h0
  have hs1:=fun w1 (k:Kept w w1)=>Kr (limx.kept k) (by have:=hx.len;omega)
  have hs2:=fun w1 (k:Kept w w1)=>Kr (limy.kept k) (by have:=hy.len;omega)
  have hle:=fun w1 (k:Kept w w1)=>Nn (limx.kept k) kk (by have:=hx.len;omega) (by omega)
  have blX:bl (x.m*2^kk)≤10296:=by
   by_cases hz:x.m=0
   ·rw [hz,Nat.zero_mul,Oq];omega
   ·rw [Gu _ _ hz];omega
  have lenX:=Dk (x.m*2^kk) 161 (by omega);have hqr:=fun w1 u (k:Kept w w1) (hu:Lim w1 u (limbs (x.m*2^kk)))=>Adp hu (limy.kept k) (by omega) (by have:=hy.len;omega) h0
  have hcu:=fun w1 u (rb:Bool) (k:Kept w w1) (hu:Lim w1 u (limbs (x.m*2^kk/y.m)))=>Ag4 (v:=u) (m:=x.m*2^kk/y.m) (p:=p) (e:=x.e-y.e-kk) (x.neg != y.neg) rb up (w:=w1)
   ⟨hu,Nat.le_trans (Mz (Nat.div_le_self _ _)) (by omega),by omega,by omega,p1,p2,hT.kept k⟩
  have hout:Cg x y p up=Ph (x.neg != y.neg) (x.m*2^kk/y.m) (x.e-y.e-kk) (decide (¬x.m*2^kk%y.m=0)) p up:=by unfold Cg;rw [hK]
  obtain ⟨o,ho⟩:∃ o,o=Cg x y p up:=⟨_,rfl⟩;have hoc:=ho.trans hout;have hrl:∀ (w1:World) (v:Value),Lim w1 v (limbs (x.m*2^kk%y.m))→∃ A l c,v=.slice A l c∧decide (0<l)=decide (¬x.m*2^kk%y.m=0):=by
   intro w1 v hv;obtain ⟨A,l,c,rfl,hl,-⟩:=hv.shape;refine ⟨A,l,c,rfl,?_⟩;rw [hl];by_cases hz:x.m*2^kk%y.m=0
   ·rw [hz,Bd];rfl
   ·have:=Bq _ hz;simp [hz];omega
  rw [←ho];obtain ⟨nb,hnb⟩:∃ nb,(x.neg != y.neg)=nb:=⟨_,rfl⟩;have hnb1:((!x.neg)==y.neg)=nb:=by rw [←hnb];cases x.neg<;>cases y.neg<;>rfl
  have hnb2:(!(x.neg==y.neg))=nb:=by rw [←hnb];cases x.neg<;>cases y.neg<;>rfl
  rw [hnb] at hcu hoc;obtain ⟨s1,hs1'⟩:∃ s:Int,(p:Int)+1=s:=⟨_,rfl⟩;obtain ⟨s2,hs2'⟩:∃ s:Int,s1+(bl y.m:Int)=s:=⟨_,rfl⟩;obtain ⟨s3,hs3'⟩:∃ s:Int,s2-(bl x.m:Int)=s:=⟨_,rfl⟩;have hw1:IntKind.i64.wrap ((p:Int)+1)=s1:=by simp [IntKind.wrap_i64];omega
  have hw2:IntKind.i64.wrap (s1+(bl y.m:Int))=s2:=by simp [IntKind.wrap_i64];omega
  have hw3:IntKind.i64.wrap (s2-(bl x.m:Int))=s3:=by simp [IntKind.wrap_i64];omega
  have hmx:max 0 s3=(kk:Int):=by rw [hK];unfold Ee;omega
  obtain ⟨d1,hd1⟩:∃ d:Int,x.e-y.e=d:=⟨_,rfl⟩;obtain ⟨d2,hd2⟩:∃ d:Int,d1-(kk:Int)=d:=⟨_,rfl⟩;have hw4:IntKind.i64.wrap (x.e-y.e)=d1:=by rw [hd1];simp [IntKind.wrap_i64];omega
  have hw5:IntKind.i64.wrap (d1-(kk:Int))=d2:=by rw [hd2];simp [IntKind.wrap_i64];omega
  rw [hd1,hd2] at hcu hoc;have hcu2:=fun w1 u (k:Kept w w1) (hu:Lim w1 u (limbs (x.m*2^kk/y.m)))=>hcu w1 u (decide (¬x.m*2^kk%y.m=0)) k hu
  rw [←hoc] at hcu2;have H1:=hid hs1;have H2:=hid hs2;have HL:=hid hle;have HQ:=hid hqr;have HC:=hid hcu2;have HRL:=hid hrl;have hl2d:decide (0<l2)=true:=by simp [hl2]
  clear hs1 hs2 hle hqr hcu hcu2 hrl hl2 hRx hRy hx hy hT p1 p2 h0 bx1 by1 xl xh yl yh limx limy blX lenX hout ho hoc hnb hs1' hs2' hs3' hd1 hd2 hK hKle;obtain ⟨rb,hrb⟩:∃ rb,decide (¬x.m*2^kk%y.m=0)=rb:=⟨_,rfl⟩;rw [hrb] at HC HRL;clear hrb;generalize limbs (x.m*2^kk)=xs at *;generalize bl x.m=b1 at *;generalize bl y.m=b2 at *;generalize x.neg=n1 at *;generalize x.e=e1 at *;generalize y.neg=n2 at *;generalize y.e=e2 at *;go_enter Tryz.func237,Tryz.ntmps237
  go_wp2_with (first
   | (go_at_call 220;rw [←HW.out];refine (HM.out _ (HK.out.trans (Ad _ _)) _ HO.out).mono ?_;rintro e w1 ⟨rfl,q⟩;have K:=hid (HK.out.trans ((Ad _ _).trans q));have hr:=HR.out.kept ((Ad _ _).trans q);have HR2:=hid hr;clear q hr x0 x1 x2 y0 y1 y2 cp cu;have cp:=Bc K.out CP.out;have cu:=Bc K.out CU.out;obtain ⟨-,x0,x1,x2,-⟩:=(HBX.out.kept K.out).facts;obtain ⟨-,y0,y1,y2,-⟩:=(HBY.out.kept K.out).facts)
   | (go_at_call 236;refine (Gj _ _ _).mono ?_;rintro e w3 ⟨he,rfl⟩;obtain rfl:e=.returned (.tuple #[]):=he))
  clear x0 x1 x2 y0 y1 y2 cp cu hl2d
  refine rgL 12 ([(vE (.int .i64 p)),(vE (.int .i64 s1)),(vP bY 1),(vE (.slice A2 l2 c2)),(vE (.int .i64 b2)),(vE (.int .i64 s2)),(vP bx 1),(vE (.slice A l c)),(vE (.int .i64 b1)),(vE (.int .i64 s3)),(vE (.int .i64 kk)),(vE (.int .i64 kk))])
   ⟨
    (fun aF wF F=>by have s0:=F.q 0 (.pointer (some ⟨bp,0,none⟩));exact sw (by have cq:=Bc F.kept (Bc K.out CP.out);go_simp) rfl),(gv 0 18),(gq 2),(gvl 2 20 fun _ k=>Ai (HBY.out.kept K.out) k 1 _ rfl),(fun aF wF F=>by have s21:=F.v 3 21;exact sQ (H2.out _ (K.out.trans F.kept)) fun _ _ h=>h),(gvv 1 19 4 22),(gq 1),(gvl 6 24 fun _ k=>Ai (HBX.out.kept K.out) k 1 _ rfl),(fun aF wF F=>by have s25:=F.v 7 25;exact sQ (H1.out _ (K.out.trans F.kept)) fun _ _ h=>h),(gvv 5 23 8 26),(gv 9 27),(gv 10 28),
    trivial⟩ ?_
  intro u w1 k1 hu;simp only [Bl,Au,if_true,Act.put,zlA,zlB,zlC,zlD,zlE,zlF,zlG,hv hu 0,hv hu 1,hv hu 2,hv hu 3,hv hu 4,hv hu 5,hv hu 6,hv hu 7,hv hu 8,hv hu 9,hv hu 10,hv hu 11];clear hu;have K1:=hid (K.out.trans k1);have HK1:=hid k1;clear k1 hw1 hw2 hw3 hmx;go_wp2_with fail
  refine rgL 12 ([(vP bx 1),(vE (.slice A l c)),(vE (.int .i64 kk)),(fun v wv=>Lim wv v (xs)),(vP bY 1),(vE (.slice A2 l2 c2)),(fun v wv=>∃ q r,v=.tuple #[q,r]∧Lim wv q (limbs (x.m*2^kk/y.m))∧Lim wv r (limbs (x.m*2^kk%y.m))),(fun v wv=>∃ q r,v=.tuple #[q,r]∧Lim wv q (limbs (x.m*2^kk/y.m))∧Lim wv r (limbs (x.m*2^kk%y.m))),(fun v wv=>Lim wv v (limbs (x.m*2^kk/y.m))),(fun v wv=>Lim wv v (limbs (x.m*2^kk%y.m))),(fun v wv=>Lim wv v (limbs (x.m*2^kk/y.m))),(fun v wv=>Lim wv v (limbs (x.m*2^kk%y.m)))])
   (hM:=⟨⟨mE,mE,mE,mL,mE,mE,fun v w w' k h=>by obtain ⟨q,r,e,a,b⟩:=h;exact ⟨q,r,e,a.kept k,b.kept k⟩,fun v w w' k h=>by obtain ⟨q,r,e,a,b⟩:=h;exact ⟨q,r,e,a.kept k,b.kept k⟩,mL,mL,mL,mL,trivial⟩⟩) ⟨
     (gq 1),(gvl 0 30 fun _ k=>Ai (HBX.out.kept K1.out) k 1 _ rfl),(gq 5),(fun aF wF F=>by have s31:=F.v 1 31;have s32:=F.v 2 32;exact sL (HL.out _ (K1.out.trans F.kept)) fun _ _ h=>h),(gq 2),(gvl 4 34 fun _ k=>Ai (HBY.out.kept K1.out) k 1 _ rfl),(fun aF wF F=>by have s33:=F.p 3 33;have s35:=F.v 5 35;exact Bi (by simp [Region.wanted]) (by go_simp) (HQ.out _ _ (K1.out.trans F.kept) s33) (fun _ _ h=>RetQR.good h) (fun _ _ h=>h)),(gm 6 36),(fun aF wF F=>by have s29:=F.p 7 29;obtain ⟨q,r,e,a,b⟩:=s29;exact sv a),(fun aF wF F=>by have s29:=F.p 7 29;obtain ⟨q,r,e,a,b⟩:=s29;exact sv b),(gm 8 37),(gm 9 38),
     trivial⟩ ?_
  intro u w1 k1 hu;have p33:=hp hu 3;have p36:=hp hu 6;have p29:=hp hu 7;have p37:=hp hu 8;have p38:=hp hu 9;have p6:=hp hu 10;have p7:=hp hu 11;simp only [Bl,Au,if_true,Act.put,zlA,zlB,zlC,zlD,zlE,zlF,zlG,hv hu 0,hv hu 1,hv hu 2,hv hu 4,hv hu 5];clear hu;generalize u 3=v33,u 6=v36,u 7=v29,u 8=v37,u 9=v38,u 10=v6,u 11=v7 at *;have K2:=hid (K1.out.trans k1);have HR3:=hid (HR2.out.kept (HK1.out.trans k1));have P37:=hid p6;obtain ⟨A3,l3,c3,rfl,hl3⟩:=HRL.out _ _ p7;clear p33 p36 p29 p37 p38 p6 p7 k1 HL HQ H1 H2;obtain ⟨-,x0,x1,x2,-⟩:=(HBX.out.kept K2.out).facts;obtain ⟨-,y0,y1,y2,-⟩:=(HBY.out.kept K2.out).facts
  have cp:=Bc K2.out CP.out;have cu:=Bc K2.out CU.out;go_wp2_with fail;refine (HC.out _ _ K2.out P37.out).mono ?_;rintro e w2 ⟨q,⟨h0,u,rfl,hd⟩ | ⟨h0,rfl⟩⟩
  ·obtain ⟨A',l',c',rfl,hd,g1,g2⟩:=Eu hd;have hr:=HR3.out.kept q;obtain ⟨_,r0,r1,r2,f0,f1,f2⟩:=hr.facts;have HD:=hid hd;have H0:=hid h0;have HR4:=hid hr;have Q:=hid q;clear hd h0 hr q;simp only [];go_wp2_with fail;exact Co (HR4.out.laid _ _ _) rfl rfl rfl ⟨Bj (K2.out.trans Q.out) (Nat.le_refl _),.inl ⟨H0.out,_,rfl,(HD.out.dyW HR4.out (An _) (Ak _ _ _) (Aq _)).dyR g1 g2⟩⟩
  ·exact ⟨rfl,K2.out.trans q,.inr ⟨h0,rfl⟩⟩
theorem Aaa (a b:Dy)(p:Nat)(up:Bool):(Et a b p up).raw.k≠0→(Et a b p up).raw.v=rz:=by
 intro h
 show ((Et a b p up).v).raw=rz
 rw [(Adr a b p up).2 h,Hq]
theorem Aho (w:World)(x y z x' y' z' p u:Value):∃ W,W=((((w.alloc (.cells #[x,y,z] 30)).alloc (.cells #[x',y',z'] 30)).alloc (.cells #[p] 3)).alloc (.cells #[u] 4)).alloc (.cells #[.bool false,.slice none 0 0,.int .i64 0] 30) ∧
 Kept w W∧Blk W w.heap.size x y z∧Blk W (w.heap.size+1) x' y' z'∧W.cell? ⟨w.heap.size+1+1,0,none⟩=some p∧W.cell? ⟨w.heap.size+1+1+1,0,none⟩=some u∧Blk W (w.heap.size+1+1+1+1) (.bool false) (.slice none 0 0) (.int .i64 0):=by
 have k1:=Ad w (.cells #[x,y,z] 30)
 refine ⟨_,rfl,(((k1.trans (Ad _ _)).trans (Ad _ _)).trans (Ad _ _)).trans (Ad _ _),Bn (Bn (Bn (Bn (blk_new _ _ _ _) _) _) _) _,Bn (Bn (Bn (C8 _ _ _ _ _) _) _) _,
  Bc (Ad _ _) (Bc (Ad _ _) (Af7 _ _ _ _ _)),Bc (Ad _ _) ?_,?_⟩
 ·have:=Adc (((w.alloc (.cells #[x,y,z] 30)).alloc (.cells #[x',y',z'] 30)).alloc (.cells #[p] 3)) u 4;simp only [World.size_alloc] at this;exact this
 ·have:=blk_new ((((w.alloc (.cells #[x,y,z] 30)).alloc (.cells #[x',y',z'] 30)).alloc (.cells #[p] 3)).alloc (.cells #[u] 4)) (.bool false) (.slice none 0 0) (.int .i64 0);simp only [World.size_alloc] at this;exact this
theorem Sz {w:World}{v v':Value}{x y:Dy}{p:Nat}{up:Bool}(hv:DyR w v x.raw)(hv':DyR w v' y.raw)(hx:x.Ok)(hy:y.Ok)(hT:Tab w)(p1:1≤p)(p2:p≤2000) :
 Calls Tryz.prog 225 #[v,v',.int .i64 p,.bool up] w (RetE (Et x y p up).raw w):=by
 have hmf:=Es;obtain ⟨A,l,c,rfl,hv⟩:=Bu hv;obtain ⟨A2,l2,c2,rfl,hv'⟩:=Bu hv';obtain ⟨W,hW,kW,B0,B1,cp,cu,BR⟩:=Aho w (.bool x.neg) (.slice A l c) (.int .i64 x.e) (.bool y.neg) (.slice A2 l2 c2) (.int .i64 y.e) (.int .i64 p) (.bool up)
 have hf:=Ym (w:=W) (K:=237) (cap:=#[.pointer (some ⟨w.heap.size+1+1,0,none⟩),.pointer (some ⟨w.heap.size,0,none⟩),.pointer (some ⟨w.heap.size+1,0,none⟩),.pointer (some ⟨w.heap.size+1+1+1,0,none⟩)]) (o:=(Et x y p up).raw)
  (fun w1 k=>Agf hx hy (hT.kept (kW.trans k)) p1 p2 (Bc k cp) ⟨A,l,c,B0.kept k,hv.kept (kW.trans k)⟩ ⟨A2,l2,c2,B1.kept k,hv'.kept (kW.trans k)⟩ (Bc k cu)) (Aaa x y p up) (fun _=>rfl)
 have HF:=hid hf;have HW:=hid hW;have HK:=hid kW;have HR:=hid BR;clear hf hW kW B0 B1 cp cu BR hv hv' hx hy hT p1 p2;generalize Et x y p up=o at *;generalize x.neg=nx at *;generalize x.e=ex at *;generalize y.neg=ny at *;generalize y.e=ey at *;go_enter Tryz.func225,Tryz.ntmps225
 go_wp2_with (go_at_call 218;rw [←HW.out];refine HF.out.mono ?_;rintro e w1 ⟨q,u,rfl,hd⟩;obtain ⟨A',l',c',rfl,hd,g3,g4⟩:=Eu hd;have HD:=hid hd;have hb2:=HR.out.kept q;obtain ⟨_,c0,c1,c2,f0,f1,f2⟩:=hb2.facts;have HB2:=hid hb2;clear hd hb2)
 exact Hd (HB2.out.laid _ _ _) rfl rfl rfl ⟨Bj (HK.out.trans q) (by omega),_,rfl,(HD.out.dyW HB2.out (An _) (Ak _ _ _) (Aq _)).dyR g3 g4⟩
def IvR (w:World) (v:Value) (a:RawI):Prop:=∃ x y z x' y' z',v=.agg #[x,y,z,x',y',z']∧DyR w (.agg #[x,y,z]) a.lo∧DyR w (.agg #[x',y',z']) a.hi
theorem IvR.kept {w w':World}{v:Value}{a:RawI}(h:IvR w v a)(k:Kept w w'):IvR w' v a:=by
 obtain ⟨x,y,z,x',y',z',rfl,h1,h2⟩:=h;exact ⟨x,y,z,x',y',z',rfl,h1.kept k,h2.kept k⟩
theorem By {w:World}{v:Value}{r:Raw}(h:DyR w v r):∃ A l c,v=.agg #[.bool r.neg,.slice A l c,.int .i64 r.e]∧DyR w (.agg #[.bool r.neg,.slice A l c,.int .i64 r.e]) r:=by
 obtain ⟨A,l,c,rfl,-,-,-,-⟩:=h.shape;exact ⟨A,l,c,rfl,h⟩
theorem Ar {w:World}{v:Value}{a:RawI}(h:IvR w v a):∃ A l c A' l' c',v=.agg #[.bool a.lo.neg,.slice A l c,.int .i64 a.lo.e,.bool a.hi.neg,.slice A' l' c',.int .i64 a.hi.e] ∧
 DyR w (.agg #[.bool a.lo.neg,.slice A l c,.int .i64 a.lo.e]) a.lo∧DyR w (.agg #[.bool a.hi.neg,.slice A' l' c',.int .i64 a.hi.e]) a.hi:=by
 obtain ⟨x,y,z,x',y',z',rfl,h1,h2⟩:=h;obtain ⟨A,l,c,e1,h1⟩:=By h1;obtain ⟨A',l',c',e2,h2⟩:=By h2;injection e1 with e1;injection e1 with e1
 injection e2 with e2;injection e2 with e2
 simp only [List.cons.injEq,and_true] at e1 e2;obtain ⟨rfl,rfl,rfl⟩:=e1;obtain ⟨rfl,rfl,rfl⟩:=e2;exact ⟨A,l,c,A',l',c',rfl,h1,h2⟩
def BlkI (w:World) (b:Nat) (x y z x' y' z':Value):Prop:=w.heap[b]?=some (.cells #[x,y,z,x',y',z'] 51 (0,0))
theorem BlkI.facts {w:World}{b:Nat}{x y z x' y' z':Value}(h:BlkI w b x y z x' y' z'):b<w.heap.size∧w.cell? ⟨b,0,none⟩=some x∧w.cell? ⟨b,1,none⟩=some y∧w.cell? ⟨b,2,none⟩=some z ∧
 w.cell? ⟨b,3,none⟩=some x'∧w.cell? ⟨b,4,none⟩=some y'∧w.cell? ⟨b,5,none⟩=some z' :=
 ⟨(Array.getElem?_eq_some_iff.1 h).1,Ag h 0 _ rfl,Ag h 1 _ rfl,Ag h 2 _ rfl,Ag h 3 _ rfl,Ag h 4 _ rfl,Ag h 5 _ rfl⟩
theorem BlkI.kept {w w1:World}{b:Nat}{x y z x' y' z':Value}(h:BlkI w b x y z x' y' z')(k:Kept w w1):BlkI w1 b x y z x' y' z' :=
 (k.block b (Array.getElem?_eq_some_iff.1 h).1).trans h
theorem Cv (w:World)(x y z x' y' z':Value):BlkI (w.alloc (.cells #[x,y,z,x',y',z'] 51)) w.heap.size x y z x' y' z':=heap_alloc_new _ _
def RawI.lens (a:RawI) (k:Nat):Prop:=a.lo.m.length≤k∧a.hi.m.length≤k
theorem Abd (w:World)(x y z x' y' z':Value):∃ W,W=w.alloc (.cells #[x,y,z,x',y',z'] 51)∧Kept w W∧BlkI W w.heap.size x y z x' y' z' :=
 ⟨_,rfl,Ad _ _,Cv _ _ _ _ _ _ _⟩
theorem Fo {w:World}{v:Value}{r:Raw}(h:DyR w v r):Small r.m:=by
 obtain ⟨s,-,hs,-,-⟩:=h;exact hs.1
theorem Nl {w:World}{v:Value}{a:RawI}(hv:IvR w v a)(hl:a.lens 17592186044416) :
 Calls Tryz.prog 50 #[v] w (RetK (.bool (Ck a)) w):=by
 obtain ⟨A,l,c,A',l',c',rfl,h1,h2⟩:=Ar hv;have m1:=fun w1 (k:Kept w w1)=>J9 (h1.kept k) hl.1
 have m2:=fun w1 (k:Kept w w1)=>J9 (h2.kept k) hl.2
 have hc:Di a.lo=true→Di a.hi=true→∀ w1,Kept w w1→Calls Tryz.prog 52 #[.agg #[.bool a.lo.neg,.slice A l c,.int .i64 a.lo.e],.agg #[.bool a.hi.neg,.slice A' l' c',.int .i64 a.hi.e]] w1 (RetK (.int .i64 (Ce a.lo.dy.q a.hi.dy.q)) w1):=by
  intro d1 d2 w1 k;obtain ⟨e1,o1⟩:=Dq (Fo h1) d1;obtain ⟨e2,o2⟩:=Dq (Fo h2) d2;have g1:=h1.kept k;have g2:=h2.kept k;exact Hp (x:=a.lo.dy) (y:=a.hi.dy) (by rw [e1];exact g1) (by rw [e2];exact g2) o1 o2
 unfold Ck;have M1:=hid m1;have M2:=hid m2;have HC:=hid hc;clear m1 m2 hc h1 h2 hv hl;generalize a.lo.neg=n1 at *;generalize a.lo.e=e1 at *;generalize a.hi.neg=n2 at *;generalize a.hi.e=e2 at *;generalize Ce a.lo.dy.q a.hi.dy.q=cc at *;generalize Di a.lo=b1 at *;generalize Di a.hi=b2 at *;obtain ⟨W,hW,kW,BI⟩:=Abd w (.bool n1) (.slice A l c) (.int .i64 e1) (.bool n2) (.slice A' l' c') (.int .i64 e2);have HW:=hid hW;have HK:=hid kW;have HB:=hid BI;clear hW kW BI;cases b1
 ·rw [Bool.false_and,Bool.false_and];go_enter Tryz.func50,Tryz.ntmps50
  go_wp2_with (go_at_call 51;rw [←HW.out];refine (M1.out _ HK.out).mono ?_;rintro e w1 ⟨rfl,q⟩)
  go_ret;exact ⟨rfl,HK.out.trans q⟩
 ·cases b2
  ·rw [Bool.and_false,Bool.false_and];go_enter Tryz.func50,Tryz.ntmps50;go_wp2_with fail;rw [←HW.out];refine (M1.out _ HK.out).mono ?_;rintro e w1 ⟨rfl,q⟩;have K:=hid (HK.out.trans q);obtain ⟨-,c0,c1,c2,c3,c4,c5⟩:=(HB.out.kept q).facts;have HB2:=hid (HB.out.kept q);clear q;simp only [];go_wp2_with fail;refine (M2.out _ K.out).mono ?_;rintro e w2 ⟨rfl,q⟩;replace K:=hid (K.out.trans q);clear c0 c1 c2 c3 c4 c5;obtain ⟨-,c0,c1,c2,c3,c4,c5⟩:=(HB2.out.kept q).facts;clear q;simp only [];go_wp2_with fail;go_ret;exact ⟨rfl,K.out⟩
  ·rw [Bool.and_true,Bool.true_and];have hc:=HC.out rfl rfl;clear HC;have HC:=hid hc;clear hc;obtain ⟨rb,hrb⟩:∃ rb,decide (cc≤0)=rb:=⟨_,rfl⟩;rw [hrb];go_enter Tryz.func50,Tryz.ntmps50;go_wp2_with fail;rw [←HW.out];refine (M1.out _ HK.out).mono ?_;rintro e w1 ⟨rfl,q⟩;have K:=hid (HK.out.trans q);obtain ⟨-,c0,c1,c2,c3,c4,c5⟩:=(HB.out.kept q).facts;have HB2:=hid (HB.out.kept q);clear q;simp only [];go_wp2_with fail;refine (M2.out _ K.out).mono ?_;rintro e w2 ⟨rfl,q⟩;replace K:=hid (K.out.trans q);clear c0 c1 c2 c3 c4 c5;obtain ⟨-,c0,c1,c2,c3,c4,c5⟩:=(HB2.out.kept q).facts;clear q;simp only [];go_wp2_with fail
   refine (HC.out _ K.out).mono ?_;rintro e w3 ⟨rfl,q⟩;replace K:=hid (K.out.trans q);clear q;simp only [];go_wp2_with fail;go_ret;exact ⟨rfl,K.out⟩
instance iI {r:RawI}:Nonempty (I6 fun v w=>IvR w v r):=⟨fun _ _ _ k h=>h.kept k⟩
instance iNI {S:Nat} {x y z x' y' z':Value}:Nonempty (I6 fun v w=>∃ b,v=.pointer (some ⟨b,0,none⟩)∧S≤b∧BlkI w b x y z x' y' z'):=⟨fun _ _ _ k q=>by obtain ⟨b,e,q1,q2⟩:=q;exact ⟨b,e,q1,q2.kept k⟩⟩
def IvC (w:World) (v:Value) (a:Iv):Prop:=IvR w v a.raw
theorem IvC.kept {w w':World}{v:Value}{a:Iv}(h:IvC w v a)(k:Kept w w'):IvC w' v a:=IvR.kept h k
theorem Cc {w:World}{v:Value}{a:Iv}(h:IvC w v a):∃ A l c A' l' c',v=.agg #[.bool a.lo.neg,.slice A l c,.int .i64 a.lo.e,.bool a.hi.neg,.slice A' l' c',.int .i64 a.hi.e] ∧
 DyR w (.agg #[.bool a.lo.neg,.slice A l c,.int .i64 a.lo.e]) a.lo.raw∧DyR w (.agg #[.bool a.hi.neg,.slice A' l' c',.int .i64 a.hi.e]) a.hi.raw:=Ar h
theorem Ez {a:Iv}(h:a.Ok):a.raw.lens 17592186044416:=⟨by have:=Ds h.lo;show a.lo.raw.m.length≤_;omega,by have:=Ds h.hi;show a.hi.raw.m.length≤_;omega⟩
theorem Ha {w:World}{v:Value}{a:Iv}(hv:IvC w v a)(h:a.Ok):Calls Tryz.prog 50 #[v] w (RetK (.bool true) w):=by
 have:=Nl hv (Ez h);rwa [Ff h] at this
theorem Acv {w:World}{v:Value}{d:Dy}(hv:DyR w v d.raw)(h:d.Ok):Calls Tryz.prog 51 #[v] w (RetK (.bool true) w):=by
 have:=J9 hv (by have:=Ds h;omega);rwa [h.may] at this
def Wy (a:Iv) (d:Dy):Bool:=decide (Ce a.lo.q d.q≤0)&&decide (Ce d.q a.hi.q≤0)
theorem Abe (w:World)(x y z x' y' z' p q r:Value):∃ W,W=(w.alloc (.cells #[x,y,z,x',y',z'] 51)).alloc (.cells #[p,q,r] 30)∧Kept w W∧BlkI W w.heap.size x y z x' y' z'∧Blk W (w.heap.size+1) p q r :=
 ⟨_,rfl,(Ad _ _).trans (Ad _ _),(Cv _ _ _ _ _ _ _).kept (Ad _ _),C8 _ _ _ _ _⟩
theorem Ab8 {w:World}{v u:Value}{a:Iv}{d:Dy}(hv:IvC w v a)(hu:DyR w u d.raw)(ha:a.Ok)(hd:d.Ok) :
 Calls Tryz.prog 20 #[v,u] w (RetK (.bool (Wy a d)) w):=by
 have m1:=fun w1 (k:Kept w w1)=>Ha (hv.kept k) ha
 have m2:=fun w1 (k:Kept w w1)=>Acv (hu.kept k) hd
 obtain ⟨A,l,c,A',l',c',rfl,h1,h2⟩:=Cc hv;obtain ⟨A3,l3,c3,rfl,hu⟩:=Bu hu;have q1:=fun w1 (k:Kept w w1)=>Hp (h1.kept k) (hu.kept k) ha.lo hd
 have q2:=fun w1 (k:Kept w w1)=>Hp (hu.kept k) (h2.kept k) hd ha.hi
 unfold Wy;have M1:=hid m1;have M2:=hid m2;have Q1:=hid q1;have Q2:=hid q2;clear m1 m2 q1 q2 h1 h2 hv hu ha hd;generalize Ce a.lo.q d.q=r1 at *;generalize Ce d.q a.hi.q=r2 at *;generalize a.lo.neg=n1 at *;generalize a.lo.e=e1 at *;generalize a.hi.neg=n2 at *;generalize a.hi.e=e2 at *;generalize d.neg=n3 at *;generalize d.e=e3 at *;obtain ⟨W,hW,kW,BI,BD⟩:=Abe w (.bool n1) (.slice A l c) (.int .i64 e1) (.bool n2) (.slice A' l' c') (.int .i64 e2) (.bool n3) (.slice A3 l3 c3) (.int .i64 e3);have HW:=hid hW;have K:=hid kW;have HB:=hid BI;have HD:=hid BD;clear hW kW BI BD;have hr1:decide (r1≤0)=true∨decide (r1≤0)=false:=Ay _
 rcases hr1 with hr1 | hr1
 ·rw [hr1,Bool.true_and];obtain ⟨rb,hrb⟩:∃ rb,decide (r2≤0)=rb:=⟨_,rfl⟩;rw [hrb];go_enter Tryz.func20,Tryz.ntmps20;go_wp2_with fail;rw [←HW.out];refine (M1.out _ K.out).mono ?_;rintro e w1 ⟨rfl,q⟩;replace K:=hid (K.out.trans q);replace HB:=hid (HB.out.kept q);replace HD:=hid (HD.out.kept q);clear q;obtain ⟨-,c0,c1,c2,c3,c4,c5⟩:=HB.out.facts;obtain ⟨-,d0,d1,d2,-⟩:=HD.out.facts;simp only [];go_wp2_with fail;refine (M2.out _ K.out).mono ?_;clear c0 c1 c2 c3 c4 c5 d0 d1 d2;rintro e w1 ⟨rfl,q⟩;replace K:=hid (K.out.trans q);replace HB:=hid (HB.out.kept q);replace HD:=hid (HD.out.kept q);clear q;obtain ⟨-,c0,c1,c2,c3,c4,c5⟩:=HB.out.facts
  obtain ⟨-,d0,d1,d2,-⟩:=HD.out.facts;simp only [];go_wp2_with fail;refine (Q1.out _ K.out).mono ?_;clear c0 c1 c2 c3 c4 c5 d0 d1 d2;rintro e w1 ⟨rfl,q⟩;replace K:=hid (K.out.trans q);replace HB:=hid (HB.out.kept q);replace HD:=hid (HD.out.kept q);clear q;obtain ⟨-,c0,c1,c2,c3,c4,c5⟩:=HB.out.facts;obtain ⟨-,d0,d1,d2,-⟩:=HD.out.facts;simp only [];go_wp2_with fail;refine (Q2.out _ K.out).mono ?_;rintro e w4 ⟨rfl,q⟩;replace K:=hid (K.out.trans q);clear q;simp only [];go_wp2_with fail;go_ret;exact ⟨rfl,K.out⟩
 ·rw [hr1,Bool.false_and];go_enter Tryz.func20,Tryz.ntmps20;go_wp2_with fail;rw [←HW.out];refine (M1.out _ K.out).mono ?_;rintro e w1 ⟨rfl,q⟩;replace K:=hid (K.out.trans q);replace HB:=hid (HB.out.kept q);replace HD:=hid (HD.out.kept q);clear q;obtain ⟨-,c0,c1,c2,c3,c4,c5⟩:=HB.out.facts;obtain ⟨-,d0,d1,d2,-⟩:=HD.out.facts;simp only [];go_wp2_with fail;refine (M2.out _ K.out).mono ?_;clear c0 c1 c2 c3 c4 c5 d0 d1 d2;rintro e w1 ⟨rfl,q⟩;replace K:=hid (K.out.trans q);replace HB:=hid (HB.out.kept q);replace HD:=hid (HD.out.kept q);clear q;obtain ⟨-,c0,c1,c2,c3,c4,c5⟩:=HB.out.facts;obtain ⟨-,d0,d1,d2,-⟩:=HD.out.facts
  simp only [];go_wp2_with fail;refine (Q1.out _ K.out).mono ?_;clear c0 c1 c2 c3 c4 c5 d0 d1 d2;rintro e w1 ⟨rfl,q⟩;replace K:=hid (K.out.trans q);replace HB:=hid (HB.out.kept q);replace HD:=hid (HD.out.kept q);clear q;obtain ⟨-,c0,c1,c2,c3,c4,c5⟩:=HB.out.facts;obtain ⟨-,d0,d1,d2,-⟩:=HD.out.facts;simp only [];go_wp2_with fail;go_ret;exact ⟨rfl,K.out⟩
theorem L5 (w:World)(x y z x' y' z' p q r p' q' r':Value):∃ W,W=(w.alloc (.cells #[x,y,z,x',y',z'] 51)).alloc (.cells #[p,q,r,p',q',r'] 51)∧Kept w W∧BlkI W w.heap.size x y z x' y' z'∧BlkI W (w.heap.size+1) p q r p' q' r':=by
 refine ⟨_,rfl,(Ad _ _).trans (Ad _ _),(Cv _ _ _ _ _ _ _).kept (Ad _ _),?_⟩;have:=Cv (w.alloc (.cells #[x,y,z,x',y',z'] 51)) p q r p' q' r';simpa using this
def Ki (a b:Dy):Dy:=if Ce a.q b.q≤0 then a else b
def F8 (a b:Dy):Dy:=if 0≤Ce a.q b.q then a else b
theorem Uo {w:World}{v u:Value}{x y:Dy}(ha:DyR w v x.raw)(hb:DyR w u y.raw)(hx:x.Ok)(hy:y.Ok) :
 Calls Tryz.prog 125 #[v,u] w (RetD (Ki x y).raw w):=by
 have hc:=fun w1 (k:Kept w w1)=>Hp (ha.kept k) (hb.kept k) hx hy
 unfold Ki;obtain ⟨A,l,c,rfl,-,la,xa,xb⟩:=ha.shape;obtain ⟨A2,l2,c2,rfl,-,lb,ya,yb⟩:=hb.shape;obtain ⟨W,hW,kW,B0,B1,B2⟩:=Ie w (.bool x.neg) (.slice A l c) (.int .i64 x.e) (.bool y.neg) (.slice A2 l2 c2) (.int .i64 y.e);have HC:=hid hc;have HW:=hid hW;have K:=hid kW;have HB0:=hid B0;have HB1:=hid B1;have HB2:=hid B2;have LA:=hid la;have LB:=hid lb;have BX:=hid (And.intro xa xb);have BY:=hid (And.intro ya yb);clear hc hW kW B0 B1 B2 la lb xa xb ya yb ha hb hx hy;simp only [Dy.raw] at *;generalize Ce x.q y.q=cc at *;by_cases hcc:cc≤0
 ·rw [if_pos hcc];have hd:decide (cc≤0)=true:=by simp [hcc]
  clear hcc;go_enter Tryz.func125,Tryz.ntmps125;go_wp2_with fail;rw [←HW.out];refine (HC.out _ K.out).mono ?_;rintro e w1 ⟨rfl,q⟩;replace K:=hid (K.out.trans q);replace HB0:=hid (HB0.out.kept q);replace HB1:=hid (HB1.out.kept q);replace HB2:=hid (HB2.out.kept q);clear q;obtain ⟨-,a0,a1,a2,-⟩:=HB0.out.facts;obtain ⟨-,b0,b1,b2,-⟩:=HB1.out.facts;obtain ⟨_,c0,c1,c2,f0,f1,f2⟩:=HB2.out.facts;simp only [];go_wp2_with fail;exact Co (HB2.out.laid _ _ _) rfl rfl rfl ⟨Bj K.out (by omega),_,rfl,((LA.out.kept K.out).dyW HB2.out (An _) (Ak _ _ _) (Aq _)).dyR (r:=⟨x.neg,limbs x.m,x.e⟩) BX.out.1 BX.out.2⟩
 ·rw [if_neg hcc];have hd:decide (cc≤0)=false:=by simp [hcc]
  clear hcc;go_enter Tryz.func125,Tryz.ntmps125;go_wp2_with fail;rw [←HW.out];refine (HC.out _ K.out).mono ?_;rintro e w1 ⟨rfl,q⟩;replace K:=hid (K.out.trans q);replace HB0:=hid (HB0.out.kept q);replace HB1:=hid (HB1.out.kept q);replace HB2:=hid (HB2.out.kept q);clear q;obtain ⟨-,a0,a1,a2,-⟩:=HB0.out.facts;obtain ⟨-,b0,b1,b2,-⟩:=HB1.out.facts;obtain ⟨_,c0,c1,c2,f0,f1,f2⟩:=HB2.out.facts;simp only [];go_wp2_with fail;exact Co (HB2.out.laid _ _ _) rfl rfl rfl ⟨Bj K.out (by omega),_,rfl,((LB.out.kept K.out).dyW HB2.out (An _) (Ak _ _ _) (Aq _)).dyR (r:=⟨y.neg,limbs y.m,y.e⟩) BY.out.1 BY.out.2⟩
theorem N8 {w:World}{v u:Value}{x y:Dy}(ha:DyR w v x.raw)(hb:DyR w u y.raw)(hx:x.Ok)(hy:y.Ok) :
 Calls Tryz.prog 126 #[v,u] w (RetD (F8 x y).raw w):=by
 have hc:=fun w1 (k:Kept w w1)=>Hp (ha.kept k) (hb.kept k) hx hy
 unfold F8;obtain ⟨A,l,c,rfl,-,la,xa,xb⟩:=ha.shape;obtain ⟨A2,l2,c2,rfl,-,lb,ya,yb⟩:=hb.shape;obtain ⟨W,hW,kW,B0,B1,B2⟩:=Ie w (.bool x.neg) (.slice A l c) (.int .i64 x.e) (.bool y.neg) (.slice A2 l2 c2) (.int .i64 y.e);have HC:=hid hc;have HW:=hid hW;have K:=hid kW;have HB0:=hid B0;have HB1:=hid B1;have HB2:=hid B2;have LA:=hid la;have LB:=hid lb;have BX:=hid (And.intro xa xb);have BY:=hid (And.intro ya yb);clear hc hW kW B0 B1 B2 la lb xa xb ya yb ha hb hx hy;simp only [Dy.raw] at *;generalize Ce x.q y.q=cc at *;by_cases hcc:0≤cc
 ·rw [if_pos hcc];have hd:decide (0≤cc)=true:=by simp [hcc]
  clear hcc;go_enter Tryz.func126,Tryz.ntmps126;go_wp2_with fail;rw [←HW.out];refine (HC.out _ K.out).mono ?_;rintro e w1 ⟨rfl,q⟩;replace K:=hid (K.out.trans q);replace HB0:=hid (HB0.out.kept q);replace HB1:=hid (HB1.out.kept q);replace HB2:=hid (HB2.out.kept q);clear q;obtain ⟨-,a0,a1,a2,-⟩:=HB0.out.facts;obtain ⟨-,b0,b1,b2,-⟩:=HB1.out.facts;obtain ⟨_,c0,c1,c2,f0,f1,f2⟩:=HB2.out.facts;simp only [];go_wp2_with fail;exact Co (HB2.out.laid _ _ _) rfl rfl rfl ⟨Bj K.out (by omega),_,rfl,((LA.out.kept K.out).dyW HB2.out (An _) (Ak _ _ _) (Aq _)).dyR (r:=⟨x.neg,limbs x.m,x.e⟩) BX.out.1 BX.out.2⟩
 ·rw [if_neg hcc];have hd:decide (0≤cc)=false:=by simp [hcc]
  clear hcc;go_enter Tryz.func126,Tryz.ntmps126;go_wp2_with fail;rw [←HW.out];refine (HC.out _ K.out).mono ?_;rintro e w1 ⟨rfl,q⟩;replace K:=hid (K.out.trans q);replace HB0:=hid (HB0.out.kept q);replace HB1:=hid (HB1.out.kept q);replace HB2:=hid (HB2.out.kept q);clear q;obtain ⟨-,a0,a1,a2,-⟩:=HB0.out.facts;obtain ⟨-,b0,b1,b2,-⟩:=HB1.out.facts;obtain ⟨_,c0,c1,c2,f0,f1,f2⟩:=HB2.out.facts;simp only [];go_wp2_with fail;exact Co (HB2.out.laid _ _ _) rfl rfl rfl ⟨Bj K.out (by omega),_,rfl,((LB.out.kept K.out).dyW HB2.out (An _) (Ak _ _ _) (Aq _)).dyR (r:=⟨y.neg,limbs y.m,y.e⟩) BY.out.1 BY.out.2⟩
def Fk (a b:Iv):Bool:=decide (0<Ce a.lo.q b.lo.q)&&decide (0<Ce b.hi.q a.hi.q)
theorem Nm (n:Int)(w:World):Calls Tryz.prog 181 #[.int .i64 n] w (RetK (.bool (decide (0<n))) w):=by
 go_enter Tryz.func181,Tryz.ntmps181;go_wp2;go_ret;exact ⟨rfl,Below.refl _ _⟩
theorem Afd {w:World}{v u:Value}{a b:Iv}(hv:IvC w v a)(hu:IvC w u b)(ha:a.Ok)(hb:b.Ok) :
 Calls Tryz.prog 180 #[v,u,.func (.func 181) #[] #[]] w (RetK (.bool (Fk a b)) w):=by
 have m1:=fun w1 (k:Kept w w1)=>Ha (hv.kept k) ha
 have m2:=fun w1 (k:Kept w w1)=>Ha (hu.kept k) hb
 obtain ⟨A,l,c,A',l',c',rfl,h1,h2⟩:=Cc hv;obtain ⟨B,j,e,B',j',e',rfl,g1,g2⟩:=Cc hu;have q1:=fun w1 (k:Kept w w1)=>Hp (h1.kept k) (g1.kept k) ha.lo hb.lo
 have q2:=fun w1 (k:Kept w w1)=>Hp (g2.kept k) (h2.kept k) hb.hi ha.hi
 unfold Fk;have M1:=hid m1;have M2:=hid m2;have Q1:=hid q1;have Q2:=hid q2;clear m1 m2 q1 q2 h1 h2 g1 g2 hv hu ha hb;generalize Ce a.lo.q b.lo.q=r1 at *;generalize Ce b.hi.q a.hi.q=r2 at *;generalize a.lo.neg=n1 at *;generalize a.lo.e=e1 at *;generalize a.hi.neg=n2 at *;generalize a.hi.e=e2 at *;generalize b.lo.neg=n3 at *;generalize b.lo.e=e3 at *;generalize b.hi.neg=n4 at *;generalize b.hi.e=e4 at *;obtain ⟨W,hW,kW,BI,BJ⟩:=L5 w (.bool n1) (.slice A l c) (.int .i64 e1) (.bool n2) (.slice A' l' c') (.int .i64 e2) (.bool n3) (.slice B j e) (.int .i64 e3) (.bool n4) (.slice B' j' e') (.int .i64 e4)
 have HW:=hid hW;have K:=hid kW;have HB:=hid BI;have HD:=hid BJ;clear hW kW BI BJ;have hr1:decide (0<r1)=true∨decide (0<r1)=false:=Ay _;rcases hr1 with hr1 | hr1
 ·rw [hr1,Bool.true_and];obtain ⟨rb,hrb⟩:∃ rb,decide (0<r2)=rb:=⟨_,rfl⟩;rw [hrb];go_enter Tryz.func180,Tryz.ntmps180;go_wp2_with fail;rw [←HW.out];refine (M1.out _ K.out).mono ?_;rintro e w1 ⟨rfl,q⟩;replace K:=hid (K.out.trans q);replace HB:=hid (HB.out.kept q);replace HD:=hid (HD.out.kept q);clear q;obtain ⟨-,c0,c1,c2,c3,c4,c5⟩:=HB.out.facts;obtain ⟨-,d0,d1,d2,d3,d4,d5⟩:=HD.out.facts;simp only [];go_wp2_with fail;refine (M2.out _ K.out).mono ?_;clear c0 c1 c2 c3 c4 c5 d0 d1 d2 d3 d4 d5;rintro e w1 ⟨rfl,q⟩;replace K:=hid (K.out.trans q);replace HB:=hid (HB.out.kept q);replace HD:=hid (HD.out.kept q)
  clear q;obtain ⟨-,c0,c1,c2,c3,c4,c5⟩:=HB.out.facts;obtain ⟨-,d0,d1,d2,d3,d4,d5⟩:=HD.out.facts;simp only [];go_wp2_with fail;refine (Q1.out _ K.out).mono ?_;clear c0 c1 c2 c3 c4 c5 d0 d1 d2 d3 d4 d5;rintro e w1 ⟨rfl,q⟩;replace K:=hid (K.out.trans q);replace HB:=hid (HB.out.kept q);replace HD:=hid (HD.out.kept q);clear q;obtain ⟨-,c0,c1,c2,c3,c4,c5⟩:=HB.out.facts;obtain ⟨-,d0,d1,d2,d3,d4,d5⟩:=HD.out.facts;simp only [];go_wp2_with fail;refine (Nm _ _).mono ?_;clear c0 c1 c2 c3 c4 c5 d0 d1 d2 d3 d4 d5;rintro e w1 ⟨rfl,q⟩;replace K:=hid (K.out.trans q);replace HB:=hid (HB.out.kept q);replace HD:=hid (HD.out.kept q)
  clear q;obtain ⟨-,c0,c1,c2,c3,c4,c5⟩:=HB.out.facts;obtain ⟨-,d0,d1,d2,d3,d4,d5⟩:=HD.out.facts;simp only [];go_wp2_with fail;refine (Q2.out _ K.out).mono ?_;clear c0 c1 c2 c3 c4 c5 d0 d1 d2 d3 d4 d5;rintro e w1 ⟨rfl,q⟩;replace K:=hid (K.out.trans q);replace HB:=hid (HB.out.kept q);replace HD:=hid (HD.out.kept q);clear q;obtain ⟨-,c0,c1,c2,c3,c4,c5⟩:=HB.out.facts;obtain ⟨-,d0,d1,d2,d3,d4,d5⟩:=HD.out.facts;simp only [];go_wp2_with fail;refine (Nm _ _).mono ?_;clear c0 c1 c2 c3 c4 c5 d0 d1 d2 d3 d4 d5;rintro e w1 ⟨rfl,q⟩;replace K:=hid (K.out.trans q);replace HB:=hid (HB.out.kept q);replace HD:=hid (HD.out.kept q)
  clear q;obtain ⟨-,c0,c1,c2,c3,c4,c5⟩:=HB.out.facts;obtain ⟨-,d0,d1,d2,d3,d4,d5⟩:=HD.out.facts;simp only [];go_wp2_with fail;go_ret;exact ⟨by simp [hrb],K.out⟩
 ·rw [hr1,Bool.false_and];go_enter Tryz.func180,Tryz.ntmps180;go_wp2_with fail;rw [←HW.out];refine (M1.out _ K.out).mono ?_;rintro e w1 ⟨rfl,q⟩;replace K:=hid (K.out.trans q);replace HB:=hid (HB.out.kept q);replace HD:=hid (HD.out.kept q);clear q;obtain ⟨-,c0,c1,c2,c3,c4,c5⟩:=HB.out.facts;obtain ⟨-,d0,d1,d2,d3,d4,d5⟩:=HD.out.facts;simp only [];go_wp2_with fail;refine (M2.out _ K.out).mono ?_;clear c0 c1 c2 c3 c4 c5 d0 d1 d2 d3 d4 d5;rintro e w1 ⟨rfl,q⟩;replace K:=hid (K.out.trans q);replace HB:=hid (HB.out.kept q);replace HD:=hid (HD.out.kept q);clear q;obtain ⟨-,c0,c1,c2,c3,c4,c5⟩:=HB.out.facts
  obtain ⟨-,d0,d1,d2,d3,d4,d5⟩:=HD.out.facts;simp only [];go_wp2_with fail;refine (Q1.out _ K.out).mono ?_;clear c0 c1 c2 c3 c4 c5 d0 d1 d2 d3 d4 d5;rintro e w1 ⟨rfl,q⟩;replace K:=hid (K.out.trans q);replace HB:=hid (HB.out.kept q);replace HD:=hid (HD.out.kept q);clear q;obtain ⟨-,c0,c1,c2,c3,c4,c5⟩:=HB.out.facts;obtain ⟨-,d0,d1,d2,d3,d4,d5⟩:=HD.out.facts;simp only [];go_wp2_with fail;refine (Nm _ _).mono ?_;clear c0 c1 c2 c3 c4 c5 d0 d1 d2 d3 d4 d5;rintro e w1 ⟨rfl,q⟩;replace K:=hid (K.out.trans q);replace HB:=hid (HB.out.kept q);replace HD:=hid (HD.out.kept q);clear q;obtain ⟨-,c0,c1,c2,c3,c4,c5⟩:=HB.out.facts
  obtain ⟨-,d0,d1,d2,d3,d4,d5⟩:=HD.out.facts;simp only [];go_wp2_with fail;go_ret;exact ⟨by simp [hr1],K.out⟩
theorem Acg {w:World}{v u:Value}{a b:Iv}(hv:IvC w v a)(hu:IvC w u b)(ha:a.Ok)(hb:b.Ok) :
 Calls Tryz.prog 147 #[v,u] w (RetK (.bool (Fk a b)) w):=by
 have he:=fun w1 (k:Kept w w1)=>Afd (hv.kept k) (hu.kept k) ha hb
 obtain ⟨A,l,c,A',l',c',rfl,-,-⟩:=Cc hv;obtain ⟨B,j,e,B',j',e',rfl,-,-⟩:=Cc hu;have HE:=hid he;clear he hv hu ha hb;generalize Fk a b=rb at *;generalize a.lo.neg=n1 at *;generalize a.lo.e=e1 at *;generalize a.hi.neg=n2 at *;generalize a.hi.e=e2 at *;generalize b.lo.neg=n3 at *;generalize b.lo.e=e3 at *;generalize b.hi.neg=n4 at *;generalize b.hi.e=e4 at *;obtain ⟨W,hW,kW,-,-⟩:=L5 w (.bool n1) (.slice A l c) (.int .i64 e1) (.bool n2) (.slice A' l' c') (.int .i64 e2) (.bool n3) (.slice B j e) (.int .i64 e3) (.bool n4) (.slice B' j' e') (.int .i64 e4);have HW:=hid hW;have K:=hid kW
 clear hW kW;go_enter Tryz.func147,Tryz.ntmps147;go_wp2_with fail;rw [←HW.out];refine (HE.out _ K.out).mono ?_;rintro e w1 ⟨rfl,q⟩;simp only [];go_wp2_with fail;go_ret;exact ⟨rfl,K.out.trans q⟩
end Go.Proofs.YtmgaloopddiekaaGreatDoor
