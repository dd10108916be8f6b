/- Words and contracts, part 43. -/
import Derived.Test.YtinbgjcooolbiaaGreatDoorClaimAsksp40
import Derived.Test.YtinbgjcooolbiaaGreatDoorClaimAsksp42
set_option maxRecDepth 100000
set_option maxHeartbeats 0
namespace Go.Proofs.YtinbgjcooolbiaaGreatDoor
open Go.Lib (hid)
open Go.RowKit
def xs4 (a:Iv) (k:Nat):Dy:=if k<2 then a.lo else a.hi
def ys4 (b:Iv) (k:Nat):Dy:=if k%2=0 then b.lo else b.hi
def Bs (a b:Iv) (k:Nat):Outc Dy:=Bz (xs4 a k) (ys4 b k)
def loS (z:Nat→Outc Dy):Nat→Dy
 | 0=>dz
 | k+1=>if Bn (z k).v.q (if k=0 then (z k).v else loS z k).q<0 then (z k).v else (if k=0 then (z k).v else loS z k)
def hiS (z:Nat→Outc Dy):Nat→Dy
 | 0=>dz
 | k+1=>if Bn (if k=0 then (z k).v else hiS z k).q (z k).v.q<0 then (z k).v else (if k=0 then (z k).v else hiS z k)
theorem Acp {a:Iv}(h:a.Ok)(k:Nat):(xs4 a k).Ok:=by unfold xs4;split;exact h.lo;exact h.hi
theorem Acq {a:Iv}(h:a.Ok)(k:Nat):(ys4 a k).Ok:=by unfold ys4;split;exact h.lo;exact h.hi
theorem Zv (a b:Iv)(k:Nat):(Bs a b k).v.Ok:=(Fe _ _).1
theorem So {z:Nat→Outc Dy}(h:∀ k,(z k).v.Ok):∀ k,(loS z k).Ok
 | 0=>dz_ok
 | k + 1 => by
   have ih:=So h k;have hy:(if k=0 then (z k).v else loS z k).Ok:=by
    by_cases h0:k=0
    ·rw [if_pos h0];exact h k
    ·rw [if_neg h0];exact ih
   unfold loS;generalize (if k=0 then (z k).v else loS z k)=y at *;split
   ·exact h k
   ·exact hy
theorem Sm {z:Nat→Outc Dy}(h:∀ k,(z k).v.Ok):∀ k,(hiS z k).Ok
 | 0=>dz_ok
 | k + 1 => by
   have ih:=Sm h k;have hy:(if k=0 then (z k).v else hiS z k).Ok:=by
    by_cases h0:k=0
    ·rw [if_pos h0];exact h k
    ·rw [if_neg h0];exact ih
   unfold hiS;generalize (if k=0 then (z k).v else hiS z k)=y at *;split
   ·exact h k
   ·exact hy
theorem Wa (x y:Rat):(0<Bn x y)=(Bn y x<0):=by rw [I0,Gn]
theorem Zp (z:Nat→Outc Dy):loS z 4=Bp (z 0).v [(z 0).v,(z 1).v,(z 2).v,(z 3).v]:=by
 have e1:¬(1:Nat)=0:=by decide
 have e2:¬(2:Nat)=0:=by decide
 have e3:¬(3:Nat)=0:=by decide
 simp only [loS,Bp,ite_self,if_neg e1,if_neg e2,if_neg e3,if_true]
theorem Zj (z:Nat→Outc Dy):hiS z 4=Av (z 0).v [(z 0).v,(z 1).v,(z 2).v,(z 3).v]:=by
 have e1:¬(1:Nat)=0:=by decide
 have e2:¬(2:Nat)=0:=by decide
 have e3:¬(3:Nat)=0:=by decide
 simp only [hiS,Av,ite_self,if_neg e1,if_neg e2,if_neg e3,if_true,Wa]
theorem Tw (a b:Iv)(p:Nat):H4 a b p=four (Bs a b 0) (Bs a b 1) (Bs a b 2) (Bs a b 3) fun x y z u=>D0 (Bv (Bp x [x,y,z,u]) p false) (Bv (Av x [x,y,z,u]) p true):=rfl
theorem W8 {a b:Iv}{p:Nat}(h:∀ j,j<4→(Bs a b j).k=0):Bj (H4 a b p)=Bj (D0 (Bv (loS (Bs a b) 4) p false) (Bv (hiS (Bs a b) 4) p true)):=by
 rw [Zp,Zj];rw [Tw];unfold four;rw [Outc.bind_of _ _ (h 0 (by omega)),Outc.bind_of _ _ (h 1 (by omega)),Outc.bind_of _ _ (h 2 (by omega)),Outc.bind_of _ _ (h 3 (by omega))]
theorem J4 {α β:Type}{o:Outc α}{z:β}{f:α→Outc β}(h:o.k≠0):o.bind z f=⟨z,o.k⟩:=by unfold Outc.bind;rw [if_neg h]
theorem Zs {a b:Iv}{p k:Nat}(hk:k<4)(h:∀ j,j<k→(Bs a b j).k=0)(hb:(Bs a b k).k≠0):Bj (H4 a b p)=⟨rzI,(Bs a b k).k⟩:=by
 have e:H4 a b p=⟨iz,(Bs a b k).k⟩:=by
  rw [Tw];unfold four;rcases k with _ | _ | _ | _ | k
  ·exact J4 hb
  ·rw [Outc.bind_of _ _ (h 0 (by omega))];exact J4 hb
  ·rw [Outc.bind_of _ _ (h 0 (by omega)),Outc.bind_of _ _ (h 1 (by omega))];exact J4 hb
  ·rw [Outc.bind_of _ _ (h 0 (by omega)),Outc.bind_of _ _ (h 1 (by omega)),Outc.bind_of _ _ (h 2 (by omega))];exact J4 hb
  ·omega
 rw [e,Bj,Gb]
theorem Ql {w:World}{s0 s1 s2 s3:Value}{d0 d1 d2 d3:Dy}{n:Nat}(hn:w.heap.size=n)(h0:DyR w (.agg #[.bool d0.neg,s0,.int .i64 d0.e]) d0.raw)(h1:DyR w (.agg #[.bool d1.neg,s1,.int .i64 d1.e]) d1.raw)
 (h2:DyR w (.agg #[.bool d2.neg,s2,.int .i64 d2.e]) d2.raw) (h3:DyR w (.agg #[.bool d3.neg,s3,.int .i64 d3.e]) d3.raw) :
 DyS (w.alloc (.cells #[.bool d0.neg,s0,.int .i64 d0.e,.bool d1.neg,s1,.int .i64 d1.e,.bool d2.neg,s2,.int .i64 d2.e,.bool d3.neg,s3,.int .i64 d3.e] 24)) (.slice (some ⟨n,0,none⟩) 4 4) [d0,d1,d2,d3]:=by
 subst hn;refine ⟨_,4,rfl,Nat.le_refl _,fun _=>⟨_,_,rfl,fun i x hi=>?_⟩⟩;have hb:=heap_alloc_new w (.cells #[.bool d0.neg,s0,.int .i64 d0.e,.bool d1.neg,s1,.int .i64 d1.e,.bool d2.neg,s2,.int .i64 d2.e,.bool d3.neg,s3,.int .i64 d3.e] 24);have hlt:i<4:=by
  have:=(List.getElem?_eq_some_iff.1 hi).1;simpa using this
 rcases i with _ | _ | _ | _ | i
 ·simp at hi;subst hi;exact ⟨s0,Ae hb 0 _ rfl,Ae hb 1 _ rfl,Ae hb 2 _ rfl,h0.kept (Ad _ _)⟩
 ·simp at hi;subst hi;exact ⟨s1,Ae hb 3 _ rfl,Ae hb 4 _ rfl,Ae hb 5 _ rfl,h1.kept (Ad _ _)⟩
 ·simp at hi;subst hi;exact ⟨s2,Ae hb 6 _ rfl,Ae hb 7 _ rfl,Ae hb 8 _ rfl,h2.kept (Ad _ _)⟩
 ·simp at hi;subst hi;exact ⟨s3,Ae hb 9 _ rfl,Ae hb 10 _ rfl,Ae hb 11 _ rfl,h3.kept (Ad _ _)⟩
 ·omega
theorem DyS.four {w:World}{v:Value}{d0 d1 d2 d3:Dy}(h:DyS w v [d0,d1,d2,d3])(f:Nat→Dy)(h0:f 0=d0)(h1:f 1=d1)(h2:f 2=d2)(h3:f 3=d3) :
 ∃ b o c,v=.slice (some ⟨b,o,none⟩) 4 c∧∀ k,k<4→DyAt w b (o+k*3) (f k):=by
 obtain ⟨A,c,rfl,-,hA⟩:=h;obtain ⟨b,o,rfl,hd⟩:=hA (by simp);refine ⟨b,o,c,rfl,fun k hk=>hd k (f k) ?_⟩;rcases k with _ | _ | _ | _ | k
 ·rw [h0];rfl
 ·rw [h1];rfl
 ·rw [h2];rfl
 ·rw [h3];rfl
 ·omega
theorem Aa0 {w0 w:World}{b6 b7:Nat}{m6 m7:Bool}{B6 B7 P6 P7:Option Addr}{i6 j6 i7 j7 l6 c6 l7 c7:Nat}{t6 t7:Int}{d6 d7:Dy}(k:Kept w0 w)(s6:w0.heap.size≤b6)(s7:w0.heap.size≤b7)(hb:¬b6=b7)
 (h6:Blk w b6 (.bool m6) (.slice B6 i6 j6) (.int .i64 t6)) (h7:Blk w b7 (.bool m7) (.slice B7 i7 j7) (.int .i64 t7))
 (z6:DyR w (.agg #[.bool d6.neg,.slice P6 l6 c6,.int .i64 d6.e]) d6.raw) (z7:DyR w (.agg #[.bool d7.neg,.slice P7 l7 c7,.int .i64 d7.e]) d7.raw) :
 Kept w0 (dyW (dyW w b6 (.bool d6.neg) (.slice P6 l6 c6) (.int .i64 d6.e)) b7 (.bool d7.neg) (.slice P7 l7 c7) (.int .i64 d7.e)) ∧
 BoxD (dyW (dyW w b6 (.bool d6.neg) (.slice P6 l6 c6) (.int .i64 d6.e)) b7 (.bool d7.neg) (.slice P7 l7 c7) (.int .i64 d7.e)) b6 d6.raw ∧
 BoxD (dyW (dyW w b6 (.bool d6.neg) (.slice P6 l6 c6) (.int .i64 d6.e)) b7 (.bool d7.neg) (.slice P7 l7 c7) (.int .i64 d7.e)) b7 d7.raw:=by
 have g7:Blk (dyW w b6 (.bool d6.neg) (.slice P6 l6 c6) (.int .i64 d6.e)) b7 (.bool m7) (.slice B7 i7 j7) (.int .i64 t7):=h7.laid_other (fun h=>hb h.symm) _ _ _;refine ⟨Al (Al k s6) s7,⟨P6,l6,c6,(h6.laid _ _ _).laid_other hb _ _ _,?_⟩,⟨P7,l7,c7,g7.laid _ _ _,?_⟩⟩
 ·exact (z6.dyW h6 (Ah _) (Af _ _ _) (Ai _) _ _ _).dyW g7 (Ah _) (Af _ _ _) (Ai _) _ _ _
 ·exact (z7.dyW h6 (Ah _) (Af _ _ _) (Ai _) _ _ _).dyW g7 (Ah _) (Af _ _ _) (Ai _) _ _ _
theorem Md {w00 w0 w:World}{b6 b7 b r:Nat}{m6 m7:Bool}{B6 B7 P6 P7 P:Option Addr}{i6 j6 i7 j7 l6 c6 l7 c7 l c:Nat}{t6 t7:Int}{d6 d7 d:Dy}(k0:Kept w00 w)(k:Kept w0 w)(hr:BlkI w r (.bool false) (.slice none 0 0) (.int .i64 0) (.bool false) (.slice none 0 0) (.int .i64 0))
 (s:w00.heap.size≤w0.heap.size) (s6:w0.heap.size≤b6) (s7:w0.heap.size≤b7) (hb:¬b6=b7) (rb:r<w0.heap.size) (n6:¬b=b6) (n7:¬b=b7)
 (h6:Blk w b6 (.bool m6) (.slice B6 i6 j6) (.int .i64 t6)) (h7:Blk w b7 (.bool m7) (.slice B7 i7 j7) (.int .i64 t7)) (h:Blk w b (.bool d.neg) (.slice P l c) (.int .i64 d.e))
 (z6:DyR w (.agg #[.bool d6.neg,.slice P6 l6 c6,.int .i64 d6.e]) d6.raw) (z7:DyR w (.agg #[.bool d7.neg,.slice P7 l7 c7,.int .i64 d7.e]) d7.raw) (zd:DyR w (.agg #[.bool d.neg,.slice P l c,.int .i64 d.e]) d.raw) :
 Kept w00 (dyW (dyW w b6 (.bool d6.neg) (.slice P6 l6 c6) (.int .i64 d6.e)) b7 (.bool d7.neg) (.slice P7 l7 c7) (.int .i64 d7.e)) ∧
 Kept w0 (dyW (dyW w b6 (.bool d6.neg) (.slice P6 l6 c6) (.int .i64 d6.e)) b7 (.bool d7.neg) (.slice P7 l7 c7) (.int .i64 d7.e)) ∧
 BlkI (dyW (dyW w b6 (.bool d6.neg) (.slice P6 l6 c6) (.int .i64 d6.e)) b7 (.bool d7.neg) (.slice P7 l7 c7) (.int .i64 d7.e)) r (.bool false) (.slice none 0 0) (.int .i64 0) (.bool false) (.slice none 0 0) (.int .i64 0) ∧
 BoxD (dyW (dyW w b6 (.bool d6.neg) (.slice P6 l6 c6) (.int .i64 d6.e)) b7 (.bool d7.neg) (.slice P7 l7 c7) (.int .i64 d7.e)) b6 d6.raw ∧
 BoxD (dyW (dyW w b6 (.bool d6.neg) (.slice P6 l6 c6) (.int .i64 d6.e)) b7 (.bool d7.neg) (.slice P7 l7 c7) (.int .i64 d7.e)) b7 d7.raw ∧
 BoxD (dyW (dyW w b6 (.bool d6.neg) (.slice P6 l6 c6) (.int .i64 d6.e)) b7 (.bool d7.neg) (.slice P7 l7 c7) (.int .i64 d7.e)) b d.raw:=by
 obtain ⟨g1,g2,g3⟩:=Aa0 k s6 s7 hb h6 h7 z6 z7;have g7:Blk (dyW w b6 (.bool d6.neg) (.slice P6 l6 c6) (.int .i64 d6.e)) b7 (.bool m7) (.slice B7 i7 j7) (.int .i64 t7):=h7.laid_other (fun h=>hb h.symm) _ _ _
 exact ⟨Al (Al k0 (by omega)) (by omega),g1,En (En hr (by omega) _ _ _) (by omega) _ _ _,g2,g3,
  P,l,c,(h.laid_other n6 _ _ _).laid_other n7 _ _ _,(zd.dyW h6 (Ah _) (Af _ _ _) (Ai _) _ _ _).dyW g7 (Ah _) (Af _ _ _) (Ai _) _ _ _⟩
theorem Vv {w00 w0 V:World}{r b6 b7 b:Nat}{x y z x' y' z':Value}{d6 d7 d:Raw}(h:Kept w00 V∧Kept w0 V∧BlkI V r x y z x' y' z'∧BoxD V b6 d6∧BoxD V b7 d7∧BoxD V b d) :
 Kept w00 V.drew∧Kept w0 V.drew∧BlkI V.drew r x y z x' y' z'∧BoxD V.drew b6 d6∧BoxD V.drew b7 d7∧BoxD V.drew b d:=by
 have k:Kept V V.drew:=(Below.refl _ _).drew;exact ⟨h.1.trans k,h.2.1.trans k,h.2.2.1.kept k,h.2.2.2.1.kept k,h.2.2.2.2.1.kept k,h.2.2.2.2.2.kept k⟩
theorem Aae {w:World}{v u:Value}{a b:RawI}{p:Int}(ha:IvR w v a)(hb:IvR w u b)(la:a.lens 17592186044416)(lb:b.lens 17592186044416) :
 Calls Tryz.prog 17 #[v,u,.int .i64 p] w (RetIE (By p [a,b] (Bj (H4 a.iv b.iv p.toNat))) w):=by
 rw [Pd];have MA:=hid (fun w1 (k:Kept w w1)=>Fz (ha.kept k) la);have MB:=hid (fun w1 (k:Kept w w1)=>Fz (hb.kept k) lb);have P1:=hid (fun w1=>Pp (w:=w1) (p:=p));obtain ⟨A,l,c,A',l',c',rfl,h1,h2⟩:=Ao ha;obtain ⟨B,m,d,B',m',d',rfl,g1,g2⟩:=Ao hb;have CA:=hid (fun (h:Dj a=true)=>Ca h1.small h2.small h);have CB:=hid (fun (h:Dj b=true)=>Ca g1.small g2.small h);have RA:=hid h1;have RA':=hid h2;have RB:=hid g1;have RB':=hid g2;clear ha hb h1 h2 g1 g2 la lb;obtain ⟨ma,hma⟩:∃ x,Dj a=x:=⟨_,rfl⟩;obtain ⟨mb,hmb⟩:∃ x,Dj b=x:=⟨_,rfl⟩;obtain ⟨mp,hmp⟩:∃ x,(decide (1≤p)&&decide (p≤2000))=x:=⟨_,rfl⟩
 have HP:=hid (fun (h:mp=true)=>show 1≤p∧p≤2000 by rw [←hmp] at h;simpa using h);rw [hma,hmb,hmp];rw [hma] at MA CA;rw [hmb] at MB CB;rw [hmp] at P1;clear hma hmb hmp;obtain ⟨T,hT⟩:∃ T,(if ma&&mb&&mp then Bj (H4 a.iv b.iv p.toNat) else ⟨rzI,1⟩)=T:=⟨_,rfl⟩;rw [hT];have HT:=hid hT;clear hT;have CE:=hid (fun (h:(ma&&mb&&mp)=true)=>show (∃ n:Nat,p=n∧1≤n∧n≤2000)∧a.iv.Ok∧b.iv.Ok∧a=a.iv.raw∧b=b.iv.raw∧T=Bj (H4 a.iv b.iv p.toNat) by
  have ht:=HT.out;rw [if_pos h] at ht;simp only [Bool.and_eq_true] at h;obtain ⟨⟨e1,e2⟩,e3⟩:=h;have:=HP.out e3;exact ⟨⟨p.toNat,by omega,by omega,by omega⟩,(CA.out e1).1,(CB.out e2).1,(CA.out e1).2.symm,(CB.out e2).2.symm,ht.symm⟩)
 have CN:=hid (fun (h:(ma&&mb&&mp)=false)=>show T=⟨rzI,1⟩ by rw [←HT.out,h];rfl);clear HT HP CA CB;obtain ⟨ai,hai⟩:∃ x,a.iv=x:=⟨_,rfl⟩;obtain ⟨bi,hbi⟩:∃ x,b.iv=x:=⟨_,rfl⟩;rw [hai,hbi] at CE;clear hai hbi;generalize hx1:a.lo.neg=n1 at *;generalize hx2:a.lo.e=e1 at *;generalize hx3:a.hi.neg=n2 at *;generalize hx4:a.hi.e=e2 at *;generalize hy1:b.lo.neg=n3 at *;generalize hy2:b.lo.e=e3 at *;generalize hy3:b.hi.neg=n4 at *;generalize hy4:b.hi.e=e4 at *;have HN:=hid (And.intro (And.intro (And.intro hx1 hx2) (And.intro hx3 hx4)) (And.intro (And.intro hy1 hy2) (And.intro hy3 hy4)));clear hx1 hx2 hx3 hx4 hy1 hy2 hy3 hy4
 obtain ⟨W,hW,kW,BA,BB,BR⟩:=O7 w (.bool n1) (.slice A l c) (.int .i64 e1) (.bool n2) (.slice A' l' c') (.int .i64 e2) (.bool n3) (.slice B m d) (.int .i64 e3) (.bool n4) (.slice B' m' d') (.int .i64 e4);have HW:=hid hW;have K:=hid kW;have HA:=hid BA;have HB:=hid BB;have HR:=hid BR;clear hW kW BA BB BR;go_enter Tryz.func17,Tryz.ntmps17;go_upto_region 1 with fail;rw [←HW.out]
 refine rS 13 ([(vE (.agg #[.bool n1,.slice A l c,.int .i64 e1,.bool n2,.slice A' l' c',.int .i64 e2])),(vE (.bool ma)),(vE (.bool (!ma))),(vE (.bool (!ma))),(fun v wv=>(ma=true→(fun v _=>v=(.agg #[.bool n3,.slice B m d,.int .i64 e3,.bool n4,.slice B' m' d',.int .i64 e4])) v wv)∧(ma=false→v=undef)),(fun v wv=>(ma=true→(fun v _=>v=(.bool mb)) v wv)∧(ma=false→v=undef)),(fun v wv=>(ma=true→(fun v _=>v=(.bool (!mb))) v wv)∧(ma=false→v=undef)),(vE (.bool (!(ma&&mb)))),(vE (.bool (!(ma&&mb)))),(fun v wv=>((ma&&mb)=true→(fun v _=>v=(.int .i64 p)) v wv)∧((ma&&mb)=false→v=undef)),(fun v wv=>((ma&&mb)=true→(fun v _=>v=(.bool mp)) v wv)∧((ma&&mb)=false→v=undef)),(fun v wv=>((ma&&mb)=true→(fun v _=>v=(.bool (!mp))) v wv)∧((ma&&mb)=false→v=undef)),(vE (.bool (!(ma&&mb&&mp))))])
  ⟨
   (gql 3 fun _ k=>Go.Proofs.YtinbgjcooolbiaaGreatDoor.c6 HA.out k),(fun aF wF F=>by have s15:=F.v 0 15;exact sK (MA.out _ (K.out.trans F.kept)) fun _ _ h=>h),(gv 1 16),(gv 2 17),
   (fun aF wF F=>by
  have sg:=F.v 3 18;have s4:=F.q 4 (.pointer (some ⟨w.heap.size+1,0,none⟩));obtain ⟨c0,c1,c2,c3,c4,c5⟩:=Go.Proofs.YtinbgjcooolbiaaGreatDoor.c6 HB.out F.kept;rcases Bu ma with hC | hC
  ·refine sIm hC (vE (.agg #[.bool n3,.slice B m d,.int .i64 e3,.bool n4,.slice B' m' d',.int .i64 e4])) ?_;exact sVc rfl rfl sg (by first | rfl | simp [hC])
  ·exact sOc rfl rfl sg (by first | rfl | simp [hC]) (nW hC)),
   (fun aF wF F=>by
  have sg:=F.v 3 18;have s19:(ma=true→aF.tmps.getD 19 undef=(.agg #[.bool n3,.slice B m d,.int .i64 e3,.bool n4,.slice B' m' d',.int .i64 e4]))∧(ma=false→aF.tmps.getD 19 undef=undef):=F.done 4 19 (by kernel_rfl) rfl;rcases Bu ma with hC | hC
  ·refine sIm hC (vE (.bool mb)) ?_;replace s19:=s19.1 hC;exact Am ((Aj rfl rfl sg).trans (by first | rfl | simp [hC])) (by go_simp) (MB.out _ (K.out.trans F.kept)) (fun _ _ h=>RetK.good h) (fun _ _ h=>h)
  ·exact sOc rfl rfl sg (by first | rfl | simp [hC]) (nW hC)),
   (fun aF wF F=>by
  have sg:=F.v 3 18;have s20:(ma=true→aF.tmps.getD 20 undef=(.bool mb))∧(ma=false→aF.tmps.getD 20 undef=undef):=F.done 5 20 (by kernel_rfl) rfl;rcases Bu ma with hC | hC
  ·refine sIm hC (vE (.bool (!mb))) ?_;replace s20:=s20.1 hC;exact sVc rfl rfl sg (by first | rfl | simp [hC])
  ·exact sOc rfl rfl sg (by first | rfl | simp [hC]) (nW hC)),
   (fun aF wF F=>by
  have s18:=F.v 3 18;have s21:(ma=true→aF.tmps.getD 21 undef=(.bool (!mb)))∧(ma=false→aF.tmps.getD 21 undef=undef):=F.done 6 21 (by kernel_rfl) rfl;rcases Bu ma with hE | hE
  ·replace s21:=s21.1 hE;exact sw (by first | (go_simp;done) | (go_simp;simp_all;done) | (simp_all;done)) rfl
  ·exact sw (by first | (go_simp;done) | (go_simp;simp_all;done) | (simp_all;done)) rfl),(gv 7 22),
   (fun aF wF F=>by
  have sg:=F.v 8 23;have s2:=F.q 2 (.int .i64 p);rcases Bu (ma&&mb) with hC | hC
  ·refine sIm hC (vE (.int .i64 p)) ?_;exact sVc rfl rfl sg (by first | rfl | simp [hC])
  ·exact sOc rfl rfl sg (by first | rfl | simp [hC]) (nW hC)),
   (fun aF wF F=>by
  have sg:=F.v 8 23;have s24:((ma&&mb)=true→aF.tmps.getD 24 undef=(.int .i64 p))∧((ma&&mb)=false→aF.tmps.getD 24 undef=undef):=F.done 9 24 (by kernel_rfl) rfl;rcases Bu (ma&&mb) with hC | hC
  ·refine sIm hC (vE (.bool mp)) ?_;replace s24:=s24.1 hC;exact Am ((Aj rfl rfl sg).trans (by first | rfl | simp [hC])) (by go_simp) (P1.out _) (fun _ _ h=>RetK.good h) (fun _ _ h=>h)
  ·exact sOc rfl rfl sg (by first | rfl | simp [hC]) (nW hC)),
   (fun aF wF F=>by
  have sg:=F.v 8 23;have s25:((ma&&mb)=true→aF.tmps.getD 25 undef=(.bool mp))∧((ma&&mb)=false→aF.tmps.getD 25 undef=undef):=F.done 10 25 (by kernel_rfl) rfl;rcases Bu (ma&&mb) with hC | hC
  ·refine sIm hC (vE (.bool (!mp))) ?_;replace s25:=s25.1 hC;exact sVc rfl rfl sg (by first | rfl | simp [hC])
  ·exact sOc rfl rfl sg (by first | rfl | simp [hC]) (nW hC)),
   (fun aF wF F=>by
  have s23:=F.v 8 23;have s26:((ma&&mb)=true→aF.tmps.getD 26 undef=(.bool (!mp)))∧((ma&&mb)=false→aF.tmps.getD 26 undef=undef):=F.done 11 26 (by kernel_rfl) rfl;rcases Bu (ma&&mb) with hE | hE
  ·replace s26:=s26.1 hE;exact sw (by first | (go_simp;done) | (go_simp;simp_all;done) | (simp_all;done)) rfl
  ·exact sw (by first | (go_simp;done) | (go_simp;simp_all;done) | (simp_all;done)) rfl),
   trivial⟩ ?_
 intro u w1 k1 hu;have p19:=hp hu 4;have p20:=hp hu 5;have p21:=hp hu 6;have p24:=hp hu 9;have p25:=hp hu 10;have p26:=hp hu 11;simp only [Au,An,if_true,Act.put,zlA,zlB,zlC,zlD,zlE,zlF,zlG,hv hu 0,hv hu 1,hv hu 2,hv hu 3,hv hu 7,hv hu 8,hv hu 12];clear hu;generalize u 4=v19,u 5=v20,u 6=v21,u 9=v24,u 10=v25,u 11=v26 at *;clear p19 p20 p21 p24 p25 p26 MA MB P1;replace K:=hid (K.out.trans k1);replace HA:=hid (HA.out.kept k1);replace HB:=hid (HB.out.kept k1);replace HR:=hid (HR.out.kept k1);clear k1;rcases (Bu (ma&&mb&&mp)).symm with hg | hg
 ·have r0:=CN.out hg;subst r0;rw [hg];clear hg CN CE HA HB RA RA' RB RB';obtain ⟨-,r0,r1,r2,r3,r4,r5⟩:=HR.out.facts;obtain ⟨f0,f1,f2,f3,f4,f5⟩:=HR.out.free;go_wp2_with fail;exact Bq (HR.out.laid _ _ _ _ _ _) rfl rfl rfl ⟨Bf K.out (by omega),_,rfl,Ce _⟩
 obtain ⟨⟨n,rfl,p1,p2⟩,oa,ob,ra,rb,rT⟩:=CE.out hg;rw [hg];subst ra;subst rb;clear hg CE CN;obtain ⟨⟨⟨hx1,hx2⟩,⟨hx3,hx4⟩⟩,⟨⟨hy1,hy2⟩,⟨hy3,hy4⟩⟩⟩:=HN.out;subst hx1 hx2 hx3 hx4 hy1 hy2 hy3 hy4;have hT:T=Bj (H4 ai bi n):=rT;have G1:=hid (fun w1 (k:Kept w w1)=>show DyR w1 (.agg #[.bool ai.lo.neg,.slice A l c,.int .i64 ai.lo.e]) ai.lo.raw from RA.out.kept k);have G2:=hid (fun w1 (k:Kept w w1)=>show DyR w1 (.agg #[.bool ai.hi.neg,.slice A' l' c',.int .i64 ai.hi.e]) ai.hi.raw from RA'.out.kept k);have G3:=hid (fun w1 (k:Kept w w1)=>show DyR w1 (.agg #[.bool bi.lo.neg,.slice B m d,.int .i64 bi.lo.e]) bi.lo.raw from RB.out.kept k)
 have G4:=hid (fun w1 (k:Kept w w1)=>show DyR w1 (.agg #[.bool bi.hi.neg,.slice B' m' d',.int .i64 bi.hi.e]) bi.hi.raw from RB'.out.kept k);have t1:=fun k=>@Zs ai bi n k
 have t2:=@W8 ai bi n;rw [←hT] at t2;simp only [←hT] at t1;have T1:=hid t1;have T2:=hid t2;have CM:=hid (fun k w1 v1 v2 (h1:DyR w1 v1 (xs4 ai k).raw) (h2:DyR w1 v2 (ys4 bi k).raw)=>show Calls Tryz.prog 58 #[v1,v2] w1 (RetE (Bs ai bi k).raw w1) from Sw h1 h2 (Acp oa k) (Acq ob k));have hz:=fun k=>Zv ai bi k
 have CE:=hid (fun w1 v1 v2 (h1:DyR w1 v1 (loS (Bs ai bi) 4).raw) (h2:DyR w1 v2 (hiS (Bs ai bi) 4).raw)=>Pr h1 h2 (So hz 4) (Sm hz 4) p1 p2);have OZ:=hid hz;clear hT rT RA RA' RB RB' HN t1 t2 p1 p2 hz oa ob;simp only [Iv.raw,Dy.raw] at HA HB ⊢;have lt0:w.heap.size+1+1<w1.heap.size:=HR.out.facts.1;go_upto_region 3 with fail
 refine rgL 20 ([(vP w.heap.size 0),(vE (.agg #[.bool ai.lo.neg,.slice A l c,.int .i64 ai.lo.e])),(vP w.heap.size 0),(vE (.agg #[.bool ai.lo.neg,.slice A l c,.int .i64 ai.lo.e])),(vP w.heap.size 3),(vE (.agg #[.bool ai.hi.neg,.slice A' l' c',.int .i64 ai.hi.e])),(vP w.heap.size 3),(vE (.agg #[.bool ai.hi.neg,.slice A' l' c',.int .i64 ai.hi.e])),(fun v wv=>DyS wv v [ai.lo,ai.lo,ai.hi,ai.hi]),(vP (w.heap.size+1) 0),(vE (.agg #[.bool bi.lo.neg,.slice B m d,.int .i64 bi.lo.e])),(vP (w.heap.size+1) 3),(vE (.agg #[.bool bi.hi.neg,.slice B' m' d',.int .i64 bi.hi.e])),(vP (w.heap.size+1) 0),(vE (.agg #[.bool bi.lo.neg,.slice B m d,.int .i64 bi.lo.e])),(vP (w.heap.size+1) 3),(vE (.agg #[.bool bi.hi.neg,.slice B' m' d',.int .i64 bi.hi.e])),(fun v wv=>DyS wv v [bi.lo,bi.hi,bi.lo,bi.hi]),(fun v wv=>DyS wv v [ai.lo,ai.lo,ai.hi,ai.hi]),(fun v wv=>DyS wv v [bi.lo,bi.hi,bi.lo,bi.hi])])
  (hM:=⟨⟨mE,mE,mE,mE,mE,mE,mE,mE,fun v w w' k h=>h.kept k,mE,mE,mE,mE,mE,mE,mE,mE,fun v w w' k h=>h.kept k,fun v w w' k h=>by first | exact h | exact h.kept k | exact ⟨h.1,h.2.kept k⟩,fun v w w' k h=>by first | exact h | exact h.kept k | exact ⟨h.1,h.2.kept k⟩,trivial⟩⟩) ⟨
    (gq 3),(fun aF wF F=>by have s29:=F.v 0 29;have c0:=Ag HA.out F.kept 0 _ rfl;have c1:=Ag HA.out F.kept 1 _ rfl;have c2:=Ag HA.out F.kept 2 _ rfl;exact sv rfl),(gq 3),(fun aF wF F=>by have s31:=F.v 2 31;have c0:=Ag HA.out F.kept 0 _ rfl;have c1:=Ag HA.out F.kept 1 _ rfl;have c2:=Ag HA.out F.kept 2 _ rfl;exact sv rfl),(gq 3),(fun aF wF F=>by have s33:=F.v 4 33;have c0:=Ag HA.out F.kept 3 _ rfl;have c1:=Ag HA.out F.kept 4 _ rfl;have c2:=Ag HA.out F.kept 5 _ rfl;exact sv rfl),(gq 3),(fun aF wF F=>by have s35:=F.v 6 35;have c0:=Ag HA.out F.kept 3 _ rfl;have c1:=Ag HA.out F.kept 4 _ rfl;have c2:=Ag HA.out F.kept 5 _ rfl;exact sv rfl),(fun aF wF F=>by have s30:=F.v 1 30;have s32:=F.v 3 32;have s34:=F.v 5 34;have s36:=F.v 7 36;simp only [Array.getD_eq_getD_getElem?] at s30;simp only [Array.getD_eq_getD_getElem?] at s32;simp only [Array.getD_eq_getD_getElem?] at s34;simp only [Array.getD_eq_getD_getElem?] at s36;exact sNa (Ql rfl (G1.out _ (K.out.trans F.kept)) (G1.out _ (K.out.trans F.kept)) (G2.out _ (K.out.trans F.kept)) (G2.out _ (K.out.trans F.kept)))),(gq 4),(fun aF wF F=>by have s38:=F.v 9 38;have c0:=Ag HB.out F.kept 0 _ rfl;have c1:=Ag HB.out F.kept 1 _ rfl;have c2:=Ag HB.out F.kept 2 _ rfl;exact sv rfl),(gq 4),(fun aF wF F=>by have s40:=F.v 11 40;have c0:=Ag HB.out F.kept 3 _ rfl;have c1:=Ag HB.out F.kept 4 _ rfl;have c2:=Ag HB.out F.kept 5 _ rfl;exact sv rfl),(gq 4),(fun aF wF F=>by have s42:=F.v 13 42;have c0:=Ag HB.out F.kept 0 _ rfl;have c1:=Ag HB.out F.kept 1 _ rfl;have c2:=Ag HB.out F.kept 2 _ rfl;exact sv rfl),(gq 4),(fun aF wF F=>by have s44:=F.v 15 44;have c0:=Ag HB.out F.kept 3 _ rfl;have c1:=Ag HB.out F.kept 4 _ rfl;have c2:=Ag HB.out F.kept 5 _ rfl;exact sv rfl),(fun aF wF F=>by have s39:=F.v 10 39;have s41:=F.v 12 41;have s43:=F.v 14 43;have s45:=F.v 16 45;simp only [Array.getD_eq_getD_getElem?] at s39;simp only [Array.getD_eq_getD_getElem?] at s41;simp only [Array.getD_eq_getD_getElem?] at s43;simp only [Array.getD_eq_getD_getElem?] at s45;exact sNa (Ql rfl (G3.out _ (K.out.trans F.kept)) (G4.out _ (K.out.trans F.kept)) (G3.out _ (K.out.trans F.kept)) (G4.out _ (K.out.trans F.kept)))),(gm 8 37),(gm 17 46),
    trivial⟩ ?_
 intro u w2 k2 hu;have p37:=hp hu 8;have p46:=hp hu 17;have p8:=hp hu 18;have p9:=hp hu 19;simp only [Au,An,if_true,Act.put,zlA,zlB,zlC,zlD,zlE,zlF,zlG,hv hu 0,hv hu 1,hv hu 2,hv hu 3,hv hu 4,hv hu 5,hv hu 6,hv hu 7,hv hu 9,hv hu 10,hv hu 11,hv hu 12,hv hu 13,hv hu 14,hv hu 15,hv hu 16];clear hu;generalize u 8=v37,u 17=v46,u 18=v8,u 19=v9 at *;obtain ⟨b8,o8,c8,rfl,X8⟩:=p8.four (xs4 ai) rfl rfl rfl rfl;obtain ⟨b9,o9,c9,rfl,X9⟩:=p9.four (ys4 bi) rfl rfl rfl rfl;have D8:=hid X8;have D9:=hid X9;replace K:=hid (K.out.trans k2);replace HR:=hid (HR.out.kept k2);replace lt0:w.heap.size+1+1<w2.heap.size:=HR.out.facts.1
 clear p8 p9 p37 p46 X8 X9 HA HB k2 G1 G2 G3 G4;obtain ⟨V,hV,kV,B10,B11⟩:=Hr w2 (.bool false) (.slice none 0 0) (.int .i64 0) (.bool false) (.slice none 0 0) (.int .i64 0);have HV:=hid hV;have KV:=hid kV;have I10:=hid (show BoxD V w2.heap.size dz.raw from ⟨none,0,0,B10,by rw [Cp];exact Eo V⟩);have I11:=hid (show BoxD V (w2.heap.size+1) dz.raw from ⟨none,0,0,B11,by rw [Cp];exact Eo V⟩);clear hV kV B10 B11;go_upto_region 5 with fail;rw [←HV.out];clear HV;go_wp2_with fail;generalize (!(ma&&mb))=g22;generalize (!ma)=g17;generalize (!true)=g27
 go_loopw [12] (fun i wr=>∃ k:Nat,k≤4∧i=.int .i64 k∧Kept w2 wr∧BoxD wr w2.heap.size (loS (Bs ai bi) k).raw∧BoxD wr (w2.heap.size+1) (hiS (Bs ai bi) k).raw∧Hid (∀ j,j<k→(Bs ai bi j).k=0)) (fun i _=>4-(intOf i).toNat)
 case atStart=>exact ⟨0,by omega,rfl,KV.out,I10.out,I11.out,hid (fun j h=>absurd h (by omega))⟩
 case round =>
  obtain ⟨k,hk,rfl,kr,i10,i11,AL⟩:=hrel;replace K:=hid (K.out.trans kr);replace HR:=hid (HR.out.kept kr);have KR:=hid kr;clear kr I10 I11 KV;by_cases hk4:k<4
  ·have d4:decide (k<4)=true:=decide_eq_true hk4;obtain ⟨PA,pA,qA,hA,zA⟩:=i10;obtain ⟨PB,pB,qB,hB,zB⟩:=i11;have H10:=hid hA;have H11:=hid hB;have Z10:=hid zA;have Z11:=hid zB;clear hA hB zA zB;go_wp2_with fail
   refine H9 (e:=11) (m:=13) (V:=VL [(vE (.slice (some ⟨b8,o8,none⟩) 4 c8)),(vE (.int .i64 (k:Int))),(vE (.pointer (some ⟨b8,o8+k*3,none⟩))),(fun v wv=>DyR wv v ((xs4 ai k).raw)),(vE (.slice (some ⟨b9,o9,none⟩) 4 c9)),(vE (.int .i64 (k:Int))),(vE (.pointer (some ⟨b9,o9+k*3,none⟩))),(fun v wv=>DyR wv v ((ys4 bi k).raw)),(fun v wv=>∃ d,v=.tuple #[d,.int .i64 ((Bs ai bi k).raw).k]∧DyR wv d ((Bs ai bi k).raw).v),(fun v wv=>∃ d,v=.tuple #[d,.int .i64 ((Bs ai bi k).raw).k]∧DyR wv d ((Bs ai bi k).raw).v),(fun v wv=>DyR wv v ((Bs ai bi k).raw).v),(vE (.int .i64 ((Bs ai bi k).raw).k)),(fun v wv=>∃ b,v=.pointer (some ⟨b,0,none⟩)∧wr.heap.size≤b∧Blk wv b (.bool false) (.slice none 0 0) (.int .i64 0))])
    (by kernel_rfl) rfl rfl rfl rfl rfl rfl rfl (by decide) (by kernel_rfl) (by kernel_rfl) (by kernel_rfl) (by kernel_rfl) (by kernel_rfl) (by kernel_rfl) (E0 _ ⟨mE,mE,mE,mD,mE,mE,mE,mD,fun v w w' k h=>by obtain ⟨d,h1,h2⟩:=h;exact ⟨d,h1,h2.kept k⟩,fun v w w' k h=>by obtain ⟨d,h1,h2⟩:=h;exact ⟨d,h1,h2.kept k⟩,mD,mE,fun v w w' k h=>by obtain ⟨b,h1,h2,h3⟩:=h;exact ⟨b,h1,h2,h3.kept k⟩,trivial⟩) (Er ⟨
      (fun aF wF F=>by have s8:=F.q 8 (.slice (some ⟨b8,o8,none⟩) 4 c8);exact sv rfl),(fun aF wF F=>by have s12:=F.q 12 (.int .i64 (k:Int));exact sv rfl),(fun aF wF F=>by have s52:=F.v 0 52;have s53:=F.v 1 53;exact sv rfl),(fun aF wF F=>by have s54:=F.v 2 54;obtain ⟨ss,h0,h1,h2,hI⟩:=((D8.out k hk4).kept (KR.out.trans F.kept));exact sv hI),(fun aF wF F=>by have s9:=F.q 9 (.slice (some ⟨b9,o9,none⟩) 4 c9);exact sv rfl),(fun aF wF F=>by have s12:=F.q 12 (.int .i64 (k:Int));exact sv rfl),(fun aF wF F=>by have s56:=F.v 4 56;have s57:=F.v 5 57;exact sv rfl),(fun aF wF F=>by have s58:=F.v 6 58;obtain ⟨ss,h0,h1,h2,hI⟩:=((D9.out k hk4).kept (KR.out.trans F.kept));exact sv hI),(fun aF wF F=>by have s55:=F.p 3 55;have s59:=F.p 7 59;exact sE (CM.out k _ _ _ s55 s59) fun _ _ h=>h),(fun aF wF F=>by have s60:=F.p 8 60;exact sx s60),(fun aF wF F=>by have s51:=F.p 9 51;obtain ⟨dd,ee,hh⟩:=s51;exact sv hh),(fun aF wF F=>by have s51:=F.p 9 51;exact sw (by obtain ⟨dd,ee,hh⟩:=s51;go_simp) rfl),(fun aF wF F=>by exact sN ⟨_,rfl,F.kept.size,C0 _⟩),
      trivial⟩) ?_
   intro u w3 k3 hu;have e52:u 0=(.slice (some ⟨b8,o8,none⟩) 4 c8):=hu 0 (by decide) (by decide);have e53:u 1=(.int .i64 (k:Int)):=hu 1 (by decide) (by decide);have e54:u 2=(.pointer (some ⟨b8,o8+k*3,none⟩)):=hu 2 (by decide) (by decide);have p55:=hu 3 (by decide) (by decide);obtain ⟨v55,e55⟩:∃ v,u 3=v:=⟨_,rfl⟩;rw [e55] at p55
   try simp only [VL,List.getD_cons_zero,List.getD_cons_succ] at p55
   have e56:u 4=(.slice (some ⟨b9,o9,none⟩) 4 c9):=hu 4 (by decide) (by decide);have e57:u 5=(.int .i64 (k:Int)):=hu 5 (by decide) (by decide);have e58:u 6=(.pointer (some ⟨b9,o9+k*3,none⟩)):=hu 6 (by decide) (by decide);have p59:=hu 7 (by decide) (by decide);obtain ⟨v59,e59⟩:∃ v,u 7=v:=⟨_,rfl⟩;rw [e59] at p59
   try simp only [VL,List.getD_cons_zero,List.getD_cons_succ] at p59
   have p60:=hu 8 (by decide) (by decide);obtain ⟨v60,e60⟩:∃ v,u 8=v:=⟨_,rfl⟩;rw [e60] at p60
   try simp only [VL,List.getD_cons_zero,List.getD_cons_succ] at p60
   have p51:=hu 9 (by decide) (by decide);obtain ⟨v51,e51⟩:∃ v,u 9=v:=⟨_,rfl⟩;rw [e51] at p51
   try simp only [VL,List.getD_cons_zero,List.getD_cons_succ] at p51
   have p61:=hu 10 (by decide) (by decide);obtain ⟨v61,e61⟩:∃ v,u 10=v:=⟨_,rfl⟩;rw [e61] at p61
   try simp only [VL,List.getD_cons_zero,List.getD_cons_succ] at p61
   have p13:=hu 12 (by decide) (by decide);obtain ⟨v13,e13⟩:∃ v,u 12=v:=⟨_,rfl⟩;rw [e13] at p13
   try simp only [VL,List.getD_cons_zero,List.getD_cons_succ] at p13
   clear hu;obtain ⟨b13,rfl,hb13,hx13⟩:=p13;obtain ⟨Pz,pz,qz,rfl,hz⟩:=Br p61;obtain ⟨-,u0,u1,u2,f0,f1,f2⟩:=hx13.facts;have H13:=hid hx13;have Z13:=hid hz;clear p55 p59 p60 hz hx13;obtain ⟨dd,rfl,-⟩:=p51;replace K:=hid (K.out.trans k3);replace KR:=hid (KR.out.trans k3);replace HR:=hid (HR.out.kept k3);have n10:w2.heap.size+1<b13:=by have:=H11.out.facts.1;omega
   replace H10:=hid (H10.out.kept k3);replace H11:=hid (H11.out.kept k3);replace Z10:=hid (Z10.out.kept k3);replace Z11:=hid (Z11.out.kept k3);apply dup
   ·intro G he;simp only [VL,vE,List.getD_cons_zero,List.getD_cons_succ] at he;simp only [if_true,Au,An,Act.put,List.setIfInBounds_toArray,List.set_cons_zero,List.set_cons_succ,List.getElem?_toArray,List.getElem?_cons_zero,List.getElem?_cons_succ,Option.bind_some,e52,e53,e54,e55,e56,e57,e58,e59,e60,e51,e61,e13,he];go_simp;exact G
   ·intro G;simp only [Au,An,Act.put,List.setIfInBounds_toArray,List.set_cons_zero,List.set_cons_succ,List.getElem?_toArray,List.getElem?_cons_zero,List.getElem?_cons_succ,Option.bind_some,e52,e53,e54,e55,e56,e57,e58,e59,e60,e51,e61,e13];go_simp;exact G
   clear e52 e53 e54 e55 e56 e57 e58 e59 e60 e51 e61 e13;simp only [Outc.raw] at *;go_upto_region 9 with fail;change Code.wp _ _ _ _ (dyW w3 b13 _ _ _);replace K:=hid (Al (x:=.bool (Bs ai bi k).v.neg) (y:=.slice Pz pz qz) (z:=.int .i64 (Bs ai bi k).v.e) K.out (show w.heap.size≤b13 by omega));replace KR:=hid (Al (x:=.bool (Bs ai bi k).v.neg) (y:=.slice Pz pz qz) (z:=.int .i64 (Bs ai bi k).v.e) KR.out (show w2.heap.size≤b13 by omega));replace HR:=hid (En HR.out (show ¬w.heap.size+1+1=b13 by omega) (.bool (Bs ai bi k).v.neg) (.slice Pz pz qz) (.int .i64 (Bs ai bi k).v.e))
   replace H10:=hid (H10.out.laid_other (show ¬w2.heap.size=b13 by omega) (.bool (Bs ai bi k).v.neg) (.slice Pz pz qz) (.int .i64 (Bs ai bi k).v.e));replace H11:=hid (H11.out.laid_other (show ¬w2.heap.size+1=b13 by omega) (.bool (Bs ai bi k).v.neg) (.slice Pz pz qz) (.int .i64 (Bs ai bi k).v.e));replace Z10:=hid (Z10.out.dyW H13.out (Ah _) (Af _ _ _) (Ai _) (.bool (Bs ai bi k).v.neg) (.slice Pz pz qz) (.int .i64 (Bs ai bi k).v.e));replace Z11:=hid (Z11.out.dyW H13.out (Ah _) (Af _ _ _) (Ai _) (.bool (Bs ai bi k).v.neg) (.slice Pz pz qz) (.int .i64 (Bs ai bi k).v.e))
   replace Z13:=hid (Z13.out.dyW H13.out (Ah _) (Af _ _ _) (Ai _) (.bool (Bs ai bi k).v.neg) (.slice Pz pz qz) (.int .i64 (Bs ai bi k).v.e));replace H13:=hid (H13.out.laid (.bool (Bs ai bi k).v.neg) (.slice Pz pz qz) (.int .i64 (Bs ai bi k).v.e));clear u0 u1 u2 f0 f1 f2 k3 hb13;generalize dyW w3 b13 (.bool (Bs ai bi k).v.neg) (.slice Pz pz qz) (.int .i64 (Bs ai bi k).v.e)=V9 at *;by_cases h1:(Bs ai bi k).k=0
   ·rw [h1];have AL':=hid (show ∀ j,j<k+1→(Bs ai bi j).k=0 from fun j hj=>if hh:j=k then hh▸h1 else AL.out j (by omega));clear h1 AL T1;obtain ⟨yl,hyl⟩:∃ y,(if k=0 then (Bs ai bi k).v else loS (Bs ai bi) k)=y:=⟨_,rfl⟩;obtain ⟨yh,hyh⟩:∃ y,(if k=0 then (Bs ai bi k).v else hiS (Bs ai bi) k)=y:=⟨_,rfl⟩;have el:loS (Bs ai bi) (k+1)=if Bn (Bs ai bi k).v.q yl.q<0 then (Bs ai bi k).v else yl:=by rw [←hyl];rfl
    have eh:hiS (Bs ai bi) (k+1)=if Bn yh.q (Bs ai bi k).v.q<0 then (Bs ai bi k).v else yh:=by rw [←hyh];rfl
    have okl:yl.Ok:=by
     rw [←hyl];by_cases h0:k=0
     ·rw [if_pos h0];exact OZ.out k
     ·rw [if_neg h0];exact So OZ.out k
    have okh:yh.Ok:=by
     rw [←hyh];by_cases h0:k=0
     ·rw [if_pos h0];exact OZ.out k
     ·rw [if_neg h0];exact Sm OZ.out k
    have CL:=hid (fun w1 v1 v2 (h1:DyR w1 v1 yl.raw) (h2:DyR w1 v2 (Bs ai bi k).v.raw)=>Qs h1 h2 okl (OZ.out k));have CG:=hid (fun w1 v1 v2 (h1:DyR w1 v1 yh.raw) (h2:DyR w1 v2 (Bs ai bi k).v.raw)=>Ln h1 h2 okh (OZ.out k));rw [←el] at CL;rw [←eh] at CG;have YL:=hid hyl;have YH:=hid hyh;clear hyl hyh el eh okl okh
    go_upto_if 68 with fail
    go_cut [] (fun wx=>Kept w wx∧Kept w2 wx∧BlkI wx (w.heap.size+1+1) (.bool false) (.slice none 0 0) (.int .i64 0) (.bool false) (.slice none 0 0) (.int .i64 0)∧BoxD wx w2.heap.size yl.raw∧BoxD wx (w2.heap.size+1) yh.raw∧BoxD wx b13 (Bs ai bi k).v.raw)
    case first =>
     by_cases k0:k=0
     ·subst k0;have yl':=YL.out;have yh':=YH.out;rw [if_pos rfl] at yl' yh';subst yl';subst yh';have e1:=Md K.out KR.out HR.out (by omega) (Nat.le_refl _) (by omega) (by omega) (by omega) (by omega) (by omega) H10.out H11.out H13.out Z13.out Z13.out Z13.out;have e2:=Md K.out KR.out HR.out (by omega) (by omega) (Nat.le_refl _) (by omega) (by omega) (by omega) (by omega) H11.out H10.out H13.out Z13.out Z13.out Z13.out;replace e2:=And.intro e2.1 (And.intro e2.2.1 (And.intro e2.2.2.1 (And.intro e2.2.2.2.2.1 (And.intro e2.2.2.2.1 e2.2.2.2.2.2))));unfold dyW at e1 e2;have E1:=hid e1;have E2:=hid e2
      obtain ⟨-,x0,x1,x2,x3,x4,x5⟩:=H10.out.facts;obtain ⟨-,y0,y1,y2,y3,y4,y5⟩:=H11.out.facts;obtain ⟨-,v0,v1,v2,-⟩:=H13.out.facts;clear e1 e2 H10 H11 H13 Z10 Z11 Z13 K KR HR YL YH CL CG CM CE D8 D9 T2 OZ;go_wp2_with fail;go_region
      all_goals (go_wp2_with fail)
      all_goals (go_meet)
      all_goals (repeat (with_reducible apply Vv))
      all_goals (first | with_reducible exact E1.out | with_reducible exact E2.out)
     ·have yl':=YL.out;have yh':=YH.out;rw [if_neg k0] at yl' yh';subst yl';subst yh';have d0:((k:Int)==0)=false:=by simp;omega
      have E1:=hid (And.intro K.out (And.intro KR.out (And.intro HR.out (And.intro (show BoxD V9 w2.heap.size (loS (Bs ai bi) k).raw from ⟨_,_,_,H10.out,Z10.out⟩) (And.intro (show BoxD V9 (w2.heap.size+1) (hiS (Bs ai bi) k).raw from ⟨_,_,_,H11.out,Z11.out⟩) (show BoxD V9 b13 (Bs ai bi k).v.raw from ⟨_,_,_,H13.out,Z13.out⟩))))));clear H10 H11 H13 Z10 Z11 Z13 K KR HR YL YH CL CG;go_wp2_with fail
      go_meet
      exact E1.out
    obtain ⟨kw,kw2,hr,i10,i11,i13⟩:=hcut;replace K:=hid kw;replace KR:=hid kw2;replace HR:=hid hr;obtain ⟨P6',l6',c6',h6,z6⟩:=i10;obtain ⟨P7',l7',c7',h7,z7⟩:=i11;obtain ⟨P8',l8',c8',h8,z8⟩:=i13;simp only [Dy.raw] at h6 h7 h8 z6 z7 z8;replace H10:=hid h6;replace H11:=hid h7;replace H13:=hid h8;replace Z10:=hid z6;replace Z11:=hid z7;replace Z13:=hid z8;clear kw kw2 hr h6 h7 h8 z6 z7 z8 YL YH;go_wp2_with fail
    refine Im 6 ([(vE (.agg #[.bool yl.neg,.slice P6' l6' c6',.int .i64 yl.e])),(vE (.agg #[.bool (Bs ai bi k).v.neg,.slice P8' l8' c8',.int .i64 (Bs ai bi k).v.e])),(fun v wv=>DyR wv v ((loS (Bs ai bi) (k+1)).raw)),(vE (.agg #[.bool yh.neg,.slice P7' l7' c7',.int .i64 yh.e])),(vE (.agg #[.bool (Bs ai bi k).v.neg,.slice P8' l8' c8',.int .i64 (Bs ai bi k).v.e])),(fun v wv=>DyR wv v ((hiS (Bs ai bi) (k+1)).raw))])
     ⟨
      (gql 10 fun _ k=>c3 H10.out k),(gql 13 fun _ k=>c3 H13.out k),(fun aF wF F=>by have s71:=F.v 0 71;have s72:=F.v 1 72;exact sD (CL.out _ _ _ (Z10.out.kept F.kept) (Z13.out.kept F.kept)) fun _ _ h=>h),(gql 11 fun _ k=>c3 H11.out k),(gql 13 fun _ k=>c3 H13.out k),(fun aF wF F=>by have s74:=F.v 3 74;have s75:=F.v 4 75;exact sD (CG.out _ _ _ (Z11.out.kept F.kept) (Z13.out.kept F.kept)) fun _ _ h=>h),
      trivial⟩ ?_
    intro u w5 k5 hu;have p73:=hp hu 2;have p76:=hp hu 5;simp only [Au,An,if_true,Act.put,zlA,zlB,zlC,zlD,zlE,zlF,zlG,hv hu 0,hv hu 1,hv hu 3,hv hu 4];clear hu;generalize u 2=v73,u 5=v76 at *;obtain ⟨P1,l1,c1,rfl,z6⟩:=Br p73;obtain ⟨P2,l2,c2,rfl,z7⟩:=Br p76;have kk5:=k5;have E1:=hid (Md (K.out.trans k5) (KR.out.trans k5) (HR.out.kept k5) (by omega) (Nat.le_refl _) (by omega) (by omega) (by omega) (by omega) (by omega) (H10.out.kept k5) (H11.out.kept k5) (H13.out.kept k5) z6 z7 (Z13.out.kept k5));have E2:=hid (Md (K.out.trans k5) (KR.out.trans k5) (HR.out.kept k5) (by omega) (by omega) (Nat.le_refl _) (by omega) (by omega) (by omega) (by omega) (H11.out.kept k5) (H10.out.kept k5) (H13.out.kept k5) z7 z6 (Z13.out.kept k5))
    obtain ⟨-,x0,x1,x2,x3,x4,x5⟩:=(H10.out.kept k5).facts;obtain ⟨-,y0,y1,y2,y3,y4,y5⟩:=(H11.out.kept k5).facts;clear H10 H11 H13 Z10 Z11 Z13 K KR HR CL CG z6 z7 p73 p76 k5 kk5 CM CE D8 D9 T2 OZ;unfold dyW at *;refine ⟨?_,.inr ?_⟩
    ·go_simp;go_wp2_with fail;go_roundw
     case rel =>
      refine ⟨k+1,by omega,by go_num,?_,?_,?_,AL'⟩
      ·with_reducible exact E1.out.2.1
      ·with_reducible exact E1.out.2.2.2.1
      ·with_reducible exact E1.out.2.2.2.2.1
     case measure=>simp [intOf];omega
    ·go_simp;go_wp2_with fail;go_roundw
     case rel =>
      refine ⟨k+1,by omega,by go_num,?_,?_,?_,AL'⟩
      ·with_reducible exact E2.out.2.1
      ·with_reducible exact E2.out.2.2.2.2.1
      ·with_reducible exact E2.out.2.2.2.1
     case measure=>simp [intOf];omega
   ·have e2:((Bs ai bi k).k==0)=false:=by simpa using h1
    have e2':((Bs ai bi k).k != 0)=true:=by simpa using h1
    have r0:=T1.out k hk4 AL.out h1;subst r0;clear h1 T1 T2 H10 H11 H13 Z10 Z11 Z13 CM CE D8 D9;obtain ⟨-,r0,r1,r2,r3,r4,r5⟩:=HR.out.facts;obtain ⟨f0,f1,f2,f3,f4,f5⟩:=HR.out.free;go_wp2_with fail;exact Bq (HR.out.laid _ _ _ _ _ _) rfl rfl rfl ⟨Bf K.out (by omega),_,rfl,Ce _⟩
  ·obtain rfl:k=4:=by omega
   have r0:=T2.out AL.out;obtain ⟨PA,pA,qA,hA,zA⟩:=i10;obtain ⟨PB,pB,qB,hB,zB⟩:=i11;replace CE:=hid (fun w1 v1 v2 (h1:DyR w1 v1 (loS (Bs ai bi) 4).raw) (h2:DyR w1 v2 (hiS (Bs ai bi) 4).raw)=>show Calls Tryz.prog 59 #[v1,v2,.int .i64 (n:Int)] w1 (RetIE T w1) by rw [r0];exact CE.out w1 v1 v2 h1 h2);have Z10:=hid zA;have Z11:=hid zB;clear r0 T1 T2 CM D8 D9 AL zA zB OZ;obtain ⟨-,a0,a1,a2,-⟩:=hA.facts;obtain ⟨-,b0,b1,b2,-⟩:=hB.facts;clear hA hB;simp only [Dy.raw] at *;generalize loS (Bs ai bi) 4=L at *;generalize hiS (Bs ai bi) 4=G at *;go_wp2_with fail;refine (CE.out _ _ _ Z10.out Z11.out).mono ?_
   rintro _ w3 ⟨q3,u3,rfl,hd⟩;obtain ⟨PX,pX,qX,PY,pY,qY,rfl,z1,z2⟩:=Ao hd;replace K:=hid (K.out.trans q3);replace HR:=hid (HR.out.kept q3);have Z1:=hid z1;have Z2:=hid z2;clear q3 hd z1 z2 a0 a1 a2 b0 b1 b2 KR Z10 Z11;simp only [];obtain ⟨-,r0,r1,r2,r3,r4,r5⟩:=HR.out.facts;obtain ⟨f0,f1,f2,f3,f4,f5⟩:=HR.out.free;go_wp2_with fail;exact Bq (HR.out.laid _ _ _ _ _ _) rfl rfl rfl ⟨Bf K.out (by omega),_,rfl,_,_,_,_,_,_,rfl,Z1.out.ivW HR.out _ _ _ _ _ _,Z2.out.ivW HR.out _ _ _ _ _ _⟩
end Go.Proofs.YtinbgjcooolbiaaGreatDoor
