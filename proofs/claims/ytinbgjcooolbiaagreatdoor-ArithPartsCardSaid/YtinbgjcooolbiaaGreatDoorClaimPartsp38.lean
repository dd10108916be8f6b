/- Words and contracts, part 38. -/
import Derived.Test.YtinbgjcooolbiaaGreatDoorClaimPartsp37
set_option maxRecDepth 100000
set_option maxHeartbeats 0
namespace Go.Proofs.YtinbgjcooolbiaaGreatDoor
open Go.Lib (hid)
open Go.RowKit
theorem Mb (a b c d:Outc Dy)(f:Dy→Dy→Dy→Dy→Outc Iv) :
 four a b c d f=if Ek [a.k,b.k,c.k,d.k]≠0 then ⟨iz,Ek [a.k,b.k,c.k,d.k]⟩ else f a.v b.v c.v d.v:=by
 unfold four Outc.bind;simp only [Ek];by_cases h1:a.k=0
 ·by_cases h2:b.k=0
  ·by_cases h3:c.k=0
   ·by_cases h4:d.k=0
    ·simp [h1,h2,h3,h4]
    ·simp [h1,h2,h3,h4]
   ·simp [h1,h2,h3]
  ·simp [h1,h2]
 ·simp [h1]
theorem R9 (a b:Iv)(p:Nat)(hz:Br b=false) :
 Fa a b p=Da ⟨By (Bh a.lo b.lo p false).v [(Bh a.lo b.lo p false).v,(Bh a.lo b.hi p false).v,(Bh a.hi b.lo p false).v,(Bh a.hi b.hi p false).v],
  Ay (Bh a.lo b.lo p true).v [(Bh a.lo b.lo p true).v,(Bh a.lo b.hi p true).v,(Bh a.hi b.lo p true).v,(Bh a.hi b.hi p true).v]⟩
  [Ek [(Bh a.lo b.lo p false).k,(Bh a.lo b.hi p false).k,(Bh a.hi b.lo p false).k,(Bh a.hi b.hi p false).k],
   Ek [(Bh a.lo b.lo p true).k,(Bh a.lo b.hi p true).k,(Bh a.hi b.lo p true).k,(Bh a.hi b.hi p true).k]]:=by
 unfold Fa;rw [hz,Mb];simp only [Bool.false_eq_true,if_false,Da];by_cases h1:Ek [(Bh a.lo b.lo p false).k,(Bh a.lo b.hi p false).k,(Bh a.hi b.lo p false).k,(Bh a.hi b.hi p false).k]=0
 ·rw [Mb]
 ·simp [h1]
theorem Q0 {x y:Dy}{p:Nat}{up:Bool}(h:¬y.m=0):Dm x y p up=Bh x y p up:=by
 unfold Dm;rw [if_neg h]
theorem Rv {w:World}{a b:Iv}{p ba bb bp:Nat}(hb:b.Ok)(cb:BlkIv w bb b)(hz:Br b=true) :
 Calls Tryz.prog 28 #[.pointer (some ⟨bb,0,none⟩),.pointer (some ⟨ba,0,none⟩),.pointer (some ⟨bp,0,none⟩)] w (Ib 66 (Bv (Fa a b p)) w):=by
 obtain ⟨B,j,e,B',j',e',hbb,y1,y2⟩:=cb;have hres:Bv (Fa a b p)=⟨rzI,4⟩:=by unfold Fa;rw [if_pos hz];unfold Bv;rw [Fx]
 rw [hres];have CH:=hid (fun w1 (k:Kept w w1)=>W6 (v:=.agg #[.bool b.lo.neg,.slice B j e,.int .i64 b.lo.e,.bool b.hi.neg,.slice B' j' e',.int .i64 b.hi.e]) (u:=.agg #[.bool false,.slice none 0 0,.int .i64 0]) (a:=b) ⟨_,_,_,_,_,_,rfl,y1.kept k,y2.kept k⟩ (by rw [Cj];exact E4 _) hb dz_ok);have hhas:Ql b dz=true:=by rw [←hz];unfold Ql Br;rw [Wt]
 rw [hhas] at CH;obtain ⟨W,hW,kW,-,-⟩:=Np w;have HW:=hid hW;have K:=hid kW;obtain ⟨lb,c0,c1,c2,c3,c4,c5⟩:=hbb.facts;clear hW kW hbb y1 y2 hres hz hhas;go_enter Tryz.func28,Tryz.ntmps28
 go_wp2_with (first
  | (go_at_call 30;rw [←HW.out];refine (CH.out _ K.out).mono ?_;rintro e w1 ⟨rfl,q⟩;replace K:=hid (K.out.trans q))
  | (go_at_call 29;refine (Hw _ _ _).mono ?_;rintro e w3 ⟨he,rfl⟩;obtain rfl:e=.panicked (Ck 66 _):=he))
 exact ⟨rfl,K.out,.inr ⟨by decide,rfl⟩⟩
section
variable {P:Program} {ops:Array Oper} {Q:Exit→Act→World→Prop}
theorem M3 {V:Nat→Value→World→Prop}{i:Nat}{o:Oper}{a:Act}{w:World}{f:FuncId}{args:Array Value}{T:TypeId}{r:Int}{l:List Dy}(hw:Region.wanted o (yielded ops a.tmps)=true)
 (h:(execOp a.eval o).run P w=.ok (.enter f args) w) (hc:Calls P f args w (Vt T r l w))
 (hp:∀ v w',Kept w w'→r=0→DyS w' v l→V i v w') (hq:∀ w',Kept w w'→r≠0→Q (.panic (Ck T r)) a w'):Bd P ops Q V i o a w :=
 I9 hw h hc fun e w' he=>by
  obtain ⟨k,⟨h0,v,he,hd⟩ | ⟨h0,he⟩⟩:=he
  ·exact .inl ⟨v,he,k,hp v w' k h0 hd⟩
  ·exact .inr ⟨_,he,hq w' k h0⟩
end
theorem Zi {w:World}{a b:Iv}{p ba bb bp:Nat}(ha:a.Ok)(hb:b.Ok)(hT:Tab w)(p1:1≤p)(p2:p≤2000)(ca:BlkIv w ba a)(cb:BlkIv w bb b)(cp:w.cell? ⟨bp,0,none⟩=some (.int .i64 p)) :
 Calls Tryz.prog 28 #[.pointer (some ⟨bb,0,none⟩),.pointer (some ⟨ba,0,none⟩),.pointer (some ⟨bp,0,none⟩)] w (Ib 66 (Bv (Fa a b p)) w):=by
 by_cases hz:Br b=true
 ·exact Rv hb cb hz
 have hmf:=Ha;obtain ⟨n1,n2⟩:=Me hb hz;have hz:Br b=false:=by simpa using hz
 obtain ⟨o1,ho1⟩:∃ o,o=Bh a.lo b.lo p false:=⟨_,rfl⟩;obtain ⟨o2,ho2⟩:∃ o,o=Bh a.lo b.hi p false:=⟨_,rfl⟩;obtain ⟨o3,ho3⟩:∃ o,o=Bh a.hi b.lo p false:=⟨_,rfl⟩;obtain ⟨o4,ho4⟩:∃ o,o=Bh a.hi b.hi p false:=⟨_,rfl⟩;obtain ⟨u1,hu1⟩:∃ o,o=Bh a.lo b.lo p true:=⟨_,rfl⟩;obtain ⟨u2,hu2⟩:∃ o,o=Bh a.lo b.hi p true:=⟨_,rfl⟩;obtain ⟨u3,hu3⟩:∃ o,o=Bh a.hi b.lo p true:=⟨_,rfl⟩;obtain ⟨u4,hu4⟩:∃ o,o=Bh a.hi b.hi p true:=⟨_,rfl⟩;obtain ⟨o5,ho5⟩:∃ o:Outc Dy,o=⟨By o1.v [o1.v,o2.v,o3.v,o4.v],0⟩:=⟨_,rfl⟩;obtain ⟨o6,ho6⟩:∃ o:Outc Dy,o=⟨Ay u1.v [u1.v,u2.v,u3.v,u4.v],0⟩:=⟨_,rfl⟩;have hm:By o1.v [o1.v,o2.v,o3.v,o4.v]=o5.v:=by rw [ho5]
 have hg:Ay u1.v [u1.v,u2.v,u3.v,u4.v]=o6.v:=by rw [ho6]
 have D1:=fun w1 (k:Kept w w1)=>Wq (up:=false) ha hb (hT.kept k) p1 p2 (ca.kept k) (cb.kept k) (Ak k cp)
 have D2:=fun w1 (k:Kept w w1)=>Wq (up:=true) ha hb (hT.kept k) p1 p2 (ca.kept k) (cb.kept k) (Ak k cp)
 simp only [Q0 n1,Q0 n2,←ho1,←ho2,←ho3,←ho4,←hu1,←hu2,←hu3,←hu4] at D1 D2;have hres:Fa a b p=Da ⟨o5.v,o6.v⟩ [Ek [o1.k,o2.k,o3.k,o4.k],Ek [u1.k,u2.k,u3.k,u4.k]]:=by
  rw [R9 a b p hz,←ho1,←ho2,←ho3,←ho4,←hu1,←hu2,←hu3,←hu4,hm,hg]
 rw [hres];generalize Ek [o1.k,o2.k,o3.k,o4.k]=r1 at *;generalize Ek [u1.k,u2.k,u3.k,u4.k]=r2 at *;have ok1:o1.Ok:=by rw [ho1];exact C8 _ _ _ _
 have ok2:o2.Ok:=by rw [ho2];exact C8 _ _ _ _
 have ok3:o3.Ok:=by rw [ho3];exact C8 _ _ _ _
 have ok4:o4.Ok:=by rw [ho4];exact C8 _ _ _ _
 have ok5:u1.Ok:=by rw [hu1];exact C8 _ _ _ _
 have ok6:u2.Ok:=by rw [hu2];exact C8 _ _ _ _
 have ok7:u3.Ok:=by rw [hu3];exact C8 _ _ _ _
 have ok8:u4.Ok:=by rw [hu4];exact C8 _ _ _ _
 have okL4:okL [o1.v,o2.v,o3.v,o4.v]:=by intro d hd;simp at hd;rcases hd with rfl | rfl | rfl | rfl;exact ok1.1;exact ok2.1;exact ok3.1;exact ok4.1
 have okU4:okL [u1.v,u2.v,u3.v,u4.v]:=by intro d hd;simp at hd;rcases hd with rfl | rfl | rfl | rfl;exact ok5.1;exact ok6.1;exact ok7.1;exact ok8.1
 have cl:=fun w1 v (hv:DyS w1 v [o1.v,o2.v,o3.v,o4.v])=>Tn hv okL4 (by simp)
 have cg:=fun w1 v (hv:DyS w1 v [u1.v,u2.v,u3.v,u4.v])=>Md hv okU4 (by simp)
 rw [hm] at cl;rw [hg] at cg;generalize hl1:[o1.v,o2.v,o3.v,o4.v]=ls at *;generalize hl2:[u1.v,u2.v,u3.v,u4.v]=us at *;have C1:=hid D1;have C2:=hid D2;have CL:=hid cl;have CG:=hid cg;obtain ⟨B,j,e,B',j',e',hbb,y1,y2⟩:=cb;have CH:=hid (fun w1 (k:Kept w w1)=>W6 (v:=.agg #[.bool b.lo.neg,.slice B j e,.int .i64 b.lo.e,.bool b.hi.neg,.slice B' j' e',.int .i64 b.hi.e]) (u:=.agg #[.bool false,.slice none 0 0,.int .i64 0]) (a:=b) ⟨_,_,_,_,_,_,rfl,y1.kept k,y2.kept k⟩ (by rw [Cj];exact E4 _) hb dz_ok);have hhas:Ql b dz=false:=by rw [←hz];unfold Ql Br;rw [Wt]
 rw [hhas] at CH;obtain ⟨W,hW,kW,B3,B4⟩:=Np w;have HW:=hid hW;have K:=hid kW;have R3:=hid B3;have R4:=hid B4;obtain ⟨lb,c0,c1,c2,c3,c4,c5⟩:=hbb.facts;have hst:=Fu ⟨o5.v,o6.v⟩ [r1,r2];obtain ⟨res,hres'⟩:∃ r,r=Bv (Da ⟨o5.v,o6.v⟩ [r1,r2]):=⟨_,rfl⟩;have ST:=hid (show Kf res ⟨o5.raw.v,o6.raw.v⟩ [r1,r2] by rw [hres'];exact hst);rw [←hres'];have BAD:Hid (∀ (k:Int) (w1:World),Kept w w1→k≠0→res=⟨rzI,k⟩→Ib 66 res w (.panicked (Ck 66 k)) w1):=fun k w1 kk hk he=>by subst he;exact ⟨kk,.inr ⟨hk,rfl⟩⟩
 obtain ⟨la,-⟩:=(show ∃ x,w.heap[ba]?=some x from ca.elim (fun _ h=>by obtain ⟨_,_,_,_,_,h,_⟩:=h;exact ⟨_,h⟩));clear hW kW B3 B4 hbb cp ca y1 y2 ha hb hT p1 p2 ho1 ho2 ho3 ho4 ho5 ho6 hu1 hu2 hu3 hu4 hres hres' hst hm hg okL4 okU4 ok1 ok2 ok3 ok4 ok5 ok6 ok7 ok8 D1 D2 cl cg hz hhas n1 n2 hl1 hl2 la;generalize b.lo.neg=n3 at *;generalize b.lo.e=e3 at *;generalize b.hi.neg=n4 at *;generalize b.hi.e=e4 at *;go_enter Tryz.func28,Tryz.ntmps28;go_wp2_with fail;rw [←HW.out];refine (CH.out _ K.out).mono ?_;rintro e w5 ⟨rfl,q⟩;simp only [];go_wp2_with fail;refine (Gg 4 _).mono ?_;rintro e w6 ⟨rfl,q6⟩
 have kk:=q.trans q6;replace K:=hid (K.out.trans kk);have hsW0:w.heap.size+1<w6.heap.size:=Nat.lt_of_lt_of_le (Array.getElem?_eq_some_iff.1 R4.out).1 kk.size;replace R3:=hid (R3.out.kept kk);replace R4:=hid (R4.out.kept kk);clear kk q q6 c0 c1 c2 c3 c4 c5 HW;simp only [];go_upto_region 3 with fail
 refine rS1 4 ([(vE (.func (.func 31) #[] #[.pointer (some ⟨ba,0,none⟩),.pointer (some ⟨bb,0,none⟩),.pointer (some ⟨bp,0,none⟩)])),(fun v wv=>r1=0∧DyS wv v ls),(fun v wv=>(r1=0)∧DyR wv v o5.raw.v),(fun v wv=>∃ b,v=.pointer (some ⟨b,0,none⟩)∧w6.heap.size≤b∧Blk wv b (.bool false) (.slice none 0 0) (.int .i64 0))])
  (hM:=⟨⟨mE,fun v w w' k h=>by first | exact h | exact h.kept k | exact ⟨h.1,h.2.kept k⟩,fun v w w' k h=>by first | exact h | exact h.kept k | exact ⟨h.1,h.2.kept k⟩,fun v w w' k h=>by obtain ⟨b,h1,h2,h3⟩:=h;exact ⟨b,h1,h2,h3.kept k⟩,trivial⟩⟩) ⟨
    (gq 5),(fun aF wF F=>by have s13:=F.v 0 13;exact M3 (by simp [Region.wanted]) (by go_simp) (C1.out _ (K.out.trans F.kept)) (fun _ _ _ h0 h=>⟨h0,h⟩) (fun w2 k2 h0=>⟨F.defers,BAD.out _ _ (K.out.trans (F.kept.trans k2)) h0 (ST.out.1 h0)⟩)),(fun aF wF F=>by have s14:=F.p 1 14;have hC:=s14.1;exact Ao (by simp [Region.wanted]) (by go_simp) (CL.out _ _ s14.2) (fun _ _ h=>RetD.good h) (fun _ _ h=>⟨hC,h⟩)),(fun aF wF F=>by exact sN ⟨_,rfl,F.kept.size,Dc _⟩),
    trivial⟩ ?_
 intro u w1 k1 hu;have p14:=hp hu 1;have p15:=hp hu 2;have p6:=hp hu 3;simp only [Av,Am,if_true,Act.put,zlA,zlB,zlC,zlD,zlE,zlF,zlG,hv hu 0];clear hu;generalize u 1=v14,u 2=v15,u 3=v6 at *;obtain ⟨bl,rfl,hbl,hB5⟩:=p6;obtain ⟨z1,hd2⟩:=p15;obtain ⟨A5,l5,c5,rfl,hd2⟩:=Bj hd2;obtain ⟨lb5,c0,c1,c2,f0,f1,f2⟩:=hB5.facts;have hsW:=(Array.getElem?_eq_some_iff.1 R4.out).1;have Z:=hid z1;have KX:=hid (Al (x:=.bool o5.raw.v.neg) (y:=.slice A5 l5 c5) (z:=.int .i64 o5.raw.v.e) (K.out.trans k1) (show w.heap.size≤bl by omega));have R3X:=hid ((R3.out.kept k1).laid_other (b':=bl) (by omega) (.bool o5.raw.v.neg) (.slice A5 l5 c5) (.int .i64 o5.raw.v.e))
 have R4X:=hid ((R4.out.kept k1).laid_other (b':=bl) (by omega) (.bool o5.raw.v.neg) (.slice A5 l5 c5) (.int .i64 o5.raw.v.e));have B5X:=hid (hB5.laid (.bool o5.raw.v.neg) (.slice A5 l5 c5) (.int .i64 o5.raw.v.e));have D5X:=hid (hd2.dyW hB5 (Ah _) (Ag _ _ _) (Aj _) (.bool o5.raw.v.neg) (.slice A5 l5 c5) (.int .i64 o5.raw.v.e));clear z1 hd2 hB5 hsW p14 k1;go_simp;go_wp2_with fail;change Code.wp _ _ _ _ (dyW w1 bl _ _ _);generalize dyW w1 bl (.bool o5.raw.v.neg) (.slice A5 l5 c5) (.int .i64 o5.raw.v.e)=X at *;clear c0 c1 c2 f0 f1 f2 lb5
 refine Q9 4 ([(vE (.agg #[.bool o5.raw.v.neg,.slice A5 l5 c5,.int .i64 o5.raw.v.e])),(vE (.func (.func 31) #[] #[.pointer (some ⟨ba,0,none⟩),.pointer (some ⟨bb,0,none⟩),.pointer (some ⟨bp,0,none⟩)])),(fun v wv=>r2=0∧DyS wv v us),(fun v wv=>((r2=0)∧True)∧DyR wv v o6.raw.v)])
  (hM:=⟨⟨mE,mE,fun v w w' k h=>by first | exact h | exact h.kept k | exact ⟨h.1,h.2.kept k⟩,fun v w w' k h=>by first | exact h | exact h.kept k | exact ⟨h.1,h.2.kept k⟩,trivial⟩⟩) ⟨
    (gql 6 fun _ k=>Go.Proofs.YtinbgjcooolbiaaGreatDoor.c3 B5X.out k),(gq 5),(fun aF wF F=>by have s17:=F.v 1 17;exact M3 (by simp [Region.wanted]) (by go_simp) (C2.out _ (KX.out.trans F.kept)) (fun _ _ _ h0 h=>⟨h0,h⟩) (fun w2 k2 h0=>⟨F.defers,BAD.out _ _ (KX.out.trans (F.kept.trans k2)) h0 ((ST.out.2 Z.out).1 h0)⟩)),(fun aF wF F=>by have s18:=F.p 2 18;have hC:=s18.1;exact Ao (by simp [Region.wanted]) (by go_simp) (CG.out _ _ s18.2) (fun _ _ h=>RetD.good h) (fun _ _ h=>⟨⟨hC,trivial⟩,h⟩)),
    trivial⟩ ?_
 intro u w1 k1 hu;have p18:=hp hu 2;have p19:=hp hu 3;simp only [Av,Am,if_true,Act.put,zlA,zlB,zlC,zlD,zlE,zlF,zlG,hv hu 0,hv hu 1];clear hu;generalize u 2=v18,u 3=v19 at *;obtain ⟨⟨z4,-⟩,hd4⟩:=p19;obtain ⟨A6,l6,c6,rfl,hd4⟩:=Bj hd4;have hres:=(ST.out.2 Z.out).2 z4;have r3:=R3X.out.kept k1;have r4:=R4X.out.kept k1;have hk:=KX.out.trans k1;have hd5:=D5X.out.kept k1;obtain ⟨-,c0,c1,c2,f0,f1,f2⟩:=r3.facts;obtain ⟨-,d0,d1,d2,g0,g1,g2⟩:=r4.facts;obtain ⟨t1,t2,t3⟩:=Iu (T:=66) hk (Nat.le_refl _) (Nat.le_succ _) (by omega) r3 r4 hd5 hd4 hres;have T1:=hid t1;have T2:=hid t2;have T3:=hid t3
 clear t1 t2 t3 r3 r4 hk hd5 hd4 hres z4 p18 k1;refine ⟨?_,?_⟩
 ·go_simp;go_wp2_with fail;exact En T1.out T2.out rfl rfl rfl rfl T3.out
 ·first
   | exact .inl (by kernel_rfl)
   | (right
      rw [Ie _ (by omega)] at T1 T2 T3;go_simp;go_wp2_with fail;exact En T1.out T2.out rfl rfl rfl rfl T3.out)
def RawI.iv (a:RawI):Iv:=⟨a.lo.dy,a.hi.dy⟩
theorem D7 {a:RawI}(h1:Small a.lo.m)(h2:Small a.hi.m)(h:Ex a=true):a.iv.Ok∧a.iv.raw=a:=by
 unfold Ex at h;simp only [Bool.and_eq_true,decide_eq_true_eq] at h;obtain ⟨⟨m1,m2⟩,m3⟩:=h;obtain ⟨c1,d1⟩:=Fd h1 m1;obtain ⟨c2,d2⟩:=Fd h2 m2;exact ⟨⟨d1,d2,Fk.1 m3⟩,by unfold RawI.iv Iv.raw;simp only [c1,c2]⟩
theorem Iv.raw_iv (a:Iv):a.raw.iv=a:=by unfold Iv.raw RawI.iv;simp only [Dy.raw_dy]
theorem Ox {lo hi:Outc Dy}(h:(Gk lo hi).k≠0):(Gk lo hi).v=iz:=by
 unfold Gk Outc.bind at *;by_cases h1:lo.k=0
 ·simp only [if_pos h1] at h ⊢;by_cases h2:hi.k=0
  ·simp only [if_pos h2] at h;exact absurd rfl h
  ·simp only [if_neg h2]
 ·simp only [if_neg h1]
theorem Ix {α:Type}{o:Outc α}{f:α→Outc Iv}(hf:∀ x,(f x).k≠0→(f x).v=iz)(h:(o.bind iz f).k≠0):(o.bind iz f).v=iz:=by
 unfold Outc.bind at *;by_cases h1:o.k=0
 ·rw [if_pos h1] at h ⊢;exact hf _ h
 ·rw [if_neg h1]
theorem Tk {a b c d:Outc Dy}{f:Dy→Dy→Dy→Dy→Outc Iv}(hf:∀ x y z u,(f x y z u).k≠0→(f x y z u).v=iz)(h:(four a b c d f).k≠0):(four a b c d f).v=iz:=by
 unfold four at *;exact Ix (fun x=>Ix fun y=>Ix fun z=>Ix fun u=>hf x y z u) h
theorem Zh {a b:Iv}{p:Nat}(h:(Lz a b p).k≠0):(Lz a b p).v=iz:=Ox h
theorem Aaw {a:Iv}{p:Nat}(h:(My a p).k≠0):(My a p).v=iz:=Ix (fun _ h=>Ix (fun _ h=>Ox h) h) h
theorem Yu {a:Iv}{p:Nat}(h:(Ee a p).k≠0):(Ee a p).v=iz:=by
 unfold Ee at *;by_cases hs:sg a.lo<0
 ·rw [if_pos hs]
 ·rw [if_neg hs] at h ⊢;exact Ox h
theorem Zr {a b:Iv}{p:Nat}(h:(Fa a b p).k≠0):(Fa a b p).v=iz:=by
 unfold Fa at *;by_cases hs:Br b=true
 ·rw [if_pos hs]
 ·rw [if_neg hs] at h ⊢;exact Tk (fun _ _ _ _ h=>Tk (fun _ _ _ _ h=>absurd rfl h) h) h
theorem Lv {o:Outc Iv}(h:o.k≠0→o.v=iz):(Bv o).k≠0→(Bv o).v=rzI:=fun hk=>by
 show o.v.raw=rzI
 rw [h hk,Fx]
theorem Mh (w:World)(o:Obj)(n:Nat)(h:w.heap.size=n):(w.alloc o).heap[n]?=some o:=by subst h;exact heap_alloc_new _ _
theorem J0 (w:World)(n:Nat)(x y z x' y' z':Value)(h:w.heap.size=n):BlkI (w.alloc (.cells #[x,y,z,x',y',z'] 26)) n x y z x' y' z':=Mh w _ n h
theorem Te (w:World)(x0 x1 x2 x3 x4 x5 y0 y1 y2 y3 y4 y5 p:Value):∃ W,W=((((w.alloc (.cells #[x0,x1,x2,x3,x4,x5] 26)).alloc (.cells #[y0,y1,y2,y3,y4,y5] 26)).alloc (.cells #[p] 3)).alloc (.cells #[.bool false,.slice none 0 0,.int .i64 0,.bool false,.slice none 0 0,.int .i64 0] 26)).alloc (.cells #[x0,x1,x2,x3,x4,x5,y0,y1,y2,y3,y4,y5] 26) ∧
 Kept w W∧BlkI W w.heap.size x0 x1 x2 x3 x4 x5∧BlkI W (w.heap.size+1) y0 y1 y2 y3 y4 y5∧W.cell? ⟨w.heap.size+1+1,0,none⟩=some p∧BlkI W (w.heap.size+1+1+1) (.bool false) (.slice none 0 0) (.int .i64 0) (.bool false) (.slice none 0 0) (.int .i64 0) ∧
 W.heap[w.heap.size+1+1+1+1]?=some (.cells #[x0,x1,x2,x3,x4,x5,y0,y1,y2,y3,y4,y5] 26 (0,0)):=by
 refine ⟨_,rfl,((((Ad _ _).trans (Ad _ _)).trans (Ad _ _)).trans (Ad _ _)).trans (Ad _ _),?_,?_,?_,?_,Mh _ _ _ (by simp)⟩
 ·exact ((((J0 w _ _ _ _ _ _ _ rfl).kept (Ad _ _)).kept (Ad _ _)).kept (Ad _ _)).kept (Ad _ _)
 ·exact (((J0 _ _ _ _ _ _ _ _ (by simp)).kept (Ad _ _)).kept (Ad _ _)).kept (Ad _ _)
 ·exact Ak (Ad _ _) (Ak (Ad _ _) (Ae (Mh _ _ _ (by simp)) 0 _ rfl))
 ·exact (J0 _ _ _ _ _ _ _ _ (by simp)).kept (Ad _ _)
theorem Td (w:World)(x0 x1 x2 x3 x4 x5 p:Value):∃ W,W=(((w.alloc (.cells #[x0,x1,x2,x3,x4,x5] 26)).alloc (.cells #[p] 3)).alloc (.cells #[.bool false,.slice none 0 0,.int .i64 0,.bool false,.slice none 0 0,.int .i64 0] 26)).alloc (.cells #[x0,x1,x2,x3,x4,x5] 26) ∧
 Kept w W∧BlkI W w.heap.size x0 x1 x2 x3 x4 x5∧W.cell? ⟨w.heap.size+1,0,none⟩=some p∧BlkI W (w.heap.size+1+1) (.bool false) (.slice none 0 0) (.int .i64 0) (.bool false) (.slice none 0 0) (.int .i64 0) ∧
 W.heap[w.heap.size+1+1+1]?=some (.cells #[x0,x1,x2,x3,x4,x5] 26 (0,0)):=by
 refine ⟨_,rfl,(((Ad _ _).trans (Ad _ _)).trans (Ad _ _)).trans (Ad _ _),?_,?_,?_,Mh _ _ _ (by simp)⟩
 ·exact (((J0 w _ _ _ _ _ _ _ rfl).kept (Ad _ _)).kept (Ad _ _)).kept (Ad _ _)
 ·exact Ak (Ad _ _) (Ak (Ad _ _) (Ae (Mh _ _ _ (by simp)) 0 _ rfl))
 ·exact (J0 _ _ _ _ _ _ _ _ (by simp)).kept (Ad _ _)
theorem Adk {w:World}{b:Nat}{a:RawI}{T:TypeId}{x0 x1 x2 x3 x4 x5:Value}(h:w.heap[b]?=some (.cells #[x0,x1,x2,x3,x4,x5] T (0,0)))(h1:IvR w (.agg #[x0,x1,x2,x3,x4,x5]) a) :
 IvS w (.slice (some ⟨b,0,none⟩) 1 1) [a]:=by
 refine ⟨_,_,rfl,Nat.le_refl _,fun _=>⟨b,0,rfl,fun i d hi=>?_⟩⟩;rcases i with _ | i
 ·simp at hi;subst hi;exact ⟨_,_,_,_,_,_,Ae h 0 _ rfl,Ae h 1 _ rfl,Ae h 2 _ rfl,Ae h 3 _ rfl,Ae h 4 _ rfl,Ae h 5 _ rfl,h1⟩
 ·simp at hi
theorem Adl {w:World}{b:Nat}{a a':RawI}{T:TypeId}{x0 x1 x2 x3 x4 x5 y0 y1 y2 y3 y4 y5:Value}(h:w.heap[b]?=some (.cells #[x0,x1,x2,x3,x4,x5,y0,y1,y2,y3,y4,y5] T (0,0)))(h1:IvR w (.agg #[x0,x1,x2,x3,x4,x5]) a)(h2:IvR w (.agg #[y0,y1,y2,y3,y4,y5]) a') :
 IvS w (.slice (some ⟨b,0,none⟩) 2 2) [a,a']:=by
 refine ⟨_,_,rfl,Nat.le_refl _,fun _=>⟨b,0,rfl,fun i d hi=>?_⟩⟩;rcases i with _ | _ | i
 ·simp at hi;subst hi;exact ⟨_,_,_,_,_,_,Ae h 0 _ rfl,Ae h 1 _ rfl,Ae h 2 _ rfl,Ae h 3 _ rfl,Ae h 4 _ rfl,Ae h 5 _ rfl,h1⟩
 ·simp at hi;subst hi;exact ⟨_,_,_,_,_,_,Ae h 6 _ rfl,Ae h 7 _ rfl,Ae h 8 _ rfl,Ae h 9 _ rfl,Ae h 10 _ rfl,Ae h 11 _ rfl,h2⟩
 ·simp at hi
theorem G5 {w:World}{b:Nat}{a:RawI}{A A':Option Addr}{l c l' c':Nat}(hr:a.iv.raw=a)(h:BlkI w b (.bool a.lo.neg) (.slice A l c) (.int .i64 a.lo.e) (.bool a.hi.neg) (.slice A' l' c') (.int .i64 a.hi.e))
 (h1:DyR w (.agg #[.bool a.lo.neg,.slice A l c,.int .i64 a.lo.e]) a.lo) (h2:DyR w (.agg #[.bool a.hi.neg,.slice A' l' c',.int .i64 a.hi.e]) a.hi):BlkIv w b a.iv:=by
 have e1:a.iv.lo.raw=a.lo:=congrArg RawI.lo hr;have e2:a.iv.hi.raw=a.hi:=congrArg RawI.hi hr;exact ⟨A,l,c,A',l',c',h,by rw [e1];exact h1,by rw [e2];exact h2⟩
theorem DyR.small {w:World}{v:Value}{r:Raw}(h:DyR w v r):Small r.m:=by
 obtain ⟨s,_,hs,_⟩:=h;exact hs.1
theorem Acx {w:World}{v u:Value}{a b:RawI}{p:Int}(hv:IvR w v a)(hu:IvR w u b)(la:a.lens 17592186044416)(lb:b.lens 17592186044416)(hT:Tab w) :
 Calls Tryz.prog 12 #[v,u,.int .i64 p] w (RetIE (Cs p [a,b] (Bv (Lz a.iv b.iv p.toNat))) w):=by
 have hmf:=Ha;obtain ⟨A,l,c,A',l',c',rfl,h1,h2⟩:=Be hv;obtain ⟨B,j,e,B',j',e',rfl,g1,g2⟩:=Be hu;obtain ⟨W,hW,kW,BA,BB,cp,BR,BL⟩:=Te w (.bool a.lo.neg) (.slice A l c) (.int .i64 a.lo.e) (.bool a.hi.neg) (.slice A' l' c') (.int .i64 a.hi.e) (.bool b.lo.neg) (.slice B j e) (.int .i64 b.lo.e) (.bool b.hi.neg) (.slice B' j' e') (.int .i64 b.hi.e) (.int .i64 p)
 have hf:=Lq (w:=W) (K:=47) (cap:=#[.pointer (some ⟨w.heap.size,0,none⟩),.pointer (some ⟨w.heap.size+1,0,none⟩),.pointer (some ⟨w.heap.size+1+1,0,none⟩)]) (p:=p) (l:=[a,b]) (o:=Bv (Lz a.iv b.iv p.toNat))
  (Adl BL ⟨_,_,_,_,_,_,rfl,h1.kept kW,h2.kept kW⟩ ⟨_,_,_,_,_,_,rfl,g1.kept kW,g2.kept kW⟩)
  (by intro x hx;simp only [List.mem_cons,List.not_mem_nil,or_false] at hx;rcases hx with rfl | rfl;exact la;exact lb) (by simp)
  (fun p1 p2 hall w1 k=>by
    simp only [List.all_cons,List.all_nil,Bool.and_true,Bool.and_eq_true] at hall;obtain ⟨oa,ra⟩:=D7 h1.small h2.small hall.1;obtain ⟨ob,rb⟩:=D7 g1.small g2.small hall.2;have hp:((p.toNat:Nat):Int)=p:=Int.toNat_of_nonneg (by omega);exact Abk (p:=p.toNat) oa ob (hT.kept (kW.trans k)) (by omega) (by omega) (G5 ra (BA.kept k) (h1.kept (kW.trans k)) (h2.kept (kW.trans k))) (G5 rb (BB.kept k) (g1.kept (kW.trans k)) (g2.kept (kW.trans k))) (by rw [hp];exact Ak k cp))
  (Lv Zh) (fun _=>rfl)
 generalize Cs p [a,b] (Bv (Lz a.iv b.iv p.toNat))=o at *;have HF:=hid hf;have HW:=hid hW;have HK:=hid kW;have HR:=hid BR;clear hf hW kW BA BB BR BL cp h1 h2 g1 g2 hv hu la lb hT;generalize a.lo.neg=n1 at *;generalize a.lo.e=e1 at *;generalize a.hi.neg=n2 at *;generalize a.hi.e=e2 at *;generalize b.lo.neg=n3 at *;generalize b.lo.e=e3 at *;generalize b.hi.neg=n4 at *;generalize b.hi.e=e4 at *;go_enter Tryz.func12,Tryz.ntmps12
 go_wp2_with (go_at_call 27;rw [←HW.out];refine HF.out.mono ?_;rintro e w1 ⟨q,u,rfl,hd⟩;obtain ⟨A1,j1,k1',A2,j2,k2',rfl,z1,z2⟩:=Be hd;have Z1:=hid z1;have Z2:=hid z2;have hb2:=HR.out.kept q;obtain ⟨hsz,c0,c1,c2,c3,c4,c5⟩:=hb2.facts;obtain ⟨f0,f1,f2,f3,f4,f5⟩:=hb2.free;have HRR:=hid hb2;clear hd hb2 z1 z2)
 exact Ei (HRR.out.laid _ _ _ _ _ _) rfl rfl rfl ⟨Cq (HK.out.trans q) (by omega),_,rfl,_,_,_,_,_,_,rfl,Z1.out.ivW HRR.out _ _ _ _ _ _,Z2.out.ivW HRR.out _ _ _ _ _ _⟩
theorem Aa1 {w:World}{v u:Value}{a b:RawI}{p:Int}(hv:IvR w v a)(hu:IvR w u b)(la:a.lens 17592186044416)(lb:b.lens 17592186044416)(hT:Tab w) :
 Calls Tryz.prog 6 #[v,u,.int .i64 p] w (RetIE (Cs p [a,b] (Bv (Fa a.iv b.iv p.toNat))) w):=by
 have hmf:=Ha;obtain ⟨A,l,c,A',l',c',rfl,h1,h2⟩:=Be hv;obtain ⟨B,j,e,B',j',e',rfl,g1,g2⟩:=Be hu;obtain ⟨W,hW,kW,BA,BB,cp,BR,BL⟩:=Te w (.bool a.lo.neg) (.slice A l c) (.int .i64 a.lo.e) (.bool a.hi.neg) (.slice A' l' c') (.int .i64 a.hi.e) (.bool b.lo.neg) (.slice B j e) (.int .i64 b.lo.e) (.bool b.hi.neg) (.slice B' j' e') (.int .i64 b.hi.e) (.int .i64 p)
 have hf:=Lq (w:=W) (K:=28) (cap:=#[.pointer (some ⟨w.heap.size+1,0,none⟩),.pointer (some ⟨w.heap.size,0,none⟩),.pointer (some ⟨w.heap.size+1+1,0,none⟩)]) (p:=p) (l:=[a,b]) (o:=Bv (Fa a.iv b.iv p.toNat))
  (Adl BL ⟨_,_,_,_,_,_,rfl,h1.kept kW,h2.kept kW⟩ ⟨_,_,_,_,_,_,rfl,g1.kept kW,g2.kept kW⟩)
  (by intro x hx;simp only [List.mem_cons,List.not_mem_nil,or_false] at hx;rcases hx with rfl | rfl;exact la;exact lb) (by simp)
  (fun p1 p2 hall w1 k=>by
    simp only [List.all_cons,List.all_nil,Bool.and_true,Bool.and_eq_true] at hall;obtain ⟨oa,ra⟩:=D7 h1.small h2.small hall.1;obtain ⟨ob,rb⟩:=D7 g1.small g2.small hall.2;have hp:((p.toNat:Nat):Int)=p:=Int.toNat_of_nonneg (by omega);exact Zi (p:=p.toNat) oa ob (hT.kept (kW.trans k)) (by omega) (by omega) (G5 ra (BA.kept k) (h1.kept (kW.trans k)) (h2.kept (kW.trans k))) (G5 rb (BB.kept k) (g1.kept (kW.trans k)) (g2.kept (kW.trans k))) (by rw [hp];exact Ak k cp))
  (Lv Zr) (fun _=>rfl)
 generalize Cs p [a,b] (Bv (Fa a.iv b.iv p.toNat))=o at *;have HF:=hid hf;have HW:=hid hW;have HK:=hid kW;have HR:=hid BR;clear hf hW kW BA BB BR BL cp h1 h2 g1 g2 hv hu la lb hT;generalize a.lo.neg=n1 at *;generalize a.lo.e=e1 at *;generalize a.hi.neg=n2 at *;generalize a.hi.e=e2 at *;generalize b.lo.neg=n3 at *;generalize b.lo.e=e3 at *;generalize b.hi.neg=n4 at *;generalize b.hi.e=e4 at *;go_enter Tryz.func6,Tryz.ntmps6
 go_wp2_with (go_at_call 27;rw [←HW.out];refine HF.out.mono ?_;rintro e w1 ⟨q,u,rfl,hd⟩;obtain ⟨A1,j1,k1',A2,j2,k2',rfl,z1,z2⟩:=Be hd;have Z1:=hid z1;have Z2:=hid z2;have hb2:=HR.out.kept q;obtain ⟨hsz,c0,c1,c2,c3,c4,c5⟩:=hb2.facts;obtain ⟨f0,f1,f2,f3,f4,f5⟩:=hb2.free;have HRR:=hid hb2;clear hd hb2 z1 z2)
 exact Ei (HRR.out.laid _ _ _ _ _ _) rfl rfl rfl ⟨Cq (HK.out.trans q) (by omega),_,rfl,_,_,_,_,_,_,rfl,Z1.out.ivW HRR.out _ _ _ _ _ _,Z2.out.ivW HRR.out _ _ _ _ _ _⟩
theorem Ac1 {w:World}{v:Value}{a:RawI}{p:Int}(hv:IvR w v a)(la:a.lens 17592186044416)(hT:Tab w) :
 Calls Tryz.prog 18 #[v,.int .i64 p] w (RetIE (Cs p [a] (Bv (My a.iv p.toNat))) w):=by
 have hmf:=Ha;obtain ⟨A,l,c,A',l',c',rfl,h1,h2⟩:=Be hv;obtain ⟨W,hW,kW,BA,cp,BR,BL⟩:=Td w (.bool a.lo.neg) (.slice A l c) (.int .i64 a.lo.e) (.bool a.hi.neg) (.slice A' l' c') (.int .i64 a.hi.e) (.int .i64 p)
 have hf:=Lq (w:=W) (K:=60) (cap:=#[.pointer (some ⟨w.heap.size,0,none⟩),.pointer (some ⟨w.heap.size+1,0,none⟩)]) (p:=p) (l:=[a]) (o:=Bv (My a.iv p.toNat))
  (Adk BL ⟨_,_,_,_,_,_,rfl,h1.kept kW,h2.kept kW⟩)
  (by intro x hx;simp only [List.mem_cons,List.not_mem_nil,or_false] at hx;subst hx;exact la) (by simp)
  (fun p1 p2 hall w1 k=>by
    simp only [List.all_cons,List.all_nil,Bool.and_true] at hall;obtain ⟨oa,ra⟩:=D7 h1.small h2.small hall;have hp:((p.toNat:Nat):Int)=p:=Int.toNat_of_nonneg (by omega);exact Acl (p:=p.toNat) oa (hT.kept (kW.trans k)) (by omega) (by omega) (G5 ra (BA.kept k) (h1.kept (kW.trans k)) (h2.kept (kW.trans k))) (by rw [hp];exact Ak k cp))
  (Lv Aaw) (fun _=>rfl)
 generalize Cs p [a] (Bv (My a.iv p.toNat))=o at *;have HF:=hid hf;have HW:=hid hW;have HK:=hid kW;have HR:=hid BR;clear hf hW kW BA BR BL cp h1 h2 hv la hT;generalize a.lo.neg=n1 at *;generalize a.lo.e=e1 at *;generalize a.hi.neg=n2 at *;generalize a.hi.e=e2 at *;go_enter Tryz.func18,Tryz.ntmps18
 go_wp2_with (go_at_call 27;rw [←HW.out];refine HF.out.mono ?_;rintro e w1 ⟨q,u,rfl,hd⟩;obtain ⟨A1,j1,k1',A2,j2,k2',rfl,z1,z2⟩:=Be hd;have Z1:=hid z1;have Z2:=hid z2;have hb2:=HR.out.kept q;obtain ⟨hsz,c0,c1,c2,c3,c4,c5⟩:=hb2.facts;obtain ⟨f0,f1,f2,f3,f4,f5⟩:=hb2.free;have HRR:=hid hb2;clear hd hb2 z1 z2)
 exact Ei (HRR.out.laid _ _ _ _ _ _) rfl rfl rfl ⟨Cq (HK.out.trans q) (by omega),_,rfl,_,_,_,_,_,_,rfl,Z1.out.ivW HRR.out _ _ _ _ _ _,Z2.out.ivW HRR.out _ _ _ _ _ _⟩
theorem Vv {w:World}{v:Value}{a:RawI}{p:Int}(hv:IvR w v a)(la:a.lens 17592186044416)(hT:Tab w) :
 Calls Tryz.prog 8 #[v,.int .i64 p] w (RetIE (Cs p [a] (Bv (Ee a.iv p.toNat))) w):=by
 have hmf:=Ha;obtain ⟨A,l,c,A',l',c',rfl,h1,h2⟩:=Be hv;obtain ⟨W,hW,kW,BA,cp,BR,BL⟩:=Td w (.bool a.lo.neg) (.slice A l c) (.int .i64 a.lo.e) (.bool a.hi.neg) (.slice A' l' c') (.int .i64 a.hi.e) (.int .i64 p)
 have hf:=Lq (w:=W) (K:=42) (cap:=#[.pointer (some ⟨w.heap.size,0,none⟩),.pointer (some ⟨w.heap.size+1,0,none⟩)]) (p:=p) (l:=[a]) (o:=Bv (Ee a.iv p.toNat))
  (Adk BL ⟨_,_,_,_,_,_,rfl,h1.kept kW,h2.kept kW⟩)
  (by intro x hx;simp only [List.mem_cons,List.not_mem_nil,or_false] at hx;subst hx;exact la) (by simp)
  (fun p1 p2 hall w1 k=>by
    simp only [List.all_cons,List.all_nil,Bool.and_true] at hall;obtain ⟨oa,ra⟩:=D7 h1.small h2.small hall;have hp:((p.toNat:Nat):Int)=p:=Int.toNat_of_nonneg (by omega);exact Aax (p:=p.toNat) oa (hT.kept (kW.trans k)) (by omega) (by omega) (G5 ra (BA.kept k) (h1.kept (kW.trans k)) (h2.kept (kW.trans k))) (by rw [hp];exact Ak k cp))
  (Lv Yu) (fun _=>rfl)
 generalize Cs p [a] (Bv (Ee a.iv p.toNat))=o at *;have HF:=hid hf;have HW:=hid hW;have HK:=hid kW;have HR:=hid BR;clear hf hW kW BA BR BL cp h1 h2 hv la hT;generalize a.lo.neg=n1 at *;generalize a.lo.e=e1 at *;generalize a.hi.neg=n2 at *;generalize a.hi.e=e2 at *;go_enter Tryz.func8,Tryz.ntmps8
 go_wp2_with (go_at_call 27;rw [←HW.out];refine HF.out.mono ?_;rintro e w1 ⟨q,u,rfl,hd⟩;obtain ⟨A1,j1,k1',A2,j2,k2',rfl,z1,z2⟩:=Be hd;have Z1:=hid z1;have Z2:=hid z2;have hb2:=HR.out.kept q;obtain ⟨hsz,c0,c1,c2,c3,c4,c5⟩:=hb2.facts;obtain ⟨f0,f1,f2,f3,f4,f5⟩:=hb2.free;have HRR:=hid hb2;clear hd hb2 z1 z2)
 exact Ei (HRR.out.laid _ _ _ _ _ _) rfl rfl rfl ⟨Cq (HK.out.trans q) (by omega),_,rfl,_,_,_,_,_,_,rfl,Z1.out.ivW HRR.out _ _ _ _ _ _,Z2.out.ivW HRR.out _ _ _ _ _ _⟩
theorem J1 {p:Int}{l:List RawI}{o:Outc RawI}(p1:1≤p)(p2:p≤2000)(h:l.all Ex=true):Cs p l o=o:=by unfold Cs;rw [if_pos ⟨p1,p2,h⟩]
theorem Acy {w:World}{v u:Value}{a b:Iv}{p:Nat}(hv:IvC w v a)(hu:IvC w u b)(ha:a.Ok)(hb:b.Ok)(hT:Tab w)(p1:1≤p)(p2:p≤2000) :
 Calls Tryz.prog 12 #[v,u,.int .i64 p] w (RetIE (Bv (Lz a b p)) w):=by
 have h:=Acx (p:=(p:Int)) hv hu (F3 ha) (F3 hb) hT;rw [J1 (by omega) (by omega) (by simp [Fq ha,Fq hb]),Iv.raw_iv,Iv.raw_iv,Int.toNat_natCast] at h;exact h
theorem Acz {w:World}{v u:Value}{a b:Iv}{p:Nat}(hv:IvC w v a)(hu:IvC w u b)(ha:a.Ok)(hb:b.Ok)(hT:Tab w)(p1:1≤p)(p2:p≤2000) :
 Calls Tryz.prog 6 #[v,u,.int .i64 p] w (RetIE (Bv (Fa a b p)) w):=by
 have h:=Aa1 (p:=(p:Int)) hv hu (F3 ha) (F3 hb) hT;rw [J1 (by omega) (by omega) (by simp [Fq ha,Fq hb]),Iv.raw_iv,Iv.raw_iv,Int.toNat_natCast] at h;exact h
theorem Ac2 {w:World}{v:Value}{a:Iv}{p:Nat}(hv:IvC w v a)(ha:a.Ok)(hT:Tab w)(p1:1≤p)(p2:p≤2000) :
 Calls Tryz.prog 18 #[v,.int .i64 p] w (RetIE (Bv (My a p)) w):=by
 have h:=Ac1 (p:=(p:Int)) hv (F3 ha) hT;rw [J1 (by omega) (by omega) (by simp [Fq ha]),Iv.raw_iv,Int.toNat_natCast] at h;exact h
theorem Abj {w:World}{v:Value}{a:Iv}{p:Nat}(hv:IvC w v a)(ha:a.Ok)(hT:Tab w)(p1:1≤p)(p2:p≤2000) :
 Calls Tryz.prog 8 #[v,.int .i64 p] w (RetIE (Bv (Ee a p)) w):=by
 have h:=Vv (p:=(p:Int)) hv (F3 ha) hT;rw [J1 (by omega) (by omega) (by simp [Fq ha]),Iv.raw_iv,Int.toNat_natCast] at h;exact h
theorem Ws {w:World}{v:Value}{n:Bool}{m:List Nat}{e:Int}(h:DyR w v ⟨n,m,e⟩):∃ A l c,v=.agg #[.bool n,.slice A l c,.int .i64 e]∧DyR w (.agg #[.bool n,.slice A l c,.int .i64 e]) ⟨n,m,e⟩:=Bj h
theorem O6 {w:World}{v:Value}{n:Bool}{m:List Nat}{e:Int}{n':Bool}{m':List Nat}{e':Int}(h:IvR w v ⟨⟨n,m,e⟩,⟨n',m',e'⟩⟩):∃ A l c A' l' c',v=.agg #[.bool n,.slice A l c,.int .i64 e,.bool n',.slice A' l' c',.int .i64 e'] ∧
 DyR w (.agg #[.bool n,.slice A l c,.int .i64 e]) ⟨n,m,e⟩∧DyR w (.agg #[.bool n',.slice A' l' c',.int .i64 e']) ⟨n',m',e'⟩:=Be h
def dm:Dy:=⟨true,1,0⟩
def dt:Dy:=⟨false,1,1⟩
def d4:Dy:=⟨false,1,2⟩
theorem Ti:dm.Ok:=Pb _ _ (by decide) (by decide)
theorem Wr:dt.Ok:=Pb _ _ (by decide) (by decide)
theorem Aa7:d4.Ok:=Pb _ _ (by decide) (by decide)
theorem Adf:Bu true 1 0=⟨dm,0⟩:=I2 Ti
theorem Ade:Bu false 1 2=⟨d4,0⟩:=I2 Aa7
theorem Adg:Bu false 2 0=⟨dt,0⟩:=by
 have ht:tz 2=1:=Hg 2 1 1 rfl rfl;unfold Bu;rw [ht];rw [if_neg (by decide),if_neg (by simp [Kk]),if_neg (by decide),if_neg (by decide)];rfl
theorem Ou:dm.raw=⟨true,[1],0⟩:=by unfold Dy.raw dm;simp only [Kk]
theorem Ov:dt.raw=⟨false,[1],1⟩:=by unfold Dy.raw dt;simp only [Kk]
theorem Abv:d4.raw=⟨false,[1],2⟩:=by unfold Dy.raw d4;simp only [Kk]
theorem Adc:sg dm=-1:=rfl
theorem Add:sg dt=1:=rfl
theorem Aa8:dm.q<0:=(Kw Adc).1
theorem Aa9:0<dt.q:=(Pl Add).1
def mt:Iv:=⟨dm,dt⟩
theorem Abb:mt.Ok:=⟨Ti,Wr,by show dm.q≤dt.q;have:=Aa8;have:=Aa9;grind⟩
theorem Tt:Br mt=true:=(K9 _).2 ⟨by show dm.q≤0;have:=Aa8;grind,by show 0≤dt.q;have:=Aa9;grind⟩
theorem Acm:My mt 20=⟨⟨dz,d4⟩,0⟩:=by
 have m1:Ih mt.lo mt.lo=⟨d1,0⟩:=Aba;have m2:Ih mt.hi mt.hi=⟨d4,0⟩:=Ade;unfold My;rw [m1,m2,Tt];have hg:Ay d1 [d1,d4]=d4:=by
  have q1:d1.q=1:=by unfold Dy.q d1 sq;rw [I7];simp
  have q4:d4.q=4:=by unfold Dy.q d4 sq;rw [show (2:Int)=1+1 from rfl,Fg,Yd];simp;grind
  have c1:¬0<Bq d1.q d1.q:=by rw [I0];decide
  have c4:0<Bq d4.q d1.q:=Lm.2 (by rw [q1,q4];decide);unfold Ay Ay Ay;rw [if_neg c1,if_pos c4]
 show Gk (Fc dz 20 false) (Fc (Ay d1 [d1,d4]) 20 true)=_
 rw [hg,Jn dz_ok (by show bl 0≤20;decide),Jn Aa7 (by show bl 1≤20;decide)];rfl
theorem Acn:Ia dm dt=⟨d1,0⟩:=by
 rw [←Aba];rfl
theorem Abl:Lz ⟨dm,dm⟩ ⟨dt,dt⟩ 20=⟨⟨d1,d1⟩,0⟩:=by
 unfold Lz;simp only [Acn];rw [Mm rfl P9 (by show bl 1≤20;decide),Mm rfl P9 (by show bl 1≤20;decide)];rfl
theorem Abw:Fa ⟨dt,dt⟩ mt 20=⟨iz,4⟩:=by unfold Fa;rw [if_pos Tt]
theorem Aay:Ee ⟨dm,dm⟩ 20=⟨iz,4⟩:=by unfold Ee;rw [if_pos (by show sg dm<0;decide)]
def R1:Raw:=⟨false,[1],0⟩
def R4:Raw:=⟨false,[1],2⟩
theorem Adu {w:World}(hT:Tab w):Calls Tryz.prog 22 #[.int .i64 (-1),.int .i64 0] w (RetE ⟨⟨true,[1],0⟩,0⟩ w):=by
 have h:=Abh (w:=w) (k:=1) (e:=0) (by decide) (by decide) (by decide) (by decide) hT;rw [Adf] at h;unfold Outc.raw at h;rw [Ou] at h;exact h
theorem Adv {w:World}(hT:Tab w):Calls Tryz.prog 22 #[.int .i64 2,.int .i64 0] w (RetE ⟨⟨false,[1],1⟩,0⟩ w):=by
 have h:=Abi (w:=w) (k:=2) (e:=0) (by decide) (by decide) (by decide) hT;rw [Adg] at h;unfold Outc.raw at h;rw [Ov] at h;exact h
theorem Xl:mt.raw=⟨⟨true,[1],0⟩,⟨false,[1],1⟩⟩:=by unfold Iv.raw mt;simp only [Ou,Ov]
theorem Adw {w:World}{v:Value}(hv:IvR w v ⟨⟨true,[1],0⟩,⟨false,[1],1⟩⟩)(hT:Tab w):Calls Tryz.prog 18 #[v,.int .i64 20] w (RetIE ⟨⟨⟨false,[],0⟩,⟨false,[1],2⟩⟩,0⟩ w):=by
 rw [←Xl] at hv;have h:=Ac2 (p:=20) hv Abb hT (by decide) (by decide);rw [Acm] at h;unfold Bv Iv.raw at h;simp only [Cj,Abv] at h;exact h
theorem Adr {w:World}{v u:Value}(hv:IvR w v ⟨⟨true,[1],0⟩,⟨true,[1],0⟩⟩)(hu:IvR w u ⟨⟨false,[1],1⟩,⟨false,[1],1⟩⟩)(hT:Tab w) :
 Calls Tryz.prog 12 #[v,u,.int .i64 20] w (RetIE ⟨⟨⟨false,[1],0⟩,⟨false,[1],0⟩⟩,0⟩ w):=by
 have h:=Acy (p:=20) (a:=pt dm) (b:=pt dt) (by unfold IvC Iv.raw pt;simp only [Ou];exact hv) (by unfold IvC Iv.raw pt;simp only [Ov];exact hu) (Ty Ti) (Ty Wr) hT (by decide) (by decide);unfold pt at h;rw [Abl] at h;unfold Bv Iv.raw at h;simp only [Wj] at h;exact h
theorem Adt {w:World}{v u:Value}(hv:IvR w v ⟨⟨false,[1],1⟩,⟨false,[1],1⟩⟩)(hu:IvR w u ⟨⟨true,[1],0⟩,⟨false,[1],1⟩⟩)(hT:Tab w) :
 Calls Tryz.prog 6 #[v,u,.int .i64 20] w (RetIE ⟨⟨⟨false,[],0⟩,⟨false,[],0⟩⟩,4⟩ w):=by
 rw [←Xl] at hu;have h:=Acz (p:=20) (a:=pt dt) (b:=mt) (by unfold IvC Iv.raw pt;simp only [Ov];exact hv) hu (Ty Wr) Abb hT (by decide) (by decide);unfold pt at h;rw [Abw] at h;unfold Bv at h;rw [Fx] at h;exact h
theorem Acq {w:World}{v:Value}(hv:IvR w v ⟨⟨true,[1],0⟩,⟨true,[1],0⟩⟩)(hT:Tab w):Calls Tryz.prog 8 #[v,.int .i64 20] w (RetIE ⟨⟨⟨false,[],0⟩,⟨false,[],0⟩⟩,4⟩ w):=by
 have h:=Abj (p:=20) (a:=pt dm) (by unfold IvC Iv.raw pt;simp only [Ou];exact hv) (Ty Ti) hT (by decide) (by decide);unfold pt at h;rw [Aay] at h;unfold Bv at h;rw [Fx] at h;exact h
theorem Acp {w:World}{v:Value}(hv:DyR w v ⟨false,[],0⟩):Calls Tryz.prog 24 #[v] w (RetK (.int .i64 0) w):=by
 have h:=Lo hv (by simp);have e:Re ⟨false,[],0⟩=0:=by unfold Re;rw [if_pos (.inr rfl)]
 rwa [e] at h
theorem Ads {w:World}{v u:Value}(hv:DyR w v ⟨false,[1],0⟩)(hu:DyR w u ⟨false,[1],0⟩):Calls Tryz.prog 25 #[v,u] w (RetK (.int .i64 0) w):=by
 rw [←Wj] at hv hu;have h:=Ki hv hu P9 P9;rwa [I0] at h
theorem Aco {w:World}{v u:Value}(hv:DyR w v ⟨false,[1],0⟩)(hu:DyR w u ⟨false,[1],0⟩):Calls Tryz.prog 26 #[v,u] w (RetK (.bool true) w):=by
 have h:=Zt hv hu (by simp);exact h
end Go.Proofs.YtinbgjcooolbiaaGreatDoor
