/- Words and contracts, part 34. -/
import Derived.Test.YtinbgjcooolbiaaGreatDoorClaimPartsp33
set_option maxRecDepth 100000
set_option maxHeartbeats 0
namespace Go.Proofs.YtinbgjcooolbiaaGreatDoor
open Go.Lib (hid)
open Go.RowKit
def Da (v:Iv):List Int→Outc Iv
 | []=>⟨v,0⟩
 | k::l=>if k≠0 then ⟨iz,k⟩ else Da v l
theorem Sb (o1 o3:Outc Dy)(f g:Dy→Outc Dy):Gk (o1.bind dz f) (o3.bind dz g)=Da ⟨(f o1.v).v,(g o3.v).v⟩ [o1.k,(f o1.v).k,o3.k,(g o3.v).k]:=by
 unfold Gk Outc.bind;simp only [Da];by_cases h1:o1.k=0
 ·simp only [h1,if_true,ne_eq,not_true_eq_false,if_false];by_cases h2:(f o1.v).k=0
  ·simp only [h2,if_true,not_true_eq_false,if_false];by_cases h3:o3.k=0
   ·simp only [h3,if_true,not_true_eq_false,if_false];by_cases h4:(g o3.v).k=0
    ·simp only [h4,if_true,not_true_eq_false,if_false]
    ·simp only [h4,if_false,not_false_eq_true,if_true]
   ·simp only [h3,if_false,not_false_eq_true,if_true]
  ·simp only [h2,if_false,not_false_eq_true,if_true]
 ·simp only [h1,if_false,ne_eq,not_false_eq_true,if_true]
def Bv (o:Outc Iv):Outc RawI:=⟨o.v.raw,o.k⟩
theorem Fx:iz.raw=rzI:=by show RawI.mk dz.raw dz.raw=⟨rz,rz⟩;rw [Cj]
theorem En {fn:Func}{R:Ending→World→Prop}{a:Act}{w:World}{b b' t t':Nat}{x y z x' y' z':Value}(h:Blk w b x y z)(h':Blk w b' x' y' z')
 (hres:fn.results=#[.cell t 24,.cell t' 24]) (ht:a.tmps.getD t undef=.pointer (some ⟨b,0,none⟩)) (ht':a.tmps.getD t' undef=.pointer (some ⟨b',0,none⟩)) (hd:a.defers=[])
 (hR:R (.returned (.tuple #[.agg #[x,y,z],.agg #[x',y',z']])) w):bodyPost Tryz.prog fn R .ret a w:=by
 obtain ⟨_,c0,c1,c2,_⟩:=h.facts;obtain ⟨_,d0,d1,d2,_⟩:=h'.facts;refine bodyPost_ret (v:=.tuple #[.agg #[x,y,z],.agg #[x',y',z']]) ?_ hd hR;have ht2:a.tmps[t]?.getD undef=.pointer (some ⟨b,0,none⟩):=by simpa using ht
 have ht3:a.tmps[t']?.getD undef=.pointer (some ⟨b',0,none⟩):=by simpa using ht'
 simp [results,hres,ht2,ht3,go_sem,c0,c1,c2,d0,d1,d2]
theorem Iu {w w1:World}{b3 b4:Nat}{r1 r2:Raw}{A A':Option Addr}{l c l' c':Nat}{T:TypeId}{res:Outc RawI}(hk:Kept w w1)(h3:w.heap.size≤b3)(h4:w.heap.size≤b4)(hne:¬b3=b4)
 (R3:Blk w1 b3 (.bool false) (.slice none 0 0) (.int .i64 0)) (R4:Blk w1 b4 (.bool false) (.slice none 0 0) (.int .i64 0))
 (d1:DyR w1 (.agg #[.bool r1.neg,.slice A l c,.int .i64 r1.e]) r1) (d2:DyR w1 (.agg #[.bool r2.neg,.slice A' l' c',.int .i64 r2.e]) r2) (hr:res=⟨⟨r1,r2⟩,0⟩) :
 Blk (dyW (dyW w1 b3 (.bool r1.neg) (.slice A l c) (.int .i64 r1.e)) b4 (.bool r2.neg) (.slice A' l' c') (.int .i64 r2.e)) b3 (.bool r1.neg) (.slice A l c) (.int .i64 r1.e) ∧
 Blk (dyW (dyW w1 b3 (.bool r1.neg) (.slice A l c) (.int .i64 r1.e)) b4 (.bool r2.neg) (.slice A' l' c') (.int .i64 r2.e)) b4 (.bool r2.neg) (.slice A' l' c') (.int .i64 r2.e) ∧
 Ib T res w (.returned (.tuple #[.agg #[.bool r1.neg,.slice A l c,.int .i64 r1.e],.agg #[.bool r2.neg,.slice A' l' c',.int .i64 r2.e]])) (dyW (dyW w1 b3 (.bool r1.neg) (.slice A l c) (.int .i64 r1.e)) b4 (.bool r2.neg) (.slice A' l' c') (.int .i64 r2.e)):=by
 have R4':=R4.laid_other (b':=b3) (fun h=>hne h.symm) (.bool r1.neg) (.slice A l c) (.int .i64 r1.e);refine ⟨(R3.laid _ _ _).laid_other hne _ _ _,R4'.laid _ _ _,Al (Al hk h3) h4,.inl ?_⟩;subst hr
 exact ⟨rfl,_,_,rfl,(d1.dyW R3 (Ah _) (Ag _ _ _) (Aj _) _ _ _).dyW R4' (Ah _) (Ag _ _ _) (Aj _) _ _ _,
  (d2.dyW R3 (Ah _) (Ag _ _ _) (Aj _) _ _ _).dyW R4' (Ah _) (Ag _ _ _) (Aj _) _ _ _⟩
theorem Ie (w:World){b b':Nat}(hne:¬b=b')(x y z x' y' z':Value):dyW (dyW w b x y z) b' x' y' z'=dyW (dyW w b' x' y' z') b x y z:=by
 have hs:∀ (w:World) (i j:Nat) (u v:Value),(w.setCell ⟨b,i,none⟩ u).setCell ⟨b',j,none⟩ v=(w.setCell ⟨b',j,none⟩ v).setCell ⟨b,i,none⟩ u:=by
  intro w i j u v;simp only [World.setCell]
  congr 1
  apply Array.ext_getElem?;intro k;simp only [Array.getElem?_modify];by_cases h1:b=k
  ·have h2:¬b'=k:=fun h=>hne (h1.trans h.symm)
   simp [h1,h2]
  ·by_cases h2:b'=k
   ·simp [h1,h2]
   ·simp [h1,h2]
 unfold dyW;simp only [hs]
def Kf (res:Outc RawI) (v:RawI):List Int→Prop
 | []=>res=⟨v,0⟩
 | k::l=>(k≠0→res=⟨rzI,k⟩)∧(k=0→Kf res v l)
theorem Fu (v:Iv):∀ l:List Int,Kf (Bv (Da v l)) v.raw l
 | []=>rfl
 | k :: l => by
   refine ⟨fun h=>?_,fun h=>?_⟩
   ·unfold Da;rw [if_pos h];unfold Bv;rw [Fx]
   ·unfold Da;rw [if_neg (fun hh=>hh h)];exact Fu v l
def BlkIv (w:World) (b:Nat) (a:Iv):Prop:=∃ A l c A' l' c',BlkI w b (.bool a.lo.neg) (.slice A l c) (.int .i64 a.lo.e) (.bool a.hi.neg) (.slice A' l' c') (.int .i64 a.hi.e) ∧
 DyR w (.agg #[.bool a.lo.neg,.slice A l c,.int .i64 a.lo.e]) a.lo.raw∧DyR w (.agg #[.bool a.hi.neg,.slice A' l' c',.int .i64 a.hi.e]) a.hi.raw
theorem BlkIv.kept {w w':World}{b:Nat}{a:Iv}(h:BlkIv w b a)(k:Kept w w'):BlkIv w' b a:=by
 obtain ⟨A,l,c,A',l',c',h1,h2,h3⟩:=h;exact ⟨A,l,c,A',l',c',h1.kept k,h2.kept k,h3.kept k⟩
theorem Np (w:World):∃ W,W=(w.alloc (.cells #[.bool false,.slice none 0 0,.int .i64 0] 24)).alloc (.cells #[.bool false,.slice none 0 0,.int .i64 0] 24)∧Kept w W ∧
 Blk W w.heap.size (.bool false) (.slice none 0 0) (.int .i64 0)∧Blk W (w.heap.size+1) (.bool false) (.slice none 0 0) (.int .i64 0) :=
 ⟨_,rfl,(Ad _ _).trans (Ad _ _),Ax (Dc w) _,Du _ _ _ _ _⟩
theorem Abk {w:World}{a b:Iv}{p ba bb bp:Nat}(ha:a.Ok)(hb:b.Ok)(hT:Tab w)(p1:1≤p)(p2:p≤2000)(ca:BlkIv w ba a)(cb:BlkIv w bb b)(cp:w.cell? ⟨bp,0,none⟩=some (.int .i64 p)) :
 Calls Tryz.prog 47 #[.pointer (some ⟨ba,0,none⟩),.pointer (some ⟨bb,0,none⟩),.pointer (some ⟨bp,0,none⟩)] w (Ib 66 (Bv (Lz a b p)) w):=by
 obtain ⟨A,l,c,A',l',c',hba,x1,x2⟩:=ca;obtain ⟨B,j,e,B',j',e',hbb,y1,y2⟩:=cb;obtain ⟨o1,ho1⟩:∃ o,o=Ia a.lo b.lo:=⟨_,rfl⟩;obtain ⟨o2,ho2⟩:∃ o,o=Fc o1.v p false:=⟨_,rfl⟩;obtain ⟨o3,ho3⟩:∃ o,o=Ia a.hi b.hi:=⟨_,rfl⟩;obtain ⟨o4,ho4⟩:∃ o,o=Fc o3.v p true:=⟨_,rfl⟩;have hres:Lz a b p=Da ⟨o2.v,o4.v⟩ [o1.k,o2.k,o3.k,o4.k]:=by unfold Lz Yo;rw [Sb,←ho1,←ho3,←ho2,←ho4]
 rw [hres];have ok1:o1.Ok:=by rw [ho1];exact Po ha.lo hb.lo
 have ok3:o3.Ok:=by rw [ho3];exact Po ha.hi hb.hi
 have C1:=hid (fun w1 (k:Kept w w1)=>Aa0 (x1.kept k) (y1.kept k) ha.lo hb.lo (hT.kept k));have C3:=hid (fun w1 (k:Kept w w1)=>Aa0 (x2.kept k) (y2.kept k) ha.hi hb.hi (hT.kept k));have C2:=hid (fun w1 (k:Kept w w1) v (hv:DyR w1 v o1.v.raw)=>Vr hv ok1.1 (hT.kept k) p1 p2);have C4:=hid (fun w1 (k:Kept w w1) v (hv:DyR w1 v o3.v.raw)=>Ac3 hv ok3.1 (hT.kept k) p1 p2);rw [←ho1] at C1;rw [←ho2] at C2;rw [←ho3] at C3;rw [←ho4] at C4;obtain ⟨W,hW,kW,B3,B4⟩:=Np w;have HW:=hid hW;have K:=hid kW;have R3:=hid B3;have R4:=hid B4;have HA:=hid hba;have HB:=hid hbb;have CP:=hid cp;have lp:=Bn cp
 obtain ⟨la,-⟩:=hba.facts;obtain ⟨lb,-⟩:=hbb.facts;simp only at lp;clear hW kW B3 B4 hba hbb cp x1 x2 y1 y2 ha hb hT p1 p2 ho1 ho2 ho3 ho4 hres ok1 ok3;generalize a.lo.neg=n1 at *;generalize a.lo.e=e1 at *;generalize a.hi.neg=n2 at *;generalize a.hi.e=e2 at *;generalize b.lo.neg=n3 at *;generalize b.lo.e=e3 at *;generalize b.hi.neg=n4 at *;generalize b.hi.e=e4 at *;have hst:=Fu ⟨o2.v,o4.v⟩ [o1.raw.k,o2.raw.k,o3.raw.k,o4.raw.k];obtain ⟨res,hres⟩:∃ r,r=Bv (Da ⟨o2.v,o4.v⟩ [o1.k,o2.k,o3.k,o4.k]):=⟨_,rfl⟩;have ST:=hid (show Kf res ⟨o2.raw.v,o4.raw.v⟩ [o1.raw.k,o2.raw.k,o3.raw.k,o4.raw.k] by rw [hres];exact hst)
 rw [←hres];clear hres hst;have BAD:Hid (∀ (k:Int) (w1:World),Kept w w1→k≠0→res=⟨rzI,k⟩→Ib 66 res w (.panicked (Ck 66 k)) w1):=fun k w1 kk hk he=>by subst he;exact ⟨kk,.inr ⟨hk,rfl⟩⟩
 go_enter Tryz.func47,Tryz.ntmps47;go_wp2_with fail;rw [←HW.out]
 refine Pk 14 ([(vP ba 0),(vE (.agg #[.bool n1,.slice A l c,.int .i64 e1])),(vP bb 0),(vE (.agg #[.bool n3,.slice B j e,.int .i64 e3])),(fun v wv=>(∃ d,v=.tuple #[d,.int .i64 o1.raw.k]∧DyR wv d o1.raw.v)∧(True)),(fun v wv=>DyR wv v o1.raw.v∧(True)),(vE (.int .i64 o1.raw.k)),(fun v wv=>(o1.raw.k=0∧(True))∧DyR wv v o1.raw.v),(vE (.int .i64 p)),(fun v wv=>(∃ d,v=.tuple #[d,.int .i64 o2.raw.k]∧DyR wv d o2.raw.v)∧(o1.raw.k=0)),(fun v wv=>DyR wv v o2.raw.v∧(o1.raw.k=0)),(vE (.int .i64 o2.raw.k)),(fun v wv=>(o2.raw.k=0∧(o1.raw.k=0))∧DyR wv v o2.raw.v),(fun v wv=>∃ b,v=.pointer (some ⟨b,0,none⟩)∧W.heap.size≤b∧Blk wv b (.bool false) (.slice none 0 0) (.int .i64 0))])
  ⟨
   (gq 0),(fun aF wF F=>by have s6:=F.v 0 6;have c0:=Af (HA.out.kept K.out) F.kept 0 _ rfl;have c1:=Af (HA.out.kept K.out) F.kept 1 _ rfl;have c2:=Af (HA.out.kept K.out) F.kept 2 _ rfl;exact sv rfl),(gq 1),(fun aF wF F=>by have s8:=F.v 2 8;have c0:=Af (HB.out.kept K.out) F.kept 0 _ rfl;have c1:=Af (HB.out.kept K.out) F.kept 1 _ rfl;have c2:=Af (HB.out.kept K.out) F.kept 2 _ rfl;exact sv rfl),(fun aF wF F=>by have s7:=F.v 1 7;have s9:=F.v 3 9;have hC:True:=trivial;exact Ao (by simp [Region.wanted]) (by go_simp) (C1.out _ (K.out.trans F.kept)) (fun _ _ h=>RetE.good h) (fun _ _ h=>⟨h,hC⟩)),(fun aF wF F=>by have s10:=F.p 4 10;obtain ⟨⟨dd,ee,hh⟩,hC⟩:=s10;exact sv ⟨hh,hC⟩),(fun aF wF F=>by have s10:=F.p 4 10;exact sw (by obtain ⟨⟨dd,ee,hh⟩,-⟩:=s10;go_simp) rfl),(fun aF wF F=>by have s11:=F.p 5 11;have s12:=F.v 6 12;have hC:=s11.2;exact sG (El (d:=o1.v) (k:=o1.raw.k) s11.1) (fun _ _ _ h0 h=>⟨⟨h0,hC⟩,h⟩) (fun w2 k2 h0=>⟨F.defers,BAD.out _ _ (K.out.trans (F.kept.trans k2)) h0 (ST.out.1 h0)⟩)),(fun aF wF F=>by have s2:=F.q 2 (.pointer (some ⟨bp,0,none⟩));exact sw (by have cq:=Ak (K.out.trans F.kept) CP.out;go_simp) rfl),(fun aF wF F=>by have s13:=F.p 7 13;have s14:=F.v 8 14;have hC:o1.raw.k=0:=s13.1.1;exact Ao (by simp [Region.wanted]) (by go_simp) (C2.out _ (K.out.trans F.kept) _ s13.2) (fun _ _ h=>RetE.good h) (fun _ _ h=>⟨h,hC⟩)),(fun aF wF F=>by have s15:=F.p 9 15;obtain ⟨⟨dd,ee,hh⟩,hC⟩:=s15;exact sv ⟨hh,hC⟩),(fun aF wF F=>by have s15:=F.p 9 15;exact sw (by obtain ⟨⟨dd,ee,hh⟩,-⟩:=s15;go_simp) rfl),(fun aF wF F=>by have s16:=F.p 10 16;have s17:=F.v 11 17;have hC:=s16.2;exact sG (El (d:=o2.v) (k:=o2.raw.k) s16.1) (fun _ _ _ h0 h=>⟨⟨h0,hC⟩,h⟩) (fun w2 k2 h0=>⟨F.defers,BAD.out _ _ (K.out.trans (F.kept.trans k2)) h0 ((ST.out.2 hC).1 h0)⟩)),(fun aF wF F=>by exact sN ⟨_,rfl,F.kept.size,Dc _⟩),
   trivial⟩ ?_
 intro u w1 k1 hu;have p10:=hp hu 4;have p11:=hp hu 5;have p13:=hp hu 7;have p15:=hp hu 9;have p16:=hp hu 10;have p18:=hp hu 12;have p5:=hp hu 13;simp only [Av,Am,if_true,Act.put,zlA,zlB,zlC,zlD,zlE,zlF,zlG,hv hu 0,hv hu 1,hv hu 2,hv hu 3,hv hu 6,hv hu 8,hv hu 11];clear hu;generalize u 4=v10,u 5=v11,u 7=v13,u 9=v15,u 10=v16,u 12=v18,u 13=v5 at *;obtain ⟨bl,rfl,hbl,hB5⟩:=p5;obtain ⟨⟨z2,z1⟩,hd2⟩:=p18;obtain ⟨A5,l5,c5,rfl,hd2⟩:=Bj hd2;obtain ⟨lb5,c0,c1,c2,f0,f1,f2⟩:=hB5.facts;have hsW:w.heap.size+1<W.heap.size:=(Array.getElem?_eq_some_iff.1 R4.out).1;have Z:=hid (And.intro z1 z2);have KX:=hid (Al (x:=.bool o2.raw.v.neg) (y:=.slice A5 l5 c5) (z:=.int .i64 o2.raw.v.e) (K.out.trans k1) (show w.heap.size≤bl by omega))
 have R3X:=hid ((R3.out.kept k1).laid_other (b':=bl) (by omega) (.bool o2.raw.v.neg) (.slice A5 l5 c5) (.int .i64 o2.raw.v.e));have R4X:=hid ((R4.out.kept k1).laid_other (b':=bl) (by omega) (.bool o2.raw.v.neg) (.slice A5 l5 c5) (.int .i64 o2.raw.v.e));have B5X:=hid (hB5.laid (.bool o2.raw.v.neg) (.slice A5 l5 c5) (.int .i64 o2.raw.v.e));have D5X:=hid (hd2.dyW hB5 (Ah _) (Ag _ _ _) (Aj _) (.bool o2.raw.v.neg) (.slice A5 l5 c5) (.int .i64 o2.raw.v.e));clear z1 z2 hd2 hB5 hsW p10 p11 p13 p15 p16 k1;go_simp;go_wp2_with fail;change Code.wp _ _ _ _ (dyW w1 bl _ _ _);generalize dyW w1 bl (.bool o2.raw.v.neg) (.slice A5 l5 c5) (.int .i64 o2.raw.v.e)=X at *
 clear c0 c1 c2 f0 f1 f2 lb5
 refine Q9 14 ([(vE (.agg #[.bool o2.raw.v.neg,.slice A5 l5 c5,.int .i64 o2.raw.v.e])),(vP ba 3),(vE (.agg #[.bool n2,.slice A' l' c',.int .i64 e2])),(vP bb 3),(vE (.agg #[.bool n4,.slice B' j' e',.int .i64 e4])),(fun v wv=>(∃ d,v=.tuple #[d,.int .i64 o3.raw.k]∧DyR wv d o3.raw.v)∧(True)),(fun v wv=>DyR wv v o3.raw.v∧(True)),(vE (.int .i64 o3.raw.k)),(fun v wv=>(o3.raw.k=0∧(True))∧DyR wv v o3.raw.v),(vE (.int .i64 p)),(fun v wv=>(∃ d,v=.tuple #[d,.int .i64 o4.raw.k]∧DyR wv d o4.raw.v)∧(o3.raw.k=0)),(fun v wv=>DyR wv v o4.raw.v∧(o3.raw.k=0)),(vE (.int .i64 o4.raw.k)),(fun v wv=>(o4.raw.k=0∧(o3.raw.k=0))∧DyR wv v o4.raw.v)])
  ⟨
   (gql 5 fun _ k=>c3 B5X.out k),(gq 0),(fun aF wF F=>by have s20:=F.v 1 20;have c0:=Af (HA.out.kept KX.out) F.kept 3 _ rfl;have c1:=Af (HA.out.kept KX.out) F.kept 4 _ rfl;have c2:=Af (HA.out.kept KX.out) F.kept 5 _ rfl;exact sv rfl),(gq 1),(fun aF wF F=>by have s22:=F.v 3 22;have c0:=Af (HB.out.kept KX.out) F.kept 3 _ rfl;have c1:=Af (HB.out.kept KX.out) F.kept 4 _ rfl;have c2:=Af (HB.out.kept KX.out) F.kept 5 _ rfl;exact sv rfl),(fun aF wF F=>by have s21:=F.v 2 21;have s23:=F.v 4 23;have hC:True:=trivial;exact Ao (by simp [Region.wanted]) (by go_simp) (C3.out _ (KX.out.trans F.kept)) (fun _ _ h=>RetE.good h) (fun _ _ h=>⟨h,hC⟩)),(fun aF wF F=>by have s24:=F.p 5 24;obtain ⟨⟨dd,ee,hh⟩,hC⟩:=s24;exact sv ⟨hh,hC⟩),(fun aF wF F=>by have s24:=F.p 5 24;exact sw (by obtain ⟨⟨dd,ee,hh⟩,-⟩:=s24;go_simp) rfl),(fun aF wF F=>by have s25:=F.p 6 25;have s26:=F.v 7 26;have hC:=s25.2;exact sG (El (d:=o3.v) (k:=o3.raw.k) s25.1) (fun _ _ _ h0 h=>⟨⟨h0,hC⟩,h⟩) (fun w2 k2 h0=>⟨F.defers,BAD.out _ _ (KX.out.trans (F.kept.trans k2)) h0 (((ST.out.2 Z.out.1).2 Z.out.2).1 h0)⟩)),(fun aF wF F=>by have s2:=F.q 2 (.pointer (some ⟨bp,0,none⟩));exact sw (by have cq:=Ak (KX.out.trans F.kept) CP.out;go_simp) rfl),(fun aF wF F=>by have s27:=F.p 8 27;have s28:=F.v 9 28;have hC:o3.raw.k=0:=s27.1.1;exact Ao (by simp [Region.wanted]) (by go_simp) (C4.out _ (KX.out.trans F.kept) _ s27.2) (fun _ _ h=>RetE.good h) (fun _ _ h=>⟨h,hC⟩)),(fun aF wF F=>by have s29:=F.p 10 29;obtain ⟨⟨dd,ee,hh⟩,hC⟩:=s29;exact sv ⟨hh,hC⟩),(fun aF wF F=>by have s29:=F.p 10 29;exact sw (by obtain ⟨⟨dd,ee,hh⟩,-⟩:=s29;go_simp) rfl),(fun aF wF F=>by have s30:=F.p 11 30;have s31:=F.v 12 31;have hC:=s30.2;exact sG (El (d:=o4.v) (k:=o4.raw.k) s30.1) (fun _ _ _ h0 h=>⟨⟨h0,hC⟩,h⟩) (fun w2 k2 h0=>⟨F.defers,BAD.out _ _ (KX.out.trans (F.kept.trans k2)) h0 ((((ST.out.2 Z.out.1).2 Z.out.2).2 hC).1 h0)⟩)),
   trivial⟩ ?_
 intro u w1 k1 hu;have p24:=hp hu 5;have p25:=hp hu 6;have p27:=hp hu 8;have p29:=hp hu 10;have p30:=hp hu 11;have p32:=hp hu 13;simp only [Av,Am,if_true,Act.put,zlA,zlB,zlC,zlD,zlE,zlF,zlG,hv hu 0,hv hu 1,hv hu 2,hv hu 3,hv hu 4,hv hu 7,hv hu 9,hv hu 12];clear hu;generalize u 5=v24,u 6=v25,u 8=v27,u 10=v29,u 11=v30,u 13=v32 at *;obtain ⟨⟨z4,z3⟩,hd4⟩:=p32;obtain ⟨A6,l6,c6,rfl,hd4⟩:=Bj hd4;have hres:=(((ST.out.2 Z.out.1).2 Z.out.2).2 z3).2 z4;have r3:=R3X.out.kept k1;have r4:=R4X.out.kept k1;have hk:=KX.out.trans k1;have hd5:=D5X.out.kept k1;obtain ⟨-,c0,c1,c2,f0,f1,f2⟩:=r3.facts;obtain ⟨-,d0,d1,d2,g0,g1,g2⟩:=r4.facts
 obtain ⟨t1,t2,t3⟩:=Iu (T:=66) hk (Nat.le_refl _) (Nat.le_succ _) (by omega) r3 r4 hd5 hd4 hres;have T1:=hid t1;have T2:=hid t2;have T3:=hid t3;clear t1 t2 t3 r3 r4 hk hd5 hd4 hres z3 z4 p24 p25 p27 p29 p30 k1;refine ⟨?_,?_⟩
 ·go_simp;go_wp2_with fail;exact En T1.out T2.out rfl rfl rfl rfl T3.out
 ·first
   | exact .inl (by kernel_rfl)
   | (right
      rw [Ie _ (by omega)] at T1 T2 T3;go_simp;go_wp2_with fail;exact En T1.out T2.out rfl rfl rfl rfl T3.out)
theorem K6 (o2 o4:Outc Dy):Gk o2 o4=Da ⟨o2.v,o4.v⟩ [o2.k,o4.k]:=by
 unfold Gk Outc.bind;simp only [Da];by_cases h1:o2.k=0
 ·simp only [h1,if_true,ne_eq,not_true_eq_false,if_false];by_cases h2:o4.k=0
  ·simp only [h2,if_true,not_true_eq_false,if_false]
  ·simp only [h2,if_false,not_false_eq_true,if_true]
 ·simp only [h1,if_false,ne_eq,not_false_eq_true,if_true]
theorem Tv {d:Dy}(hd:d.Ok)(h:0≤d.q):d.neg=false:=by
 cases hn:d.neg
 ·rfl
 ·exfalso;by_cases h0:d.m=0
  ·have:=(hd.zero h0).1;rw [hn] at this;cases this
  ·have hs:sg d=-1:=by unfold sg;rw [if_neg h0,hn];rfl
   have:=(Kw hs).1;grind
theorem Aax {w:World}{a:Iv}{p ba bp:Nat}(ha:a.Ok)(hT:Tab w)(p1:1≤p)(p2:p≤2000)(ca:BlkIv w ba a)(cp:w.cell? ⟨bp,0,none⟩=some (.int .i64 p)) :
 Calls Tryz.prog 42 #[.pointer (some ⟨ba,0,none⟩),.pointer (some ⟨bp,0,none⟩)] w (Ib 66 (Bv (Ee a p)) w):=by
 obtain ⟨A,l,c,A',l',c',hba,x1,x2⟩:=ca;have sg1:=fun w1 (k:Kept w w1)=>Lo (x1.kept k) (by have:=Di ha.lo;omega)
 rw [Io _ ha.lo] at sg1;by_cases hneg:sg a.lo<0
 ·have hres:Bv (Ee a p)=⟨rzI,4⟩:=by unfold Ee;rw [if_pos hneg];unfold Bv;rw [Fx]
  rw [hres];have hd:decide (0≤sg a.lo)=false:=by simp;omega
  obtain ⟨W,hW,kW,-,-⟩:=Np w;have HW:=hid hW;have K:=hid kW;have SG:=hid sg1;obtain ⟨la,c0,c1,c2,c3,c4,c5⟩:=hba.facts;clear hW kW sg1 hba x1 x2 ha hT p1 p2 cp hneg hres;generalize sg a.lo=g at *;generalize a.lo.neg=n1 at *;generalize a.lo.e=e1 at *;generalize a.hi.neg=n2 at *;generalize a.hi.e=e2 at *;go_enter Tryz.func42,Tryz.ntmps42
  go_wp2_with (first
   | (go_at_call 24;rw [←HW.out];refine (SG.out _ K.out).mono ?_;rintro e w1 ⟨rfl,q⟩;replace K:=hid (K.out.trans q))
   | (go_at_call 29;refine (Hw _ _ _).mono ?_;rintro e w3 ⟨he,rfl⟩;obtain rfl:e=.panicked (Ck 66 _):=he))
  exact ⟨rfl,K.out,.inr ⟨by decide,rfl⟩⟩
 ·have hlo:0≤a.lo.q:=by rw [Vc  ] at hneg;exact      Op.1 (by omega)
  have hn1:=Tv ha.lo hlo;have hn2:=Tv ha.hi (by have:=ha.le;grind);have hd:decide (0≤sg a.lo)=true:=by simp;omega
  obtain ⟨o2,ho2⟩:∃ o,o=Df a.lo p false:=⟨_,rfl⟩;obtain ⟨o4,ho4⟩:∃ o,o=Df a.hi p true:=⟨_,rfl⟩;have hres:Ee a p=Da ⟨o2.v,o4.v⟩ [o2.k,o4.k]:=by unfold Ee;rw [if_neg hneg,K6,←ho2,←ho4]
  rw [hres];have r1:Fs a.lo p false=o2:=by unfold Fs;rw [hn1,ho2];rfl
  have r2:Fs a.hi p true=o4:=by unfold Fs;rw [hn2,ho4];rfl
  have C2:=hid (fun w1 (k:Kept w w1)=>root_c (p:=p) (up:=false) (x1.kept k) ha.lo (hT.kept k) p1 p2);have C4:=hid (fun w1 (k:Kept w w1)=>root_c (p:=p) (up:=true) (x2.kept k) ha.hi (hT.kept k) p1 p2);rw [r1] at C2;rw [r2] at C4;have SG:=hid sg1;clear r1 r2 sg1 hn1 hn2 hlo hneg;obtain ⟨W,hW,kW,B3,B4⟩:=Np w;have HW:=hid hW;have K:=hid kW;have R3:=hid B3;have R4:=hid B4;have HA:=hid hba;have CP:=hid cp;have lp:=Bn cp;obtain ⟨la,-⟩:=hba.facts;simp only at lp;have hst:=Fu ⟨o2.v,o4.v⟩ [o2.raw.k,o4.raw.k];obtain ⟨res,hres'⟩:∃ r,r=Bv (Da ⟨o2.v,o4.v⟩ [o2.k,o4.k]):=⟨_,rfl⟩;have ST:=hid (show Kf res ⟨o2.raw.v,o4.raw.v⟩ [o2.raw.k,o4.raw.k] by rw [hres'];exact hst)
  rw [←hres'];have BAD:Hid (∀ (k:Int) (w1:World),Kept w w1→k≠0→res=⟨rzI,k⟩→Ib 66 res w (.panicked (Ck 66 k)) w1):=fun k w1 kk hk he=>by subst he;exact ⟨kk,.inr ⟨hk,rfl⟩⟩
  clear hW kW B3 B4 hba cp x1 x2 ha hT p1 p2 ho2 ho4 hres hres' hst;generalize sg a.lo=g at *;generalize a.lo.neg=n1 at *;generalize a.lo.e=e1 at *;generalize a.hi.neg=n2 at *;generalize a.hi.e=e2 at *;obtain ⟨-,c0,c1,c2,c3,c4,c5⟩:=HA.out.facts;go_enter Tryz.func42,Tryz.ntmps42;go_wp2_with fail;rw [←HW.out];refine (SG.out _ K.out).mono ?_;rintro e w5 ⟨rfl,q⟩;simp only [];go_wp2_with fail;refine (Gg 4 _).mono ?_;rintro e w6 ⟨rfl,q6⟩;have kk:=q.trans q6;replace K:=hid (K.out.trans kk);have hsW0:w.heap.size+1<w6.heap.size:=Nat.lt_of_lt_of_le (Array.getElem?_eq_some_iff.1 R4.out).1 kk.size
  replace R3:=hid (R3.out.kept kk);replace R4:=hid (R4.out.kept kk);clear kk q q6 c0 c1 c2 c3 c4 c5 HW hd;simp only [];go_upto_region 2 with fail
  refine rS1 8 ([(vP ba 0),(vE (.agg #[.bool n1,.slice A l c,.int .i64 e1])),(vE (.int .i64 p)),(fun v wv=>(∃ d,v=.tuple #[d,.int .i64 o2.raw.k]∧DyR wv d o2.raw.v)∧(True)),(fun v wv=>DyR wv v o2.raw.v∧(True)),(vE (.int .i64 o2.raw.k)),(fun v wv=>(o2.raw.k=0∧(True))∧DyR wv v o2.raw.v),(fun v wv=>∃ b,v=.pointer (some ⟨b,0,none⟩)∧w6.heap.size≤b∧Blk wv b (.bool false) (.slice none 0 0) (.int .i64 0))])
   ⟨
    (gq 0),(fun aF wF F=>by have s10:=F.v 0 10;have c0:=Af (HA.out.kept K.out) F.kept 0 _ rfl;have c1:=Af (HA.out.kept K.out) F.kept 1 _ rfl;have c2:=Af (HA.out.kept K.out) F.kept 2 _ rfl;exact sv rfl),(fun aF wF F=>by have s1:=F.q 1 (.pointer (some ⟨bp,0,none⟩));exact sw (by have cq:=Ak (K.out.trans F.kept) CP.out;go_simp) rfl),(fun aF wF F=>by have s11:=F.v 1 11;have s12:=F.v 2 12;have hC:True:=trivial;exact Ao (by simp [Region.wanted]) (by go_simp) (C2.out _ (K.out.trans F.kept)) (fun _ _ h=>RetE.good h) (fun _ _ h=>⟨h,hC⟩)),(fun aF wF F=>by have s13:=F.p 3 13;obtain ⟨⟨dd,ee,hh⟩,hC⟩:=s13;exact sv ⟨hh,hC⟩),(fun aF wF F=>by have s13:=F.p 3 13;exact sw (by obtain ⟨⟨dd,ee,hh⟩,-⟩:=s13;go_simp) rfl),(fun aF wF F=>by have s14:=F.p 4 14;have s15:=F.v 5 15;have hC:=s14.2;exact sG (El (d:=o2.v) (k:=o2.raw.k) s14.1) (fun _ _ _ h0 h=>⟨⟨h0,hC⟩,h⟩) (fun w2 k2 h0=>⟨F.defers,BAD.out _ _ (K.out.trans (F.kept.trans k2)) h0 (ST.out.1 h0)⟩)),(fun aF wF F=>by exact sN ⟨_,rfl,F.kept.size,Dc _⟩),
    trivial⟩ ?_
  intro u w1 k1 hu;have p13:=hp hu 3;have p14:=hp hu 4;have p16:=hp hu 6;have p4:=hp hu 7;simp only [Av,Am,if_true,Act.put,zlA,zlB,zlC,zlD,zlE,zlF,zlG,hv hu 0,hv hu 1,hv hu 2,hv hu 5];clear hu;generalize u 3=v13,u 4=v14,u 6=v16,u 7=v4 at *;obtain ⟨bl,rfl,hbl,hB5⟩:=p4;obtain ⟨⟨z1,-⟩,hd2⟩:=p16;obtain ⟨A5,l5,c5,rfl,hd2⟩:=Bj hd2;obtain ⟨lb5,c0,c1,c2,f0,f1,f2⟩:=hB5.facts;have hsW:=(Array.getElem?_eq_some_iff.1 R4.out).1;have Z:=hid z1;have KX:=hid (Al (x:=.bool o2.raw.v.neg) (y:=.slice A5 l5 c5) (z:=.int .i64 o2.raw.v.e) (K.out.trans k1) (show w.heap.size≤bl by omega));have R3X:=hid ((R3.out.kept k1).laid_other (b':=bl) (by omega) (.bool o2.raw.v.neg) (.slice A5 l5 c5) (.int .i64 o2.raw.v.e))
  have R4X:=hid ((R4.out.kept k1).laid_other (b':=bl) (by omega) (.bool o2.raw.v.neg) (.slice A5 l5 c5) (.int .i64 o2.raw.v.e));have B5X:=hid (hB5.laid (.bool o2.raw.v.neg) (.slice A5 l5 c5) (.int .i64 o2.raw.v.e));have D5X:=hid (hd2.dyW hB5 (Ah _) (Ag _ _ _) (Aj _) (.bool o2.raw.v.neg) (.slice A5 l5 c5) (.int .i64 o2.raw.v.e));clear z1 hd2 hB5 hsW p13 p14 k1;go_simp;go_wp2_with fail;change Code.wp _ _ _ _ (dyW w1 bl _ _ _);generalize dyW w1 bl (.bool o2.raw.v.neg) (.slice A5 l5 c5) (.int .i64 o2.raw.v.e)=X at *;clear c0 c1 c2 f0 f1 f2 lb5
  refine Q9 8 ([(vE (.agg #[.bool o2.raw.v.neg,.slice A5 l5 c5,.int .i64 o2.raw.v.e])),(vP ba 3),(vE (.agg #[.bool n2,.slice A' l' c',.int .i64 e2])),(vE (.int .i64 p)),(fun v wv=>(∃ d,v=.tuple #[d,.int .i64 o4.raw.k]∧DyR wv d o4.raw.v)∧(True)),(fun v wv=>DyR wv v o4.raw.v∧(True)),(vE (.int .i64 o4.raw.k)),(fun v wv=>(o4.raw.k=0∧(True))∧DyR wv v o4.raw.v)])
   ⟨
    (gql 4 fun _ k=>Go.Proofs.YtinbgjcooolbiaaGreatDoor.c3 B5X.out k),(gq 0),(fun aF wF F=>by have s18:=F.v 1 18;have c0:=Af (HA.out.kept KX.out) F.kept 3 _ rfl;have c1:=Af (HA.out.kept KX.out) F.kept 4 _ rfl;have c2:=Af (HA.out.kept KX.out) F.kept 5 _ rfl;exact sv rfl),(fun aF wF F=>by have s1:=F.q 1 (.pointer (some ⟨bp,0,none⟩));exact sw (by have cq:=Ak (KX.out.trans F.kept) CP.out;go_simp) rfl),(fun aF wF F=>by have s19:=F.v 2 19;have s20:=F.v 3 20;have hC:True:=trivial;exact Ao (by simp [Region.wanted]) (by go_simp) (C4.out _ (KX.out.trans F.kept)) (fun _ _ h=>RetE.good h) (fun _ _ h=>⟨h,hC⟩)),(fun aF wF F=>by have s21:=F.p 4 21;obtain ⟨⟨dd,ee,hh⟩,hC⟩:=s21;exact sv ⟨hh,hC⟩),(fun aF wF F=>by have s21:=F.p 4 21;exact sw (by obtain ⟨⟨dd,ee,hh⟩,-⟩:=s21;go_simp) rfl),(fun aF wF F=>by have s22:=F.p 5 22;have s23:=F.v 6 23;have hC:=s22.2;exact sG (El (d:=o4.v) (k:=o4.raw.k) s22.1) (fun _ _ _ h0 h=>⟨⟨h0,hC⟩,h⟩) (fun w2 k2 h0=>⟨F.defers,BAD.out _ _ (KX.out.trans (F.kept.trans k2)) h0 ((ST.out.2 Z.out).1 h0)⟩)),
    trivial⟩ ?_
  intro u w1 k1 hu;have p21:=hp hu 4;have p22:=hp hu 5;have p24:=hp hu 7;simp only [Av,Am,if_true,Act.put,zlA,zlB,zlC,zlD,zlE,zlF,zlG,hv hu 0,hv hu 1,hv hu 2,hv hu 3,hv hu 6];clear hu;generalize u 4=v21,u 5=v22,u 7=v24 at *;obtain ⟨⟨z4,-⟩,hd4⟩:=p24;obtain ⟨A6,l6,c6,rfl,hd4⟩:=Bj hd4;have hres:=(ST.out.2 Z.out).2 z4;have r3:=R3X.out.kept k1;have r4:=R4X.out.kept k1;have hk:=KX.out.trans k1;have hd5:=D5X.out.kept k1;obtain ⟨-,c0,c1,c2,f0,f1,f2⟩:=r3.facts;obtain ⟨-,d0,d1,d2,g0,g1,g2⟩:=r4.facts;obtain ⟨t1,t2,t3⟩:=Iu (T:=66) hk (Nat.le_refl _) (Nat.le_succ _) (by omega) r3 r4 hd5 hd4 hres
  have T1:=hid t1;have T2:=hid t2;have T3:=hid t3;clear t1 t2 t3 r3 r4 hk hd5 hd4 hres z4 p21 p22 k1;refine ⟨?_,?_⟩
  ·go_simp;go_wp2_with fail;exact En T1.out T2.out rfl rfl rfl rfl T3.out
  ·first
    | exact .inl (by kernel_rfl)
    | (right
       rw [Ie _ (by omega)] at T1 T2 T3;go_simp;go_wp2_with fail;exact En T1.out T2.out rfl rfl rfl rfl T3.out)
end Go.Proofs.YtinbgjcooolbiaaGreatDoor
