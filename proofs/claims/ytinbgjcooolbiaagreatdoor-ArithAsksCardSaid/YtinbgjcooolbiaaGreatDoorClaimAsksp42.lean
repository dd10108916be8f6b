/- Words and contracts, part 42. -/
import Derived.Test.YtinbgjcooolbiaaGreatDoorClaimAsksp37
import Derived.Test.YtinbgjcooolbiaaGreatDoorClaimAsksp41
set_option maxRecDepth 100000
set_option maxHeartbeats 0
namespace Go.Proofs.YtinbgjcooolbiaaGreatDoor
open Go.Lib (hid)
open Go.RowKit
theorem Kd {p:Int}{l:List RawI}{o:Outc RawI}(p1:1≤p)(p2:p≤2000)(h:l.all Dj=true):By p l o=o:=by unfold By;rw [if_pos ⟨p1,p2,h⟩]
theorem Acr {w:World}{v u:Value}{a b:Iv}{p:Nat}(hv:IvC w v a)(hu:IvC w u b)(ha:a.Ok)(hb:b.Ok)(hT:Tab w)(p1:1≤p)(p2:p≤2000) :
 Calls Tryz.prog 12 #[v,u,.int .i64 p] w (RetIE (Bj (Hn a b p)) w):=by
 have h:=Aa2 (p:=(p:Int)) hv hu (Ez ha) (Ez hb) hT;rw [Kd (by omega) (by omega) (by simp [Eg ha,Eg hb]),Iv.raw_iv,Iv.raw_iv,Int.toNat_natCast] at h;exact h
theorem Acu {w:World}{v u:Value}{a b:Iv}{p:Nat}(hv:IvC w v a)(hu:IvC w u b)(ha:a.Ok)(hb:b.Ok)(hT:Tab w)(p1:1≤p)(p2:p≤2000) :
 Calls Tryz.prog 6 #[v,u,.int .i64 p] w (RetIE (Bj (Jc a b p)) w):=by
 have h:=Acs (p:=(p:Int)) hv hu (Ez ha) (Ez hb) hT;rw [Kd (by omega) (by omega) (by simp [Eg ha,Eg hb]),Iv.raw_iv,Iv.raw_iv,Int.toNat_natCast] at h;exact h
theorem Acy {w:World}{v:Value}{a:Iv}{p:Nat}(hv:IvC w v a)(ha:a.Ok)(hT:Tab w)(p1:1≤p)(p2:p≤2000) :
 Calls Tryz.prog 18 #[v,.int .i64 p] w (RetIE (Bj (F3 a p)) w):=by
 have h:=Aa3 (p:=(p:Int)) hv (Ez ha) hT;rw [Kd (by omega) (by omega) (by simp [Eg ha]),Iv.raw_iv,Int.toNat_natCast] at h;exact h
theorem Abi {w:World}{v:Value}{a:Iv}{p:Nat}(hv:IvC w v a)(ha:a.Ok)(hT:Tab w)(p1:1≤p)(p2:p≤2000) :
 Calls Tryz.prog 8 #[v,.int .i64 p] w (RetIE (Bj (Gv a p)) w):=by
 have h:=Abh (p:=(p:Int)) hv (Ez ha) hT;rw [Kd (by omega) (by omega) (by simp [Eg ha]),Iv.raw_iv,Int.toNat_natCast] at h;exact h
theorem Wj {w:World}{v:Value}{n:Bool}{m:List Nat}{e:Int}(h:DyR w v ⟨n,m,e⟩):∃ A l c,v=.agg #[.bool n,.slice A l c,.int .i64 e]∧DyR w (.agg #[.bool n,.slice A l c,.int .i64 e]) ⟨n,m,e⟩:=Ax h
theorem Pi {w:World}{v:Value}{n:Bool}{m:List Nat}{e:Int}{n':Bool}{m':List Nat}{e':Int}(h:IvR w v ⟨⟨n,m,e⟩,⟨n',m',e'⟩⟩):∃ A l c A' l' c',v=.agg #[.bool n,.slice A l c,.int .i64 e,.bool n',.slice A' l' c',.int .i64 e'] ∧
 DyR w (.agg #[.bool n,.slice A l c,.int .i64 e]) ⟨n,m,e⟩∧DyR w (.agg #[.bool n',.slice A' l' c',.int .i64 e']) ⟨n',m',e'⟩:=Ao h
def dm:Dy:=⟨true,1,0⟩
def dt:Dy:=⟨false,1,1⟩
def d4:Dy:=⟨false,1,2⟩
theorem Tn:dm.Ok:=Pn _ _ (by decide) (by decide)
theorem Wi:dt.Ok:=Pn _ _ (by decide) (by decide)
theorem Aa5:d4.Ok:=Pn _ _ (by decide) (by decide)
theorem Ac9:Ci true 1 0=⟨dm,0⟩:=I4 Tn
theorem Ac8:Ci false 1 2=⟨d4,0⟩:=I4 Aa5
theorem Ada:Ci false 2 0=⟨dt,0⟩:=by
 have ht:tz 2=1:=Hj 2 1 1 rfl rfl;unfold Ci;rw [ht];rw [if_neg (by decide),if_neg (by simp [Ky]),if_neg (by decide),if_neg (by decide)];rfl
theorem Pb:dm.raw=⟨true,[1],0⟩:=by unfold Dy.raw dm;simp only [Ky]
theorem Pc:dt.raw=⟨false,[1],1⟩:=by unfold Dy.raw dt;simp only [Ky]
theorem Abv:d4.raw=⟨false,[1],2⟩:=by unfold Dy.raw d4;simp only [Ky]
theorem Ac6:sg dm=-1:=rfl
theorem Ac7:sg dt=1:=rfl
theorem Aa6:dm.q<0:=(Nb Ac6).1
theorem Aa7:0<dt.q:=(Pw Ac7).1
def mt:Iv:=⟨dm,dt⟩
theorem Aa9:mt.Ok:=⟨Tn,Wi,by show dm.q≤dt.q;have:=Aa6;have:=Aa7;grind⟩
theorem Tv:Cm mt=true:=(Lo _).2 ⟨by show dm.q≤0;have:=Aa6;grind,by show 0≤dt.q;have:=Aa7;grind⟩
theorem Acg:F3 mt 20=⟨⟨dz,d4⟩,0⟩:=by
 have m1:Bz mt.lo mt.lo=⟨d1,0⟩:=Aa8;have m2:Bz mt.hi mt.hi=⟨d4,0⟩:=Ac8;unfold F3;rw [m1,m2,Tv];have hg:Av d1 [d1,d4]=d4:=by
  have q1:d1.q=1:=by unfold Dy.q d1 sq;rw [I9];simp
  have q4:d4.q=4:=by unfold Dy.q d4 sq;rw [show (2:Int)=1+1 from rfl,H7,Xn];simp;grind
  have c1:¬0<Bn d1.q d1.q:=by rw [I1];decide
  have c4:0<Bn d4.q d1.q:=I0.2 (by rw [q1,q4];decide);unfold Av Av Av;rw [if_neg c1,if_pos c4]
 show D0 (Bv dz 20 false) (Bv (Av d1 [d1,d4]) 20 true)=_
 rw [hg,Js dz_ok (by show bl 0≤20;decide),Js Aa5 (by show bl 1≤20;decide)];rfl
theorem Acj:Dl dm dt=⟨d1,0⟩:=by
 rw [←Aa8];rfl
theorem Abk:Hn ⟨dm,dm⟩ ⟨dt,dt⟩ 20=⟨⟨d1,d1⟩,0⟩:=by
 unfold Hn;simp only [Acj];rw [M6 rfl Qg (by show bl 1≤20;decide),M6 rfl Qg (by show bl 1≤20;decide)];rfl
theorem Abw:Jc ⟨dt,dt⟩ mt 20=⟨iz,4⟩:=by unfold Jc;rw [if_pos Tv]
theorem Aav:Gv ⟨dm,dm⟩ 20=⟨iz,4⟩:=by unfold Gv;rw [if_pos (by show sg dm<0;decide)]
def R1:Raw:=⟨false,[1],0⟩
def R4:Raw:=⟨false,[1],2⟩
theorem Adm {w:World}(hT:Tab w):Calls Tryz.prog 22 #[.int .i64 (-1),.int .i64 0] w (RetE ⟨⟨true,[1],0⟩,0⟩ w):=by
 have h:=Abf (w:=w) (k:=1) (e:=0) (by decide) (by decide) (by decide) (by decide) hT;rw [Ac9] at h;unfold Outc.raw at h;rw [Pb] at h;exact h
theorem Adn {w:World}(hT:Tab w):Calls Tryz.prog 22 #[.int .i64 2,.int .i64 0] w (RetE ⟨⟨false,[1],1⟩,0⟩ w):=by
 have h:=Abg (w:=w) (k:=2) (e:=0) (by decide) (by decide) (by decide) hT;rw [Ada] at h;unfold Outc.raw at h;rw [Pc] at h;exact h
theorem W5:mt.raw=⟨⟨true,[1],0⟩,⟨false,[1],1⟩⟩:=by unfold Iv.raw mt;simp only [Pb,Pc]
theorem Ado {w:World}{v:Value}(hv:IvR w v ⟨⟨true,[1],0⟩,⟨false,[1],1⟩⟩)(hT:Tab w):Calls Tryz.prog 18 #[v,.int .i64 20] w (RetIE ⟨⟨⟨false,[],0⟩,⟨false,[1],2⟩⟩,0⟩ w):=by
 rw [←W5] at hv;have h:=Acy (p:=20) hv Aa9 hT (by decide) (by decide);rw [Acg] at h;unfold Bj Iv.raw at h;simp only [Cp,Abv] at h;exact h
theorem Adj {w:World}{v u:Value}(hv:IvR w v ⟨⟨true,[1],0⟩,⟨true,[1],0⟩⟩)(hu:IvR w u ⟨⟨false,[1],1⟩,⟨false,[1],1⟩⟩)(hT:Tab w) :
 Calls Tryz.prog 12 #[v,u,.int .i64 20] w (RetIE ⟨⟨⟨false,[1],0⟩,⟨false,[1],0⟩⟩,0⟩ w):=by
 have h:=Acr (p:=20) (a:=pt dm) (b:=pt dt) (by unfold IvC Iv.raw pt;simp only [Pb];exact hv) (by unfold IvC Iv.raw pt;simp only [Pc];exact hu) (T6 Tn) (T6 Wi) hT (by decide) (by decide);unfold pt at h;rw [Abk] at h;unfold Bj Iv.raw at h;simp only [Wf] at h;exact h
theorem Adl {w:World}{v u:Value}(hv:IvR w v ⟨⟨false,[1],1⟩,⟨false,[1],1⟩⟩)(hu:IvR w u ⟨⟨true,[1],0⟩,⟨false,[1],1⟩⟩)(hT:Tab w) :
 Calls Tryz.prog 6 #[v,u,.int .i64 20] w (RetIE ⟨⟨⟨false,[],0⟩,⟨false,[],0⟩⟩,4⟩ w):=by
 rw [←W5] at hu;have h:=Acu (p:=20) (a:=pt dt) (b:=mt) (by unfold IvC Iv.raw pt;simp only [Pc];exact hv) hu (T6 Wi) Aa9 hT (by decide) (by decide);unfold pt at h;rw [Abw] at h;unfold Bj at h;rw [Gb] at h;exact h
theorem Acm {w:World}{v:Value}(hv:IvR w v ⟨⟨true,[1],0⟩,⟨true,[1],0⟩⟩)(hT:Tab w):Calls Tryz.prog 8 #[v,.int .i64 20] w (RetIE ⟨⟨⟨false,[],0⟩,⟨false,[],0⟩⟩,4⟩ w):=by
 have h:=Abi (p:=20) (a:=pt dm) (by unfold IvC Iv.raw pt;simp only [Pb];exact hv) (T6 Tn) hT (by decide) (by decide);unfold pt at h;rw [Aav] at h;unfold Bj at h;rw [Gb] at h;exact h
theorem Acl {w:World}{v:Value}(hv:DyR w v ⟨false,[],0⟩):Calls Tryz.prog 24 #[v] w (RetK (.int .i64 0) w):=by
 have h:=L5 hv (by simp);have e:Rj ⟨false,[],0⟩=0:=by unfold Rj;rw [if_pos (.inr rfl)]
 rwa [e] at h
theorem Adk {w:World}{v u:Value}(hv:DyR w v ⟨false,[1],0⟩)(hu:DyR w u ⟨false,[1],0⟩):Calls Tryz.prog 25 #[v,u] w (RetK (.int .i64 0) w):=by
 rw [←Wf] at hv hu;have h:=Kv hv hu Qg Qg;rwa [I1] at h
theorem Ack {w:World}{v u:Value}(hv:DyR w v ⟨false,[1],0⟩)(hu:DyR w u ⟨false,[1],0⟩):Calls Tryz.prog 26 #[v,u] w (RetK (.bool true) w):=by
 have h:=Zd hv hu (by simp);exact h
theorem dup {A B G:Prop}(a:G→A)(b:G→B)(g:G):A∧B:=⟨a g,b g⟩
theorem Oy {w:World}{b c:Nat}{x y z:Value}(h:Blk w b x y z)(hne:b≠c)(p q r p' q' r':Value):Blk (ivW w c p q r p' q' r') b x y z:=(Hb _ _ _ _ _ _ _ _ _ hne).trans h
theorem Mi {w:World}{b c:Nat}{x y z x' y' z':Value}(h:BlkI w b x y z x' y' z')(hne:b≠c)(p q r p' q' r':Value):BlkI (ivW w c p q r p' q' r') b x y z x' y' z':=(Hb _ _ _ _ _ _ _ _ _ hne).trans h
theorem Yk {w:World}(hT:Tab w):Calls Tryz.prog 5 #[] w (RetK (.bool true) w):=by
 have T:=hid hT;clear hT;go_enter Tryz.func5,Tryz.ntmps5;go_wp2_with fail;refine (Adm T.out).mono ?_;rintro e w1 ⟨q,u,rfl,hd⟩;obtain ⟨A1,l1,c1,rfl,hd⟩:=Wj hd;simp only [];obtain ⟨V1,hV1,kV1,hb1,lV1⟩:=Ka w1 (.bool true) (.slice A1 l1 c1) (.int .i64 0);have HV:=hid hV1;have K:=hid (q.trans kV1);have B1:=hid hb1;have D1:=hid (hd.kept kV1);have lA:=Nat.le_refl w1.heap.size;clear hV1 hb1 hd q kV1;go_wp2_with fail;rw [←HV.out];clear HV;refine (Adn (T.out.kept K.out)).mono ?_;rintro e w2 ⟨q,u,rfl,hd⟩;obtain ⟨A2,l2,c2,rfl,hd⟩:=Wj hd;simp only [];obtain ⟨V2,hV2,kV2,hb2,lV2⟩:=Ka w2 (.bool false) (.slice A2 l2 c2) (.int .i64 1)
 have HV:=hid hV2;replace K:=hid (K.out.trans (q.trans kV2));replace B1:=hid (B1.out.kept (q.trans kV2));replace D1:=hid (D1.out.kept (q.trans kV2));have B2:=hid hb2;have D2:=hid (hd.kept kV2);clear hV2 hb2 hd q kV2;obtain ⟨-,a0,a1,a2,-⟩:=B1.out.facts;obtain ⟨-,b0,b1,b2,-⟩:=B2.out.facts;generalize w1.heap.size=n1 at *;go_upto_region 3 with fail;rw [←HV.out];clear HV;generalize w2.heap.size=n2 at *;go_wp2_with fail;refine (Ado ⟨_,_,_,_,_,_,rfl,D1.out,D2.out⟩ (T.out.kept K.out)).mono ?_;rintro e w3 ⟨q,u,rfl,hd⟩;obtain ⟨A3,l3,c3,A4,l4,c4,rfl,h3,h4⟩:=Pi hd;simp only [];obtain ⟨V3,hV3,kV3,hb3,lV3⟩:=Ac3 w3 (.bool false) (.slice A3 l3 c3) (.int .i64 0) (.bool false) (.slice A4 l4 c4) (.int .i64 2)
 have HV:=hid hV3;replace K:=hid (K.out.trans (q.trans kV3));replace B1:=hid (B1.out.kept (q.trans kV3));replace D1:=hid (D1.out.kept (q.trans kV3));replace B2:=hid (B2.out.kept (q.trans kV3));replace D2:=hid (D2.out.kept (q.trans kV3));have B3:=hid hb3;have D3:=hid (h3.kept kV3);clear hV3 hb3 h3 h4 hd q kV3 a0 a1 a2 b0 b1 b2;go_upto_region 4 with fail;rw [←HV.out];clear HV;generalize w3.heap.size=n3 at *
 refine H9 (e:=7) (m:=9) (V:=VL [(vE (.agg #[.bool true,.slice A1 l1 c1,.int .i64 0])),(fun v wv=>IvR wv v (⟨⟨true,[1],0⟩,⟨true,[1],0⟩⟩:RawI)),(vE (.agg #[.bool false,.slice A2 l2 c2,.int .i64 1])),(fun v wv=>IvR wv v (⟨⟨false,[1],1⟩,⟨false,[1],1⟩⟩:RawI)),(fun v wv=>∃ d,v=.tuple #[d,.int .i64 (⟨⟨⟨false,[1],0⟩,⟨false,[1],0⟩⟩,0⟩:Outc RawI).k]∧IvR wv d (⟨⟨⟨false,[1],0⟩,⟨false,[1],0⟩⟩,0⟩:Outc RawI).v),(fun v wv=>∃ d,v=.tuple #[d,.int .i64 (⟨⟨⟨false,[1],0⟩,⟨false,[1],0⟩⟩,0⟩:Outc RawI).k]∧IvR wv d (⟨⟨⟨false,[1],0⟩,⟨false,[1],0⟩⟩,0⟩:Outc RawI).v),(fun v wv=>IvR wv v (⟨⟨⟨false,[1],0⟩,⟨false,[1],0⟩⟩,0⟩:Outc RawI).v),(vE (.int .i64 (⟨⟨⟨false,[1],0⟩,⟨false,[1],0⟩⟩,0⟩:Outc RawI).k)),(fun v wv=>∃ b,v=.pointer (some ⟨b,0,none⟩)∧V3.heap.size≤b∧BlkI wv b (.bool false) (.slice none 0 0) (.int .i64 0) (.bool false) (.slice none 0 0) (.int .i64 0))])
  (by kernel_rfl) rfl rfl rfl rfl rfl rfl rfl (by decide) (by kernel_rfl) (by kernel_rfl) (by kernel_rfl) (by kernel_rfl) (by kernel_rfl) (by kernel_rfl) (E0 _ ⟨mE,fun v w w' k h=>by first | exact h | exact h.kept k | exact ⟨h.1,h.2.kept k⟩,mE,fun v w w' k h=>by first | exact h | exact h.kept k | exact ⟨h.1,h.2.kept k⟩,fun v w w' k h=>by obtain ⟨d,h1,h2⟩:=h;exact ⟨d,h1,h2.kept k⟩,fun v w w' k h=>by obtain ⟨d,h1,h2⟩:=h;exact ⟨d,h1,h2.kept k⟩,fun v w w' k h=>by first | exact h | exact h.kept k | exact ⟨h.1,h.2.kept k⟩,mE,fun v w w' k h=>by obtain ⟨b,h1,h2,h3⟩:=h;exact ⟨b,h1,h2,h3.kept k⟩,trivial⟩) (Er ⟨
    (fun aF wF F=>by have s1:=F.q 1 (.pointer (some ⟨n1,0,none⟩));obtain ⟨c0,c1,c2⟩:=Go.Proofs.YtinbgjcooolbiaaGreatDoor.c3 B1.out F.kept;exact sv rfl),(fun aF wF F=>by have s29:=F.v 0 29;exact sI (Tr (D1.out.kept F.kept)) fun _ _ h=>h),(fun aF wF F=>by have s3:=F.q 3 (.pointer (some ⟨n2,0,none⟩));obtain ⟨c0,c1,c2⟩:=Go.Proofs.YtinbgjcooolbiaaGreatDoor.c3 B2.out F.kept;exact sv rfl),(fun aF wF F=>by have s31:=F.v 2 31;exact sI (Tr (D2.out.kept F.kept)) fun _ _ h=>h),(fun aF wF F=>by have s30:=F.p 1 30;have s32:=F.p 3 32;exact sP (Adj s30 s32 (T.out.kept (K.out.trans F.kept))) fun _ _ h=>h),(fun aF wF F=>by have s33:=F.p 4 33;exact sx s33),(fun aF wF F=>by have s28:=F.p 5 28;obtain ⟨dd,ee,hh⟩:=s28;exact sv hh),(fun aF wF F=>by have s28:=F.p 5 28;exact sw (by obtain ⟨dd,ee,hh⟩:=s28;go_simp) rfl),(fun aF wF F=>by exact sN ⟨_,rfl,F.kept.size,F5 _⟩),
    trivial⟩) ?_
 intro u w1 k1 hu;have e29:u 0=(.agg #[.bool true,.slice A1 l1 c1,.int .i64 0]):=hu 0 (by decide) (by decide);have p30:=hu 1 (by decide) (by decide);obtain ⟨v30,e30⟩:∃ v,u 1=v:=⟨_,rfl⟩;rw [e30] at p30
 try simp only [VL,List.getD_cons_zero,List.getD_cons_succ] at p30
 have e31:u 2=(.agg #[.bool false,.slice A2 l2 c2,.int .i64 1]):=hu 2 (by decide) (by decide);have p32:=hu 3 (by decide) (by decide);obtain ⟨v32,e32⟩:∃ v,u 3=v:=⟨_,rfl⟩;rw [e32] at p32
 try simp only [VL,List.getD_cons_zero,List.getD_cons_succ] at p32
 have p33:=hu 4 (by decide) (by decide);obtain ⟨v33,e33⟩:∃ v,u 4=v:=⟨_,rfl⟩;rw [e33] at p33
 try simp only [VL,List.getD_cons_zero,List.getD_cons_succ] at p33
 have p28:=hu 5 (by decide) (by decide);obtain ⟨v28,e28⟩:∃ v,u 5=v:=⟨_,rfl⟩;rw [e28] at p28
 try simp only [VL,List.getD_cons_zero,List.getD_cons_succ] at p28
 have p34:=hu 6 (by decide) (by decide);obtain ⟨v34,e34⟩:∃ v,u 6=v:=⟨_,rfl⟩;rw [e34] at p34
 try simp only [VL,List.getD_cons_zero,List.getD_cons_succ] at p34
 have p7:=hu 8 (by decide) (by decide);obtain ⟨v7,e7⟩:∃ v,u 8=v:=⟨_,rfl⟩;rw [e7] at p7
 try simp only [VL,List.getD_cons_zero,List.getD_cons_succ] at p7
 clear hu;obtain ⟨b7,rfl,hb7,hB7⟩:=p7;obtain ⟨A5,l5,c5,A6,l6,c6,rfl,h5,h6⟩:=Pi p34;obtain ⟨-,r0,r1,r2,r3,r4,r5⟩:=hB7.facts;obtain ⟨f0,f1,f2,f3,f4,f5⟩:=hB7.free;clear p30 p32 p34;obtain ⟨d28,rfl,-⟩:=p28;apply dup
 ·intro G he;simp only [VL,vE,List.getD_cons_zero,List.getD_cons_succ] at he;simp only [if_true,Au,An,Act.put,List.setIfInBounds_toArray,List.set_cons_zero,List.set_cons_succ,List.getElem?_toArray,List.getElem?_cons_zero,List.getElem?_cons_succ,Option.bind_some,e29,e30,e31,e32,e33,e28,e34,e7,he];go_simp;exact G
 ·intro G;simp only [Au,An,Act.put,List.setIfInBounds_toArray,List.set_cons_zero,List.set_cons_succ,List.getElem?_toArray,List.getElem?_cons_zero,List.getElem?_cons_succ,Option.bind_some,e29,e30,e31,e32,e33,e28,e34,e7];go_simp;exact G
 clear e29 e30 e31 e32 e33 e28 e34 e7;go_upto_region 5 with fail;change Code.wp _ _ _ _ (ivW w1 b7 _ _ _ _ _ _);have l1:=B1.out.facts.1;have l2:=B2.out.facts.1;have KX:=hid (Bf (x:=.bool false) (y:=.slice A5 l5 c5) (z:=.int .i64 0) (x':=.bool false) (y':=.slice A6 l6 c6) (z':=.int .i64 0) (K.out.trans k1) (show w.heap.size≤b7 by have:=K.out.size;omega));have X1:=hid (Oy (B1.out.kept k1) (show n1≠b7 by omega) (.bool false) (.slice A5 l5 c5) (.int .i64 0) (.bool false) (.slice A6 l6 c6) (.int .i64 0));have X2:=hid (Oy (B2.out.kept k1) (show n2≠b7 by omega) (.bool false) (.slice A5 l5 c5) (.int .i64 0) (.bool false) (.slice A6 l6 c6) (.int .i64 0))
 have l3:=B3.out.facts.1;have X3:=hid (Mi (B3.out.kept k1) (show n3≠b7 by omega) (.bool false) (.slice A5 l5 c5) (.int .i64 0) (.bool false) (.slice A6 l6 c6) (.int .i64 0));have E1:=hid ((D1.out.kept k1).ivW hB7 (.bool false) (.slice A5 l5 c5) (.int .i64 0) (.bool false) (.slice A6 l6 c6) (.int .i64 0));have E2:=hid ((D2.out.kept k1).ivW hB7 (.bool false) (.slice A5 l5 c5) (.int .i64 0) (.bool false) (.slice A6 l6 c6) (.int .i64 0));have E3:=hid ((D3.out.kept k1).ivW hB7 (.bool false) (.slice A5 l5 c5) (.int .i64 0) (.bool false) (.slice A6 l6 c6) (.int .i64 0));have E5:=hid (h5.ivW hB7 (.bool false) (.slice A5 l5 c5) (.int .i64 0) (.bool false) (.slice A6 l6 c6) (.int .i64 0))
 have E6:=hid (h6.ivW hB7 (.bool false) (.slice A5 l5 c5) (.int .i64 0) (.bool false) (.slice A6 l6 c6) (.int .i64 0));have X7:=hid (hB7.laid (.bool false) (.slice A5 l5 c5) (.int .i64 0) (.bool false) (.slice A6 l6 c6) (.int .i64 0));clear h5 h6 hB7 hb7 k1 r0 r1 r2 r3 r4 r5 f0 f1 f2 f3 f4 f5 K B1 B2 B3 D1 D2 D3 l1 l2 l3;generalize ivW w1 b7 (.bool false) (.slice A5 l5 c5) (.int .i64 0) (.bool false) (.slice A6 l6 c6) (.int .i64 0)=X at *
 refine H9 (e:=8) (m:=10) (V:=VL [(vE (.agg #[.bool false,.slice A2 l2 c2,.int .i64 1])),(fun v wv=>IvR wv v (⟨⟨false,[1],1⟩,⟨false,[1],1⟩⟩:RawI)),(vE (.agg #[.bool true,.slice A1 l1 c1,.int .i64 0])),(vE (.agg #[.bool false,.slice A2 l2 c2,.int .i64 1])),(fun v wv=>IvR wv v ⟨⟨true,[1],0⟩,⟨false,[1],1⟩⟩),(fun v wv=>∃ d,v=.tuple #[d,.int .i64 (⟨⟨⟨false,[],0⟩,⟨false,[],0⟩⟩,4⟩:Outc RawI).k]∧IvR wv d (⟨⟨⟨false,[],0⟩,⟨false,[],0⟩⟩,4⟩:Outc RawI).v),(fun v wv=>∃ d,v=.tuple #[d,.int .i64 (⟨⟨⟨false,[],0⟩,⟨false,[],0⟩⟩,4⟩:Outc RawI).k]∧IvR wv d (⟨⟨⟨false,[],0⟩,⟨false,[],0⟩⟩,4⟩:Outc RawI).v),(fun v wv=>IvR wv v (⟨⟨⟨false,[],0⟩,⟨false,[],0⟩⟩,4⟩:Outc RawI).v),(vE (.int .i64 (⟨⟨⟨false,[],0⟩,⟨false,[],0⟩⟩,4⟩:Outc RawI).k)),(fun v wv=>∃ b,v=.pointer (some ⟨b,0,none⟩)∧X.heap.size≤b∧BlkI wv b (.bool false) (.slice none 0 0) (.int .i64 0) (.bool false) (.slice none 0 0) (.int .i64 0))])
  (by kernel_rfl) rfl rfl rfl rfl rfl rfl rfl (by decide) (by kernel_rfl) (by kernel_rfl) (by kernel_rfl) (by kernel_rfl) (by kernel_rfl) (by kernel_rfl) (E0 _ ⟨mE,fun v w w' k h=>by first | exact h | exact h.kept k | exact ⟨h.1,h.2.kept k⟩,mE,mE,fun v w w' k h=>by first | exact h | exact h.kept k | exact ⟨h.1,h.2.kept k⟩,fun v w w' k h=>by obtain ⟨d,h1,h2⟩:=h;exact ⟨d,h1,h2.kept k⟩,fun v w w' k h=>by obtain ⟨d,h1,h2⟩:=h;exact ⟨d,h1,h2.kept k⟩,fun v w w' k h=>by first | exact h | exact h.kept k | exact ⟨h.1,h.2.kept k⟩,mE,fun v w w' k h=>by obtain ⟨b,h1,h2,h3⟩:=h;exact ⟨b,h1,h2,h3.kept k⟩,trivial⟩) (Er ⟨
    (fun aF wF F=>by have s3:=F.q 3 (.pointer (some ⟨n2,0,none⟩));obtain ⟨c0,c1,c2⟩:=Go.Proofs.YtinbgjcooolbiaaGreatDoor.c3 X2.out F.kept;exact sv rfl),(fun aF wF F=>by have s37:=F.v 0 37;exact sI (Tr (E2.out.kept F.kept)) fun _ _ h=>h),(fun aF wF F=>by have s1:=F.q 1 (.pointer (some ⟨n1,0,none⟩));obtain ⟨c0,c1,c2⟩:=Go.Proofs.YtinbgjcooolbiaaGreatDoor.c3 X1.out F.kept;exact sv rfl),(fun aF wF F=>by have s3:=F.q 3 (.pointer (some ⟨n2,0,none⟩));obtain ⟨c0,c1,c2⟩:=Go.Proofs.YtinbgjcooolbiaaGreatDoor.c3 X2.out F.kept;exact sv rfl),(fun aF wF F=>by have s39:=F.v 2 39;have s40:=F.v 3 40;simp only [Array.getD_eq_getD_getElem?] at s39;simp only [Array.getD_eq_getD_getElem?] at s40;exact sv ⟨_,_,_,_,_,_,rfl,E1.out.kept F.kept,E2.out.kept F.kept⟩),(fun aF wF F=>by have s38:=F.p 1 38;have s41:=F.p 4 41;exact sP (Adl s38 s41 (T.out.kept (KX.out.trans F.kept))) fun _ _ h=>h),(fun aF wF F=>by have s42:=F.p 5 42;exact sx s42),(fun aF wF F=>by have s36:=F.p 6 36;obtain ⟨dd,ee,hh⟩:=s36;exact sv hh),(fun aF wF F=>by have s36:=F.p 6 36;exact sw (by obtain ⟨dd,ee,hh⟩:=s36;go_simp) rfl),(fun aF wF F=>by exact sN ⟨_,rfl,F.kept.size,F5 _⟩),
    trivial⟩) ?_
 intro u w1 k1 hu;have e37:u 0=(.agg #[.bool false,.slice A2 l2 c2,.int .i64 1]):=hu 0 (by decide) (by decide);have p38:=hu 1 (by decide) (by decide);obtain ⟨v38,e38⟩:∃ v,u 1=v:=⟨_,rfl⟩;rw [e38] at p38
 try simp only [VL,List.getD_cons_zero,List.getD_cons_succ] at p38
 have e39:u 2=(.agg #[.bool true,.slice A1 l1 c1,.int .i64 0]):=hu 2 (by decide) (by decide);have e40:u 3=(.agg #[.bool false,.slice A2 l2 c2,.int .i64 1]):=hu 3 (by decide) (by decide);have p41:=hu 4 (by decide) (by decide);obtain ⟨v41,e41⟩:∃ v,u 4=v:=⟨_,rfl⟩;rw [e41] at p41
 try simp only [VL,List.getD_cons_zero,List.getD_cons_succ] at p41
 have p42:=hu 5 (by decide) (by decide);obtain ⟨v42,e42⟩:∃ v,u 5=v:=⟨_,rfl⟩;rw [e42] at p42
 try simp only [VL,List.getD_cons_zero,List.getD_cons_succ] at p42
 have p36:=hu 6 (by decide) (by decide);obtain ⟨v36,e36⟩:∃ v,u 6=v:=⟨_,rfl⟩;rw [e36] at p36
 try simp only [VL,List.getD_cons_zero,List.getD_cons_succ] at p36
 have p43:=hu 7 (by decide) (by decide);obtain ⟨v43,e43⟩:∃ v,u 7=v:=⟨_,rfl⟩;rw [e43] at p43
 try simp only [VL,List.getD_cons_zero,List.getD_cons_succ] at p43
 have p9:=hu 9 (by decide) (by decide);obtain ⟨v9,e9⟩:∃ v,u 9=v:=⟨_,rfl⟩;rw [e9] at p9
 try simp only [VL,List.getD_cons_zero,List.getD_cons_succ] at p9
 clear hu;obtain ⟨b9,rfl,hb9,hB9⟩:=p9;obtain ⟨Ap,lp,cp,Aq,lq,cq,rfl,h7,h8⟩:=Pi p43;obtain ⟨-,r0,r1,r2,r3,r4,r5⟩:=hB9.facts;obtain ⟨f0,f1,f2,f3,f4,f5⟩:=hB9.free;clear p38 p41 p43;obtain ⟨d36,rfl,-⟩:=p36;apply dup
 ·intro G he;simp only [VL,vE,List.getD_cons_zero,List.getD_cons_succ] at he;simp only [if_true,Au,An,Act.put,List.setIfInBounds_toArray,List.set_cons_zero,List.set_cons_succ,List.getElem?_toArray,List.getElem?_cons_zero,List.getElem?_cons_succ,Option.bind_some,e37,e38,e39,e40,e41,e42,e36,e43,e9,he];go_simp;exact G
 ·intro G;simp only [Au,An,Act.put,List.setIfInBounds_toArray,List.set_cons_zero,List.set_cons_succ,List.getElem?_toArray,List.getElem?_cons_zero,List.getElem?_cons_succ,Option.bind_some,e37,e38,e39,e40,e41,e42,e36,e43,e9];go_simp;exact G
 clear e37 e38 e39 e40 e41 e42 e36 e43 e9;go_upto_region 6 with fail;change Code.wp _ _ _ _ (ivW w1 b9 _ _ _ _ _ _);have l1:=X1.out.facts.1;have l3:=X3.out.facts.1;have l7:=X7.out.facts.1;have K:=hid (Bf (x:=.bool false) (y:=.slice Ap lp cp) (z:=.int .i64 0) (x':=.bool false) (y':=.slice Aq lq cq) (z':=.int .i64 0) (KX.out.trans k1) (show w.heap.size≤b9 by have:=KX.out.size;omega));have B1:=hid (Oy (X1.out.kept k1) (show n1≠b9 by omega) (.bool false) (.slice Ap lp cp) (.int .i64 0) (.bool false) (.slice Aq lq cq) (.int .i64 0));have B3:=hid (Mi (X3.out.kept k1) (show n3≠b9 by omega) (.bool false) (.slice Ap lp cp) (.int .i64 0) (.bool false) (.slice Aq lq cq) (.int .i64 0))
 have B7:=hid (Mi (X7.out.kept k1) (show b7≠b9 by omega) (.bool false) (.slice Ap lp cp) (.int .i64 0) (.bool false) (.slice Aq lq cq) (.int .i64 0));have D1:=hid ((E1.out.kept k1).ivW hB9 (.bool false) (.slice Ap lp cp) (.int .i64 0) (.bool false) (.slice Aq lq cq) (.int .i64 0));have D3:=hid ((E3.out.kept k1).ivW hB9 (.bool false) (.slice Ap lp cp) (.int .i64 0) (.bool false) (.slice Aq lq cq) (.int .i64 0));have D5:=hid ((E5.out.kept k1).ivW hB9 (.bool false) (.slice Ap lp cp) (.int .i64 0) (.bool false) (.slice Aq lq cq) (.int .i64 0));have D6:=hid ((E6.out.kept k1).ivW hB9 (.bool false) (.slice Ap lp cp) (.int .i64 0) (.bool false) (.slice Aq lq cq) (.int .i64 0))
 clear h7 h8 hB9 hb9 k1 r0 r1 r2 r3 r4 r5 f0 f1 f2 f3 f4 f5 KX X1 X2 X3 X7 E1 E2 E3 E5 E6 l1 l3;generalize ivW w1 b9 (.bool false) (.slice Ap lp cp) (.int .i64 0) (.bool false) (.slice Aq lq cq) (.int .i64 0)=Y at *;obtain ⟨-,a0,a1,a2,-⟩:=B1.out.facts;go_wp2_with fail;refine (Tr D1.out).mono ?_;rintro e w5 ⟨q,u,rfl,hd⟩;simp only [];go_wp2_with fail;refine (Acm hd (T.out.kept (K.out.trans q))).mono ?_;rintro e w6 ⟨q6,u6,rfl,hd6⟩;obtain ⟨A9,l9,c9,Aa,la,ca,rfl,-,-⟩:=Pi hd6;obtain ⟨V,hV,kV,-,-⟩:=Ac3 w6 (.bool false) (.slice A9 l9 c9) (.int .i64 0) (.bool false) (.slice Aa la ca) (.int .i64 0)
 have HV:=hid hV;have kk:=q.trans (q6.trans kV);replace K:=hid (K.out.trans kk);replace B3:=hid (B3.out.kept kk);replace B7:=hid (B7.out.kept kk);replace D3:=hid (D3.out.kept kk);replace D5:=hid (D5.out.kept kk);replace D6:=hid (D6.out.kept kk);clear kk q q6 hd hd6 a0 a1 a2 B1 D1 hV kV;simp only [];go_upto_region 7 with fail;rw [←HV.out];clear HV
 refine rS 44 ([(vE (.int .i64 0)),(vE (.int .i64 0)),(vE (.int .i64 0)),(vE (.int .i64 0)),(vE (.int .i64 0)),(vE (.int .i64 0)),(vE (.int .i64 0)),(vE (.bool true)),(vE (.bool true)),(vP n3 0),(vE (.agg #[.bool false,.slice A3 l3 c3,.int .i64 0])),(vE (.int .i64 0)),(vE (.bool true)),(vE (.bool true)),(vE (.bool true)),(vP n3 3),(vP n3 5),(vE (.int .i64 2)),(vE (.bool true)),(vE (.bool true)),(vE (.bool true)),(vP b7 0),(vE (.agg #[.bool false,.slice A5 l5 c5,.int .i64 0])),(vP b7 3),(vE (.agg #[.bool false,.slice A6 l6 c6,.int .i64 0])),(vE (.int .i64 0)),(vE (.bool true)),(vE (.bool true)),(vE (.bool true)),(vP b7 0),(vE (.agg #[.bool false,.slice A5 l5 c5,.int .i64 0])),(fun v wv=>∃ b,v=.slice (some ⟨b,0,none⟩) 1 1∧Lim wv (.slice (some ⟨b,0,none⟩) 1 1) [1]),(fun v wv=>DyR wv v ⟨false,[1],0⟩),(vE (.bool true)),(vE (.bool true)),(vE (.bool true)),(vE (.int .i64 4)),(vE (.bool true)),(vE (.bool true)),(vE (.bool true)),(vE (.int .i64 4)),(vE (.bool true)),(vE (.bool true)),(vE (.bool true))])
  (hM:=⟨⟨mE,mE,mE,mE,mE,mE,mE,mE,mE,mE,mE,mE,mE,mE,mE,mE,mE,mE,mE,mE,mE,mE,mE,mE,mE,mE,mE,mE,mE,mE,mE,fun v w w' k h=>by obtain ⟨b,h1,h2⟩:=h;exact ⟨b,h1,h2.kept k⟩,mD,mE,mE,mE,mE,mE,mE,mE,mE,mE,mE,mE,trivial⟩⟩) ⟨
    (gq 2),(gq 4),(fun aF wF F=>by have s51:=F.v 0 51;have s52:=F.v 1 52;exact sw (by (go_simp;rfl)) rfl),(gq 6),(fun aF wF F=>by have s53:=F.v 2 53;have s54:=F.v 3 54;exact sw (by (go_simp;rfl)) rfl),(gq 8),(fun aF wF F=>by have s55:=F.v 4 55;have s56:=F.v 5 56;exact sw (by (go_simp;rfl)) rfl),(gv 6 57),(gv 7 58),(fun aF wF F=>by have s5:=F.q 5 (.pointer (some ⟨n3,0,none⟩));have sg:=F.v 8 59;exact Ar ((Aj rfl rfl sg).trans rfl) (by go_simp) rfl),(fun aF wF F=>by have s60:=F.v 9 60;have c0:=Ag B3.out F.kept 0 _ rfl;have c1:=Ag B3.out F.kept 1 _ rfl;have c2:=Ag B3.out F.kept 2 _ rfl;have sg:=F.v 8 59;exact Ar ((Aj rfl rfl sg).trans rfl) (by go_simp) rfl),(fun aF wF F=>by have s61:=F.v 10 61;have sg:=F.v 8 59;exact Am ((Aj rfl rfl sg).trans rfl) (by go_simp) (Acl (D3.out.kept F.kept)) (fun _ _ h=>RetK.good h) (fun _ _ h=>h)),(fun aF wF F=>by have s62:=F.v 11 62;have sg:=F.v 8 59;exact Ar ((Aj rfl rfl sg).trans rfl) (by go_simp) rfl),(gvv 8 59 12 63),(gv 13 64),(fun aF wF F=>by have s5:=F.q 5 (.pointer (some ⟨n3,0,none⟩));have sg:=F.v 14 65;exact Ar ((Aj rfl rfl sg).trans rfl) (by go_simp) rfl),(fun aF wF F=>by have s66:=F.v 15 66;have sg:=F.v 14 65;exact Ar ((Aj rfl rfl sg).trans rfl) (by go_simp) rfl),(fun aF wF F=>by have s67:=F.v 16 67;have c0:=Ag B3.out F.kept 5 _ rfl;have sg:=F.v 14 65;exact Ar ((Aj rfl rfl sg).trans rfl) (by go_simp) rfl),(fun aF wF F=>by have s68:=F.v 17 68;have sg:=F.v 14 65;exact Ar ((Aj rfl rfl sg).trans rfl) (by go_simp) rfl),(gvv 14 65 18 69),(gv 19 70),(fun aF wF F=>by have s7:=F.q 7 (.pointer (some ⟨b7,0,none⟩));have sg:=F.v 20 71;exact Ar ((Aj rfl rfl sg).trans rfl) (by go_simp) rfl),(fun aF wF F=>by have s72:=F.v 21 72;have c0:=Ag B7.out F.kept 0 _ rfl;have c1:=Ag B7.out F.kept 1 _ rfl;have c2:=Ag B7.out F.kept 2 _ rfl;have sg:=F.v 20 71;exact Ar ((Aj rfl rfl sg).trans rfl) (by go_simp) rfl),(fun aF wF F=>by have s7:=F.q 7 (.pointer (some ⟨b7,0,none⟩));have sg:=F.v 20 71;exact Ar ((Aj rfl rfl sg).trans rfl) (by go_simp) rfl),(fun aF wF F=>by have s74:=F.v 23 74;have c0:=Ag B7.out F.kept 3 _ rfl;have c1:=Ag B7.out F.kept 4 _ rfl;have c2:=Ag B7.out F.kept 5 _ rfl;have sg:=F.v 20 71;exact Ar ((Aj rfl rfl sg).trans rfl) (by go_simp) rfl),(fun aF wF F=>by have s73:=F.v 22 73;have s75:=F.v 24 75;have sg:=F.v 20 71;exact Am ((Aj rfl rfl sg).trans rfl) (by go_simp) (Adk (D5.out.kept F.kept) (D6.out.kept F.kept)) (fun _ _ h=>RetK.good h) (fun _ _ h=>h)),(fun aF wF F=>by have s76:=F.v 25 76;have sg:=F.v 20 71;exact Ar ((Aj rfl rfl sg).trans rfl) (by go_simp) rfl),(gvv 20 71 26 77),(gv 27 78),(fun aF wF F=>by have s7:=F.q 7 (.pointer (some ⟨b7,0,none⟩));have sg:=F.v 28 79;exact Ar ((Aj rfl rfl sg).trans rfl) (by go_simp) rfl),(fun aF wF F=>by have s80:=F.v 29 80;have c0:=Ag B7.out F.kept 0 _ rfl;have c1:=Ag B7.out F.kept 1 _ rfl;have c2:=Ag B7.out F.kept 2 _ rfl;have sg:=F.v 28 79;exact Ar ((Aj rfl rfl sg).trans rfl) (by go_simp) rfl),(fun aF wF F=>by have sg:=F.v 28 79;exact Ni ((Aj rfl rfl sg).trans rfl) (by first | (go_simp;done) | (go_simp;rfl)) (Ad _ _) ⟨_,rfl,Wy (T:=40) (heap_alloc_new _ _)⟩),(fun aF wF F=>by have s82:=F.p 31 82;have sg:=F.v 28 79;obtain ⟨b,ee,hh⟩:=s82;simp only [Array.getD_eq_getD_getElem?] at ee;exact Ar ((Aj rfl rfl sg).trans rfl) (by go_simp) ⟨_,rfl,hh,by decide,by decide⟩),(fun aF wF F=>by have s81:=F.v 30 81;have s83:=F.p 32 83;have sg:=F.v 28 79;exact Am ((Aj rfl rfl sg).trans rfl) (by go_simp) (Ack (D5.out.kept F.kept) s83) (fun _ _ h=>RetK.good h) (fun _ _ h=>h)),(gvv 28 79 33 84),(gv 34 85),(fun aF wF F=>by have s10:=F.q 10 (.int .i64 4);have sg:=F.v 35 86;exact Ar ((Aj rfl rfl sg).trans rfl) (by go_simp) rfl),(fun aF wF F=>by have s87:=F.v 36 87;have sg:=F.v 35 86;exact Ar ((Aj rfl rfl sg).trans rfl) (by go_simp) rfl),(gvv 35 86 37 88),(gv 38 89),(fun aF wF F=>by have s12:=F.q 12 (.int .i64 4);have sg:=F.v 39 90;exact Ar ((Aj rfl rfl sg).trans rfl) (by go_simp) rfl),(fun aF wF F=>by have s91:=F.v 40 91;have sg:=F.v 39 90;exact Ar ((Aj rfl rfl sg).trans rfl) (by go_simp) rfl),(gvv 39 90 41 92),(gv 42 93),
    trivial⟩ ?_
 intro u w1 k1 hu;have p82:=hp hu 31;have p83:=hp hu 32;simp only [Au,An,if_true,Act.put,zlA,zlB,zlC,zlD,zlE,zlF,zlG,hv hu 0,hv hu 1,hv hu 2,hv hu 3,hv hu 4,hv hu 5,hv hu 6,hv hu 7,hv hu 8,hv hu 9,hv hu 10,hv hu 11,hv hu 12,hv hu 13,hv hu 14,hv hu 15,hv hu 16,hv hu 17,hv hu 18,hv hu 19,hv hu 20,hv hu 21,hv hu 22,hv hu 23,hv hu 24,hv hu 25,hv hu 26,hv hu 27,hv hu 28,hv hu 29,hv hu 30,hv hu 33,hv hu 34,hv hu 35,hv hu 36,hv hu 37,hv hu 38,hv hu 39,hv hu 40,hv hu 41,hv hu 42,hv hu 43];clear hu;generalize u 31=v82,u 32=v83 at *;go_wp2_with fail;go_ret;exact ⟨rfl,K.out.trans k1⟩
def N8 (r:Raw):Bool:=decide (r.m.length≤70)
def Zh (a:RawI):Bool:=N8 a.lo&&N8 a.hi
theorem Wl {w:World}{v:Value}{r:Raw}(hv:DyR w v r)(hl:r.m.length≤17592186044416):Calls Tryz.prog 46 #[v] w (RetK (.bool (N8 r)) w):=by
 obtain ⟨neg,m,e⟩:=r;obtain ⟨s,rfl,hs,h1,h2⟩:=hv;obtain ⟨-,A,c,rfl,-⟩:=hs;unfold N8;simp only at hl h1 h2;generalize m.length=n at *;have hd:decide ((n:Int)≤70)=decide (n≤70):=by simp;omega
 go_enter Tryz.func46,Tryz.ntmps46;go_wp2_with fail;go_ret;exact ⟨rfl,Ad _ _⟩
theorem Wm {w:World}{v:Value}{a:RawI}(hv:IvR w v a)(hl:a.lens 17592186044416):Calls Tryz.prog 11 #[v] w (RetK (.bool (Zh a)) w):=by
 obtain ⟨A,l,c,A',l',c',rfl,h1,h2⟩:=Ao hv;have m1:=fun w1 (k:Kept w w1)=>Wl (h1.kept k) hl.1
 have m2:=fun w1 (k:Kept w w1)=>Wl (h2.kept k) hl.2
 have M1:=hid m1;have M2:=hid m2;clear m1 m2 h1 h2 hv hl;unfold Zh;generalize N8 a.lo=r1 at *;generalize N8 a.hi=r2 at *;generalize a.lo.neg=n1 at *;generalize a.lo.e=e1 at *;generalize a.hi.neg=n2 at *;generalize a.hi.e=e2 at *;obtain ⟨W,hW,kW,BI⟩:=V0 w (.bool n1) (.slice A l c) (.int .i64 e1) (.bool n2) (.slice A' l' c') (.int .i64 e2);have HW:=hid hW;have K:=hid kW;have HB:=hid BI;clear hW kW BI;cases r1
 ·rw [Bool.false_and];go_enter Tryz.func11,Tryz.ntmps11;go_wp2_with fail;rw [←HW.out];refine (M1.out _ K.out).mono ?_;rintro e w1 ⟨rfl,q⟩;simp only [];go_wp2_with fail;go_ret;exact ⟨rfl,K.out.trans q⟩
 ·rw [Bool.true_and];go_enter Tryz.func11,Tryz.ntmps11;go_wp2_with fail;rw [←HW.out];refine (M1.out _ K.out).mono ?_;rintro e w1 ⟨rfl,q⟩;obtain ⟨-,c0,c1,c2,c3,c4,c5⟩:=(HB.out.kept q).facts;simp only [];go_wp2_with fail;refine (M2.out _ (K.out.trans q)).mono ?_;rintro e w2 ⟨rfl,q2⟩;simp only [];go_wp2_with fail;go_ret;exact ⟨rfl,(K.out.trans q).trans q2⟩
end Go.Proofs.YtinbgjcooolbiaaGreatDoor
