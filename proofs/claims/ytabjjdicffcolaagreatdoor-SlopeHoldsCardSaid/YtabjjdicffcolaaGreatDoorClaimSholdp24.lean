/- Words and contracts, part 24. -/
import Derived.Test.YtabjjdicffcolaaGreatDoorClaimSholdp23
set_option maxRecDepth 100000
set_option maxHeartbeats 0
namespace Go.Proofs.YtabjjdicffcolaaGreatDoor
open Go.Lib (hid)
open Go.RowKit
variable {z:Bool} {d d' x y z':Dy} {B op:Int} {a b:Iv} {S b0 c i l m n p p' wk:Nat} {L:Nat→Bool} {u:Nat→Value} {A:Option Addr} {v:Value} {w w':World}
theorem Aj8 {r:Raw}{p:Int}{up:Bool}(hv:DyR w v r)(hl:r.m.length≤17592186044416)(hT:Tab w)(h0:Dz r p≠0) :
 Calls Tryz.prog 144 #[v,.int .i64 p,.bool up] w (RetE ⟨rz,Dz r p⟩ w):=by
 have C:=hid (fun w1 (k:Kept w w1)=>T5 (p:=p) (hv.kept k) hl (hT.kept k));obtain ⟨A,l,c,rfl,hs⟩:=Ay hv;clear hv hs hl hT;generalize Dz r p=k at *;generalize r.neg=n1,r.e=e1 at *;have hk:(k != 0)=true:=by simpa using h0
 clear h0;obtain ⟨W,hW,kW,BA,BR⟩:=Lh w (.bool n1) (.slice A l c) (.int .i64 e1);have HW:=hid hW;have K:=hid kW;have HB:=hid BR;obtain ⟨-,a0,a1,a2,-⟩:=BA.facts;clear hW kW BA BR;go_enter Tryz.func144,Tryz.ntmps144;go_upto_region 1 with fail;rw [←HW.out];go_step3;go_wp2_with fail;refine (C.out _ K.out).mono ?_;rintro ee w1 ⟨rfl,q⟩;simp only [];replace K:=hid (K.out.trans q);replace HB:=hid (HB.out.kept q);clear q a0 a1 a2;obtain ⟨-,x0,x1,x2,f0,f1,f2⟩:=HB.out.facts;go_wp2_with fail;exact Ed (HB.out.laid _ _ _) rfl rfl rfl ⟨An K.out (by omega),_,rfl,Cf _⟩
theorem Aj7 {p:Int}{up:Bool}(hv:DyR w v d.raw)(ok:d.Ok)(hT:Tab w)(h0:Dz d.raw p=0)(hz:d.m=0) :
 Calls Tryz.prog 144 #[v,.int .i64 p,.bool up] w (RetE ⟨one.raw,0⟩ w):=by
 have C:=hid (fun w1 (k:Kept w w1)=>T5 (p:=p) (hv.kept k) (by have:=Ds ok;omega) (hT.kept k));rw [h0] at C;have CO:=hid (fun w1 (k:Kept w w1)=>show Calls Tryz.prog 20 #[.int .i64 1,.int .i64 0] w1 (RetE ⟨one.raw,0⟩ w1) by
  have h:=Oc (w:=w1) (k:=1) (e:=0) (by decide) (by decide) (by decide) (hT.kept k);rw [Xs] at h;exact h)
 obtain ⟨A,l,c,rfl,hl,-,-,-⟩:=hv.shape;have hl0:l=0:=by rw [hl];show (limbs d.m).length=0;rw [hz,Au];rfl
 subst hl0;clear hv hl hT ok hz h0;generalize d.raw.neg=n1,d.raw.e=e1 at *;obtain ⟨W,hW,kW,BA,BR⟩:=Lh w (.bool n1) (.slice A 0 c) (.int .i64 e1);have HW:=hid hW;have K:=hid kW;have HA:=hid BA;have HB:=hid BR;obtain ⟨-,a0,a1,a2,-⟩:=BA.facts;clear hW kW BA BR;go_enter Tryz.func144,Tryz.ntmps144;go_upto_region 1 with fail;rw [←HW.out];go_step3;go_wp2_with fail;refine (C.out _ K.out).mono ?_;rintro ee w1 ⟨rfl,q⟩;simp only [];replace K:=hid (K.out.trans q);replace HA:=hid (HA.out.kept q);replace HB:=hid (HB.out.kept q);clear q a0 a1 a2;obtain ⟨-,a0,a1,a2,-⟩:=HA.out.facts;go_wp2_with fail
 refine (CO.out _ K.out).mono ?_;rintro ee w2 ⟨q,u,rfl,hd⟩;obtain ⟨A5,j5,c5,rfl,-,hd,g1,g2⟩:=hd.shape;simp only [];replace K:=hid (K.out.trans q);replace HB:=hid (HB.out.kept q);have HD:=hid hd;clear q a0 a1 a2 hd;obtain ⟨-,x0,x1,x2,f0,f1,f2⟩:=HB.out.facts;go_wp2_with fail;exact Ed (HB.out.laid _ _ _) rfl rfl rfl ⟨An K.out (by omega),_,rfl,(HD.out.dyW HB.out (Ah _) (Ag _ _ _) (Af _)).dyR g1 g2⟩
def Ez (p:Nat) (up:Bool) (d:Dy):Dy × Dy:=(Gd p up (He (Db d)) 400 1 one one).getD (one,one)
def bnE (d:Dy) (w:Nat):Dy × Dy:=Mc w d (I6 w false d (Ez w false d)) (I6 w true d (Ez w true d))
def exX (d:Dy) (p w:Nat) (up:Bool):Dy:=Ia p up (bnE d w).1
def exY (d:Dy) (p w:Nat) (up:Bool):Dy:=Ia p up (bnE d w).2
def Oi (d:Dy) (p:Nat) (up:Bool):Nat→Nat→Outc Dy
 | 0,_=>bad 2
 | f+1,w=>if 2000<w then bad 2 else if K0 (exX d p w up).raw (exY d p w up).raw=true then good (exX d p w up) else Oi d p up f (w+w/2)
def F2 (d:Dy) (p:Nat) (up:Bool):Outc Dy:=if Dz d.raw p≠0 then bad (Dz d.raw p) else if d.m=0 then good one else Oi d p up 2000 (p+40)
theorem Afh (d:Dy)(p w:Nat)(up:Bool):(exX d p w up).Ok:=Nr _ _ _
theorem Ab5 (d:Dy)(p:Nat)(up:Bool):∀ f w,(Oi d p up f w).Ok
 | 0,_=>Mj _
 | f + 1, w => by
   rw [Oi];split
   ·exact Mj _
   ·split
    ·exact Pg (Afh _ _ _ _)
    ·exact Ab5 d p up f _
theorem Ab4 (d:Dy)(p:Nat)(up:Bool):(F2 d p up).Ok:=by
 unfold F2;split
 ·exact Mj _
 ·split
  ·exact Pg Hn
  ·exact Ab5 _ _ _ _ _
def ExB (S:Nat) (z:Bool) (d:Dy) (v:Value) (w:World):Prop:=∃ b,v=.pointer (some ⟨b,0,none⟩)∧S≤b∧(z=false→Blk w b (.bool false) (.slice none 0 0) (.int .i64 0)) ∧
 (z=true→∃ A l c,Blk w b (.bool d.neg) (.slice A l c) (.int .i64 d.e)∧DyR w (.agg #[.bool d.neg,.slice A l c,.int .i64 d.e]) d.raw)
theorem ExB.kept (h:ExB S z d v w)(k:Kept w w'):ExB S z d v w':=by
 obtain ⟨b,h1,h2,h4,h5⟩:=h;exact ⟨b,h1,h2,fun e=>(h4 e).kept k,fun e=>by obtain ⟨A,l,c,a1,a2⟩:=h5 e;exact ⟨A,l,c,a1.kept k,a2.kept k⟩⟩
theorem ExB.ne (h:ExB S z d v w):v≠.pointer (some ⟨w.heap.size,0,none⟩):=by
 obtain ⟨b,rfl,h2,h4,h5⟩:=h;intro e;have hb:b<w.heap.size:=by
  cases z with
  | false=>exact (h4 rfl).facts.1
  | true=>obtain ⟨A,l,c,a1,a2⟩:=h5 rfl;exact a1.facts.1
 cases e;omega
theorem ExB.new (d:Dy)(h:S≤w.heap.size):ExB S false d (.pointer (some ⟨w.heap.size,0,none⟩)) (w.alloc (.cells #[.bool false,.slice none 0 0,.int .i64 0] 28)) :=
 ⟨_,rfl,h,fun _=>D7 _,fun e=>by cases e⟩
theorem ExB.other (h:ExB S z d v w)(hb:Blk w b0 (.bool false) (.slice none 0 0) (.int .i64 0))(hv:v≠.pointer (some ⟨b0,0,none⟩))(x' y' z':Value) :
 ExB S z d v (dyW w b0 x' y' z'):=by
 obtain ⟨b,h1,h2,h4,h5⟩:=h;have hne:¬b=b0:=fun e=>hv (by rw [h1,e])
 refine ⟨b,h1,h2,fun e=>(h4 e).laid_other hne _ _ _,fun e=>?_⟩;obtain ⟨A,l,c,a1,a2⟩:=h5 e;exact ⟨A,l,c,a1.laid_other hne _ _ _,a2.dyW hb (Ah _) (Ag _ _ _) (Af _) _ _ _⟩
theorem ExB.laid (hb:Blk w b0 (.bool false) (.slice none 0 0) (.int .i64 0))(hS:S≤b0)(hd:DyR w (.agg #[.bool d.neg,.slice A l c,.int .i64 d.e]) d.raw) :
 ExB S true d (.pointer (some ⟨b0,0,none⟩)) (dyW w b0 (.bool d.neg) (.slice A l c) (.int .i64 d.e)) :=
 ⟨_,rfl,hS,fun e=>(by cases e),fun _=>⟨A,l,c,hb.laid _ _ _,hd.dyW hb (Ah _) (Ag _ _ _) (Af _) _ _ _⟩⟩
def ExG (S:Nat) (x y:Dy) (L:Nat→Bool) (u:Nat→Value) (w:World):Prop :=
 (L 10=true→ExB S (L 12) x (u 10) w)∧(L 11=true→ExB S (L 13) y (u 11) w)∧(L 10=true→L 11=true→u 10≠u 11)∧(L 10=false→L 12=false)∧(L 11=false→L 13=false)
theorem ExG.keep (hE:(i==10||i==11||i==12||i==13)=false)(k:Kept w w')(h:ExG S x y L u w):ExG S x y (upd L i true) (upd u i v) w':=by
 simp only [Bool.or_eq_false_iff,beq_eq_false_iff_ne] at hE;obtain ⟨⟨⟨h10,h11⟩,h12⟩,h13⟩:=hE;obtain ⟨a,b,c,d,e⟩:=h;have u1:∀ {α:Type} (f:Nat→α) (x:α) (j:Nat),¬i=j→upd f i x j=f j:=fun f x j hj=>by unfold upd;rw [if_neg (fun e=>hj e.symm)]
 refine ⟨?_,?_,?_,?_,?_⟩<;>simp only [u1 _ _ 10 h10,u1 _ _ 11 h11,u1 _ _ 12 h12,u1 _ _ 13 h13]
 ·exact fun q=>(a q).kept k
 ·exact fun q=>(b q).kept k
 ·exact c
 ·exact d
 ·exact e
theorem ExG.put10 (hS:S≤w.heap.size)(h:ExG S x y L u w)(h0:L 10=false) :
 ExG S x y (upd L 10 true) (upd u 10 (.pointer (some ⟨w.heap.size,0,none⟩))) (w.alloc (.cells #[.bool false,.slice none 0 0,.int .i64 0] 28)):=by
 obtain ⟨a,b,c,d,e⟩:=h;have h12:=d h0;unfold ExG;simp only [upd,reduceIte,Nat.reduceEqDiff,h12];exact ⟨fun _=>ExB.new x hS,fun q=>(b q).kept (Ad _ _),fun _ q=>fun e=>(b q).ne e.symm,fun q=>trivial,e⟩
theorem ExG.put11 (hS:S≤w.heap.size)(h:ExG S x y L u w)(h0:L 11=false) :
 ExG S x y (upd L 11 true) (upd u 11 (.pointer (some ⟨w.heap.size,0,none⟩))) (w.alloc (.cells #[.bool false,.slice none 0 0,.int .i64 0] 28)):=by
 obtain ⟨a,b,c,d,e⟩:=h;have h13:=e h0;unfold ExG;simp only [upd,reduceIte,Nat.reduceEqDiff,h13];exact ⟨fun q=>(a q).kept (Ad _ _),fun _=>ExB.new y hS,fun q _=>(a q).ne,d,fun q=>trivial⟩
theorem ExG.put12 (h:ExG S x y L u w)(h0:L 10=true)(e0:u 10=.pointer (some ⟨b0,0,none⟩))(hS:S≤b0)
 (hb:Blk w b0 (.bool false) (.slice none 0 0) (.int .i64 0)) (hd:DyR w (.agg #[.bool x.neg,.slice A l c,.int .i64 x.e]) x.raw) :
 ExG S x y (upd L 12 true) (upd u 12 v) (dyW w b0 (.bool x.neg) (.slice A l c) (.int .i64 x.e)):=by
 obtain ⟨a,b,c,d,e⟩:=h;unfold ExG;simp only [upd,reduceIte,Nat.reduceEqDiff,h0];refine ⟨fun _=>by rw [e0];exact ExB.laid hb hS hd,fun q=>(b q).other hb (fun ee=>c h0 q (e0.trans ee.symm)) _ _ _,fun _ q=>c h0 q,fun q=>by (cases q),e⟩
theorem ExG.put13 (h:ExG S x y L u w)(h0:L 11=true)(e0:u 11=.pointer (some ⟨b0,0,none⟩))(hS:S≤b0)
 (hb:Blk w b0 (.bool false) (.slice none 0 0) (.int .i64 0)) (hd:DyR w (.agg #[.bool y.neg,.slice A l c,.int .i64 y.e]) y.raw) :
 ExG S x y (upd L 13 true) (upd u 13 v) (dyW w b0 (.bool y.neg) (.slice A l c) (.int .i64 y.e)):=by
 obtain ⟨a,b,c,d,e⟩:=h;unfold ExG;simp only [upd,reduceIte,Nat.reduceEqDiff,h0];refine ⟨fun q=>(a q).other hb (fun ee=>c q h0 (ee.trans e0.symm)) _ _ _,fun _=>by rw [e0];exact ExB.laid hb hS hd,fun q _=>c q h0,d,fun q=>by (cases q)⟩
theorem Aff (w:World):DyR w (.agg #[.bool false,.slice none 0 0,.int .i64 0]) (bad 2:Outc Dy).raw.v:=by
 have h:(bad 2:Outc Dy).raw.v=rz:=Fg;rw [h];exact Cf w
theorem Aj9 {up:Bool}(hv:DyR w v d.raw)(ok:d.Ok)(p1:1≤p)(p2:p≤300)(hT:Tab w)(h0:Dz   d.raw p=0)(hz:d.m≠0)
 (hB:∀ wk:Nat,1≤wk→wk≤2000→∀ w1,Kept w w1→Calls Tryz.prog 184 #[v,.int .i64 (wk:Int)] w1 (Aev (bnE d wk).1.raw (bnE d wk).2.raw w1))
 (hO:∀ wk,(bnE d wk).1.Ok∧(bnE d wk).2.Ok) :
 Calls Tryz.prog 144 #[v,.int .i64 (p:Int),.bool up] w (RetE (Oi d p up 2000 (p+40)).raw w):=by
 have C:=hid (fun w1 (k:Kept w w1)=>T5 (p:=(p:Int)) (hv.kept k) (by have:=Ds ok;omega) (hT.kept k));rw [h0] at C;have CB:=hid hB;have C1:=hid (fun (wk:Nat) w1 v (k:Kept w w1) (h:DyR w1 v (bnE d wk).1.raw)=>show Calls Tryz.prog 185 #[.agg #[.int .i64 (p:Int),.bool up],v] w1 (RetD (exX d p wk up).raw w1) from Nb h (hO wk).1 p1 (by omega) (hT.kept k));have C2:=hid (fun (wk:Nat) w1 v (k:Kept w w1) (h:DyR w1 v (bnE d wk).2.raw)=>show Calls Tryz.prog 185 #[.agg #[.int .i64 (p:Int),.bool up],v] w1 (RetD (exY d p wk up).raw w1) from Nb h (hO wk).2 p1 (by omega) (hT.kept k))
 have CS:=hid (fun (wk:Nat) w1 v u (h:DyR w1 v (exX d p wk up).raw) (h2:DyR w1 u (exY d p wk up).raw)=>show Calls Tryz.prog 35 #[v,u] w1 (RetK (.bool (K0 (exX d p wk up).raw (exY d p wk up).raw)) w1) from
  Pc h h2 (by have:=Ds (Afh d p wk up);omega))
 obtain ⟨A,l,c,rfl,hl,-,-,-⟩:=hv.shape;have hl0:((l:Int)==0)=false:=by
  have:=Bc d.m hz;rw [beq_eq_false_iff_ne,hl]
  show ((limbs d.m).length:Int)≠0
  omega
 clear hv hl hT ok hz h0 hB hO;obtain ⟨fu,hf0⟩:∃ f,f=2000:=⟨_,rfl⟩;rw [←hf0];obtain ⟨o,ho⟩:∃ o,o=Oi d p up fu (p+40):=⟨_,rfl⟩;rw [←ho];have HO:=hid ho;have HF:=hid hf0;clear ho hf0;generalize hn1:d.raw.neg=n1,he1:d.raw.e=e1 at *;clear hn1 he1;obtain ⟨W,hW,kW,BA,BR⟩:=Lh w (.bool n1) (.slice A l c) (.int .i64 e1);have HW:=hid hW;have K:=hid kW;have HA:=hid BA;have HB:=hid BR;obtain ⟨-,a0,a1,a2,-⟩:=BA.facts;clear hW kW BA BR;go_enter Tryz.func144,Tryz.ntmps144;go_upto_region 1 with fail;rw [←HW.out];go_step3;go_wp2_with fail;refine (C.out _ K.out).mono ?_;rintro ee w1 ⟨rfl,q⟩
 simp only [];replace K:=hid (K.out.trans q);replace HA:=hid (HA.out.kept q);replace HB:=hid (HB.out.kept q);clear q a0 a1 a2 HW C;obtain ⟨-,a0,a1,a2,-⟩:=HA.out.facts;go_wp2_with fail;go_step3;go_wp2_with fail;clear a0 a1 a2 hl0
 go_loopw [9] (fun j wr=>∃ f wk:Nat,j=.int .i64 (wk:Int)∧2≤wk∧2000<wk+f∧Oi d p up f wk=o∧wk≤3000∧Kept w wr∧Blk wr w.heap.size (.bool n1) (.slice A l c) (.int .i64 e1) ∧
  Blk wr (w.heap.size+1) (.bool false) (.slice none 0 0) (.int .i64 0)) (fun j _=>(3001-intOf j).toNat)
 case atStart=>exact ⟨fu,p+40,by simp,by omega,by have:=HF.out;omega,HO.out.symm,by omega,K.out,HA.out,HB.out⟩
 case round =>
  clear HO K HA HB;obtain ⟨f,wk,rfl,hw1,hw2,hE,hw3,hK,hA,hB⟩:=hrel;have K:=hid hK;have HA:=hid hA;have HB:=hid hB;have HE:=hid hE;clear hK hA hB hE;obtain ⟨-,a0,a1,a2,-⟩:=HA.out.facts;obtain ⟨-,x0,x1,x2,y0,y1,y2⟩:=HB.out.facts;cases f with
  | zero =>
    have hwk:2000<wk:=by omega
    have ho:o=bad 2:=HE.out.symm;subst ho;clear HE;go_wp2_with fail;exact Ed (HB.out.laid _ _ _) rfl rfl rfl ⟨An K.out (by omega),_,rfl,Aff _⟩
  | succ f =>
    have hE:=HE.out;rw [Oi] at hE;by_cases hwk:2000<wk
    ·rw [if_pos hwk] at hE;subst hE;clear HE;go_wp2_with fail;exact Ed (HB.out.laid _ _ _) rfl rfl rfl ⟨An K.out (by omega),_,rfl,Aff _⟩
    ·rw [if_neg hwk] at hE;replace HE:=hid hE;have hwk':wk≤2000:=by omega
     clear hE hwk;have CBw:=hid (CB.out wk (by omega) hwk');go_wp2_with fail;refine (CBw.out _ K.out).mono ?_;rintro ee w2 ⟨q,va,vb,rfl,h1,h2⟩;obtain ⟨A1,j1,c1,rfl,h1⟩:=Bj h1;obtain ⟨A2,j2,c2,rfl,h2⟩:=Bj h2;simp only [];obtain ⟨W2,hW2,kW2,BL,BH⟩:=P8 w2 (.bool (bnE d wk).1.neg) (.slice A1 j1 c1) (.int .i64 (bnE d wk).1.e) (.bool (bnE d wk).2.neg) (.slice A2 j2 c2) (.int .i64 (bnE d wk).2.e);have HW2:=hid hW2;have kk:=q.trans kW2;have lR:w.heap.size+1<w2.heap.size:=Nat.lt_of_lt_of_le HB.out.facts.1 q.size;have lW:w2.heap.size≤W2.heap.size:=kW2.size;replace K:=hid (K.out.trans kk)
     replace HA:=hid (HA.out.kept kk);replace HB:=hid (HB.out.kept kk);have HL:=hid BL;have HH:=hid BH;have ZL:=hid (h1.kept kW2);have ZH:=hid (h2.kept kW2);clear hW2 kW2 BL BH q h1 h2 kk CBw a0 a1 a2 x0 x1 x2 y0 y1 y2;replace C1:=hid (C1.out wk);replace C2:=hid (C2.out wk);replace CS:=hid (CS.out wk);generalize bnE d wk=lh at *;obtain ⟨lo,hi⟩:=lh;generalize hxe:exX d p wk up=x at *;generalize hye:exY d p wk up=y at *;clear hxe hye;go_upto_region 10 with fail;rw [←HW2.out];clear HW2;generalize w2.heap.size=b10 at *;have NN:∀ b:Nat,b∉([]:List Nat):=fun b=>by simp
     refine Y4 (m:=14) (E:=fun i=>i==10||i==11||i==12||i==13) (G:=fun L u w'=>ExG W2.heap.size x y L u w') (J:=fun L w=>KB W2 [] w∧(fun L w'=>True) L w) (l:=[(vE (.int .i64 (p:Int))),(vE (.bool up)),(vE (.agg #[.int .i64 (p:Int),.bool up])),(vE (.agg #[.bool lo.neg,.slice A1 j1 c1,.int .i64 lo.e])),(fun v wv=>DyR wv v x.raw),(vE (.int .i64 (p:Int))),(vE (.bool up)),(vE (.agg #[.int .i64 (p:Int),.bool up])),(vE (.agg #[.bool hi.neg,.slice A2 j2 c2,.int .i64 hi.e])),(fun v wv=>DyR wv v y.raw),(fun v _=>∃ b,v=.pointer (some ⟨b,0,none⟩)),(fun v _=>∃ b,v=.pointer (some ⟨b,0,none⟩)),(fun v _=>True),(fun v _=>True)])
      (by kernel_rfl) (fun i hE L u v w w' k h=>by exact ExG.keep hE k h) (by exact ⟨fun e=>(by cases e),fun e=>(by cases e),fun e=>(by cases e),fun _=>rfl,fun _=>rfl⟩) rfl (by kernel_rfl) (by kernel_rfl) (by kernel_rfl) ⟨mE,mE,mE,mE,mD,mE,mE,mE,mE,mD,fun v w w' k h=>by first | exact h | exact h.kept k | exact ⟨h.1,h.2.kept k⟩,fun v w w' k h=>by first | exact h | exact h.kept k | exact ⟨h.1,h.2.kept k⟩,fun v w w' k h=>by first | exact h | exact h.kept k | exact ⟨h.1,h.2.kept k⟩,fun v w w' k h=>by first | exact h | exact h.kept k | exact ⟨h.1,h.2.kept k⟩,trivial⟩ ⟨(KB.refl _ _).drew,(by trivial)⟩ (⟨
        (.inl ⟨rfl,fun LF aF wF F=>by
      have FK:KB W2 [] wF:=F.frame.1;have fj:=F.frame.2;refine ⟨fun wq kq=>⟨FK.step kq,by trivial⟩,?_⟩;have s1:=F.q 1 (.int .i64 (p:Int))
      exact sv rfl⟩),
       (.inl ⟨rfl,fun LF aF wF F=>by
      have FK:KB W2 [] wF:=F.frame.1;have fj:=F.frame.2;refine ⟨fun wq kq=>⟨FK.step kq,by trivial⟩,?_⟩;have s2:=F.q 2 (.bool up)
      exact sv rfl⟩),
       (.inl ⟨rfl,fun LF aF wF F=>by
      have FK:KB W2 [] wF:=F.frame.1;have fj:=F.frame.2;refine ⟨fun wq kq=>⟨FK.step kq,by trivial⟩,?_⟩;have s42:=F.v 0 42;have s43:=F.v 1 43;simp only [Array.getD_eq_getD_getElem?] at s42;simp only [Array.getD_eq_getD_getElem?] at s43
      exact sv rfl⟩),
       (.inl ⟨rfl,fun LF aF wF F=>by
      have FK:KB W2 [] wF:=F.frame.1;have fj:=F.frame.2;refine ⟨fun wq kq=>⟨FK.step kq,by trivial⟩,?_⟩;have s10:=F.q 10 (.pointer (some ⟨b10,0,none⟩));have c0:=Ct HL.out FK (NN _) 0 _ rfl;have c1:=Ct HL.out FK (NN _) 1 _ rfl;have c2:=Ct HL.out FK (NN _) 2 _ rfl
      exact sv rfl⟩),
       (.inl ⟨rfl,fun LF aF wF F=>by
      have FK:KB W2 [] wF:=F.frame.1;have fj:=F.frame.2;refine ⟨fun wq kq=>⟨FK.step kq,by trivial⟩,?_⟩;have s44:=F.v 2 44;have s45:=F.v 3 45
      exact Av (by simp [Region.wanted]) (by go_simp) (C1.out _ _ (K.out.trans FK.nil) (ZL.out.kept FK.nil)) (fun _ _ h=>RetD.good h) (fun _ _ h=>h)⟩),
       (.inl ⟨rfl,fun LF aF wF F=>by
      have FK:KB W2 [] wF:=F.frame.1;have fj:=F.frame.2;refine ⟨fun wq kq=>⟨FK.step kq,by trivial⟩,?_⟩;have s1:=F.q 1 (.int .i64 (p:Int))
      exact sv rfl⟩),
       (.inl ⟨rfl,fun LF aF wF F=>by
      have FK:KB W2 [] wF:=F.frame.1;have fj:=F.frame.2;refine ⟨fun wq kq=>⟨FK.step kq,by trivial⟩,?_⟩;have s2:=F.q 2 (.bool up)
      exact sv rfl⟩),
       (.inl ⟨rfl,fun LF aF wF F=>by
      have FK:KB W2 [] wF:=F.frame.1;have fj:=F.frame.2;refine ⟨fun wq kq=>⟨FK.step kq,by trivial⟩,?_⟩;have s47:=F.v 5 47;have s48:=F.v 6 48;simp only [Array.getD_eq_getD_getElem?] at s47;simp only [Array.getD_eq_getD_getElem?] at s48
      exact sv rfl⟩),
       (.inl ⟨rfl,fun LF aF wF F=>by
      have FK:KB W2 [] wF:=F.frame.1;have fj:=F.frame.2;refine ⟨fun wq kq=>⟨FK.step kq,by trivial⟩,?_⟩;have s11:=F.q 11 (.pointer (some ⟨b10+1,0,none⟩));have c0:=Ct HH.out FK (NN _) 0 _ rfl;have c1:=Ct HH.out FK (NN _) 1 _ rfl;have c2:=Ct HH.out FK (NN _) 2 _ rfl
      exact sv rfl⟩),
       (.inl ⟨rfl,fun LF aF wF F=>by
      have FK:KB W2 [] wF:=F.frame.1;have fj:=F.frame.2;refine ⟨fun wq kq=>⟨FK.step kq,by trivial⟩,?_⟩;have s49:=F.v 7 49;have s50:=F.v 8 50
      exact Av (by simp [Region.wanted]) (by go_simp) (C2.out _ _ (K.out.trans FK.nil) (ZH.out.kept FK.nil)) (fun _ _ h=>RetD.good h) (fun _ _ h=>h)⟩),
       (.inr fun LF uF aF wF F FV=>by
      have FK:KB W2 [] wF:=F.frame.1;have fj:=F.frame.2
      exact Ib (by simp [Region.wanted]) (by go_simp) ⟨(FK.nil.trans (Ad _ _)).kb [],trivial⟩ (By _ ⟨.inr vS,.inr vS,.inr vS,.inr vS,.inr (fun u h=>by first | exact h.kept (Ad _ _) | exact h),.inr vS,.inr vS,.inr vS,.inr vS,.inr (fun u h=>by first | exact h.kept (Ad _ _) | exact h),.inl rfl,.inr (fun u h=>by first | exact h.kept (Ad _ _) | exact h),.inr (fun u h=>h),.inr (fun u h=>h),trivial⟩) ⟨_,rfl⟩ (FV.g.put10 FK.size F.yet)),
       (.inr fun LF uF aF wF F FV=>by
      have FK:KB W2 [] wF:=F.frame.1;have fj:=F.frame.2
      exact Ib (by simp [Region.wanted]) (by go_simp) ⟨(FK.nil.trans (Ad _ _)).kb [],trivial⟩ (By _ ⟨.inr vS,.inr vS,.inr vS,.inr vS,.inr (fun u h=>by first | exact h.kept (Ad _ _) | exact h),.inr vS,.inr vS,.inr vS,.inr vS,.inr (fun u h=>by first | exact h.kept (Ad _ _) | exact h),.inr (fun u h=>by first | exact h.kept (Ad _ _) | exact h),.inl rfl,.inr (fun u h=>h),.inr (fun u h=>h),trivial⟩) ⟨_,rfl⟩ (FV.g.put11 FK.size F.yet)),
       (.inr fun LF uF aF wF F FV=>by
      have FK:KB W2 [] wF:=F.frame.1;have fj:=F.frame.2;have s12:=F.p 10 12;have s46:=F.p 4 46
      obtain ⟨b,hb,hS,B0,-⟩:=FV.g.1 (F.wait 10 (by kernel_rfl));replace B0:=B0 F.yet;have e12:=(FV.eq 10 12 (by kernel_rfl) rfl).trans hb;clear s12;obtain ⟨A3,j3,c3,e46,z1⟩:=Bj s46;obtain ⟨-,y0,y1,y2,g0,g1,g2⟩:=B0.facts;exact Pu (w':=dyW wF b (.bool x.neg) (.slice A3 j3 c3) (.int .i64 x.e)) (by simp [Region.wanted]) (by go_simp;rfl) ⟨(An FK.nil hS).kb [],trivial⟩ (By _ ⟨.inr vS,.inr vS,.inr vS,.inr vS,.inr (fun u h=>by first | exact h.dyW B0 (Ah _) (Ag _ _ _) (Af _) _ _ _ | exact h),.inr vS,.inr vS,.inr vS,.inr vS,.inr (fun u h=>by first | exact h.dyW B0 (Ah _) (Ag _ _ _) (Af _) _ _ _ | exact h),.inr (fun u h=>by first | exact h.dyW B0 (Ah _) (Ag _ _ _) (Af _) _ _ _ | exact h),.inr (fun u h=>by first | exact h.dyW B0 (Ah _) (Ag _ _ _) (Af _) _ _ _ | exact h),.inl rfl,.inr (fun u h=>h),trivial⟩) trivial (FV.g.put12 (F.wait 10 (by kernel_rfl)) hb hS B0 z1)),
       (.inr fun LF uF aF wF F FV=>by
      have FK:KB W2 [] wF:=F.frame.1;have fj:=F.frame.2;have s13:=F.p 11 13;have s51:=F.p 9 51
      obtain ⟨b,hb,hS,B0,-⟩:=FV.g.2.1 (F.wait 11 (by kernel_rfl));replace B0:=B0 F.yet;have e13:=(FV.eq 11 13 (by kernel_rfl) rfl).trans hb;clear s13;obtain ⟨A3,j3,c3,e51,z1⟩:=Bj s51;obtain ⟨-,y0,y1,y2,g0,g1,g2⟩:=B0.facts;exact Pu (w':=dyW wF b (.bool y.neg) (.slice A3 j3 c3) (.int .i64 y.e)) (by simp [Region.wanted]) (by go_simp;rfl) ⟨(An FK.nil hS).kb [],trivial⟩ (By _ ⟨.inr vS,.inr vS,.inr vS,.inr vS,.inr (fun u h=>by first | exact h.dyW B0 (Ah _) (Ag _ _ _) (Af _) _ _ _ | exact h),.inr vS,.inr vS,.inr vS,.inr vS,.inr (fun u h=>by first | exact h.dyW B0 (Ah _) (Ag _ _ _) (Af _) _ _ _ | exact h),.inr (fun u h=>by first | exact h.dyW B0 (Ah _) (Ag _ _ _) (Af _) _ _ _ | exact h),.inr (fun u h=>by first | exact h.dyW B0 (Ah _) (Ag _ _ _) (Af _) _ _ _ | exact h),.inr (fun u h=>h),.inl rfl,trivial⟩) trivial (FV.g.put13 (F.wait 11 (by kernel_rfl)) hb hS B0 z1)),
       trivial⟩) ?_
     intro u w5 L1 hL j1 hu hg;obtain ⟨hgx,hgy,hgn,-,-⟩:=hg;replace hgx:=hgx (hL 10 (by decide));replace hgy:=hgy (hL 11 (by decide));rw [hL 12 (by decide)] at hgx;rw [hL 13 (by decide)] at hgy;obtain ⟨q5,j1⟩:=j1;have p46:=hp hu 4;have p51:=hp hu 9;have p12:=hp hu 10;have p13:=hp hu 11;simp only [Ax,Al,if_true,Act.put,zlA,zlB,zlC,zlD,zlE,zlF,zlG,hv hu 0,hv hu 1,hv hu 2,hv hu 3,hv hu 5,hv hu 6,hv hu 7,hv hu 8];clear hu;generalize u 4=v46,u 9=v51,u 10=v12,u 11=v13 at *;obtain ⟨b12,rfl,hb12,-,hx⟩:=hgx;obtain ⟨b13,rfl,hb13,-,hy⟩:=hgy;obtain ⟨A3,j3,c3,BX,Z3⟩:=hx rfl;obtain ⟨A4,j4,c4,BY,Z4⟩:=hy rfl
     have lX:w.heap.size+1<b12:=by omega
     replace K:=hid (K.out.trans q5.nil);replace HA:=hid (HA.out.kept q5.nil);replace HB:=hid (HB.out.kept q5.nil);have HX:=hid BX;have HY:=hid BY;replace Z3:=hid Z3;replace Z4:=hid Z4;clear hx hy BX BY q5 j1 hL hgn p46 p51 p12 p13 HL HH ZL ZH C1 C2;obtain ⟨-,a0,a1,a2,-⟩:=HX.out.facts;obtain ⟨-,x0,x1,x2,-⟩:=HY.out.facts;go_wp2_with fail;refine (CS.out _ _ _ Z3.out Z4.out).mono ?_;rintro ee w6 ⟨rfl,q⟩;simp only [];replace K:=hid (K.out.trans q);replace HA:=hid (HA.out.kept q);replace HB:=hid (HB.out.kept q);replace HX:=hid (HX.out.kept q);replace Z3:=hid (Z3.out.kept q);clear q a0 a1 a2 x0 x1 x2 HY Z4 CS
     cases hsm:K0 x.raw y.raw with
     | true =>
       rw [hsm,if_pos rfl] at HE;have ho:=HE.out;subst ho;clear HE;obtain ⟨-,a0,a1,a2,-⟩:=HX.out.facts;obtain ⟨-,x0,x1,x2,y0,y1,y2⟩:=HB.out.facts;go_wp2_with fail;rw [Exit.noGoto_ret];exact Ed (HB.out.laid _ _ _) rfl rfl rfl ⟨An K.out (by omega),_,rfl,Z3.out.dyW HB.out (Ah _) (Ag _ _ _) (Af _) _ _ _⟩
     | false =>
       rw [hsm,if_neg (by decide)] at HE;go_wp2_with fail;exact ⟨⟨f,wk+wk/2,congrArg (Value.int .i64) (by omega),by omega,by omega,HE.out,by omega,K.out,HA.out,HB.out⟩,by simp [intOf];omega⟩
theorem Am4:far.q=64:=by
 have h:pw 6=((2^6:Nat):Rat):=I7 6
 show (1:Rat)*pw 6=64
 rw [h,Rat.one_mul];rfl
theorem Ahp {e:Int}(h0:m≠0)(h:(m:Rat)*pw e≤64):(bl m:Int)+e≤7:=by
 by_cases hc:(bl m:Int)+e≤7
 ·exact hc
 ·exfalso;have hp:=Cr m h0;have h2:pw ((bl m-1:Nat):Int)≤(m:Rat):=by rw [I7];exact Rat.natCast_le_natCast.2 (Cz m h0)
  have h3:pw ((bl m-1:Nat):Int)*pw e≤(m:Rat)*pw e:=Rat.mul_le_mul_of_nonneg_right h2 (Df e);rw [←Es] at h3;have h4:pw 7≤pw (((bl m-1:Nat):Int)+e):=F7 (by omega);have h5:pw 7=128:=(I7 7).trans (by rfl);grind
theorem Oo {p:Int}(h:Dz d.raw p=0):-400≤d.e∧(d.m≠0→Bd (Db d)≤7):=by
 unfold Dz at h;split at h
 ·split at h
  ·rename_i h1 h2;split at h
   ·exact absurd h (by decide)
   ·rename_i h3;refine ⟨by have:d.raw.e=d.e:=rfl;omega,fun h0=>?_⟩;simp only [Bool.and_eq_true,decide_eq_true_eq,Dy.raw_dy] at h2;have a:=Je.1 h2.1;have b:=Nf.1 h2.2;rw [Qh] at b;rw [Am4] at a b;refine Ahp h0 ?_
    show (d.m:Rat)*pw d.e≤64
    unfold Dy.q sq at a b;cases hn:d.neg<;>simp only [hn] at a b<;>grind
  ·exact absurd h (by decide)
 ·exact absurd h (by decide)
theorem Rn (ok:d.Ok)(hz:d.m≠0)(h:-400≤d.e∧(d.m≠0→Bd (Db d)≤7))(h1:1≤wk)(h2:wk≤2000)(up:Bool):Gd wk up (He (Db d)) 400 1 one one=some (Ez wk up d):=by
 obtain ⟨a,b,c⟩:=Rz (d:=Db d) hz (Cq d.m 64 ok.len) h.1 (h.2 hz);obtain ⟨o,ho⟩:=Aaz (up:=up) h1 h2 a b c;unfold Ez;rw [ho];rfl
theorem Agk (p:Nat)(up:Bool)(d:Dy):(Ez p up d).1.Ok∧(Ez p up d).2.Ok:=by
 unfold Ez;cases h:Gd p up (He (Db d)) 400 1 one one with
 | none=>exact ⟨Hn,Hn⟩
 | some o=>exact Mv _ _ _ _ h Hn Hn
theorem Ak3 (d:Dy)(w:Nat):(bnE d w).1.Ok∧(bnE d w).2.Ok:=by
 have h:∀ up,(I6 w up d (Ez w up d)).Ok:=fun up=>Rr _ _ _ _ (Pk (Agk _ _ _))
 unfold bnE Mc;split
 ·exact ⟨(Jy _ _ _ _).1,(Jy _ _ _ _).1⟩
 ·exact ⟨h _,h _⟩
theorem Ac5 {up:Bool}(hv:DyR w v d.raw)(ok:d.Ok)(p1:1≤p)(p2:p≤300)(hT:Tab w) :
 Calls Tryz.prog 144 #[v,.int .i64 (p:Int),.bool up] w (RetE (F2 d p up).raw w):=by
 unfold F2;by_cases h0:Dz d.raw p=0
 ·rw [if_neg (by simpa using h0)];by_cases hz:d.m=0
  ·rw [if_pos hz];exact Aj7 hv ok hT h0 hz
  ·rw [if_neg hz];have hm:=Oo h0;exact Aj9 hv ok p1 p2 hT h0 hz (fun wk a b w1 k=>Aeo (hv.kept k) ok a b (hT.kept k) (Rn ok hz hm a b false) (Rn ok hz hm a b true) (by decide)) (Ak3 d)
 ·rw [if_pos h0];have h:=Aj8 (up:=up) hv (by have:=Ds ok;omega) hT h0;have e:(bad (Dz d.raw p):Outc Dy).raw=⟨rz,Dz d.raw p⟩:=by show Outc.mk dz.raw _=_;rw [Fg];rfl
  rw [e];exact h
def sqn (x:Rat):Nat→Rat
 | 0=>x
 | k+1=>sqn (x*x) k
theorem I1:∀ (k:Nat) {x y:Rat},0≤x→x≤y→sqn x k≤sqn y k
 | 0,_,_,_,h=>h
 | k + 1, x, y, h0, h => by
   refine I1 k (Rat.mul_nonneg h0 h0) ?_;have h1:=Rat.mul_le_mul_of_nonneg_left h h0;have h2:=Rat.mul_le_mul_of_nonneg_right h (Rat.le_trans h0 h);exact Rat.le_trans h1 h2
theorem Acw:∀ k,sqn 1 k=1
 | 0=>rfl
 | k + 1 => by
   show sqn (1*1) k=1
   rw [Rat.mul_one];exact Acw k
theorem Amd {x:Rat}(k:Nat)(h:1≤x):1≤sqn x k:=by
 have h2:=I1 k (show (0:Rat)≤1 by decide) h;rwa [Acw] at h2
theorem Ain {x:Rat}(h:0≤x)(n:Nat):eS x n≤eS (x*pw (-1)) n*eS (x*pw (-1)) n:=by
 have e:=Yp;have h1:0≤x*pw (-1):=Rat.mul_nonneg h (Df _);have h2:=Alg h1 h1 n;have h3:x*pw (-1)+x*pw (-1)=x:=by rw [e];grind
 rwa [h3] at h2
theorem Um {x:Rat}(h:0≤x)(n k:Nat):∀ i:Nat,sqn (eS x n) k≤sqn (eS (x*pw (-(i:Int))) n) (k+i)
 | 0 => by
   have e:x*pw (-((0:Nat):Int))=x:=by
    rw [show (-((0:Nat):Int))=0 from rfl,Gt,Rat.mul_one]
   rw [e];exact Rat.le_refl
 | i + 1 => by
   have h1:=Um h n k i;have h0:0≤x*pw (-(i:Int)):=Rat.mul_nonneg h (Df _);have h2:=I1 (k+i) (P9 h0 n) (Ain h0 n);have e:x*pw (-(i:Int))*pw (-1)=x*pw (-((i+1:Nat):Int)):=by
    rw [Rat.mul_assoc,←Es]
    congr 2
    omega
   rw [e] at h2;exact Rat.le_trans h1 h2
theorem Ak4 (h0:d.m≠0)(hl:bl d.m≤4096)(h1:-400≤d.e)(h2:Bd d≤7):(He d).q=d.q*pw (-(Cs d:Int))∧(He d).neg=d.neg∧Bd (He d)=Bd d-(Cs d:Int):=by
 have hp:=Cr _ h0;have h2':=h2;unfold Bd at h2';have hK:(Cs d:Int)=max (Bd d+8) 0:=by unfold Cs;omega
 have hz:=M8 _ _ h0 (Ba d.m);have ek:(Gx d (-(Cs d:Int)))=Bu d.neg d.m (d.e+-(Cs d:Int)):=by
  unfold Gx;rw [if_neg h0,if_neg (by omega)]
 obtain ⟨a,b⟩:=Mn (neg:=d.neg) (n:=d.m) (e:=d.e+-(Cs d:Int)) h0 (by omega) (by omega) (by omega);obtain ⟨c,f,g⟩:=Gh (neg:=d.neg) (n:=d.m) (e:=d.e+-(Cs d:Int)) h0 (by omega) (by omega) (by omega);refine ⟨Ag5 (by rw [ek];exact a),?_,?_⟩
 ·unfold He;rw [ek];exact b
 ·unfold He;rw [ek,f];unfold Bd;omega
def eP (a:Dy) (n:Nat):Rat:=sqn (eS (He a).q n) (Cs a)
structure ExN (a:Dy):Prop where
 m:a.m≠0
 neg:a.neg=false
 len:bl a.m≤4096
 e:-400≤a.e
 top:Bd a≤7
theorem ExN.r {a:Dy}(h:ExN a):(He a).q=a.q*pw (-(Cs a:Int))∧(He a).neg=false∧Bd (He a)=Bd a-(Cs a:Int)∧(He a).m≠0∧-500≤(He a).e∧Bd (He a)≤-8:=by
 obtain ⟨b1,b2,b3⟩:=Ak4 h.m h.len h.e h.top;obtain ⟨c1,c2,c3⟩:=Rz h.m h.len h.e h.top;exact ⟨b1,b2.trans h.neg,b3,c1,c2,c3⟩
theorem ExN.pos {a:Dy}(h:ExN a):0<a.q:=Yr h.m h.neg
theorem ExN.rpos {a:Dy}(h:ExN a):0≤(He a).q:=by
 rw [h.r.1];exact Rat.mul_nonneg (Rat.le_of_lt h.pos) (Df _)
theorem Akl {a:Dy}(h:ExN a)(hn:1≤n):1≤eP a n:=Amd _ (Alh h.rpos hn)
theorem Ab1 {a b:Dy}(ha:ExN a)(hb:ExN b)(h:a.q≤b.q)(n:Nat):eP a n≤eP b n:=by
 have ht:Bd a≤Bd b:=by
  have h1:=(Kc ha.m ha.neg).1;have h2:=(Kc hb.m hb.neg).2;have h3:pw (Bd a-1)<pw (Bd b):=by grind
  have:=Hx h3;omega
 have hk:Cs a≤Cs b:=by unfold Cs;omega
 unfold eP;obtain ⟨i,hi⟩:∃ i:Nat,Cs b=Cs a+i:=⟨Cs b-Cs a,by omega⟩;rw [ha.r.1,hb.r.1,hi];have h1:a.q*pw (-(Cs a:Int))≤b.q*pw (-(Cs a:Int)):=Rat.mul_le_mul_of_nonneg_right h (Df _);have h0:0≤a.q*pw (-(Cs a:Int)):=Rat.mul_nonneg (Rat.le_of_lt ha.pos) (Df _);have h2:=I1 (Cs a) (P9 h0 n) (Aio h0 h1 n);have h3:=Um (Rat.le_trans h0 h1) n (Cs a) i;have e:b.q*pw (-(Cs a:Int))*pw (-(i:Int))=b.q*pw (-((Cs a+i:Nat):Int)):=by
  rw [Rat.mul_assoc,←Es]
  congr 2
  omega
 rw [e] at h3;exact Rat.le_trans h2 h3
def EL (d:Dy) (y:Rat):Prop:=if d.m=0 then y≤1 else if d.neg then ∃ c,1≤c∧(∀ n,eP (Db d) n≤c)∧y*c≤1 else ∃ n,1≤n∧y≤eP (Db d) n
def EU (d:Dy) (y:Rat):Prop:=if d.m=0 then 1≤y else if d.neg then 0<y∧∃ n,1≤y*eP (Db d) n else ∀ n,eP (Db d) n≤y
theorem Vo :d.q=if d.neg then -(Db d).q else (Db d).q:=by
 unfold Dy.q sq Db;cases d.neg
 ·simp
 ·simp [Rat.neg_mul]
def ExM (d:Dy):Prop:=d.m≠0→ExN (Db d)
theorem Aeq {y y':Rat}(hd:ExM d)(hd':ExM d')(h:d.q≤d'.q)(hl:EL d y)(hu:EU d' y'):y≤y':=by
 have q0:∀ {d:Dy},d.m=0→d.q=0:=fun h=>Oy h
 unfold EL at hl;unfold EU at hu;by_cases h1:d.m=0
 ·rw [if_pos h1] at hl;by_cases h2:d'.m=0
  ·rw [if_pos h2] at hu;exact Rat.le_trans hl hu
  ·rw [if_neg h2] at hu;have n2:=hd' h2;cases hn:d'.neg with
   | true =>
     exfalso;have e:=Vo (d:=d');rw [hn,if_pos rfl] at e;have:=n2.pos;rw [q0 h1,e] at h;grind
   | false =>
     rw [hn,if_neg (by decide)] at hu;exact Rat.le_trans hl (Rat.le_trans (Akl n2 (Nat.le_refl 1)) (hu 1))
 ·rw [if_neg h1] at hl;have n1:=hd h1;have e1:=Vo     (d:=d);have p1:=n1.pos;cases hn1:d.neg with
  | true =>
    rw [hn1,if_pos rfl] at hl e1;obtain ⟨c,c1,c2,c3⟩:=hl;have hy:y≤1:=by
     rcases Rat.le_total (a:=y) (b:=0) with hy0 | hy0
     ·exact Rat.le_trans hy0 (by decide)
     ·have:=Rat.mul_le_mul_of_nonneg_left c1 hy0;rw [Rat.mul_one] at this;exact Rat.le_trans this c3
    by_cases h2:d'.m=0
    ·rw [if_pos h2] at hu;exact Rat.le_trans hy hu
    ·rw [if_neg h2] at hu;have n2:=hd' h2;cases hn:d'.neg with
     | true =>
       rw [hn,if_pos rfl] at hu;obtain ⟨u1,n,u2⟩:=hu;have e2:=Vo (d:=d');rw [hn,if_pos rfl] at e2;have h3:(Db d').q≤(Db d).q:=by
        rw [e1,e2] at h;grind
       have h4:=Rat.le_trans (Ab1 n2 n1 h3 n) (c2 n);have h5:=Rat.mul_le_mul_of_nonneg_left h4 (Rat.le_of_lt u1);have h6:y*c≤y'*c:=Rat.le_trans c3 (Rat.le_trans u2 h5);have h7:0<c:=by grind
       have h8:0<c⁻¹:=Rat.inv_pos.2 h7;have h9:c*c⁻¹=1:=Rat.mul_inv_cancel _ (by grind);have h10:=Rat.mul_le_mul_of_nonneg_right h6 (Rat.le_of_lt h8);rwa [Rat.mul_assoc,Rat.mul_assoc,h9,Rat.mul_one,Rat.mul_one] at h10
     | false =>
       rw [hn,if_neg (by decide)] at hu;exact Rat.le_trans hy (Rat.le_trans (Akl n2 (Nat.le_refl 1)) (hu 1))
  | false =>
    rw [hn1,if_neg (by decide)] at hl e1;obtain ⟨n,hn0,hl⟩:=hl;by_cases h2:d'.m=0
    ·exfalso;rw [q0 h2,e1] at h;grind
    ·rw [if_neg h2] at hu;have n2:=hd' h2;have e2:=Vo (d:=d');have p2:=n2.pos;cases hn:d'.neg with
     | true =>
       exfalso;rw [hn,if_pos rfl] at e2;rw [e1,e2] at h;grind
     | false =>
       rw [hn,if_neg (by decide)] at hu e2;rw [e1,e2] at h;exact Rat.le_trans hl (Rat.le_trans (Ab1 n1 n2 h n) (hu n))
def ExpS (d:Dy) (p:Nat) (up:Bool) (z:Dy):Prop:=∃ lo hi,EL d lo∧EU d hi∧Jl up p lo z.q∧Jl up p hi z.q
theorem ExpS.order {z:Dy}(hd:ExM d)(hd':ExM d')(h:d.q≤d'.q)(a:ExpS d p false z)(b:ExpS d' p' true z'):z.q≤z'.q:=by
 obtain ⟨lo,hi,a1,a2,a3,a4⟩:=a;obtain ⟨lo',hi',b1,b2,b3,b4⟩:=b;exact Rat.le_trans (IsDown.le a3) (Rat.le_trans (Aeq hd hd' h a1 b2) (IsUp.le b4))
theorem ExpS.down {z:Dy}(hd:ExM d)(hd':ExM d')(h:d.q≤d'.q)(hp:p≤p')(a:ExpS d p false z)(b:ExpS d' p' false z'):z.q≤z'.q:=by
 obtain ⟨lo,hi,a1,a2,a3,a4⟩:=a;obtain ⟨lo',hi',b1,b2,b3,b4⟩:=b;exact IsDown.mono a3 b4 hp (Aeq hd hd' h a1 b2)
theorem ExpS.up {z:Dy}(hd:ExM d)(hd':ExM d')(h:d.q≤d'.q)(hp:p'≤p)(a:ExpS d p true z)(b:ExpS d' p' true z'):z.q≤z'.q:=by
 obtain ⟨lo,hi,a1,a2,a3,a4⟩:=a;obtain ⟨lo',hi',b1,b2,b3,b4⟩:=b;exact IsUp.mono b4 a3 hp (Aeq hd hd' h a1 b2)
structure Nm (p:Nat) (B:Int) (x:Dy):Prop where
 m:x.m≠0
 neg:x.neg=false
 b:bl x.m≤p
 lo:-B≤Bd x
 hi:Bd x≤B
theorem Nm.pos (h:Nm p B x):0<x.q:=Yr h.m h.neg
theorem Tb {up:Bool}(p1:1≤p)(p2:p≤2000)(h0:d.m≠0)(hn:d.neg=false)(h1:-1000000≤d.e)(h2:Bd d≤B)(h3:-B≤Bd d)(hB:B≤1000000) :
 Nm p (B+1) (Ia p up d)∧Jl up p d.q (Ia p up d).q:=by
 obtain ⟨a,b,c,e⟩:=Ta (up:=up) p1 p2 h0 h1 (by omega);obtain ⟨t1,t2⟩:=Kc h0 hn;have hb:=b.trans hn;have u1:=Mk a (Ii p1 (Bd d-1)) t1;have u2:=Ll a (Ii p1 (Bd d)) (Rat.le_of_lt t2);have:=Wy c hb u1;have:=Abh c hb u2;exact ⟨⟨c,hb,e,by omega,by omega⟩,a⟩
theorem Alw (p2:p≤2000)(h:Nm p B x)(hB:B≤200000):(Bt x x).v.m≠0∧(Bt x x).v.neg=false∧(Bt x x).v.q=x.q*x.q∧Bd (Bt x x).v≤2*Bd x∧2*Bd x-1≤Bd (Bt x x).v∧-900000≤(Bt x x).v.e:=by
 have hlo:=h.lo;have hhi:=h.hi;have hb:=h.b;have hp:=Cr _ h.m;unfold Bd at hlo hhi;have hz:=Nat.mul_ne_zero h.m h.m;have h1:=G5 (Nat.le_refl (bl x.m)) (Nat.le_refl (bl x.m));have h2:=Qf h.m h.m;have h3:=M8 _ _ hz (Ba _);obtain ⟨a,b⟩:=Mn (neg:=x.neg != x.neg) (e:=x.e+x.e) hz (by omega) (by omega) (by omega);obtain ⟨c,f,g⟩:=Gh (neg:=x.neg != x.neg) (e:=x.e+x.e) hz (by omega) (by omega) (by omega);have f':Bd (Bt x x).v=(bl (x.m*x.m):Int)+(x.e+x.e):=f;have g':bl (Bt x x).v.m=bl (x.m*x.m)-tz (x.m*x.m):=g;refine ⟨c,?_,Kj a,?_,?_,?_⟩
 ·refine Eq.trans b ?_;cases x.neg<;>rfl
 ·rw [f'];unfold Bd;omega
 ·rw [f'];unfold Bd;omega
 ·unfold Bd at f';omega
theorem Aha {up:Bool}(p1:1≤p)(p2:p≤2000)(h:Nm p B x)(hB:B≤200000):Nm p (2*B+2) (Tn p up x)∧Jl up p (x.q*x.q) (Tn p up x).q:=by
 obtain ⟨a,b,c,d,e,f⟩:=Alw p2 h hB;have hlo:=h.lo;have hhi:=h.hi;obtain ⟨g1,g2⟩:=Tb (B:=2*B+1) (up:=up) p1 p2 a b (by omega) (by omega) (by omega) (by omega);rw [c] at g2;exact ⟨⟨g1.m,g1.neg,g1.b,by have:=g1.lo;show _≤Bd (Ia p up (Bt x x).v);omega,by have:=g1.hi;show Bd (Ia p up (Bt x x).v)≤_;omega⟩,g2⟩
theorem Ww {p:Nat}{up:Bool}(p1:1≤p)(p2:p≤2000):∀ (k:Nat) (x:Dy) (B:Int),k≤15→B+2≤2^(17-k)→Nm p B x→1≤x.q →
 Nm p 200000 (Mg p up k x)∧1≤(Mg p up k x).q∧(if up then sqn x.q k≤(Mg p up k x).q else (Mg p up k x).q≤sqn x.q k)
 | 0, x, B, _, hB, h, h1 => by
   have hB':B+2≤131072:=by simpa using hB
   refine ⟨⟨h.m,h.neg,h.b,?_,?_⟩,h1,?_⟩
   ·have:=h.lo
    show _≤Bd x
    omega
   ·have:=h.hi
    show Bd x≤_
    omega
   ·cases up
    ·exact Rat.le_refl
    ·exact Rat.le_refl
 | k + 1, x, B, hk, hB, h, h1 => by
   have e:(17-k:Nat)=17-(k+1)+1:=by omega
   have hB2:(2*B+2)+2≤2^(17-k):=by
    rw [e,Int.pow_succ];omega
   have hBm:B≤200000:=by
    have h2:(2:Int)^(17-(k+1))≤2^17:=by
     have:=Nat.pow_le_pow_right (show 0<2 by decide) (show 17-(k+1)≤17 by omega)
     exact_mod_cast this
    have h3:(2:Int)^17=131072:=by decide
    omega
   obtain ⟨g1,g2⟩:=Aha (up:=up) p1 p2 h hBm;have hx:1≤x.q*x.q:=by
    have:=Rat.mul_le_mul_of_nonneg_left h1 (Rat.le_trans (show (0:Rat)≤1 by decide) h1);grind
   have h1':=Mk g2 (Gi p1) hx;obtain ⟨i1,i2,i3⟩:=Ww p1 p2 k (Tn p up x) (2*B+2) (by omega) hB2 g1 h1';refine ⟨i1,i2,?_⟩;cases up with
   | true =>
     have i3':sqn (Tn p true x).q k≤(Mg p true k (Tn p true x)).q:=i3
     show sqn (x.q*x.q) k≤(Mg p true k (Tn p true x)).q
     exact Rat.le_trans (I1 k (Rat.le_trans (show (0:Rat)≤1 by decide) hx) (IsUp.le g2)) i3'
   | false =>
     have i3':(Mg p false k (Tn p false x)).q≤sqn (Tn p false x).q k:=i3
     show (Mg p false k (Tn p false x)).q≤sqn (x.q*x.q) k
     exact Rat.le_trans i3' (I1 k (Rat.le_trans (show (0:Rat)≤1 by decide) h1') (IsDown.le g2))
theorem Ak6 (p1:17≤p)(p2:p≤2000)(h:ExN (Db d))(hn:Gd p false (He (Db d)) 400 1 one one=some (Ez p false d)) :
 (I6 p false d (Ez p false d)=dz)∨(Nm p 200000 (I6 p false d (Ez p false d))∧1≤(I6 p false d (Ez p false d)).q∧∃ n,1≤n∧(I6 p false d (Ez p false d)).q≤eP (Db d) n):=by
 obtain ⟨r1,r2,r3,r4,r5,r6⟩:=h.r;have hg:Rt p (He (Db d)) (Jb p false (Ez p false d)):=Wl (up:=false) p1 p2 r4 r2 r5 r6 400 1 one one _ (NI.start (by omega)) (by decide) (by decide) hn;obtain ⟨g,n,hn1,hn2⟩:=hg;unfold I6;have hK:Cs (Db d)≤15:=by have:=h.top;unfold Cs;omega
 generalize Jb p false (Ez p false d)=x at *;rcases g with ⟨g1,g2⟩ | ⟨g1,g2,g3,g4,g5⟩
 ·left
  have hk0:Cs (Db d)=0:=by
   have hk:(Cs (Db d):Int)=max (Bd (Db d)+8) 0:=by unfold Cs;omega
   omega
  rw [hk0,g1];rfl
 ·right
  have ht:=Ac0 g1 g2 g4 g5;have hB:(2:Int)+2≤2^(17-Cs (Db d)):=by
   have:=Nat.pow_le_pow_right (show 0<2 by decide) (show 2≤17-Cs (Db d) by omega);have h2:((2^2:Nat):Int)≤((2^(17-Cs (Db d)):Nat):Int):=by exact_mod_cast this
   have h3:((2^(17-Cs (Db d)):Nat):Int)=(2:Int)^(17-Cs (Db d)):=by norm_cast
   omega
  obtain ⟨i1,i2,i3⟩:=Ww (up:=false) (by omega) p2 (Cs (Db d)) x 2 hK hB ⟨g1,g2,g3,by omega,by omega⟩ g4;refine ⟨i1,i2,n,hn1,?_⟩;have i3':(Mg p false (Cs (Db d)) x).q≤sqn x.q (Cs (Db d)):=i3;exact Rat.le_trans i3' (I1 _ (Rat.le_trans (show (0:Rat)≤1 by decide) g4) hn2)
theorem Ak5 (p1:17≤p)(p2:p≤2000)(h:ExN (Db d))(hn:Gd p true (He (Db d)) 400 1 one one=some (Ez p true d)) :
 Nm p 200000 (I6 p true d (Ez p true d))∧((I6 p true d (Ez p true d)).q≤1/2∨(1≤(I6 p true d (Ez p true d)).q∧∀ n,eP (Db d) n≤(I6 p true d (Ez p true d)).q)):=by
 obtain ⟨r1,r2,r3,r4,r5,r6⟩:=h.r;have hg:Rs p (He (Db d)) (Jb p true (Ez p true d)):=Wl (up:=true) p1 p2 r4 r2 r5 r6 400 1 one one _ (NI.start (by omega)) (by decide) (by decide) hn;obtain ⟨g1,g2,g3,g⟩:=hg;unfold I6;have hK:Cs (Db d)≤15:=by have:=h.top;unfold Cs;omega
 generalize Jb p true (Ez p true d)=x at *;rcases g with ⟨g4,g5,g6⟩ | ⟨g4,g5,g6⟩
 ·have hk0:Cs (Db d)=0:=by
   have hk:(Cs (Db d):Int)=max (Bd (Db d)+8) 0:=by unfold Cs;omega
   omega
  rw [hk0];have ht:Bd x≤0:=by
   have e:=Yp;have:=Abh (c:=-1) g1 g2 (by rw [e];exact g5);omega
  refine ⟨⟨g1,g2,g3,?_,?_⟩,.inl g5⟩
  ·show _≤Bd x
   omega
  ·show Bd x≤_
   omega
 ·have ht:=Ac0 g1 g2 g4 g5;have hB:(2:Int)+2≤2^(17-Cs (Db d)):=by
   have:=Nat.pow_le_pow_right (show 0<2 by decide) (show 2≤17-Cs (Db d) by omega);have h2:((2^2:Nat):Int)≤((2^(17-Cs (Db d)):Nat):Int):=by exact_mod_cast this
   have h3:((2^(17-Cs (Db d)):Nat):Int)=(2:Int)^(17-Cs (Db d)):=by norm_cast
   omega
  obtain ⟨i1,i2,i3⟩:=Ww (up:=true) (by omega) p2 (Cs (Db d)) x 2 hK hB ⟨g1,g2,g3,by omega,by omega⟩ g4;refine ⟨i1,.inr ⟨i2,fun n=>?_⟩⟩;have i3':sqn x.q (Cs (Db d))≤(Mg p true (Cs (Db d)) x).q:=i3;exact Rat.le_trans (I1 _ (P9 h.rpos n) (g6 n)) i3'
theorem Wc {a b:Rat}(h0:0<a)(h:a≤b):1/b≤1/a:=by
 have hb:0<b:=by grind
 have ia:0<a⁻¹:=Rat.inv_pos.2 h0;have ib:0<b⁻¹:=Rat.inv_pos.2 hb;have ea:a*a⁻¹=1:=Rat.mul_inv_cancel _ (by grind);have eb:b*b⁻¹=1:=Rat.mul_inv_cancel _ (by grind);have h1:=Rat.mul_le_mul_of_nonneg_right h (Rat.le_of_lt (Rat.mul_pos ia ib));rw [Rat.div_def,Rat.div_def,Rat.one_mul,Rat.one_mul];have e1:a*(a⁻¹*b⁻¹)=b⁻¹:=by rw [←Rat.mul_assoc,ea,Rat.one_mul]
 have e2:b*(a⁻¹*b⁻¹)=a⁻¹:=by rw [Rat.mul_comm a⁻¹ b⁻¹,←Rat.mul_assoc,eb,Rat.one_mul]
 rwa [e1,e2] at h1
theorem Alm (c:Int):1/pw c=pw (-c):=by
 have h:=Oq c;have h0:=Hy c;have e:pw c*(pw c)⁻¹=1:=Rat.mul_inv_cancel _ (by grind);rw [Rat.div_def,Rat.one_mul];have h1:pw c*(pw c)⁻¹=pw c*pw (-c):=by rw [e,h]
 grind
theorem Akq {up:Bool}{b:Dy}(p1:1≤p)(p2:p≤2000)(h:Nm p 200000 b) :
 Nm p 200010 (Cj one b p up).v∧Jl up p (1/b.q) (Cj one b p up).v.q∧-300000≤(Cj one b p up).v.e:=by
 have b1:=h.m;have hlo:=h.lo;have hhi:=h.hi;have hb:=h.b;have hbb:=Cr _ b1;have o1:one.m≠0:=by decide
 have ob:bl one.m=1:=by decide
 have oe:one.e=0:=rfl;unfold Bd at hlo hhi;have ez:Cj one b p up=Bg one b p up:=by
  unfold Cj;rw [if_neg b1]
 rw [ez];have hK:Bv one b p=p+1+bl b.m-bl one.m:=rfl;have hq:=Ro one.m b.m p o1 b1 (Bv one b p) (by omega);have hk:bl (2^Bv one b p)≤Bv one b p+1:=Fl _ _ (Nat.pow_lt_pow_right (by decide) (by omega));have hm2:=G5 (Nat.le_refl (bl one.m)) hk;have hd:=Vq (x:=one.m*2^Bv one b p) b1;have hz:one.m*2^Bv one b p/b.m≠0:=by intro h;rw [h,Gp] at hq;omega
 obtain ⟨x,y,z⟩:=Aac (neg:=one.neg != b.neg) (rest:=decide (¬one.m*2^Bv one b p%b.m=0)) (up:=up) (e:=one.e-b.e-Bv one b p) hz p1 p2 (by omega) (by omega);obtain ⟨x',y',z'⟩:=Sa (neg:=one.neg != b.neg) (rest:=decide (¬one.m*2^Bv one b p%b.m=0)) (up:=up) (e:=one.e-b.e-Bv one b p) hz p1 p2 (by omega) (by omega);have hneg:(Bg one b p up).v.neg=false:=by
  refine Eq.trans y ?_;rw [h.neg];rfl
 have hdir:Jl up p (1/b.q) (Bg one b p up).v.q:=by
  have:=Nq (up:=up) p1 b1 x;rwa [Sx] at this
 have hm':(Bg one b p up).v.m≠0:=x';have hb':bl (Bg one b p up).v.m≤p:=y';obtain ⟨t1,t2⟩:=Kc b1 h.neg;have u1:=Wc (Hy _) t1;have u2:=Wc h.pos (Rat.le_of_lt t2);rw [Alm] at u1 u2;have v1:=Wy hm' hneg (Mk hdir (Ii p1 _) u2);have v2:=Abh hm' hneg (Ll hdir (Ii p1 _) u1);have hlo':=h.lo;have hhi':=h.hi;have e3:Bd (Bg one b p up).v=(bl (Bg one b p up).v.m:Int)+(Bg one b p up).v.e:=rfl;exact ⟨⟨hm',hneg,hb',by omega,by omega⟩,hdir,by omega⟩
theorem Ag2 {a b:Dy}(h:K0 a.raw b.raw=true):a=b:=by
 unfold K0 Dy.raw at h;simp only [Bool.and_eq_true,beq_iff_eq] at h;obtain ⟨⟨h1,h2⟩,h3⟩:=h;have h4:a.m=b.m:=by
  have:=congrArg val h3;rwa [Bn,Bn] at this
 cases a;cases b;simp only at h1 h2 h4;subst h1 h2 h4;rfl
theorem Nm.e (h:Nm p B x):-B-p≤x.e:=by
 have h1:=h.lo;have h2:=h.b;unfold Bd at h1;omega
theorem Abc {w:Nat}{up:Bool}(ok:d.Ok)(p1:1≤p)(p2:p≤300)(w1:17≤w)(w2:w≤2000)(hz:d.m≠0)(hd:-400≤d.e∧(d.m≠0→Bd (Db d)≤7))(hs:exX d p w up=exY d p w up):ExpS d p up (exX d p w up):=by
 have hN:ExN (Db d):=⟨hz,rfl,Cq d.m 64 ok.len,hd.1,hd.2 hz⟩;have lo:=Ak6 w1 w2 hN (Rn ok hz hd (by omega) w2 false);have hi:=Ak5 w1 w2 hN (Rn ok hz hd (by omega) w2 true);have eX:exX d p w up=Ia p up (bnE d w).1:=rfl;have eY:exY d p w up=Ia p up (bnE d w).2:=rfl;have eB:bnE d w=Mc w d (I6 w false d (Ez w false d)) (I6 w true d (Ez w true d)):=rfl;generalize I6 w false d (Ez w false d)=L at *;generalize I6 w true d (Ez w true d)=H at *;obtain ⟨hH,hi⟩:=hi;have two:pw 1=2:=Qk;have half:pw (-1)=1/2:=Yp;cases hn:d.neg with
 | false =>
   have eb:bnE d w=(L,H):=by
    rw [eB];unfold Mc;rw [hn];rfl
   rw [eb] at eX eY;have eX:exX d p w up=Ia p up L:=eX;have eY:exY d p w up=Ia p up H:=eY;obtain ⟨g1,g2⟩:=Tb (B:=200000) (up:=up) p1 (by omega) hH.m hH.neg (by have:=hH.e;omega) hH.hi hH.lo (by decide);rw [←eY,←hs] at g1 g2;rcases lo with lo | ⟨lo1,lo2,lo3⟩
   ·exfalso;rw [lo,Qm] at eX;rw [eX] at g1;exact g1.m rfl
   ·obtain ⟨f1,f2⟩:=Tb (B:=200000) (up:=up) p1 (by omega) lo1.m lo1.neg (by have:=lo1.e;omega) lo1.hi lo1.lo (by decide);rw [←eX] at f1 f2;rcases hi with hi | ⟨hi1,hi2⟩
    ·exfalso;have a:=Mk f2 (Gi p1) lo2;have b:=Ll g2 (Ii p1 (-1)) (by rw [half];exact hi);rw [half] at b;grind
    ·refine ⟨L.q,H.q,?_,?_,f2,g2⟩
     ·unfold EL;rw [if_neg hz,hn,if_neg (by decide)];exact lo3
     ·unfold EU;rw [if_neg hz,hn,if_neg (by decide)];exact hi2
 | true =>
   have eb:bnE d w=((Cj one H w false).v,(Cj one L w true).v):=by
    rw [eB];unfold Mc;rw [hn];rfl
   rw [eb] at eX eY;have eX:exX d p w up=Ia p up (Cj one H w false).v:=eX;have eY:exY d p w up=Ia p up (Cj one L w true).v:=eY;obtain ⟨qH,dH,tH⟩:=Akq (up:=false) (by omega) w2 hH;obtain ⟨f1,f2⟩:=Tb (B:=200010) (up:=up) p1 (by omega) qH.m qH.neg (by omega) qH.hi qH.lo (by decide);rw [←eX] at f1 f2;rcases lo with lo | ⟨lo1,lo2,n,lo3,lo4⟩
   ·exfalso;have e:(Cj one L w true).v=dz:=by
     rw [lo];rfl
    rw [e,Qm] at eY;rw [hs,eY] at f1;exact f1.m rfl
   ·obtain ⟨qL,dL,tL⟩:=Akq (up:=true) (by omega) w2 lo1;obtain ⟨g1,g2⟩:=Tb (B:=200010) (up:=up) p1 (by omega) qL.m qL.neg (by omega) qL.hi qL.lo (by decide);rw [←eY,←hs] at g1 g2;have L0:=lo1.pos;have H0:=hH.pos;have iL:L.q*(L.q)⁻¹=1:=Rat.mul_inv_cancel _ (by grind);have iH:H.q*(H.q)⁻¹=1:=Rat.mul_inv_cancel _ (by grind);rcases hi with hi | ⟨hi1,hi2⟩
    ·exfalso;have a:pw 1≤1/H.q:=by
      have:=Wc H0 hi;rw [two];have e:(1:Rat)/(1/2)=2:=by decide +kernel
      rwa [e] at this
     have a1:=Mk dH (Ii (by omega) 1) a;have a2:=Mk f2 (Ii p1 1) a1;have b:1/L.q≤1:=by
      have:=Wc (show (0:Rat)<1 by decide) lo2;have e:(1:Rat)/1=1:=by decide +kernel
      rwa [e] at this
     have b1:=Ll dL (Gi (by omega)) b;have b2:=Ll g2 (Gi p1) b1;rw [two] at a2;grind
    ·refine ⟨(Cj one H w false).v.q,(Cj one L w true).v.q,?_,?_,f2,g2⟩
     ·unfold EL;rw [if_neg hz,hn,if_pos rfl];refine ⟨H.q,hi1,hi2,?_⟩;have:=Rat.mul_le_mul_of_nonneg_right (IsDown.le dH) (Rat.le_of_lt H0);rw [Rat.div_def,Rat.one_mul,Rat.mul_comm (H.q)⁻¹,iH] at this;exact this
     ·unfold EU;rw [if_neg hz,hn,if_pos rfl];refine ⟨qL.pos,n,?_⟩;have h1:=Rat.mul_le_mul_of_nonneg_right (IsUp.le dL) (Rat.le_of_lt L0);rw [Rat.div_def,Rat.one_mul,Rat.mul_comm (L.q)⁻¹,iL] at h1;exact Rat.le_trans h1 (Rat.mul_le_mul_of_nonneg_left lo4 (Rat.le_of_lt qL.pos))
theorem Un {d:Dy}{p:Nat}{up:Bool}(ok:d.Ok)(p1:1≤p)(p2:p≤300)(hz:d.m≠0)(hd:-400≤d.e∧(d.m≠0→Bd (Db d)≤7)):∀ (f w:Nat),17≤w→(Oi d p up f w).k=0→ExpS d p up (Oi d p up f w).v
 | 0, _, _, h => by
   rw [Oi] at h;exact absurd h (by decide)
 | f + 1, w, hw, h => by
   rw [Oi] at h ⊢;split at h
   ·exact absurd h (by decide)
   ·rename_i h1;rw [if_neg h1];split at h
    ·rename_i h2;rw [if_pos h2];exact Abc ok p1 p2 hw (by omega) hz hd (Ag2 h2)
    ·rename_i h2;rw [if_neg h2];exact Un ok p1 p2 hz hd f _ (by omega) h
theorem Add {up:Bool}(p1:1≤p)(hz:d.m=0):ExpS d p up one:=by
 refine ⟨1,1,?_,?_,?_,?_⟩
 ·unfold EL;rw [if_pos hz];exact Rat.le_refl
 ·unfold EU;rw [if_pos hz];exact Rat.le_refl
 ·rw [Sx];cases up
  ·exact IsDown.of_fits (Gi p1)
  ·exact IsUp.of_fits (Gi p1)
 ·rw [Sx];cases up
  ·exact IsDown.of_fits (Gi p1)
  ·exact IsUp.of_fits (Gi p1)
theorem Alt {r:Raw}{p:Int}(h:Dz r p=0):Ew r=true∧1≤p∧p≤300:=by
 unfold Dz at h;split at h
 ·rename_i h1;simp only [Bool.and_eq_true,Bool.not_eq_true',decide_eq_false_iff_not] at h1;exact ⟨h1.1.1,by omega,by omega⟩
 ·exact absurd h (by decide)
theorem Ab6 {p:Int}(ok:d.Ok)(h:Dz d.raw p=0):ExM d:=fun hz=>by
 have hd:=Oo h;exact ⟨hz,rfl,Cq d.m 64 ok.len,hd.1,hd.2 hz⟩
theorem Ji {up:Bool}(ok:d.Ok)(h:(F2 d p up).k=0):ExM d∧ExpS d p up (F2 d p up).v∧Dz d.raw p=0∧1≤p∧p≤300:=by
 unfold F2 at h ⊢;split at h
 ·rename_i h0;exact absurd h h0
 ·rename_i h0;have h0':Dz d.raw p=0:=by omega
  obtain ⟨-,p1,p2⟩:=Alt h0';rw [if_neg h0];split at h
  ·rename_i hz;rw [if_pos hz];exact ⟨Ab6 ok h0',Add (by omega) hz,h0',by omega,by omega⟩
  ·rename_i hz;rw [if_neg hz];exact ⟨Ab6 ok h0',Un ok (by omega) (by omega) hz (Oo h0') _ _ (by omega) h,h0',by omega,by omega⟩
def ovE (a b:Int):Int:=if a=1∨b=1 then 1 else if a=4∨b=4 then 4 else if a=2∨b=2 then 2 else 0
def ovI (a:Iv) (p:Nat):Outc Iv :=
 if ovE (Dz a.lo.raw p) (Dz a.hi.raw p)≠0 then ⟨iz,ovE (Dz a.lo.raw p) (Dz a.hi.raw p)⟩
 else if (F2 a.lo p false).k≠0∨(F2 a.hi p true).k≠0 then ⟨iz,max (F2 a.lo p false).k (F2 a.hi p true).k⟩
 else ⟨⟨(F2 a.lo p false).v,(F2 a.hi p true).v⟩,0⟩
theorem Ht (r:Raw)(p:Int):Dz r p=0∨Dz r p=1∨Dz r p=2∨Dz r p=4:=by
 unfold Dz;split
 ·split
  ·split<;>simp
  ·simp
 ·simp
theorem Yk {a b:Int}(ha:a=0∨a=1∨a=2∨a=4)(hb:b=0∨b=1∨b=2∨b=4):ovE a b=0↔a=0∧b=0:=by
 unfold ovE;rcases ha with rfl | rfl | rfl | rfl<;>rcases hb with rfl | rfl | rfl | rfl<;>simp
theorem Afi (d:Dy)(p:Nat)(up:Bool):∀ f w,(Oi d p up f w).k=0∨(Oi d p up f w).k=2
 | 0,_=>.inr rfl
 | f + 1, w => by
   rw [Oi];split
   ·exact .inr rfl
   ·split
    ·exact .inl rfl
    ·exact Afi d p up f _
theorem Vy {up:Bool}(h:Dz d.raw p=0):(F2 d p up).k=0∨(F2 d p up).k=2:=by
 unfold F2;rw [if_neg (by rw [h];decide)];split
 ·exact .inl rfl
 ·exact Afi _ _ _ _ _
theorem Pn (h:(ovI a p).k=0):(F2 a.lo p false).k=0∧(F2 a.hi p true).k=0∧(ovI a p).v=⟨(F2 a.lo p false).v,(F2 a.hi p true).v⟩:=by
 unfold ovI at h ⊢;split at h
 ·rename_i h0;exact absurd h h0
 ·rename_i h0;rw [if_neg h0];have h0':=(Yk (Ht a.lo.raw p) (Ht a.hi.raw p)).1 (by omega);split at h
  ·rename_i h1;exfalso;have h':max (F2 a.lo p false).k (F2 a.hi p true).k=0:=h;rcases Vy (up:=false) h0'.1 with e1 | e1<;>rcases Vy (up:=true) h0'.2 with e2 | e2<;>omega
  ·rename_i h1;rw [if_neg h1];exact ⟨by omega,by omega,rfl⟩
theorem Agw (a:Iv)(p:Nat)(ha:a.Ok)(_:1≤p)(_:p≤300):OkI (ovI a p):=by
 by_cases hk:(ovI a p).k=0
 ·obtain ⟨a1,a2,a3⟩:=Pn hk;obtain ⟨c1,c2,-⟩:=Ji ha.lo a1;obtain ⟨c3,c4,-⟩:=Ji ha.hi a2;refine ⟨?_,fun h=>absurd hk h⟩;rw [a3];exact ⟨(Ab4 _ _ _).1,(Ab4 _ _ _).1,c2.order c1 c3 ha.le c4⟩
 ·have hz:(ovI a p).v=iz:=by
   unfold ovI at hk ⊢;split
   ·rfl
   ·split
    ·rfl
    ·rename_i h1 h2;rw [if_neg h1,if_neg h2] at hk;exact absurd rfl hk
  exact ⟨by rw [hz];exact Sm,fun _=>hz⟩
theorem Al3 {q:Nat}(ha:a.Ok)(hb:b.Ok)(h1:a.lo.q≤b.lo.q)(h2:b.hi.q≤a.hi.q)(hp:p≤q)(ka:(ovI a p).k=0)(kb:(ovI b q).k=0):(ovI a p).v.lo.q≤(ovI b q).v.lo.q∧(ovI b q).v.hi.q≤(ovI a p).v.hi.q:=by
 obtain ⟨a1,a2,a3⟩:=Pn ka;obtain ⟨b1,b2,b3⟩:=Pn kb;rw [a3,b3];obtain ⟨c1,c2,-⟩:=Ji ha.lo a1;obtain ⟨c3,c4,-⟩:=Ji ha.hi a2;obtain ⟨d1,d2,-⟩:=Ji hb.lo b1;obtain ⟨d3,d4,-⟩:=Ji hb.hi b2;exact ⟨c2.down c1 d1 h1 hp d2,d4.up d3 c3 h2 hp c4⟩
def Wth (a x:Iv):Prop:=x.lo.q≤a.lo.q∧a.hi.q≤x.hi.q
theorem Wth.refl (a:Iv):Wth a a:=⟨Rat.le_refl,Rat.le_refl⟩
theorem Wth.trans {c:Iv}(h:Wth a b)(h':Wth b c):Wth a c:=⟨Rat.le_trans h'.1 h.1,Rat.le_trans h.2 h'.2⟩
theorem Hr {x:Iv}(hm:1≤m)(hn:m≤n)(w:Wth a x)(h1:(Ek a n).k=0)(h2:(Ek x m).k=0):Wth (Ek a n).v (Ek x m).v:=by
 obtain ⟨k1,k2,e⟩:=Lm h1;obtain ⟨k3,k4,e'⟩:=Lm h2;unfold Ek;rw [e,e'];exact ⟨(Fd hm k3).mono (Fd (Nat.le_trans hm hn) k1) hn w.1,(Ig hm k4).mono (Ig (Nat.le_trans hm hn) k2) hn w.2⟩
theorem Xw {x:Iv}(hm:1≤m)(hn:m≤n)(w:Wth a x)(h1:(Kk a n).k=0)(h2:(Kk x m).k=0):Wth (Kk a n).v (Kk x m).v :=
 Hr (a:=⟨Cu a.hi,Cu a.lo⟩) (x:=⟨Cu x.hi,Cu x.lo⟩) hm hn ⟨by simp only [Qh];have:=w.2;grind,by simp only [Qh];have:=w.1;grind⟩ h1 h2
theorem IsRootDown.mono {x x' d d':Rat}(h:IsRootDown p x d)(h':IsRootDown p' x' d')(hp:p≤p')(hx:x≤x'):d≤d' :=
 h'.best d (h.fits.mono hp) h.nonneg (Rat.le_trans h.le hx)
theorem IsRootUp.mono {x x' d d':Rat}(h:IsRootUp p x d)(h':IsRootUp p' x' d')(hp:p≤p')(hx:x'≤x):d'≤d :=
 h'.best d (h.fits.mono hp) h.nonneg (Rat.le_trans hx h.le)
theorem Adg {x:Iv}(ha:a.Ok)(hx:x.Ok)(hm:1≤m)(hn:m≤n)(w:Wth a x)(h1:(Fc a n).k=0)(h2:(Fc x m).k=0):Wth (Fc a n).v (Fc x m).v:=by
 unfold Fc at h1 h2 ⊢;by_cases hs:sg a.lo<0
 ·rw [if_pos hs] at h1;exact absurd h1 (by decide)
 ·by_cases hs':sg x.lo<0
  ·rw [if_pos hs'] at h2;exact absurd h2 (by decide)
  ·rw [if_neg hs] at h1 ⊢;rw [if_neg hs'] at h2 ⊢;obtain ⟨n1,n2⟩:=Qq ha hs;obtain ⟨n3,n4⟩:=Qq hx hs';obtain ⟨k1,k2,e⟩:=Lm h1;obtain ⟨k3,k4,e'⟩:=Lm h2;rw [e,e'];exact ⟨(Ou hm n3 k3).mono (Ou (Nat.le_trans hm hn) n1 k1) hn w.1,(Te hm n4 k4).mono (Te (Nat.le_trans hm hn) n2 k2) hn w.2⟩
def Pd (a:Iv) (i:Bool):Dy:=if i then a.hi else a.lo
theorem Rm (h:a.lo.q≤a.hi.q)(i:Bool):a.lo.q≤(Pd a i).q∧(Pd a i).q≤a.hi.q:=by
 cases i
 ·exact ⟨Rat.le_refl,h⟩
 ·exact ⟨h,Rat.le_refl⟩
theorem Ul (hb:b.Ok)(hp:1≤p)(hk:(Fu a b p).k=0):¬(b.lo.q≤0∧0≤b.hi.q) ∧
 (∃ i j,IsDown p ((Pd a i).q/(Pd b j).q) (Fu a b p).v.lo.q)∧(∃ i j,IsUp p ((Pd a i).q/(Pd b j).q) (Fu a b p).v.hi.q) ∧
 (∀ i j,∃ d,IsDown p ((Pd a i).q/(Pd b j).q) d∧(Fu a b p).v.lo.q≤d)∧(∀ i j,∃ d,IsUp p ((Pd a i).q/(Pd b j).q) d∧d≤(Fu a b p).v.hi.q):=by
 unfold Fu at hk ⊢;by_cases hz:Dn b=true
 ·rw [if_pos hz] at hk;exact absurd hk (by decide)
 ·rw [if_neg hz] at hk ⊢;have hz':¬(b.lo.q≤0∧0≤b.hi.q):=fun h=>hz ((G0 b).2 h)
  obtain ⟨n1,n2⟩:=Om hb hz;obtain ⟨k1,k2,k3,k4,e⟩:=V7 hk;rw [e] at hk ⊢;obtain ⟨k5,k6,k7,k8,e⟩:=V7 hk;rw [e];simp only;obtain ⟨l1,l2,l3,l4⟩:=Wd (x:=(Bg a.lo b.lo p false).v) (y:=(Bg a.lo b.hi p false).v) (z:=(Bg a.hi b.lo p false).v) (u:=(Bg a.hi b.hi p false).v);obtain ⟨g1,g2,g3,g4⟩:=Ni (x:=(Bg a.lo b.lo p true).v) (y:=(Bg a.lo b.hi p true).v) (z:=(Bg a.hi b.lo p true).v) (u:=(Bg a.hi b.hi p true).v);have d1:=Jx hp n1 k1;have d2:=Jx hp n2 k2;have d3:=Jx hp n1 k3;have d4:=Jx hp n2 k4;have u1:=Mx hp n1 k5
  have u2:=Mx hp n2 k6;have u3:=Mx hp n1 k7;have u4:=Mx hp n2 k8;refine ⟨hz',?_,?_,?_,?_⟩
  ·rcases Sn (x:=(Bg a.lo b.lo p false).v) (y:=(Bg a.lo b.hi p false).v) (z:=(Bg a.hi b.lo p false).v) (u:=(Bg a.hi b.hi p false).v) with h | h | h | h<;>rw [h]
   ·exact ⟨false,false,d1⟩
   ·exact ⟨false,true,d2⟩
   ·exact ⟨true,false,d3⟩
   ·exact ⟨true,true,d4⟩
  ·rcases N1 (x:=(Bg a.lo b.lo p true).v) (y:=(Bg a.lo b.hi p true).v) (z:=(Bg a.hi b.lo p true).v) (u:=(Bg a.hi b.hi p true).v) with h | h | h | h<;>rw [h]
   ·exact ⟨false,false,u1⟩
   ·exact ⟨false,true,u2⟩
   ·exact ⟨true,false,u3⟩
   ·exact ⟨true,true,u4⟩
  ·intro i j;cases i<;>cases j
   ·exact ⟨_,d1,l1⟩
   ·exact ⟨_,d2,l2⟩
   ·exact ⟨_,d3,l3⟩
   ·exact ⟨_,d4,l4⟩
  ·intro i j;cases i<;>cases j
   ·exact ⟨_,u1,g1⟩
   ·exact ⟨_,u2,g2⟩
   ·exact ⟨_,u3,g3⟩
   ·exact ⟨_,u4,g4⟩
theorem Ut {u v:Rat}(h:u≤v)(hs:0<u∨v<0):v⁻¹≤u⁻¹:=by
 rcases hs with h1 | h1
 ·exact X7 h1 h
 ·exact Adj h1 h
theorem Anf (a b c d:Rat):∃ L,(L=a∨L=b∨L=c∨L=d)∧L≤a∧L≤b∧L≤c∧L≤d:=by
 have two:∀ x y:Rat,∃ L,(L=x∨L=y)∧L≤x∧L≤y:=fun x y=>by
  rcases Rat.le_total (a:=x) (b:=y) with h | h
  ·exact ⟨x,.inl rfl,Rat.le_refl,h⟩
  ·exact ⟨y,.inr rfl,h,Rat.le_refl⟩
 obtain ⟨x,hx,x1,x2⟩:=two a b;obtain ⟨y,hy,y1,y2⟩:=two c d;obtain ⟨L,hL,l1,l2⟩:=two x y;refine ⟨L,?_,by grind,by grind,by grind,by grind⟩;rcases hL with rfl | rfl
 ·rcases hx with h | h
  ·exact .inl h
  ·exact .inr (.inl h)
 ·rcases hy with h | h
  ·exact .inr (.inr (.inl h))
  ·exact .inr (.inr (.inr h))
theorem Anw (a b c d:Rat):∃ L,(L=a∨L=b∨L=c∨L=d)∧a≤L∧b≤L∧c≤L∧d≤L:=by
 obtain ⟨L,h,h1,h2,h3,h4⟩:=Anf (-a) (-b) (-c) (-d);exact ⟨-L,by grind,by grind,by grind,by grind,by grind⟩
theorem Qx {x y:Iv}(hz:¬(y.lo.q≤0∧0≤y.hi.q)){u v:Rat}(u1:x.lo.q≤u)(u2:u≤x.hi.q)(v1:y.lo.q≤v)(v2:v≤y.hi.q) :
 (∃ i j,(Pd x i).q/(Pd y j).q≤u/v)∧(∃ i j,u/v≤(Pd x i).q/(Pd y j).q):=by
 have hs:0<y.lo.q∨y.hi.q<0:=by grind
 have i1:y.hi.q⁻¹≤v⁻¹:=Ut v2 (by grind);have i2:v⁻¹≤y.lo.q⁻¹:=Ut v1 (by grind);simp only [Rat.div_def];constructor
 ·obtain ⟨L,hL,l1,l2,l3,l4⟩:=Anf (x.lo.q*y.hi.q⁻¹) (x.lo.q*y.lo.q⁻¹) (x.hi.q*y.hi.q⁻¹) (x.hi.q*y.lo.q⁻¹);have h:=Ae0 u1 u2 i1 i2 l1 l2 l3 l4;rcases hL with e | e | e | e
  ·exact ⟨false,true,by rw [e] at h;exact h⟩
  ·exact ⟨false,false,by rw [e] at h;exact h⟩
  ·exact ⟨true,true,by rw [e] at h;exact h⟩
  ·exact ⟨true,false,by rw [e] at h;exact h⟩
 ·obtain ⟨L,hL,l1,l2,l3,l4⟩:=Anw (x.lo.q*y.hi.q⁻¹) (x.lo.q*y.lo.q⁻¹) (x.hi.q*y.hi.q⁻¹) (x.hi.q*y.lo.q⁻¹);have h:=Ae1 u1 u2 i1 i2 l1 l2 l3 l4;rcases hL with e | e | e | e
  ·exact ⟨false,true,by rw [e] at h;exact h⟩
  ·exact ⟨false,false,by rw [e] at h;exact h⟩
  ·exact ⟨true,true,by rw [e] at h;exact h⟩
  ·exact ⟨true,false,by rw [e] at h;exact h⟩
theorem Xu {x y:Iv}(ha:a.Ok)(hb:b.Ok)(hy:y.Ok)(hm:1≤m)(hn:m≤n)(w:Wth a x)(w':Wth b y)(h1:(Fu a b n).k=0)(h2:(Fu x y m).k=0):Wth (Fu a b n).v (Fu x y m).v:=by
 obtain ⟨-,⟨i,j,d⟩,⟨i',j',d'⟩,-,-⟩:=Ul hb (Nat.le_trans hm hn) h1;obtain ⟨z,-,-,lo,hi⟩:=Ul hy hm h2;constructor
 ·have e1:=Rm ha.le i;have e2:=Rm hb.le j;obtain ⟨⟨r,s,hr⟩,-⟩:=Qx z (Rat.le_trans w.1 e1.1) (Rat.le_trans e1.2 w.2) (Rat.le_trans w'.1 e2.1) (Rat.le_trans e2.2 w'.2);obtain ⟨t,t1,t2⟩:=lo r s;exact Rat.le_trans t2 (t1.mono d hn hr)
 ·have e1:=Rm ha.le i';have e2:=Rm hb.le j';obtain ⟨-,⟨r,s,hr⟩⟩:=Qx z (Rat.le_trans w.1 e1.1) (Rat.le_trans e1.2 w.2) (Rat.le_trans w'.1 e2.1) (Rat.le_trans e2.2 w'.2);obtain ⟨t,t1,t2⟩:=hi r s;exact Rat.le_trans (t1.mono d' hn hr) t2
theorem Afr {x y:Iv}(ha:a.Ok)(hb:b.Ok)(hx:x.Ok)(hy:y.Ok)(hm:1≤m)(hn:m≤n)(w:Wth a x)(w':Wth b y)(h1:(Hj ovI op a b n).k=0)(h2:(Hj ovI op x y m).k=0) :
 Wth (Hj ovI op a b n).v (Hj ovI op x y m).v:=by
 unfold Hj at h1 h2 ⊢;by_cases c6:op=6
 ·simp only [if_pos c6] at h1 h2 ⊢;exact Sl hm hn w.1 w.2 w'.1 w'.2 h1 h2
 by_cases c7:op=7
 ·simp only [if_neg c6,if_pos c7] at h1 h2 ⊢;exact Xx hm hn w.1 w.2 w'.1 w'.2 h1 h2
 by_cases c8:op=8
 ·simp only [if_neg c6,if_neg c7,if_pos c8] at h1 h2 ⊢;exact Xv ha.le hb.le hm hn w.1 w.2 w'.1 w'.2 h1 h2
 by_cases c9:op=9
 ·simp only [if_neg c6,if_neg c7,if_neg c8,if_pos c9] at h1 h2 ⊢;exact Xu ha hb hy hm hn w w' h1 h2
 by_cases c10:op=10
 ·simp only [if_neg c6,if_neg c7,if_neg c8,if_neg c9,if_pos c10] at h1 h2 ⊢;exact Xw hm hn w h1 h2
 by_cases c11:op=11
 ·simp only [if_neg c6,if_neg c7,if_neg c8,if_neg c9,if_neg c10,if_pos c11] at h1 h2 ⊢;exact Afs ha.le hm hn w.1 w.2 h1 h2
 by_cases c12:op=12
 ·simp only [if_neg c6,if_neg c7,if_neg c8,if_neg c9,if_neg c10,if_neg c11,if_pos c12] at h1 h2 ⊢;exact Adg ha hx hm hn w h1 h2
 ·simp only [if_neg c6,if_neg c7,if_neg c8,if_neg c9,if_neg c10,if_neg c11,if_neg c12] at h1 h2 ⊢;exact Al3 hx ha w.1 w.2 hn h2 h1
def Lmb (k:Int):Prop:=k=0∨k=2∨k=3
theorem Bz (neg:Bool)(n:Nat)(e:Int):Lmb (Bu neg n e).k:=by
 unfold Bu Lmb;split
 ·exact .inl rfl
 ·split
  ·exact .inr (.inl rfl)
  ·split
   ·exact .inr (.inr rfl)
   ·split
    ·exact .inr (.inr rfl)
    ·exact .inl rfl
theorem Zn (a b:Dy):Lmb (J7 a b).k:=by
 unfold J7;split
 ·exact .inr (.inl rfl)
 ·split
  ·exact Bz _ _ _
  ·split
   ·exact Bz _ _ _
   ·exact Bz _ _ _
theorem Zo (a b:Dy):Lmb (Dq a b).k:=by
 unfold Dq;split
 ·exact .inl rfl
 ·split
  ·exact .inl rfl
  ·split
   ·exact Zn _ _
   ·exact Zn _ _
theorem Hd {α β:Type}{o:Outc α}{z:β}{f:α→Outc β}(h:Lmb o.k)(h':o.k=0→Lmb (f o.v).k):Lmb (o.bind z f).k:=by
 unfold Outc.bind;split
 ·rename_i h0;exact h' h0
 ·exact h
theorem Ko {a b:Outc Dy}(h:Lmb a.k)(h':Lmb b.k):Lmb (Gg a b).k:=Hd h fun _=>Hd h' fun _=>.inl rfl
theorem Y7 {o:Outc Dy}(p:Nat)(up:Bool)(h:Lmb o.k):Lmb (Ql o p up).k:=Hd h fun _=>Bz _ _ _
theorem Sh {a b c d:Outc Dy}{f:Dy→Dy→Dy→Dy→Outc Iv}(h1:Lmb a.k)(h2:Lmb b.k)(h3:Lmb c.k)(h4:Lmb d.k)(h:∀ x y z u,Lmb (f x y z u).k):Lmb (Fo a b c d f).k :=
 Hd h1 fun _=>Hd h2 fun _=>Hd h3 fun _=>Hd h4 fun _=>h _ _ _ _
theorem Kz (a:Iv)(p:Nat):Lmb (Ek a p).k:=Ko (Bz _ _ _) (Bz _ _ _)
theorem Abn (a b:Iv)(p:Nat):Lmb (Ge a b p).k:=Ko (Y7 _ _ (Zo _ _)) (Y7 _ _ (Zo _ _))
theorem Ajc (a b:Iv)(p:Nat):Lmb (Fi a b p).k:=Sh (Bz _ _ _) (Bz _ _ _) (Bz _ _ _) (Bz _ _ _) fun _ _ _ _=>Ko (Bz _ _ _) (Bz _ _ _)
theorem Aj2 (a:Iv)(p:Nat):Lmb (I9 a p).k:=Hd (Bz _ _ _) fun _=>Hd (Bz _ _ _) fun _=>Ko (Bz _ _ _) (Bz _ _ _)
theorem Aih (a b:Iv)(p:Nat)(h:¬Dn b=true):Lmb (Fu a b p).k:=by
 unfold Fu;rw [if_neg h];exact Sh (Bz _ _ _) (Bz _ _ _) (Bz _ _ _) (Bz _ _ _) fun _ _ _ _=>Sh (Bz _ _ _) (Bz _ _ _) (Bz _ _ _) (Bz _ _ _) fun _ _ _ _=>.inl rfl
theorem Ahd (a:Iv)(p:Nat)(h:¬sg a.lo<0):Lmb (Fc a p).k:=by
 unfold Fc;rw [if_neg h];exact Ko (Bz _ _ _) (Bz _ _ _)
theorem Yd {r:Raw}{p:Int}(h:Dz r p=0∨Dz r p=2):Ew r=true∧1≤p∧p≤300∧r.dy.q≤far.q∧(Cu far).q≤r.dy.q:=by
 unfold Dz at h;split at h
 ·rename_i h1;simp only [Bool.and_eq_true,Bool.not_eq_true',decide_eq_false_iff_not] at h1;split at h
  ·rename_i h2;simp only [Bool.and_eq_true,decide_eq_true_eq] at h2;have a:=Je.1 h2.1;have b:=Nf.1 h2.2;exact ⟨h1.1.1,by omega,by omega,a,b⟩
  ·simp at h
 ·simp at h
theorem Acc {r:Raw}{p:Int}(h0:Ew r=true)(h1:1≤p)(h2:p≤300)(h3:r.dy.q≤far.q)(h4:(Cu far).q≤r.dy.q):Dz r p=0∨Dz r p=2:=by
 unfold Dz;have c1:(Ew r&&!decide (p<1)&&!decide (300<p))=true:=by simp [h0];omega
 have c2:(decide (Cg r.dy.q far.q≤0)&&decide (0≤Cg r.dy.q (Cu far).q))=true:=by simp only [Bool.and_eq_true,decide_eq_true_eq];exact ⟨Je.2 h3,Nf.2 h4⟩
 rw [if_pos c1,if_pos c2];split
 ·exact .inr rfl
 ·exact .inl rfl
theorem Al4 {x:Iv}(ha:a.Ok)(n1:1≤n)(n2:n≤300)(w:Wth a x)(h:(ovI x m).k=0):Lmb (ovI a n).k:=by
 obtain ⟨k1,k2,-⟩:=Pn h;have hm:∀ {d:Dy} {up:Bool},(F2 d m up).k=0→Dz d.raw m=0:=fun hk=>by
  unfold F2 at hk;split at hk
  ·rename_i h0;exact absurd hk h0
  ·rename_i h0;omega
 have l1:=Yd (.inl (hm k1));have l2:=Yd (.inl (hm k2));simp only [Dy.raw_dy] at l1 l2;have hle:=ha.le;have a1:Dz a.lo.raw n=0∨Dz a.lo.raw n=2:=Acc ha.lo.may (by omega) (by omega) (by rw [Dy.raw_dy];have:=w.2;have:=l2.2.2.2.1;grind) (by rw [Dy.raw_dy];have:=w.1;have:=l1.2.2.2.2;grind);have a2:Dz a.hi.raw n=0∨Dz a.hi.raw n=2:=Acc ha.hi.may (by omega) (by omega) (by rw [Dy.raw_dy];have:=w.2;have:=l2.2.2.2.1;grind) (by rw [Dy.raw_dy];have:=w.1;have:=l1.2.2.2.2;grind);have he:ovE (Dz a.lo.raw n) (Dz a.hi.raw n)=0∨ovE (Dz a.lo.raw n) (Dz a.hi.raw n)=2:=by
  rcases a1 with a1 | a1<;>rcases a2 with a2 | a2<;>rw [a1,a2]<;>simp [ovE]
 unfold ovI;split
 ·rename_i h0;rcases he with he | he
  ·exact absurd he h0
  ·exact .inr (.inl he)
 ·rename_i h0;have h00:=(Yk (Ht a.lo.raw n) (Ht a.hi.raw n)).1 (by omega);split
  ·show Lmb (max _ _)
   unfold Lmb;rcases Vy (up:=false) h00.1 with e1 | e1<;>rcases Vy (up:=true) h00.2 with e2 | e2<;>rw [e1,e2]<;>decide
  ·exact .inl rfl
theorem Ajl {x y:Iv}(ha:a.Ok)(n1:1≤n)(n2:n≤300)(w:Wth a x)(w':Wth b y)(h:(Hj ovI op x y m).k=0):Lmb (Hj ovI op a b n).k:=by
 unfold Hj at h ⊢;by_cases c6:op=6
 ·simp only [if_pos c6];exact Abn _ _ _
 by_cases c7:op=7
 ·simp only [if_neg c6,if_pos c7];exact Abn a ⟨Cu b.hi,Cu b.lo⟩ n
 by_cases c8:op=8
 ·simp only [if_neg c6,if_neg c7,if_pos c8];exact Ajc _ _ _
 by_cases c9:op=9
 ·simp only [if_neg c6,if_neg c7,if_neg c8,if_pos c9] at h ⊢;refine Aih _ _ _ fun hz=>?_
  have hz':=(G0 b).1 hz;have hy:Dn y=true:=(G0 y).2 ⟨by have:=w'.1;grind,by have:=w'.2;grind⟩;unfold Fu at h;rw [if_pos hy] at h;exact absurd h (by decide)
 by_cases c10:op=10
 ·simp only [if_neg c6,if_neg c7,if_neg c8,if_neg c9,if_pos c10];exact Ko (Bz _ _ _) (Bz _ _ _)
 by_cases c11:op=11
 ·simp only [if_neg c6,if_neg c7,if_neg c8,if_neg c9,if_neg c10,if_pos c11];exact Aj2 _ _
 by_cases c12:op=12
 ·simp only [if_neg c6,if_neg c7,if_neg c8,if_neg c9,if_neg c10,if_neg c11,if_pos c12] at h ⊢;refine Ahd _ _ fun hs=>?_
  have hx2:sg x.lo<0:=by
   rw [Aec] at hs ⊢;have h1:=Lj.1 hs;have:=w.1;exact Lj.2 (by grind)
  unfold Fc at h;rw [if_pos hx2] at h;exact absurd h (by decide)
 ·simp only [if_neg c6,if_neg c7,if_neg c8,if_neg c9,if_neg c10,if_neg c11,if_neg c12] at h ⊢;exact Al4 ha n1 n2 w h
theorem P7 {b:Nat}{o:Obj}(h:w.heap[b]?=some o)(k:Kept w w'):w'.heap[b]?=some o:=(k.block b (Array.getElem?_eq_some_iff.1 h).1).trans h
theorem Anr (w:World)(x y z:Value):∃ V,V=w.alloc (.cells #[x,y,z] 3)∧Kept w V∧V.heap[w.heap.size]?=some (.cells #[x,y,z] 3 (0,0)) :=
 ⟨_,rfl,Ad _ _,heap_alloc_new _ _⟩
theorem Akb (hv:IvC w v a)(ok:a.Ok)(hT:Tab w)(p1:1≤p)(p2:p≤300) :
 Calls Tryz.prog 102 #[v,.int .i64 (p:Nat)] w (RetIE (Bp (ovI a p)) w):=by
 have M:=hid (fun w1 (k:Kept w w1)=>Wa (hv.kept k) ok);obtain ⟨A,l,c,A',l',c',rfl,h1,h2⟩:=F3 hv;have X0:=hid (fun w1 (k:Kept w w1)=>T5 (p:=p) (h1.kept k) (Nat.le_trans ok.lo.len (by decide)) (hT.kept k));have X1:=hid (fun w1 (k:Kept w w1)=>T5 (p:=p) (h2.kept k) (Nat.le_trans ok.hi.len (by decide)) (hT.kept k));have E0:=hid (fun w1 (k:Kept w w1)=>Ac5 (up:=false) (h1.kept k) ok.lo p1 p2 (hT.kept k));have E1:=hid (fun w1 (k:Kept w w1)=>Ac5 (up:=true) (h2.kept k) ok.hi p1 p2 (hT.kept k));have hb:∀ k,ovE (Dz a.lo.raw p) (Dz a.hi.raw p)=k→k≠0→Bp (ovI a p)=⟨rzI,k⟩:=fun k hk h0=>by
  unfold ovI;rw [if_pos (by rw [hk];exact h0),hk];unfold Bp;rw [Qb]
 have hg:Dz a.lo.raw p=0→Dz a.hi.raw p=0→Bp (ovI a p)=if (F2 a.lo p false).raw.k≠0∨(F2 a.hi p true).raw.k≠0 then ⟨rzI,max (F2 a.lo p false).raw.k (F2 a.hi p true).raw.k⟩ else ⟨⟨(F2 a.lo p false).raw.v,(F2 a.hi p true).raw.v⟩,0⟩:=fun h h'=>by
  unfold ovI;rw [if_neg (by rw [h,h'];decide)]
  show _=if (F2 a.lo p false).k≠0∨(F2 a.hi p true).k≠0 then _ else _
  split
  ·unfold Bp;rw [Qb];rfl
  ·rfl
 have c0:=Ht a.lo.raw p;have c1:=Ht a.hi.raw p;generalize Dz a.lo.raw p=m0 at *;generalize Dz a.hi.raw p=m1 at *;generalize (F2 a.lo p false).raw=o0 at *;generalize (F2 a.hi p true).raw=o1 at *;obtain ⟨T,hTT⟩:∃ T,Bp (ovI a p)=T:=⟨_,rfl⟩;rw [hTT] at hb hg ⊢;have BAD:=hid hb;have GOOD:=hid hg;have C0:=hid c0;have C1:=hid c1;clear hTT hb hg c0 c1 hv ok hT h1 h2;generalize a.lo.neg=n1,a.lo.e=e1,a.hi.neg=n2,a.hi.e=e2 at *;obtain ⟨W,hW,kW,BA,BR⟩:=Vr w (.bool n1) (.slice A l c) (.int .i64 e1) (.bool n2) (.slice A' l' c') (.int .i64 e2) (.bool false) (.slice none 0 0) (.int .i64 0) (.bool false) (.slice none 0 0) (.int .i64 0)
 have HW:=hid hW;have K:=hid kW;have HB:=hid BA;have HR:=hid BR;obtain ⟨-,a0,a1,a2,a3,a4,a5⟩:=BA.facts;clear hW kW BA BR;go_enter Tryz.func102,Tryz.ntmps102;go_upto_region 1 with fail;rw [←HW.out];go_wp2_with fail;refine (M.out _ K.out).mono ?_;rintro ee w1 ⟨rfl,q⟩;simp only [];replace K:=hid (K.out.trans q);replace HB:=hid (HB.out.kept q);replace HR:=hid (HR.out.kept q);clear q a0 a1 a2 a3 a4 a5 M HW;have lR:=HR.out.facts.1;obtain ⟨V,hV,kV,hv3⟩:=Anr w1 (.int .i64 1) (.int .i64 4) (.int .i64 2);have HV:=hid hV;have V3:=hid hv3;replace K:=hid (K.out.trans kV);replace HB:=hid (HB.out.kept kV);replace HR:=hid (HR.out.kept kV)
 have KX:Hid (Kept V V):=hid (Below.refl _ _);obtain ⟨-,a0,a1,a2,a3,a4,a5⟩:=HB.out.facts;clear hV kV hv3;go_upto_region 4 with fail;rw [←HV.out];refine wp_loop_rounds 4 ?_
 -- a round of the loop over the errors: C the error, I its place
 rw [rounds_succ];have v9:=Ae (P7 V3.out KX.out) 0 _ rfl;go_upto_region 6 with fail;by_cases h0:m0=1
 ·have g0:(m0==1)=true:=by simp [h0]
  go_wp2_with fail;refine (X0.out _ (K.out.trans KX.out)).mono ?_;rintro ee w2 ⟨rfl,q⟩;simp only [];have KK:=hid (K.out.trans (KX.out.trans q));have HR2:=hid ((HR.out.kept KX.out).kept q);clear q a0 a1 a2 a3 a4 a5 v9;obtain ⟨-,x0,x1,x2,x3,x4,x5⟩:=HR2.out.facts;obtain ⟨f0,f1,f2,f3,f4,f5⟩:=HR2.out.free;go_wp2_with fail;have e:T=⟨rzI,1⟩:=BAD.out 1 (by unfold ovE;rw [if_pos (by omega)]) (by decide);subst e;exact Ci (HR2.out.laid _ _ _ _ _ _) rfl rfl rfl ⟨Bm KK.out (by omega),_,rfl,_,_,_,_,_,_,rfl,Cf _,Cf _⟩
 have g0:(m0==1)=false:=by simp [h0]
 go_wp2_with fail;refine (X0.out _ (K.out.trans KX.out)).mono ?_;rintro ee w2 ⟨rfl,q⟩;simp only [];replace KX:=hid (KX.out.trans q);clear q a0 a1 a2 a3 a4 a5;obtain ⟨-,a0,a1,a2,a3,a4,a5⟩:=(HB.out.kept KX.out).facts;by_cases h1:m1=1
 ·have g1:(m1==1)=true:=by simp [h1]
  go_wp2_with fail;refine (X1.out _ (K.out.trans KX.out)).mono ?_;rintro ee w2 ⟨rfl,q⟩;simp only [];have KK:=hid (K.out.trans (KX.out.trans q));have HR2:=hid ((HR.out.kept KX.out).kept q);clear q a0 a1 a2 a3 a4 a5 v9;obtain ⟨-,x0,x1,x2,x3,x4,x5⟩:=HR2.out.facts;obtain ⟨f0,f1,f2,f3,f4,f5⟩:=HR2.out.free;go_wp2_with fail;have e:T=⟨rzI,1⟩:=BAD.out 1 (by unfold ovE;rw [if_pos (by omega)]) (by decide);subst e;exact Ci (HR2.out.laid _ _ _ _ _ _) rfl rfl rfl ⟨Bm KK.out (by omega),_,rfl,_,_,_,_,_,_,rfl,Cf _,Cf _⟩
 have g1:(m1==1)=false:=by simp [h1]
 go_wp2_with fail;refine (X1.out _ (K.out.trans KX.out)).mono ?_;rintro ee w3 ⟨rfl,q⟩;simp only [];replace KX:=hid (KX.out.trans q);clear q a0 a1 a2 a3 a4 a5;obtain ⟨-,a0,a1,a2,a3,a4,a5⟩:=(HB.out.kept KX.out).facts;go_wp2_with fail;have H1:=hid (And.intro h0 h1);clear g0 g1 h0 h1 v9
 -- a round of the loop over the errors: C the error, I its place
 rw [rounds_succ];have v9:=Ae (P7 V3.out KX.out) 1 _ rfl;go_upto_region 6 with fail;by_cases h0:m0=4
 ·have g0:(m0==4)=true:=by simp [h0]
  go_wp2_with fail;refine (X0.out _ (K.out.trans KX.out)).mono ?_;rintro ee w2 ⟨rfl,q⟩;simp only [];have KK:=hid (K.out.trans (KX.out.trans q));have HR2:=hid ((HR.out.kept KX.out).kept q);clear q a0 a1 a2 a3 a4 a5 v9;obtain ⟨-,x0,x1,x2,x3,x4,x5⟩:=HR2.out.facts;obtain ⟨f0,f1,f2,f3,f4,f5⟩:=HR2.out.free;go_wp2_with fail;have e:T=⟨rzI,4⟩:=BAD.out 4 (by have a9:=H1.out;unfold ovE;rw [if_neg (by omega),if_pos (by omega)]) (by decide);subst e;exact Ci (HR2.out.laid _ _ _ _ _ _) rfl rfl rfl ⟨Bm KK.out (by omega),_,rfl,_,_,_,_,_,_,rfl,Cf _,Cf _⟩
 have g0:(m0==4)=false:=by simp [h0]
 go_wp2_with fail;refine (X0.out _ (K.out.trans KX.out)).mono ?_;rintro ee w4 ⟨rfl,q⟩;simp only [];replace KX:=hid (KX.out.trans q);clear q a0 a1 a2 a3 a4 a5;obtain ⟨-,a0,a1,a2,a3,a4,a5⟩:=(HB.out.kept KX.out).facts;by_cases h1:m1=4
 ·have g1:(m1==4)=true:=by simp [h1]
  go_wp2_with fail;refine (X1.out _ (K.out.trans KX.out)).mono ?_;rintro ee w2 ⟨rfl,q⟩;simp only [];have KK:=hid (K.out.trans (KX.out.trans q));have HR2:=hid ((HR.out.kept KX.out).kept q);clear q a0 a1 a2 a3 a4 a5 v9;obtain ⟨-,x0,x1,x2,x3,x4,x5⟩:=HR2.out.facts;obtain ⟨f0,f1,f2,f3,f4,f5⟩:=HR2.out.free;go_wp2_with fail;have e:T=⟨rzI,4⟩:=BAD.out 4 (by have a9:=H1.out;unfold ovE;rw [if_neg (by omega),if_pos (by omega)]) (by decide);subst e;exact Ci (HR2.out.laid _ _ _ _ _ _) rfl rfl rfl ⟨Bm KK.out (by omega),_,rfl,_,_,_,_,_,_,rfl,Cf _,Cf _⟩
 have g1:(m1==4)=false:=by simp [h1]
 go_wp2_with fail;refine (X1.out _ (K.out.trans KX.out)).mono ?_;rintro ee w5 ⟨rfl,q⟩;simp only [];replace KX:=hid (KX.out.trans q);clear q a0 a1 a2 a3 a4 a5;obtain ⟨-,a0,a1,a2,a3,a4,a5⟩:=(HB.out.kept KX.out).facts;go_wp2_with fail;have H4:=hid (And.intro h0 h1);clear g0 g1 h0 h1 v9
 -- a round of the loop over the errors: C the error, I its place
 rw [rounds_succ];have v9:=Ae (P7 V3.out KX.out) 2 _ rfl;go_upto_region 6 with fail;by_cases h0:m0=2
 ·have g0:(m0==2)=true:=by simp [h0]
  go_wp2_with fail;refine (X0.out _ (K.out.trans KX.out)).mono ?_;rintro ee w2 ⟨rfl,q⟩;simp only [];have KK:=hid (K.out.trans (KX.out.trans q));have HR2:=hid ((HR.out.kept KX.out).kept q);clear q a0 a1 a2 a3 a4 a5 v9;obtain ⟨-,x0,x1,x2,x3,x4,x5⟩:=HR2.out.facts;obtain ⟨f0,f1,f2,f3,f4,f5⟩:=HR2.out.free;go_wp2_with fail;have e:T=⟨rzI,2⟩:=BAD.out 2 (by have a9:=H1.out;have a8:=H4.out;unfold ovE;rw [if_neg (by omega),if_neg (by omega),if_pos (by omega)]) (by decide);subst e;exact Ci (HR2.out.laid _ _ _ _ _ _) rfl rfl rfl ⟨Bm KK.out (by omega),_,rfl,_,_,_,_,_,_,rfl,Cf _,Cf _⟩
 have g0:(m0==2)=false:=by simp [h0]
 go_wp2_with fail;refine (X0.out _ (K.out.trans KX.out)).mono ?_;rintro ee w6 ⟨rfl,q⟩;simp only [];replace KX:=hid (KX.out.trans q);clear q a0 a1 a2 a3 a4 a5;obtain ⟨-,a0,a1,a2,a3,a4,a5⟩:=(HB.out.kept KX.out).facts;by_cases h1:m1=2
 ·have g1:(m1==2)=true:=by simp [h1]
  go_wp2_with fail;refine (X1.out _ (K.out.trans KX.out)).mono ?_;rintro ee w2 ⟨rfl,q⟩;simp only [];have KK:=hid (K.out.trans (KX.out.trans q));have HR2:=hid ((HR.out.kept KX.out).kept q);clear q a0 a1 a2 a3 a4 a5 v9;obtain ⟨-,x0,x1,x2,x3,x4,x5⟩:=HR2.out.facts;obtain ⟨f0,f1,f2,f3,f4,f5⟩:=HR2.out.free;go_wp2_with fail;have e:T=⟨rzI,2⟩:=BAD.out 2 (by have a9:=H1.out;have a8:=H4.out;unfold ovE;rw [if_neg (by omega),if_neg (by omega),if_pos (by omega)]) (by decide);subst e;exact Ci (HR2.out.laid _ _ _ _ _ _) rfl rfl rfl ⟨Bm KK.out (by omega),_,rfl,_,_,_,_,_,_,rfl,Cf _,Cf _⟩
 have g1:(m1==2)=false:=by simp [h1]
 go_wp2_with fail;refine (X1.out _ (K.out.trans KX.out)).mono ?_;rintro ee w7 ⟨rfl,q⟩;simp only [];replace KX:=hid (KX.out.trans q);clear q a0 a1 a2 a3 a4 a5;obtain ⟨-,a0,a1,a2,a3,a4,a5⟩:=(HB.out.kept KX.out).facts;go_wp2_with fail;have H2:=hid (And.intro h0 h1);clear g0 g1 h0 h1 v9;rw [rounds_succ];have hm0:m0=0∧m1=0:=by
  have a1:=H1.out;have a2:=H4.out;have a3:=H2.out;have a4:=C0.out;have a5:=C1.out;omega
 have HT:=hid (GOOD.out hm0.1 hm0.2);clear hm0 GOOD BAD H1 H4 H2 C0 C1 X0 X1;obtain ⟨k0,hk0⟩:∃ k,k=o0.k:=⟨_,rfl⟩;obtain ⟨k1,hk1⟩:∃ k,k=o1.k:=⟨_,rfl⟩;have HK0:=hid hk0;have HK1:=hid hk1;clear hk0 hk1;go_upto_region 9 with fail;go_wp2_with fail;refine (E0.out _ (K.out.trans KX.out)).mono ?_;rintro ee w8 ⟨q,v0,rfl,hv0⟩;obtain ⟨B,j,f,rfl,d0⟩:=Ay hv0;rw [←HK0.out];simp only [];have D0:=hid d0;replace KX:=hid (KX.out.trans q);clear q a0 a1 a2 a3 a4 a5 hv0 d0 E0;obtain ⟨V9,hV9,kV9,bV9,-⟩:=Lg w8 (.bool o0.v.neg) (.slice B j f) (.int .i64 o0.v.e);have HV9:=hid hV9;replace KX:=hid (KX.out.trans kV9)
 have B9:=hid bV9;replace D0:=hid (D0.out.kept kV9);obtain ⟨-,a0,a1,a2,a3,a4,a5⟩:=(HB.out.kept KX.out).facts;clear hV9 kV9 bV9;go_upto_region 10 with fail;rw [←HV9.out];go_wp2_with fail;refine (E1.out _ (K.out.trans KX.out)).mono ?_;rintro ee w10 ⟨q,v1,rfl,hv1⟩;obtain ⟨B',j',f',rfl,d1⟩:=Ay hv1;rw [←HK1.out];simp only [];have D1:=hid d1;replace KX:=hid (KX.out.trans q);replace B9:=hid (B9.out.kept q);replace D0:=hid (D0.out.kept q);clear q a0 a1 a2 a3 a4 a5 hv1 d1 E1 HV9;obtain ⟨V11,hV11,kV11,bV11,-⟩:=Lg w10 (.bool o1.v.neg) (.slice B' j' f') (.int .i64 o1.v.e);have HV11:=hid hV11;replace KX:=hid (KX.out.trans kV11)
 replace B9:=hid (B9.out.kept kV11);have B11:=hid bV11;replace D0:=hid (D0.out.kept kV11);replace D1:=hid (D1.out.kept kV11);have HR2:=hid (HR.out.kept KX.out);have KK:=hid (K.out.trans KX.out);clear hV11 kV11 bV11 HR HB KX;go_upto_region 11 with fail;rw [←HV11.out];obtain ⟨-,x0,x1,x2,x3,x4,x5⟩:=HR2.out.facts;obtain ⟨f0,f1,f2,f3,f4,f5⟩:=HR2.out.free;by_cases z0:k0=0
 ·by_cases z1:k1=0
  ·have g0:(k0 != 0)=false:=by simp [z0]
   have g1:(k1 != 0)=false:=by simp [z1]
   obtain ⟨-,c0,c1,c2⟩:=B9.out.facts;obtain ⟨-,e0,e1,e2⟩:=B11.out.facts;go_wp2_with fail;have e:T=⟨⟨o0.v,o1.v⟩,0⟩:=by
    rw [HT.out,if_neg (by rw [←HK0.out,←HK1.out];omega)]
   subst e;exact Ci (HR2.out.laid _ _ _ _ _ _) rfl rfl rfl ⟨Bm KK.out (by omega),_,rfl,_,_,_,_,_,_,rfl,D0.out.ivW HR2.out _ _ _ _ _ _,D1.out.ivW HR2.out _ _ _ _ _ _⟩
  ·have g0:(k0 != 0)=false:=by simp [z0]
   have g1:(k1 != 0)=true:=by simp [z1]
   go_wp2_with fail;have e:T=⟨rzI,max 0 k1⟩:=by
    rw [HT.out,if_pos (by rw [←HK0.out,←HK1.out];omega),←HK0.out,←HK1.out,z0]
   subst e;exact Ci (HR2.out.laid _ _ _ _ _ _) rfl rfl rfl ⟨Bm KK.out (by omega),_,rfl,_,_,_,_,_,_,rfl,Cf _,Cf _⟩
 ·have g0:(k0 != 0)=true:=by simp [z0]
  go_wp2_with fail;have e:T=⟨rzI,max k0 k1⟩:=by
   rw [HT.out,if_pos (by rw [←HK0.out,←HK1.out];omega),←HK0.out,←HK1.out]
  subst e;exact Ci (HR2.out.laid _ _ _ _ _ _) rfl rfl rfl ⟨Bm KK.out (by omega),_,rfl,_,_,_,_,_,_,rfl,Cf _,Cf _⟩
theorem Acm:OvC ovI:=⟨fun a p ha p1 p2=>Agw a p ha p1 p2,fun _ _ _ _ hv ok hT p1 p2=>Akb hv ok hT p1 p2⟩
end Go.Proofs.YtabjjdicffcolaaGreatDoor
