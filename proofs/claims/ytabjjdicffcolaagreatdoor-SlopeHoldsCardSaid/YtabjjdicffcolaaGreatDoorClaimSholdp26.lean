/- Words and contracts, part 26. -/
import Derived.Test.YtabjjdicffcolaaGreatDoorClaimSholdp25
set_option maxRecDepth 100000
set_option maxHeartbeats 0
namespace Go.Proofs.YtabjjdicffcolaaGreatDoor
open Go.Lib (hid)
open Go.RowKit
variable {l1 l2 l3 n':Bool} {a e k k1 k2 op z:Int} {S:Int→Prop} {db:Iv} {b b14 b9 bw c' l' n p:Nat} {A A':Option Addr} {r:RawI} {v va vb x:Value} {w w':World}
def opI (op:Int) (a b:Iv) (p:Nat):Outc Iv:=if op=6 then Ge a b p else if op=7 then J1 a b p else if op=8 then Fi a b p else if op=9 then Fu a b p else Kk a p
def doI (op:Int) (a b:Iv) (p:Nat) (e:Int):Outc Iv:=if e=0 then opI op a b p else ⟨iz,e⟩
def two:Iv:=pt dt
def Hk (p:Nat) (op:Int) (a b c da db:Iv) (e:Int):Outc Iv :=
 if op=6∨op=7∨op=10 then doI op da db p e else
 if op=8 then doI 6 (doI 8 da b p e).v (doI 8 a db p (doI 8 da b p e).k).v p (doI 8 a db p (doI 8 da b p e).k).k else
 if op=9 then doI 9 (doI 7 da (doI 8 c db p e).v p (doI 8 c db p e).k).v b p (doI 7 da (doI 8 c db p e).v p (doI 8 c db p e).k).k else
 if op=11 then doI 8 (doI 8 two a p e).v da p (doI 8 two a p e).k else
 if op=12 then doI 9 da (doI 8 two c p e).v p (doI 8 two c p e).k else
 if op=13 then doI 8 c da p e else ⟨iz,e⟩
def Hc (p:Nat) (op:Int) (a b c:Iv):List RawI→List RawI→Int→List RawI × Int
 | da::l,db::m,e=>((Hk p op a b c da.iv db.iv e).v.raw::(Hc p op a b c l m (Hk p op a b c da.iv db.iv e).k).1,(Hc p op a b c l m (Hk p op a b c da.iv db.iv e).k).2)
 | _,_,e=>([],e)
def Cx (p nx:Nat) (v:List RawI) (all:List (List RawI)) (l:Ln):List RawI × Int :=
 if l.op=1∨l.op=2∨l.op=4∨l.op=5 then (List.replicate nx rzI,0) else
 if l.op=3 then ((List.replicate nx rzI).set l.a.toNat (pt d1).raw,0) else
 Hc p l.op (atI v l.a) (atI v l.b) (atI v all.length) (all.getD l.a.toNat []) (all.getD l.b.toNat []) 0
def Da (p nx:Nat) (v:List RawI):List (List RawI)→List Ln→Outc (List (List RawI))
 | all,[]=>⟨all,0⟩
 | all,l::ls=>if (Cx p nx v all l).2=0 then Da p nx v (all++[(Cx p nx v all l).1]) ls else ⟨[],(Cx p nx v all l).2⟩
def Gc (ov:Iv→Nat→Outc Iv) (ls:List Ln) (outs:List Int) (e:En) (p:Int):Outc (List RawI × List (List RawI)) :=
 if (Cm ov ls outs e p).k≠0 then ⟨([],[]),(Cm ov ls outs e p).k⟩ else
 if (Da p.toNat e.x.length (Cm ov ls outs e p).v [] ls).k≠0 then ⟨([],[]),(Da p.toNat e.x.length (Cm ov ls outs e p).v [] ls).k⟩ else
 ⟨(outs.map fun n=>(Cm ov ls outs e p).v.getD n.toNat rzI,outs.map fun n=>(Da p.toNat e.x.length (Cm ov ls outs e p).v [] ls).v.getD n.toNat []),0⟩
def dyz (z:Int) (e:Int):Dy:=(Bu (decide (z<0)) z.natAbs e).v
def SmZ (z:Int) (e:Int):Prop:=z.natAbs<2^60∧-40≤e∧e≤0
theorem Amb (z:Int):sq (decide (z<0)) z.natAbs=(z:Rat):=by
 unfold sq;by_cases h:z<0
 ·rw [if_pos (by simpa using h)];obtain ⟨n,rfl⟩:∃ n:Nat,z=-(n:Int):=⟨z.natAbs,by omega⟩;rw [Int.natAbs_neg,Int.natAbs_natCast,Rat.intCast_neg];rfl
 ·rw [if_neg (by simpa using h)];obtain ⟨n,rfl⟩:∃ n:Nat,z=(n:Int):=⟨z.natAbs,by omega⟩;rw [Int.natAbs_natCast];rfl
theorem Abz (h:SmZ z e):Bu (decide (z<0)) z.natAbs e=⟨dyz z e,0⟩:=by
 obtain ⟨h1,h2,h3⟩:=h;have hb:=Fl _ _ h1;have:=(Jq (neg:=decide (z<0)) (n:=z.natAbs) (e:=e) (by omega) (by omega) (by omega)).1;unfold dyz;generalize Bu (decide (z<0)) z.natAbs e=o at *;cases o with | mk v k=>simp only at this;subst this;rfl
theorem Kg (z e:Int):(dyz z e).Ok:=(Ih _ _ _).1
theorem Xq (h:SmZ z e):(dyz z e).q=(z:Rat)*pw e:=by
 have:=Lq (neg:=decide (z<0)) (n:=z.natAbs) (e:=e) (by rw [Abz h]);rw [Amb] at this;exact this
theorem Oh (h:z.natAbs<2^p):bl (dyz z e).m≤p:=by
 unfold dyz Bu;by_cases h0:z.natAbs=0
 ·rw [if_pos h0];show bl dz.m≤p;simp [dz,bl]
 ·rw [if_neg h0];have:bl (z.natAbs/2^tz z.natAbs)≤p:=Nat.le_trans (Gn (Nat.div_le_self _ _)) (Fl _ _ h);split
  ·show bl dz.m≤p;simp [dz,bl]
  ·split
   ·show bl dz.m≤p;simp [dz,bl]
   ·split
    ·show bl dz.m≤p;simp [dz,bl]
    ·exact this
theorem Rk (h:SmZ z e):Few (dyz z e) 128 100:=by
 obtain ⟨h1,h2,h3⟩:=h;refine ⟨Kg z e,Nat.le_trans (Oh (p:=60) h1) (by decide),?_,?_⟩
 ·unfold dyz Bu;by_cases h0:z.natAbs=0
  ·rw [if_pos h0];decide
  ·rw [if_neg h0];split
   ·decide
   ·split
    ·decide
    ·split
     ·decide
     ·simp only [good];omega
 ·unfold dyz Bu;by_cases h0:z.natAbs=0
  ·rw [if_pos h0];decide
  ·rw [if_neg h0];have ht:tz z.natAbs<bl z.natAbs:=M8 _ _ h0 (Ba _);have hb:=Fl _ _ h1;split
   ·decide
   ·split
    ·decide
    ·split
     ·decide
     ·simp only [good];omega
theorem Afg {d:Dy}(h:d.Ok)(hz:SmZ z e)(hq:d.q=(z:Rat)*pw e):d=dyz z e :=
 Ank h (Kg z e) (hq.trans (Xq hz).symm)
theorem Ail {b:Int}(ha:SmZ a e)(hb:SmZ b e)(hab:SmZ (a+b) e):Dq (dyz a e) (dyz b e)=⟨dyz (a+b) e,0⟩:=by
 obtain ⟨h1,h2,-⟩:=Ahj (Rk ha) (Rk hb);have hq:=Qs h1;rw [Xq ha,Xq hb] at hq;have he:=Afg h2 hab (by rw [hq,Rat.intCast_add];grind);generalize Dq (dyz a e) (dyz b e)=o at *;cases o with | mk v k=>simp only at h1 he;subst h1 he;rfl
theorem Aik {b f:Int}(ha:SmZ a e)(hb:SmZ b f)(hab:SmZ (a*b) (e+f)):Bt (dyz a e) (dyz b f)=⟨dyz (a*b) (e+f),0⟩:=by
 obtain ⟨h1,h2,-⟩:=Agd (Rk ha) (Rk hb);have hq:=Kj h1;rw [Xq ha,Xq hb] at hq;have he:=Afg h2 hab (by rw [hq,Rat.intCast_mul,Es];grind);generalize Bt (dyz a e) (dyz b f)=o at *;cases o with | mk v k=>simp only at h1 he;subst h1 he;rfl
theorem Xp {b:Int}(ha:SmZ a e)(hb:SmZ b e)(hab:SmZ (a+b) e)(hp:(a+b).natAbs<2^p):Ge (pt (dyz a e)) (pt (dyz b e)) p=⟨pt (dyz (a+b) e),0⟩:=by
 unfold Ge pt;simp only;rw [Ail ha hb hab,S9 (o:=⟨dyz (a+b) e,0⟩) rfl (Kg _ _) (Oh hp),S9 (o:=⟨dyz (a+b) e,0⟩) rfl (Kg _ _) (Oh hp)];rfl
theorem Ml {b f:Int}(ha:SmZ a e)(hb:SmZ b f)(hab:SmZ (a*b) (e+f))(hp:(a*b).natAbs<2^p):Fi (pt (dyz a e)) (pt (dyz b f)) p=⟨pt (dyz (a*b) (e+f)),0⟩:=by
 have h:=Aik ha hb hab;unfold Fi pt;simp only;rw [h,Afo rfl rfl rfl rfl,X8 _ _ (by simp),Sj _ _ (by simp),Jo (Kg _ _) (Oh hp),Jo (Kg _ _) (Oh hp)];rfl
theorem Adc (hp:a.natAbs<2^p):Ek (pt (dyz a e)) p=⟨pt (dyz a e),0⟩:=by
 unfold Ek pt;simp only;rw [Jo (Kg _ _) (Oh hp),Jo (Kg _ _) (Oh hp)];rfl
theorem Ab0:dyz 1 0=d1:=by
 have:Bu false 1 0=⟨d1,0⟩:=Xs;unfold dyz;exact congrArg Outc.v this
theorem Aln (ov:Iv→Nat→Outc Iv)(e:En)(p:Nat)(out:List RawI)(a b:Int)(k:RawI):Ch ov e p out ⟨3,a,b,k⟩=Ek (atI e.x a) p:=rfl
theorem Alo (ov:Iv→Nat→Outc Iv)(e:En)(p:Nat)(out:List RawI)(a b:Int)(k:RawI):Ch ov e p out ⟨8,a,b,k⟩=Fi (atI out a) (atI out b) p:=rfl
theorem Aid (p nx:Nat)(v:List RawI)(all:List (List RawI))(a b:Int)(k:RawI):Cx p nx v all ⟨3,a,b,k⟩=((List.replicate nx rzI).set a.toNat (pt d1).raw,0):=rfl
theorem Aie (p nx:Nat)(v:List RawI)(all:List (List RawI))(a b:Int)(k:RawI):Cx p nx v all ⟨8,a,b,k⟩=Hc p 8 (atI v a) (atI v b) (atI v all.length) (all.getD a.toNat []) (all.getD b.toNat []) 0:=rfl
theorem Akp {a b c da x y:Iv}(h1:Fi da b p=⟨x,0⟩)(h2:Fi a db p=⟨y,0⟩):Hk p 8 a b c da db 0=Ge x y p:=by
 have e1:doI 8 da b p 0=⟨x,0⟩:=h1;have e2:doI 8 a db p 0=⟨y,0⟩:=h2
 show doI 6 (doI 8 da b p 0).v (doI 8 a db p (doI 8 da b p 0).k).v p (doI 8 a db p (doI 8 da b p 0).k).k=_
 rw [e1];simp only;rw [e2];rfl
theorem IvR.ivW {a:RawI}{n:Bool}{l c:Nat}{e':Int}(h:IvR w v a)(hb:BlkI w b (.bool n) (.slice A l c) (.int .i64 e) (.bool n') (.slice A' l' c') (.int .i64 e'))(x y z x' y' z':Value) :
 IvR (Go.Proofs.YtabjjdicffcolaaGreatDoor.ivW w b x y z x' y' z') v a:=by
 obtain ⟨p,q,r,p',q',r',rfl,h1,h2⟩:=h;exact ⟨p,q,r,p',q',r',rfl,h1.ivW hb _ _ _ _ _ _,h2.ivW hb _ _ _ _ _ _⟩
theorem IvR.setCell {a:RawI}{i:Nat}(h:IvR w v a)(hc:w.cell? ⟨b,i,none⟩=some x)(hx:Be x)(y:Value):IvR (w.setCell ⟨b,i,none⟩ y) v a:=by
 obtain ⟨p,q,r,p',q',r',rfl,h1,h2⟩:=h;obtain ⟨s,e1,hs,a1,a2⟩:=h1;obtain ⟨t,e2,ht,b1,b2⟩:=h2;exact ⟨p,q,r,p',q',r',rfl,⟨s,e1,hs.setCell hc hx y,a1,a2⟩,⟨t,e2,ht.setCell hc hx y,b1,b2⟩⟩
theorem Zf (hn:n<9223372036854775808)(hT:Tab w) :
 Calls Tryz.prog 36 #[.int .i64 n] w (RetI (pt (Bu false n 0).v).raw w):=by
 have c1:=fun w1 (k:Kept w w1)=>Oc (w:=w1) (k:=n) (e:=0) hn (by decide) (by decide) (hT.kept k)
 have hp:(pt (Bu false n 0).v).raw=⟨(Bu false n 0).v.raw,(Bu false n 0).v.raw⟩:=rfl;rw [hp]
 obtain ⟨W,hW,kW,BR,lW⟩:∃ W,W=w.alloc (.cells #[.bool false,.slice none 0 0,.int .i64 0,.bool false,.slice none 0 0,.int .i64 0] 30)∧Kept w W∧BlkI W w.heap.size (.bool false) (.slice none 0 0) (.int .i64 0) (.bool false) (.slice none 0 0) (.int .i64 0)∧w.heap.size<W.heap.size :=
  ⟨_,rfl,Ad _ _,Hq _,by simp⟩
 have C1:=hid c1;have HW:=hid hW;have K:=hid kW;have HR:=hid BR;clear c1 hW kW BR hT hn hp;generalize Bu false n 0=o1 at *;go_enter Tryz.func36,Tryz.ntmps36;go_wp2_with fail;rw [←HW.out];refine (C1.out _ K.out).mono ?_;rintro e w2 ⟨q,u,rfl,hd⟩;obtain ⟨PX,pX,qX,rfl,z1⟩:=Bj hd;simp only [];obtain ⟨VX,hV,kV,hb,lV⟩:=Aia w2 (.bool o1.v.neg) (.slice PX pX qX) (.int .i64 o1.v.e);have HV:=hid hV;have kk:=q.trans kV;have lt1:w.heap.size<w2.heap.size:=Nat.lt_of_lt_of_le HR.out.facts.1 q.size;replace K:=hid (K.out.trans kk);replace HR:=hid (HR.out.kept kk);have HX:=hid hb;have ZX:=hid (z1.kept kV)
 clear hV kV hb lV kk q hd z1 C1 HW;go_upto_region 2 with fail;rw [←HV.out];clear HV;generalize w2.heap.size=bX at *;obtain ⟨-,c0,c1,c2,-⟩:=HX.out.facts;go_wp2_with fail;refine (Akm ZX.out).mono ?_;rintro e w2 ⟨q,u,rfl,hd⟩;obtain ⟨P,p',q',R,r,s,rfl,z1,z2⟩:=Aq hd;have hr:=HR.out.kept q;obtain ⟨-,r0,r1,r2,r3,r4,r5⟩:=hr.facts;obtain ⟨f0,f1,f2,f3,f4,f5⟩:=hr.free;have HRR:=hid hr;have Z1:=hid z1;have Z2:=hid z2;clear hr z1 z2 hd c0 c1 c2;simp only [];go_wp2_with fail;exact Fy (HRR.out.laid _ _ _ _ _ _) rfl rfl rfl ⟨Bm (K.out.trans q) (by omega),_,rfl,_,_,_,_,_,_,rfl,Z1.out.ivW HRR.out _ _ _ _ _ _,Z2.out.ivW HRR.out _ _ _ _ _ _⟩
def Wk (w:World) (b:Nat) (p e:Int):Prop:=w.heap[b]?=some (.cells #[.int .i64 p,.int .i64 e] 69 (0,0))
def Abm (b:Nat) (p:Int) (o:Outc RawI) (w:World) (e:Ending) (w':World):Prop:=KB w [b] w'∧Wk w' b p o.k∧∃ v,e=.returned v∧IvR w' v o.v
theorem Wk.nl {p:Int}(h:Wk w b p e):NoL w b:=⟨_,_,h,by
 intro u hu;simp at hu;rcases hu with rfl | rfl
 ·exact Af _
 ·exact Af _⟩
theorem Wk.lt {p:Int}(h:Wk w b p e):b<w.heap.size:=(Array.getElem?_eq_some_iff.1 h).1
theorem Wk.kept {p:Int}(h:Wk w b p e)(k:Kept w w'):Wk w' b p e:=(k.block b h.lt).trans h
def DoJ (b9 bw:Nat) (p k:Int) (r:RawI) (l1 l2:Bool) (w:World):Prop :=
 (∃ n A l c e n' A' l' c' e',BlkI w b9 (.bool n) (.slice A l c) (.int .i64 e) (.bool n') (.slice A' l' c') (.int .i64 e')∧(l1=true→IvR w (.agg #[.bool n,.slice A l c,.int .i64 e,.bool n',.slice A' l' c',.int .i64 e']) r))∧Wk w bw p (if l2 then k else 0)
theorem DoJ.kept {p:Int}(q:Kept w w')(h:DoJ b9 bw p k r l1 l2 w):DoJ b9 bw p k r l1 l2 w':=by
 obtain ⟨⟨n,A,l,c,e,n',A',l',c',e',h1,h2⟩,h3⟩:=h;exact ⟨⟨n,A,l,c,e,n',A',l',c',e',h1.kept q,fun hl=>(h2 hl).kept q⟩,h3.kept q⟩
theorem DoJ.parts {p:Int}(h:DoJ b9 bw p k r l1 l2 w) :
 (∃ n A l c e n' A' l' c' e',BlkI w b9 (.bool n) (.slice A l c) (.int .i64 e) (.bool n') (.slice A' l' c') (.int .i64 e')∧(l1=true→IvR w (.agg #[.bool n,.slice A l c,.int .i64 e,.bool n',.slice A' l' c',.int .i64 e']) r))∧Wk w bw p (if l2 then k else 0):=h
theorem DoJ.told {p:Int}(hne:¬bw=b9)(h:DoJ b9 bw p k r l1 l2 w):DoJ b9 bw p k r l1 true (w.setCell ⟨bw,1,none⟩ (.int .i64 k)):=by
 obtain ⟨⟨n,A,l,c,e,n',A',l',c',e',h1,h2⟩,h3⟩:=h;have cb:=Ae h3 1 _ rfl;refine ⟨⟨n,A,l,c,e,n',A',l',c',e',Bh h1 (fun h=>hne h.symm) _,fun hl=>(h2 hl).setCell cb (Af _) _⟩,?_⟩;have:=Aw h3 (i:=1) (.int .i64 k);simpa [Wk] using this
theorem Aib (w:World)(x y z x' y' z' p q r p' q' r':Value):∃ W V,W=((w.alloc (.cells #[x,y,z,x',y',z'] 30)).alloc (.cells #[p,q,r,p',q',r'] 30)).alloc (.cells #[.bool false,.slice none 0 0,.int .i64 0,.bool false,.slice none 0 0,.int .i64 0] 30) ∧
 V=W.alloc (.cells #[.bool false,.slice none 0 0,.int .i64 0,.bool false,.slice none 0 0,.int .i64 0] 30) ∧
 Kept w W∧Kept W V∧BlkI W w.heap.size x y z x' y' z'∧BlkI W (w.heap.size+1) p q r p' q' r'∧BlkI W (w.heap.size+1+1) (.bool false) (.slice none 0 0) (.int .i64 0) (.bool false) (.slice none 0 0) (.int .i64 0) ∧
 BlkI V W.heap.size (.bool false) (.slice none 0 0) (.int .i64 0) (.bool false) (.slice none 0 0) (.int .i64 0)∧w.heap.size+1+1<W.heap.size:=by
 obtain ⟨W,hW,k,b1,b2,b3⟩:=Ae6 w x y z x' y' z' p q r p' q' r';exact ⟨W,_,hW,rfl,k,Ad _ _,b1,b2,b3,Hq W,b3.facts.1⟩
theorem Pb {a b:Iv}(hw:Wk w bw p e)(ha:IvC w va a)(hb:IvC w vb b)(oa:a.Ok)(ob:b.Ok)(hT:Tab w)(p1:1≤p)(p2:p≤2000)(O:Zt S)(hS:DoS S op) :
 Calls Tryz.prog 73 #[.pointer (some ⟨bw,0,none⟩),.int .i64 op,va,vb] w (Abm bw p (Bp (doI op a b p e)) w):=by
 have IA:=hid ha;have IB:=hid hb;have OA:=hid (And.intro oa ob);have T:=hid hT;have OPS:=hid O;have HS:=hid hS;clear O hS;have lw:=hw.lt;have gn:0≠bw:=hT.ne (Ae hw 0 _ rfl) (by intro y h;cases h);have gl:=hT.lt;clear ha hb oa ob hT;obtain ⟨A,l,c,A',l',c',rfl,-,-⟩:=F3 IA.out;obtain ⟨B,j,d,B',j',d',rfl,-,-⟩:=F3 IB.out;obtain ⟨W,V,hW,hV,kW,kV,BI,BJ,BR,B9,ls⟩:=Aib w (.bool a.lo.neg) (.slice A l c) (.int .i64 a.lo.e) (.bool a.hi.neg) (.slice A' l' c') (.int .i64 a.hi.e) (.bool b.lo.neg) (.slice B j d) (.int .i64 b.lo.e) (.bool b.hi.neg) (.slice B' j' d') (.int .i64 b.hi.e)
 have hwW:=hw.kept kW;have hwV:=hwW.kept kV;have w0:=Ae hwW 0 _ rfl;have w1:=Ae hwW 1 _ rfl;have HWW:=hid hwW;have HWV:=hid hwV;have HW:=hid hW;have HV:=hid hV;have K:=hid kW;have KV:=hid kV;have HI:=hid (BI.kept kV);have HJ:=hid (BJ.kept kV);have HR:=hid BR;have HR9:=hid B9;clear hW hV kW kV BI BJ BR B9 hw hwW hwV;by_cases he:e=0
 ·subst he;have hdo:doI op a b p 0=opI op a b p:=rfl;rw [hdo];obtain ⟨-,r0,r1,r2,r3,r4,r5⟩:=HR.out.facts;obtain ⟨f0,f1,f2,f3,f4,f5⟩:=HR.out.free;have N6:w.heap.size∉[W.heap.size,bw]:=by simp;omega
  have N7:w.heap.size+1∉[W.heap.size,bw]:=by simp;omega
  have NG:0∉[W.heap.size,bw]:=by simp;omega
  have NB:¬bw=W.heap.size:=by omega
  have N8:w.heap.size+1+1∉[W.heap.size,bw]:=by simp;omega
  obtain ⟨b9,h9⟩:∃ b9,W.heap.size=b9:=⟨_,rfl⟩;rw [h9] at N6 N7 NG NB N8 HR9 ls;have H9:=hid h9;clear h9;by_cases h6:op=6
  ·obtain rfl:=h6;have ho:opI 6 a b p=Ge a b p:=rfl;rw [ho];have CC:=hid (fun w1 (k:KB V [b9,bw] w1)=>OPS.out.add HS.out ((IA.out.kept (K.out.trans KV.out)).kb k) ((IB.out.kept (K.out.trans KV.out)).kb k) OA.out.1 OA.out.2 ((T.out.kept (K.out.trans KV.out)).kb k NG) p1 p2);clear ho IA IB OA T OPS HS;generalize Bp (Ge a b p)=o at *;generalize a.lo.neg=n1,a.lo.e=e1,a.hi.neg=n2,a.hi.e=e2,b.lo.neg=n3,b.lo.e=e3,b.hi.neg=n4,b.hi.e=e4 at *;go_enter Tryz.func73,Tryz.ntmps73;go_upto_region 1 with fail
   rw [←HW.out];go_upto_region 7 with fail;rw [←HV.out,H9.out]
   refine rK 15 (fun i=>i==11||i==14) ([b9,bw]) (fun L w=>DoJ b9 bw p o.k o.v (L 11) (L 14) w) ([(vP bw 0),(vE (.agg #[.bool n1,.slice A l c,.int .i64 e1,.bool n2,.slice A' l' c',.int .i64 e2])),(vE (.agg #[.bool n3,.slice B j d,.int .i64 e3,.bool n4,.slice B' j' d',.int .i64 e4])),(vP bw 0),(vP bw 0),(vP bw 0),(vE (.int .i64 (p:Int))),(fun v wv=>∃ d,v=.tuple #[d,.int .i64 o.k]∧IvR wv d o.v),(fun v wv=>∃ d,v=.tuple #[d,.int .i64 o.k]∧IvR wv d o.v),(fun v wv=>IvR wv v o.v),(vE (.int .i64 o.k)),(fun v _=>True),(vP bw 0),(vP bw 1),(fun v _=>True)])
    (fun i hE L w w' kq fj=>by simp only [I5 hE 11,I5 hE 14];exact DoJ.kept kq fj) ((by exact ⟨⟨_,_,_,_,_,_,_,_,_,_,HR9.out,fun h=>absurd h (by decide)⟩,HWV.out⟩)) (by exact ⟨
      (kq 0),(kql 6 fun _ k=>c6X HI.out k N6),(kql 7 fun _ k=>c6X HJ.out k N7),(kq 0),(kv 3 35),(kv 4 36),(kp fun _ aF wF F=>by have fj:=F.frame.2;have s37:=F.v 5 37;exact sw (by (have cb:=Ae (DoJ.parts fj).2 0 _ rfl;go_simp)) rfl),(kp fun _ aF wF F=>by have FK:=F.frame.1;have s33:=F.v 1 33;have s34:=F.v 2 34;have s38:=F.v 6 38;exact sP (CC.out _ FK) fun _ _ h=>h),(km 7 39),(kp fun _ aF wF F=>by have s31:=F.p 8 31;obtain ⟨dd,ee,hh⟩:=s31;exact sv hh),(kp fun _ aF wF F=>by have s31:=F.p 8 31;exact sw (by obtain ⟨dd,ee,hh⟩:=s31;go_simp) rfl),(.inr fun LF aF wF F=>by have FK:=F.frame.1;have fj:=F.frame.2;have s9:=F.q 9 (.pointer (some ⟨b9,0,none⟩));have s40:=F.p 9 40;obtain ⟨P1,i1,k1,P2,i2,k2,ee,z1,z2⟩:=Aq s40;simp only [Array.getD_eq_getD_getElem?] at ee;obtain ⟨⟨_,_,_,_,_,_,_,_,_,_,hbb,-⟩,hwk⟩:=DoJ.parts fj;obtain ⟨-,q0,q1,q2,q3,q4,q5⟩:=hbb.facts;obtain ⟨g0,g1,g2,g3,g4,g5⟩:=hbb.free;exact B8 (w':=ivW wF b9 _ _ _ _ _ _) (by simp [Region.wanted]) (by go_simp;rfl) ⟨FK.ivW hbb (by simp) _ _ _ _ _ _,⟨_,_,_,_,_,_,_,_,_,_,hbb.laid _ _ _ _ _ _,fun _=>(show IvR wF (.agg #[_,_,_,_,_,_]) o.v from ⟨_,_,_,_,_,_,rfl,z1,z2⟩).ivW hbb _ _ _ _ _ _⟩,(Cd _ _ _ _ _ _ _ _ _ NB).trans hwk⟩ (By _ ⟨vR,vR,vR,vR,vR,vR,vR,.inr (fun u h=>by first | exact h.ivW hbb _ _ _ _ _ _ | exact ⟨h.choose,h.choose_spec.1,h.choose_spec.2.ivW hbb _ _ _ _ _ _⟩),.inr (fun u h=>by first | exact h.ivW hbb _ _ _ _ _ _ | exact ⟨h.choose,h.choose_spec.1,h.choose_spec.2.ivW hbb _ _ _ _ _ _⟩),.inr (fun u h=>by first | exact h.ivW hbb _ _ _ _ _ _ | exact ⟨h.choose,h.choose_spec.1,h.choose_spec.2.ivW hbb _ _ _ _ _ _⟩),vR,.inl rfl,vR,vR,.inr fun u h=>h,trivial⟩) trivial),(kv 0 32),(kv 12 42),(.inr fun LF aF wF F=>by have FK:=F.frame.1;have fj:=F.frame.2;have s41:=F.v 10 41;have s43:=F.v 13 43;have hwk:=(DoJ.parts fj).2;have cb:=Ae hwk 1 _ rfl;have fb:=Ap hwk 1;exact B8 (w':=wF.setCell ⟨bw,1,none⟩ (.int .i64 o.k)) (by simp [Region.wanted]) (by go_simp) ⟨FK.setCell (by simp) cb (Af _) _,DoJ.told NB fj⟩ (By _ ⟨vR,vR,vR,vR,vR,vR,vR,.inr (fun u h=>by first | exact h.setCell cb (Af _) _ | exact ⟨h.choose,h.choose_spec.1,h.choose_spec.2.setCell cb (Af _) _⟩),.inr (fun u h=>by first | exact h.setCell cb (Af _) _ | exact ⟨h.choose,h.choose_spec.1,h.choose_spec.2.setCell cb (Af _) _⟩),.inr (fun u h=>by first | exact h.setCell cb (Af _) _ | exact ⟨h.choose,h.choose_spec.1,h.choose_spec.2.setCell cb (Af _) _⟩),vR,.inr fun u h=>h,vR,vR,.inl rfl,trivial⟩) trivial),
      trivial⟩) ?_
   intro u w1 L1 hL j1 hu;obtain ⟨k1,j1⟩:=j1;have p39:=hp hu 7;have p31:=hp hu 8;have p40:=hp hu 9;simp only [Ax,Al,if_true,Act.put,zlA,zlB,zlC,zlD,zlE,zlF,zlG,hv hu 0,hv hu 1,hv hu 2,hv hu 3,hv hu 4,hv hu 5,hv hu 6,hv hu 10,hv hu 12,hv hu 13];clear hu;generalize u 7=v39,u 8=v31,u 9=v40 at *;have jj:DoJ b9 bw p o.k o.v true true w1:=by
    have jj:=j1;simp only [hL 11 (by decide),hL 14 (by decide)] at jj;exact jj
   clear j1 hL p40 p39 p31 CC;obtain ⟨⟨m1,P1,i1,q1,y1,m2,P2,i2,q2,y2,hb9,hiv⟩,hwk⟩:=jj.parts;have Z:=hid (hiv rfl);have HWK:Hid (Wk w1 bw p o.k):=hid hwk;have h8:=((HR.out.kept KV.out).kb k1 N8);have H8:=hid h8;obtain ⟨-,u0,u1,u2,u3,u4,u5⟩:=h8.facts;obtain ⟨x0,x1,x2,x3,x4,x5⟩:=h8.free;obtain ⟨-,c0,c1,c2,c3,c4,c5⟩:=hb9.facts;have kk:KB w [bw] w1:=((K.out.trans KV.out).kb [bw]).trans k1 (by intro y hy;simp at hy;rcases hy with rfl | rfl;exact .inr (by omega);exact .inl (by simp));have KK:=hid kk;clear kk jj hb9 hiv hwk h8 k1 HI HJ HR HR9 HWW HWV;go_simp;go_wp2_with fail;refine Fy (H8.out.laid _ _ _ _ _ _) rfl rfl rfl ⟨KK.out.trans ((KB.refl w1 [w.heap.size+1+1]).ivW H8.out (by simp) _ _ _ _ _ _) (by intro y hy;simp at hy;exact .inr (by omega)),(Cd _ _ _ _ _ _ _ _ _ (by omega)).trans HWK.out,_,rfl,Z.out.ivW H8.out _ _ _ _ _ _⟩
  by_cases h7:op=7
  ·obtain rfl:=h7;have ho:opI 7 a b p=J1 a b p:=rfl;rw [ho];have CC:=hid (fun w1 (k:KB V [b9,bw] w1)=>OPS.out.sub HS.out ((IA.out.kept (K.out.trans KV.out)).kb k) ((IB.out.kept (K.out.trans KV.out)).kb k) OA.out.1 OA.out.2 ((T.out.kept (K.out.trans KV.out)).kb k NG) p1 p2);clear ho IA IB OA T OPS HS;generalize Bp (J1 a b p)=o at *;generalize a.lo.neg=n1,a.lo.e=e1,a.hi.neg=n2,a.hi.e=e2,b.lo.neg=n3,b.lo.e=e3,b.hi.neg=n4,b.hi.e=e4 at *;go_enter Tryz.func73,Tryz.ntmps73;go_upto_region 1 with fail
   rw [←HW.out];go_upto_region 9 with fail;rw [←HV.out,H9.out]
   refine rK 15 (fun i=>i==11||i==14) ([b9,bw]) (fun L w=>DoJ b9 bw p o.k o.v (L 11) (L 14) w) ([(vP bw 0),(vE (.agg #[.bool n1,.slice A l c,.int .i64 e1,.bool n2,.slice A' l' c',.int .i64 e2])),(vE (.agg #[.bool n3,.slice B j d,.int .i64 e3,.bool n4,.slice B' j' d',.int .i64 e4])),(vP bw 0),(vP bw 0),(vP bw 0),(vE (.int .i64 (p:Int))),(fun v wv=>∃ d,v=.tuple #[d,.int .i64 o.k]∧IvR wv d o.v),(fun v wv=>∃ d,v=.tuple #[d,.int .i64 o.k]∧IvR wv d o.v),(fun v wv=>IvR wv v o.v),(vE (.int .i64 o.k)),(fun v _=>True),(vP bw 0),(vP bw 1),(fun v _=>True)])
    (fun i hE L w w' kq fj=>by simp only [I5 hE 11,I5 hE 14];exact DoJ.kept kq fj) ((by exact ⟨⟨_,_,_,_,_,_,_,_,_,_,HR9.out,fun h=>absurd h (by decide)⟩,HWV.out⟩)) (by exact ⟨
      (kq 0),(kql 6 fun _ k=>c6X HI.out k N6),(kql 7 fun _ k=>c6X HJ.out k N7),(kq 0),(kv 3 50),(kv 4 51),(kp fun _ aF wF F=>by have fj:=F.frame.2;have s52:=F.v 5 52;exact sw (by (have cb:=Ae (DoJ.parts fj).2 0 _ rfl;go_simp)) rfl),(kp fun _ aF wF F=>by have FK:=F.frame.1;have s48:=F.v 1 48;have s49:=F.v 2 49;have s53:=F.v 6 53;exact sP (CC.out _ FK) fun _ _ h=>h),(km 7 54),(kp fun _ aF wF F=>by have s46:=F.p 8 46;obtain ⟨dd,ee,hh⟩:=s46;exact sv hh),(kp fun _ aF wF F=>by have s46:=F.p 8 46;exact sw (by obtain ⟨dd,ee,hh⟩:=s46;go_simp) rfl),(.inr fun LF aF wF F=>by have FK:=F.frame.1;have fj:=F.frame.2;have s9:=F.q 9 (.pointer (some ⟨b9,0,none⟩));have s55:=F.p 9 55;obtain ⟨P1,i1,k1,P2,i2,k2,ee,z1,z2⟩:=Aq s55;simp only [Array.getD_eq_getD_getElem?] at ee;obtain ⟨⟨_,_,_,_,_,_,_,_,_,_,hbb,-⟩,hwk⟩:=DoJ.parts fj;obtain ⟨-,q0,q1,q2,q3,q4,q5⟩:=hbb.facts;obtain ⟨g0,g1,g2,g3,g4,g5⟩:=hbb.free;exact B8 (w':=ivW wF b9 _ _ _ _ _ _) (by simp [Region.wanted]) (by go_simp;rfl) ⟨FK.ivW hbb (by simp) _ _ _ _ _ _,⟨_,_,_,_,_,_,_,_,_,_,hbb.laid _ _ _ _ _ _,fun _=>(show IvR wF (.agg #[_,_,_,_,_,_]) o.v from ⟨_,_,_,_,_,_,rfl,z1,z2⟩).ivW hbb _ _ _ _ _ _⟩,(Cd _ _ _ _ _ _ _ _ _ NB).trans hwk⟩ (By _ ⟨vR,vR,vR,vR,vR,vR,vR,.inr (fun u h=>by first | exact h.ivW hbb _ _ _ _ _ _ | exact ⟨h.choose,h.choose_spec.1,h.choose_spec.2.ivW hbb _ _ _ _ _ _⟩),.inr (fun u h=>by first | exact h.ivW hbb _ _ _ _ _ _ | exact ⟨h.choose,h.choose_spec.1,h.choose_spec.2.ivW hbb _ _ _ _ _ _⟩),.inr (fun u h=>by first | exact h.ivW hbb _ _ _ _ _ _ | exact ⟨h.choose,h.choose_spec.1,h.choose_spec.2.ivW hbb _ _ _ _ _ _⟩),vR,.inl rfl,vR,vR,.inr fun u h=>h,trivial⟩) trivial),(kv 0 47),(kv 12 57),(.inr fun LF aF wF F=>by have FK:=F.frame.1;have fj:=F.frame.2;have s56:=F.v 10 56;have s58:=F.v 13 58;have hwk:=(DoJ.parts fj).2;have cb:=Ae hwk 1 _ rfl;have fb:=Ap hwk 1;exact B8 (w':=wF.setCell ⟨bw,1,none⟩ (.int .i64 o.k)) (by simp [Region.wanted]) (by go_simp) ⟨FK.setCell (by simp) cb (Af _) _,DoJ.told NB fj⟩ (By _ ⟨vR,vR,vR,vR,vR,vR,vR,.inr (fun u h=>by first | exact h.setCell cb (Af _) _ | exact ⟨h.choose,h.choose_spec.1,h.choose_spec.2.setCell cb (Af _) _⟩),.inr (fun u h=>by first | exact h.setCell cb (Af _) _ | exact ⟨h.choose,h.choose_spec.1,h.choose_spec.2.setCell cb (Af _) _⟩),.inr (fun u h=>by first | exact h.setCell cb (Af _) _ | exact ⟨h.choose,h.choose_spec.1,h.choose_spec.2.setCell cb (Af _) _⟩),vR,.inr fun u h=>h,vR,vR,.inl rfl,trivial⟩) trivial),
      trivial⟩) ?_
   intro u w1 L1 hL j1 hu;obtain ⟨k1,j1⟩:=j1;have p54:=hp hu 7;have p46:=hp hu 8;have p55:=hp hu 9;simp only [Ax,Al,if_true,Act.put,zlA,zlB,zlC,zlD,zlE,zlF,zlG,hv hu 0,hv hu 1,hv hu 2,hv hu 3,hv hu 4,hv hu 5,hv hu 6,hv hu 10,hv hu 12,hv hu 13];clear hu;generalize u 7=v54,u 8=v46,u 9=v55 at *;have jj:DoJ b9 bw p o.k o.v true true w1:=by
    have jj:=j1;simp only [hL 11 (by decide),hL 14 (by decide)] at jj;exact jj
   clear j1 hL p55 p54 p46 CC;obtain ⟨⟨m1,P1,i1,q1,y1,m2,P2,i2,q2,y2,hb9,hiv⟩,hwk⟩:=jj.parts;have Z:=hid (hiv rfl);have HWK:Hid (Wk w1 bw p o.k):=hid hwk;have h8:=((HR.out.kept KV.out).kb k1 N8);have H8:=hid h8;obtain ⟨-,u0,u1,u2,u3,u4,u5⟩:=h8.facts;obtain ⟨x0,x1,x2,x3,x4,x5⟩:=h8.free;obtain ⟨-,c0,c1,c2,c3,c4,c5⟩:=hb9.facts;have kk:KB w [bw] w1:=((K.out.trans KV.out).kb [bw]).trans k1 (by intro y hy;simp at hy;rcases hy with rfl | rfl;exact .inr (by omega);exact .inl (by simp));have KK:=hid kk;clear kk jj hb9 hiv hwk h8 k1 HI HJ HR HR9 HWW HWV;go_simp;go_wp2_with fail;refine Fy (H8.out.laid _ _ _ _ _ _) rfl rfl rfl ⟨KK.out.trans ((KB.refl w1 [w.heap.size+1+1]).ivW H8.out (by simp) _ _ _ _ _ _) (by intro y hy;simp at hy;exact .inr (by omega)),(Cd _ _ _ _ _ _ _ _ _ (by omega)).trans HWK.out,_,rfl,Z.out.ivW H8.out _ _ _ _ _ _⟩
  by_cases h8:op=8
  ·obtain rfl:=h8;have ho:opI 8 a b p=Fi a b p:=rfl;rw [ho];have CC:=hid (fun w1 (k:KB V [b9,bw] w1)=>OPS.out.mul HS.out ((IA.out.kept (K.out.trans KV.out)).kb k) ((IB.out.kept (K.out.trans KV.out)).kb k) OA.out.1 OA.out.2 ((T.out.kept (K.out.trans KV.out)).kb k NG) p1 p2);clear ho IA IB OA T OPS HS;generalize Bp (Fi a b p)=o at *;generalize a.lo.neg=n1,a.lo.e=e1,a.hi.neg=n2,a.hi.e=e2,b.lo.neg=n3,b.lo.e=e3,b.hi.neg=n4,b.hi.e=e4 at *;go_enter Tryz.func73,Tryz.ntmps73;go_upto_region 1 with fail
   rw [←HW.out];go_upto_region 11 with fail;rw [←HV.out,H9.out]
   refine rK 15 (fun i=>i==11||i==14) ([b9,bw]) (fun L w=>DoJ b9 bw p o.k o.v (L 11) (L 14) w) ([(vP bw 0),(vE (.agg #[.bool n1,.slice A l c,.int .i64 e1,.bool n2,.slice A' l' c',.int .i64 e2])),(vE (.agg #[.bool n3,.slice B j d,.int .i64 e3,.bool n4,.slice B' j' d',.int .i64 e4])),(vP bw 0),(vP bw 0),(vP bw 0),(vE (.int .i64 (p:Int))),(fun v wv=>∃ d,v=.tuple #[d,.int .i64 o.k]∧IvR wv d o.v),(fun v wv=>∃ d,v=.tuple #[d,.int .i64 o.k]∧IvR wv d o.v),(fun v wv=>IvR wv v o.v),(vE (.int .i64 o.k)),(fun v _=>True),(vP bw 0),(vP bw 1),(fun v _=>True)])
    (fun i hE L w w' kq fj=>by simp only [I5 hE 11,I5 hE 14];exact DoJ.kept kq fj) ((by exact ⟨⟨_,_,_,_,_,_,_,_,_,_,HR9.out,fun h=>absurd h (by decide)⟩,HWV.out⟩)) (by exact ⟨
      (kq 0),(kql 6 fun _ k=>c6X HI.out k N6),(kql 7 fun _ k=>c6X HJ.out k N7),(kq 0),(kv 3 65),(kv 4 66),(kp fun _ aF wF F=>by have fj:=F.frame.2;have s67:=F.v 5 67;exact sw (by (have cb:=Ae (DoJ.parts fj).2 0 _ rfl;go_simp)) rfl),(kp fun _ aF wF F=>by have FK:=F.frame.1;have s63:=F.v 1 63;have s64:=F.v 2 64;have s68:=F.v 6 68;exact sP (CC.out _ FK) fun _ _ h=>h),(km 7 69),(kp fun _ aF wF F=>by have s61:=F.p 8 61;obtain ⟨dd,ee,hh⟩:=s61;exact sv hh),(kp fun _ aF wF F=>by have s61:=F.p 8 61;exact sw (by obtain ⟨dd,ee,hh⟩:=s61;go_simp) rfl),(.inr fun LF aF wF F=>by have FK:=F.frame.1;have fj:=F.frame.2;have s9:=F.q 9 (.pointer (some ⟨b9,0,none⟩));have s70:=F.p 9 70;obtain ⟨P1,i1,k1,P2,i2,k2,ee,z1,z2⟩:=Aq s70;simp only [Array.getD_eq_getD_getElem?] at ee;obtain ⟨⟨_,_,_,_,_,_,_,_,_,_,hbb,-⟩,hwk⟩:=DoJ.parts fj;obtain ⟨-,q0,q1,q2,q3,q4,q5⟩:=hbb.facts;obtain ⟨g0,g1,g2,g3,g4,g5⟩:=hbb.free;exact B8 (w':=ivW wF b9 _ _ _ _ _ _) (by simp [Region.wanted]) (by go_simp;rfl) ⟨FK.ivW hbb (by simp) _ _ _ _ _ _,⟨_,_,_,_,_,_,_,_,_,_,hbb.laid _ _ _ _ _ _,fun _=>(show IvR wF (.agg #[_,_,_,_,_,_]) o.v from ⟨_,_,_,_,_,_,rfl,z1,z2⟩).ivW hbb _ _ _ _ _ _⟩,(Cd _ _ _ _ _ _ _ _ _ NB).trans hwk⟩ (By _ ⟨vR,vR,vR,vR,vR,vR,vR,.inr (fun u h=>by first | exact h.ivW hbb _ _ _ _ _ _ | exact ⟨h.choose,h.choose_spec.1,h.choose_spec.2.ivW hbb _ _ _ _ _ _⟩),.inr (fun u h=>by first | exact h.ivW hbb _ _ _ _ _ _ | exact ⟨h.choose,h.choose_spec.1,h.choose_spec.2.ivW hbb _ _ _ _ _ _⟩),.inr (fun u h=>by first | exact h.ivW hbb _ _ _ _ _ _ | exact ⟨h.choose,h.choose_spec.1,h.choose_spec.2.ivW hbb _ _ _ _ _ _⟩),vR,.inl rfl,vR,vR,.inr fun u h=>h,trivial⟩) trivial),(kv 0 62),(kv 12 72),(.inr fun LF aF wF F=>by have FK:=F.frame.1;have fj:=F.frame.2;have s71:=F.v 10 71;have s73:=F.v 13 73;have hwk:=(DoJ.parts fj).2;have cb:=Ae hwk 1 _ rfl;have fb:=Ap hwk 1;exact B8 (w':=wF.setCell ⟨bw,1,none⟩ (.int .i64 o.k)) (by simp [Region.wanted]) (by go_simp) ⟨FK.setCell (by simp) cb (Af _) _,DoJ.told NB fj⟩ (By _ ⟨vR,vR,vR,vR,vR,vR,vR,.inr (fun u h=>by first | exact h.setCell cb (Af _) _ | exact ⟨h.choose,h.choose_spec.1,h.choose_spec.2.setCell cb (Af _) _⟩),.inr (fun u h=>by first | exact h.setCell cb (Af _) _ | exact ⟨h.choose,h.choose_spec.1,h.choose_spec.2.setCell cb (Af _) _⟩),.inr (fun u h=>by first | exact h.setCell cb (Af _) _ | exact ⟨h.choose,h.choose_spec.1,h.choose_spec.2.setCell cb (Af _) _⟩),vR,.inr fun u h=>h,vR,vR,.inl rfl,trivial⟩) trivial),
      trivial⟩) ?_
   intro u w1 L1 hL j1 hu;obtain ⟨k1,j1⟩:=j1;have p69:=hp hu 7;have p61:=hp hu 8;have p70:=hp hu 9;simp only [Ax,Al,if_true,Act.put,zlA,zlB,zlC,zlD,zlE,zlF,zlG,hv hu 0,hv hu 1,hv hu 2,hv hu 3,hv hu 4,hv hu 5,hv hu 6,hv hu 10,hv hu 12,hv hu 13];clear hu;generalize u 7=v69,u 8=v61,u 9=v70 at *;have jj:DoJ b9 bw p o.k o.v true true w1:=by
    have jj:=j1;simp only [hL 11 (by decide),hL 14 (by decide)] at jj;exact jj
   clear j1 hL p70 p69 p61 CC;obtain ⟨⟨m1,P1,i1,q1,y1,m2,P2,i2,q2,y2,hb9,hiv⟩,hwk⟩:=jj.parts;have Z:=hid (hiv rfl);have HWK:Hid (Wk w1 bw p o.k):=hid hwk;have h8:=((HR.out.kept KV.out).kb k1 N8);have H8:=hid h8;obtain ⟨-,u0,u1,u2,u3,u4,u5⟩:=h8.facts;obtain ⟨x0,x1,x2,x3,x4,x5⟩:=h8.free;obtain ⟨-,c0,c1,c2,c3,c4,c5⟩:=hb9.facts;have kk:KB w [bw] w1:=((K.out.trans KV.out).kb [bw]).trans k1 (by intro y hy;simp at hy;rcases hy with rfl | rfl;exact .inr (by omega);exact .inl (by simp));have KK:=hid kk;clear kk jj hb9 hiv hwk h8 k1 HI HJ HR HR9 HWW HWV;go_simp;go_wp2_with fail;refine Fy (H8.out.laid _ _ _ _ _ _) rfl rfl rfl ⟨KK.out.trans ((KB.refl w1 [w.heap.size+1+1]).ivW H8.out (by simp) _ _ _ _ _ _) (by intro y hy;simp at hy;exact .inr (by omega)),(Cd _ _ _ _ _ _ _ _ _ (by omega)).trans HWK.out,_,rfl,Z.out.ivW H8.out _ _ _ _ _ _⟩
  by_cases h9':op=9
  ·obtain rfl:=h9';have ho:opI 9 a b p=Fu a b p:=rfl;rw [ho];have CC:=hid (fun w1 (k:KB V [b9,bw] w1)=>OPS.out.div HS.out ((IA.out.kept (K.out.trans KV.out)).kb k) ((IB.out.kept (K.out.trans KV.out)).kb k) OA.out.1 OA.out.2 ((T.out.kept (K.out.trans KV.out)).kb k NG) p1 p2);clear ho IA IB OA T OPS HS;generalize Bp (Fu a b p)=o at *;generalize a.lo.neg=n1,a.lo.e=e1,a.hi.neg=n2,a.hi.e=e2,b.lo.neg=n3,b.lo.e=e3,b.hi.neg=n4,b.hi.e=e4 at *;go_enter Tryz.func73,Tryz.ntmps73;go_upto_region 1 with fail
   rw [←HW.out];go_upto_region 13 with fail;rw [←HV.out,H9.out]
   refine rK 15 (fun i=>i==11||i==14) ([b9,bw]) (fun L w=>DoJ b9 bw p o.k o.v (L 11) (L 14) w) ([(vP bw 0),(vE (.agg #[.bool n1,.slice A l c,.int .i64 e1,.bool n2,.slice A' l' c',.int .i64 e2])),(vE (.agg #[.bool n3,.slice B j d,.int .i64 e3,.bool n4,.slice B' j' d',.int .i64 e4])),(vP bw 0),(vP bw 0),(vP bw 0),(vE (.int .i64 (p:Int))),(fun v wv=>∃ d,v=.tuple #[d,.int .i64 o.k]∧IvR wv d o.v),(fun v wv=>∃ d,v=.tuple #[d,.int .i64 o.k]∧IvR wv d o.v),(fun v wv=>IvR wv v o.v),(vE (.int .i64 o.k)),(fun v _=>True),(vP bw 0),(vP bw 1),(fun v _=>True)])
    (fun i hE L w w' kq fj=>by simp only [I5 hE 11,I5 hE 14];exact DoJ.kept kq fj) ((by exact ⟨⟨_,_,_,_,_,_,_,_,_,_,HR9.out,fun h=>absurd h (by decide)⟩,HWV.out⟩)) (by exact ⟨
      (kq 0),(kql 6 fun _ k=>c6X HI.out k N6),(kql 7 fun _ k=>c6X HJ.out k N7),(kq 0),(kv 3 80),(kv 4 81),(kp fun _ aF wF F=>by have fj:=F.frame.2;have s82:=F.v 5 82;exact sw (by (have cb:=Ae (DoJ.parts fj).2 0 _ rfl;go_simp)) rfl),(kp fun _ aF wF F=>by have FK:=F.frame.1;have s78:=F.v 1 78;have s79:=F.v 2 79;have s83:=F.v 6 83;exact sP (CC.out _ FK) fun _ _ h=>h),(km 7 84),(kp fun _ aF wF F=>by have s76:=F.p 8 76;obtain ⟨dd,ee,hh⟩:=s76;exact sv hh),(kp fun _ aF wF F=>by have s76:=F.p 8 76;exact sw (by obtain ⟨dd,ee,hh⟩:=s76;go_simp) rfl),(.inr fun LF aF wF F=>by have FK:=F.frame.1;have fj:=F.frame.2;have s9:=F.q 9 (.pointer (some ⟨b9,0,none⟩));have s85:=F.p 9 85;obtain ⟨P1,i1,k1,P2,i2,k2,ee,z1,z2⟩:=Aq s85;simp only [Array.getD_eq_getD_getElem?] at ee;obtain ⟨⟨_,_,_,_,_,_,_,_,_,_,hbb,-⟩,hwk⟩:=DoJ.parts fj;obtain ⟨-,q0,q1,q2,q3,q4,q5⟩:=hbb.facts;obtain ⟨g0,g1,g2,g3,g4,g5⟩:=hbb.free;exact B8 (w':=ivW wF b9 _ _ _ _ _ _) (by simp [Region.wanted]) (by go_simp;rfl) ⟨FK.ivW hbb (by simp) _ _ _ _ _ _,⟨_,_,_,_,_,_,_,_,_,_,hbb.laid _ _ _ _ _ _,fun _=>(show IvR wF (.agg #[_,_,_,_,_,_]) o.v from ⟨_,_,_,_,_,_,rfl,z1,z2⟩).ivW hbb _ _ _ _ _ _⟩,(Cd _ _ _ _ _ _ _ _ _ NB).trans hwk⟩ (By _ ⟨vR,vR,vR,vR,vR,vR,vR,.inr (fun u h=>by first | exact h.ivW hbb _ _ _ _ _ _ | exact ⟨h.choose,h.choose_spec.1,h.choose_spec.2.ivW hbb _ _ _ _ _ _⟩),.inr (fun u h=>by first | exact h.ivW hbb _ _ _ _ _ _ | exact ⟨h.choose,h.choose_spec.1,h.choose_spec.2.ivW hbb _ _ _ _ _ _⟩),.inr (fun u h=>by first | exact h.ivW hbb _ _ _ _ _ _ | exact ⟨h.choose,h.choose_spec.1,h.choose_spec.2.ivW hbb _ _ _ _ _ _⟩),vR,.inl rfl,vR,vR,.inr fun u h=>h,trivial⟩) trivial),(kv 0 77),(kv 12 87),(.inr fun LF aF wF F=>by have FK:=F.frame.1;have fj:=F.frame.2;have s86:=F.v 10 86;have s88:=F.v 13 88;have hwk:=(DoJ.parts fj).2;have cb:=Ae hwk 1 _ rfl;have fb:=Ap hwk 1;exact B8 (w':=wF.setCell ⟨bw,1,none⟩ (.int .i64 o.k)) (by simp [Region.wanted]) (by go_simp) ⟨FK.setCell (by simp) cb (Af _) _,DoJ.told NB fj⟩ (By _ ⟨vR,vR,vR,vR,vR,vR,vR,.inr (fun u h=>by first | exact h.setCell cb (Af _) _ | exact ⟨h.choose,h.choose_spec.1,h.choose_spec.2.setCell cb (Af _) _⟩),.inr (fun u h=>by first | exact h.setCell cb (Af _) _ | exact ⟨h.choose,h.choose_spec.1,h.choose_spec.2.setCell cb (Af _) _⟩),.inr (fun u h=>by first | exact h.setCell cb (Af _) _ | exact ⟨h.choose,h.choose_spec.1,h.choose_spec.2.setCell cb (Af _) _⟩),vR,.inr fun u h=>h,vR,vR,.inl rfl,trivial⟩) trivial),
      trivial⟩) ?_
   intro u w1 L1 hL j1 hu;obtain ⟨k1,j1⟩:=j1;have p84:=hp hu 7;have p76:=hp hu 8;have p85:=hp hu 9;simp only [Ax,Al,if_true,Act.put,zlA,zlB,zlC,zlD,zlE,zlF,zlG,hv hu 0,hv hu 1,hv hu 2,hv hu 3,hv hu 4,hv hu 5,hv hu 6,hv hu 10,hv hu 12,hv hu 13];clear hu;generalize u 7=v84,u 8=v76,u 9=v85 at *;have jj:DoJ b9 bw p o.k o.v true true w1:=by
    have jj:=j1;simp only [hL 11 (by decide),hL 14 (by decide)] at jj;exact jj
   clear j1 hL p85 p84 p76 CC;obtain ⟨⟨m1,P1,i1,q1,y1,m2,P2,i2,q2,y2,hb9,hiv⟩,hwk⟩:=jj.parts;have Z:=hid (hiv rfl);have HWK:Hid (Wk w1 bw p o.k):=hid hwk;have h8:=((HR.out.kept KV.out).kb k1 N8);have H8:=hid h8;obtain ⟨-,u0,u1,u2,u3,u4,u5⟩:=h8.facts;obtain ⟨x0,x1,x2,x3,x4,x5⟩:=h8.free;obtain ⟨-,c0,c1,c2,c3,c4,c5⟩:=hb9.facts;have kk:KB w [bw] w1:=((K.out.trans KV.out).kb [bw]).trans k1 (by intro y hy;simp at hy;rcases hy with rfl | rfl;exact .inr (by omega);exact .inl (by simp));have KK:=hid kk;clear kk jj hb9 hiv hwk h8 k1 HI HJ HR HR9 HWW HWV;go_simp;go_wp2_with fail;refine Fy (H8.out.laid _ _ _ _ _ _) rfl rfl rfl ⟨KK.out.trans ((KB.refl w1 [w.heap.size+1+1]).ivW H8.out (by simp) _ _ _ _ _ _) (by intro y hy;simp at hy;exact .inr (by omega)),(Cd _ _ _ _ _ _ _ _ _ (by omega)).trans HWK.out,_,rfl,Z.out.ivW H8.out _ _ _ _ _ _⟩
  have ho:opI op a b p=Kk a p:=by unfold opI;rw [if_neg h6,if_neg h7,if_neg h8,if_neg h9']
  rw [ho];have CC:=hid (fun w1 (k:KB V [b9,bw] w1)=>OPS.out.neg (by have h:=HS.out;unfold DoS at h;rwa [if_neg (by omega)] at h) ((IA.out.kept (K.out.trans KV.out)).kb k) OA.out.1 ((T.out.kept (K.out.trans KV.out)).kb k NG) p1 p2);have g6:(op==6)=false:=by simp [h6]
  have g7:(op==7)=false:=by simp [h7]
  have g8:(op==8)=false:=by simp [h8]
  have g9:(op==9)=false:=by simp [h9']
  clear ho IA IB OA T h6 h7 h8 h9' OPS HS;generalize Bp (Kk a p)=o at *;generalize a.lo.neg=n1,a.lo.e=e1,a.hi.neg=n2,a.hi.e=e2,b.lo.neg=n3,b.lo.e=e3,b.hi.neg=n4,b.hi.e=e4 at *;go_enter Tryz.func73,Tryz.ntmps73;go_upto_region 1 with fail;rw [←HW.out];go_upto_region 5 with fail;rw [←HV.out,H9.out]
  refine rK 14 (fun i=>i==10||i==13) ([b9,bw]) (fun L w=>DoJ b9 bw p o.k o.v (L 10) (L 13) w) ([(vP bw 0),(vE (.agg #[.bool n1,.slice A l c,.int .i64 e1,.bool n2,.slice A' l' c',.int .i64 e2])),(vP bw 0),(vP bw 0),(vP bw 0),(vE (.int .i64 (p:Int))),(fun v wv=>∃ d,v=.tuple #[d,.int .i64 o.k]∧IvR wv d o.v),(fun v wv=>∃ d,v=.tuple #[d,.int .i64 o.k]∧IvR wv d o.v),(fun v wv=>IvR wv v o.v),(vE (.int .i64 o.k)),(fun v _=>True),(vP bw 0),(vP bw 1),(fun v _=>True)])
   (fun i hE L w w' kq fj=>by simp only [I5 hE 10,I5 hE 13];exact DoJ.kept kq fj) ((by exact ⟨⟨_,_,_,_,_,_,_,_,_,_,HR9.out,fun h=>absurd h (by decide)⟩,HWV.out⟩)) (by exact ⟨
     (kq 0),(kql 6 fun _ k=>c6X HI.out k N6),(kq 0),(kv 2 20),(kv 3 21),(kp fun _ aF wF F=>by have fj:=F.frame.2;have s22:=F.v 4 22;exact sw (by (have cb:=Ae (DoJ.parts fj).2 0 _ rfl;go_simp)) rfl),(kp fun _ aF wF F=>by have FK:=F.frame.1;have s19:=F.v 1 19;have s23:=F.v 5 23;exact sP (CC.out _ FK) fun _ _ h=>h),(km 6 24),(kp fun _ aF wF F=>by have s17:=F.p 7 17;obtain ⟨dd,ee,hh⟩:=s17;exact sv hh),(kp fun _ aF wF F=>by have s17:=F.p 7 17;exact sw (by obtain ⟨dd,ee,hh⟩:=s17;go_simp) rfl),(.inr fun LF aF wF F=>by have FK:=F.frame.1;have fj:=F.frame.2;have s9:=F.q 9 (.pointer (some ⟨b9,0,none⟩));have s25:=F.p 8 25;obtain ⟨P1,i1,k1,P2,i2,k2,ee,z1,z2⟩:=Aq s25;simp only [Array.getD_eq_getD_getElem?] at ee;obtain ⟨⟨_,_,_,_,_,_,_,_,_,_,hbb,-⟩,hwk⟩:=DoJ.parts fj;obtain ⟨-,q0,q1,q2,q3,q4,q5⟩:=hbb.facts;obtain ⟨g0,g1,g2,g3,g4,g5⟩:=hbb.free;exact B8 (w':=ivW wF b9 _ _ _ _ _ _) (by simp [Region.wanted]) (by go_simp;rfl) ⟨FK.ivW hbb (by simp) _ _ _ _ _ _,⟨_,_,_,_,_,_,_,_,_,_,hbb.laid _ _ _ _ _ _,fun _=>(show IvR wF (.agg #[_,_,_,_,_,_]) o.v from ⟨_,_,_,_,_,_,rfl,z1,z2⟩).ivW hbb _ _ _ _ _ _⟩,(Cd _ _ _ _ _ _ _ _ _ NB).trans hwk⟩ (By _ ⟨vR,vR,vR,vR,vR,vR,.inr (fun u h=>by first | exact h.ivW hbb _ _ _ _ _ _ | exact ⟨h.choose,h.choose_spec.1,h.choose_spec.2.ivW hbb _ _ _ _ _ _⟩),.inr (fun u h=>by first | exact h.ivW hbb _ _ _ _ _ _ | exact ⟨h.choose,h.choose_spec.1,h.choose_spec.2.ivW hbb _ _ _ _ _ _⟩),.inr (fun u h=>by first | exact h.ivW hbb _ _ _ _ _ _ | exact ⟨h.choose,h.choose_spec.1,h.choose_spec.2.ivW hbb _ _ _ _ _ _⟩),vR,.inl rfl,vR,vR,.inr fun u h=>h,trivial⟩) trivial),(kv 0 18),(kv 11 27),(.inr fun LF aF wF F=>by have FK:=F.frame.1;have fj:=F.frame.2;have s26:=F.v 9 26;have s28:=F.v 12 28;have hwk:=(DoJ.parts fj).2;have cb:=Ae hwk 1 _ rfl;have fb:=Ap hwk 1;exact B8 (w':=wF.setCell ⟨bw,1,none⟩ (.int .i64 o.k)) (by simp [Region.wanted]) (by go_simp) ⟨FK.setCell (by simp) cb (Af _) _,DoJ.told NB fj⟩ (By _ ⟨vR,vR,vR,vR,vR,vR,.inr (fun u h=>by first | exact h.setCell cb (Af _) _ | exact ⟨h.choose,h.choose_spec.1,h.choose_spec.2.setCell cb (Af _) _⟩),.inr (fun u h=>by first | exact h.setCell cb (Af _) _ | exact ⟨h.choose,h.choose_spec.1,h.choose_spec.2.setCell cb (Af _) _⟩),.inr (fun u h=>by first | exact h.setCell cb (Af _) _ | exact ⟨h.choose,h.choose_spec.1,h.choose_spec.2.setCell cb (Af _) _⟩),vR,.inr fun u h=>h,vR,vR,.inl rfl,trivial⟩) trivial),
     trivial⟩) ?_
  intro u w1 L1 hL j1 hu;obtain ⟨k1,j1⟩:=j1;have p24:=hp hu 6;have p17:=hp hu 7;have p25:=hp hu 8;simp only [Ax,Al,if_true,Act.put,zlA,zlB,zlC,zlD,zlE,zlF,zlG,hv hu 0,hv hu 1,hv hu 2,hv hu 3,hv hu 4,hv hu 5,hv hu 9,hv hu 11,hv hu 12];clear hu;generalize u 6=v24,u 7=v17,u 8=v25 at *;have jj:DoJ b9 bw p o.k o.v true true w1:=by
   have jj:=j1;simp only [hL 10 (by decide),hL 13 (by decide)] at jj;exact jj
  clear j1 hL p25 p24 p17 CC;obtain ⟨⟨m1,P1,i1,q1,y1,m2,P2,i2,q2,y2,hb9,hiv⟩,hwk⟩:=jj.parts;have Z:=hid (hiv rfl);have HWK:Hid (Wk w1 bw p o.k):=hid hwk;have h8:=((HR.out.kept KV.out).kb k1 N8);have H8:=hid h8;obtain ⟨-,u0,u1,u2,u3,u4,u5⟩:=h8.facts;obtain ⟨x0,x1,x2,x3,x4,x5⟩:=h8.free;obtain ⟨-,c0,c1,c2,c3,c4,c5⟩:=hb9.facts;have kk:KB w [bw] w1:=((K.out.trans KV.out).kb [bw]).trans k1 (by intro y hy;simp at hy;rcases hy with rfl | rfl;exact .inr (by omega);exact .inl (by simp));have KK:=hid kk;clear kk jj hb9 hiv hwk h8 k1 HI HJ HR HR9 HWW HWV;go_simp;go_wp2_with fail;refine Fy (H8.out.laid _ _ _ _ _ _) rfl rfl rfl ⟨KK.out.trans ((KB.refl w1 [w.heap.size+1+1]).ivW H8.out (by simp) _ _ _ _ _ _) (by intro y hy;simp at hy;exact .inr (by omega)),(Cd _ _ _ _ _ _ _ _ _ (by omega)).trans HWK.out,_,rfl,Z.out.ivW H8.out _ _ _ _ _ _⟩
 ·have hdo:Bp (doI op a b p e)=⟨rzI,e⟩:=by unfold doI;rw [if_neg he];exact congrArg (Outc.mk · e) Nj
  rw [hdo];have he':(e != 0)=true:=by simp [he]
  obtain ⟨-,r0,r1,r2,r3,r4,r5⟩:=HR.out.facts;obtain ⟨f0,f1,f2,f3,f4,f5⟩:=HR.out.free;clear hdo he IA IB OA T OPS HS HI HJ HR9 HV HWV KV;generalize a.lo.neg=n1,a.lo.e=e1,a.hi.neg=n2,a.hi.e=e2,b.lo.neg=n3,b.lo.e=e3,b.hi.neg=n4,b.hi.e=e4 at *;go_enter Tryz.func73,Tryz.ntmps73;go_upto_region 1 with fail;rw [←HW.out];go_wp2_with fail;refine Fy (HR.out.laid _ _ _ _ _ _) rfl rfl rfl ⟨Kept.kb (Bm K.out (by omega)) _,?_,_,rfl,Ep _⟩;exact (Cd _ _ _ _ _ _ _ _ _ (by omega)).trans HWW.out
theorem Alz {a b:Iv}(ha:a.Ok)(hb:b.Ok)(hp:1≤p):OkI (opI op a b p):=by
 unfold opI;split
 ·exact Vp ha hb hp
 split
 ·exact Acy ha hb hp
 split
 ·exact Ace hp
 split
 ·exact Abw hb hp
 ·exact Ach ha hp
theorem Dk {a b:Iv}(ha:a.Ok)(hb:b.Ok)(hp:1≤p)(e:Int):(doI op a b p e).v.Ok:=by
 unfold doI;split
 ·exact (Alz ha hb hp).1
 ·exact Sm
theorem J3:two.Ok:=Yn Am3
def OneJ (b14 bw:Nat) (p e k1 k2:Int) (r:RawI) (l1 l2 l3:Bool) (w:World):Prop :=
 (∃ n A l c d n' A' l' c' d',BlkI w b14 (.bool n) (.slice A l c) (.int .i64 d) (.bool n') (.slice A' l' c') (.int .i64 d')∧(l3=true→IvR w (.agg #[.bool n,.slice A l c,.int .i64 d,.bool n',.slice A' l' c',.int .i64 d']) r)) ∧
   Wk w bw p (if l1 then (if l2 then k2 else k1) else e)∧(l2=true→l1=true)
theorem OneJ.parts {p:Int}(h:OneJ b14 bw p e k1 k2 r l1 l2 l3 w) :
 (∃ n A l c d n' A' l' c' d',BlkI w b14 (.bool n) (.slice A l c) (.int .i64 d) (.bool n') (.slice A' l' c') (.int .i64 d')∧(l3=true→IvR w (.agg #[.bool n,.slice A l c,.int .i64 d,.bool n',.slice A' l' c',.int .i64 d']) r)) ∧
   Wk w bw p (if l1 then (if l2 then k2 else k1) else e)∧(l2=true→l1=true):=h
theorem OneJ.kept {p:Int}(q:Kept w w')(h:OneJ b14 bw p e k1 k2 r l1 l2 l3 w):OneJ b14 bw p e k1 k2 r l1 l2 l3 w':=by
 obtain ⟨⟨n,A,l,c,d,n',A',l',c',d',h1,h2⟩,h3,h4⟩:=h;exact ⟨⟨n,A,l,c,d,n',A',l',c',d',h1.kept q,fun hl=>(h2 hl).kept q⟩,h3.kept q,h4⟩
theorem OneJ.first {p:Int}(hne:¬b14=bw)(h:OneJ b14 bw p e k1 k2 r l1 l2 l3 w)(hl:l1=false)(k:KB w [bw] w')(hw:Wk w' bw p k1):OneJ b14 bw p e k1 k2 r true l2 l3 w':=by
 obtain ⟨⟨n,A,l,c,d,n',A',l',c',d',h1,h2⟩,h3,h4⟩:=h;refine ⟨⟨n,A,l,c,d,n',A',l',c',d',h1.kb k (by simpa using hne),fun hl=>(h2 hl).kb k⟩,?_,fun _=>rfl⟩;cases l2
 ·exact hw
 ·exact absurd (h4 rfl) (by simp [hl])
theorem OneJ.second {p:Int}(hne:¬b14=bw)(h:OneJ b14 bw p e k1 k2 r l1 l2 l3 w)(hl:l1=true)(k:KB w [bw] w')(hw:Wk w' bw p k2):OneJ b14 bw p e k1 k2 r l1 true l3 w':=by
 obtain ⟨⟨n,A,l,c,d,n',A',l',c',d',h1,h2⟩,h3,h4⟩:=h;refine ⟨⟨n,A,l,c,d,n',A',l',c',d',h1.kb k (by simpa using hne),fun hl=>(h2 hl).kb k⟩,?_,fun _=>hl⟩;rw [hl];exact hw
theorem OneJ.laid {p:Int}(hne:¬b14=bw)(h:OneJ b14 bw p e k1 k2 r l1 l2 l3 w){n:Bool}{l c:Nat}{d d':Int}
 (hr:IvR w (.agg #[.bool n,.slice A l c,.int .i64 d,.bool n',.slice A' l' c',.int .i64 d']) r):OneJ b14 bw p e k1 k2 r l1 l2 true (ivW w b14 (.bool n) (.slice A l c) (.int .i64 d) (.bool n') (.slice A' l' c') (.int .i64 d')):=by
 obtain ⟨⟨n1,A1,i1,c1,d1,n1',A1',i1',c1',d1',h1,h2⟩,h3,h4⟩:=h;exact ⟨⟨n,A,l,c,d,n',A',l',c',d',h1.laid _ _ _ _ _ _,fun _=>hr.ivW h1 _ _ _ _ _ _⟩,(Cd _ _ _ _ _ _ _ _ _ (fun h=>hne h.symm)).trans h3,h4⟩
theorem OneJ.done {p:Int}(h:OneJ b14 bw p e k1 k2 r true true true w) :
 (∃ n A l c d n' A' l' c' d',BlkI w b14 (.bool n) (.slice A l c) (.int .i64 d) (.bool n') (.slice A' l' c') (.int .i64 d')∧IvR w (.agg #[.bool n,.slice A l c,.int .i64 d,.bool n',.slice A' l' c',.int .i64 d']) r)∧Wk w bw p k2:=by
 obtain ⟨⟨n,A,l,c,d,n',A',l',c',d',h1,h2⟩,h3,h4⟩:=h;exact ⟨⟨n,A,l,c,d,n',A',l',c',d',h1,h2 rfl⟩,h3⟩
theorem Amv (w:World)(a0 a1 a2 a3 a4 a5 b0 b1 b2 b3 b4 b5 c0 c1 c2 c3 c4 c5 d0 d1 d2 d3 d4 d5 e0 e1 e2 e3 e4 e5:Value) :
 ∃ W,W=(((((w.alloc (.cells #[a0,a1,a2,a3,a4,a5] 30)).alloc (.cells #[b0,b1,b2,b3,b4,b5] 30)).alloc (.cells #[c0,c1,c2,c3,c4,c5] 30)).alloc (.cells #[d0,d1,d2,d3,d4,d5] 30)).alloc (.cells #[e0,e1,e2,e3,e4,e5] 30)).alloc (.cells #[.bool false,.slice none 0 0,.int .i64 0,.bool false,.slice none 0 0,.int .i64 0] 30) ∧
 Kept w W∧W.heap.size=w.heap.size+1+1+1+1+1+1∧BlkI W w.heap.size a0 a1 a2 a3 a4 a5∧BlkI W (w.heap.size+1) b0 b1 b2 b3 b4 b5∧BlkI W (w.heap.size+1+1) c0 c1 c2 c3 c4 c5∧BlkI W (w.heap.size+1+1+1) d0 d1 d2 d3 d4 d5∧BlkI W (w.heap.size+1+1+1+1) e0 e1 e2 e3 e4 e5 ∧
 BlkI W (w.heap.size+1+1+1+1+1) (.bool false) (.slice none 0 0) (.int .i64 0) (.bool false) (.slice none 0 0) (.int .i64 0):=by
 have st:∀ (v:World) (n:Nat) (x0 x1 x2 x3 x4 x5:Value),v.heap.size=n→BlkI (v.alloc (.cells #[x0,x1,x2,x3,x4,x5] 30)) n x0 x1 x2 x3 x4 x5∧(v.alloc (.cells #[x0,x1,x2,x3,x4,x5] 30)).heap.size=n+1∧Kept v (v.alloc (.cells #[x0,x1,x2,x3,x4,x5] 30)):=by
  intro v n x0 x1 x2 x3 x4 x5 h;subst h;exact ⟨Eo _ _ _ _ _ _ _,by simp,Ad _ _⟩
 obtain ⟨w1,h1⟩:∃ v,v=w.alloc (.cells #[a0,a1,a2,a3,a4,a5] 30):=⟨_,rfl⟩;obtain ⟨p1,q1,k1⟩:=st w _ a0 a1 a2 a3 a4 a5 rfl;rw [←h1] at p1 q1 k1 ⊢;obtain ⟨w2,h2⟩:∃ v,v=w1.alloc (.cells #[b0,b1,b2,b3,b4,b5] 30):=⟨_,rfl⟩;obtain ⟨p2,q2,k2⟩:=st w1 _ b0 b1 b2 b3 b4 b5 q1;rw [←h2] at p2 q2 k2 ⊢;obtain ⟨w3,h3⟩:∃ v,v=w2.alloc (.cells #[c0,c1,c2,c3,c4,c5] 30):=⟨_,rfl⟩;obtain ⟨p3,q3,k3⟩:=st w2 _ c0 c1 c2 c3 c4 c5 q2;rw [←h3] at p3 q3 k3 ⊢;obtain ⟨w4,h4⟩:∃ v,v=w3.alloc (.cells #[d0,d1,d2,d3,d4,d5] 30):=⟨_,rfl⟩;obtain ⟨p4,q4,k4⟩:=st w3 _ d0 d1 d2 d3 d4 d5 q3;rw [←h4] at p4 q4 k4 ⊢;obtain ⟨w5,h5⟩:∃ v,v=w4.alloc (.cells #[e0,e1,e2,e3,e4,e5] 30):=⟨_,rfl⟩
 obtain ⟨p5,q5,k5⟩:=st w4 _ e0 e1 e2 e3 e4 e5 q4;rw [←h5] at p5 q5 k5 ⊢;obtain ⟨p6,q6,k6⟩:=st w5 _ (.bool false) (.slice none 0 0) (.int .i64 0) (.bool false) (.slice none 0 0) (.int .i64 0) q5;exact ⟨_,rfl,((((k1.trans k2).trans k3).trans k4).trans k5).trans k6,q6,((((p1.kept k2).kept k3).kept k4).kept k5).kept k6,(((p2.kept k3).kept k4).kept k5).kept k6,((p3.kept k4).kept k5).kept k6,(p4.kept k5).kept k6,p5.kept k6,p6⟩
theorem Ang {vc vd ve:Value}{a b c da:Iv}(hw:Wk w bw p e)(ha:IvC w va a)(hb:IvC w vb b)(hc:IvC w vc c)(hd:IvC w vd da)(he:IvC w ve db)
 (oa:a.Ok) (ob:b.Ok) (oc:c.Ok) (od:da.Ok) (oe:db.Ok) (hT:Tab w) (p1:1≤p) (p2:p≤2000) (O:Zt S) (hD:Ahz S op) :
 Calls Tryz.prog 37 #[.pointer (some ⟨bw,0,none⟩),.int .i64 op,va,vb,vc,vd,ve] w (Abm bw p (Bp (Hk p op a b c da db e)) w):=by
 obtain ⟨a0,a1,a2,a3,a4,a5,rfl,-,-⟩:=(show IvR _ _ _ from ha);obtain ⟨b0,b1,b2,b3,b4,b5,rfl,-,-⟩:=(show IvR _ _ _ from hb);obtain ⟨c0,c1,c2,c3,c4,c5,rfl,-,-⟩:=(show IvR _ _ _ from hc);obtain ⟨d0,d1,d2,d3,d4,d5,rfl,-,-⟩:=(show IvR _ _ _ from hd);obtain ⟨e0,e1,e2,e3,e4,e5,rfl,-,-⟩:=(show IvR _ _ _ from he);have OPS:=hid O;have DER:=hid hD;clear O hD;have OA:=hid oa;have OB:=hid ob;have OC:=hid oc;have OD:=hid od;have OE:=hid oe;have lw:=hw.lt;have gl:=hT.lt;have gn:0≠bw:=hT.ne (Ae hw 0 _ rfl) (by intro y h;cases h);obtain ⟨W,hW,kW,lW,B9,B10,B11,B12,B13,B14⟩:=Amv w a0 a1 a2 a3 a4 a5 b0 b1 b2 b3 b4 b5 c0 c1 c2 c3 c4 c5 d0 d1 d2 d3 d4 d5 e0 e1 e2 e3 e4 e5
 have PC:=hid (show Calls Tryz.prog 36 #[.int .i64 2] W (RetI (pt (Bu false 2 0).v).raw W) from Zf (n:=2) (by decide) (hT.kept kW));rw [Am6] at PC;have HW:=hid hW;go_enter Tryz.func37,Tryz.ntmps37;go_upto_region 1 with fail;rw [←HW.out];clear HW hW oa ob oc od oe;go_wp2_with fail;refine PC.out.mono ?_;rintro e' w2 ⟨q,u,rfl,hp⟩;obtain ⟨T1,jt,yt,T2,js,ys,rfl,-,-⟩:=Aq hp;simp only [];obtain ⟨t0,ht0⟩:∃ x,x=(pt dt).raw.lo.neg:=⟨_,rfl⟩;obtain ⟨t2,ht2⟩:∃ x,x=(pt dt).raw.lo.e:=⟨_,rfl⟩;obtain ⟨t3,ht3⟩:∃ x,x=(pt dt).raw.hi.neg:=⟨_,rfl⟩;obtain ⟨t5,ht5⟩:∃ x,x=(pt dt).raw.hi.e:=⟨_,rfl⟩;rw [←ht0,←ht2,←ht3,←ht5] at hp ⊢
 clear ht0 ht2 ht3 ht5;obtain ⟨V,hV,kV,B15,lV⟩:=Ae4 w2 (.bool t0) (.slice T1 jt yt) (.int .i64 t2) (.bool t3) (.slice T2 js ys) (.int .i64 t5);have kk:=q.trans kV;have K:=hid (kW.trans kk);have H9:=hid (B9.kept kk);have H10:=hid (B10.kept kk);have H11:=hid (B11.kept kk);have H12:=hid (B12.kept kk);have H13:=hid (B13.kept kk);have H14:=hid (B14.kept kk);have H15:=hid B15;have IA:=hid (IvC.kept ha K.out);have IB:=hid (IvC.kept hb K.out);have IC:=hid (IvC.kept hc K.out);have ID:=hid (IvC.kept hd K.out);have IE:=hid (IvC.kept he K.out);have IT:=hid (show IvC V _ two from hp.kept kV);have WK:=hid (hw.kept K.out)
 have T:=hid (hT.kept K.out);have lq:=q.size;have NG:0∉[bw]:=by simpa using gn
 go_upto_region 2 with fail;rw [←hV];clear hV kW q kk kV B9 B10 B11 B12 B13 B14 B15 ha hb hc hd he hp hw hT PC;have N9:w.heap.size∉[bw]:=by simp;omega
 have N10:w.heap.size+1∉[bw]:=by simp;omega
 have N11:w.heap.size+1+1∉[bw]:=by simp;omega
 have N12:w.heap.size+1+1+1∉[bw]:=by simp;omega
 have N13:w.heap.size+1+1+1+1∉[bw]:=by simp;omega
 have N14:w.heap.size+1+1+1+1+1∉[bw]:=by simp;omega
 have N15:w2.heap.size∉[bw]:=by simp;omega
 have M9:w.heap.size∉[w.heap.size+1+1+1+1+1,bw]:=by simp;omega
 have M10:w.heap.size+1∉[w.heap.size+1+1+1+1+1,bw]:=by simp;omega
 have M11:w.heap.size+1+1∉[w.heap.size+1+1+1+1+1,bw]:=by simp;omega
 have M12:w.heap.size+1+1+1∉[w.heap.size+1+1+1+1+1,bw]:=by simp;omega
 have M13:w.heap.size+1+1+1+1∉[w.heap.size+1+1+1+1+1,bw]:=by simp;omega
 have M15:w2.heap.size∉[w.heap.size+1+1+1+1+1,bw]:=by simp;omega
 have MG:0∉[w.heap.size+1+1+1+1+1,bw]:=by simp;omega
 have NE:¬w.heap.size+1+1+1+1+1=bw:=by omega
 generalize g14:w.heap.size+1+1+1+1+1=b14 at *;generalize g13:w.heap.size+1+1+1+1=b13 at *;generalize g12:w.heap.size+1+1+1=b12 at *;generalize g11:w.heap.size+1+1=b11 at *;generalize g10:w.heap.size+1=b10 at *;generalize g9:w.heap.size=b9,g15:w2.heap.size=b15 at *;by_cases h67:op=6∨op=7∨op=10
 ·have ho:Hk p op a b c da db e=doI op da db p e:=by unfold Hk;rw [if_pos h67]
  rw [ho];rcases h67 with rfl | rfl | rfl
  ·
   have D:=hid (Pb (op:=6) WK.out ID.out IE.out OD.out OE.out T.out p1 p2 OPS.out (DER.out 6 (by decide)));clear ho H9 H10 H11 H15 IT IA IB IC;obtain ⟨-,f0,f1,f2,f3,f4,f5⟩:=H12.out.facts;obtain ⟨-,g0,g1,g2,g3,g4,g5⟩:=H13.out.facts;go_wp2_with fail;refine D.out.mono ?_;rintro e' w3 ⟨kb,hwk,u,rfl,hv⟩;obtain ⟨P1,i1,q1,P2,i2,q2,rfl,z1,z2⟩:=Aq hv;have h14:=H14.out.kb kb N14;obtain ⟨-,r0,r1,r2,r3,r4,r5⟩:=h14.facts;obtain ⟨x0,x1,x2,x3,x4,x5⟩:=h14.free;have HB:=hid h14;have Z:=hid hv;have KK:=hid ((K.out.kb [bw]).trans kb (by intro y hy;exact .inl hy));have WW:=hid hwk;clear h14 hv z1 z2 kb hwk D f0 f1 f2 f3 f4 f5 g0 g1 g2 g3 g4 g5 T WK
   simp only [];go_wp2_with fail;refine Fy (HB.out.laid _ _ _ _ _ _) rfl rfl rfl ⟨KK.out.trans ((KB.refl w3 [b14]).ivW HB.out (by simp) _ _ _ _ _ _) (by intro y hy;simp at hy;exact .inr (by omega)),(Cd _ _ _ _ _ _ _ _ _ (by omega)).trans WW.out,_,rfl,Z.out.ivW HB.out _ _ _ _ _ _⟩
  ·
   have D:=hid (Pb (op:=7) WK.out ID.out IE.out OD.out OE.out T.out p1 p2 OPS.out (DER.out 7 (by decide)));clear ho H9 H10 H11 H15 IT IA IB IC;obtain ⟨-,f0,f1,f2,f3,f4,f5⟩:=H12.out.facts;obtain ⟨-,g0,g1,g2,g3,g4,g5⟩:=H13.out.facts;go_wp2_with fail;refine D.out.mono ?_;rintro e' w3 ⟨kb,hwk,u,rfl,hv⟩;obtain ⟨P1,i1,q1,P2,i2,q2,rfl,z1,z2⟩:=Aq hv;have h14:=H14.out.kb kb N14;obtain ⟨-,r0,r1,r2,r3,r4,r5⟩:=h14.facts;obtain ⟨x0,x1,x2,x3,x4,x5⟩:=h14.free;have HB:=hid h14;have Z:=hid hv;have KK:=hid ((K.out.kb [bw]).trans kb (by intro y hy;exact .inl hy));have WW:=hid hwk;clear h14 hv z1 z2 kb hwk D f0 f1 f2 f3 f4 f5 g0 g1 g2 g3 g4 g5 T WK
   simp only [];go_wp2_with fail;refine Fy (HB.out.laid _ _ _ _ _ _) rfl rfl rfl ⟨KK.out.trans ((KB.refl w3 [b14]).ivW HB.out (by simp) _ _ _ _ _ _) (by intro y hy;simp at hy;exact .inr (by omega)),(Cd _ _ _ _ _ _ _ _ _ (by omega)).trans WW.out,_,rfl,Z.out.ivW HB.out _ _ _ _ _ _⟩
  ·
   have D:=hid (Pb (op:=10) WK.out ID.out IE.out OD.out OE.out T.out p1 p2 OPS.out (DER.out 10 (by decide)));clear ho H9 H10 H11 H15 IT IA IB IC;obtain ⟨-,f0,f1,f2,f3,f4,f5⟩:=H12.out.facts;obtain ⟨-,g0,g1,g2,g3,g4,g5⟩:=H13.out.facts;go_wp2_with fail;refine D.out.mono ?_;rintro e' w3 ⟨kb,hwk,u,rfl,hv⟩;obtain ⟨P1,i1,q1,P2,i2,q2,rfl,z1,z2⟩:=Aq hv;have h14:=H14.out.kb kb N14;obtain ⟨-,r0,r1,r2,r3,r4,r5⟩:=h14.facts;obtain ⟨x0,x1,x2,x3,x4,x5⟩:=h14.free;have HB:=hid h14;have Z:=hid hv;have KK:=hid ((K.out.kb [bw]).trans kb (by intro y hy;exact .inl hy));have WW:=hid hwk;clear h14 hv z1 z2 kb hwk D f0 f1 f2 f3 f4 f5 g0 g1 g2 g3 g4 g5 T WK
   simp only [];go_wp2_with fail;refine Fy (HB.out.laid _ _ _ _ _ _) rfl rfl rfl ⟨KK.out.trans ((KB.refl w3 [b14]).ivW HB.out (by simp) _ _ _ _ _ _) (by intro y hy;simp at hy;exact .inr (by omega)),(Cd _ _ _ _ _ _ _ _ _ (by omega)).trans WW.out,_,rfl,Z.out.ivW HB.out _ _ _ _ _ _⟩
 by_cases h13:op=13
 ·obtain rfl:=h13;have ho:Hk p 13 a b c da db e=doI 8 c da p e:=rfl;rw [ho];have D:=hid (Pb (op:=8) WK.out IC.out ID.out OC.out OD.out T.out p1 p2 OPS.out (DER.out 8 (by decide)));clear ho H9 H10 H13 H15 IT IA IB IE;obtain ⟨-,f0,f1,f2,f3,f4,f5⟩:=H11.out.facts;obtain ⟨-,g0,g1,g2,g3,g4,g5⟩:=H12.out.facts;go_wp2_with fail;refine D.out.mono ?_;rintro e' w3 ⟨kb,hwk,u,rfl,hv⟩;obtain ⟨P1,i1,q1,P2,i2,q2,rfl,z1,z2⟩:=Aq hv;have h14:=H14.out.kb kb N14;obtain ⟨-,r0,r1,r2,r3,r4,r5⟩:=h14.facts;obtain ⟨x0,x1,x2,x3,x4,x5⟩:=h14.free;have HB:=hid h14;have Z:=hid hv;have KK:=hid ((K.out.kb [bw]).trans kb (by intro y hy;exact .inl hy))
  have WW:=hid hwk;clear h14 hv z1 z2 kb hwk D f0 f1 f2 f3 f4 f5 g0 g1 g2 g3 g4 g5 T WK;simp only [];go_wp2_with fail;refine Fy (HB.out.laid _ _ _ _ _ _) rfl rfl rfl ⟨KK.out.trans ((KB.refl w3 [b14]).ivW HB.out (by simp) _ _ _ _ _ _) (by intro y hy;simp at hy;exact .inr (by omega)),(Cd _ _ _ _ _ _ _ _ _ (by omega)).trans WW.out,_,rfl,Z.out.ivW HB.out _ _ _ _ _ _⟩
 by_cases h8:op=8
 ·obtain rfl:=h8;obtain ⟨o1,ho1⟩:∃ o,o=doI 8 da b p e:=⟨_,rfl⟩;obtain ⟨o2,ho2⟩:∃ o,o=doI 8 a db p o1.k:=⟨_,rfl⟩;obtain ⟨o3,ho3⟩:∃ o,o=doI 6 o1.v o2.v p o2.k:=⟨_,rfl⟩;have ho:Hk p 8 a b c da db e=o3:=by rw [ho3,ho2,ho1];rfl
  have HO:=hid ho;have X1:=hid (show o1.v.Ok by rw [ho1];exact Dk OD.out OB.out p1 _);have X2:=hid (show o2.v.Ok by rw [ho2];exact Dk OA.out OE.out p1 _);have Y1:=hid ho1;have Y2:=hid ho2;have Y3:=hid ho3;clear ho ho1 ho2 ho3;have D:=hid (show Calls _ _ _ V (Abm bw p (Bp o1) V) by rw [Y1.out];exact Pb WK.out ID.out IB.out OD.out OB.out T.out p1 p2 OPS.out (DER.out 8 (by decide)));obtain ⟨-,f0,f1,f2,f3,f4,f5⟩:=H12.out.facts;obtain ⟨-,g0,g1,g2,g3,g4,g5⟩:=H10.out.facts;go_wp2_with fail;refine D.out.mono ?_;rintro e' w3 ⟨kb,hwk,u,rfl,hv⟩;obtain ⟨U1,i1,z1,U2,i2,z2,rfl,-,-⟩:=Aq hv
  simp only [];obtain ⟨u0,hu0⟩:∃ x,x=(Bp o1).v.lo.neg:=⟨_,rfl⟩;obtain ⟨u2,hu2⟩:∃ x,x=(Bp o1).v.lo.e:=⟨_,rfl⟩;obtain ⟨u3,hu3⟩:∃ x,x=(Bp o1).v.hi.neg:=⟨_,rfl⟩;obtain ⟨u5,hu5⟩:∃ x,x=(Bp o1).v.hi.e:=⟨_,rfl⟩;rw [←hu0,←hu2,←hu3,←hu5] at hv ⊢;clear hu0 hu2 hu3 hu5;obtain ⟨V2,hV,kV,B16,lV2⟩:=Ae4 w3 (.bool u0) (.slice U1 i1 z1) (.int .i64 u2) (.bool u3) (.slice U2 i2 z2) (.int .i64 u5);have k2:=kb.step kV;have l2:=kb.size;replace H9:=hid (H9.out.kb k2 N9);replace H13:=hid (H13.out.kb k2 N13);replace IA:=hid (IA.out.kb k2);replace IE:=hid (IE.out.kb k2);replace H14:=hid (H14.out.kb k2 N14);have H16:=hid B16
  have I16:=hid (show IvC V2 _ o1.v from hv.kept kV);replace WK:=hid (hwk.kept kV);replace T:=hid (T.out.kb k2 NG);have KK:=hid ((K.out.kb [bw]).trans k2 (by intro y hy;exact .inl hy));have M16:w3.heap.size∉[b14,bw]:=by have:=H14.out.facts.1;simp;omega
  go_upto_region 9 with fail;rw [←hV];clear hV kV k2 kb hwk hv B16 D f0 f1 f2 f3 f4 f5 g0 g1 g2 g3 g4 g5 IB ID IC IT H10 H11 H12 H15 N10 N11 N12 N15;generalize g16:w3.heap.size=b16 at *
  refine rK 8 (fun i=>i==5||i==6||i==7) ([b14,bw]) (fun L w=>OneJ b14 bw p o1.k o2.k o3.k o3.v.raw (L 5) (L 6) (L 7) w) ([(vP bw 0),(vE (.agg #[.bool u0,.slice U1 i1 z1,.int .i64 u2,.bool u3,.slice U2 i2 z2,.int .i64 u5])),(vP bw 0),(vE (.agg #[a0,a1,a2,a3,a4,a5])),(vE (.agg #[e0,e1,e2,e3,e4,e5])),(fun v wv=>IvR wv v o2.v.raw),(fun v wv=>IvR wv v o3.v.raw),(fun v _=>True)])
   (fun i hE L w w' kq fj=>by simp only [I5 hE 5,I5 hE 6,I5 hE 7];exact OneJ.kept kq fj) ((by exact ⟨⟨_,_,_,_,_,_,_,_,_,_,H14.out,fun h=>absurd h (by decide)⟩,WK.out,fun h=>absurd h (by decide)⟩)) (by exact ⟨
     (kq 0),(kql 16 fun _ k=>c6X H16.out k M16),(kq 0),(kql 9 fun _ k=>c6X H9.out k M9),(kql 13 fun _ k=>c6X H13.out k M13),(.inr fun LF aF wF F=>by have FK:=F.frame.1;have fj:=F.frame.2;have s37:=F.v 2 37;have s38:=F.v 3 38;have s39:=F.v 4 39;have fw:=(OneJ.parts fj).2.1;simp only [F.yet,Bool.false_eq_true,if_false] at fw;have DD:=Pb (op:=8) fw (IA.out.kb FK) (IE.out.kb FK) OA.out OE.out (T.out.kb FK MG) p1 p2 OPS.out (DER.out 8 (by decide));rw [←Y2.out] at DD;exact E8 (by simp [Region.wanted]) (by go_simp) DD (fun e1 w1 he=>by obtain ⟨kb,hwk,u,rfl,hv⟩:=he;exact ⟨u,rfl,⟨⟨FK.trans kb (by simp),OneJ.first NE fj F.yet kb hwk⟩,(By _ ⟨vR,vR,vR,vR,vR,.inl rfl,.inr (fun u h=>by exact h.kb kb),.inr fun u h=>h,trivial⟩)⟩,hv⟩)),(.inr fun LF aF wF F=>by have FK:=F.frame.1;have fj:=F.frame.2;have s35:=F.v 0 35;have s36:=F.v 1 36;have s40:=F.p 5 40;have fw:=(OneJ.parts fj).2.1;have f5:=F.wait 5 (by kernel_rfl);simp only [F.yet,f5,Bool.false_eq_true,if_false,if_true] at fw;have DD:=Pb (op:=6) fw (I16.out.kb FK) s40 X1.out X2.out (T.out.kb FK MG) p1 p2 OPS.out (DER.out 6 (by decide));rw [←Y3.out] at DD;exact E8 (by simp [Region.wanted]) (by go_simp) DD (fun e1 w1 he=>by obtain ⟨kb,hwk,u,rfl,hv⟩:=he;exact ⟨u,rfl,⟨⟨FK.trans kb (by simp),OneJ.second NE fj f5 kb hwk⟩,(By _ ⟨vR,vR,vR,vR,vR,.inr (fun u h=>by exact h.kb kb),.inl rfl,.inr fun u h=>h,trivial⟩)⟩,hv⟩)),(.inr fun LF aF wF F=>by have FK:=F.frame.1;have fj:=F.frame.2;have s14:=F.q 14 (.pointer (some ⟨b14,0,none⟩));have s41:=F.p 6 41;obtain ⟨P1,i1,k1,P2,i2,k2,ee,z1,z2⟩:=Aq s41;simp only [Array.getD_eq_getD_getElem?] at ee;obtain ⟨⟨_,_,_,_,_,_,_,_,_,_,hbb,-⟩,-,-⟩:=OneJ.parts fj;obtain ⟨-,q0,q1,q2,q3,q4,q5⟩:=hbb.facts;obtain ⟨g0,g1,g2,g3,g4,g5⟩:=hbb.free;exact B8 (w':=ivW wF b14 _ _ _ _ _ _) (by simp [Region.wanted]) (by go_simp;rfl) ⟨FK.ivW hbb (by simp) _ _ _ _ _ _,OneJ.laid NE fj (show IvR wF (.agg #[_,_,_,_,_,_]) o3.v.raw from ⟨_,_,_,_,_,_,rfl,z1,z2⟩)⟩ (By _ ⟨vR,vR,vR,vR,vR,.inr (fun u h=>by exact h.ivW hbb _ _ _ _ _ _),.inr (fun u h=>by exact h.ivW hbb _ _ _ _ _ _),.inl rfl,trivial⟩) trivial),
     trivial⟩) ?_
  intro u w1 L1 hL j1 hu;obtain ⟨k1,j1⟩:=j1;have p40:=hp hu 5;have p41:=hp hu 6;simp only [Ax,Al,if_true,Act.put,zlA,zlB,zlC,zlD,zlE,zlF,zlG,hv hu 0,hv hu 1,hv hu 2,hv hu 3,hv hu 4];clear hu;generalize u 5=v40,u 6=v41 at *;have jj:OneJ b14 bw p o1.k o2.k o3.k o3.v.raw true true true w1:=by
   have jj:=j1;simp only [hL 5 (by decide),hL 6 (by decide),hL 7 (by decide)] at jj;exact jj
  obtain ⟨⟨_,_,_,_,_,_,_,_,_,_,hb14,hiv⟩,hwk⟩:=jj.done;have Z:=hid hiv;have WW:=hid hwk;have HB:=hid hb14;have KF:=hid (KK.out.trans k1 (by intro y hy;simp at hy;rcases hy with rfl | rfl;exact .inr (by omega);exact .inl (by simp)));clear j1 hL jj hiv hwk hb14 k1;go_simp;go_wp2_with fail;exact Fy HB.out rfl rfl rfl ⟨KF.out,by rw [HO.out];exact WW.out,_,rfl,by rw [HO.out];exact Z.out⟩
 by_cases h9':op=9
 ·obtain rfl:=h9';obtain ⟨o1,ho1⟩:∃ o,o=doI 8 c db p e:=⟨_,rfl⟩;obtain ⟨o2,ho2⟩:∃ o,o=doI 7 da o1.v p o1.k:=⟨_,rfl⟩;obtain ⟨o3,ho3⟩:∃ o,o=doI 9 o2.v b p o2.k:=⟨_,rfl⟩;have ho:Hk p 9 a b c da db e=o3:=by rw [ho3,ho2,ho1];rfl
  have HO:=hid ho;have X1:=hid (show o1.v.Ok by rw [ho1];exact Dk OC.out OE.out p1 _);have X2:=hid (show o2.v.Ok by rw [ho2];exact Dk OD.out X1.out p1 _);have Y1:=hid ho1;have Y2:=hid ho2;have Y3:=hid ho3;clear ho ho1 ho2 ho3;have D:=hid (show Calls _ _ _ V (Abm bw p (Bp o1) V) by rw [Y1.out];exact Pb WK.out IC.out IE.out OC.out OE.out T.out p1 p2 OPS.out (DER.out 8 (by decide)));obtain ⟨-,f0,f1,f2,f3,f4,f5⟩:=H11.out.facts;obtain ⟨-,g0,g1,g2,g3,g4,g5⟩:=H13.out.facts;go_wp2_with fail;refine D.out.mono ?_;rintro e' w3 ⟨kb,hwk,u,rfl,hv⟩;obtain ⟨U1,i1,z1,U2,i2,z2,rfl,-,-⟩:=Aq hv
  simp only [];obtain ⟨u0,hu0⟩:∃ x,x=(Bp o1).v.lo.neg:=⟨_,rfl⟩;obtain ⟨u2,hu2⟩:∃ x,x=(Bp o1).v.lo.e:=⟨_,rfl⟩;obtain ⟨u3,hu3⟩:∃ x,x=(Bp o1).v.hi.neg:=⟨_,rfl⟩;obtain ⟨u5,hu5⟩:∃ x,x=(Bp o1).v.hi.e:=⟨_,rfl⟩;rw [←hu0,←hu2,←hu3,←hu5] at hv ⊢;clear hu0 hu2 hu3 hu5;obtain ⟨V2,hV,kV,B16,lV2⟩:=Ae4 w3 (.bool u0) (.slice U1 i1 z1) (.int .i64 u2) (.bool u3) (.slice U2 i2 z2) (.int .i64 u5);have k2:=kb.step kV;have l2:=kb.size;replace H10:=hid (H10.out.kb k2 N10);replace H12:=hid (H12.out.kb k2 N12);replace IB:=hid (IB.out.kb k2);replace ID:=hid (ID.out.kb k2);replace H14:=hid (H14.out.kb k2 N14);have H16:=hid B16
  have I16:=hid (show IvC V2 _ o1.v from hv.kept kV);replace WK:=hid (hwk.kept kV);replace T:=hid (T.out.kb k2 NG);have KK:=hid ((K.out.kb [bw]).trans k2 (by intro y hy;exact .inl hy));have M16:w3.heap.size∉[b14,bw]:=by have:=H14.out.facts.1;simp;omega
  go_upto_region 12 with fail;rw [←hV];clear hV kV k2 kb hwk hv B16 D f0 f1 f2 f3 f4 f5 g0 g1 g2 g3 g4 g5 IA IE IC IT H9 H11 H13 H15 N9 N11 N13 N15;generalize g16:w3.heap.size=b16 at *
  refine rK 8 (fun i=>i==4||i==6||i==7) ([b14,bw]) (fun L w=>OneJ b14 bw p o1.k o2.k o3.k o3.v.raw (L 4) (L 6) (L 7) w) ([(vP bw 0),(vP bw 0),(vE (.agg #[d0,d1,d2,d3,d4,d5])),(vE (.agg #[.bool u0,.slice U1 i1 z1,.int .i64 u2,.bool u3,.slice U2 i2 z2,.int .i64 u5])),(fun v wv=>IvR wv v o2.v.raw),(vE (.agg #[b0,b1,b2,b3,b4,b5])),(fun v wv=>IvR wv v o3.v.raw),(fun v _=>True)])
   (fun i hE L w w' kq fj=>by simp only [I5 hE 4,I5 hE 6,I5 hE 7];exact OneJ.kept kq fj) ((by exact ⟨⟨_,_,_,_,_,_,_,_,_,_,H14.out,fun h=>absurd h (by decide)⟩,WK.out,fun h=>absurd h (by decide)⟩)) (by exact ⟨
     (kq 0),(kq 0),(kql 12 fun _ k=>c6X H12.out k M12),(kql 17 fun _ k=>c6X H16.out k M16),(.inr fun LF aF wF F=>by have FK:=F.frame.1;have fj:=F.frame.2;have s49:=F.v 1 49;have s50:=F.v 2 50;have s51:=F.v 3 51;have fw:=(OneJ.parts fj).2.1;simp only [F.yet,Bool.false_eq_true,if_false] at fw;have DD:=Pb (op:=7) fw (ID.out.kb FK) (I16.out.kb FK) OD.out X1.out (T.out.kb FK MG) p1 p2 OPS.out (DER.out 7 (by decide));rw [←Y2.out] at DD;exact E8 (by simp [Region.wanted]) (by go_simp) DD (fun e1 w1 he=>by obtain ⟨kb,hwk,u,rfl,hv⟩:=he;exact ⟨u,rfl,⟨⟨FK.trans kb (by simp),OneJ.first NE fj F.yet kb hwk⟩,(By _ ⟨vR,vR,vR,vR,.inl rfl,vR,.inr (fun u h=>by exact h.kb kb),.inr fun u h=>h,trivial⟩)⟩,hv⟩)),(kql 10 fun _ k=>c6X H10.out k M10),(.inr fun LF aF wF F=>by have FK:=F.frame.1;have fj:=F.frame.2;have s48:=F.v 0 48;have s52:=F.p 4 52;have s53:=F.v 5 53;have fw:=(OneJ.parts fj).2.1;have f5:=F.wait 4 (by kernel_rfl);simp only [F.yet,f5,Bool.false_eq_true,if_false,if_true] at fw;have DD:=Pb (op:=9) fw s52 (IB.out.kb FK) X2.out OB.out (T.out.kb FK MG) p1 p2 OPS.out (DER.out 9 (by decide));rw [←Y3.out] at DD;exact E8 (by simp [Region.wanted]) (by go_simp) DD (fun e1 w1 he=>by obtain ⟨kb,hwk,u,rfl,hv⟩:=he;exact ⟨u,rfl,⟨⟨FK.trans kb (by simp),OneJ.second NE fj f5 kb hwk⟩,(By _ ⟨vR,vR,vR,vR,.inr (fun u h=>by exact h.kb kb),vR,.inl rfl,.inr fun u h=>h,trivial⟩)⟩,hv⟩)),(.inr fun LF aF wF F=>by have FK:=F.frame.1;have fj:=F.frame.2;have s14:=F.q 14 (.pointer (some ⟨b14,0,none⟩));have s54:=F.p 6 54;obtain ⟨P1,i1,k1,P2,i2,k2,ee,z1,z2⟩:=Aq s54;simp only [Array.getD_eq_getD_getElem?] at ee;obtain ⟨⟨_,_,_,_,_,_,_,_,_,_,hbb,-⟩,-,-⟩:=OneJ.parts fj;obtain ⟨-,q0,q1,q2,q3,q4,q5⟩:=hbb.facts;obtain ⟨g0,g1,g2,g3,g4,g5⟩:=hbb.free;exact B8 (w':=ivW wF b14 _ _ _ _ _ _) (by simp [Region.wanted]) (by go_simp;rfl) ⟨FK.ivW hbb (by simp) _ _ _ _ _ _,OneJ.laid NE fj (show IvR wF (.agg #[_,_,_,_,_,_]) o3.v.raw from ⟨_,_,_,_,_,_,rfl,z1,z2⟩)⟩ (By _ ⟨vR,vR,vR,vR,.inr (fun u h=>by exact h.ivW hbb _ _ _ _ _ _),vR,.inr (fun u h=>by exact h.ivW hbb _ _ _ _ _ _),.inl rfl,trivial⟩) trivial),
     trivial⟩) ?_
  intro u w1 L1 hL j1 hu;obtain ⟨k1,j1⟩:=j1;have p52:=hp hu 4;have p54:=hp hu 6;simp only [Ax,Al,if_true,Act.put,zlA,zlB,zlC,zlD,zlE,zlF,zlG,hv hu 0,hv hu 1,hv hu 2,hv hu 3,hv hu 5];clear hu;generalize u 4=v52,u 6=v54 at *;have jj:OneJ b14 bw p o1.k o2.k o3.k o3.v.raw true true true w1:=by
   have jj:=j1;simp only [hL 4 (by decide),hL 6 (by decide),hL 7 (by decide)] at jj;exact jj
  obtain ⟨⟨_,_,_,_,_,_,_,_,_,_,hb14,hiv⟩,hwk⟩:=jj.done;have Z:=hid hiv;have WW:=hid hwk;have HB:=hid hb14;have KF:=hid (KK.out.trans k1 (by intro y hy;simp at hy;rcases hy with rfl | rfl;exact .inr (by omega);exact .inl (by simp)));clear j1 hL jj hiv hwk hb14 k1;go_simp;go_wp2_with fail;exact Fy HB.out rfl rfl rfl ⟨KF.out,by rw [HO.out];exact WW.out,_,rfl,by rw [HO.out];exact Z.out⟩
 by_cases h11:op=11
 ·obtain rfl:=h11;obtain ⟨o2,ho2⟩:∃ o,o=doI 8 two a p e:=⟨_,rfl⟩;obtain ⟨o3,ho3⟩:∃ o,o=doI 8 o2.v da p o2.k:=⟨_,rfl⟩;have ho:Hk p 11 a b c da db e=o3:=by rw [ho3,ho2];rfl
  have HO:=hid ho;have X2:=hid (show o2.v.Ok by rw [ho2];exact Dk J3 OA.out p1 _);have Y2:=hid ho2;have Y3:=hid ho3;clear ho ho2 ho3;have KK:=hid (K.out.kb [bw]);go_upto_region 14 with fail
  refine rK 8 (fun i=>i==4||i==6||i==7) ([b14,bw]) (fun L w=>OneJ b14 bw p e o2.k o3.k o3.v.raw (L 4) (L 6) (L 7) w) ([(vP bw 0),(vP bw 0),(vE (.agg #[.bool t0,.slice T1 jt yt,.int .i64 t2,.bool t3,.slice T2 js ys,.int .i64 t5])),(vE (.agg #[a0,a1,a2,a3,a4,a5])),(fun v wv=>IvR wv v o2.v.raw),(vE (.agg #[d0,d1,d2,d3,d4,d5])),(fun v wv=>IvR wv v o3.v.raw),(fun v _=>True)])
   (fun i hE L w w' kq fj=>by simp only [I5 hE 4,I5 hE 6,I5 hE 7];exact OneJ.kept kq fj) ((by exact ⟨⟨_,_,_,_,_,_,_,_,_,_,H14.out,fun h=>absurd h (by decide)⟩,WK.out,fun h=>absurd h (by decide)⟩)) (by exact ⟨
     (kq 0),(kq 0),(kql 15 fun _ k=>c6X H15.out k M15),(kql 9 fun _ k=>c6X H9.out k M9),(.inr fun LF aF wF F=>by have FK:=F.frame.1;have fj:=F.frame.2;have s58:=F.v 1 58;have s59:=F.v 2 59;have s60:=F.v 3 60;have fw:=(OneJ.parts fj).2.1;simp only [F.yet,Bool.false_eq_true,if_false] at fw;have DD:=Pb (op:=8) fw (IT.out.kb FK) (IA.out.kb FK) J3 OA.out (T.out.kb FK MG) p1 p2 OPS.out (DER.out 8 (by decide));rw [←Y2.out] at DD;exact E8 (by simp [Region.wanted]) (by go_simp) DD (fun e1 w1 he=>by obtain ⟨kb,hwk,u,rfl,hv⟩:=he;exact ⟨u,rfl,⟨⟨FK.trans kb (by simp),OneJ.first NE fj F.yet kb hwk⟩,(By _ ⟨vR,vR,vR,vR,.inl rfl,vR,.inr (fun u h=>by exact h.kb kb),.inr fun u h=>h,trivial⟩)⟩,hv⟩)),(kql 12 fun _ k=>c6X H12.out k M12),(.inr fun LF aF wF F=>by have FK:=F.frame.1;have fj:=F.frame.2;have s57:=F.v 0 57;have s61:=F.p 4 61;have s62:=F.v 5 62;have fw:=(OneJ.parts fj).2.1;have f5:=F.wait 4 (by kernel_rfl);simp only [F.yet,f5,Bool.false_eq_true,if_false,if_true] at fw;have DD:=Pb (op:=8) fw s61 (ID.out.kb FK) X2.out OD.out (T.out.kb FK MG) p1 p2 OPS.out (DER.out 8 (by decide));rw [←Y3.out] at DD;exact E8 (by simp [Region.wanted]) (by go_simp) DD (fun e1 w1 he=>by obtain ⟨kb,hwk,u,rfl,hv⟩:=he;exact ⟨u,rfl,⟨⟨FK.trans kb (by simp),OneJ.second NE fj f5 kb hwk⟩,(By _ ⟨vR,vR,vR,vR,.inr (fun u h=>by exact h.kb kb),vR,.inl rfl,.inr fun u h=>h,trivial⟩)⟩,hv⟩)),(.inr fun LF aF wF F=>by have FK:=F.frame.1;have fj:=F.frame.2;have s14:=F.q 14 (.pointer (some ⟨b14,0,none⟩));have s63:=F.p 6 63;obtain ⟨P1,i1,k1,P2,i2,k2,ee,z1,z2⟩:=Aq s63;simp only [Array.getD_eq_getD_getElem?] at ee;obtain ⟨⟨_,_,_,_,_,_,_,_,_,_,hbb,-⟩,-,-⟩:=OneJ.parts fj;obtain ⟨-,q0,q1,q2,q3,q4,q5⟩:=hbb.facts;obtain ⟨g0,g1,g2,g3,g4,g5⟩:=hbb.free;exact B8 (w':=ivW wF b14 _ _ _ _ _ _) (by simp [Region.wanted]) (by go_simp;rfl) ⟨FK.ivW hbb (by simp) _ _ _ _ _ _,OneJ.laid NE fj (show IvR wF (.agg #[_,_,_,_,_,_]) o3.v.raw from ⟨_,_,_,_,_,_,rfl,z1,z2⟩)⟩ (By _ ⟨vR,vR,vR,vR,.inr (fun u h=>by exact h.ivW hbb _ _ _ _ _ _),vR,.inr (fun u h=>by exact h.ivW hbb _ _ _ _ _ _),.inl rfl,trivial⟩) trivial),
     trivial⟩) ?_
  intro u w1 L1 hL j1 hu;obtain ⟨k1,j1⟩:=j1;have p61:=hp hu 4;have p63:=hp hu 6;simp only [Ax,Al,if_true,Act.put,zlA,zlB,zlC,zlD,zlE,zlF,zlG,hv hu 0,hv hu 1,hv hu 2,hv hu 3,hv hu 5];clear hu;generalize u 4=v61,u 6=v63 at *;have jj:OneJ b14 bw p e o2.k o3.k o3.v.raw true true true w1:=by
   have jj:=j1;simp only [hL 4 (by decide),hL 6 (by decide),hL 7 (by decide)] at jj;exact jj
  obtain ⟨⟨_,_,_,_,_,_,_,_,_,_,hb14,hiv⟩,hwk⟩:=jj.done;have Z:=hid hiv;have WW:=hid hwk;have HB:=hid hb14;have KF:=hid (KK.out.trans k1 (by intro y hy;simp at hy;rcases hy with rfl | rfl;exact .inr (by omega);exact .inl (by simp)));clear j1 hL jj hiv hwk hb14 k1;go_simp;go_wp2_with fail;exact Fy HB.out rfl rfl rfl ⟨KF.out,by rw [HO.out];exact WW.out,_,rfl,by rw [HO.out];exact Z.out⟩
 by_cases h12:op=12
 ·obtain rfl:=h12;obtain ⟨o2,ho2⟩:∃ o,o=doI 8 two c p e:=⟨_,rfl⟩;obtain ⟨o3,ho3⟩:∃ o,o=doI 9 da o2.v p o2.k:=⟨_,rfl⟩;have ho:Hk p 12 a b c da db e=o3:=by rw [ho3,ho2];rfl
  have HO:=hid ho;have X2:=hid (show o2.v.Ok by rw [ho2];exact Dk J3 OC.out p1 _);have Y2:=hid ho2;have Y3:=hid ho3;clear ho ho2 ho3;have KK:=hid (K.out.kb [bw]);go_upto_region 16 with fail
  refine rK 8 (fun i=>i==5||i==6||i==7) ([b14,bw]) (fun L w=>OneJ b14 bw p e o2.k o3.k o3.v.raw (L 5) (L 6) (L 7) w) ([(vP bw 0),(vE (.agg #[d0,d1,d2,d3,d4,d5])),(vP bw 0),(vE (.agg #[.bool t0,.slice T1 jt yt,.int .i64 t2,.bool t3,.slice T2 js ys,.int .i64 t5])),(vE (.agg #[c0,c1,c2,c3,c4,c5])),(fun v wv=>IvR wv v o2.v.raw),(fun v wv=>IvR wv v o3.v.raw),(fun v _=>True)])
   (fun i hE L w w' kq fj=>by simp only [I5 hE 5,I5 hE 6,I5 hE 7];exact OneJ.kept kq fj) ((by exact ⟨⟨_,_,_,_,_,_,_,_,_,_,H14.out,fun h=>absurd h (by decide)⟩,WK.out,fun h=>absurd h (by decide)⟩)) (by exact ⟨
     (kq 0),(kql 12 fun _ k=>c6X H12.out k M12),(kq 0),(kql 15 fun _ k=>c6X H15.out k M15),(kql 11 fun _ k=>c6X H11.out k M11),(.inr fun LF aF wF F=>by have FK:=F.frame.1;have fj:=F.frame.2;have s68:=F.v 2 68;have s69:=F.v 3 69;have s70:=F.v 4 70;have fw:=(OneJ.parts fj).2.1;simp only [F.yet,Bool.false_eq_true,if_false] at fw;have DD:=Pb (op:=8) fw (IT.out.kb FK) (IC.out.kb FK) J3 OC.out (T.out.kb FK MG) p1 p2 OPS.out (DER.out 8 (by decide));rw [←Y2.out] at DD;exact E8 (by simp [Region.wanted]) (by go_simp) DD (fun e1 w1 he=>by obtain ⟨kb,hwk,u,rfl,hv⟩:=he;exact ⟨u,rfl,⟨⟨FK.trans kb (by simp),OneJ.first NE fj F.yet kb hwk⟩,(By _ ⟨vR,vR,vR,vR,vR,.inl rfl,.inr (fun u h=>by exact h.kb kb),.inr fun u h=>h,trivial⟩)⟩,hv⟩)),(.inr fun LF aF wF F=>by have FK:=F.frame.1;have fj:=F.frame.2;have s66:=F.v 0 66;have s67:=F.v 1 67;have s71:=F.p 5 71;have fw:=(OneJ.parts fj).2.1;have f5:=F.wait 5 (by kernel_rfl);simp only [F.yet,f5,Bool.false_eq_true,if_false,if_true] at fw;have DD:=Pb (op:=9) fw (ID.out.kb FK) s71 OD.out X2.out (T.out.kb FK MG) p1 p2 OPS.out (DER.out 9 (by decide));rw [←Y3.out] at DD;exact E8 (by simp [Region.wanted]) (by go_simp) DD (fun e1 w1 he=>by obtain ⟨kb,hwk,u,rfl,hv⟩:=he;exact ⟨u,rfl,⟨⟨FK.trans kb (by simp),OneJ.second NE fj f5 kb hwk⟩,(By _ ⟨vR,vR,vR,vR,vR,.inr (fun u h=>by exact h.kb kb),.inl rfl,.inr fun u h=>h,trivial⟩)⟩,hv⟩)),(.inr fun LF aF wF F=>by have FK:=F.frame.1;have fj:=F.frame.2;have s14:=F.q 14 (.pointer (some ⟨b14,0,none⟩));have s72:=F.p 6 72;obtain ⟨P1,i1,k1,P2,i2,k2,ee,z1,z2⟩:=Aq s72;simp only [Array.getD_eq_getD_getElem?] at ee;obtain ⟨⟨_,_,_,_,_,_,_,_,_,_,hbb,-⟩,-,-⟩:=OneJ.parts fj;obtain ⟨-,q0,q1,q2,q3,q4,q5⟩:=hbb.facts;obtain ⟨g0,g1,g2,g3,g4,g5⟩:=hbb.free;exact B8 (w':=ivW wF b14 _ _ _ _ _ _) (by simp [Region.wanted]) (by go_simp;rfl) ⟨FK.ivW hbb (by simp) _ _ _ _ _ _,OneJ.laid NE fj (show IvR wF (.agg #[_,_,_,_,_,_]) o3.v.raw from ⟨_,_,_,_,_,_,rfl,z1,z2⟩)⟩ (By _ ⟨vR,vR,vR,vR,vR,.inr (fun u h=>by exact h.ivW hbb _ _ _ _ _ _),.inr (fun u h=>by exact h.ivW hbb _ _ _ _ _ _),.inl rfl,trivial⟩) trivial),
     trivial⟩) ?_
  intro u w1 L1 hL j1 hu;obtain ⟨k1,j1⟩:=j1;have p71:=hp hu 5;have p72:=hp hu 6;simp only [Ax,Al,if_true,Act.put,zlA,zlB,zlC,zlD,zlE,zlF,zlG,hv hu 0,hv hu 1,hv hu 2,hv hu 3,hv hu 4];clear hu;generalize u 5=v71,u 6=v72 at *;have jj:OneJ b14 bw p e o2.k o3.k o3.v.raw true true true w1:=by
   have jj:=j1;simp only [hL 5 (by decide),hL 6 (by decide),hL 7 (by decide)] at jj;exact jj
  obtain ⟨⟨_,_,_,_,_,_,_,_,_,_,hb14,hiv⟩,hwk⟩:=jj.done;have Z:=hid hiv;have WW:=hid hwk;have HB:=hid hb14;have KF:=hid (KK.out.trans k1 (by intro y hy;simp at hy;rcases hy with rfl | rfl;exact .inr (by omega);exact .inl (by simp)));clear j1 hL jj hiv hwk hb14 k1;go_simp;go_wp2_with fail;exact Fy HB.out rfl rfl rfl ⟨KF.out,by rw [HO.out];exact WW.out,_,rfl,by rw [HO.out];exact Z.out⟩
 have ho:Hk p op a b c da db e=⟨iz,e⟩:=by unfold Hk;rw [if_neg h67,if_neg h8,if_neg h9',if_neg h11,if_neg h12,if_neg h13]
 have HO:=hid ho;have g6':(op==6)=false:=by simp;intro h;exact h67 (.inl h)
 have g7':(op==7)=false:=by simp;intro h;exact h67 (.inr (.inl h))
 have g8':(op==8)=false:=by simp [h8]
 have g9':(op==9)=false:=by simp [h9']
 have g10':(op==10)=false:=by simp;intro h;exact h67 (.inr (.inr h))
 have g11':(op==11)=false:=by simp [h11]
 have g12':(op==12)=false:=by simp [h12]
 have g13':(op==13)=false:=by simp [h13]
 clear ho h67 h8 h9' h11 h12 h13 IA IB IC ID IE IT T H9 H10 H11 H12 H13 H15;obtain ⟨-,r0,r1,r2,r3,r4,r5⟩:=H14.out.facts;obtain ⟨x0,x1,x2,x3,x4,x5⟩:=H14.out.free;go_wp2_with fail;refine Fy (H14.out.laid _ _ _ _ _ _) rfl rfl rfl ⟨(K.out.kb [bw]).trans ((KB.refl V [b14]).ivW H14.out (by simp) _ _ _ _ _ _) (by intro y hy;simp at hy;exact .inr (by omega)),?_,_,rfl,?_⟩
 ·rw [HO.out];exact (Cd _ _ _ _ _ _ _ _ _ (by omega)).trans WK.out
 ·rw [HO.out];exact (show IvR _ _ iz.raw by rw [Nj];exact Ep _)
theorem p20 {z:Nat}(hp:20≤p)(h:z<2^20):z<2^p:=Nat.lt_of_lt_of_le h (Nat.pow_le_pow_right (by decide) hp)
theorem smZ (h:z.natAbs≤100000)(h1:-40≤e)(h2:e≤0):SmZ z e:=⟨Nat.lt_of_le_of_lt h (by decide),h1,h2⟩
theorem Zx {l:List RawI}{a:Iv}(h:l[n]?=some a.raw)(hz:z=(n:Int)):atI l z=a:=by
 subst hz;unfold atI;rw [Int.toNat_natCast,List.getD_eq_getElem?_getD,h,Option.getD_some,Iv.raw_iv]
theorem one_mul (hp:20≤p){y c:Int}{cc:Iv}(ha:a.natAbs≤32)(hy:y.natAbs≤32)(hc:c.natAbs≤1)(hdb:db=pt (dyz c 0)) :
 Hk p 8 (pt (dyz a (-3))) (pt (dyz y (-3))) cc iz db 0=⟨pt (dyz (a*c) (-3)),0⟩:=by
 subst hdb;have hac:(a*c).natAbs≤32:=by
  rw [Int.natAbs_mul];have:a.natAbs*c.natAbs≤32*1:=Nat.mul_le_mul ha hc;omega
 have h1:Fi (pt (dyz 0 (-3))) (pt (dyz y (-3))) p=⟨pt (dyz (0*y) (-3+-3)),0⟩ :=
  Ml (smZ (by decide) (by decide) (by decide)) (smZ (by omega) (by decide) (by decide)) (by rw [Int.zero_mul];exact smZ (by decide) (by decide) (by decide)) (by rw [Int.zero_mul];exact p20 hp (by decide))
 rw [Int.zero_mul] at h1
 have h2:Fi (pt (dyz a (-3))) (pt (dyz c 0)) p=⟨pt (dyz (a*c) (-3+0)),0⟩ :=
  Ml (smZ (by omega) (by decide) (by decide)) (smZ (by omega) (by decide) (by decide)) (smZ (by omega) (by decide) (by decide)) (p20 hp (by omega))
 have h3:=Xp (a:=0) (b:=a*c) (e:=-3) (p:=p) (smZ (by decide) (by decide) (by decide)) (smZ (by omega) (by decide) (by decide)) (by rw [Int.zero_add];exact smZ (by omega) (by decide) (by decide)) (by rw [Int.zero_add];exact p20 hp (by omega));rw [Int.zero_add] at h3;exact (Akp h1 h2).trans h3
theorem P5 {n m:Int}(h:0≤n)(h':n<m):Bw n m=true:=by unfold Bw;simp [h,h']
theorem Anc {x:Int}(h:0≤a)(h':a<x)(i u p:Int):Gj ⟨3,a,0,rzI⟩ i x u p=true:=by
 have e:Gj ⟨3,a,0,rzI⟩ i x u p=(Bw a x&&decide ((0:Int)=0)):=rfl;rw [e,P5 h h'];rfl
theorem Ane {b i:Int}(h:0≤a)(h':a<i)(g:0≤b)(g':b<i)(x u p:Int):Gj ⟨8,a,b,rzI⟩ i x u p=true:=by
 have e:Gj ⟨8,a,b,rzI⟩ i x u p=(Bw a i&&Bw b i):=rfl;rw [e,P5 h h',P5 g g'];rfl
theorem Alr:Fh rzI=true:=by rw [←Nj];exact Dt Sm
def Ma:List Ln:=[⟨3,0,0,rzI⟩,⟨8,0,0,rzI⟩]
def t10E:En:=⟨rzI,[(pt (dyz 3 0)).raw],[],[]⟩
theorem Aj5:Pj 1 0 0 0 Ma=true:=by
 show (Gj ⟨3,0,0,rzI⟩ 0 1 0 0&&(Gj ⟨8,0,0,rzI⟩ 1 1 0 0&&true))=true
 rw [Anc (by decide) (by decide),Ane (by decide) (by decide) (by decide) (by decide)];rfl
theorem Ahn (ov:Iv→Nat→Outc Iv):Cm ov Ma [1] t10E 20=⟨[(pt (dyz 3 0)).raw,(pt (dyz 9 0)).raw],0⟩:=by
 have hmt:Jt Ma [1] t10E.x.length t10E.u.length t10E.p.length=true:=by
  show (decide ((2:Nat)≤200)&&decide ((1:Nat)≤200)&&Pj 1 0 0 0 Ma&&(Bw 1 2&&true))=true
  rw [Aj5];rfl
 have hme:Mr t10E=true:=by
  show (Fh rzI&&(Fh (pt (dyz 3 0)).raw&&true)&&true&&true)=true
  rw [Alr,Dt (Yn (Kg _ _))];rfl
 unfold Cm;rw [if_pos ⟨by decide,by decide,hmt,hme⟩];have e1:Ch ov t10E 20 [] ⟨3,0,0,rzI⟩=⟨pt (dyz 3 0),0⟩:=by
  rw [Aln,Zx (l:=t10E.x) (z:=0) (n:=0) (a:=pt (dyz 3 0)) rfl rfl];exact Adc (by decide)
 have e2:Ch ov t10E 20 [(pt (dyz 3 0)).raw] ⟨8,0,0,rzI⟩=⟨pt (dyz 9 0),0⟩:=by
  rw [Alo,Zx (l:=[(pt (dyz 3 0)).raw]) (z:=0) (n:=0) (a:=pt (dyz 3 0)) rfl rfl];exact Ml (a:=3) (b:=3) (e:=0) (f:=0) (smZ (by decide) (by decide) (by decide)) (smZ (by decide) (by decide) (by decide)) (smZ (by decide) (by decide) (by decide)) (by decide)
 show Ca ov t10E 20 [] [⟨3,0,0,rzI⟩,⟨8,0,0,rzI⟩]=_
 rw [Ca,e1,if_pos rfl,List.nil_append,Ca,e2,if_pos rfl];rfl
theorem Ahl (ov:Iv→Nat→Outc Iv):Gc ov Ma [1] t10E 20=⟨([(pt (dyz 9 0)).raw],[[(pt (dyz 6 0)).raw]]),0⟩:=by
 have e1:Cx 20 1 [(pt (dyz 3 0)).raw,(pt (dyz 9 0)).raw] [] ⟨3,0,0,rzI⟩=([(pt d1).raw],0):=rfl;have hm:Fi (pt d1) (pt (dyz 3 0)) 20=⟨pt (dyz 3 0),0⟩:=by
  rw [←Ab0];exact Ml (a:=1) (b:=3) (e:=0) (f:=0) (smZ (by decide) (by decide) (by decide)) (smZ (by decide) (by decide) (by decide)) (smZ (by decide) (by decide) (by decide)) (by decide)
 have hm':Fi (pt (dyz 3 0)) (pt d1) 20=⟨pt (dyz 3 0),0⟩:=by
  rw [←Ab0];exact Ml (a:=3) (b:=1) (e:=0) (f:=0) (smZ (by decide) (by decide) (by decide)) (smZ (by decide) (by decide) (by decide)) (smZ (by decide) (by decide) (by decide)) (by decide)
 have ha:Ge (pt (dyz 3 0)) (pt (dyz 3 0)) 20=⟨pt (dyz 6 0),0⟩ :=
  Xp (a:=3) (b:=3) (e:=0) (smZ (by decide) (by decide) (by decide)) (smZ (by decide) (by decide) (by decide)) (smZ (by decide) (by decide) (by decide)) (by decide)
 have e2:Cx 20 1 [(pt (dyz 3 0)).raw,(pt (dyz 9 0)).raw] [[(pt d1).raw]] ⟨8,0,0,rzI⟩=([(pt (dyz 6 0)).raw],0):=by
  rw [Aie,Zx (l:=[(pt (dyz 3 0)).raw,(pt (dyz 9 0)).raw]) (z:=0) (n:=0) (a:=pt (dyz 3 0)) rfl rfl]
  show Hc 20 8 (pt (dyz 3 0)) (pt (dyz 3 0)) _ [(pt d1).raw] [(pt d1).raw] 0=_
  unfold Hc;rw [Iv.raw_iv,Akp hm hm',ha];rfl
 unfold Gc;rw [Ahn];have hg:Da 20 1 [(pt (dyz 3 0)).raw,(pt (dyz 9 0)).raw] [] Ma=⟨[[(pt d1).raw],[(pt (dyz 6 0)).raw]],0⟩:=by
  show Da 20 1 _ [] [⟨3,0,0,rzI⟩,⟨8,0,0,rzI⟩]=_
  rw [Da,e1];simp only [if_true,List.nil_append];rw [Da,e2];simp only [if_true];rfl
 rw [if_neg (by decide)]
 show (if (Da 20 1 [(pt (dyz 3 0)).raw,(pt (dyz 9 0)).raw] [] Ma).k≠0 then _ else (⟨([_],[(Da 20 1 [(pt (dyz 3 0)).raw,(pt (dyz 9 0)).raw] [] Ma).v.getD 1 []]),0⟩:Outc _))=_
 rw [hg];rfl
theorem Ahm (ov:Iv→Nat→Outc Iv):Gc ov Ma [1] ⟨rzI,[],[],[]⟩ 20=⟨([],[]),1⟩:=by
 have ht:Cm ov Ma [1] ⟨rzI,[],[],[]⟩ 20=⟨[],1⟩:=by
  unfold Cm;rw [if_neg];rintro ⟨-,-,h,-⟩
  revert h
  show ¬(decide ((2:Nat)≤200)&&decide ((1:Nat)≤200)&&((Bw 0 0&&decide ((0:Int)=0))&&_)&&_)=true
  simp [Bw]
 unfold Gc;rw [ht,if_pos (by decide)]
theorem Y9 {p:Nat}{op:Int}{a b c:Iv}:∀ (l m:List RawI) (e:Int),(Hc p op a b c l m e).1.length=min l.length m.length
 | [],_,_=>by simp [Hc]
 | _::_,[],_=>by simp [Hc]
 | x :: l, y :: m, e => by
   simp only [Hc,List.length_cons,Y9 l m];omega
theorem Aad {nx:Nat}{v:List RawI}{all:List (List RawI)}{l:Ln}{x u q:Int}(hm:Gj l all.length x u q=true)(ha:∀ r∈all,r.length=nx):(Cx p nx v all l).1.length=nx:=by
 obtain ⟨m1,-,m3⟩:=Adt hm;have at':∀ n:Int,0≤n→n<all.length→(all.getD n.toNat []).length=nx:=fun n h0 h1=>by
  rw [List.getD_eq_getElem?_getD,List.getElem?_eq_getElem (by omega),Option.getD_some];exact ha _ (List.getElem_mem _)
 unfold Cx;split
 ·simp
 split
 ·simp
 rename_i c1 c2;have h6:0<Fj l.op:=by omega
 obtain ⟨a0,a1,a2,a3⟩:=m1 h6;rw [Y9,at' _ a0 a1];by_cases h2:1<Fj l.op
 ·obtain ⟨b0,b1⟩:=a2 h2;rw [at' _ b0 b1];omega
 ·have:=a3 h2;rw [at' l.b (by omega) (by omega)];omega
theorem Uq {p nx:Nat}{v:List RawI}{x u q:Int}:∀ (ls:List Ln) (all:List (List RawI)),(∀ (j:Nat) l,ls[j]?=some l→Gj l ((all.length+j:Nat):Int) x u q=true)→(∀ r∈all,r.length=nx)→(Da p nx v all ls).k=0 →
 (Da p nx v all ls).v.length=all.length+ls.length∧∀ r∈(Da p nx v all ls).v,r.length=nx
 | [],all,_,ha,_=>⟨rfl,ha⟩
 | l :: ls, all, hm, ha, hk => by
   unfold Da at hk ⊢;split at hk
   ·rename_i h0;rw [if_pos h0];have hl:=Aad (p:=p) (v:=v) (hm 0 l rfl) ha;obtain ⟨r1,r2⟩:=Uq ls (all++[(Cx p nx v all l).1]) (fun j m hj=>by
     have:=hm (j+1) m (by simpa using hj);simp only [List.length_append,List.length_singleton];rwa [show all.length+1+j=all.length+(j+1) by omega]) (fun r hr=>by
     rcases List.mem_append.1 hr with hr | hr
     ·exact ha r hr
     ·rw [List.mem_singleton.1 hr];exact hl) hk
    refine ⟨?_,r2⟩;rw [r1];simp;omega
   ·rename_i h0;exact absurd hk h0
end Go.Proofs.YtabjjdicffcolaaGreatDoor
