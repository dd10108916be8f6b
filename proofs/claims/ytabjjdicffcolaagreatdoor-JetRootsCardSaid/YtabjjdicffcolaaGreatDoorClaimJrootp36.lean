/- Words and contracts, part 36. -/
import Derived.Test.YtabjjdicffcolaaGreatDoorClaimJrootp35
set_option maxRecDepth 100000
set_option maxHeartbeats 0
namespace Go.Proofs.YtabjjdicffcolaaGreatDoor
open Go.Lib (hid)
open Go.RowKit
theorem Th {p:Nat}{a b:List RawI}{n:Nat}(p1:1≤p):∀ (js:List Nat) {x:Iv},x.Ok→(Fe p a b n x js).v.Ok
 | [],_,h=>h
 | j :: js, x, h => by
   unfold Fe Outc.th;split
   ·dsimp only;split
    ·exact Th p1 js (Xu h (Nq p1).1 p1).1
    ·exact Q9
   ·exact Q9
theorem Am1 {S:Int→Prop}{w:World}{va vb vc:Value}{a b:List RawI}{n p:Nat}(O:Hm S)(h6:S 6)(h8:S 8)(ha:IvS w va a)(hb:IvS w vb b)(ga:Gd a)(gb:Gd b)(na:n<a.length)(nb:n<b.length)
 (la:a.length≤1000) (lb:b.length≤1000) (hT:Tab w) (p1:1≤p) (p2:p≤2000) :
 Calls Tryz.prog 122 #[.agg #[.int .i64 p],.int .i64 8,va,vb,vc,.int .i64 n] w (Bz (Gb p a b n) w):=by
 have C1:=hid (fun w1 (k:Kept w w1)=>show Calls Tryz.prog 165 #[.agg #[.int .i64 p],va,vb,.int .i64 0,.int .i64 n,.int .i64 n] w1 (Bz (Gb p a b n) w1) from Age (fr:=0) O h6 h8 (ha.kept k) (hb.kept k) ga gb na nb la lb rfl (hT.kept k) p1 p2);obtain ⟨W,hW,kW,bW,BR⟩:=Mk w p;have HW:=hid hW;have K:=hid kW;have cW:=Ab bW 0 _ rfl;have HR:=hid BR;clear hW kW bW BR ha hb ga gb na nb la lb hT p1 p2 O h6 h8;generalize Gb p a b n=o at *;go_enter Tryz.func122,Tryz.ntmps122;go_wp2_with fail;rw [←HW.out];refine (C1.out _ K.out).mono ?_;rintro e w1 ⟨q,⟨h0,v,rfl,hv⟩ | ⟨h0,rfl⟩⟩
 ·obtain ⟨P,pl,pc,P',pl',pc',rfl,z1,z2⟩:=Bm hv;have hr:=HR.out.kept q;obtain ⟨-,r0,r1,r2,r3,r4,r5⟩:=hr.facts;obtain ⟨f0,f1,f2,f3,f4,f5⟩:=hr.free;have HRR:=hid hr;have Z1:=hid z1;have Z2:=hid z2;have H0:=hid h0;clear hr z1 z2 hv h0 cW;simp only [];go_wp2_with fail;exact Et (HRR.out.laid _ _ _ _ _ _) rfl rfl rfl ⟨Az (K.out.trans q) (by omega),.inl ⟨H0.out,_,rfl,_,_,_,_,_,_,rfl,Z1.out.ivW HRR.out _ _ _ _ _ _,Z2.out.ivW HRR.out _ _ _ _ _ _⟩⟩
 ·exact ⟨rfl,K.out.trans q,.inr ⟨h0,rfl⟩⟩
theorem Am3 {S:Int→Prop}{w:World}{va vb vc:Value}{a:List RawI}{n p:Nat}(O:Hm S)(h6:S 6)(h8:S 8)(h11:S 11)(ha:IvS w va a)(ga:Gd a)(na:n<a.length)
 (la:a.length≤1000) (hT:Tab w) (p1:1≤p) (p2:p≤2000) :
 Calls Tryz.prog 122 #[.agg #[.int .i64 p],.int .i64 11,va,vb,vc,.int .i64 n] w (Bz (if n=0 then Iz (gI a 0) p else Gb p a a n) w):=by
 obtain ⟨W,hW,kW,bW,BR⟩:=Mk w p;have HW:=hid hW;have K:=hid kW;have HP:=hid bW;have cW:=Ab bW 0 _ rfl;have HR:=hid BR;clear hW kW bW BR;by_cases hn:n=0
 ·rw [if_pos hn];obtain ⟨bA,oA,cA,rfl,hcA,RA⟩:=ha.place ga (by omega);have C1:=hid (fun w1 (k:Kept w w1) v (hv:IvR w1 v (gI a 0).raw)=>O.sqr h11 hv (Em ga (by omega)).1 (hT.kept k) p1 p2);have HA:=hid (fun w1 (k:Kept w w1)=>RA w1 k 0 (by omega));have hla:0<a.length:=by omega
  clear RA ha ga hT p1 p2 O h6 h8 h11 hcA;subst hn;generalize Iz (gI a 0) p=o at *;have hro:(Br o).k=o.k:=rfl;generalize gI a 0=ga at *;have BAD:=hid (fun (w1:World) (k:Kept w w1) (h0:o.k≠0)=>show Bz o w (.panicked (Bs 106 o.k)) w1 from ⟨k,.inr ⟨h0,rfl⟩⟩);go_enter Tryz.func122,Tryz.ntmps122;go_wp2_with fail;rw [←HW.out];clear cW
  refine Ha 9 ([(vE (.slice (some ⟨bA,oA,none⟩) a.length cA)),(vE (.pointer (some ⟨bA,oA,none⟩))),(fun v wv=>IvR wv v ga.raw),(vP w.heap.size 0),(vE (.int .i64 (p:Int))),(fun v wv=>∃ d,v=.tuple #[d,.int .i64 (Br o).k]∧IvR wv d (Br o).v),(fun v wv=>IvR wv v (Br o).v),(vE (.int .i64 (Br o).k)),(fun v wv=>o.k=0∧IvR wv v o.v.raw)])
   ⟨
    (gq 2),(gv 0 81),(fun aF wF F=>by have s82:=F.v 1 82;obtain ⟨xx,yy,zz,xx',yy',zz',h0,h1,h2,h3,h4,h5,hI⟩:=(by have h:=HA.out _ (K.out.trans F.kept);simpa using h);exact sv hI),(gq 6),(gvl 3 84 fun _ k=>Ai HP.out k 0 _ rfl),(fun aF wF F=>by have s83:=F.p 2 83;have s85:=F.v 4 85;exact sP (C1.out _ (K.out.trans F.kept) _ s83) fun _ _ h=>h),(fun aF wF F=>by have s86:=F.p 5 86;obtain ⟨dd,ee,hh⟩:=s86;exact sv hh),(fun aF wF F=>by have s86:=F.p 5 86;exact sw (by obtain ⟨dd,ee,hh⟩:=s86;go_simp) rfl),(fun aF wF F=>by have s87:=F.p 6 87;have s88:=F.v 7 88;exact sJ (Ic (o:=o) s87) (fun _ _ _ h0 h=>⟨h0,h⟩) (fun w2 k2 h0=>⟨F.defers,BAD.out _ (K.out.trans (F.kept.trans k2)) h0⟩)),
    trivial⟩ ?_
  intro u w1 k1 hu;have p83:=hp hu 2;have p86:=hp hu 5;have p87:=hp hu 6;have p89:=hp hu 8;simp only [Av,An,if_true,Act.put,zlA,zlB,zlC,zlD,zlE,zlF,zlG,hv hu 0,hv hu 1,hv hu 3,hv hu 4,hv hu 7];clear hu;generalize u 2=v83,u 5=v86,u 6=v87,u 8=v89 at *;obtain ⟨h0,hv⟩:=p89;obtain ⟨P,pl,pc,P',pl',pc',rfl,z1,z2⟩:=Bm hv;have hr:=HR.out.kept k1;obtain ⟨-,r0,r1,r2,r3,r4,r5⟩:=hr.facts;obtain ⟨f0,f1,f2,f3,f4,f5⟩:=hr.free;have HRR:=hid hr;have Z1:=hid z1;have Z2:=hid z2;have H0:=hid h0;have K1:=hid k1;clear hr z1 z2 hv h0 k1 p83 p86 p87;go_simp;go_wp2_with fail;exact Et (HRR.out.laid _ _ _ _ _ _) rfl rfl rfl ⟨Az (K.out.trans K1.out) (by omega),.inl ⟨H0.out,_,rfl,_,_,_,_,_,_,rfl,Z1.out.ivW HRR.out _ _ _ _ _ _,Z2.out.ivW HRR.out _ _ _ _ _ _⟩⟩
 ·rw [if_neg hn];have C1:=hid (fun w1 (k:Kept w w1)=>show Calls Tryz.prog 165 #[.agg #[.int .i64 p],va,va,.int .i64 0,.int .i64 n,.int .i64 n] w1 (Bz (Gb p a a n) w1) from Age (fr:=0) O h6 h8 (ha.kept k) (ha.kept k) ga ga na na la la rfl (hT.kept k) p1 p2);have hnb:(n==0)=false:=by rw [beq_eq_false_iff_ne];exact hn
  clear ha ga na la hT p1 p2 O h6 h8 h11;generalize Gb p a a n=o at *;go_enter Tryz.func122,Tryz.ntmps122;go_wp2_with fail;rw [←HW.out];refine (C1.out _ K.out).mono ?_;rintro e w1 ⟨q,⟨h0,v,rfl,hv⟩ | ⟨h0,rfl⟩⟩
  ·obtain ⟨P,pl,pc,P',pl',pc',rfl,z1,z2⟩:=Bm hv;have hr:=HR.out.kept q;obtain ⟨-,r0,r1,r2,r3,r4,r5⟩:=hr.facts;obtain ⟨f0,f1,f2,f3,f4,f5⟩:=hr.free;have HRR:=hid hr;have Z1:=hid z1;have Z2:=hid z2;have H0:=hid h0;clear hr z1 z2 hv h0 cW;simp only [];go_wp2_with fail;exact Et (HRR.out.laid _ _ _ _ _ _) rfl rfl rfl ⟨Az (K.out.trans q) (by omega),.inl ⟨H0.out,_,rfl,_,_,_,_,_,_,rfl,Z1.out.ivW HRR.out _ _ _ _ _ _,Z2.out.ivW HRR.out _ _ _ _ _ _⟩⟩
  ·exact ⟨rfl,K.out.trans q,.inr ⟨h0,rfl⟩⟩
theorem Amx {S:Int→Prop}{w:World}{va vb vc:Value}{a b c:List RawI}{n p:Nat}(O:Hm S)(h7:S 7)(h8:S 8)(h9:S 9)(ha:IvS w va a)(hb:IvS w vb b)(hc:IvS w vc c)(ga:Gd a)(gb:Gd b)(gc:Gd c)(na:n<a.length)(nb:n<b.length)(nc:n≤c.length)
 (la:a.length≤1000) (lb:b.length≤1000) (lc:c.length≤1000) (hT:Tab w) (p1:1≤p) (p2:p≤2000) :
 Calls Tryz.prog 122 #[.agg #[.int .i64 p],.int .i64 9,va,vb,vc,.int .i64 n] w (Bz ((Fe p b c n (gI a n) (List.range' 1 n)).th fun x=>Da x (gI b 0) p) w):=by
 obtain ⟨W,hW,kW,bW,BR⟩:=Mk w p;have HW:=hid hW;have K:=hid kW;have HP:=hid bW;have HR:=hid BR;clear hW kW bW BR;obtain ⟨o1,ho1⟩:∃ o,o=Fe p b c n (gI a n) (List.range' 1 n):=⟨_,rfl⟩;obtain ⟨o2,ho2⟩:∃ o,o=Da o1.v (gI b 0) p:=⟨_,rfl⟩;have ok1:o1.v.Ok:=by rw [ho1];exact Th p1 _ (Em ga na).1
 have C1:=hid (fun w1 (k:Kept w w1) v (hv:IvR w1 v (gI a n).raw)=>show Calls Tryz.prog 166 #[.agg #[.int .i64 p],v,vb,vc,.int .i64 1,.int .i64 n,.int .i64 n] w1 (Bz o1 w1) from by
  rw [ho1];exact Acs (fr:=1) O h7 h8 hv (Em ga na).1 (hb.kept k) (hc.kept k) gb gc (Nat.le_refl _) (.inl nb) nc lb lc rfl (hT.kept k) p1 p2)
 have C2:=hid (fun w1 (k:Kept w w1) v u (hv:IvR w1 v o1.v.raw) (hu:IvR w1 u (gI b 0).raw)=>show Calls Tryz.prog 60 #[.agg #[.int .i64 p],v,u] w1 (Bz o2 w1) from by
  rw [ho2];exact X7 O h9 hv hu ok1 (Em gb (by omega)).1 (hT.kept k) p1 p2)
 rw [←ho1];have e2:(o1.th fun x=>Da x (gI b 0) p)=o1.th fun _=>o2:=by unfold Outc.th;rw [ho2]
 rw [e2];obtain ⟨bA,oA,cA,rfl,hcA,RA⟩:=ha.place ga (by omega);have HA:=hid (fun w1 (k:Kept w w1)=>RA w1 k n na);have hbp:=hb.place gb (by omega);obtain ⟨bB,oB,cB,rfl,hcB,RB⟩:=hbp;have HB:=hid (fun w1 (k:Kept w w1)=>RB w1 k 0 (by omega));have hlb:0<b.length:=by omega
 clear RA RB ha hb hc ga gb gc hT p1 p2 O h7 h8 h9 hcA hcB ho1 ho2 ok1 e2 nc lc;generalize gI a n=ga at *;generalize gI b 0=gb at *;obtain ⟨r,hr⟩:∃ r,r=o1.th fun _=>o2:=⟨_,rfl⟩
 rw [←hr];have B1:=hid (fun (w1:World) (k:Kept w w1) (h:o1.k≠0)=>show Bz r w (.panicked (Bs 106 o1.k)) w1 from by rw [hr,Outc.th_bad h];exact ⟨k,.inr ⟨h,rfl⟩⟩);have B2:=hid (fun (w1:World) (k:Kept w w1) (h':o1.k=0) (h:o2.k≠0)=>show Bz r w (.panicked (Bs 106 o2.k)) w1 from by rw [hr,Outc.th_ok h'];exact ⟨k,.inr ⟨h,rfl⟩⟩);have HG:=hid (fun (h:o1.k=0)=>show r=o2 by rw [hr,Outc.th_ok h]);clear hr;go_enter Tryz.func122,Tryz.ntmps122;go_wp2_with fail;rw [←HW.out]
 refine Ha 15 ([(vE (.agg #[.int .i64 (p:Int)])),(vE (.agg #[.int .i64 (p:Int)])),(vE (.slice (some ⟨bA,oA,none⟩) a.length cA)),(vE (.int .i64 (n:Int))),(vE (.pointer (some ⟨bA,oA+n*6,none⟩))),(fun v wv=>IvR wv v ga.raw),(vE (.slice (some ⟨bB,oB,none⟩) b.length cB)),(vE vc),(vE (.int .i64 (n:Int))),(vE (.int .i64 (n:Int))),(fun v wv=>o1.k=0∧IvR wv v o1.v.raw),(vE (.slice (some ⟨bB,oB,none⟩) b.length cB)),(vE (.pointer (some ⟨bB,oB,none⟩))),(fun v wv=>IvR wv v gb.raw),(fun v wv=>o2.k=0∧IvR wv v o2.v.raw)])
  ⟨
   (gql 6 fun _ k=>Ai HP.out k 0 _ rfl),(gql 6 fun _ k=>Ai HP.out k 0 _ rfl),(gq 2),(gq 5),(gvv 2 64 3 65),(fun aF wF F=>by have s66:=F.v 4 66;obtain ⟨xx,yy,zz,xx',yy',zz',h0,h1,h2,h3,h4,h5,hI⟩:=(HA.out _ (K.out.trans F.kept));exact sv hI),(gq 3),(gq 4),(gq 5),(gq 5),(fun aF wF F=>by have s63:=F.v 1 63;have s67:=F.p 5 67;have s68:=F.v 6 68;have s69:=F.v 7 69;have s70:=F.v 8 70;have s71:=F.v 9 71;exact sJ (C1.out _ (K.out.trans F.kept) _ s67) (fun _ _ _ h0 h=>⟨h0,h⟩) (fun w2 k2 h0=>⟨F.defers,B1.out _ (K.out.trans (F.kept.trans k2)) h0⟩)),(gq 3),(gv 11 73),(fun aF wF F=>by have s74:=F.v 12 74;obtain ⟨xx,yy,zz,xx',yy',zz',h0,h1,h2,h3,h4,h5,hI⟩:=(by have h:=HB.out _ (K.out.trans F.kept);simpa using h);exact sv hI),(fun aF wF F=>by have s62:=F.v 0 62;have s72:=F.p 10 72;have s75:=F.p 13 75;exact sJ (C2.out _ (K.out.trans F.kept) _ _ s72.2 s75) (fun _ _ _ h0 h=>⟨h0,h⟩) (fun w2 k2 h0=>⟨F.defers,B2.out _ (K.out.trans (F.kept.trans k2)) s72.1 h0⟩)),
   trivial⟩ ?_
 intro u w1 k1 hu;have p67:=hp hu 5;have p72:=hp hu 10;have p75:=hp hu 13;have p76:=hp hu 14;simp only [Av,An,if_true,Act.put,zlA,zlB,zlC,zlD,zlE,zlF,zlG,hv hu 0,hv hu 1,hv hu 2,hv hu 3,hv hu 4,hv hu 6,hv hu 7,hv hu 8,hv hu 9,hv hu 11,hv hu 12];clear hu;generalize u 5=v67,u 10=v72,u 13=v75,u 14=v76 at *;obtain ⟨h0,hv⟩:=p76;obtain rfl:=HG.out p72.1;obtain ⟨P,pl,pc,P',pl',pc',rfl,z1,z2⟩:=Bm hv;have hr:=HR.out.kept k1;obtain ⟨-,r0,r1,r2,r3,r4,r5⟩:=hr.facts;obtain ⟨f0,f1,f2,f3,f4,f5⟩:=hr.free;have HRR:=hid hr;have Z1:=hid z1;have Z2:=hid z2;have H0:=hid h0;have K1:=hid k1;clear hr z1 z2 hv h0 k1 p67 p72 p75
 go_simp;go_wp2_with fail;exact Et (HRR.out.laid _ _ _ _ _ _) rfl rfl rfl ⟨Az (K.out.trans K1.out) (by omega),.inl ⟨H0.out,_,rfl,_,_,_,_,_,_,rfl,Z1.out.ivW HRR.out _ _ _ _ _ _,Z2.out.ivW HRR.out _ _ _ _ _ _⟩⟩
def zc6:Array Value:=(Value.agg #[.bool false,.slice none 0 0,.int .i64 0,.bool false,.slice none 0 0,.int .i64 0]).cells
theorem Ano {m i t:Nat}(ht:t<6)(hi:i<m):(Builtin.zeroCells zc6 m).toList[i*6+t]?=some (zc6[t]!):=by
 have hb:i*6+t<m*6:=by omega
 have hm:(i*6+t)%6=t:=by omega
 rw [Array.getElem?_toList];unfold Builtin.zeroCells;have hs:zc6.size=6:=rfl;rw [hs,Array.getElem?_map,Array.getElem?_range,if_pos hb,Option.map_some,hm]
theorem Rt {w:World}{ops:Array Oper}{rest:List Oper}{o:Oper}{a:Act}{Q:Exit→Act→World→Prop}(hgd:o.guard=none)(s x:Operand)
 (ho:o.op=.call { callee:=.builtin .append,args:=#[s,x],argTypes:=#[31,3] })
 {base n m:Nat} {v:Value} {xs:List Value} (hv:a.eval s=v) (hown:w.ownsRow base 30 6 v n xs) (hx:a.eval x=.int .i64 (m:Int)) (hn:n+m≤1000) (hbase:base≤w.heap.size)
 (h:∀ v' w',w'.ownsRow base 30 6 v' (n+m) (xs++(Builtin.zeroCells zc6 m).toList)→w.grownBy w' v.ownBlock→wpList Tryz.prog ops Q rest (a.put o.dst v') w'):wpList Tryz.prog ops Q (o::rest) a w:=by
 obtain ⟨i0,hi,hz0,hz1,hz2⟩:=info_parts Vn;refine G9 w hgd s x 31 3 ho base 30 i0 _ .i64 .i64 Tryz.underlying31 Tryz.underlying3 hi hz0 (by rw [hz1];decide) (by rw [hz1];rfl) v n xs hv (by rw [hz1];exact hown) m _ hx rfl ?_ (by unfold maxLen;omega) (by rw [hz2];omega) hbase ?_
 ·intro u hu;have:=Gm hu;simp [Value.cells] at this;rcases this with rfl | rfl | rfl | rfl | rfl | rfl<;>rfl
 ·intro v' w' h1 h2;rw [hz1] at h1;exact h v' w' h1 h2
theorem Adp {w':World}{base k:Nat}{v' x y z x' y' z':Value}{a:RawI}(OW:w'.ownsRow base 30 6 v' (1+k) ([x,y,z,x',y',z']++(Builtin.zeroCells zc6 k).toList))(hI:IvR w' (.agg #[x,y,z,x',y',z']) a):IvS w' v' (Hc a k):=by
 have hc:=OW.2;rcases hc with ⟨-,h0⟩ | ⟨g,cap,cur,rfl,hbg,hg,hncap,-⟩
 ·omega
 refine ⟨_,cap,by simp [Hc,Nat.add_comm],by simp [Hc];omega,fun _=>⟨g,0,rfl,fun i d hi=>?_⟩⟩;have cl:=OW.cells (g:=g) rfl;have ad:∀ j,(⟨g,0,none⟩:Addr).add j=⟨g,j,none⟩:=by intro j;unfold Addr.add;split<;>simp_all
 have cl':∀ j u,([x,y,z,x',y',z']++(Builtin.zeroCells zc6 k).toList)[j]?=some u→w'.cell? ⟨g,j,none⟩=some u:=fun j u hj=>by have:=cl j u hj;rwa [ad] at this
 rcases i with _ | i
 ·have hd:a=d:=by simpa [Hc] using hi
  subst hd;exact ⟨_,_,_,_,_,_,cl' 0 _ rfl,cl' 1 _ rfl,cl' 2 _ rfl,cl' 3 _ rfl,cl' 4 _ rfl,cl' 5 _ rfl,hI⟩
 ·have hik:i<k:=by
   have:=(List.getElem?_eq_some_iff.1 hi).1;simpa [Hc] using this
  obtain rfl:d=rzI:=by
   unfold Hc at hi;rw [List.getElem?_cons_succ,List.getElem?_replicate,if_pos hik] at hi;exact (Option.some.inj hi).symm
  have hz:∀ t,t<6→w'.cell? ⟨g,0+(i+1)*6+t,none⟩=some (zc6[t]!):=fun t ht=>cl' _ _ (by
   rw [List.getElem?_append_right (by simp;omega),show 0+(i+1)*6+t-[x,y,z,x',y',z'].length=i*6+t by simp;omega];exact Ano ht hik)
  exact ⟨_,_,_,_,_,_,hz 0 (by decide),hz 1 (by decide),hz 2 (by decide),hz 3 (by decide),hz 4 (by decide),hz 5 (by decide),Cr _⟩
def Ald (a:RawI) (k:Nat) (w:World) (e:Ending) (w':World):Prop:=Kept w w'∧∃ v xs,e=.returned v∧IvS w' v (Hc a k)∧w'.ownsRow w.heap.size 30 6 v (k+1) xs
theorem Aay {w:World}{va:Value}{a:RawI}{k:Nat}(ha:IvR w va a)(hk:k≤900):Calls Tryz.prog 56 #[va,.int .i64 k] w (Ald a k w):=by
 obtain ⟨A,l,c,A',l',c',rfl,h1,h2⟩:=Au ha
 obtain ⟨W,hW,kW,BI,lW⟩:∃ W,W=w.alloc (.cells #[.bool a.lo.neg,.slice A l c,.int .i64 a.lo.e,.bool a.hi.neg,.slice A' l' c',.int .i64 a.hi.e] 30)∧Kept w W∧BlkI W w.heap.size (.bool a.lo.neg) (.slice A l c) (.int .i64 a.lo.e) (.bool a.hi.neg) (.slice A' l' c') (.int .i64 a.hi.e)∧W.heap.size=w.heap.size+1 :=
  ⟨_,rfl,Ad _ _,Fs _ _ _ _ _ _ _,by simp⟩
 have HW:=hid hW;have K:=hid kW;have HA:=hid ha;obtain ⟨-,c0,c1,c2,c3,c4,c5⟩:=BI.facts;clear hW kW BI h1 h2 ha;have LW:=hid lW;clear lW;generalize hn1:a.lo.neg=n1 at *;generalize hn2:a.lo.e=e1 at *;generalize hn3:a.hi.neg=n2 at *;generalize hn4:a.hi.e=e2 at *;clear hn1 hn2 hn3 hn4;go_enter Tryz.func56,Tryz.ntmps56;go_upto_region 1 with fail;rw [←HW.out]
 have own:(W.alloc (.cells #[.bool n1,.slice A l c,.int .i64 e1,.bool n2,.slice A' l' c',.int .i64 e2] 30)).ownsRow w.heap.size 30 6 (.slice (some ⟨W.heap.size,0,none⟩) 1 1) 1 [.bool n1,.slice A l c,.int .i64 e1,.bool n2,.slice A' l' c',.int .i64 e2] :=
  ⟨rfl,.inr ⟨W.heap.size,1,_,rfl,by rw [LW.out];omega,heap_alloc_new _ _,Nat.le_refl _,by unfold maxLen;omega,rfl,rfl⟩⟩
 have OWN:=hid own;clear own
 go_wp2_with (at_builtin;refine Rt rfl (.tmp 6) (.tmp 7) rfl rfl OWN.out rfl (by omega) (by simp;rw [LW.out];omega) ?_;intro v' w' OW gW)
 have hb:w.heap.size≤W.heap.size:=by rw [LW.out];omega
 have kk:Kept w w':=Below.grown (K.out.trans (Ad _ _)) gW (by simp;rw [LW.out];omega) (fun g hg=>Nat.le_trans hb (Nat.le_of_eq (Option.some.inj hg)));have hIv:IvS w' v' (Hc a k):=Adp OW (HA.out.kept kk);have FI:=hid (show Ald a k w (.returned v') w' from ⟨kk,v',_,rfl,hIv,by rw [Nat.add_comm k 1];exact OW⟩);clear hIv kk OW gW OWN;go_ret;exact FI.out
theorem V0 {w:World}{b:Nat}:∀ (l:List RawI) (off:Nat),(∀ i a,l[i]?=some a→IvAt w b (off+i*6) a)→∃ cs:List Value,cs.length=l.length*6 ∧
 (∀ (j:Nat) (u:Value),cs[j]?=some u→w.cell? ⟨b,off+j,none⟩=some u∧Bl u∧u.oneCell'=true) ∧
 (∀ (i:Nat) (a:RawI),l[i]?=some a→∃ x y z x' y' z',cs[i*6]?=some x∧cs[i*6+1]?=some y∧cs[i*6+2]?=some z∧cs[i*6+3]?=some x'∧cs[i*6+4]?=some y'∧cs[i*6+5]?=some z'∧IvR w (.agg #[x,y,z,x',y',z']) a)
 | [],off,_=>⟨[],rfl,by simp,by simp⟩
 | a :: l, off, h => by
   obtain ⟨cs,h1,h2,h3⟩:=V0 l (off+6) (fun i d hi=>by
    have:=h (i+1) d (by simpa using hi);rw [show off+(i+1)*6=off+6+i*6 by omega] at this;exact this)
   obtain ⟨x,y,z,x',y',z',c0,c1,c2,c3,c4,c5,hI⟩:=h 0 a rfl;have hcl:=hI.cells;rw [show off+0*6=off by omega] at c0 c1 c2 c3 c4 c5;refine ⟨x::y::z::x'::y'::z'::cs,by simp only [List.length_cons];omega,?_,?_⟩
   ·intro j u hj;rcases j with _ | _ | _ | _ | _ | _ | j
    ·cases hj;exact ⟨c0,hcl _ (by simp)⟩
    ·cases hj;exact ⟨c1,hcl _ (by simp)⟩
    ·cases hj;exact ⟨c2,hcl _ (by simp)⟩
    ·cases hj;exact ⟨c3,hcl _ (by simp)⟩
    ·cases hj;exact ⟨c4,hcl _ (by simp)⟩
    ·cases hj;exact ⟨c5,hcl _ (by simp)⟩
    ·have:=h2 j u (by simpa using hj);rw [show off+6+j=off+(j+1+1+1+1+1+1) by omega] at this;exact this
   ·intro i d hi;rcases i with _ | i
    ·obtain rfl:a=d:=by simpa using hi
     exact ⟨_,_,_,_,_,_,rfl,rfl,rfl,rfl,rfl,rfl,hI⟩
    ·obtain ⟨p,q,r,p',q',r',e0,e1,e2,e3,e4,e5,hJ⟩:=h3 i d (by simpa using hi);refine ⟨p,q,r,p',q',r',?_,?_,?_,?_,?_,?_,hJ⟩
     ·rw [show (i+1)*6=i*6+6 by omega];exact e0
     ·rw [show (i+1)*6+1=i*6+1+6 by omega];exact e1
     ·rw [show (i+1)*6+2=i*6+2+6 by omega];exact e2
     ·rw [show (i+1)*6+3=i*6+3+6 by omega];exact e3
     ·rw [show (i+1)*6+4=i*6+4+6 by omega];exact e4
     ·rw [show (i+1)*6+5=i*6+5+6 by omega];exact e5
theorem Af8 {w:World}{v:Value}{l:List RawI}(hv:IvS w v l)(h0:0<l.length)(hl:l.length≤1000) :
 Calls Tryz.prog 55 #[v] w fun e w'=>Kept w w'∧∃ v' xs,e=.returned v'∧OwnI w' w.heap.size v' l xs:=by
 obtain ⟨A,c,rfl,hc,hA⟩:=hv;obtain ⟨b,off,rfl,hD⟩:=hA h0;obtain ⟨i0,hi,hz0,hz1,hz2⟩:=info_parts Vn;have e1:=fun (w:World)=>Lib.run_eql_slice_nil (P:=Tryz.prog) w 31 30 (some ⟨b,off,none⟩) l.length c 0 0 Tryz.underlying31
 obtain ⟨W,hW⟩:∃ W,W=w.alloc (.cells #[] 30):=⟨_,rfl⟩;have kW:Kept w W:=by rw [hW];exact Ad _ _
 have hown:W.ownsRow w.heap.size 30 6 (.slice (some ⟨w.heap.size,0,none⟩) 0 0) 0 []:=by rw [hW];exact World.ownsRow_made w #[] 0 (Nat.le_refl _) (by decide) rfl
 have hnol:∀ g,(Value.slice (some ⟨w.heap.size,0,none⟩) 0 0).ownBlock=some g→NoL W g:=by
  intro g hg;obtain rfl:w.heap.size=g:=Option.some.inj hg;exact ⟨_,_,by rw [hW];exact heap_alloc_new _ _,by simp⟩
 obtain ⟨cs,q1,q2,q3⟩:=V0 (w:=W) (b:=b) l off (fun i a hi=>(hD i a hi).kept kW);have ad:∀ j,(⟨b,off,none⟩:Addr).add j=⟨b,off+j,none⟩:=by intro j;unfold Addr.add;split<;>simp_all
 have hsz:w.heap.size≤W.heap.size:=kW.size;have Q2:=hid q2;have Q3:=hid q3;have HO:=hid hown;have HN:=hid hnol;have K:=hid kW;have HW:=hid hW;have AD:=hid ad;clear hA hD hown hnol q2 q3 kW hW ad;go_enter Tryz.func55,Tryz.ntmps55;go_upto_region 3 with fail
 go_wp2_with (at_builtin;rw [←HW.out];refine J7 rfl (.tmp 5) (.tmp 6) _ rfl w.heap.size 30 i0 _ 6 80 Tryz.underlying31 hi hz0 hz1 hz2 rfl (by decide) _ 0 [] rfl HO.out ⟨b,off,none⟩ l.length c cs rfl q1 (fun j u hj=>by rw [AD.out];exact (Q2.out j u hj).1) (fun u hu=>by obtain ⟨j,hj⟩:=List.getElem?_of_mem hu;exact (Q2.out j u hj).2.2) (by unfold maxLen;omega) (by omega) hsz h0 (by simp) (fun u hu=>by obtain ⟨j,hj⟩:=List.getElem?_of_mem hu;exact (Q2.out j u hj).2.1) Ky HN.out ?_;intro v' w' g' o1 o2 o3 o4)
 have kk:Kept w w':=Below.grown K.out o2 hsz (fun g hg=>Nat.le_of_eq (Option.some.inj hg));have own:OwnI w' w.heap.size v' l cs:=by
  refine ⟨by simpa using o1,?_,?_,?_,?_⟩
  ·intro u hu;obtain ⟨j,hj⟩:=List.getElem?_of_mem hu;exact (Q2.out j u hj).2.1
  ·intro u hu;obtain ⟨j,hj⟩:=List.getElem?_of_mem hu;exact (Q2.out j u hj).2.2
  ·intro g hg;rw [o3] at hg;cases hg;exact o4
  ·intro i a hi;obtain ⟨x,y,z,x',y',z',a0,a1,a2,a3,a4,a5,hI⟩:=Q3.out i a hi;exact ⟨x,y,z,x',y',z',a0,a1,a2,a3,a4,a5,hI.grown o2 HN.out⟩
 have FI:=hid (And.intro kk own);clear kk own o1 o2 o3 o4;go_wp2;go_ret;exact ⟨FI.out.1,_,_,rfl,FI.out.2⟩
theorem P8 (w:World)(k b:Int):Calls Tryz.prog 46 #[.int .i64 k,.int .i64 b] w (RetQ (.bool (Gc k b)) w):=by
 unfold Gc;by_cases h1:0≤k
 ·by_cases h2:k≤12
  ·by_cases h3:1≤b
   ·by_cases h4:b≤300
    ·simp only [h1,h2,h3,h4,decide_true,Bool.and_self];go_enter Tryz.func46,Tryz.ntmps46;go_wp2_with fail;go_ret;exact ⟨rfl,0,rfl⟩
    ·simp only [h1,h2,h3,h4,decide_true,decide_false,Bool.and_self,Bool.and_false];go_enter Tryz.func46,Tryz.ntmps46;go_wp2_with fail;go_ret;exact ⟨rfl,0,rfl⟩
   ·simp only [h1,h2,h3,decide_true,decide_false,Bool.and_false,Bool.false_and];go_enter Tryz.func46,Tryz.ntmps46;go_wp2_with fail;go_ret;exact ⟨rfl,0,rfl⟩
  ·simp only [h1,h2,decide_true,decide_false,Bool.and_false,Bool.false_and];go_enter Tryz.func46,Tryz.ntmps46;go_wp2_with fail;go_ret;exact ⟨rfl,0,rfl⟩
 ·simp only [h1,decide_false,Bool.false_and];go_enter Tryz.func46,Tryz.ntmps46;go_wp2_with fail;go_ret;exact ⟨rfl,0,rfl⟩
def LnR (w:World) (v:Value) (l:Ln):Prop:=∃ x y z x' y' z',v=.agg #[.int .i64 l.op,.int .i64 l.a,.int .i64 l.b,x,y,z,x',y',z']∧IvR w (.agg #[x,y,z,x',y',z']) l.k
theorem LnR.kept {w w':World}{v:Value}{l:Ln}(h:LnR w v l)(k:Kept w w'):LnR w' v l:=by
 obtain ⟨x,y,z,x',y',z',e,h⟩:=h;exact ⟨x,y,z,x',y',z',e,h.kept k⟩
theorem Rws.row {w:World}{v:Value}{l:List (List RawI)}(h:Rws w v l){i:Nat}(hi:i<l.length):∃ b off c s,v=.slice (some ⟨b,off,none⟩) l.length c∧l.length≤c∧w.cell? ⟨b,off+i,none⟩=some s∧IvS w s (l.getD i []):=by
 obtain ⟨A,c,rfl,hc,hA⟩:=h;obtain ⟨b,off,rfl,hD⟩:=hA (by omega);obtain ⟨s,h1,h2⟩:=hD i _ (List.getElem?_eq_getElem hi);refine ⟨b,off,c,s,rfl,hc,h1,?_⟩;rw [List.getD_eq_getElem?_getD,List.getElem?_eq_getElem hi];exact h2
def NxC (ov:Iv→Nat→Outc Iv) (S:Int→Prop):Prop:=∀ {w:World} {va vb vc:Value} {a b c:List RawI} {op:Int} {n p:Nat},S op→IvS w va a→IvS w vb b→IvS w vc c→Gd a→Gd b→Gd c→n<a.length→n<b.length→c.length=n →
 a.length≤1000→b.length≤1000→Tab w→1≤p→p≤300→Calls Tryz.prog 122 #[.agg #[.int .i64 p],.int .i64 op,va,vb,vc,.int .i64 n] w (Bz (Cb ov p op a b c n) w)
theorem Aka {ov:Iv→Nat→Outc Iv}{S:Int→Prop}(O:Hm S)(h6:S 6)(h8:S 8):NxC ov (fun op=>op=8):=by
 intro w va vb vc a b c op n p hop ha hb hc ga gb gc na nb nc la lb hT p1 p2;subst hop;exact Am1 O h6 h8 ha hb ga gb na nb la lb hT p1 (by omega)
theorem Akc {ov:Iv→Nat→Outc Iv}{S:Int→Prop}(O:Hm S)(h6:S 6)(h8:S 8)(h11:S 11):NxC ov (fun op=>op=11):=by
 intro w va vb vc a b c op n p hop ha hb hc ga gb gc na nb nc la lb hT p1 p2;subst hop;exact Am3 O h6 h8 h11 ha ga na la hT p1 (by omega)
theorem Aj8 {ov:Iv→Nat→Outc Iv}{S:Int→Prop}(O:Hm S)(h7:S 7)(h8:S 8)(h9:S 9):NxC ov (fun op=>op=9):=by
 intro w va vb vc a b c op n p hop ha hb hc ga gb gc na nb nc la lb hT p1 p2;subst hop;exact Amx O h7 h8 h9 ha hb hc ga gb gc na nb (by omega) la lb (by omega) hT p1 (by omega)
theorem NxC.or {ov:Iv→Nat→Outc Iv}{S U:Int→Prop}(h:NxC ov S)(g:NxC ov U):NxC ov (fun op=>S op∨U op):=by
 intro w va vb vc a b c op n p hop;rcases hop with hop | hop
 ·exact h hop
 ·exact g hop
def OneI (w:World) (v:Value) (r:RawI):Prop:=∃ b x y z x' y' z',v=.slice (some ⟨b,0,none⟩) 1 1∧BlkI w b x y z x' y' z'∧IvR w (.agg #[x,y,z,x',y',z']) r
theorem OneI.kept {w w':World}{v:Value}{r:RawI}(h:OneI w v r)(k:Kept w w'):OneI w' v r:=by
 obtain ⟨b,x,y,z,x',y',z',e,h1,h2⟩:=h;exact ⟨b,x,y,z,x',y',z',e,h1.kept k,h2.kept k⟩
theorem Mx {w:World}{r:RawI}{x y z x' y' z':Value}(h:IvR w (.agg #[x,y,z,x',y',z']) r):OneI (w.alloc (.cells #[x,y,z,x',y',z'] 30)) (.slice (some ⟨w.heap.size,0,none⟩) 1 1) r :=
 ⟨_,_,_,_,_,_,_,rfl,Fs _ _ _ _ _ _ _,h.kept (Ad _ _)⟩
theorem Alj (w:World)(p:Int)(o a b x y z x' y' z':Value):∃ W,W=(w.alloc (.cells #[.int .i64 p] 81)).alloc (.cells #[o,a,b,x,y,z,x',y',z'] 52) ∧
 Kept w W∧W.heap[w.heap.size]?=some (.cells #[.int .i64 p] 81 (0,0))∧W.heap[w.heap.size+1]?=some (.cells #[o,a,b,x,y,z,x',y',z'] 52 (0,0)):=by
 refine ⟨_,rfl,(Ad _ _).trans (Ad _ _),?_,?_⟩
 ·rw [Below.heap_alloc _ _ _ (by simp)];exact heap_alloc_new _ _
 ·have:=heap_alloc_new (w.alloc (.cells #[.int .i64 p] 81)) (.cells #[o,a,b,x,y,z,x',y',z'] 52);simpa using this
theorem Jj (ov:Iv→Nat→Outc Iv)(p:Nat)(op:Int)(a b c:List RawI)(j m:Nat)(h:0<m):Ei ov p op a b c (List.range' j m) =
 if (Cb ov p op a b c j).k=0 then Ei ov p op a b (c++[(Cb ov p op a b c j).v.raw]) (List.range' (j+1) (m-1)) else ⟨[],(Cb ov p op a b c j).k⟩:=by
 obtain ⟨m,rfl⟩:∃ k,m=k+1:=⟨m-1,by omega⟩;rw [List.range'_succ];rfl
theorem Ajl {ov:Iv→Nat→Outc Iv}{S:Int→Prop}{w:World}{vl vall vt vx vq:Value}{l:Ln}{all:List (List RawI)}{k p i1 i2:Nat}(N:NxC ov S)(hS:S l.op)(h6:6≤l.op)(hv:LnR w vl l)(hall:Rws w vall all)
 (ha:l.a=(i1:Int)) (hb:l.b=(i2:Int)) (ia:i1<all.length) (ib:i2<all.length) (ga:Gd (all.getD i1 [])) (gb:Gd (all.getD i2 [])) (na:k<(all.getD i1 []).length) (nb:k<(all.getD i2 []).length)
 (la:(all.getD i1 []).length≤1000) (lb:(all.getD i2 []).length≤1000) (ok:∀ c n,Gd c→n≤k→(Cb ov p l.op (all.getD i1 []) (all.getD i2 []) c n).k=0→(Cb ov p l.op (all.getD i1 []) (all.getD i2 []) c n).v.Ok) (hT:Tab w) (p1:1≤p) (p2:p≤300) :
 Calls Tryz.prog 89 #[.agg #[.int .i64 p],vl,vall,vt,vx,vq,.int .i64 k] w (Sh (Ei ov p l.op (all.getD i1 []) (all.getD i2 []) [] (List.range' 0 (k+1))) w):=by
 obtain ⟨bA,oA,cA,sA,rfl,hcA,cellA,rA⟩:=hall.row ia;obtain ⟨bB,oB,cB,sB,eB,-,cellB,rB⟩:=hall.row ib;obtain ⟨rfl,rfl,rfl⟩:bA=bB∧oA=oB∧cA=cB:=by
  injection eB with e1 e2 e3
  injection e1 with e1
  injection e1 with e4 e5
  exact ⟨e4,e5,e3⟩
 clear eB hall;obtain ⟨x,y,z,x',y',z',rfl,hK⟩:=hv;obtain ⟨a,ea⟩:∃ a,a=all.getD i1 []:=⟨_,rfl⟩;obtain ⟨b,eb⟩:∃ b,b=all.getD i2 []:=⟨_,rfl⟩;rw [←ea] at ga na la rA ok ⊢;rw [←eb] at gb nb lb rB ok ⊢;obtain ⟨op,eo⟩:∃ op,op=l.op:=⟨_,rfl⟩;rw [←eo] at hS h6 ok ⊢;rw [ha,hb];have CN:=hid (fun w1 (q:Kept w w1) c n vc (hc:IvS w1 vc c) (gc:Gd c) (hn:n≤k) (hcl:c.length=n)=>N (w:=w1) (n:=n) (p:=p) hS (rA.kept q) (rB.kept q) hc ga gb gc (by omega) (by omega) hcl la lb (hT.kept q) p1 p2);have OK:=hid ok;have t1:(op==1)=false:=by rw [beq_eq_false_iff_ne];omega
 have t2:(op==2)=false:=by rw [beq_eq_false_iff_ne];omega
 have t3:(op==3)=false:=by rw [beq_eq_false_iff_ne];omega
 have t5:(op==5)=false:=by rw [beq_eq_false_iff_ne];omega
 obtain ⟨W,hW,kW,bW,bL⟩:=Alj w p (.int .i64 op) (.int .i64 i1) (.int .i64 i2) x y z x' y' z';have CA:=hid cellA;have CB:=hid cellB;have HW:=hid hW;have K:=hid kW;have HP:=hid bW;have HLN:=hid bL;have RA:=hid rA;have RB:=hid rB;have c0:=Ab bL 0 _ rfl;obtain ⟨r,er⟩:∃ r,r=Ei ov p op a b [] (List.range' 0 (k+1)):=⟨_,rfl⟩;have ER:=hid er;rw [←er];generalize hl2:all.length=m at *;have hk9:k<1000:=by omega
 clear hW kW bW bL cellA cellB rA rB ga gb na nb la lb hS N hT p1 p2 ok h6 hK er ha hb hl2 ea eb eo hcA;go_enter Tryz.func89,Tryz.ntmps89;go_wp2_with fail;rw [←HW.out];clear HW;go_step3;go_upto_region 11 with fail;go_step3;go_wp2_with fail
 go_loopw [15,17] (fun vc t wr=>∃ (j:Nat) (c:List RawI) (xs:List Value),t=.int .i64 (j:Int)∧j≤k+1∧c.length=j∧Gd c∧Ei ov p op a b c (List.range' j (k+1-j))=r∧OwnI wr W.heap.size vc c xs∧Kept W wr) (fun _ t _=>(k+1-intOf t).toNat)
 case atStart=>exact ⟨0,[],[],rfl,Nat.zero_le _,rfl,(by intro a ha;cases ha),ER.out.symm,OwnI.nil _ _,Below.refl _ _⟩
 case round =>
  obtain ⟨j,c,xs,rfl,hj,hcl,gc,hco,hown,hkr⟩:=hrel;have HCL:=hid hcl;have GC:=hid gc;have HCO:=hid hco;have OWN:=hid hown;have KR:=hid hkr;clear hcl gc hco hown hkr;by_cases hjk:j≤k
  ·obtain ⟨o,ho⟩:∃ o,o=Cb ov p op a b c j:=⟨_,rfl⟩;have hsn:=Jj ov p op a b c j (k+1-j) (by omega);rw [HCO.out,←ho] at hsn;have hbad:o.k≠0→r=⟨[],o.k⟩:=fun h=>by rw [hsn,if_neg h]
   have hgo:o.k=0→Ei ov p op a b (c++[o.v.raw]) (List.range' (j+1) (k+1-(j+1)))=r:=fun h=>by rw [hsn,if_pos h,show k+1-(j+1)=k+1-j-1 by omega]
   have HNX:=hid (fun w1 (q:Kept wr w1)=>ho▸CN.out w1 ((K.out.trans KR.out).trans q) c j _ (OWN.out.ivS.kept q) GC.out hjk HCL.out);have OKV:=hid (fun (h:o.k=0)=>show o.v.Ok by rw [ho] at h ⊢;exact OK.out c j GC.out hjk h);have BAD:=hid (fun (w1:World) (q:Kept w w1) (h:o.k≠0)=>show Sh r w (.panicked (Bs 106 o.k)) w1 by rw [hbad h];exact ⟨q,.inr ⟨h,rfl⟩⟩);have GO:=hid hgo;have HPw:=hid ((KR.out.block _ (Array.getElem?_eq_some_iff.1 HP.out).1).trans HP.out);have HLw:=hid ((KR.out.block _ (Array.getElem?_eq_some_iff.1 HLN.out).1).trans HLN.out);have CAw:=hid (fun w1 (q:Kept wr w1)=>(((K.out.trans KR.out).trans q).cell (p:=⟨bA,oA+i1,none⟩) (Aq CA.out)).trans CA.out)
   have CBw:=hid (fun w1 (q:Kept wr w1)=>(((K.out.trans KR.out).trans q).cell (p:=⟨bA,oA+i2,none⟩) (Aq CB.out)).trans CB.out);have enil:=fun (w:World)=>Go.run_neq_slice_nil_any (P:=Tryz.prog) w 31 30 none 0 0 0 0 Tryz.underlying31
   clear ho hsn hbad hgo;go_wp2_with fail;clear enil
   refine Rn 18 ([(vE u15),(vE (.agg #[.int .i64 (p:Int)])),(vP (w.heap.size+1) 0),(vE (.int .i64 op)),(vE (.slice (some ⟨bA,oA,none⟩) m cA)),(vP (w.heap.size+1) 1),(vE (.int .i64 (i1:Int))),(vE (.pointer (some ⟨bA,oA+i1,none⟩))),(vE sA),(vE (.slice (some ⟨bA,oA,none⟩) m cA)),(vP (w.heap.size+1) 2),(vE (.int .i64 (i2:Int))),(vE (.pointer (some ⟨bA,oA+i2,none⟩))),(vE sB),(vE u15),(vE (.int .i64 (j:Int))),(fun v wv=>o.k=0∧IvR wv v o.v.raw),(fun v wv=>OneI wv v o.v.raw)])
    (hM:=⟨⟨mE,mE,mE,mE,mE,mE,mE,mE,mE,mE,mE,mE,mE,mE,mE,mE,fun v w w' k h=>⟨h.1,h.2.kept k⟩,fun v w w' k h=>h.kept k,trivial⟩⟩) ⟨
      (gq 15),(gql 7 fun _ k=>Ai HPw.out k 0 _ rfl),(gq 8),(gvl 2 66 fun _ k=>Ai HLw.out k 0 _ rfl),(gq 2),(gq 8),(gvl 5 69 fun _ k=>Ai HLw.out k 1 _ rfl),(gvv 4 68 6 70),(fun aF wF F=>by have s71:=F.v 7 71;exact sw (by have hq:=CAw.out _ F.kept;go_simp) rfl),(gq 2),(gq 8),(gvl 10 74 fun _ k=>Ai HLw.out k 2 _ rfl),(gvv 9 73 11 75),(fun aF wF F=>by have s76:=F.v 12 76;exact sw (by have hq:=CBw.out _ F.kept;go_simp) rfl),(gq 15),(gq 17),(fun aF wF F=>by have s65:=F.v 1 65;have s67:=F.v 3 67;have s72:=F.v 8 72;have s77:=F.v 13 77;have s78:=F.v 14 78;have s79:=F.v 15 79;exact sJ (HNX.out _ F.kept) (fun _ _ _ h0 h=>⟨h0,h⟩) (fun w2 k2 h0=>⟨F.defers,BAD.out _ ((K.out.trans KR.out).trans (F.kept.trans k2)) h0⟩)),(fun aF wF F=>by have s80:=F.p 16 80;obtain ⟨A1,l1,d1,A2,l2,d2,e9,h9,g9⟩:=Au s80.2;simp only [Array.getD_eq_getD_getElem?] at e9;exact sNa (Mx (r:=o.v.raw) ⟨_,_,_,_,_,_,rfl,h9,g9⟩)),
      trivial⟩ ?_
   intro u w1 k1 hu;have p80:=hp hu 16;have p81:=hp hu 17;simp only [Av,An,if_true,Act.put,zlA,zlB,zlC,zlD,zlE,zlF,zlG,hv hu 0,hv hu 1,hv hu 2,hv hu 3,hv hu 4,hv hu 5,hv hu 6,hv hu 7,hv hu 8,hv hu 9,hv hu 10,hv hu 11,hv hu 12,hv hu 13,hv hu 14,hv hu 15];clear hu;generalize u 16=v80,u 17=v81 at *;obtain ⟨h0,-⟩:=p80;obtain ⟨b1,x0,x1,x2,x3,x4,x5,e81,hb1,hI⟩:=p81;subst e81;have own1:=OWN.out.kept k1;have hcl9:c.length≤1000:=by have:=HCL.out;omega
   have hW9:W.heap.size≤w1.heap.size:=(KR.out.trans k1).size;refine ⟨?_,.inl (by kernel_rfl)⟩;refine Qb (.tmp 64) (.tmp 81) ?ho (v:=u15) ?hs own1 hI hb1 ?hx hcl9 hW9 ?h
   case ho=>rfl
   case hs=>first | rfl | (go_simp;done)
   case hx=>first | rfl | (go_simp;done)
   intro v' X OX gX;have KX:=hid (OwnI.grown_kept own1 (KR.out.trans k1) gX);have OXX:=hid OX;have H0:=hid h0;clear own1 hI hb1 OX gX k1 h0 hW9;go_simp;go_wp2_with fail;go_roundw
   case rel =>
    refine ⟨j+1,c++[o.v.raw],_,by go_num,by omega,by simp [HCL.out],?_,GO.out H0.out,OXX.out,KX.out⟩;intro y hy;rcases List.mem_append.1 hy with hy | hy
    ·exact GC.out y hy
    ·simp only [List.mem_singleton] at hy;subst hy;have:=OKV.out H0.out;rw [Iv.raw_iv];exact ⟨this,rfl⟩
   case measure=>simp [intOf];omega
  ·obtain rfl:j=k+1:=by omega
   have hr:r=⟨c,0⟩:=by
    have:=HCO.out;rw [show k+1-(k+1)=0 by omega] at this;exact this.symm
   have FI:=hid (show Sh r w (.returned u15) wr by
    rw [hr];exact ⟨K.out.trans KR.out,.inl ⟨rfl,_,rfl,OWN.out.ivS,fun g hg=>Nat.le_trans K.out.size (OWN.out.base g hg)⟩⟩)
   clear hr;go_wp2_with fail;go_ret;exact FI.out
theorem Oo (p:Nat)(g c:List RawI)(j m:Nat)(h:0<m):Eg p g c (List.range' j m) =
 if (Cv (gI g j) p).k=0 then Eg p g (c++[(Cv (gI g j) p).v.raw]) (List.range' (j+1) (m-1)) else ⟨[],(Cv (gI g j) p).k⟩:=by
 obtain ⟨m,rfl⟩:∃ k,m=k+1:=⟨m-1,by omega⟩;rw [List.range'_succ];rfl
theorem Ajm {w:World}{vl vall vt vx vq:Value}{l:Ln}{g:List RawI}{k p:Nat}(hop:l.op=3)(hv:LnR w vl l){rs:List (List RawI)}{i:Nat}(hrs:Rws w vx rs)(hi:i<rs.length)(hla:l.a=(i:Int))(hge:rs.getD i []=g)(gg:Gd g)(na:k<g.length)(la:g.length≤1000)(hT:Tab w)(p1:1≤p)(p2:p≤300) :
 Calls Tryz.prog 89 #[.agg #[.int .i64 p],vl,vall,vt,vx,vq,.int .i64 k] w (Sh (Eg p g [] (List.range' 0 (k+1))) w):=by
 obtain ⟨bX,oX,cX,sX,rfl,-,cellX,hg⟩:=hrs.row hi;rw [hge] at hg;obtain ⟨bG,oG,cG,rfl,-,hRG⟩:=hg.place gg (by omega);have RG:=hid (fun w1 (q:Kept w w1) j (hj:j≤k)=>hRG w1 q j (by omega));clear hRG hg hrs hge;obtain ⟨x,y,z,x',y',z',rfl,hK⟩:=hv;rw [hop];have CR:=hid (fun w1 (q:Kept w w1) n v (hn:n≤k) (hv:IvR w1 v (gI g n).raw)=>Yy (p:=p) hv (Em gg (by omega)).1 (hT.kept q) p1 (by omega));obtain ⟨W,hW,kW,bW,bL⟩:=Alj w p (.int .i64 3) (.int .i64 l.a) (.int .i64 l.b) x y z x' y' z';have HW:=hid hW;have K:=hid kW;have HP:=hid bW;have HLN:=hid bL;have c0:=Ab bL 0 _ rfl;have c1:=Ab bL 1 _ rfl
 have cX1:=(kW.cell (p:=⟨bX,oX+i,none⟩) (Aq cellX)).trans cellX;rw [hla] at bL c0 c1 HLN HW ⊢;clear cellX;generalize rs.length=mX at *;obtain ⟨r,er⟩:∃ r,r=Eg p g [] (List.range' 0 (k+1)):=⟨_,rfl⟩;have ER:=hid er;rw [←er];generalize l.a=la' at *;generalize l.b=lb' at *;have hk9:k<1000:=by omega
 clear hW kW bW bL gg hT p1 p2 hK er hop;go_enter Tryz.func89,Tryz.ntmps89;go_wp2_with fail;rw [←HW.out];clear HW;go_step3;go_upto_region 11 with fail;go_step3;go_wp2_with fail
 go_loopw [15,17] (fun vc t wr=>∃ (j:Nat) (c:List RawI) (xs:List Value),t=.int .i64 (j:Int)∧j≤k+1∧c.length=j∧Eg p g c (List.range' j (k+1-j))=r∧OwnI wr W.heap.size vc c xs∧Kept W wr) (fun _ t _=>(k+1-intOf t).toNat)
 case atStart=>exact ⟨0,[],[],rfl,Nat.zero_le _,rfl,ER.out.symm,OwnI.nil _ _,Below.refl _ _⟩
 case round =>
  obtain ⟨j,c,xs,rfl,hj,hcl,hco,hown,hkr⟩:=hrel;have HCL:=hid hcl;have HCO:=hid hco;have OWN:=hid hown;have KR:=hid hkr;clear hcl hco hown hkr;by_cases hjk:j≤k
  ·obtain ⟨o,ho⟩:∃ o,o=Cv (gI g j) p:=⟨_,rfl⟩;have hsn:=Oo p g c j (k+1-j) (by omega);rw [HCO.out,←ho] at hsn;have hbad:o.k≠0→r=⟨[],o.k⟩:=fun h=>by rw [hsn,if_neg h]
   have hgo:o.k=0→Eg p g (c++[o.v.raw]) (List.range' (j+1) (k+1-(j+1)))=r:=fun h=>by rw [hsn,if_pos h,show k+1-(j+1)=k+1-j-1 by omega]
   have HNX:=hid (fun w1 (q:Kept wr w1) v (hv:IvR w1 v (gI g j).raw)=>ho▸CR.out w1 ((K.out.trans KR.out).trans q) j v hjk hv);have BAD:=hid (fun (w1:World) (q:Kept w w1) (h:o.k≠0)=>show Sh r w (.panicked (Bs 106 o.k)) w1 by rw [hbad h];exact ⟨q,.inr ⟨h,rfl⟩⟩);have GO:=hid hgo;have HPw:=hid ((KR.out.block _ (Array.getElem?_eq_some_iff.1 HP.out).1).trans HP.out);have enil:=fun (w:World)=>Go.run_neq_slice_nil_any (P:=Tryz.prog) w 31 30 (some ⟨bG,oG,none⟩) g.length cG 0 0 Tryz.underlying31
   have hro:(Br o).k=o.k:=rfl;have hjg:j<g.length:=by omega
   clear ho hsn hbad hgo;go_wp2_with fail;clear enil
   refine Rn 12 ([(vE u15),(vE (.slice (some ⟨bG,oG,none⟩) g.length cG)),(vE (.int .i64 (j:Int))),(vE (.pointer (some ⟨bG,oG+j*6,none⟩))),(fun v wv=>IvR wv v ((gI g j).raw)),(vP w.heap.size 0),(vE (.int .i64 (p:Int))),(fun v wv=>∃ d,v=.tuple #[d,.int .i64 (Br o).k]∧IvR wv d (Br o).v),(fun v wv=>IvR wv v (Br o).v),(vE (.int .i64 (Br o).k)),(fun v wv=>o.k=0∧IvR wv v o.v.raw),(fun v wv=>OneI wv v o.v.raw)])
    (hM:=⟨⟨mE,mE,mE,mE,fun v w w' k h=>by first | exact h | exact h.kept k | exact ⟨h.1,h.2.kept k⟩,mE,mE,fun v w w' k h=>by obtain ⟨d,h1,h2⟩:=h;exact ⟨d,h1,h2.kept k⟩,fun v w w' k h=>by first | exact h | exact h.kept k | exact ⟨h.1,h.2.kept k⟩,mE,fun v w w' k h=>⟨h.1,h.2.kept k⟩,fun v w w' k h=>h.kept k,trivial⟩⟩) ⟨
      (gq 15),(gq 16),(gq 17),(gvv 1 52 2 53),(fun aF wF F=>by have s54:=F.v 3 54;obtain ⟨xx,yy,zz,xx',yy',zz',h0,h1,h2,h3,h4,h5,hI⟩:=(RG.out _ ((K.out.trans KR.out).trans F.kept) j (by omega));exact sv hI),(gq 7),(gvl 5 56 fun _ k=>Ai HPw.out k 0 _ rfl),(fun aF wF F=>by have s55:=F.p 4 55;have s57:=F.v 6 57;exact sP (HNX.out _ F.kept _ s55) fun _ _ h=>h),(fun aF wF F=>by have s58:=F.p 7 58;obtain ⟨dd,ee,hh⟩:=s58;exact sv hh),(fun aF wF F=>by have s58:=F.p 7 58;exact sw (by obtain ⟨dd,ee,hh⟩:=s58;go_simp) rfl),(fun aF wF F=>by have s59:=F.p 8 59;have s60:=F.v 9 60;exact sJ (Ic (o:=o) s59) (fun _ _ _ h0 h=>⟨h0,h⟩) (fun w2 k2 h0=>⟨F.defers,BAD.out _ ((K.out.trans KR.out).trans (F.kept.trans k2)) h0⟩)),(fun aF wF F=>by have s61:=F.p 10 61;obtain ⟨A1,l1,d1,A2,l2,d2,e9,h9,g9⟩:=Au s61.2;simp only [Array.getD_eq_getD_getElem?] at e9;exact sNa (Mx (r:=o.v.raw) ⟨_,_,_,_,_,_,rfl,h9,g9⟩)),
      trivial⟩ ?_
   intro u w1 k1 hu;have p55:=hp hu 4;have p58:=hp hu 7;have p59:=hp hu 8;have p61:=hp hu 10;have p62:=hp hu 11;simp only [Av,An,if_true,Act.put,zlA,zlB,zlC,zlD,zlE,zlF,zlG,hv hu 0,hv hu 1,hv hu 2,hv hu 3,hv hu 5,hv hu 6,hv hu 9];clear hu;generalize u 4=v55,u 7=v58,u 8=v59,u 10=v61,u 11=v62 at *;obtain ⟨h0,-⟩:=p61;obtain ⟨b1,x0,x1,x2,x3,x4,x5,e81,hb1,hI⟩:=p62;subst e81;have own1:=OWN.out.kept k1;have hcl9:c.length≤1000:=by have:=HCL.out;omega
   have hW9:W.heap.size≤w1.heap.size:=(KR.out.trans k1).size;refine ⟨?_,.inl (by kernel_rfl)⟩;refine Qb (.tmp 51) (.tmp 62) ?ho (v:=u15) ?hs own1 hI hb1 ?hx hcl9 hW9 ?h
   case ho=>rfl
   case hs=>first | rfl | (go_simp;done)
   case hx=>first | rfl | (go_simp;done)
   intro v' X OX gX;have KX:=hid (OwnI.grown_kept own1 (KR.out.trans k1) gX);have OXX:=hid OX;have H0:=hid h0;clear own1 hI hb1 OX gX k1 h0 hW9 p55 p58 p59;go_simp;go_wp2_with fail;go_roundw
   case rel=>exact ⟨j+1,c++[o.v.raw],_,by go_num,by omega,by simp [HCL.out],GO.out H0.out,OXX.out,KX.out⟩
   case measure=>simp [intOf];omega
  ·obtain rfl:j=k+1:=by omega
   have hr:r=⟨c,0⟩:=by
    have:=HCO.out;rw [show k+1-(k+1)=0 by omega] at this;exact this.symm
   have FI:=hid (show Sh r w (.returned u15) wr by
    rw [hr];exact ⟨K.out.trans KR.out,.inl ⟨rfl,_,rfl,OWN.out.ivS,fun g hg=>Nat.le_trans K.out.size (OWN.out.base g hg)⟩⟩)
   clear hr;go_wp2_with fail;go_ret;exact FI.out
end Go.Proofs.YtabjjdicffcolaaGreatDoor
