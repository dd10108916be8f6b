/- Words and contracts, part 17. -/
import Derived.Test.YtabjjdicffcolaaGreatDoorClaimJfrontp15
set_option maxRecDepth 100000
set_option maxHeartbeats 0
namespace Go.Proofs.YtabjjdicffcolaaGreatDoor
open Go.RowKit
variable {tm:Bool} {op:Int} {S:Int->Prop} {ov:Iv->Nat->Outc Iv} {all q rows rs x:List (List RawI)} {a b c g l t:List RawI} {K fr i k n p:Nat} {A A' P P':Option Addr} {r:RawI} {v va vall vb vc vl vq vt vx x' y y' z z':Value} {w w':World}
theorem jS (k:Int)(w:World):Calls Tryz.prog 45 #[.bool true,.int .i64 k] w λe w'=>e=.returned (.tuple #[])/\w=w':=by
 go_enter Tryz.func45,Tryz.ntmps45;go_wp2
 go_end0
 exact ⟨rfl,rfl⟩
theorem gA (k:Int)(w:World):Calls Tryz.prog 45 #[.bool false,.int .i64 k] w λe w'=>e=.panicked (By 106 k)/\w=w':=by
 go_enter Tryz.func45,Tryz.ntmps45;go_wp2;exact ⟨rfl,rfl,rfl⟩
theorem Yx (b:Bool)(k:Int)(w:World):Calls Tryz.prog 45 #[.bool b,.int .i64 k] w λe w'=>e=aB 106 b k/\w=w':=by
 cases b
 ·exact gA k w
 ·exact jS k w
theorem dp (k:Int)(w:World):Calls Tryz.prog 45 #[.bool true,.int .i64 k] w (RetK (.tuple #[]) w):=(Yx true k w).mono λ_ _ ⟨he,hw⟩=>⟨he,hw▸Below.refl _ _⟩
theorem Rb (b:Bool)(k:Int)(w:World):Calls Tryz.prog 45 #[.bool b,.int .i64 k] w λe w'=>(∃ v,e=.returned v/\Kept w w'/\(b=true/\v=.tuple #[]))\/(∃ c,e=.panicked c/\(b=false/\c=By 106 k/\w=w')) :=
 (Yx b k w).mono λe w' ⟨he,hw⟩=>by
   subst hw;cases b
   ·exact .inr ⟨_,he,rfl,rfl,rfl⟩
   ·exact .inl ⟨_,he,Below.refl _ _,rfl,rfl⟩
theorem Sj (k:Int)(w:World):(Instr.typeAssert (.iface 106 (.agg #[.int .i64 k])) 20 106 true).run Tryz.prog w=.ok (.tuple #[.agg #[.int .i64 k],.bool true]) w:=by
 kernel_rfl
theorem Tb (w:World):(Instr.typeAssert .nilIface 20 106 true).run Tryz.prog w=.ok (.tuple #[.agg #[.int .i64 0],.bool false]) w:=by
 kernel_rfl
def Ks (w:World) (b2 b3:Nat) (x q:Value) (o:Obj):World:=((w.setCell ⟨b2,0,none⟩ x).setCell ⟨b3,0,none⟩ q).alloc o
theorem Zt (b2 b3:Nat)(w:World)(k:Int)(x q:Value)
 (h0:w.heap[b2]?=some (.cells #[x] 38 (0,0))) (h1:w.heap[b3]?=some (.cells #[q] 3 (0,0))) (hne:¬b2=b3) :
 CallsD Tryz.prog 83 #[.pointer (some ⟨b2,0,none⟩),.pointer (some ⟨b3,0,none⟩)] (.panicking (By 106 k)) w λe u' w' =>
  e=.returned (.tuple #[])/\u'=.panicking [{ v:=.iface 106 (.agg #[.int .i64 k]),recovered:=true }]/\w'=(Ks w b2 b3 (.slice none 0 0) (.int .i64 k) (.cells #[.int .i64 k] 106)).drew:=by
 have ha:=Sj k;have l2:b2<w.heap.size:=(Bi h0).1;have l3:b3<w.heap.size:=(Bi h1).1;have n2:¬b2=w.heap.size:=by omega
 have n3:¬b3=w.heap.size:=by omega
 have n2':¬w.heap.size=b2:=by omega
 have n3':¬w.heap.size=b3:=by omega
 have hne':¬b3=b2:=λh=>hne h.symm
 have c20:=Ae h0 0 x rfl;have c30:=Ae h1 0 q rfl;have f20:=Aw h0 0;have f30:=Aw h1 0;refine callsD_of_wpS Tryz.func83 rfl λc₀ cs hu=>?_
 simp only [Tryz.ntmps83,List.size_toArray,List.length_cons,List.length_nil,Nat.reduceAdd,Nat.reduceSub,Array.replicate_succ,
  Array.replicate_zero,List.push_toArray,List.append_toArray,List.nil_append,List.cons_append]
 refine Fb (v:=.iface 106 (.agg #[.int .i64 k])) (cs':={ c₀ with mode:=.panicking [{ v:=.iface 106 (.agg #[.int .i64 k]),recovered:=true }] }::cs) (w':=w) rfl ?_ ?_ ?_
 ·simp [go_sem]
 ·rw [recoverD,hu];exact ⟨rfl,rfl⟩
 go_wp2_with fail;go_region;exact ⟨rfl,_,rfl,_,results_none rfl _ _ _,rfl,rfl,rfl⟩
theorem Zu (b2 b3:Nat)(w:World) :
 CallsD Tryz.prog 83 #[.pointer (some ⟨b2,0,none⟩),.pointer (some ⟨b3,0,none⟩)] .returning w λe u' w' =>
  e=.returned (.tuple #[])/\u'=.returning/\w'=w.alloc (.cells #[.int .i64 0] 106):=by
 have ha:=Tb;refine callsD_of_wpS Tryz.func83 rfl λc₀ cs hu=>?_
 simp only [Tryz.ntmps83,List.size_toArray,List.length_cons,List.length_nil,Nat.reduceAdd,Nat.reduceSub,Array.replicate_succ,
  Array.replicate_zero,List.push_toArray,List.append_toArray,List.nil_append,List.cons_append]
 refine Fb (v:=.nilIface) (cs':=c₀::cs) (w':=w) rfl ?_ ?_ ?_
 ·simp [go_sem]
 ·rw [recoverD,hu];exact ⟨rfl,rfl⟩
 go_wp2_with fail;exact ⟨rfl,.returning,by rw [<-hu],_,results_none rfl _ _ _,rfl,rfl,rfl⟩
def Cn (o:Outc Iv) (w:World) (e:Ending) (w':World):Prop:=Kept w w'/\((o.k=0/\∃ v,e=.returned v/\IvR w' v o.v.raw)\/(o.k≠0/\e=.panicked (By 106 o.k)))
def J3 (o:Outc (List RawI)) (w:World) (e:Ending) (w':World):Prop:=Kept w w'/\((o.k=0/\∃ v,e=.returned v/\IvS w' v o.v/\∀ g,v.ownBlock=some g->w.heap.size<=g)\/(o.k≠0/\e=.panicked (By 106 o.k)))
def Hn (o:Outc (List (List RawI))) (w:World) (e:Ending) (w':World):Prop:=Kept w w'/\((o.k=0/\∃ v,e=.returned v/\Rws w' v o.v/\∀ g,v.ownBlock=some g->w.heap.size<=g)\/(o.k≠0/\e=.panicked (By 106 o.k)))
def Pv (o:Outc (List (List RawI))) (w:World) (e:Ending) (w':World):Prop:=Kept w w'/\∃ v,e=.returned (.tuple #[v,.int .i64 o.k])/\Rws w' v o.v
theorem ff {cap:Array Value}{o:Outc (List (List RawI))}(h:∀ w1,Kept w w1->Calls Tryz.prog K cap w1 (Hn o w1))(hz:o.k≠0->o.v=[])
 (hk:∀ w,(callFunc K cap).run Tryz.prog w=.ok (.enter K cap) w) :
 Calls Tryz.prog 43 #[.func (.func K) #[] cap] w (Pv o w):=by
 have hmf:=Hf;have HH:=Ad h;clear h
 go_enter_defers Tryz.func43,Tryz.ntmps43
 go_wp2_with fail;have k1:Kept w ((w.alloc (.cells #[.slice none 0 0] 38)).alloc (.cells #[.int .i64 0] 3)):=(Ab _ _).trans (Ab _ _);refine (HH.o _ k1).mono ?_;have b0:((w.alloc (.cells #[.slice none 0 0] 38)).alloc (.cells #[.int .i64 0] 3)).heap[w.heap.size]?=some (.cells #[.slice none 0 0] 38 (0,0)):=by
  rw [Below.heap_alloc _ _ _ (by simp)];exact heap_alloc_new _ _
 have b1:((w.alloc (.cells #[.slice none 0 0] 38)).alloc (.cells #[.int .i64 0] 3)).heap[w.heap.size+1]?=some (.cells #[.int .i64 0] 3 (0,0)):=by
  have:=heap_alloc_new (w.alloc (.cells #[.slice none 0 0] 38)) (.cells #[.int .i64 0] 3);simpa using this
 rintro e w1 ⟨q,hq⟩;have c0:=(q.block w.heap.size (by simp;omega)).trans b0;have c1:=(q.block (w.heap.size+1) (by simp)).trans b1;have k2:=k1.trans q;clear q b0 b1 k1 HH;have hs1:w.heap.size+1<w1.heap.size:=(Bi c1).1;have hs0:w.heap.size<w1.heap.size:=by omega
 have n1:¬w.heap.size=w1.heap.size:=by omega
 have n2:¬w.heap.size+1=w1.heap.size:=by omega
 have n3:¬w.heap.size=w.heap.size+1:=by omega
 have n4:¬w.heap.size+1=w.heap.size:=by omega
 have c20:w1.cell? ⟨w.heap.size,0,none⟩=some (.slice none 0 0):=Ae c0 0 _ rfl;have c30:w1.cell? ⟨w.heap.size+1,0,none⟩=some (.int .i64 0):=Ae c1 0 _ rfl;have f20:=Aw c0 0;have f30:=Aw c1 0;have KK:=Ad k2;have HQ:=Ad hq;clear k2 hq;have fin:∀ (x q:Value) (o:Obj),(Ks w1 w.heap.size (w.heap.size+1) x q o).cell? ⟨w.heap.size,0,none⟩=some x/\(Ks w1 w.heap.size (w.heap.size+1) x q o).cell? ⟨w.heap.size+1,0,none⟩=some q/\Kept w (Ks w1 w.heap.size (w.heap.size+1) x q o):=by
  intro x q o;have g0:(Ks w1 w.heap.size (w.heap.size+1) x q o).heap[w.heap.size]?=some (.cells #[x] 38 (0,0)):=by
   unfold Ks;rw [Below.heap_alloc _ _ _ (by simp [World.setCell];omega)];exact Bh (Bw c0 _) n3 _
  have g1:(Ks w1 w.heap.size (w.heap.size+1) x q o).heap[w.heap.size+1]?=some (.cells #[q] 3 (0,0)):=by
   unfold Ks;rw [Below.heap_alloc _ _ _ (by simp [World.setCell];omega)];exact Bw (Bh c1 n4 _) _
  exact ⟨Ae g0 0 _ rfl,Ae g1 0 _ rfl,((KK.o.setCell (p:=⟨w.heap.size,0,none⟩) (Aq _) x).setCell (p:=⟨w.heap.size+1,0,none⟩) (Nat.le_succ _) q).alloc (by simpa [World.setCell] using KK.o.size) o⟩
 have FF:=Ad fin;clear fin;rcases HQ.o with ⟨h0,v,rfl,hv,hf⟩ | ⟨h0,rfl⟩
 ·have hv':=hv;obtain ⟨A,c,rfl,-⟩:=hv';have HS:=Ad hv;have HF:=Ad hf;have HC:=Ad (And.intro c0 c1);clear HQ hv hf c0 c1;simp only [];go_wp2_with fail;refine leaves_cons (f:=83) (args:=#[.pointer (some ⟨w.heap.size,0,none⟩),.pointer (some ⟨w.heap.size+1,0,none⟩)]) (by simp) (by simp [go_sem]) ?_;refine (Zu _ _ _).mono ?_;rintro e u' w2 ⟨rfl,rfl,rfl⟩;obtain ⟨d0,d1,kk⟩:=FF.out (.slice A o.v.length c) (.int .i64 0) (.cells #[.int .i64 0] 106);have hr:Rws (Ks w1 w.heap.size (w.heap.size+1) (.slice A o.v.length c) (.int .i64 0) (.cells #[.int .i64 0] 106)) (.slice A o.v.length c) o.v:=by
   have q0:=HS.o.word (T:=38) (x:=.slice none 0 0) (b:=w.heap.size) (.inl λhh=>by have:=HF.o _ hh;simp at this;omega) HC.o.1 (Ag _ _ _) (.slice A o.v.length c);have q1:=q0.word (T:=3) (x:=.int .i64 0) (b:=w.heap.size+1) (.inl λhh=>by have:=HF.o _ hh;simp at this;omega) (Bh HC.o.2 n4 _) (Aj _) (.int .i64 0);exact q1.kept (Ab _ _)
  have HR:=Ad hr;have HKK:=Ad kk;clear hr kk;refine ⟨.tuple #[.slice A o.v.length c,.int .i64 0],?_,?_⟩
  ·change (results Tryz.f43 _).run Tryz.prog (Ks w1 w.heap.size (w.heap.size+1) (.slice A o.v.length c) (.int .i64 0) (.cells #[.int .i64 0] 106))=.ok _ (Ks w1 w.heap.size (w.heap.size+1) (.slice A o.v.length c) (.int .i64 0) (.cells #[.int .i64 0] 106));generalize Ks w1 w.heap.size (w.heap.size+1) (.slice A o.v.length c) (.int .i64 0) (.cells #[.int .i64 0] 106)=W at *;simp [results,Tryz.results43,go_sem,d0,d1]
  ·exact ⟨HKK.o,_,by rw [h0],HR.o⟩
 ·clear HQ;simp only [];refine leaves_cons (f:=83) (args:=#[.pointer (some ⟨w.heap.size,0,none⟩),.pointer (some ⟨w.heap.size+1,0,none⟩)]) (by simp) (by simp [go_sem]) ?_;refine (Zt _ _ _ _ _ _ c0 c1 n3).mono ?_;rintro e u' w2 ⟨rfl,rfl,rfl⟩;obtain ⟨d0,d1,kk⟩:=FF.out (.slice none 0 0) (.int .i64 o.k) (.cells #[.int .i64 o.k] 106);refine ⟨.tuple #[.slice none 0 0,.int .i64 o.k],?_,?_⟩
  ·change (results Tryz.f43 _).run Tryz.prog (Ks w1 w.heap.size (w.heap.size+1) (.slice none 0 0) (.int .i64 o.k) (.cells #[.int .i64 o.k] 106)).drew=.ok _ (Ks w1 w.heap.size (w.heap.size+1) (.slice none 0 0) (.int .i64 o.k) (.cells #[.int .i64 o.k] 106)).drew;generalize Ks w1 w.heap.size (w.heap.size+1) (.slice none 0 0) (.int .i64 o.k) (.cells #[.int .i64 o.k] 106)=W at *;simp [results,Tryz.results43,go_sem,d0,d1]
  ·exact ⟨kk.drew,_,rfl,by rw [hz h0];exact f8 _⟩
theorem G0 {o:Outc Iv}(hv:IvR w v o.v.raw):Calls Tryz.prog 58 #[v,.int .i64 o.k] w (Cn o w):=by
 obtain ⟨A,l,c,A',l',c',rfl,h1,h2⟩:=Ca hv;obtain ⟨W,hW,kW,BI,BR⟩:=iO w (.bool o.v.lo.neg) (.slice A l c) (.int .i64 o.v.lo.e) (.bool o.v.hi.neg) (.slice A' l' c') (.int .i64 o.v.hi.e);have Z1:=Ad (h1.kept kW);have Z2:=Ad (h2.kept kW);have HW:=Ad hW;have K:=Ad kW;have HB:=Ad BI;have HR:=Ad BR;clear hW kW BI BR h1 h2 hv;obtain ⟨k,hk⟩:∃ k,k=o.k:=⟨_,rfl⟩;rw [<-hk];have HK:=Ad hk;clear hk;by_cases k0:k=0
 ·have K0:=Ad (HK.o.symm.trans k0);subst k0;generalize ho:o=o' at *;clear ho o;obtain ⟨⟨⟨n1,m1,e1⟩,⟨n2,m2,e2⟩⟩,k⟩:=o';simp only [] at *;go_enter Tryz.func58,Tryz.ntmps58;go_wp2_with fail;rw [<-HW.o];refine (dp 0 _).mono ?_;rintro e w1 ⟨rfl,q⟩;replace K:=Ad (K.o.trans q);replace HB:=Ad (HB.o.kept q);replace HR:=Ad (HR.o.kept q);replace Z1:=Ad (Z1.o.kept q);replace Z2:=Ad (Z2.o.kept q);clear q HW;obtain ⟨-,c0,c1,c2,c3,c4,c5⟩:=HB.o.facts;obtain ⟨-,r0,r1,r2,r3,r4,r5⟩:=HR.o.facts;obtain ⟨f0,f1,f2,f3,f4,f5⟩:=HR.o.free;simp only [];go_wp2_with fail;exact Fp (HR.o.laid _ _ _ _ _ _) rfl rfl rfl ⟨Az K.o (by omega),.inl ⟨K0.o,_,rfl,_,_,_,_,_,_,rfl,Z1.o.ivW HR.o _ _ _ _ _ _,Z2.o.ivW HR.o _ _ _ _ _ _⟩⟩
 ·have hkb:(k==0)=false:=by rw [Ek];exact k0
  have K0:=Ad k0;clear k0;generalize o.v.lo.neg=n1,o.v.lo.e=e1,o.v.hi.neg=n2,o.v.hi.e=e2 at *;go_enter Tryz.func58,Tryz.ntmps58;go_wp2_with fail;rw [<-HW.o];refine (Yx false k _).mono ?_;rintro e w3 ⟨he,rfl⟩;obtain rfl:e=.panicked (By 106 k):=he;exact ⟨rfl,K.o,.inr ⟨by rw [<-HK.o];exact K0.o,by rw [<-HK.o]⟩⟩
theorem Th (w:World)(p:Int)(x y z x' y' z' u v r u' v' r':Value):∃ W,W=(((w.alloc (.cells #[.int .i64 p] 81)).alloc (.cells #[x,y,z,x',y',z'] 30)).alloc (.cells #[u,v,r,u',v',r'] 30)).alloc (.cells #[.bool false,.slice none 0 0,.int .i64 0,.bool false,.slice none 0 0,.int .i64 0] 30) /\
 Kept w W/\W.cell? ⟨w.heap.size,0,none⟩=some (.int .i64 p)/\BlkI W (w.heap.size+1) x y z x' y' z'/\BlkI W (w.heap.size+1+1) u v r u' v' r'/\BlkI W (w.heap.size+1+1+1) (.bool false) (.slice none 0 0) (.int .i64 0) (.bool false) (.slice none 0 0) (.int .i64 0):=by
 obtain ⟨W,hW,k,b1,b2,b3⟩:=iM (w.alloc (.cells #[.int .i64 p] 81)) x y z x' y' z' u v r u' v' r';simp only [World.size_alloc] at b1 b2 b3;refine ⟨W,hW,(Ab _ _).trans k,An k (Ae (heap_alloc_new _ _) 0 _ rfl),b1,b2,b3⟩
theorem ar (hn:n<9223372036854775808)(hT:Tab w) :
 Calls Tryz.prog 57 #[.int .i64 n] w (RetI (pt (Ck false n 0).v).raw w):=by
 have c1:=λw1 (k:Kept w w1)=>Rv (w:=w1) (k:=n) (e:=0) hn (by decide) (by decide) (hT.kept k)
 have hp:(pt (Ck false n 0).v).raw=⟨(Ck false n 0).v.raw,(Ck false n 0).v.raw⟩:=rfl;rw [hp]
 obtain ⟨W,hW,kW,BR,lW⟩:∃ W,W=w.alloc (.cells #[.bool false,.slice none 0 0,.int .i64 0,.bool false,.slice none 0 0,.int .i64 0] 30)/\Kept w W/\BlkI W w.heap.size (.bool false) (.slice none 0 0) (.int .i64 0) (.bool false) (.slice none 0 0) (.int .i64 0)/\w.heap.size<W.heap.size :=
  ⟨_,rfl,Ab _ _,Gw _,by simp⟩
 have C1:=Ad c1;have HW:=Ad hW;have K:=Ad kW;have HR:=Ad BR;clear c1 hW kW BR hT hn hp;generalize Ck false n 0=o1 at *;go_enter Tryz.func57,Tryz.ntmps57;go_wp2_with fail;rw [<-HW.o];refine (C1.o _ K.o).mono ?_;rintro e w2 ⟨q,u,rfl,hd⟩;obtain ⟨PX,pX,qX,rfl,z1⟩:=Bx hd;simp only [];obtain ⟨VX,hV,kV,hb,lV⟩:=px w2 (.bool o1.v.neg) (.slice PX pX qX) (.int .i64 o1.v.e);have HV:=Ad hV;have kk:=q.trans kV;have lt1:w.heap.size<w2.heap.size:=Dn HR.o.facts.1 q.size;replace K:=Ad (K.o.trans kk);replace HR:=Ad (HR.o.kept kk);have HX:=Ad hb;have ZX:=Ad (z1.kept kV)
 clear hV kV hb lV kk q hd z1 C1 HW;go_upto_region 2 with fail;rw [<-HV.o];clear HV;generalize w2.heap.size=bX at *;obtain ⟨-,c0,c1,c2,-⟩:=HX.o.facts;go_wp2_with fail;refine (oF ZX.o).mono ?_;rintro e w2 ⟨q,u,rfl,hd⟩;obtain ⟨P,p',q',R,r,s,rfl,z1,z2⟩:=Ar hd;have hr:=HR.o.kept q;obtain ⟨-,r0,r1,r2,r3,r4,r5⟩:=hr.facts;obtain ⟨f0,f1,f2,f3,f4,f5⟩:=hr.free;have HRR:=Ad hr;have Z1:=Ad z1;have Z2:=Ad z2;clear hr z1 z2 hd c0 c1 c2;simp only [];go_wp2_with fail;exact Fp (HRR.o.laid _ _ _ _ _ _) rfl rfl rfl ⟨Az (K.o.trans q) (by omega),_,rfl,_,_,_,_,_,_,rfl,Z1.o.ivW HRR.o _ _ _ _ _ _,Z2.o.ivW HRR.o _ _ _ _ _ _⟩
theorem Zk {a b:Iv}(O:H8 S)(hS:S 6)(ha:IvC w va a)(hb:IvC w vb b)(oa:a.Ok)(ob:b.Ok)(hT:Tab w)(p1:1<=p)(p2:p<=2000) :
 Calls Tryz.prog 163 #[.agg #[.int .i64 p],va,vb] w (Cn (Gc a b p) w):=by
 have c1:=λw1 (k:Kept w w1)=>O.add hS (ha.kept k) (hb.kept k) oa ob (hT.kept k) p1 p2
 obtain ⟨A,l,c,A',l',c',rfl,h1,h2⟩:=Ca ha;obtain ⟨B,m,d,B',m',d',rfl,g1,g2⟩:=Ca hb;obtain ⟨W,hW,kW,cW,BI,BJ,BR⟩:=Th w p (.bool a.lo.neg) (.slice A l c) (.int .i64 a.lo.e) (.bool a.hi.neg) (.slice A' l' c') (.int .i64 a.hi.e) (.bool b.lo.neg) (.slice B m d) (.int .i64 b.lo.e) (.bool b.hi.neg) (.slice B' m' d') (.int .i64 b.hi.e);have C1:=Ad c1;have HW:=Ad hW;have K:=Ad kW;have HR:=Ad BR;obtain ⟨-,a0,a1,a2,a3,a4,a5⟩:=BI.facts;obtain ⟨-,b0,b1,b2,b3,b4,b5⟩:=BJ.facts;clear c1 hW kW BI BJ BR h1 h2 g1 g2 ha hb hT oa ob p1 p2;generalize Gc a b p=o at *;generalize a.lo.neg=n1 at *
 generalize a.lo.e=e1,a.hi.neg=n2,a.hi.e=e2,b.lo.neg=n3,b.lo.e=e3,b.hi.neg=n4,b.hi.e=e4 at *;go_enter Tryz.func163,Tryz.ntmps163;go_wp2_with fail;rw [<-HW.o];refine (C1.o _ K.o).mono ?_;rintro e w1 ⟨q,u,rfl,hd⟩;replace K:=Ad (K.o.trans q);replace HR:=Ad (HR.o.kept q);have HD:=Ad hd;clear q hd C1 HW cW a0 a1 a2 a3 a4 a5 b0 b1 b2 b3 b4 b5;simp only [Bn];go_wp2_with fail;refine (G0 (o:=o) HD.o).mono ?_;rintro e w2 ⟨q,⟨k0,u2,rfl,hd⟩ | ⟨k0,rfl⟩⟩
 ·obtain ⟨P,p',q',R,r,s,rfl,z1,z2⟩:=Ar hd;have hr:=HR.o.kept q;obtain ⟨-,r0,r1,r2,r3,r4,r5⟩:=hr.facts;obtain ⟨f0,f1,f2,f3,f4,f5⟩:=hr.free;have HRR:=Ad hr;have Z1:=Ad z1;have Z2:=Ad z2;have K0:=Ad k0;clear hr z1 z2 hd k0;simp only [];go_wp2_with fail;exact Fp (HRR.o.laid _ _ _ _ _ _) rfl rfl rfl ⟨Az (K.o.trans q) (by omega),.inl ⟨K0.o,_,rfl,_,_,_,_,_,_,rfl,Z1.o.ivW HRR.o _ _ _ _ _ _,Z2.o.ivW HRR.o _ _ _ _ _ _⟩⟩
 ·exact ⟨rfl,K.o.trans q,.inr ⟨k0,rfl⟩⟩
theorem lA {a b:Iv}(O:H8 S)(hS:S 7)(ha:IvC w va a)(hb:IvC w vb b)(oa:a.Ok)(ob:b.Ok)(hT:Tab w)(p1:1<=p)(p2:p<=2000) :
 Calls Tryz.prog 164 #[.agg #[.int .i64 p],va,vb] w (Cn (I8 a b p) w):=by
 have c1:=λw1 (k:Kept w w1)=>O.sub hS (ha.kept k) (hb.kept k) oa ob (hT.kept k) p1 p2
 obtain ⟨A,l,c,A',l',c',rfl,h1,h2⟩:=Ca ha;obtain ⟨B,m,d,B',m',d',rfl,g1,g2⟩:=Ca hb;obtain ⟨W,hW,kW,cW,BI,BJ,BR⟩:=Th w p (.bool a.lo.neg) (.slice A l c) (.int .i64 a.lo.e) (.bool a.hi.neg) (.slice A' l' c') (.int .i64 a.hi.e) (.bool b.lo.neg) (.slice B m d) (.int .i64 b.lo.e) (.bool b.hi.neg) (.slice B' m' d') (.int .i64 b.hi.e);have C1:=Ad c1;have HW:=Ad hW;have K:=Ad kW;have HR:=Ad BR;obtain ⟨-,a0,a1,a2,a3,a4,a5⟩:=BI.facts;obtain ⟨-,b0,b1,b2,b3,b4,b5⟩:=BJ.facts;clear c1 hW kW BI BJ BR h1 h2 g1 g2 ha hb hT oa ob p1 p2;generalize I8 a b p=o at *;generalize a.lo.neg=n1 at *
 generalize a.lo.e=e1,a.hi.neg=n2,a.hi.e=e2,b.lo.neg=n3,b.lo.e=e3,b.hi.neg=n4,b.hi.e=e4 at *;go_enter Tryz.func164,Tryz.ntmps164;go_wp2_with fail;rw [<-HW.o];refine (C1.o _ K.o).mono ?_;rintro e w1 ⟨q,u,rfl,hd⟩;replace K:=Ad (K.o.trans q);replace HR:=Ad (HR.o.kept q);have HD:=Ad hd;clear q hd C1 HW cW a0 a1 a2 a3 a4 a5 b0 b1 b2 b3 b4 b5;simp only [Bn];go_wp2_with fail;refine (G0 (o:=o) HD.o).mono ?_;rintro e w2 ⟨q,⟨k0,u2,rfl,hd⟩ | ⟨k0,rfl⟩⟩
 ·obtain ⟨P,p',q',R,r,s,rfl,z1,z2⟩:=Ar hd;have hr:=HR.o.kept q;obtain ⟨-,r0,r1,r2,r3,r4,r5⟩:=hr.facts;obtain ⟨f0,f1,f2,f3,f4,f5⟩:=hr.free;have HRR:=Ad hr;have Z1:=Ad z1;have Z2:=Ad z2;have K0:=Ad k0;clear hr z1 z2 hd k0;simp only [];go_wp2_with fail;exact Fp (HRR.o.laid _ _ _ _ _ _) rfl rfl rfl ⟨Az (K.o.trans q) (by omega),.inl ⟨K0.o,_,rfl,_,_,_,_,_,_,rfl,Z1.o.ivW HRR.o _ _ _ _ _ _,Z2.o.ivW HRR.o _ _ _ _ _ _⟩⟩
 ·exact ⟨rfl,K.o.trans q,.inr ⟨k0,rfl⟩⟩
theorem dZ {a b:Iv}(O:H8 S)(hS:S 8)(ha:IvC w va a)(hb:IvC w vb b)(oa:a.Ok)(ob:b.Ok)(hT:Tab w)(p1:1<=p)(p2:p<=2000) :
 Calls Tryz.prog 167 #[.agg #[.int .i64 p],va,vb] w (Cn (Ew a b p) w):=by
 have c1:=λw1 (k:Kept w w1)=>O.mul hS (ha.kept k) (hb.kept k) oa ob (hT.kept k) p1 p2
 obtain ⟨A,l,c,A',l',c',rfl,h1,h2⟩:=Ca ha;obtain ⟨B,m,d,B',m',d',rfl,g1,g2⟩:=Ca hb;obtain ⟨W,hW,kW,cW,BI,BJ,BR⟩:=Th w p (.bool a.lo.neg) (.slice A l c) (.int .i64 a.lo.e) (.bool a.hi.neg) (.slice A' l' c') (.int .i64 a.hi.e) (.bool b.lo.neg) (.slice B m d) (.int .i64 b.lo.e) (.bool b.hi.neg) (.slice B' m' d') (.int .i64 b.hi.e);have C1:=Ad c1;have HW:=Ad hW;have K:=Ad kW;have HR:=Ad BR;obtain ⟨-,a0,a1,a2,a3,a4,a5⟩:=BI.facts;obtain ⟨-,b0,b1,b2,b3,b4,b5⟩:=BJ.facts;clear c1 hW kW BI BJ BR h1 h2 g1 g2 ha hb hT oa ob p1 p2;generalize Ew a b p=o at *;generalize a.lo.neg=n1 at *
 generalize a.lo.e=e1,a.hi.neg=n2,a.hi.e=e2,b.lo.neg=n3,b.lo.e=e3,b.hi.neg=n4,b.hi.e=e4 at *;go_enter Tryz.func167,Tryz.ntmps167;go_wp2_with fail;rw [<-HW.o];refine (C1.o _ K.o).mono ?_;rintro e w1 ⟨q,u,rfl,hd⟩;replace K:=Ad (K.o.trans q);replace HR:=Ad (HR.o.kept q);have HD:=Ad hd;clear q hd C1 HW cW a0 a1 a2 a3 a4 a5 b0 b1 b2 b3 b4 b5;simp only [Bn];go_wp2_with fail;refine (G0 (o:=o) HD.o).mono ?_;rintro e w2 ⟨q,⟨k0,u2,rfl,hd⟩ | ⟨k0,rfl⟩⟩
 ·obtain ⟨P,p',q',R,r,s,rfl,z1,z2⟩:=Ar hd;have hr:=HR.o.kept q;obtain ⟨-,r0,r1,r2,r3,r4,r5⟩:=hr.facts;obtain ⟨f0,f1,f2,f3,f4,f5⟩:=hr.free;have HRR:=Ad hr;have Z1:=Ad z1;have Z2:=Ad z2;have K0:=Ad k0;clear hr z1 z2 hd k0;simp only [];go_wp2_with fail;exact Fp (HRR.o.laid _ _ _ _ _ _) rfl rfl rfl ⟨Az (K.o.trans q) (by omega),.inl ⟨K0.o,_,rfl,_,_,_,_,_,_,rfl,Z1.o.ivW HRR.o _ _ _ _ _ _,Z2.o.ivW HRR.o _ _ _ _ _ _⟩⟩
 ·exact ⟨rfl,K.o.trans q,.inr ⟨k0,rfl⟩⟩
theorem Zl {a b:Iv}(O:H8 S)(hS:S 9)(ha:IvC w va a)(hb:IvC w vb b)(oa:a.Ok)(ob:b.Ok)(hT:Tab w)(p1:1<=p)(p2:p<=2000) :
 Calls Tryz.prog 60 #[.agg #[.int .i64 p],va,vb] w (Cn (Cm a b p) w):=by
 have c1:=λw1 (k:Kept w w1)=>O.div hS (ha.kept k) (hb.kept k) oa ob (hT.kept k) p1 p2
 obtain ⟨A,l,c,A',l',c',rfl,h1,h2⟩:=Ca ha;obtain ⟨B,m,d,B',m',d',rfl,g1,g2⟩:=Ca hb;obtain ⟨W,hW,kW,cW,BI,BJ,BR⟩:=Th w p (.bool a.lo.neg) (.slice A l c) (.int .i64 a.lo.e) (.bool a.hi.neg) (.slice A' l' c') (.int .i64 a.hi.e) (.bool b.lo.neg) (.slice B m d) (.int .i64 b.lo.e) (.bool b.hi.neg) (.slice B' m' d') (.int .i64 b.hi.e);have C1:=Ad c1;have HW:=Ad hW;have K:=Ad kW;have HR:=Ad BR;obtain ⟨-,a0,a1,a2,a3,a4,a5⟩:=BI.facts;obtain ⟨-,b0,b1,b2,b3,b4,b5⟩:=BJ.facts;clear c1 hW kW BI BJ BR h1 h2 g1 g2 ha hb hT oa ob p1 p2;generalize Cm a b p=o at *;generalize a.lo.neg=n1 at *
 generalize a.lo.e=e1,a.hi.neg=n2,a.hi.e=e2,b.lo.neg=n3,b.lo.e=e3,b.hi.neg=n4,b.hi.e=e4 at *;go_enter Tryz.func60,Tryz.ntmps60;go_wp2_with fail;rw [<-HW.o];refine (C1.o _ K.o).mono ?_;rintro e w1 ⟨q,u,rfl,hd⟩;replace K:=Ad (K.o.trans q);replace HR:=Ad (HR.o.kept q);have HD:=Ad hd;clear q hd C1 HW cW a0 a1 a2 a3 a4 a5 b0 b1 b2 b3 b4 b5;simp only [Bn];go_wp2_with fail;refine (G0 (o:=o) HD.o).mono ?_;rintro e w2 ⟨q,⟨k0,u2,rfl,hd⟩ | ⟨k0,rfl⟩⟩
 ·obtain ⟨P,p',q',R,r,s,rfl,z1,z2⟩:=Ar hd;have hr:=HR.o.kept q;obtain ⟨-,r0,r1,r2,r3,r4,r5⟩:=hr.facts;obtain ⟨f0,f1,f2,f3,f4,f5⟩:=hr.free;have HRR:=Ad hr;have Z1:=Ad z1;have Z2:=Ad z2;have K0:=Ad k0;clear hr z1 z2 hd k0;simp only [];go_wp2_with fail;exact Fp (HRR.o.laid _ _ _ _ _ _) rfl rfl rfl ⟨Az (K.o.trans q) (by omega),.inl ⟨K0.o,_,rfl,_,_,_,_,_,_,rfl,Z1.o.ivW HRR.o _ _ _ _ _ _,Z2.o.ivW HRR.o _ _ _ _ _ _⟩⟩
 ·exact ⟨rfl,K.o.trans q,.inr ⟨k0,rfl⟩⟩
section
variable {ops:Array Oper} {Q:Exit->Act->World->Prop} {i:Nat} {a:Act} {w:World} {V:Nat->Value->World->Prop} {o:Oper} {f:FuncId} {args:Array Value}
theorem sJ {t:Outc Iv}(hc:Calls Tryz.prog f args w (Cn t w))(hp:∀ v w',Kept w w'->t.k=0->IvR w' v t.v.raw->V i v w')(hq:∀ w',Kept w w'->t.k≠0->Q (.panic (By 106 t.k)) a w')(hw:Region.wanted o (yielded ops a.tmps)=true:=by simp [Region.wanted])(h:(execOp a.eval o).run Tryz.prog w=.ok (.enter f args) w:=by go_simp):Bo Tryz.prog ops Q V i o a w :=
 Gb hw h hc λe w' he=>by
  obtain ⟨k,⟨h0,v,he,hd⟩ | ⟨h0,he⟩⟩:=he
  ·exact .inl ⟨v,he,k,hp v w' k h0 hd⟩
  ·exact .inr ⟨_,he,hq w' k h0⟩
end
theorem Eu (g:Gd l)(hi:i<l.length):(gI l i).Ok/\∃ a,l[i]?=some a/\(gI l i).raw=a:=by
 have h:=Cd hi;have hm:=g _ (List.getElem_mem hi);unfold gI;rw [Da,h];exact ⟨hm.1,_,rfl,hm.2⟩
theorem IvS.place (h:IvS w v l)(g:Gd l)(h0:0<l.length):∃ b off c,v=.slice (some ⟨b,off,none⟩) l.length c/\l.length<=c/\∀ w1,Kept w w1->∀ j,j<l.length->IvAt w1 b (off+j*6) (gI l j).raw:=by
 obtain ⟨A,c,rfl,hc,hA⟩:=h;obtain ⟨b,off,rfl,hD⟩:=hA h0;refine ⟨b,off,c,rfl,hc,λw1 k j hj=>?_⟩;obtain ⟨-,a,ha,he⟩:=Eu g hj;rw [he];exact (hD j a ha).kept k
theorem N3 (w:World)(p:Int):∃ W,W=(w.alloc (.cells #[.int .i64 p] 81)).alloc (.cells #[.bool false,.slice none 0 0,.int .i64 0,.bool false,.slice none 0 0,.int .i64 0] 30) /\
 Kept w W/\W.heap[w.heap.size]?=some (.cells #[.int .i64 p] 81 (0,0))/\BlkI W (w.heap.size+1) (.bool false) (.slice none 0 0) (.int .i64 0) (.bool false) (.slice none 0 0) (.int .i64 0):=by
 refine ⟨_,rfl,(Ab _ _).trans (Ab _ _),?_,?_⟩
 ·rw [Below.heap_alloc _ _ _ (by simp)];exact heap_alloc_new _ _
 ·have:=Gw (w.alloc (.cells #[.int .i64 p] 81));simp only [World.size_alloc] at this;exact this
theorem BlkIv.store {b:Nat}{n n':Bool}{l c l' c':Nat}{e e':Int}(h:BlkI w b (.bool n) (.slice A l c) (.int .i64 e) (.bool n') (.slice A' l' c') (.int .i64 e')){s:Iv}{a d a' d':Nat}
 (h1:DyR w (.agg #[.bool s.lo.neg,.slice P a d,.int .i64 s.lo.e]) s.lo.raw) (h2:DyR w (.agg #[.bool s.hi.neg,.slice P' a' d',.int .i64 s.hi.e]) s.hi.raw):BlkIv (ivW w b (.bool s.lo.neg) (.slice P a d) (.int .i64 s.lo.e) (.bool s.hi.neg) (.slice P' a' d') (.int .i64 s.hi.e)) b s :=
 ⟨P,a,d,P',a',d',h.laid _ _ _ _ _ _,h1.ivW h _ _ _ _ _ _,h2.ivW h _ _ _ _ _ _⟩
theorem N2 {b c:Nat}{x:Value}(h:BlkI w b x y z x' y' z')(hne:b≠c)(p q r p' q' r':Value):BlkI (ivW w c p q r p' q' r') b x y z x' y' z':=(F8 _ _ _ _ _ _ _ _ _ hne).trans h
theorem ie (p:Nat)(a b:List RawI)(n:Nat)(s:Iv)(j m:Nat)(h:0<m) :
 Vx p a b n s (List.range' j m)=(Ew (gI a j) (gI b (n-j)) p).th λq=>(Gc s q p).th λs'=>Vx p a b n s' (List.range' (j+1) (m-1)):=by
 obtain ⟨m,rfl⟩:∃ k,m=k+1:=⟨m-1,by omega⟩;rw [List.range'_succ];rfl
theorem jr (O:H8 S)(h6:S 6)(h8:S 8)(ha:IvS w va a)(hb:IvS w vb b)(ga:Gd a)(gb:Gd b)(na:n<a.length)(nb:n<b.length)
 (la:a.length<=1000) (lb:b.length<=1000) (hfr:fr=0) (hT:Tab w) (p1:1<=p) (p2:p<=2000) :
 Calls Tryz.prog 165 #[.agg #[.int .i64 p],va,vb,.int .i64 fr,.int .i64 n,.int .i64 n] w (Cn (Gu p a b n) w):=by
 obtain ⟨bA,oA,cA,rfl,hcA,RA⟩:=ha.place ga (by omega);obtain ⟨bB,oB,cB,rfl,hcB,RB⟩:=hb.place gb (by omega);have CM:=Ad (λw1 (k:Kept w w1) j (hj:j<=n) v u (hv:IvR w1 v (gI a j).raw) (hu:IvR w1 u (gI b (n-j)).raw)=>dZ (p:=p) O h8 hv hu (Eu ga (by omega)).1 (Eu gb (by omega)).1 (hT.kept k) p1 p2);have CA:=Ad (λw1 (k:Kept w w1) (s q:Iv) v u (os:s.Ok) (oq:q.Ok) (hv:IvR w1 v s.raw) (hu:IvR w1 u q.raw)=>Zk (p:=p) O h6 hv hu os oq (hT.kept k) p1 p2);have OM:=Ad (λj=>(Ll (a:=gI a j) (b:=gI b (n-j)) p1).1);have OA:=Ad (λ(s q:Iv) (os:s.Ok) (oq:q.Ok)=>(J9 os oq p1).1)
 have FIN:=Ad (λ(w1:World) (k:Kept w w1) (v:Value) (h0:(Gu p a b n).k=0) (hv:IvR w1 v (Gu p a b n).v.raw)=>show Cn (Gu p a b n) w (.returned v) w1 from ⟨k,.inl ⟨h0,v,rfl,hv⟩⟩);have BAD:=Ad (λ(w1:World) (k:Kept w w1) (z:Int) (h0:z≠0) (h:(Gu p a b n).k=z)=>show Cn (Gu p a b n) w (.panicked (By 106 z)) w1 from ⟨k,.inr ⟨by rw [h];exact h0,by rw [h]⟩⟩);obtain ⟨m,hm⟩:∃ m,m=n-fr:=⟨_,rfl⟩;have hmz:(n:Int)-(fr:Int)=(m:Int):=by omega
 obtain ⟨W,hW,kW,bW,BR⟩:=N3 w p;have HA:=Ad RA;have HB:=Ad RB;have HW:=Ad hW;have K:=Ad kW;have HP:=Ad bW;have HR:=Ad BR;have HFR:=Ad hfr;have HM:=Ad hm;have hfa:fr<a.length:=by omega
 have hmb:m<b.length:=by omega
 have hmn:m<=n:=by omega
 have hfn:fr<=n:=by omega
 have hwm:IntKind.i64.wrap (m:Int)=(m:Int):=by simp [IntKind.wrap_i64];omega
 clear RA RB hW kW bW BR ha hb ga gb hT p1 p2 O h6 h8 hcA hcB hm hfr;obtain ⟨o0,ho0⟩:∃ o,o=Ew (gI a fr) (gI b m) p:=⟨_,rfl⟩;have HO0:=Ad ho0;have hc0:=λw1 (k:Kept w w1) v u (hv:IvR w1 v (gI a fr).raw) (hu:IvR w1 u (gI b m).raw)=>CM.o w1 k fr (by omega) v u hv (by rw [<-HM.o];exact hu)
 rw [<-HM.o,<-ho0] at hc0;have C0:=Ad hc0;clear ho0 hc0;have SB:=Ad (λ(h:o0.k≠0)=>show (Gu p a b n).k=o0.k by
  unfold Gu;have e1:=HO0.o;rw [HM.o,HFR.o,Nat.sub_zero] at e1;rw [<-e1,Outc.th_bad h])
 generalize hR:Cn (Gu p a b n) w=R;have HRR:=Ad hR;clear hR;go_enter Tryz.func165,Tryz.ntmps165;go_wp2_with fail;rw [<-HW.o]
 refine Ih 13 ([(vE (.agg #[.int .i64 (p:Int)])),(vE (.slice (some ⟨bA,oA,none⟩) a.length cA)),(vE (.int .i64 (fr:Int))),(vE (.pointer (some ⟨bA,oA+fr*6,none⟩))),(λv wv=>IvR wv v ((gI a fr).raw)),(vE (.slice (some ⟨bB,oB,none⟩) b.length cB)),(vE (.int .i64 (n:Int))),(vE (.int .i64 (fr:Int))),(vE (.int .i64 (m:Int))),(vE (.pointer (some ⟨bB,oB+m*6,none⟩))),(λv wv=>IvR wv v ((gI b m).raw)),(λv wv=>o0.k=0/\IvR wv v o0.v.raw),(λv wv=>∃ b,v=.pointer (some ⟨b,0,none⟩)/\W.heap.size<=b/\BlkI wv b (.bool false) (.slice none 0 0) (.int .i64 0) (.bool false) (.slice none 0 0) (.int .i64 0))])
  ⟨
   (E3 6 λ_ k=>Ai HP.o k 0 _ rfl),(gq 1),(gq 3),(Hz 1 16 2 17),(λaF wF F=>by have s18:=F.v 3 18;obtain ⟨xx,yy,zz,xx',yy',zz',h0,h1,h2,h3,h4,h5,hI⟩:=(HA.o _ (K.o.trans F.kept) fr (by omega));exact sv hI),(gq 2),(gq 5),(gq 3),(Hz 6 21 7 22),(Hz 5 20 8 23),(λaF wF F=>by have s24:=F.v 9 24;obtain ⟨xx,yy,zz,xx',yy',zz',h0,h1,h2,h3,h4,h5,hI⟩:=(HB.o _ (K.o.trans F.kept) m (by omega));exact sv hI),(λaF wF F=>by have s15:=F.v 0 15;have s19:=F.p 4 19;have s25:=F.p 10 25;exact sJ (C0.o _ (K.o.trans F.kept) _ _ s19 s25) (λ_ _ _ h0 h=>⟨h0,h⟩) (λw2 k2 h0=>⟨F.defers,(by rw [<-HRR.o];exact BAD.o _ (K.o.trans (F.kept.trans k2)) _ h0 (SB.o h0))⟩)),(λaF wF F=>by exact sN ⟨_,rfl,F.kept.size,Gw _⟩),
   trivial⟩ ?_
 intro u w1 k1 hu;have p19:=hp hu 4;have p25:=hp hu 10;have p26:=hp hu 11;have p13:=hp hu 12;simp only [Bb,Ap,Act.put,Ep,hv hu 0,hv hu 1,hv hu 2,hv hu 3,hv hu 5,hv hu 6,hv hu 7,hv hu 8,hv hu 9];clear hu;generalize u 4=v19,u 10=v25,u 11=v26,u 12=v13 at *;obtain ⟨b13,rfl,hb13,hB13⟩:=p13;obtain ⟨h0,hv⟩:=p26;obtain ⟨P,pl,pc,P',pl',pc',rfl,z1,z2⟩:=Ca hv;obtain ⟨-,r0,r1,r2,r3,r4,r5⟩:=hB13.facts;obtain ⟨f0,f1,f2,f3,f4,f5⟩:=hB13.free;have HN:=Ad (show b13≠w.heap.size/\b13≠w.heap.size+1/\w.heap.size+1<W.heap.size by have:=HR.o.facts.1;omega);have H0:=Ad h0
 have HLB:=Ad (show w.heap.size<=b13 by have:=K.o.size;omega);clear p19 p25 hv h0;go_simp;go_upto_region 2 with fail;change Code.wp _ _ _ _ (ivW w1 b13 _ _ _ _ _ _);have KX:=Ad (Az (x:=.bool o0.v.lo.neg) (y:=.slice P pl pc) (z:=.int .i64 o0.v.lo.e) (x':=.bool o0.v.hi.neg) (y':=.slice P' pl' pc') (z':=.int .i64 o0.v.hi.e) (K.o.trans k1) (show w.heap.size<=b13 by have:=K.o.size;omega));have XS:=Ad (BlkIv.store hB13 z1 z2);have XP:=Ad ((F8 w1 b13 w.heap.size (.bool o0.v.lo.neg) (.slice P pl pc) (.int .i64 o0.v.lo.e) (.bool o0.v.hi.neg) (.slice P' pl' pc') (.int .i64 o0.v.hi.e) HN.o.1.symm).trans ((k1.block _ (by have:=HN.o.2.2;omega)).trans HP.o))
 have XR:=Ad (N2 (HR.o.kept k1) HN.o.2.1.symm (.bool o0.v.lo.neg) (.slice P pl pc) (.int .i64 o0.v.lo.e) (.bool o0.v.hi.neg) (.slice P' pl' pc') (.int .i64 o0.v.hi.e));have HS:=Ad (show Vx p a b n o0.v (List.range' 1 n)=Gu p a b n by
  unfold Gu;have e1:=HO0.o;rw [HM.o,HFR.o] at e1;rw [Nat.sub_zero] at e1;rw [<-e1,Outc.th_ok H0.o])
 have OS:=Ad (show o0.v.Ok by rw [HO0.o,HM.o];exact OM.o fr);have F1:=Ad (show fr+1=1 by rw [HFR.o]);clear C0 hmz hwm hmb hfa hmn HO0 H0 HM r0 r1 r2 r3 r4 r5 f0 f1 f2 f3 f4 f5 z1 z2 hB13 hb13 k1 HP HR K HW;generalize ivW w1 b13 _ _ _ _ _ _=X at *;generalize o0.v=s0 at *;clear hfn;go_wp2_with fail
 go_loopw [14] (λt wr=>∃ (j:Nat) (s:Iv),t=.int .i64 (j:Int)/\1<=j/\j<=n+1/\s.Ok/\Vx p a b n s (List.range' j (n+1-j))=Gu p a b n/\Kept w wr/\wr.heap[w.heap.size]?=some (.cells #[.int .i64 p] 81 (0,0))/\BlkI wr (w.heap.size+1) (.bool false) (.slice none 0 0) (.int .i64 0) (.bool false) (.slice none 0 0) (.int .i64 0)/\BlkIv wr b13 s) (λt _=>(n+1-intOf t).toNat)
 case atStart=>exact ⟨1,s0,by have h:=HFR.o;simp [h,wrap64],Aq _,by omega,OS.o,by simpa using HS.o,KX.o,XP.o,XR.o,XS.o⟩
 case round =>
  obtain ⟨j,s,rfl,hj1,hjn,os,hs,hK,hP,hR,hS⟩:=hrel;have J1:=Ad hj1;have OS:=Ad os;have HSS:=Ad hs;have K:=Ad hK;have HP:=Ad hP;have HR:=Ad hR;obtain ⟨As,ls,cs,As',ls',cs',hb,d1,d2⟩:=hS;have HB13:=Ad hb;have D1:=Ad d1;have D2:=Ad d2;clear hj1 os hs hK hP hR hb d1 d2;by_cases hj:j<=n
  ·obtain ⟨m,hm⟩:∃ m,m=n-j:=⟨_,rfl⟩;have hmz:(n:Int)-(j:Int)=(m:Int):=by omega
   have hja:j<a.length:=by omega
   have hmb:m<b.length:=by omega
   have hwm:IntKind.i64.wrap (m:Int)=(m:Int):=by simp [IntKind.wrap_i64];omega
   obtain ⟨o1,ho1⟩:∃ o,o=Ew (gI a j) (gI b m) p:=⟨_,rfl⟩;obtain ⟨o2,ho2⟩:∃ o,o=Gc s o1.v p:=⟨_,rfl⟩;have ok1:o1.v.Ok:=by rw [ho1,hm];exact OM.o j
   have ok2:o2.v.Ok:=by rw [ho2];exact OA.o s o1.v OS.o ok1
   have hc1:=λw1 (k:Kept w w1) v u (hv:IvR w1 v (gI a j).raw) (hu:IvR w1 u (gI b m).raw)=>CM.o w1 k j hj v u hv (by rw [<-hm];exact hu)
   rw [<-hm,<-ho1] at hc1;have hc2:=λw1 (k:Kept w w1) v u (hv:IvR w1 v s.raw) (hu:IvR w1 u o1.v.raw)=>CA.o w1 k s o1.v v u OS.o ok1 hv hu
   rw [<-ho2] at hc2;have hst:Gu p a b n=o1.th λq=>(Gc s q p).th λs'=>Vx p a b n s' (List.range' (j+1) (n-j)):=by
    rw [<-HSS.o,ie p a b n s j (n+1-j) (by omega),<-hm,<-ho1,show n+1-j-1=m by omega]
   have hb1:o1.k≠0->(Gu p a b n).k=o1.k:=λh=>by rw [hst,Outc.th_bad h]
   have hb2:o1.k=0->o2.k≠0->(Gu p a b n).k=o2.k:=λh h'=>by rw [hst,Outc.th_ok h,<-ho2,Outc.th_bad h']
   have hgo:o1.k=0->o2.k=0->Vx p a b n o2.v (List.range' (j+1) (n+1-(j+1)))=Gu p a b n:=λh h'=>by rw [hst,Outc.th_ok h,<-ho2,Outc.th_ok h',show n+1-(j+1)=n-j by omega]
   have C1:=Ad hc1;have C2:=Ad hc2;have B1:=Ad hb1;have B2:=Ad hb2;have GO:=Ad hgo;have OK2:=Ad ok2;have HN2:=Ad HN.o;clear hc1 hc2 hst hb1 hb2 hgo ok1 ok2 ho1 ho2 hm;generalize hsn:s.lo.neg=n1,hse:s.lo.e=e1,hsn2:s.hi.neg=n2,hse2:s.hi.e=e2 at *;have HSr:=Ad (show IvR wr (.agg #[.bool n1,.slice As ls cs,.int .i64 e1,.bool n2,.slice As' ls' cs',.int .i64 e2]) s.raw from ⟨_,_,_,_,_,_,rfl,D1.o,D2.o⟩);go_wp2_with fail
   refine Ih 15 ([(vE (.agg #[.int .i64 (p:Int)])),(vE (.agg #[.bool n1,.slice As ls cs,.int .i64 e1,.bool n2,.slice As' ls' cs',.int .i64 e2])),(vE (.agg #[.int .i64 (p:Int)])),(vE (.slice (some ⟨bA,oA,none⟩) a.length cA)),(vE (.int .i64 (j:Int))),(vE (.pointer (some ⟨bA,oA+j*6,none⟩))),(λv wv=>IvR wv v ((gI a j).raw)),(vE (.slice (some ⟨bB,oB,none⟩) b.length cB)),(vE (.int .i64 (n:Int))),(vE (.int .i64 (j:Int))),(vE (.int .i64 (m:Int))),(vE (.pointer (some ⟨bB,oB+m*6,none⟩))),(λv wv=>IvR wv v ((gI b m).raw)),(λv wv=>o1.k=0/\IvR wv v o1.v.raw),(λv wv=>o2.k=0/\IvR wv v o2.v.raw)])
    ⟨
     (E3 6 λ_ k=>Ai HP.o k 0 _ rfl),(E3 13 λ_ k=>c6 HB13.o k),(E3 6 λ_ k=>Ai HP.o k 0 _ rfl),(gq 1),(gq 14),(Hz 3 37 4 38),(λaF wF F=>by have s39:=F.v 5 39;obtain ⟨xx,yy,zz,xx',yy',zz',h0,h1,h2,h3,h4,h5,hI⟩:=(HA.o _ (K.o.trans F.kept) j (by omega));exact sv hI),(gq 2),(gq 5),(gq 14),(Hz 8 42 9 43),(Hz 7 41 10 44),(λaF wF F=>by have s45:=F.v 11 45;obtain ⟨xx,yy,zz,xx',yy',zz',h0,h1,h2,h3,h4,h5,hI⟩:=(HB.o _ (K.o.trans F.kept) m (by omega));exact sv hI),(λaF wF F=>by have s36:=F.v 2 36;have s40:=F.p 6 40;have s46:=F.p 12 46;exact sJ (C1.o _ (K.o.trans F.kept) _ _ s40 s46) (λ_ _ _ h0 h=>⟨h0,h⟩) (λw2 k2 h0=>⟨F.defers,(by rw [<-HRR.o];exact BAD.o _ (K.o.trans (F.kept.trans k2)) _ h0 (B1.o h0))⟩)),(λaF wF F=>by have s34:=F.v 0 34;have s35:=F.v 1 35;have s47:=F.p 13 47;exact sJ (C2.o _ (K.o.trans F.kept) _ _ (HSr.o.kept F.kept) s47.2) (λ_ _ _ h0 h=>⟨h0,h⟩) (λw2 k2 h0=>⟨F.defers,(by rw [<-HRR.o];exact BAD.o _ (K.o.trans (F.kept.trans k2)) _ h0 (B2.o s47.1 h0))⟩)),
     trivial⟩ ?_
   intro u w1 k1 hu;have p40:=hp hu 6;have p46:=hp hu 12;have p47:=hp hu 13;have p48:=hp hu 14;simp only [Bb,Ap,Act.put,Ep,hv hu 0,hv hu 1,hv hu 2,hv hu 3,hv hu 4,hv hu 5,hv hu 7,hv hu 8,hv hu 9,hv hu 10,hv hu 11];clear hu;generalize u 6=v40,u 12=v46,u 13=v47,u 14=v48 at *;obtain ⟨h2,hv⟩:=p48;have h1:=p47.1;obtain ⟨Q,ql,qc,Q',ql',qc',rfl,z1,z2⟩:=Ca hv;have hB:=HB13.o.kept k1;obtain ⟨-,r0,r1,r2,r3,r4,r5⟩:=hB.facts;obtain ⟨f0,f1,f2,f3,f4,f5⟩:=hB.free;have H12:=Ad (And.intro h1 h2);clear p40 p46 p47 hv h1 h2;go_simp;go_upto_region 4 with fail;change Code.wp _ _ _ _ (ivW w1 b13 _ _ _ _ _ _)
   have lw:w.heap.size<wr.heap.size:=by have:=HR.o.facts.1;omega
   have KX:=Ad (Az (x:=.bool o2.v.lo.neg) (y:=.slice Q ql qc) (z:=.int .i64 o2.v.lo.e) (x':=.bool o2.v.hi.neg) (y':=.slice Q' ql' qc') (z':=.int .i64 o2.v.hi.e) (K.o.trans k1) (show w.heap.size<=b13 by have:=HN2.o.1;have:=HLB.o;omega));have XS:=Ad (BlkIv.store hB z1 z2);have XP:=Ad ((F8 w1 b13 w.heap.size (.bool o2.v.lo.neg) (.slice Q ql qc) (.int .i64 o2.v.lo.e) (.bool o2.v.hi.neg) (.slice Q' ql' qc') (.int .i64 o2.v.hi.e) HN2.o.1.symm).trans ((k1.block _ lw).trans HP.o));have XR:=Ad (N2 (HR.o.kept k1) HN2.o.2.1.symm (.bool o2.v.lo.neg) (.slice Q ql qc) (.int .i64 o2.v.lo.e) (.bool o2.v.hi.neg) (.slice Q' ql' qc') (.int .i64 o2.v.hi.e))
   clear r0 r1 r2 r3 r4 r5 f0 f1 f2 f3 f4 f5 z1 z2 hB k1 lw;generalize ivW w1 b13 _ _ _ _ _ _=X at *;go_wp2_with fail;go_roundw
   case rel=>exact ⟨j+1,o2.v,by go_num,by omega,by omega,OK2.o,GO.o H12.o.1 H12.o.2,KX.o,XP.o,XR.o,XS.o⟩
   case measure=>simp [intOf];omega
  ·obtain rfl:j=n+1:=by omega
   have hs:s=(Gu p a b n).v/\(Gu p a b n).k=0:=by
    have:=HSS.o;rw [show n+1-(n+1)=0 by omega] at this;rw [<-this];exact ⟨rfl,rfl⟩
   obtain ⟨-,a0,a1,a2,a3,a4,a5⟩:=HB13.o.facts;obtain ⟨-,r0,r1,r2,r3,r4,r5⟩:=HR.o.facts;obtain ⟨f0,f1,f2,f3,f4,f5⟩:=HR.o.free;have HS2:=Ad hs;clear hs;go_wp2_with fail;have hg:=FIN.o (ivW wr (w.heap.size+1) (.bool s.lo.neg) (.slice As ls cs) (.int .i64 s.lo.e) (.bool s.hi.neg) (.slice As' ls' cs') (.int .i64 s.hi.e)) (Az K.o (by omega)) (.agg #[.bool s.lo.neg,.slice As ls cs,.int .i64 s.lo.e,.bool s.hi.neg,.slice As' ls' cs',.int .i64 s.hi.e]) HS2.o.2 (by rw [<-HS2.o.1];exact ⟨_,_,_,_,_,_,rfl,D1.o.ivW HR.o _ _ _ _ _ _,D2.o.ivW HR.o _ _ _ _ _ _⟩);rw [HRR.o] at hg;exact Fp (HR.o.laid _ _ _ _ _ _) rfl rfl rfl hg
theorem IvS.place0 (h:IvS w v l)(g:Gd l):∃ A c,v=.slice A l.length c/\l.length<=c/\(0<l.length->∃ b off,A=some ⟨b,off,none⟩/\∀ w1,Kept w w1->∀ j,j<l.length->IvAt w1 b (off+j*6) (gI l j).raw):=by
 obtain ⟨A,c,rfl,hc,hA⟩:=h;refine ⟨A,c,rfl,hc,λh0=>?_⟩;obtain ⟨b,off,rfl,hD⟩:=hA h0;refine ⟨b,off,rfl,λw1 k j hj=>?_⟩;obtain ⟨-,a,ha,he⟩:=Eu g hj;rw [he];exact (hD j a ha).kept k
theorem pB (w:World)(p:Int)(x y z x' y' z':Value):∃ W,W=((w.alloc (.cells #[.int .i64 p] 81)).alloc (.cells #[x,y,z,x',y',z'] 30)).alloc (.cells #[.bool false,.slice none 0 0,.int .i64 0,.bool false,.slice none 0 0,.int .i64 0] 30) /\
 Kept w W/\W.heap[w.heap.size]?=some (.cells #[.int .i64 p] 81 (0,0))/\BlkI W (w.heap.size+1) x y z x' y' z'/\BlkI W (w.heap.size+1+1) (.bool false) (.slice none 0 0) (.int .i64 0) (.bool false) (.slice none 0 0) (.int .i64 0):=by
 obtain ⟨W,hW,k,b1,b2⟩:=iO (w.alloc (.cells #[.int .i64 p] 81)) x y z x' y' z';simp only [World.size_alloc] at b1 b2;exact ⟨W,hW,(Ab _ _).trans k,(k.block w.heap.size (by simp)).trans (heap_alloc_new _ _),b1,b2⟩
theorem di (p:Nat)(a b:List RawI)(n:Nat)(s:Iv)(j m:Nat)(h:0<m) :
 Iq p a b n s (List.range' j m)=(Ew (gI a j) (gI b (n-j)) p).th λq=>(I8 s q p).th λs'=>Iq p a b n s' (List.range' (j+1) (m-1)):=by
 obtain ⟨m,rfl⟩:∃ k,m=k+1:=⟨m-1,by omega⟩;rw [List.range'_succ];rfl
theorem fk {x:Iv}{lst:Nat}(O:H8 S)(h7:S 7)(h8:S 8)(hx:IvC w vx x)(ox:x.Ok)(ha:IvS w va a)(hb:IvS w vb b)(ga:Gd a)(gb:Gd b)
 (ht:lst<=n) (na:lst<a.length\/lst=0) (nb:n<=b.length) (la:a.length<=1000) (lb:b.length<=1000) (hfr:fr=1) (hT:Tab w) (p1:1<=p) (p2:p<=2000) :
 Calls Tryz.prog 166 #[.agg #[.int .i64 p],vx,va,vb,.int .i64 fr,.int .i64 lst,.int .i64 n] w (Cn (Iq p a b n x (List.range' 1 lst)) w):=by
 obtain ⟨A,cA,rfl,hcA,RA⟩:=ha.place0 ga;obtain ⟨B,cB,rfl,hcB,RB⟩:=hb.place0 gb;obtain ⟨X,xl,xc,X',xl',xc',rfl,x1,x2⟩:=Ca hx;have CM:=Ad (λw1 (k:Kept w w1) j (hj0:1<=j) (hj:j<=lst) v u (hv:IvR w1 v (gI a j).raw) (hu:IvR w1 u (gI b (n-j)).raw)=>dZ (p:=p) O h8 hv hu (Eu ga (by omega)).1 (Eu gb (by omega)).1 (hT.kept k) p1 p2);have CA:=Ad (λw1 (k:Kept w w1) (s q:Iv) v u (os:s.Ok) (oq:q.Ok) (hv:IvR w1 v s.raw) (hu:IvR w1 u q.raw)=>lA (p:=p) O h7 hv hu os oq (hT.kept k) p1 p2);have OM:=Ad (λj=>(Ll (a:=gI a j) (b:=gI b (n-j)) p1).1);have OA:=Ad (λ(s q:Iv) (os:s.Ok) (oq:q.Ok)=>(Rm os oq p1).1)
 obtain ⟨r,hr⟩:∃ r,r=Iq p a b n x (List.range' 1 lst):=⟨_,rfl⟩;rw [<-hr];have FIN:=Ad (λ(w1:World) (k:Kept w w1) (v:Value) (h0:r.k=0) (hv:IvR w1 v r.v.raw)=>show Cn r w (.returned v) w1 from ⟨k,.inl ⟨h0,v,rfl,hv⟩⟩);have BAD:=Ad (λ(w1:World) (k:Kept w w1) (z:Int) (h0:z≠0) (h:r.k=z)=>show Cn r w (.panicked (By 106 z)) w1 from ⟨k,.inr ⟨by rw [h];exact h0,by rw [h]⟩⟩);obtain ⟨W,hW,kW,bW,BX,BR⟩:=pB w p (.bool x.lo.neg) (.slice X xl xc) (.int .i64 x.lo.e) (.bool x.hi.neg) (.slice X' xl' xc') (.int .i64 x.hi.e);have HA:=Ad RA;have HB:=Ad RB;have HW:=Ad hW;have KX:=Ad kW;have XP:=Ad bW
 have XR:=Ad BR;have XS:=Ad (show BlkIv W (w.heap.size+1) x from ⟨_,_,_,_,_,_,BX,x1.kept kW,x2.kept kW⟩);have HFR:=Ad hfr;have HR1:=Ad hr;have OX:=Ad ox;have NA:=Ad na;generalize hR:Cn r w=R at *;have HRR:=Ad hR;clear RA RB hW kW bW BR BX ha hb ga gb hT p1 p2 O h7 h8 hcA hcB hfr hr ox hx x1 x2 hR na;go_enter Tryz.func166,Tryz.ntmps166;generalize hs1:x.lo.neg=y1,hs2:x.lo.e=y2,hs3:x.hi.neg=y3,hs4:x.hi.e=y4 at *;clear hs1 hs2 hs3 hs4;go_wp2_with fail;rw [<-HW.o];clear HW
 go_loopw [15] (λt wr=>∃ (j:Nat) (s:Iv),t=.int .i64 (j:Int)/\1<=j/\j<=lst+1/\s.Ok/\Iq p a b n s (List.range' j (lst+1-j))=r/\Kept w wr/\wr.heap[w.heap.size]?=some (.cells #[.int .i64 p] 81 (0,0))/\BlkI wr (w.heap.size+1+1) (.bool false) (.slice none 0 0) (.int .i64 0) (.bool false) (.slice none 0 0) (.int .i64 0)/\BlkIv wr (w.heap.size+1) s) (λt _=>(lst+1-intOf t).toNat)
 case atStart=>exact ⟨1,x,by have h:=HFR.o;simp [h],Aq _,by omega,OX.o,by rw [HR1.o,show lst+1-1=lst by omega],KX.o,XP.o,XR.o,XS.o⟩
 case round =>
  obtain ⟨j,s,rfl,hj1,hjn,os,hs,hK,hP,hR,hS⟩:=hrel;have J1:=Ad hj1;have OS:=Ad os;have HSS:=Ad hs;have K:=Ad hK;have HP:=Ad hP;have HR:=Ad hR;obtain ⟨As,ls,cs,As',ls',cs',hb,d1,d2⟩:=hS;have HB13:=Ad hb;have D1:=Ad d1;have D2:=Ad d2;clear hj1 os hs hK hP hR hb d1 d2;by_cases hj:j<=lst
  ·obtain ⟨m, hm⟩ : ∃ m, m = n - j := ⟨_, rfl⟩;have hmz:(n:Int)-(j:Int)=(m:Int):=by omega
   have hja : j < a.length := by rcases NA.out with h | h
                                 ·omega
                                 ·have:=J1.o;omega
   have hmb:m<b.length:=by have:=J1.o;omega
   have hwm:IntKind.i64.wrap (m:Int)=(m:Int):=by simp [IntKind.wrap_i64];omega
   obtain ⟨bA,oA,rfl,RA⟩:=HA.o (by omega);obtain ⟨bB,oB,rfl,RB⟩:=HB.o (by omega);replace HA:=Ad RA;replace HB:=Ad RB;clear RA RB;obtain ⟨o1,ho1⟩:∃ o,o=Ew (gI a j) (gI b m) p:=⟨_,rfl⟩;obtain ⟨o2,ho2⟩:∃ o,o=I8 s o1.v p:=⟨_,rfl⟩;have ok1:o1.v.Ok:=by rw [ho1,hm];exact OM.o j
   have ok2:o2.v.Ok:=by rw [ho2];exact OA.o s o1.v OS.o ok1
   have hc1:=λw1 (k:Kept w w1) v u (hv:IvR w1 v (gI a j).raw) (hu:IvR w1 u (gI b m).raw)=>CM.o w1 k j J1.o hj v u hv (by rw [<-hm];exact hu)
   rw [<-hm,<-ho1] at hc1;have hc2:=λw1 (k:Kept w w1) v u (hv:IvR w1 v s.raw) (hu:IvR w1 u o1.v.raw)=>CA.o w1 k s o1.v v u OS.o ok1 hv hu
   rw [<-ho2] at hc2;have hst:r=o1.th λq=>(I8 s q p).th λs'=>Iq p a b n s' (List.range' (j+1) (lst-j)):=by
    rw [<-HSS.o,di p a b n s j (lst+1-j) (by omega),<-hm,<-ho1,show lst+1-j-1=lst-j by omega]
   have hb1:o1.k≠0->r.k=o1.k:=λh=>by rw [hst,Outc.th_bad h]
   have hb2:o1.k=0->o2.k≠0->r.k=o2.k:=λh h'=>by rw [hst,Outc.th_ok h,<-ho2,Outc.th_bad h']
   have hgo:o1.k=0->o2.k=0->Iq p a b n o2.v (List.range' (j+1) (lst+1-(j+1)))=r:=λh h'=>by rw [hst,Outc.th_ok h,<-ho2,Outc.th_ok h',show lst+1-(j+1)=lst-j by omega]
   have C1:=Ad hc1;have C2:=Ad hc2;have B1:=Ad hb1;have B2:=Ad hb2;have GO:=Ad hgo;have OK2:=Ad ok2;clear hc1 hc2 hst hb1 hb2 hgo ok1 ok2 ho1 ho2 hm;generalize hsn:s.lo.neg=n1,hse:s.lo.e=e1,hsn2:s.hi.neg=n2,hse2:s.hi.e=e2 at *;have HSr:=Ad (show IvR wr (.agg #[.bool n1,.slice As ls cs,.int .i64 e1,.bool n2,.slice As' ls' cs',.int .i64 e2]) s.raw from ⟨_,_,_,_,_,_,rfl,D1.o,D2.o⟩);go_wp2_with fail
   refine Ih 15 ([(vE (.agg #[.int .i64 (p:Int)])),(vE (.agg #[.bool n1,.slice As ls cs,.int .i64 e1,.bool n2,.slice As' ls' cs',.int .i64 e2])),(vE (.agg #[.int .i64 (p:Int)])),(vE (.slice (some ⟨bA,oA,none⟩) a.length cA)),(vE (.int .i64 (j:Int))),(vE (.pointer (some ⟨bA,oA+j*6,none⟩))),(λv wv=>IvR wv v ((gI a j).raw)),(vE (.slice (some ⟨bB,oB,none⟩) b.length cB)),(vE (.int .i64 (n:Int))),(vE (.int .i64 (j:Int))),(vE (.int .i64 (m:Int))),(vE (.pointer (some ⟨bB,oB+m*6,none⟩))),(λv wv=>IvR wv v ((gI b m).raw)),(λv wv=>o1.k=0/\IvR wv v o1.v.raw),(λv wv=>o2.k=0/\IvR wv v o2.v.raw)])
    ⟨
     (E3 7 λ_ k=>Ai HP.o k 0 _ rfl),(E3 8 λ_ k=>c6 HB13.o k),(E3 7 λ_ k=>Ai HP.o k 0 _ rfl),(gq 2),(gq 15),(Hz 3 25 4 26),(λaF wF F=>by have s27:=F.v 5 27;obtain ⟨xx,yy,zz,xx',yy',zz',h0,h1,h2,h3,h4,h5,hI⟩:=(HA.o _ (K.o.trans F.kept) j (by omega));exact sv hI),(gq 3),(gq 6),(gq 15),(Hz 8 30 9 31),(Hz 7 29 10 32),(λaF wF F=>by have s33:=F.v 11 33;obtain ⟨xx,yy,zz,xx',yy',zz',h0,h1,h2,h3,h4,h5,hI⟩:=(HB.o _ (K.o.trans F.kept) m (by omega));exact sv hI),(λaF wF F=>by have s24:=F.v 2 24;have s28:=F.p 6 28;have s34:=F.p 12 34;exact sJ (C1.o _ (K.o.trans F.kept) _ _ s28 s34) (λ_ _ _ h0 h=>⟨h0,h⟩) (λw2 k2 h0=>⟨F.defers,(by exact BAD.o _ (K.o.trans (F.kept.trans k2)) _ h0 (B1.o h0))⟩)),(λaF wF F=>by have s22:=F.v 0 22;have s23:=F.v 1 23;have s35:=F.p 13 35;exact sJ (C2.o _ (K.o.trans F.kept) _ _ (HSr.o.kept F.kept) s35.2) (λ_ _ _ h0 h=>⟨h0,h⟩) (λw2 k2 h0=>⟨F.defers,(by exact BAD.o _ (K.o.trans (F.kept.trans k2)) _ h0 (B2.o s35.1 h0))⟩)),
     trivial⟩ ?_
   intro u w1 k1 hu;have p28:=hp hu 6;have p34:=hp hu 12;have p35:=hp hu 13;have p36:=hp hu 14;simp only [Bb,Ap,Act.put,Ep,hv hu 0,hv hu 1,hv hu 2,hv hu 3,hv hu 4,hv hu 5,hv hu 7,hv hu 8,hv hu 9,hv hu 10,hv hu 11];clear hu;generalize u 6=v28,u 12=v34,u 13=v35,u 14=v36 at *;obtain ⟨h2,hv⟩:=p36;have h1:=p35.1;obtain ⟨Q,ql,qc,Q',ql',qc',rfl,z1,z2⟩:=Ca hv;have hB:=HB13.o.kept k1;obtain ⟨-,r0,r1,r2,r3,r4,r5⟩:=hB.facts;obtain ⟨f0,f1,f2,f3,f4,f5⟩:=hB.free;have H12:=Ad (And.intro h1 h2);clear p28 p34 p35 hv h1 h2;go_simp;go_upto_region 3 with fail;change Code.wp _ _ _ _ (ivW w1 (w.heap.size+1) _ _ _ _ _ _)
   have lw:w.heap.size<wr.heap.size:=by have:=HR.o.facts.1;omega
   have KX:=Ad (Az (x:=.bool o2.v.lo.neg) (y:=.slice Q ql qc) (z:=.int .i64 o2.v.lo.e) (x':=.bool o2.v.hi.neg) (y':=.slice Q' ql' qc') (z':=.int .i64 o2.v.hi.e) (K.o.trans k1) (Nat.le_succ w.heap.size));have XS:=Ad (BlkIv.store hB z1 z2);have XP:=Ad ((F8 w1 (w.heap.size+1) w.heap.size (.bool o2.v.lo.neg) (.slice Q ql qc) (.int .i64 o2.v.lo.e) (.bool o2.v.hi.neg) (.slice Q' ql' qc') (.int .i64 o2.v.hi.e) (by omega)).trans ((k1.block _ lw).trans HP.o));have XR:=Ad (N2 (HR.o.kept k1) (by omega:w.heap.size+1+1≠w.heap.size+1) (.bool o2.v.lo.neg) (.slice Q ql qc) (.int .i64 o2.v.lo.e) (.bool o2.v.hi.neg) (.slice Q' ql' qc') (.int .i64 o2.v.hi.e))
   clear r0 r1 r2 r3 r4 r5 f0 f1 f2 f3 f4 f5 z1 z2 hB k1 lw;generalize ivW w1 (w.heap.size+1) _ _ _ _ _ _=Y at *;go_wp2_with fail;go_roundw
   case rel=>exact ⟨j+1,o2.v,by go_num,by omega,by omega,OK2.o,GO.o H12.o.1 H12.o.2,KX.o,XP.o,XR.o,XS.o⟩
   case measure=>simp [intOf];omega
  ·obtain rfl:j=lst+1:=by omega
   have hs:s=r.v/\r.k=0:=by
    have:=HSS.o;rw [show lst+1-(lst+1)=0 by omega] at this;rw [<-this];exact ⟨rfl,rfl⟩
   obtain ⟨-,a0,a1,a2,a3,a4,a5⟩:=HB13.o.facts;obtain ⟨-,r0,r1,r2,r3,r4,r5⟩:=HR.o.facts;obtain ⟨f0,f1,f2,f3,f4,f5⟩:=HR.o.free;have HS2:=Ad hs;clear hs;go_wp2_with fail;have hg:=FIN.o (ivW wr (w.heap.size+1+1) (.bool s.lo.neg) (.slice As ls cs) (.int .i64 s.lo.e) (.bool s.hi.neg) (.slice As' ls' cs') (.int .i64 s.hi.e)) (Az K.o (by omega)) (.agg #[.bool s.lo.neg,.slice As ls cs,.int .i64 s.lo.e,.bool s.hi.neg,.slice As' ls' cs',.int .i64 s.hi.e]) HS2.o.2 (by rw [<-HS2.o.1];exact ⟨_,_,_,_,_,_,rfl,D1.o.ivW HR.o _ _ _ _ _ _,D2.o.ivW HR.o _ _ _ _ _ _⟩);exact Fp (HR.o.laid _ _ _ _ _ _) rfl rfl rfl hg
theorem Us {p:Nat}{a b:List RawI}{n:Nat}(p1:1<=p):∀ (js:List Nat) {x:Iv},x.Ok->(Iq p a b n x js).v.Ok
 | [],_,h=>h
 | j :: js, x, h => by
   unfold Iq Outc.th;split
   ·dsimp only;split
    ·exact Us p1 js (Rm h (Ll p1).1 p1).1
    ·exact Ss
   ·exact Ss
theorem qh (O:H8 S)(h6:S 6)(h8:S 8)(ha:IvS w va a)(hb:IvS w vb b)(ga:Gd a)(gb:Gd b)(na:n<a.length)(nb:n<b.length)
 (la:a.length<=1000) (lb:b.length<=1000) (hT:Tab w) (p1:1<=p) (p2:p<=2000) :
 Calls Tryz.prog 122 #[.agg #[.int .i64 p],.int .i64 8,va,vb,vc,.int .i64 n] w (Cn (Gu p a b n) w):=by
 have C1:=Ad (λw1 (k:Kept w w1)=>show Calls Tryz.prog 165 #[.agg #[.int .i64 p],va,vb,.int .i64 0,.int .i64 n,.int .i64 n] w1 (Cn (Gu p a b n) w1) from jr (fr:=0) O h6 h8 (ha.kept k) (hb.kept k) ga gb na nb la lb rfl (hT.kept k) p1 p2);obtain ⟨W,hW,kW,bW,BR⟩:=N3 w p;have HW:=Ad hW;have K:=Ad kW;have cW:=Ae bW 0 _ rfl;have HR:=Ad BR;clear hW kW bW BR ha hb ga gb na nb la lb hT p1 p2 O h6 h8;generalize Gu p a b n=o at *;go_enter Tryz.func122,Tryz.ntmps122;go_wp2_with fail;rw [<-HW.o];refine (C1.o _ K.o).mono ?_;rintro e w1 ⟨q,⟨h0,v,rfl,hv⟩ | ⟨h0,rfl⟩⟩
 ·obtain ⟨P,pl,pc,P',pl',pc',rfl,z1,z2⟩:=Ca hv;have hr:=HR.o.kept q;obtain ⟨-,r0,r1,r2,r3,r4,r5⟩:=hr.facts;obtain ⟨f0,f1,f2,f3,f4,f5⟩:=hr.free;have HRR:=Ad hr;have Z1:=Ad z1;have Z2:=Ad z2;have H0:=Ad h0;clear hr z1 z2 hv h0 cW;simp only [];go_wp2_with fail;exact Fp (HRR.o.laid _ _ _ _ _ _) rfl rfl rfl ⟨Az (K.o.trans q) (by omega),.inl ⟨H0.o,_,rfl,_,_,_,_,_,_,rfl,Z1.o.ivW HRR.o _ _ _ _ _ _,Z2.o.ivW HRR.o _ _ _ _ _ _⟩⟩
 ·exact ⟨rfl,K.o.trans q,.inr ⟨h0,rfl⟩⟩
theorem qj (O:H8 S)(h6:S 6)(h8:S 8)(h11:S 11)(ha:IvS w va a)(ga:Gd a)(na:n<a.length)
 (la:a.length<=1000) (hT:Tab w) (p1:1<=p) (p2:p<=2000) :
 Calls Tryz.prog 122 #[.agg #[.int .i64 p],.int .i64 11,va,vb,vc,.int .i64 n] w (Cn (if n=0 then Lb (gI a 0) p else Gu p a a n) w):=by
 obtain ⟨W,hW,kW,bW,BR⟩:=N3 w p;have HW:=Ad hW;have K:=Ad kW;have HP:=Ad bW;have cW:=Ae bW 0 _ rfl;have HR:=Ad BR;clear hW kW bW BR;by_cases hn:n=0
 ·rw [Ak hn];obtain ⟨bA,oA,cA,rfl,hcA,RA⟩:=ha.place ga (by omega);have C1:=Ad (fun w1 (k:Kept w w1) v (hv:IvR w1 v (gI a 0).raw)=>O.sqr h11 hv (Eu ga (by omega)).1 (hT.kept k) p1 p2);have HA:=Ad (fun w1 (k:Kept w w1)=>RA w1 k 0 (by omega));have hla:0<a.length:=by omega
  clear RA ha ga hT p1 p2 O h6 h8 h11 hcA;subst hn;generalize Lb (gI a 0) p=o at *;have hro:(Bn o).k=o.k:=rfl;generalize gI a 0=ga at *;have BAD:=Ad (λ(w1:World) (k:Kept w w1) (h0:o.k≠0)=>show Cn o w (.panicked (By 106 o.k)) w1 from ⟨k,.inr ⟨h0,rfl⟩⟩);go_enter Tryz.func122,Tryz.ntmps122;go_wp2_with fail;rw [<-HW.o];clear cW
  refine Ih 9 ([(vE (.slice (some ⟨bA,oA,none⟩) a.length cA)),(vE (.pointer (some ⟨bA,oA,none⟩))),(λv wv=>IvR wv v ga.raw),(vP w.heap.size 0),(vE (.int .i64 (p:Int))),(λv wv=>∃ d,v=.tuple #[d,.int .i64 (Bn o).k]/\IvR wv d (Bn o).v),(λv wv=>IvR wv v (Bn o).v),(vE (.int .i64 (Bn o).k)),(λv wv=>o.k=0/\IvR wv v o.v.raw)])
   ⟨
    (gq 2),(gv 0 81),(λaF wF F=>by have s82:=F.v 1 82;obtain ⟨xx,yy,zz,xx',yy',zz',h0,h1,h2,h3,h4,h5,hI⟩:=(by have h:=HA.o _ (K.o.trans F.kept);simpa using h);exact sv hI),(gq 6),(Ie 3 84 λ_ k=>Ai HP.o k 0 _ rfl),(λaF wF F=>by have s83:=F.p 2 83;have s85:=F.v 4 85;exact sP (C1.o _ (K.o.trans F.kept) _ s83) λ_ _ h=>h),(λaF wF F=>by have s86:=F.p 5 86;obtain ⟨dd,ee,hh⟩:=s86;exact sv hh),(λaF wF F=>by have s86:=F.p 5 86;exact sw (by obtain ⟨dd,ee,hh⟩:=s86;go_simp) rfl),(λaF wF F=>by have s87:=F.p 6 87;have s88:=F.v 7 88;exact sJ (G0 (o:=o) s87) (λ_ _ _ h0 h=>⟨h0,h⟩) (λw2 k2 h0=>⟨F.defers,BAD.o _ (K.o.trans (F.kept.trans k2)) h0⟩)),
    trivial⟩ ?_
  intro u w1 k1 hu;have p83:=hp hu 2;have p86:=hp hu 5;have p87:=hp hu 6;have p89:=hp hu 8;simp only [Bb,Ap,Act.put,Ep,hv hu 0,hv hu 1,hv hu 3,hv hu 4,hv hu 7];clear hu;generalize u 2=v83,u 5=v86,u 6=v87,u 8=v89 at *;obtain ⟨h0,hv⟩:=p89;obtain ⟨P,pl,pc,P',pl',pc',rfl,z1,z2⟩:=Ca hv;have hr:=HR.o.kept k1;obtain ⟨-,r0,r1,r2,r3,r4,r5⟩:=hr.facts;obtain ⟨f0,f1,f2,f3,f4,f5⟩:=hr.free;have HRR:=Ad hr;have Z1:=Ad z1;have Z2:=Ad z2;have H0:=Ad h0;have K1:=Ad k1;clear hr z1 z2 hv h0 k1 p83 p86 p87;go_simp;go_wp2_with fail;exact Fp (HRR.o.laid _ _ _ _ _ _) rfl rfl rfl ⟨Az (K.o.trans K1.o) (by omega),.inl ⟨H0.o,_,rfl,_,_,_,_,_,_,rfl,Z1.o.ivW HRR.o _ _ _ _ _ _,Z2.o.ivW HRR.o _ _ _ _ _ _⟩⟩
 ·rw [Af hn];have C1:=Ad (fun w1 (k:Kept w w1)=>show Calls Tryz.prog 165 #[.agg #[.int .i64 p],va,va,.int .i64 0,.int .i64 n,.int .i64 n] w1 (Cn (Gu p a a n) w1) from jr (fr:=0) O h6 h8 (ha.kept k) (ha.kept k) ga ga na na la la rfl (hT.kept k) p1 p2);have hnb:(n==0)=false:=by rw [Ek];exact hn
  clear ha ga na la hT p1 p2 O h6 h8 h11;generalize Gu p a a n=o at *;go_enter Tryz.func122,Tryz.ntmps122;go_wp2_with fail;rw [<-HW.o];refine (C1.o _ K.o).mono ?_;rintro e w1 ⟨q,⟨h0,v,rfl,hv⟩ | ⟨h0,rfl⟩⟩
  ·obtain ⟨P,pl,pc,P',pl',pc',rfl,z1,z2⟩:=Ca hv;have hr:=HR.o.kept q;obtain ⟨-,r0,r1,r2,r3,r4,r5⟩:=hr.facts;obtain ⟨f0,f1,f2,f3,f4,f5⟩:=hr.free;have HRR:=Ad hr;have Z1:=Ad z1;have Z2:=Ad z2;have H0:=Ad h0;clear hr z1 z2 hv h0 cW;simp only [];go_wp2_with fail;exact Fp (HRR.o.laid _ _ _ _ _ _) rfl rfl rfl ⟨Az (K.o.trans q) (by omega),.inl ⟨H0.o,_,rfl,_,_,_,_,_,_,rfl,Z1.o.ivW HRR.o _ _ _ _ _ _,Z2.o.ivW HRR.o _ _ _ _ _ _⟩⟩
  ·exact ⟨rfl,K.o.trans q,.inr ⟨h0,rfl⟩⟩
theorem pW (O:H8 S)(h7:S 7)(h8:S 8)(h9:S 9)(ha:IvS w va a)(hb:IvS w vb b)(hc:IvS w vc c)(ga:Gd a)(gb:Gd b)(gc:Gd c)(na:n<a.length)(nb:n<b.length)(nc:n<=c.length)
 (la:a.length<=1000) (lb:b.length<=1000) (lc:c.length<=1000) (hT:Tab w) (p1:1<=p) (p2:p<=2000) :
 Calls Tryz.prog 122 #[.agg #[.int .i64 p],.int .i64 9,va,vb,vc,.int .i64 n] w (Cn ((Iq p b c n (gI a n) (List.range' 1 n)).th λx=>Cm x (gI b 0) p) w):=by
 obtain ⟨W,hW,kW,bW,BR⟩:=N3 w p;have HW:=Ad hW;have K:=Ad kW;have HP:=Ad bW;have HR:=Ad BR;clear hW kW bW BR;obtain ⟨o1,ho1⟩:∃ o,o=Iq p b c n (gI a n) (List.range' 1 n):=⟨_,rfl⟩;obtain ⟨o2,ho2⟩:∃ o,o=Cm o1.v (gI b 0) p:=⟨_,rfl⟩;have ok1:o1.v.Ok:=by rw [ho1];exact Us p1 _ (Eu ga na).1
 have C1:=Ad (λw1 (k:Kept w w1) v (hv:IvR w1 v (gI a n).raw)=>show Calls Tryz.prog 166 #[.agg #[.int .i64 p],v,vb,vc,.int .i64 1,.int .i64 n,.int .i64 n] w1 (Cn o1 w1) from by
  rw [ho1];exact fk (fr:=1) O h7 h8 hv (Eu ga na).1 (hb.kept k) (hc.kept k) gb gc (Aq _) (.inl nb) nc lb lc rfl (hT.kept k) p1 p2)
 have C2:=Ad (λw1 (k:Kept w w1) v u (hv:IvR w1 v o1.v.raw) (hu:IvR w1 u (gI b 0).raw)=>show Calls Tryz.prog 60 #[.agg #[.int .i64 p],v,u] w1 (Cn o2 w1) from by
  rw [ho2];exact Zl O h9 hv hu ok1 (Eu gb (by omega)).1 (hT.kept k) p1 p2)
 rw [<-ho1];have e2:(o1.th λx=>Cm x (gI b 0) p)=o1.th λ_=>o2:=by unfold Outc.th;rw [ho2]
 rw [e2];obtain ⟨bA,oA,cA,rfl,hcA,RA⟩:=ha.place ga (by omega);have HA:=Ad (λw1 (k:Kept w w1)=>RA w1 k n na);have hbp:=hb.place gb (by omega);obtain ⟨bB,oB,cB,rfl,hcB,RB⟩:=hbp;have HB:=Ad (λw1 (k:Kept w w1)=>RB w1 k 0 (by omega));have hlb:0<b.length:=by omega
 clear RA RB ha hb hc ga gb gc hT p1 p2 O h7 h8 h9 hcA hcB ho1 ho2 ok1 e2 nc lc;generalize gI a n=ga at *;generalize gI b 0=gb at *;obtain ⟨r,hr⟩:∃ r,r=o1.th λ_=>o2:=⟨_,rfl⟩
 rw [<-hr];have B1:=Ad (λ(w1:World) (k:Kept w w1) (h:o1.k≠0)=>show Cn r w (.panicked (By 106 o1.k)) w1 from by rw [hr,Outc.th_bad h];exact ⟨k,.inr ⟨h,rfl⟩⟩);have B2:=Ad (λ(w1:World) (k:Kept w w1) (h':o1.k=0) (h:o2.k≠0)=>show Cn r w (.panicked (By 106 o2.k)) w1 from by rw [hr,Outc.th_ok h'];exact ⟨k,.inr ⟨h,rfl⟩⟩);have HG:=Ad (λ(h:o1.k=0)=>show r=o2 by rw [hr,Outc.th_ok h]);clear hr;go_enter Tryz.func122,Tryz.ntmps122;go_wp2_with fail;rw [<-HW.o]
 refine Ih 15 ([(vE (.agg #[.int .i64 (p:Int)])),(vE (.agg #[.int .i64 (p:Int)])),(vE (.slice (some ⟨bA,oA,none⟩) a.length cA)),(vE (.int .i64 (n:Int))),(vE (.pointer (some ⟨bA,oA+n*6,none⟩))),(λv wv=>IvR wv v ga.raw),(vE (.slice (some ⟨bB,oB,none⟩) b.length cB)),(vE vc),(vE (.int .i64 (n:Int))),(vE (.int .i64 (n:Int))),(λv wv=>o1.k=0/\IvR wv v o1.v.raw),(vE (.slice (some ⟨bB,oB,none⟩) b.length cB)),(vE (.pointer (some ⟨bB,oB,none⟩))),(λv wv=>IvR wv v gb.raw),(λv wv=>o2.k=0/\IvR wv v o2.v.raw)])
  ⟨
   (E3 6 λ_ k=>Ai HP.o k 0 _ rfl),(E3 6 λ_ k=>Ai HP.o k 0 _ rfl),(gq 2),(gq 5),(Hz 2 64 3 65),(λaF wF F=>by have s66:=F.v 4 66;obtain ⟨xx,yy,zz,xx',yy',zz',h0,h1,h2,h3,h4,h5,hI⟩:=(HA.o _ (K.o.trans F.kept));exact sv hI),(gq 3),(gq 4),(gq 5),(gq 5),(λaF wF F=>by have s63:=F.v 1 63;have s67:=F.p 5 67;have s68:=F.v 6 68;have s69:=F.v 7 69;have s70:=F.v 8 70;have s71:=F.v 9 71;exact sJ (C1.o _ (K.o.trans F.kept) _ s67) (λ_ _ _ h0 h=>⟨h0,h⟩) (λw2 k2 h0=>⟨F.defers,B1.o _ (K.o.trans (F.kept.trans k2)) h0⟩)),(gq 3),(gv 11 73),(λaF wF F=>by have s74:=F.v 12 74;obtain ⟨xx,yy,zz,xx',yy',zz',h0,h1,h2,h3,h4,h5,hI⟩:=(by have h:=HB.o _ (K.o.trans F.kept);simpa using h);exact sv hI),(λaF wF F=>by have s62:=F.v 0 62;have s72:=F.p 10 72;have s75:=F.p 13 75;exact sJ (C2.o _ (K.o.trans F.kept) _ _ s72.2 s75) (λ_ _ _ h0 h=>⟨h0,h⟩) (λw2 k2 h0=>⟨F.defers,B2.o _ (K.o.trans (F.kept.trans k2)) s72.1 h0⟩)),
   trivial⟩ ?_
 intro u w1 k1 hu;have p67:=hp hu 5;have p72:=hp hu 10;have p75:=hp hu 13;have p76:=hp hu 14;simp only [Bb,Ap,Act.put,Ep,hv hu 0,hv hu 1,hv hu 2,hv hu 3,hv hu 4,hv hu 6,hv hu 7,hv hu 8,hv hu 9,hv hu 11,hv hu 12];clear hu;generalize u 5=v67,u 10=v72,u 13=v75,u 14=v76 at *;obtain ⟨h0,hv⟩:=p76;obtain rfl:=HG.o p72.1;obtain ⟨P,pl,pc,P',pl',pc',rfl,z1,z2⟩:=Ca hv;have hr:=HR.o.kept k1;obtain ⟨-,r0,r1,r2,r3,r4,r5⟩:=hr.facts;obtain ⟨f0,f1,f2,f3,f4,f5⟩:=hr.free;have HRR:=Ad hr;have Z1:=Ad z1;have Z2:=Ad z2;have H0:=Ad h0;have K1:=Ad k1;clear hr z1 z2 hv h0 k1 p67 p72 p75
 go_simp;go_wp2_with fail;exact Fp (HRR.o.laid _ _ _ _ _ _) rfl rfl rfl ⟨Az (K.o.trans K1.o) (by omega),.inl ⟨H0.o,_,rfl,_,_,_,_,_,_,rfl,Z1.o.ivW HRR.o _ _ _ _ _ _,Z2.o.ivW HRR.o _ _ _ _ _ _⟩⟩
def zc6:Array Value:=(Value.agg #[.bool false,.slice none 0 0,.int .i64 0,.bool false,.slice none 0 0,.int .i64 0]).cells
theorem qG {m t:Nat}(ht:t<6)(hi:i<m):(Builtin.zeroCells zc6 m).toList[i*6+t]?=some (zc6[t]!):=by
 have hb:i*6+t<m*6:=by omega
 have hm:(i*6+t)%6=t:=by omega
 rw [Array.getElem?_toList];unfold Builtin.zeroCells;have hs:zc6.size=6:=rfl;rw [hs,Array.getElem?_map,Array.getElem?_range,Ak hb,Option.map_some,hm]
theorem Nt {ops:Array Oper}{rest:List Oper}{o:Oper}{a:Act}{Q:Exit->Act->World->Prop}(hgd:o.guard=none)(s x:Operand)
 (ho:o.op=.call { callee:=.builtin .append,args:=#[s,x],argTypes:=#[31,3] })
 {base n m:Nat} {v:Value} {xs:List Value} (hv:a.eval s=v) (hown:w.ownsRow base 30 6 v n xs) (hx:a.eval x=.int .i64 (m:Int)) (hn:n+m<=1000) (hbase:base<=w.heap.size)
 (h:∀ v' w',w'.ownsRow base 30 6 v' (n+m) (xs++(Builtin.zeroCells zc6 m).toList)->w.grownBy w' v.ownBlock->wpList Tryz.prog ops Q rest (a.put o.dst v') w'):wpList Tryz.prog ops Q (o::rest) a w:=by
 obtain ⟨i0,hi,hz0,hz1,hz2⟩:=info_parts Uo;refine Hx w hgd s x 31 3 ho base 30 i0 _ .i64 .i64 Tryz.underlying31 Tryz.underlying3 hi hz0 (by rw [hz1];decide) (by rw [hz1];rfl) v n xs hv (by rw [hz1];exact hown) m _ hx rfl ?_ (by unfold maxLen;omega) (by rw [hz2];omega) hbase ?_
 ·intro u hu;have:=He hu;simp [Value.cells] at this;rcases this with rfl | rfl | rfl | rfl | rfl | rfl<;>rfl
 ·intro v' w' h1 h2;rw [hz1] at h1;exact h v' w' h1 h2
theorem Wz {base:Nat}{v' x:Value}{a:RawI}(OW:w'.ownsRow base 30 6 v' (1+k) ([x,y,z,x',y',z']++(Builtin.zeroCells zc6 k).toList))(hI:IvR w' (.agg #[x,y,z,x',y',z']) a):IvS w' v' (Bs a k):=by
 have hc:=OW.2;rcases hc with ⟨-,h0⟩ | ⟨g,cap,cur,rfl,hbg,hg,hncap,-⟩
 ·omega
 refine ⟨_,cap,by simp [Bs,Nat.add_comm],by simp [Bs];omega,λ_=>⟨g,0,rfl,λi d hi=>?_⟩⟩;have cl:=OW.cells (g:=g) rfl;have ad:∀ j,(⟨g,0,none⟩:Addr).add j=⟨g,j,none⟩:=by intro j;unfold Addr.add;split<;>simp_all
 have cl':∀ j u,([x,y,z,x',y',z']++(Builtin.zeroCells zc6 k).toList)[j]?=some u->w'.cell? ⟨g,j,none⟩=some u:=λj u hj=>by have:=cl j u hj;rwa [ad] at this
 rcases i with _ | i
 ·have hd:a=d:=by simpa [Bs] using hi
  subst hd;exact ⟨_,_,_,_,_,_,cl' 0 _ rfl,cl' 1 _ rfl,cl' 2 _ rfl,cl' 3 _ rfl,cl' 4 _ rfl,cl' 5 _ rfl,hI⟩
 ·have hik:i<k:=by
   have:=(Ed hi).1;simpa [Bs] using this
  obtain rfl:d=rzI:=by
   unfold Bs at hi;rw [List.getElem?_cons_succ,List.getElem?_replicate,Ak hik] at hi;exact (Option.some.inj hi).symm
  have hz:∀ t,t<6->w'.cell? ⟨g,0+(i+1)*6+t,none⟩=some (zc6[t]!):=λt ht=>cl' _ _ (by
   rw [Gk (by simp;omega),show 0+(i+1)*6+t-[x,y,z,x',y',z'].length=i*6+t by simp;omega];exact qG ht hik)
  exact ⟨_,_,_,_,_,_,hz 0 (by decide),hz 1 (by decide),hz 2 (by decide),hz 3 (by decide),hz 4 (by decide),hz 5 (by decide),Gr _⟩
def ow (a:RawI) (k:Nat) (w:World) (e:Ending) (w':World):Prop:=Kept w w'/\∃ v xs,e=.returned v/\IvS w' v (Bs a k)/\w'.ownsRow w.heap.size 30 6 v (k+1) xs
theorem Uc {a:RawI}(ha:IvR w va a)(hk:k<=900):Calls Tryz.prog 56 #[va,.int .i64 k] w (ow a k w):=by
 obtain ⟨A,l,c,A',l',c',rfl,h1,h2⟩:=Ar ha
 obtain ⟨W,hW,kW,BI,lW⟩:∃ W,W=w.alloc (.cells #[.bool a.lo.neg,.slice A l c,.int .i64 a.lo.e,.bool a.hi.neg,.slice A' l' c',.int .i64 a.hi.e] 30)/\Kept w W/\BlkI W w.heap.size (.bool a.lo.neg) (.slice A l c) (.int .i64 a.lo.e) (.bool a.hi.neg) (.slice A' l' c') (.int .i64 a.hi.e)/\W.heap.size=w.heap.size+1 :=
  ⟨_,rfl,Ab _ _,Ea _ _ _ _ _ _ _,by simp⟩
 have HW:=Ad hW;have K:=Ad kW;have HA:=Ad ha;obtain ⟨-,c0,c1,c2,c3,c4,c5⟩:=BI.facts;clear hW kW BI h1 h2 ha;have LW:=Ad lW;clear lW;generalize hn1:a.lo.neg=n1,hn2:a.lo.e=e1,hn3:a.hi.neg=n2,hn4:a.hi.e=e2 at *;clear hn1 hn2 hn3 hn4;go_enter Tryz.func56,Tryz.ntmps56;go_upto_region 1 with fail;rw [<-HW.o]
 have own:(W.alloc (.cells #[.bool n1,.slice A l c,.int .i64 e1,.bool n2,.slice A' l' c',.int .i64 e2] 30)).ownsRow w.heap.size 30 6 (.slice (some ⟨W.heap.size,0,none⟩) 1 1) 1 [.bool n1,.slice A l c,.int .i64 e1,.bool n2,.slice A' l' c',.int .i64 e2] :=
  ⟨rfl,.inr ⟨W.heap.size,1,_,rfl,by rw [LW.o];omega,heap_alloc_new _ _,Aq _,by unfold maxLen;omega,rfl,rfl⟩⟩
 have OWN:=Ad own;clear own
 go_wp2_with (at_builtin;refine Nt rfl (.tmp 6) (.tmp 7) rfl rfl OWN.o rfl (by omega) (by simp;rw [LW.o];omega) ?_;intro v' w' OW gW)
 have hb:w.heap.size<=W.heap.size:=by rw [LW.o];omega
 have kk:Kept w w':=Below.grown (K.o.trans (Ab _ _)) gW (by simp;rw [LW.o];omega) (λg hg=>Bp hb (Nat.le_of_eq (Option.some.inj hg)));have hIv:IvS w' v' (Bs a k):=Wz OW (HA.o.kept kk);have FI:=Ad (show ow a k w (.returned v') w' from ⟨kk,v',_,rfl,hIv,by rw [Nat.add_comm k 1];exact OW⟩);clear hIv kk OW gW OWN;go_ret;exact FI.o
theorem Sh {w:World}{b:Nat}:∀ (l:List RawI) (off:Nat),(∀ i a,l[i]?=some a->IvAt w b (off+i*6) a)->∃ cs:List Value,cs.length=l.length*6 /\
 (∀ (j:Nat) (u:Value),cs[j]?=some u->w.cell? ⟨b,off+j,none⟩=some u/\Bv u/\u.oneCell'=true) /\
 (∀ (i:Nat) (a:RawI),l[i]?=some a->∃ x y z x' y' z',cs[i*6]?=some x/\cs[i*6+1]?=some y/\cs[i*6+2]?=some z/\cs[i*6+3]?=some x'/\cs[i*6+4]?=some y'/\cs[i*6+5]?=some z'/\IvR w (.agg #[x,y,z,x',y',z']) a)
 | [],off,_=>⟨[],rfl,by simp,by simp⟩
 | a :: l, off, h => by
   obtain ⟨cs,h1,h2,h3⟩:=Sh l (off+6) (λi d hi=>by
    have:=h (i+1) d (by simpa using hi);rw [show off+(i+1)*6=off+6+i*6 by omega] at this;exact this)
   obtain ⟨x,y,z,x',y',z',c0,c1,c2,c3,c4,c5,hI⟩:=h 0 a rfl;have hcl:=hI.cells;rw [show off+0*6=off by omega] at c0 c1 c2 c3 c4 c5;refine ⟨x::y::z::x'::y'::z'::cs,by simp only [List.length_cons];omega,?_,?_⟩
   ·intro j u hj;rcases j with _ | _ | _ | _ | _ | _ | j
    ·cases hj;exact ⟨c0,hcl _ (by simp)⟩
    ·cases hj;exact ⟨c1,hcl _ (by simp)⟩
    ·cases hj;exact ⟨c2,hcl _ (by simp)⟩
    ·cases hj;exact ⟨c3,hcl _ (by simp)⟩
    ·cases hj;exact ⟨c4,hcl _ (by simp)⟩
    ·cases hj;exact ⟨c5,hcl _ (by simp)⟩
    ·have:=h2 j u (by simpa using hj);rw [show off+6+j=off+(j+1+1+1+1+1+1) by omega] at this;exact this
   ·intro i d hi;rcases i with _ | i
    ·obtain rfl:a=d:=by simpa using hi
     exact ⟨_,_,_,_,_,_,rfl,rfl,rfl,rfl,rfl,rfl,hI⟩
    ·obtain ⟨p,q,r,p',q',r',e0,e1,e2,e3,e4,e5,hJ⟩:=h3 i d (by simpa using hi);refine ⟨p,q,r,p',q',r',?_,?_,?_,?_,?_,?_,hJ⟩
     ·rw [show (i+1)*6=i*6+6 by omega];exact e0
     ·rw [show (i+1)*6+1=i*6+1+6 by omega];exact e1
     ·rw [show (i+1)*6+2=i*6+2+6 by omega];exact e2
     ·rw [show (i+1)*6+3=i*6+3+6 by omega];exact e3
     ·rw [show (i+1)*6+4=i*6+4+6 by omega];exact e4
     ·rw [show (i+1)*6+5=i*6+5+6 by omega];exact e5
theorem jm (hv:IvS w v l)(h0:0<l.length)(hl:l.length<=1000) :
 Calls Tryz.prog 55 #[v] w λe w'=>Kept w w'/\∃ v' xs,e=.returned v'/\OwnI w' w.heap.size v' l xs:=by
 obtain ⟨A,c,rfl,hc,hA⟩:=hv;obtain ⟨b,off,rfl,hD⟩:=hA h0;obtain ⟨i0,hi,hz0,hz1,hz2⟩:=info_parts Uo;have e1:=λ(w:World)=>Lib.run_eql_slice_nil (P:=Tryz.prog) w 31 30 (some ⟨b,off,none⟩) l.length c 0 0 Tryz.underlying31
 obtain ⟨W,hW⟩:∃ W,W=w.alloc (.cells #[] 30):=⟨_,rfl⟩;have kW:Kept w W:=by rw [hW];exact Ab _ _
 have hown:W.ownsRow w.heap.size 30 6 (.slice (some ⟨w.heap.size,0,none⟩) 0 0) 0 []:=by rw [hW];exact World.ownsRow_made w #[] 0 (Aq _) (by decide) rfl
 have hnol:∀ g,(Value.slice (some ⟨w.heap.size,0,none⟩) 0 0).ownBlock=some g->Ws W g:=by
  intro g hg;obtain rfl:w.heap.size=g:=Option.some.inj hg;exact ⟨_,_,by rw [hW];exact heap_alloc_new _ _,by simp⟩
 obtain ⟨cs,q1,q2,q3⟩:=Sh (w:=W) (b:=b) l off (λi a hi=>(hD i a hi).kept kW);have ad:∀ j,(⟨b,off,none⟩:Addr).add j=⟨b,off+j,none⟩:=by intro j;unfold Addr.add;split<;>simp_all
 have hsz:w.heap.size<=W.heap.size:=kW.size;have Q2:=Ad q2;have Q3:=Ad q3;have HO:=Ad hown;have HN:=Ad hnol;have K:=Ad kW;have HW:=Ad hW;have AD:=Ad ad;clear hA hD hown hnol q2 q3 kW hW ad;go_enter Tryz.func55,Tryz.ntmps55;go_upto_region 3 with fail
 go_wp2_with (at_builtin;rw [<-HW.o];refine Il rfl (.tmp 5) (.tmp 6) _ rfl w.heap.size 30 i0 _ 6 80 Tryz.underlying31 hi hz0 hz1 hz2 rfl (by decide) _ 0 [] rfl HO.o ⟨b,off,none⟩ l.length c cs rfl q1 (λj u hj=>by rw [AD.o];exact (Q2.o j u hj).1) (λu hu=>by obtain ⟨j,hj⟩:=List.getElem?_of_mem hu;exact (Q2.o j u hj).2.2) (by unfold maxLen;omega) (by omega) hsz h0 (by simp) (λu hu=>by obtain ⟨j,hj⟩:=List.getElem?_of_mem hu;exact (Q2.o j u hj).2.1) Km HN.o ?_;intro v' w' g' o1 o2 o3 o4)
 have kk:Kept w w':=Below.grown K.o o2 hsz (λg hg=>Nat.le_of_eq (Option.some.inj hg));have own:OwnI w' w.heap.size v' l cs:=by
  refine ⟨by simpa using o1,?_,?_,?_,?_⟩
  ·intro u hu;obtain ⟨j,hj⟩:=List.getElem?_of_mem hu;exact (Q2.o j u hj).2.1
  ·intro u hu;obtain ⟨j,hj⟩:=List.getElem?_of_mem hu;exact (Q2.o j u hj).2.2
  ·intro g hg;rw [o3] at hg;cases hg;exact o4
  ·intro i a hi;obtain ⟨x,y,z,x',y',z',a0,a1,a2,a3,a4,a5,hI⟩:=Q3.o i a hi;exact ⟨x,y,z,x',y',z',a0,a1,a2,a3,a4,a5,hI.grown o2 HN.o⟩
 have FI:=Ad (And.intro kk own);clear kk own o1 o2 o3 o4;go_wp2;go_ret;exact ⟨FI.o.1,_,_,rfl,FI.o.2⟩
theorem Rp (w:World)(k b:Int):Calls Tryz.prog 46 #[.int .i64 k,.int .i64 b] w (RetQ (.bool (Eg k b)) w):=by
 unfold Eg;by_cases h1:0<=k
 ·by_cases h2:k≤12
  ·by_cases h3:1≤b
   ·by_cases h4:b≤300
    ·simp only [h1,h2,h3,h4,decide_true,Bool.and_self];go_enter Tryz.func46,Tryz.ntmps46;go_wp2_with fail;go_ret;exact ⟨rfl,0,rfl⟩
    ·simp only [h1,h2,h3,h4,decide_true,decide_false,Bool.and_self,Bool.and_false];go_enter Tryz.func46,Tryz.ntmps46;go_wp2_with fail;go_ret;exact ⟨rfl,0,rfl⟩
   ·simp only [h1,h2,h3,decide_true,decide_false,Bool.and_false,Bool.false_and];go_enter Tryz.func46,Tryz.ntmps46;go_wp2_with fail;go_ret;exact ⟨rfl,0,rfl⟩
  ·simp only [h1,h2,decide_true,decide_false,Bool.and_false,Bool.false_and];go_enter Tryz.func46,Tryz.ntmps46;go_wp2_with fail;go_ret;exact ⟨rfl,0,rfl⟩
 ·simp only [h1,decide_false,Bool.false_and];go_enter Tryz.func46,Tryz.ntmps46;go_wp2_with fail;go_ret;exact ⟨rfl,0,rfl⟩
def oW (w:World) (v:Value) (l:Ln):Prop:=∃ x y z x' y' z',v=.agg #[.int .i64 l.op,.int .i64 l.a,.int .i64 l.b,x,y,z,x',y',z']/\IvR w (.agg #[x,y,z,x',y',z']) l.k
theorem Rws.row {l:List (List RawI)}(h:Rws w v l)(hi:i<l.length):∃ b off c s,v=.slice (some ⟨b,off,none⟩) l.length c/\l.length<=c/\w.cell? ⟨b,off+i,none⟩=some s/\IvS w s (l.getD i []):=by
 obtain ⟨A,c,rfl,hc,hA⟩:=h;obtain ⟨b,off,rfl,hD⟩:=hA (by omega);obtain ⟨s,h1,h2⟩:=hD i _ (Cd hi);refine ⟨b,off,c,s,rfl,hc,h1,?_⟩;rw [Da,Cd hi];exact h2
def im (ov:Iv->Nat->Outc Iv) (S:Int->Prop):Prop:=∀ {w:World} {va vb vc:Value} {a b c:List RawI} {op:Int} {n p:Nat},S op->IvS w va a->IvS w vb b->IvS w vc c->Gd a->Gd b->Gd c->n<a.length->n<b.length->c.length=n ->
 a.length<=1000->b.length<=1000->Tab w->1<=p->p<=300->Calls Tryz.prog 122 #[.agg #[.int .i64 p],.int .i64 op,va,vb,vc,.int .i64 n] w (Cn (Fl ov p op a b c n) w)
theorem nB (O:H8 S)(h6:S 6)(h8:S 8):im ov (λop=>op=8):=by
 intro w va vb vc a b c op n p hop ha hb hc ga gb gc na nb nc la lb hT p1 p2;subst hop;exact qh O h6 h8 ha hb ga gb na nb la lb hT p1 (by omega)
theorem nD (O:H8 S)(h6:S 6)(h8:S 8)(h11:S 11):im ov (λop=>op=11):=by
 intro w va vb vc a b c op n p hop ha hb hc ga gb gc na nb nc la lb hT p1 p2;subst hop;exact qj O h6 h8 h11 ha ga na la hT p1 (by omega)
theorem n7 (O:H8 S)(h7:S 7)(h8:S 8)(h9:S 9):im ov (λop=>op=9):=by
 intro w va vb vc a b c op n p hop ha hb hc ga gb gc na nb nc la lb hT p1 p2;subst hop;exact pW O h7 h8 h9 ha hb hc ga gb gc na nb (by omega) la lb (by omega) hT p1 (by omega)
def OneI (w:World) (v:Value) (r:RawI):Prop:=∃ b x y z x' y' z',v=.slice (some ⟨b,0,none⟩) 1 1/\BlkI w b x y z x' y' z'/\IvR w (.agg #[x,y,z,x',y',z']) r
theorem OneI.kept (h:OneI w v r)(k:Kept w w'):OneI w' v r:=by
 obtain ⟨b,x,y,z,x',y',z',e,h1,h2⟩:=h;exact ⟨b,x,y,z,x',y',z',e,h1.kept k,h2.kept k⟩
theorem Jl {x:Value}(h:IvR w (.agg #[x,y,z,x',y',z']) r):OneI (w.alloc (.cells #[x,y,z,x',y',z'] 30)) (.slice (some ⟨w.heap.size,0,none⟩) 1 1) r :=
 ⟨_,_,_,_,_,_,_,rfl,Ea _ _ _ _ _ _ _,h.kept (Ab _ _)⟩
theorem Zr (w:World)(p:Int)(o a b x y z x' y' z':Value):∃ W,W=(w.alloc (.cells #[.int .i64 p] 81)).alloc (.cells #[o,a,b,x,y,z,x',y',z'] 52) /\
 Kept w W/\W.heap[w.heap.size]?=some (.cells #[.int .i64 p] 81 (0,0))/\W.heap[w.heap.size+1]?=some (.cells #[o,a,b,x,y,z,x',y',z'] 52 (0,0)):=by
 refine ⟨_,rfl,(Ab _ _).trans (Ab _ _),?_,?_⟩
 ·rw [Below.heap_alloc _ _ _ (by simp)];exact heap_alloc_new _ _
 ·have:=heap_alloc_new (w.alloc (.cells #[.int .i64 p] 81)) (.cells #[o,a,b,x,y,z,x',y',z'] 52);simpa using this
theorem cJ (ov:Iv->Nat->Outc Iv)(p:Nat)(op:Int)(a b c:List RawI)(j m:Nat)(h:0<m):Lg ov p op a b c (List.range' j m) =
 if (Fl ov p op a b c j).k=0 then Lg ov p op a b (c++[(Fl ov p op a b c j).v.raw]) (List.range' (j+1) (m-1)) else ⟨[],(Fl ov p op a b c j).k⟩:=by
 obtain ⟨m,rfl⟩:∃ k,m=k+1:=⟨m-1,by omega⟩;rw [List.range'_succ];rfl
theorem mN {l:Ln}{i1 i2:Nat}(N:im ov S)(hS:S l.op)(h6:6<=l.op)(hv:oW w vl l)(hall:Rws w vall all)
 (ha:l.a=(i1:Int)) (hb:l.b=(i2:Int)) (ia:i1<all.length) (ib:i2<all.length) (ga:Gd (all.getD i1 [])) (gb:Gd (all.getD i2 [])) (na:k<(all.getD i1 []).length) (nb:k<(all.getD i2 []).length)
 (la:(all.getD i1 []).length<=1000) (lb:(all.getD i2 []).length<=1000) (ok:∀ c n,Gd c->n<=k->(Fl ov p l.op (all.getD i1 []) (all.getD i2 []) c n).k=0->(Fl ov p l.op (all.getD i1 []) (all.getD i2 []) c n).v.Ok) (hT:Tab w) (p1:1<=p) (p2:p<=300) :
 Calls Tryz.prog 89 #[.agg #[.int .i64 p],vl,vall,vt,vx,vq,.int .i64 k] w (J3 (Lg ov p l.op (all.getD i1 []) (all.getD i2 []) [] (List.range' 0 (k+1))) w):=by
 obtain ⟨bA,oA,cA,sA,rfl,hcA,cellA,rA⟩:=hall.row ia;obtain ⟨bB,oB,cB,sB,eB,-,cellB,rB⟩:=hall.row ib;obtain ⟨rfl,rfl,rfl⟩:bA=bB/\oA=oB/\cA=cB:=by
  injection eB with e1 e2 e3
  injection e1 with e1
  injection e1 with e4 e5
  exact ⟨e4,e5,e3⟩
 clear eB hall;obtain ⟨x,y,z,x',y',z',rfl,hK⟩:=hv;obtain ⟨a,ea⟩:∃ a,a=all.getD i1 []:=⟨_,rfl⟩;obtain ⟨b,eb⟩:∃ b,b=all.getD i2 []:=⟨_,rfl⟩;rw [<-ea] at ga na la rA ok ⊢;rw [<-eb] at gb nb lb rB ok ⊢;obtain ⟨op,eo⟩:∃ op,op=l.op:=⟨_,rfl⟩;rw [<-eo] at hS h6 ok ⊢;rw [ha,hb];have CN:=Ad (λw1 (q:Kept w w1) c n vc (hc:IvS w1 vc c) (gc:Gd c) (hn:n<=k) (hcl:c.length=n)=>N (w:=w1) (n:=n) (p:=p) hS (rA.kept q) (rB.kept q) hc ga gb gc (by omega) (by omega) hcl la lb (hT.kept q) p1 p2);have OK:=Ad ok;have t1:(op==1)=false:=by rw [Ek];omega
 have t2:(op==2)=false:=by rw [Ek];omega
 have t3:(op==3)=false:=by rw [Ek];omega
 have t5:(op==5)=false:=by rw [Ek];omega
 obtain ⟨W,hW,kW,bW,bL⟩:=Zr w p (.int .i64 op) (.int .i64 i1) (.int .i64 i2) x y z x' y' z';have CA:=Ad cellA;have CB:=Ad cellB;have HW:=Ad hW;have K:=Ad kW;have HP:=Ad bW;have HLN:=Ad bL;have RA:=Ad rA;have RB:=Ad rB;have c0:=Ae bL 0 _ rfl;obtain ⟨r,er⟩:∃ r,r=Lg ov p op a b [] (List.range' 0 (k+1)):=⟨_,rfl⟩;have ER:=Ad er;rw [<-er];generalize hl2:all.length=m at *;have hk9:k<1000:=by omega
 clear hW kW bW bL cellA cellB rA rB ga gb na nb la lb hS N hT p1 p2 ok h6 hK er ha hb hl2 ea eb eo hcA;go_enter Tryz.func89,Tryz.ntmps89;go_wp2_with fail;rw [<-HW.o];clear HW;go_step3;go_upto_region 11 with fail;go_step3;go_wp2_with fail
 go_loopw [15,17] (λvc t wr=>∃ (j:Nat) (c:List RawI) (xs:List Value),t=.int .i64 (j:Int)/\j<=k+1/\c.length=j/\Gd c/\Lg ov p op a b c (List.range' j (k+1-j))=r/\OwnI wr W.heap.size vc c xs/\Kept W wr) (λ_ t _=>(k+1-intOf t).toNat)
 case atStart=>exact ⟨0,[],[],rfl,Nat.zero_le _,rfl,(by intro a ha;cases ha),ER.o.symm,OwnI.nil _ _,Below.refl _ _⟩
 case round =>
  obtain ⟨j,c,xs,rfl,hj,hcl,gc,hco,hown,hkr⟩:=hrel;have HCL:=Ad hcl;have GC:=Ad gc;have HCO:=Ad hco;have OWN:=Ad hown;have KR:=Ad hkr;clear hcl gc hco hown hkr;by_cases hjk:j<=k
  ·obtain ⟨o,ho⟩:∃ o,o=Fl ov p op a b c j:=⟨_,rfl⟩;have hsn:=cJ ov p op a b c j (k+1-j) (by omega);rw [HCO.out,←ho] at hsn;have hbad:o.k≠0→r=⟨[],o.k⟩:=fun h=>by rw [hsn,Af h]
   have hgo:o.k=0->Lg ov p op a b (c++[o.v.raw]) (List.range' (j+1) (k+1-(j+1)))=r:=λh=>by rw [hsn,Ak h,show k+1-(j+1)=k+1-j-1 by omega]
   have HNX:=Ad (λw1 (q:Kept wr w1)=>ho▸CN.o w1 ((K.o.trans KR.o).trans q) c j _ (OWN.o.ivS.kept q) GC.o hjk HCL.o);have OKV:=Ad (λ(h:o.k=0)=>show o.v.Ok by rw [ho] at h ⊢;exact OK.o c j GC.o hjk h);have BAD:=Ad (λ(w1:World) (q:Kept w w1) (h:o.k≠0)=>show J3 r w (.panicked (By 106 o.k)) w1 by rw [hbad h];exact ⟨q,.inr ⟨h,rfl⟩⟩);have GO:=Ad hgo;have HPw:=Ad ((KR.o.block _ (Bi HP.o).1).trans HP.o);have HLw:=Ad ((KR.o.block _ (Bi HLN.o).1).trans HLN.o);have CAw:=Ad (λw1 (q:Kept wr w1)=>(((K.o.trans KR.o).trans q).cell (p:=⟨bA,oA+i1,none⟩) (Av CA.o)).trans CA.o)
   have CBw:=Ad (λw1 (q:Kept wr w1)=>(((K.o.trans KR.o).trans q).cell (p:=⟨bA,oA+i2,none⟩) (Av CB.o)).trans CB.o);have enil:=λ(w:World)=>Go.run_neq_slice_nil_any (P:=Tryz.prog) w 31 30 none 0 0 0 0 Tryz.underlying31
   clear ho hsn hbad hgo;go_wp2_with fail;clear enil
   refine Qp 18 ([(vE u15),(vE (.agg #[.int .i64 (p:Int)])),(vP (w.heap.size+1) 0),(vE (.int .i64 op)),(vE (.slice (some ⟨bA,oA,none⟩) m cA)),(vP (w.heap.size+1) 1),(vE (.int .i64 (i1:Int))),(vE (.pointer (some ⟨bA,oA+i1,none⟩))),(vE sA),(vE (.slice (some ⟨bA,oA,none⟩) m cA)),(vP (w.heap.size+1) 2),(vE (.int .i64 (i2:Int))),(vE (.pointer (some ⟨bA,oA+i2,none⟩))),(vE sB),(vE u15),(vE (.int .i64 (j:Int))),(λv wv=>o.k=0/\IvR wv v o.v.raw),(λv wv=>OneI wv v o.v.raw)])
    (hM:=⟨⟨mE,mE,mE,mE,mE,mE,mE,mE,mE,mE,mE,mE,mE,mE,mE,mE,λv w w' k h=>⟨h.1,h.2.kept k⟩,λv w w' k h=>h.kept k,trivial⟩⟩) ⟨
      (gq 15),(E3 7 λ_ k=>Ai HPw.o k 0 _ rfl),(gq 8),(Ie 2 66 λ_ k=>Ai HLw.o k 0 _ rfl),(gq 2),(gq 8),(Ie 5 69 λ_ k=>Ai HLw.o k 1 _ rfl),(Hz 4 68 6 70),(λaF wF F=>by have s71:=F.v 7 71;exact sw (by have hq:=CAw.o _ F.kept;go_simp) rfl),(gq 2),(gq 8),(Ie 10 74 λ_ k=>Ai HLw.o k 2 _ rfl),(Hz 9 73 11 75),(λaF wF F=>by have s76:=F.v 12 76;exact sw (by have hq:=CBw.o _ F.kept;go_simp) rfl),(gq 15),(gq 17),(λaF wF F=>by have s65:=F.v 1 65;have s67:=F.v 3 67;have s72:=F.v 8 72;have s77:=F.v 13 77;have s78:=F.v 14 78;have s79:=F.v 15 79;exact sJ (HNX.o _ F.kept) (λ_ _ _ h0 h=>⟨h0,h⟩) (λw2 k2 h0=>⟨F.defers,BAD.o _ ((K.o.trans KR.o).trans (F.kept.trans k2)) h0⟩)),(λaF wF F=>by have s80:=F.p 16 80;obtain ⟨A1,l1,d1,A2,l2,d2,e9,h9,g9⟩:=Ar s80.2;simp only [Cv] at e9;exact Zm (Jl (r:=o.v.raw) ⟨_,_,_,_,_,_,rfl,h9,g9⟩)),
      trivial⟩ ?_
   intro u w1 k1 hu;have p80:=hp hu 16;have p81:=hp hu 17;simp only [Bb,Ap,Act.put,Ep,hv hu 0,hv hu 1,hv hu 2,hv hu 3,hv hu 4,hv hu 5,hv hu 6,hv hu 7,hv hu 8,hv hu 9,hv hu 10,hv hu 11,hv hu 12,hv hu 13,hv hu 14,hv hu 15];clear hu;generalize u 16=v80,u 17=v81 at *;obtain ⟨h0,-⟩:=p80;obtain ⟨b1,x0,x1,x2,x3,x4,x5,e81,hb1,hI⟩:=p81;subst e81;have own1:=OWN.o.kept k1;have hcl9:c.length<=1000:=by have:=HCL.o;omega
   have hW9:W.heap.size<=w1.heap.size:=(KR.o.trans k1).size;refine ⟨?_,.inl (by kernel_rfl)⟩;refine Im (.tmp 64) (.tmp 81) ?ho (v:=u15) ?hs own1 hI hb1 ?hx hcl9 hW9 ?h
   case ho=>rfl
   case hs=>first | rfl | (go_simp;done)
   case hx=>first | rfl | (go_simp;done)
   intro v' X OX gX;have KX:=Ad (OwnI.grown_kept own1 (KR.o.trans k1) gX);have OXX:=Ad OX;have H0:=Ad h0;clear own1 hI hb1 OX gX k1 h0 hW9;go_simp;go_wp2_with fail;go_roundw
   case rel =>
    refine ⟨j+1,c++[o.v.raw],_,by go_num,by omega,by simp [HCL.o],?_,GO.o H0.o,OXX.o,KX.o⟩;intro y hy;rcases List.mem_append.1 hy with hy | hy
    ·exact GC.o y hy
    ·simp only [List.mem_singleton] at hy;subst hy;have:=OKV.o H0.o;rw [Iv.raw_iv];exact ⟨this,rfl⟩
   case measure=>simp [intOf];omega
  ·obtain rfl:j=k+1:=by omega
   have hr:r=⟨c,0⟩:=by
    have:=HCO.o;rw [show k+1-(k+1)=0 by omega] at this;exact this.symm
   have FI:=Ad (show J3 r w (.returned u15) wr by
    rw [hr];exact ⟨K.o.trans KR.o,.inl ⟨rfl,_,rfl,OWN.o.ivS,λg hg=>Bp K.o.size (OWN.o.base g hg)⟩⟩)
   clear hr;go_wp2_with fail;go_ret;exact FI.o
theorem Ko (p:Nat)(g c:List RawI)(j m:Nat)(h:0<m):Dp p g c (List.range' j m) =
 if (Bk (gI g j) p).k=0 then Dp p g (c++[(Bk (gI g j) p).v.raw]) (List.range' (j+1) (m-1)) else ⟨[],(Bk (gI g j) p).k⟩:=by
 obtain ⟨m,rfl⟩:∃ k,m=k+1:=⟨m-1,by omega⟩;rw [List.range'_succ];rfl
theorem mP {l:Ln}(hop:l.op=2)(hv:oW w vl l)(hg:IvS w vt g)(gg:Gd g)(na:k<g.length)(la:g.length<=1000)(hT:Tab w)(p1:1<=p)(p2:p<=300) :
 Calls Tryz.prog 89 #[.agg #[.int .i64 p],vl,vall,vt,vx,vq,.int .i64 k] w (J3 (Dp p g [] (List.range' 0 (k+1))) w):=by
 obtain ⟨bG,oG,cG,rfl,-,hRG⟩:=hg.place gg (by omega);have RG:=Ad (λw1 (q:Kept w w1) j (hj:j<=k)=>hRG w1 q j (by omega));clear hRG hg;obtain ⟨x,y,z,x',y',z',rfl,hK⟩:=hv;rw [hop];have CR:=Ad (λw1 (q:Kept w w1) n v (hn:n<=k) (hv:IvR w1 v (gI g n).raw)=>Hd (p:=p) hv (Eu gg (by omega)).1 (hT.kept q) p1 (by omega));obtain ⟨W,hW,kW,bW,bL⟩:=Zr w p (.int .i64 2) (.int .i64 l.a) (.int .i64 l.b) x y z x' y' z';have HW:=Ad hW;have K:=Ad kW;have HP:=Ad bW;have HLN:=Ad bL;have c0:=Ae bL 0 _ rfl;obtain ⟨r,er⟩:∃ r,r=Dp p g [] (List.range' 0 (k+1)):=⟨_,rfl⟩;have ER:=Ad er;rw [<-er]
 generalize l.a=la',l.b=lb' at *;have hk9:k<1000:=by omega
 clear hW kW bW bL gg hT p1 p2 hK er hop;go_enter Tryz.func89,Tryz.ntmps89;go_wp2_with fail;rw [<-HW.o];clear HW;go_step3;go_upto_region 11 with fail;go_step3;go_wp2_with fail
 go_loopw [15,17] (λvc t wr=>∃ (j:Nat) (c:List RawI) (xs:List Value),t=.int .i64 (j:Int)/\j<=k+1/\c.length=j/\Dp p g c (List.range' j (k+1-j))=r/\OwnI wr W.heap.size vc c xs/\Kept W wr) (λ_ t _=>(k+1-intOf t).toNat)
 case atStart=>exact ⟨0,[],[],rfl,Nat.zero_le _,rfl,ER.o.symm,OwnI.nil _ _,Below.refl _ _⟩
 case round =>
  obtain ⟨j,c,xs,rfl,hj,hcl,hco,hown,hkr⟩:=hrel;have HCL:=Ad hcl;have HCO:=Ad hco;have OWN:=Ad hown;have KR:=Ad hkr;clear hcl hco hown hkr;by_cases hjk:j<=k
  ·obtain ⟨o,ho⟩:∃ o,o=Bk (gI g j) p:=⟨_,rfl⟩;have hsn:=Ko p g c j (k+1-j) (by omega);rw [HCO.out,←ho] at hsn;have hbad:o.k≠0→r=⟨[],o.k⟩:=fun h=>by rw [hsn,Af h]
   have hgo:o.k=0->Dp p g (c++[o.v.raw]) (List.range' (j+1) (k+1-(j+1)))=r:=λh=>by rw [hsn,Ak h,show k+1-(j+1)=k+1-j-1 by omega]
   have HNX:=Ad (λw1 (q:Kept wr w1) v (hv:IvR w1 v (gI g j).raw)=>ho▸CR.o w1 ((K.o.trans KR.o).trans q) j v hjk hv);have BAD:=Ad (λ(w1:World) (q:Kept w w1) (h:o.k≠0)=>show J3 r w (.panicked (By 106 o.k)) w1 by rw [hbad h];exact ⟨q,.inr ⟨h,rfl⟩⟩);have GO:=Ad hgo;have HPw:=Ad ((KR.o.block _ (Bi HP.o).1).trans HP.o);have enil:=λ(w:World)=>Go.run_neq_slice_nil_any (P:=Tryz.prog) w 31 30 (some ⟨bG,oG,none⟩) g.length cG 0 0 Tryz.underlying31
   have hro:(Bn o).k=o.k:=rfl;have hjg:j<g.length:=by omega
   clear ho hsn hbad hgo;go_wp2_with fail;clear enil
   refine Qp 12 ([(vE u15),(vE (.slice (some ⟨bG,oG,none⟩) g.length cG)),(vE (.int .i64 (j:Int))),(vE (.pointer (some ⟨bG,oG+j*6,none⟩))),(λv wv=>IvR wv v ((gI g j).raw)),(vP w.heap.size 0),(vE (.int .i64 (p:Int))),(λv wv=>∃ d,v=.tuple #[d,.int .i64 (Bn o).k]/\IvR wv d (Bn o).v),(λv wv=>IvR wv v (Bn o).v),(vE (.int .i64 (Bn o).k)),(λv wv=>o.k=0/\IvR wv v o.v.raw),(λv wv=>OneI wv v o.v.raw)])
    (hM:=⟨⟨mE,mE,mE,mE,λv w w' k h=>by first | exact h | exact h.kept k | exact ⟨h.1,h.2.kept k⟩,mE,mE,λv w w' k h=>by obtain ⟨d,h1,h2⟩:=h;exact ⟨d,h1,h2.kept k⟩,λv w w' k h=>by first | exact h | exact h.kept k | exact ⟨h.1,h.2.kept k⟩,mE,λv w w' k h=>⟨h.1,h.2.kept k⟩,λv w w' k h=>h.kept k,trivial⟩⟩) ⟨
      (gq 15),(gq 16),(gq 17),(Hz 1 52 2 53),(λaF wF F=>by have s54:=F.v 3 54;obtain ⟨xx,yy,zz,xx',yy',zz',h0,h1,h2,h3,h4,h5,hI⟩:=(RG.o _ ((K.o.trans KR.o).trans F.kept) j (by omega));exact sv hI),(gq 7),(Ie 5 56 λ_ k=>Ai HPw.o k 0 _ rfl),(λaF wF F=>by have s55:=F.p 4 55;have s57:=F.v 6 57;exact sP (HNX.o _ F.kept _ s55) λ_ _ h=>h),(λaF wF F=>by have s58:=F.p 7 58;obtain ⟨dd,ee,hh⟩:=s58;exact sv hh),(λaF wF F=>by have s58:=F.p 7 58;exact sw (by obtain ⟨dd,ee,hh⟩:=s58;go_simp) rfl),(λaF wF F=>by have s59:=F.p 8 59;have s60:=F.v 9 60;exact sJ (G0 (o:=o) s59) (λ_ _ _ h0 h=>⟨h0,h⟩) (λw2 k2 h0=>⟨F.defers,BAD.o _ ((K.o.trans KR.o).trans (F.kept.trans k2)) h0⟩)),(λaF wF F=>by have s61:=F.p 10 61;obtain ⟨A1,l1,d1,A2,l2,d2,e9,h9,g9⟩:=Ar s61.2;simp only [Cv] at e9;exact Zm (Jl (r:=o.v.raw) ⟨_,_,_,_,_,_,rfl,h9,g9⟩)),
      trivial⟩ ?_
   intro u w1 k1 hu;have p55:=hp hu 4;have p58:=hp hu 7;have p59:=hp hu 8;have p61:=hp hu 10;have p62:=hp hu 11;simp only [Bb,Ap,Act.put,Ep,hv hu 0,hv hu 1,hv hu 2,hv hu 3,hv hu 5,hv hu 6,hv hu 9];clear hu;generalize u 4=v55,u 7=v58,u 8=v59,u 10=v61,u 11=v62 at *;obtain ⟨h0,-⟩:=p61;obtain ⟨b1,x0,x1,x2,x3,x4,x5,e81,hb1,hI⟩:=p62;subst e81;have own1:=OWN.o.kept k1;have hcl9:c.length<=1000:=by have:=HCL.o;omega
   have hW9:W.heap.size<=w1.heap.size:=(KR.o.trans k1).size;refine ⟨?_,.inl (by kernel_rfl)⟩;refine Im (.tmp 51) (.tmp 62) ?ho (v:=u15) ?hs own1 hI hb1 ?hx hcl9 hW9 ?h
   case ho=>rfl
   case hs=>first | rfl | (go_simp;done)
   case hx=>first | rfl | (go_simp;done)
   intro v' X OX gX;have KX:=Ad (OwnI.grown_kept own1 (KR.o.trans k1) gX);have OXX:=Ad OX;have H0:=Ad h0;clear own1 hI hb1 OX gX k1 h0 hW9 p55 p58 p59;go_simp;go_wp2_with fail;go_roundw
   case rel=>exact ⟨j+1,c++[o.v.raw],_,by go_num,by omega,by simp [HCL.o],GO.o H0.o,OXX.o,KX.o⟩
   case measure=>simp [intOf];omega
  ·obtain rfl:j=k+1:=by omega
   have hr:r=⟨c,0⟩:=by
    have:=HCO.o;rw [show k+1-(k+1)=0 by omega] at this;exact this.symm
   have FI:=Ad (show J3 r w (.returned u15) wr by
    rw [hr];exact ⟨K.o.trans KR.o,.inl ⟨rfl,_,rfl,OWN.o.ivS,λg hg=>Bp K.o.size (OWN.o.base g hg)⟩⟩)
   clear hr;go_wp2_with fail;go_ret;exact FI.o
theorem mQ {l:Ln}(hop:l.op=3)(hv:oW w vl l)(hrs:Rws w vx rs)(hi:i<rs.length)(hla:l.a=(i:Int))(hge:rs.getD i []=g)(gg:Gd g)(na:k<g.length)(la:g.length<=1000)(hT:Tab w)(p1:1<=p)(p2:p<=300) :
 Calls Tryz.prog 89 #[.agg #[.int .i64 p],vl,vall,vt,vx,vq,.int .i64 k] w (J3 (Dp p g [] (List.range' 0 (k+1))) w):=by
 obtain ⟨bX,oX,cX,sX,rfl,-,cellX,hg⟩:=hrs.row hi;rw [hge] at hg;obtain ⟨bG,oG,cG,rfl,-,hRG⟩:=hg.place gg (by omega);have RG:=Ad (λw1 (q:Kept w w1) j (hj:j<=k)=>hRG w1 q j (by omega));clear hRG hg hrs hge;obtain ⟨x,y,z,x',y',z',rfl,hK⟩:=hv;rw [hop];have CR:=Ad (λw1 (q:Kept w w1) n v (hn:n<=k) (hv:IvR w1 v (gI g n).raw)=>Hd (p:=p) hv (Eu gg (by omega)).1 (hT.kept q) p1 (by omega));obtain ⟨W,hW,kW,bW,bL⟩:=Zr w p (.int .i64 3) (.int .i64 l.a) (.int .i64 l.b) x y z x' y' z';have HW:=Ad hW;have K:=Ad kW;have HP:=Ad bW;have HLN:=Ad bL;have c0:=Ae bL 0 _ rfl;have c1:=Ae bL 1 _ rfl
 have cX1:=(kW.cell (p:=⟨bX,oX+i,none⟩) (Av cellX)).trans cellX;rw [hla] at bL c0 c1 HLN HW ⊢;clear cellX;generalize rs.length=mX at *;obtain ⟨r,er⟩:∃ r,r=Dp p g [] (List.range' 0 (k+1)):=⟨_,rfl⟩;have ER:=Ad er;rw [<-er];generalize l.a=la',l.b=lb' at *;have hk9:k<1000:=by omega
 clear hW kW bW bL gg hT p1 p2 hK er hop;go_enter Tryz.func89,Tryz.ntmps89;go_wp2_with fail;rw [<-HW.o];clear HW;go_step3;go_upto_region 11 with fail;go_step3;go_wp2_with fail
 go_loopw [15,17] (λvc t wr=>∃ (j:Nat) (c:List RawI) (xs:List Value),t=.int .i64 (j:Int)/\j<=k+1/\c.length=j/\Dp p g c (List.range' j (k+1-j))=r/\OwnI wr W.heap.size vc c xs/\Kept W wr) (λ_ t _=>(k+1-intOf t).toNat)
 case atStart=>exact ⟨0,[],[],rfl,Nat.zero_le _,rfl,ER.o.symm,OwnI.nil _ _,Below.refl _ _⟩
 case round =>
  obtain ⟨j,c,xs,rfl,hj,hcl,hco,hown,hkr⟩:=hrel;have HCL:=Ad hcl;have HCO:=Ad hco;have OWN:=Ad hown;have KR:=Ad hkr;clear hcl hco hown hkr;by_cases hjk:j<=k
  ·obtain ⟨o,ho⟩:∃ o,o=Bk (gI g j) p:=⟨_,rfl⟩;have hsn:=Ko p g c j (k+1-j) (by omega);rw [HCO.out,←ho] at hsn;have hbad:o.k≠0→r=⟨[],o.k⟩:=fun h=>by rw [hsn,Af h]
   have hgo:o.k=0->Dp p g (c++[o.v.raw]) (List.range' (j+1) (k+1-(j+1)))=r:=λh=>by rw [hsn,Ak h,show k+1-(j+1)=k+1-j-1 by omega]
   have HNX:=Ad (λw1 (q:Kept wr w1) v (hv:IvR w1 v (gI g j).raw)=>ho▸CR.o w1 ((K.o.trans KR.o).trans q) j v hjk hv);have BAD:=Ad (λ(w1:World) (q:Kept w w1) (h:o.k≠0)=>show J3 r w (.panicked (By 106 o.k)) w1 by rw [hbad h];exact ⟨q,.inr ⟨h,rfl⟩⟩);have GO:=Ad hgo;have HPw:=Ad ((KR.o.block _ (Bi HP.o).1).trans HP.o);have enil:=λ(w:World)=>Go.run_neq_slice_nil_any (P:=Tryz.prog) w 31 30 (some ⟨bG,oG,none⟩) g.length cG 0 0 Tryz.underlying31
   have hro:(Bn o).k=o.k:=rfl;have hjg:j<g.length:=by omega
   clear ho hsn hbad hgo;go_wp2_with fail;clear enil
   refine Qp 12 ([(vE u15),(vE (.slice (some ⟨bG,oG,none⟩) g.length cG)),(vE (.int .i64 (j:Int))),(vE (.pointer (some ⟨bG,oG+j*6,none⟩))),(λv wv=>IvR wv v ((gI g j).raw)),(vP w.heap.size 0),(vE (.int .i64 (p:Int))),(λv wv=>∃ d,v=.tuple #[d,.int .i64 (Bn o).k]/\IvR wv d (Bn o).v),(λv wv=>IvR wv v (Bn o).v),(vE (.int .i64 (Bn o).k)),(λv wv=>o.k=0/\IvR wv v o.v.raw),(λv wv=>OneI wv v o.v.raw)])
    (hM:=⟨⟨mE,mE,mE,mE,λv w w' k h=>by first | exact h | exact h.kept k | exact ⟨h.1,h.2.kept k⟩,mE,mE,λv w w' k h=>by obtain ⟨d,h1,h2⟩:=h;exact ⟨d,h1,h2.kept k⟩,λv w w' k h=>by first | exact h | exact h.kept k | exact ⟨h.1,h.2.kept k⟩,mE,λv w w' k h=>⟨h.1,h.2.kept k⟩,λv w w' k h=>h.kept k,trivial⟩⟩) ⟨
      (gq 15),(gq 16),(gq 17),(Hz 1 52 2 53),(λaF wF F=>by have s54:=F.v 3 54;obtain ⟨xx,yy,zz,xx',yy',zz',h0,h1,h2,h3,h4,h5,hI⟩:=(RG.o _ ((K.o.trans KR.o).trans F.kept) j (by omega));exact sv hI),(gq 7),(Ie 5 56 λ_ k=>Ai HPw.o k 0 _ rfl),(λaF wF F=>by have s55:=F.p 4 55;have s57:=F.v 6 57;exact sP (HNX.o _ F.kept _ s55) λ_ _ h=>h),(λaF wF F=>by have s58:=F.p 7 58;obtain ⟨dd,ee,hh⟩:=s58;exact sv hh),(λaF wF F=>by have s58:=F.p 7 58;exact sw (by obtain ⟨dd,ee,hh⟩:=s58;go_simp) rfl),(λaF wF F=>by have s59:=F.p 8 59;have s60:=F.v 9 60;exact sJ (G0 (o:=o) s59) (λ_ _ _ h0 h=>⟨h0,h⟩) (λw2 k2 h0=>⟨F.defers,BAD.o _ ((K.o.trans KR.o).trans (F.kept.trans k2)) h0⟩)),(λaF wF F=>by have s61:=F.p 10 61;obtain ⟨A1,l1,d1,A2,l2,d2,e9,h9,g9⟩:=Ar s61.2;simp only [Cv] at e9;exact Zm (Jl (r:=o.v.raw) ⟨_,_,_,_,_,_,rfl,h9,g9⟩)),
      trivial⟩ ?_
   intro u w1 k1 hu;have p55:=hp hu 4;have p58:=hp hu 7;have p59:=hp hu 8;have p61:=hp hu 10;have p62:=hp hu 11;simp only [Bb,Ap,Act.put,Ep,hv hu 0,hv hu 1,hv hu 2,hv hu 3,hv hu 5,hv hu 6,hv hu 9];clear hu;generalize u 4=v55,u 7=v58,u 8=v59,u 10=v61,u 11=v62 at *;obtain ⟨h0,-⟩:=p61;obtain ⟨b1,x0,x1,x2,x3,x4,x5,e81,hb1,hI⟩:=p62;subst e81;have own1:=OWN.o.kept k1;have hcl9:c.length<=1000:=by have:=HCL.o;omega
   have hW9:W.heap.size<=w1.heap.size:=(KR.o.trans k1).size;refine ⟨?_,.inl (by kernel_rfl)⟩;refine Im (.tmp 51) (.tmp 62) ?ho (v:=u15) ?hs own1 hI hb1 ?hx hcl9 hW9 ?h
   case ho=>rfl
   case hs=>first | rfl | (go_simp;done)
   case hx=>first | rfl | (go_simp;done)
   intro v' X OX gX;have KX:=Ad (OwnI.grown_kept own1 (KR.o.trans k1) gX);have OXX:=Ad OX;have H0:=Ad h0;clear own1 hI hb1 OX gX k1 h0 hW9 p55 p58 p59;go_simp;go_wp2_with fail;go_roundw
   case rel=>exact ⟨j+1,c++[o.v.raw],_,by go_num,by omega,by simp [HCL.o],GO.o H0.o,OXX.o,KX.o⟩
   case measure=>simp [intOf];omega
  ·obtain rfl:j=k+1:=by omega
   have hr:r=⟨c,0⟩:=by
    have:=HCO.o;rw [show k+1-(k+1)=0 by omega] at this;exact this.symm
   have FI:=Ad (show J3 r w (.returned u15) wr by
    rw [hr];exact ⟨K.o.trans KR.o,.inl ⟨rfl,_,rfl,OWN.o.ivS,λg hg=>Bp K.o.size (OWN.o.base g hg)⟩⟩)
   clear hr;go_wp2_with fail;go_ret;exact FI.o
theorem mO {l:Ln}(hop:l.op=5)(hv:oW w vl l)(hrs:Rws w vq rs)(hi:i<rs.length)(hla:l.a=(i:Int))(hge:rs.getD i []=g)(gg:Gd g)(na:k<g.length)(la:g.length<=1000)(hT:Tab w)(p1:1<=p)(p2:p<=300) :
 Calls Tryz.prog 89 #[.agg #[.int .i64 p],vl,vall,vt,vx,vq,.int .i64 k] w (J3 (Dp p g [] (List.range' 0 (k+1))) w):=by
 obtain ⟨bX,oX,cX,sX,rfl,-,cellX,hg⟩:=hrs.row hi;rw [hge] at hg;obtain ⟨bG,oG,cG,rfl,-,hRG⟩:=hg.place gg (by omega);have RG:=Ad (λw1 (q:Kept w w1) j (hj:j<=k)=>hRG w1 q j (by omega));clear hRG hg hrs hge;obtain ⟨x,y,z,x',y',z',rfl,hK⟩:=hv;rw [hop];have CR:=Ad (λw1 (q:Kept w w1) n v (hn:n<=k) (hv:IvR w1 v (gI g n).raw)=>Hd (p:=p) hv (Eu gg (by omega)).1 (hT.kept q) p1 (by omega));obtain ⟨W,hW,kW,bW,bL⟩:=Zr w p (.int .i64 5) (.int .i64 l.a) (.int .i64 l.b) x y z x' y' z';have HW:=Ad hW;have K:=Ad kW;have HP:=Ad bW;have HLN:=Ad bL;have c0:=Ae bL 0 _ rfl;have c1:=Ae bL 1 _ rfl
 have cX1:=(kW.cell (p:=⟨bX,oX+i,none⟩) (Av cellX)).trans cellX;rw [hla] at bL c0 c1 HLN HW ⊢;clear cellX;generalize rs.length=mX at *;obtain ⟨r,er⟩:∃ r,r=Dp p g [] (List.range' 0 (k+1)):=⟨_,rfl⟩;have ER:=Ad er;rw [<-er];generalize l.a=la',l.b=lb' at *;have hk9:k<1000:=by omega
 clear hW kW bW bL gg hT p1 p2 hK er hop;go_enter Tryz.func89,Tryz.ntmps89;go_wp2_with fail;rw [<-HW.o];clear HW;go_step3;go_upto_region 11 with fail;go_step3;go_wp2_with fail
 go_loopw [15,17] (λvc t wr=>∃ (j:Nat) (c:List RawI) (xs:List Value),t=.int .i64 (j:Int)/\j<=k+1/\c.length=j/\Dp p g c (List.range' j (k+1-j))=r/\OwnI wr W.heap.size vc c xs/\Kept W wr) (λ_ t _=>(k+1-intOf t).toNat)
 case atStart=>exact ⟨0,[],[],rfl,Nat.zero_le _,rfl,ER.o.symm,OwnI.nil _ _,Below.refl _ _⟩
 case round =>
  obtain ⟨j,c,xs,rfl,hj,hcl,hco,hown,hkr⟩:=hrel;have HCL:=Ad hcl;have HCO:=Ad hco;have OWN:=Ad hown;have KR:=Ad hkr;clear hcl hco hown hkr;by_cases hjk:j<=k
  ·obtain ⟨o,ho⟩:∃ o,o=Bk (gI g j) p:=⟨_,rfl⟩;have hsn:=Ko p g c j (k+1-j) (by omega);rw [HCO.out,←ho] at hsn;have hbad:o.k≠0→r=⟨[],o.k⟩:=fun h=>by rw [hsn,Af h]
   have hgo:o.k=0->Dp p g (c++[o.v.raw]) (List.range' (j+1) (k+1-(j+1)))=r:=λh=>by rw [hsn,Ak h,show k+1-(j+1)=k+1-j-1 by omega]
   have HNX:=Ad (λw1 (q:Kept wr w1) v (hv:IvR w1 v (gI g j).raw)=>ho▸CR.o w1 ((K.o.trans KR.o).trans q) j v hjk hv);have BAD:=Ad (λ(w1:World) (q:Kept w w1) (h:o.k≠0)=>show J3 r w (.panicked (By 106 o.k)) w1 by rw [hbad h];exact ⟨q,.inr ⟨h,rfl⟩⟩);have GO:=Ad hgo;have HPw:=Ad ((KR.o.block _ (Bi HP.o).1).trans HP.o);have enil:=λ(w:World)=>Go.run_neq_slice_nil_any (P:=Tryz.prog) w 31 30 (some ⟨bG,oG,none⟩) g.length cG 0 0 Tryz.underlying31
   have hro:(Bn o).k=o.k:=rfl;have hjg:j<g.length:=by omega
   clear ho hsn hbad hgo;go_wp2_with fail;clear enil
   refine Qp 12 ([(vE u15),(vE (.slice (some ⟨bG,oG,none⟩) g.length cG)),(vE (.int .i64 (j:Int))),(vE (.pointer (some ⟨bG,oG+j*6,none⟩))),(λv wv=>IvR wv v ((gI g j).raw)),(vP w.heap.size 0),(vE (.int .i64 (p:Int))),(λv wv=>∃ d,v=.tuple #[d,.int .i64 (Bn o).k]/\IvR wv d (Bn o).v),(λv wv=>IvR wv v (Bn o).v),(vE (.int .i64 (Bn o).k)),(λv wv=>o.k=0/\IvR wv v o.v.raw),(λv wv=>OneI wv v o.v.raw)])
    (hM:=⟨⟨mE,mE,mE,mE,λv w w' k h=>by first | exact h | exact h.kept k | exact ⟨h.1,h.2.kept k⟩,mE,mE,λv w w' k h=>by obtain ⟨d,h1,h2⟩:=h;exact ⟨d,h1,h2.kept k⟩,λv w w' k h=>by first | exact h | exact h.kept k | exact ⟨h.1,h.2.kept k⟩,mE,λv w w' k h=>⟨h.1,h.2.kept k⟩,λv w w' k h=>h.kept k,trivial⟩⟩) ⟨
      (gq 15),(gq 16),(gq 17),(Hz 1 52 2 53),(λaF wF F=>by have s54:=F.v 3 54;obtain ⟨xx,yy,zz,xx',yy',zz',h0,h1,h2,h3,h4,h5,hI⟩:=(RG.o _ ((K.o.trans KR.o).trans F.kept) j (by omega));exact sv hI),(gq 7),(Ie 5 56 λ_ k=>Ai HPw.o k 0 _ rfl),(λaF wF F=>by have s55:=F.p 4 55;have s57:=F.v 6 57;exact sP (HNX.o _ F.kept _ s55) λ_ _ h=>h),(λaF wF F=>by have s58:=F.p 7 58;obtain ⟨dd,ee,hh⟩:=s58;exact sv hh),(λaF wF F=>by have s58:=F.p 7 58;exact sw (by obtain ⟨dd,ee,hh⟩:=s58;go_simp) rfl),(λaF wF F=>by have s59:=F.p 8 59;have s60:=F.v 9 60;exact sJ (G0 (o:=o) s59) (λ_ _ _ h0 h=>⟨h0,h⟩) (λw2 k2 h0=>⟨F.defers,BAD.o _ ((K.o.trans KR.o).trans (F.kept.trans k2)) h0⟩)),(λaF wF F=>by have s61:=F.p 10 61;obtain ⟨A1,l1,d1,A2,l2,d2,e9,h9,g9⟩:=Ar s61.2;simp only [Cv] at e9;exact Zm (Jl (r:=o.v.raw) ⟨_,_,_,_,_,_,rfl,h9,g9⟩)),
      trivial⟩ ?_
   intro u w1 k1 hu;have p55:=hp hu 4;have p58:=hp hu 7;have p59:=hp hu 8;have p61:=hp hu 10;have p62:=hp hu 11;simp only [Bb,Ap,Act.put,Ep,hv hu 0,hv hu 1,hv hu 2,hv hu 3,hv hu 5,hv hu 6,hv hu 9];clear hu;generalize u 4=v55,u 7=v58,u 8=v59,u 10=v61,u 11=v62 at *;obtain ⟨h0,-⟩:=p61;obtain ⟨b1,x0,x1,x2,x3,x4,x5,e81,hb1,hI⟩:=p62;subst e81;have own1:=OWN.o.kept k1;have hcl9:c.length<=1000:=by have:=HCL.o;omega
   have hW9:W.heap.size<=w1.heap.size:=(KR.o.trans k1).size;refine ⟨?_,.inl (by kernel_rfl)⟩;refine Im (.tmp 51) (.tmp 62) ?ho (v:=u15) ?hs own1 hI hb1 ?hx hcl9 hW9 ?h
   case ho=>rfl
   case hs=>first | rfl | (go_simp;done)
   case hx=>first | rfl | (go_simp;done)
   intro v' X OX gX;have KX:=Ad (OwnI.grown_kept own1 (KR.o.trans k1) gX);have OXX:=Ad OX;have H0:=Ad h0;clear own1 hI hb1 OX gX k1 h0 hW9 p55 p58 p59;go_simp;go_wp2_with fail;go_roundw
   case rel=>exact ⟨j+1,c++[o.v.raw],_,by go_num,by omega,by simp [HCL.o],GO.o H0.o,OXX.o,KX.o⟩
   case measure=>simp [intOf];omega
  ·obtain rfl:j=k+1:=by omega
   have hr:r=⟨c,0⟩:=by
    have:=HCO.o;rw [show k+1-(k+1)=0 by omega] at this;exact this.symm
   have FI:=Ad (show J3 r w (.returned u15) wr by
    rw [hr];exact ⟨K.o.trans KR.o,.inl ⟨rfl,_,rfl,OWN.o.ivS,λg hg=>Bp K.o.size (OWN.o.base g hg)⟩⟩)
   clear hr;go_wp2_with fail;go_ret;exact FI.o
theorem Lj (g:Gd l)(i:Nat):(gI l i).Ok:=by
 by_cases h:i<l.length
 ·exact (Eu g h).1
 ·unfold gI;rw [Da,List.getElem?_eq_none (by omega),Option.getD_none,<-Pf,Iv.raw_iv];exact Ss
theorem Zh {o:Outc Iv}{f:Iv->Outc Iv}(h:(o.th f).k=0):o.k=0/\o.th f=f o.v:=by
 by_cases e:o.k=0
 ·exact ⟨e,Outc.th_ok e⟩
 ·rw [Outc.th_bad e] at h;exact absurd h e
theorem bR {p n:Nat}{a b:List RawI}(p1:1<=p):∀ (js:List Nat) (s:Iv),s.Ok->(Vx p a b n s js).k=0->(Vx p a b n s js).v.Ok
 | [],s,hs,_=>hs
 | j :: js, s, hs, h => by
   rw [Vx] at h ⊢;obtain ⟨e1,q1⟩:=Zh h;rw [q1] at h ⊢;obtain ⟨e2,q2⟩:=Zh h;rw [q2] at h ⊢;exact bR p1 js _ (J9 hs (Ll p1).1 p1).1 h
theorem bQ (p1:1<=p)(h:(Gu p a b n).k=0):(Gu p a b n).v.Ok:=by
 unfold Gu at h ⊢;obtain ⟨e1,q1⟩:=Zh h;rw [q1] at h ⊢;exact bR p1 _ _ (Ll p1).1 h
theorem qf (ov:Iv->Nat->Outc Iv)(p:Nat)(a b c:List RawI)(n:Nat):Fl ov p 8 a b c n=Gu p a b n:=rfl
theorem nn (ov:Iv->Nat->Outc Iv)(p:Nat)(a b c:List RawI)(n:Nat):Fl ov p 11 a b c n=if n=0 then Lb (gI a 0) p else Gu p a a n:=rfl
theorem qg (ov:Iv->Nat->Outc Iv)(p:Nat)(a b c:List RawI)(n:Nat):Fl ov p 9 a b c n=(Iq p b c n (gI a n) (List.range' 1 n)).th λx=>Cm x (gI b 0) p:=rfl
theorem Sc (p1:1<=p)(_ga:Gd a)(gb:Gd b)(ho:op=8\/op=11\/op=9)(h:(Fl ov p op a b c n).k=0):(Fl ov p op a b c n).v.Ok:=by
 rcases ho with rfl | rfl | rfl
 ·rw [qf] at h ⊢;exact bQ p1 h
 ·rw [nn] at h ⊢;split at h
  ·rename_i h0;rw [Ak h0];exact (Zd p1).1
  ·rename_i h0;rw [Af h0];exact bQ p1 h
 ·rw [qg] at h ⊢;obtain ⟨e1,q1⟩:=Zh h;rw [q1];exact (Kd (Lj gb 0) p1).1
theorem gd_nil:Gd []:=λa ha=>by cases ha
theorem Gd.snoc (g:Gd c){v:Iv}(h:v.Ok):Gd (c++[v.raw]):=by
 intro y hy;rcases List.mem_append.1 hy with hy | hy
 ·exact g y hy
 ·simp only [List.mem_singleton] at hy;subst hy;rw [Iv.raw_iv];exact ⟨h,rfl⟩
theorem N4 {p:Nat}{g:List RawI}(p1:1<=p)(gg:Gd g):∀ (js:List Nat) (c:List RawI),Gd c->(Dp p g c js).k=0->Gd (Dp p g c js).v/\(Dp p g c js).v.length=c.length+js.length
 | [],c,hc,_=>⟨hc,rfl⟩
 | j :: js, c, hc, h => by
   rw [Dp] at h ⊢;by_cases e:(Bk (gI g j) p).k=0
   ·rw [Ak e] at h ⊢;obtain ⟨h1,h2⟩:=N4 p1 gg js _ (hc.snoc (D8 (Lj gg j) p1).1) h;refine ⟨h1,?_⟩;rw [h2];simp;omega
   ·rw [Af e] at h;exact absurd h e
theorem Pa {a:RawI}(h:a.iv.Ok/\a.iv.raw=a)(k:Nat):Gd (Bs a k):=by
 intro y hy;unfold Bs at hy;rcases List.mem_cons.1 hy with rfl | hy
 ·exact h
 ·obtain rfl:=(List.mem_replicate.1 hy).2;rw [<-Pf,Iv.raw_iv];exact ⟨Ss,rfl⟩
def GdR (k:Nat) (rows:List (List RawI)):Prop:=∀ r∈rows,Gd r/\r.length=k+1
theorem GdR.at (h:GdR k rows)(hi:i<rows.length):Gd (rows.getD i [])/\(rows.getD i []).length=k+1:=by
 rw [Da,Cd hi];exact h _ (List.getElem_mem hi)
theorem GdR.snoc (h:GdR k rows){r:List RawI}(g:Gd r)(l:r.length=k+1):GdR k (rows++[r]):=by
 intro y hy;rcases List.mem_append.1 hy with hy | hy
 ·exact h y hy
 ·simp only [List.mem_singleton] at hy;subst hy;exact ⟨g,l⟩
theorem GdR.nil (k:Nat):GdR k []:=λa ha=>by cases ha
def Xx (tm:Bool) (ov:Iv->Nat->Outc Iv) (p k:Nat) (t:List RawI) (x q:List (List RawI)) (i:Nat) (l:Ln):Prop :=
 (∀ all:List (List RawI),all.length=i->GdR k all->(Fe ov p l all t x q k).k=0->Gd (Fe ov p l all t x q k).v/\(Fe ov p l all t x q k).v.length=k+1) /\
 ∀ {w : World} {vl vall vt vx vq : Value} {all : List (List RawI)}, oW  w vl l → Rws w vall all → all.length = i → GdR k all → (tm = true → IvS w vt t) → Rws w vx x → Rws w vq q → Tab w →
   Calls Tryz.prog 89 #[.agg #[.int .i64 p],vl,vall,vt,vx,vq,.int .i64 k] w (J3 (Fe ov p l all t x q k) w)
theorem dj (ov:Iv->Nat->Outc Iv)(p:Nat)(l:Ln)(all:List (List RawI))(t:List RawI)(x q:List (List RawI))(k:Nat)(h:l.op=3):Fe ov p l all t x q k=Dp p (Hy x l.a) [] (List.range' 0 (k+1)):=by
 unfold Fe;rw [h,<-List.range_eq_range'];rfl
theorem jC (ov:Iv->Nat->Outc Iv)(p:Nat)(l:Ln)(all:List (List RawI))(t:List RawI)(x q:List (List RawI))(k:Nat)(h:6<=l.op):Fe ov p l all t x q k=Lg ov p l.op (Hy all l.a) (Hy all l.b) [] (List.range' 0 (k+1)):=by
 unfold Fe;rw [Af (by omega),Af (by omega),Af (by omega),Af (by omega),<-List.range_eq_range']
theorem rJ {j:Nat}{l:Ln}(h:l.op=3)(ha:l.a=(j:Int))(hj:j<x.length)(gx:GdR k x)(hk:k<=900)(p1:1<=p)(p2:p<=300):Xx tm ov p k t x q i l:=by
 obtain ⟨g1,g2⟩:=gx.at hj;refine ⟨λall hi gall e=>?_,?_⟩
 ·rw [dj _ _ _ _ _ _ _ _ h,Hy,ha,Int.toNat_natCast] at e ⊢;obtain ⟨q1,q2⟩:=N4 p1 g1 _ _ gd_nil e;exact ⟨q1,by rw [q2];simp⟩
 ·intro w vl vall vt vx vq all hl hall hi gall ht hx hq hT;rw [dj _ _ _ _ _ _ _ _ h,Hy,ha,Int.toNat_natCast];exact mQ h hl hx hj ha rfl g1 (by omega) (by omega) hT p1 p2
theorem Xe {ov:Iv->Nat->Outc Iv}{p k:Nat}{t:List RawI}{x q:List (List RawI)}:∀ (ls:List Ln) (all:List (List RawI)),
 (∀ all' (i:Nat) l,ls[i]?=some l->all'.length=all.length+i->GdR k all'->(Fe ov p l all' t x q k).k=0->Gd (Fe ov p l all' t x q k).v/\(Fe ov p l all' t x q k).v.length=k+1)->GdR k all->(Fj ov p t x q k all ls).k=0 ->
   GdR k (Fj ov p t x q k all ls).v/\(Fj ov p t x q k all ls).v.length=all.length+ls.length
 | [],all,_,ga,_=>⟨ga,rfl⟩
 | l :: ls, all, h, ga, hk => by
   rw [Fj] at hk ⊢;by_cases e:(Fe ov p l all t x q k).k=0
   ·rw [Ak e] at hk ⊢;obtain ⟨q1,q2⟩:=h all 0 l rfl rfl ga e;obtain ⟨h1,h2⟩:=Xe ls _ (λall' i l hl hn=>h all' (i+1) l (by simpa using hl) (by rw [hn];simp;omega)) (ga.snoc q1 q2) hk;exact ⟨h1,by rw [h2];simp;omega⟩
   ·rw [Af e] at hk;exact absurd hk e
theorem dJ {ls:List Ln}{outs:List Int}(h:∀ i l,ls[i]?=some l->Xx tm ov p k t x q i l)(ho:∀ n∈outs,0<=n/\n<(ls.length:Int))
 (hk:(Cy ov p ls outs t x q k).k=0):GdR k (Cy ov p ls outs t x q k).v:=by
 unfold Cy at hk ⊢;by_cases e:(Fj ov p t x q k [] ls).k=0
 ·rw [Ak e];obtain ⟨g1,g2⟩:=Xe ls [] (λall' i l hl hn=>(h i l hl).1 all' (by simpa using hn)) (GdR.nil k) e;intro r hr;obtain ⟨n,hn,rfl⟩:=List.mem_map.1 hr;obtain ⟨n0,n1⟩:=ho n hn;simp only [List.length_nil,Nat.zero_add] at g2;exact g1.at (i:=n.toNat) (by omega)
 ·rw [Af e] at hk;exact absurd hk e
theorem pV (O:H8 S)(hS:S 6)(ha:IvS w va a)(hb:IvS w vb b)(ga:Gd a)(gb:Gd b)(na:n<a.length)(nb:n<b.length)
 (la:a.length<=1000) (lb:b.length<=1000) (hT:Tab w) (p1:1<=p) (p2:p<=2000) :
 Calls Tryz.prog 122 #[.agg #[.int .i64 p],.int .i64 6,va,vb,vc,.int .i64 n] w (Cn (Gc (gI a n) (gI b n) p) w):=by
 obtain ⟨W,hW,kW,bW,BR⟩:=N3 w p;have HW:=Ad hW;have K:=Ad kW;have HP:=Ad bW;have HR:=Ad BR;clear hW kW bW BR;have C1:=Ad (λw1 (k:Kept w w1) v u (hv:IvR w1 v (gI a n).raw) (hu:IvR w1 u (gI b n).raw)=>Zk (p:=p) O hS hv hu (Eu ga na).1 (Eu gb nb).1 (hT.kept k) p1 p2);obtain ⟨bA,oA,cA,rfl,hcA,RA⟩:=ha.place ga (by omega);have HA:=Ad (λw1 (k:Kept w w1)=>RA w1 k n na);obtain ⟨bB,oB,cB,rfl,hcB,RB⟩:=hb.place gb (by omega);have HB:=Ad (λw1 (k:Kept w w1)=>RB w1 k n nb);clear RA RB ha hb ga gb hT p1 p2 O hS hcA hcB;generalize Gc (gI a n) (gI b n) p=o at *;generalize gI a n=ga at *
 generalize gI b n=gb at *;have BAD:=Ad (λ(w1:World) (k:Kept w w1) (h0:o.k≠0)=>show Cn o w (.panicked (By 106 o.k)) w1 from ⟨k,.inr ⟨h0,rfl⟩⟩);go_enter Tryz.func122,Tryz.ntmps122;go_wp2_with fail;rw [<-HW.o]
 refine Ih 10 ([(vE (.agg #[.int .i64 (p:Int)])),(vE (.slice (some ⟨bA,oA,none⟩) a.length cA)),(vE (.int .i64 (n:Int))),(vE (.pointer (some ⟨bA,oA+n*6,none⟩))),(λv wv=>IvR wv v ga.raw),(vE (.slice (some ⟨bB,oB,none⟩) b.length cB)),(vE (.int .i64 (n:Int))),(vE (.pointer (some ⟨bB,oB+n*6,none⟩))),(λv wv=>IvR wv v gb.raw),(λv wv=>o.k=0/\IvR wv v o.v.raw)])
  ⟨
   (E3 6 λ_ k=>Ai HP.o k 0 _ rfl),(gq 2),(gq 5),(Hz 1 19 2 20),(λaF wF F=>by have s21:=F.v 3 21;obtain ⟨xx,yy,zz,xx',yy',zz',h0,h1,h2,h3,h4,h5,hI⟩:=(HA.o _ (K.o.trans F.kept));exact sv hI),(gq 3),(gq 5),(Hz 5 23 6 24),(λaF wF F=>by have s25:=F.v 7 25;obtain ⟨xx,yy,zz,xx',yy',zz',h0,h1,h2,h3,h4,h5,hI⟩:=(HB.o _ (K.o.trans F.kept));exact sv hI),(λaF wF F=>by have s18:=F.v 0 18;have s22:=F.p 4 22;have s26:=F.p 8 26;exact sJ (C1.o _ (K.o.trans F.kept) _ _ s22 s26) (λ_ _ _ h0 h=>⟨h0,h⟩) (λw2 k2 h0=>⟨F.defers,BAD.o _ (K.o.trans (F.kept.trans k2)) h0⟩)),
   trivial⟩ ?_
 intro u w1 k1 hu;have p22:=hp hu 4;have p26:=hp hu 8;have p27:=hp hu 9;simp only [Bb,Ap,Act.put,Ep,hv hu 0,hv hu 1,hv hu 2,hv hu 3,hv hu 5,hv hu 6,hv hu 7];clear hu;generalize u 4=v22,u 8=v26,u 9=v27 at *;obtain ⟨h0,hv⟩:=p27;obtain ⟨P,pl,pc,P',pl',pc',rfl,z1,z2⟩:=Ca hv;have hr:=HR.o.kept k1;obtain ⟨-,r0,r1,r2,r3,r4,r5⟩:=hr.facts;obtain ⟨f0,f1,f2,f3,f4,f5⟩:=hr.free;have HRR:=Ad hr;have Z1:=Ad z1;have Z2:=Ad z2;have H0:=Ad h0;have K1:=Ad k1;clear hr z1 z2 hv h0 k1 p22 p26;go_simp;go_wp2_with fail;exact Fp (HRR.o.laid _ _ _ _ _ _) rfl rfl rfl ⟨Az (K.o.trans K1.o) (by omega),.inl ⟨H0.o,_,rfl,_,_,_,_,_,_,rfl,Z1.o.ivW HRR.o _ _ _ _ _ _,Z2.o.ivW HRR.o _ _ _ _ _ _⟩⟩
theorem qm (O:H8 S)(hS:S 7)(ha:IvS w va a)(hb:IvS w vb b)(ga:Gd a)(gb:Gd b)(na:n<a.length)(nb:n<b.length)
 (la:a.length<=1000) (lb:b.length<=1000) (hT:Tab w) (p1:1<=p) (p2:p<=2000) :
 Calls Tryz.prog 122 #[.agg #[.int .i64 p],.int .i64 7,va,vb,vc,.int .i64 n] w (Cn (I8 (gI a n) (gI b n) p) w):=by
 obtain ⟨W,hW,kW,bW,BR⟩:=N3 w p;have HW:=Ad hW;have K:=Ad kW;have HP:=Ad bW;have HR:=Ad BR;clear hW kW bW BR;have C1:=Ad (λw1 (k:Kept w w1) v u (hv:IvR w1 v (gI a n).raw) (hu:IvR w1 u (gI b n).raw)=>lA (p:=p) O hS hv hu (Eu ga na).1 (Eu gb nb).1 (hT.kept k) p1 p2);obtain ⟨bA,oA,cA,rfl,hcA,RA⟩:=ha.place ga (by omega);have HA:=Ad (λw1 (k:Kept w w1)=>RA w1 k n na);obtain ⟨bB,oB,cB,rfl,hcB,RB⟩:=hb.place gb (by omega);have HB:=Ad (λw1 (k:Kept w w1)=>RB w1 k n nb);clear RA RB ha hb ga gb hT p1 p2 O hS hcA hcB;generalize I8 (gI a n) (gI b n) p=o at *;generalize gI a n=ga at *
 generalize gI b n=gb at *;have BAD:=Ad (λ(w1:World) (k:Kept w w1) (h0:o.k≠0)=>show Cn o w (.panicked (By 106 o.k)) w1 from ⟨k,.inr ⟨h0,rfl⟩⟩);go_enter Tryz.func122,Tryz.ntmps122;go_wp2_with fail;rw [<-HW.o]
 refine Ih 10 ([(vE (.agg #[.int .i64 (p:Int)])),(vE (.slice (some ⟨bA,oA,none⟩) a.length cA)),(vE (.int .i64 (n:Int))),(vE (.pointer (some ⟨bA,oA+n*6,none⟩))),(λv wv=>IvR wv v ga.raw),(vE (.slice (some ⟨bB,oB,none⟩) b.length cB)),(vE (.int .i64 (n:Int))),(vE (.pointer (some ⟨bB,oB+n*6,none⟩))),(λv wv=>IvR wv v gb.raw),(λv wv=>o.k=0/\IvR wv v o.v.raw)])
  ⟨
   (E3 6 λ_ k=>Ai HP.o k 0 _ rfl),(gq 2),(gq 5),(Hz 1 31 2 32),(λaF wF F=>by have s33:=F.v 3 33;obtain ⟨xx,yy,zz,xx',yy',zz',h0,h1,h2,h3,h4,h5,hI⟩:=(HA.o _ (K.o.trans F.kept));exact sv hI),(gq 3),(gq 5),(Hz 5 35 6 36),(λaF wF F=>by have s37:=F.v 7 37;obtain ⟨xx,yy,zz,xx',yy',zz',h0,h1,h2,h3,h4,h5,hI⟩:=(HB.o _ (K.o.trans F.kept));exact sv hI),(λaF wF F=>by have s30:=F.v 0 30;have s34:=F.p 4 34;have s38:=F.p 8 38;exact sJ (C1.o _ (K.o.trans F.kept) _ _ s34 s38) (λ_ _ _ h0 h=>⟨h0,h⟩) (λw2 k2 h0=>⟨F.defers,BAD.o _ (K.o.trans (F.kept.trans k2)) h0⟩)),
   trivial⟩ ?_
 intro u w1 k1 hu;have p34:=hp hu 4;have p38:=hp hu 8;have p39:=hp hu 9;simp only [Bb,Ap,Act.put,Ep,hv hu 0,hv hu 1,hv hu 2,hv hu 3,hv hu 5,hv hu 6,hv hu 7];clear hu;generalize u 4=v34,u 8=v38,u 9=v39 at *;obtain ⟨h0,hv⟩:=p39;obtain ⟨P,pl,pc,P',pl',pc',rfl,z1,z2⟩:=Ca hv;have hr:=HR.o.kept k1;obtain ⟨-,r0,r1,r2,r3,r4,r5⟩:=hr.facts;obtain ⟨f0,f1,f2,f3,f4,f5⟩:=hr.free;have HRR:=Ad hr;have Z1:=Ad z1;have Z2:=Ad z2;have H0:=Ad h0;have K1:=Ad k1;clear hr z1 z2 hv h0 k1 p34 p38;go_simp;go_wp2_with fail;exact Fp (HRR.o.laid _ _ _ _ _ _) rfl rfl rfl ⟨Az (K.o.trans K1.o) (by omega),.inl ⟨H0.o,_,rfl,_,_,_,_,_,_,rfl,Z1.o.ivW HRR.o _ _ _ _ _ _,Z2.o.ivW HRR.o _ _ _ _ _ _⟩⟩
theorem qi (O:H8 S)(hS:S 10)(ha:IvS w va a)(ga:Gd a)(na:n<a.length)
 (la:a.length<=1000) (hT:Tab w) (p1:1<=p) (p2:p<=300) :
 Calls Tryz.prog 122 #[.agg #[.int .i64 p],.int .i64 10,va,vb,vc,.int .i64 n] w (Cn (Oi (gI a n) p) w):=by
 obtain ⟨W,hW,kW,bW,BR⟩:=N3 w p;have HW:=Ad hW;have K:=Ad kW;have HP:=Ad bW;have HR:=Ad BR;clear hW kW bW BR;have C1:=Ad (λw1 (k:Kept w w1) v (hv:IvR w1 v (gI a n).raw)=>O.neg hS hv (Eu ga na).1 (hT.kept k) p1 (by omega));obtain ⟨bA,oA,cA,rfl,hcA,RA⟩:=ha.place ga (by omega);have HA:=Ad (λw1 (k:Kept w w1)=>RA w1 k n na);clear RA ha ga hT p1 p2 hS hcA;clear O;generalize Oi (gI a n) p=o at *;generalize gI a n=ga at *;have hro:(Bn o).k=o.k:=rfl;have BAD:=Ad (λ(w1:World) (k:Kept w w1) (h0:o.k≠0)=>show Cn o w (.panicked (By 106 o.k)) w1 from ⟨k,.inr ⟨h0,rfl⟩⟩);go_enter Tryz.func122,Tryz.ntmps122
 go_wp2_with fail;rw [<-HW.o]
 refine Ih 10 ([(vE (.slice (some ⟨bA,oA,none⟩) a.length cA)),(vE (.int .i64 (n:Int))),(vE (.pointer (some ⟨bA,oA+n*6,none⟩))),(λv wv=>IvR wv v ga.raw),(vP w.heap.size 0),(vE (.int .i64 (p:Int))),(λv wv=>∃ d,v=.tuple #[d,.int .i64 (Bn o).k]/\IvR wv d (Bn o).v),(λv wv=>IvR wv v (Bn o).v),(vE (.int .i64 (Bn o).k)),(λv wv=>o.k=0/\IvR wv v o.v.raw)])
  ⟨
   (gq 2),(gq 5),(Hz 0 42 1 43),(λaF wF F=>by have s44:=F.v 2 44;obtain ⟨xx,yy,zz,xx',yy',zz',h0,h1,h2,h3,h4,h5,hI⟩:=(HA.o _ (K.o.trans F.kept));exact sv hI),(gq 6),(Ie 4 46 λ_ k=>Ai HP.o k 0 _ rfl),(λaF wF F=>by have s45:=F.p 3 45;have s47:=F.v 5 47;exact sP (C1.o _ (K.o.trans F.kept) _ s45) λ_ _ h=>h),(λaF wF F=>by have s48:=F.p 6 48;obtain ⟨dd,ee,hh⟩:=s48;exact sv hh),(λaF wF F=>by have s48:=F.p 6 48;exact sw (by obtain ⟨dd,ee,hh⟩:=s48;go_simp) rfl),(λaF wF F=>by have s49:=F.p 7 49;have s50:=F.v 8 50;exact sJ (G0 (o:=o) s49) (λ_ _ _ h0 h=>⟨h0,h⟩) (λw2 k2 h0=>⟨F.defers,BAD.o _ (K.o.trans (F.kept.trans k2)) h0⟩)),
   trivial⟩ ?_
 intro u w1 k1 hu;have p45:=hp hu 3;have p48:=hp hu 6;have p49:=hp hu 7;have p51:=hp hu 9;simp only [Bb,Ap,Act.put,Ep,hv hu 0,hv hu 1,hv hu 2,hv hu 4,hv hu 5,hv hu 8];clear hu;generalize u 3=v45,u 6=v48,u 7=v49,u 9=v51 at *;obtain ⟨h0,hv⟩:=p51;obtain ⟨P,pl,pc,P',pl',pc',rfl,z1,z2⟩:=Ca hv;have hr:=HR.o.kept k1;obtain ⟨-,r0,r1,r2,r3,r4,r5⟩:=hr.facts;obtain ⟨f0,f1,f2,f3,f4,f5⟩:=hr.free;have HRR:=Ad hr;have Z1:=Ad z1;have Z2:=Ad z2;have H0:=Ad h0;have K1:=Ad k1;clear hr z1 z2 hv h0 k1 p45 p48 p49;go_simp;go_wp2_with fail;exact Fp (HRR.o.laid _ _ _ _ _ _) rfl rfl rfl ⟨Az (K.o.trans K1.o) (by omega),.inl ⟨H0.o,_,rfl,_,_,_,_,_,_,rfl,Z1.o.ivW HRR.o _ _ _ _ _ _,Z2.o.ivW HRR.o _ _ _ _ _ _⟩⟩
theorem jZ (O:H8 S)(hS:S 12)(ha:IvS w va a)(ga:Gd a)(na:n<a.length)
 (la:a.length<=1000) (hT:Tab w) (p1:1<=p) (p2:p<=300) (hn:n=0) :
 Calls Tryz.prog 122 #[.agg #[.int .i64 p],.int .i64 12,va,vb,vc,.int .i64 n] w (Cn (Gh (gI a n) p) w):=by
 obtain ⟨W,hW,kW,bW,BR⟩:=N3 w p;have HW:=Ad hW;have K:=Ad kW;have HP:=Ad bW;have HR:=Ad BR;clear hW kW bW BR;have C1:=Ad (λw1 (k:Kept w w1) v (hv:IvR w1 v (gI a n).raw)=>O.sqrt hS hv (Eu ga na).1 (hT.kept k) p1 (by omega));obtain ⟨bA,oA,cA,rfl,hcA,RA⟩:=ha.place ga (by omega);have HA:=Ad (λw1 (k:Kept w w1)=>RA w1 k n na);clear RA ha ga hT p1 p2 hS hcA;clear O;subst hn;generalize Gh (gI a 0) p=o at *;generalize gI a 0=ga at *;have hro:(Bn o).k=o.k:=rfl;have BAD:=Ad (λ(w1:World) (k:Kept w w1) (h0:o.k≠0)=>show Cn o w (.panicked (By 106 o.k)) w1 from ⟨k,.inr ⟨h0,rfl⟩⟩)
 go_enter Tryz.func122,Tryz.ntmps122;go_wp2_with fail;rw [<-HW.o]
 refine Ih 9 ([(vE (.slice (some ⟨bA,oA,none⟩) a.length cA)),(vE (.pointer (some ⟨bA,oA,none⟩))),(λv wv=>IvR wv v ga.raw),(vP w.heap.size 0),(vE (.int .i64 (p:Int))),(λv wv=>∃ d,v=.tuple #[d,.int .i64 (Bn o).k]/\IvR wv d (Bn o).v),(λv wv=>IvR wv v (Bn o).v),(vE (.int .i64 (Bn o).k)),(λv wv=>o.k=0/\IvR wv v o.v.raw)])
  ⟨
   (gq 2),(gv 0 100),(λaF wF F=>by have s101:=F.v 1 101;obtain ⟨xx,yy,zz,xx',yy',zz',h0,h1,h2,h3,h4,h5,hI⟩:=(by have h:=HA.o _ (K.o.trans F.kept);simpa using h);exact sv hI),(gq 6),(Ie 3 103 λ_ k=>Ai HP.o k 0 _ rfl),(λaF wF F=>by have s102:=F.p 2 102;have s104:=F.v 4 104;exact sP (C1.o _ (K.o.trans F.kept) _ s102) λ_ _ h=>h),(λaF wF F=>by have s105:=F.p 5 105;obtain ⟨dd,ee,hh⟩:=s105;exact sv hh),(λaF wF F=>by have s105:=F.p 5 105;exact sw (by obtain ⟨dd,ee,hh⟩:=s105;go_simp) rfl),(λaF wF F=>by have s106:=F.p 6 106;have s107:=F.v 7 107;exact sJ (G0 (o:=o) s106) (λ_ _ _ h0 h=>⟨h0,h⟩) (λw2 k2 h0=>⟨F.defers,BAD.o _ (K.o.trans (F.kept.trans k2)) h0⟩)),
   trivial⟩ ?_
 intro u w1 k1 hu;have p102:=hp hu 2;have p105:=hp hu 5;have p106:=hp hu 6;have p108:=hp hu 8;simp only [Bb,Ap,Act.put,Ep,hv hu 0,hv hu 1,hv hu 3,hv hu 4,hv hu 7];clear hu;generalize u 2=v102,u 5=v105,u 6=v106,u 8=v108 at *;obtain ⟨h0,hv⟩:=p108;obtain ⟨P,pl,pc,P',pl',pc',rfl,z1,z2⟩:=Ca hv;have hr:=HR.o.kept k1;obtain ⟨-,r0,r1,r2,r3,r4,r5⟩:=hr.facts;obtain ⟨f0,f1,f2,f3,f4,f5⟩:=hr.free;have HRR:=Ad hr;have Z1:=Ad z1;have Z2:=Ad z2;have H0:=Ad h0;have K1:=Ad k1;clear hr z1 z2 hv h0 k1 p102 p105 p106;go_simp;go_wp2_with fail;exact Fp (HRR.o.laid _ _ _ _ _ _) rfl rfl rfl ⟨Az (K.o.trans K1.o) (by omega),.inl ⟨H0.o,_,rfl,_,_,_,_,_,_,rfl,Z1.o.ivW HRR.o _ _ _ _ _ _,Z2.o.ivW HRR.o _ _ _ _ _ _⟩⟩
theorem nm (hS:qJ ov)(ha:IvS w va a)(ga:Gd a)(na:n<a.length)
 (la:a.length<=1000) (hT:Tab w) (p1:1<=p) (p2:p<=300) (hn:n=0) :
 Calls Tryz.prog 122 #[.agg #[.int .i64 p],.int .i64 13,va,vb,vc,.int .i64 n] w (Cn (ov (gI a n) p) w):=by
 obtain ⟨W,hW,kW,bW,BR⟩:=N3 w p;have HW:=Ad hW;have K:=Ad kW;have HP:=Ad bW;have HR:=Ad BR;clear hW kW bW BR;have C1:=Ad (λw1 (k:Kept w w1) v (hv:IvR w1 v (gI a n).raw)=>hS.2 w1 v (gI a n) p hv (Eu ga na).1 (hT.kept k) p1 p2);obtain ⟨bA,oA,cA,rfl,hcA,RA⟩:=ha.place ga (by omega);have HA:=Ad (λw1 (k:Kept w w1)=>RA w1 k n na);clear RA ha ga hT p1 p2 hS hcA;subst hn;generalize ov (gI a 0) p=o at *;generalize gI a 0=ga at *;have hro:(Bn o).k=o.k:=rfl;have BAD:=Ad (λ(w1:World) (k:Kept w w1) (h0:o.k≠0)=>show Cn o w (.panicked (By 106 o.k)) w1 from ⟨k,.inr ⟨h0,rfl⟩⟩);go_enter Tryz.func122,Tryz.ntmps122
 go_wp2_with fail;rw [<-HW.o]
 refine Ih 9 ([(vE (.slice (some ⟨bA,oA,none⟩) a.length cA)),(vE (.pointer (some ⟨bA,oA,none⟩))),(λv wv=>IvR wv v ga.raw),(vP w.heap.size 0),(vE (.int .i64 (p:Int))),(λv wv=>∃ d,v=.tuple #[d,.int .i64 (Bn o).k]/\IvR wv d (Bn o).v),(λv wv=>IvR wv v (Bn o).v),(vE (.int .i64 (Bn o).k)),(λv wv=>o.k=0/\IvR wv v o.v.raw)])
  ⟨
   (gq 2),(gv 0 132),(λaF wF F=>by have s133:=F.v 1 133;obtain ⟨xx,yy,zz,xx',yy',zz',h0,h1,h2,h3,h4,h5,hI⟩:=(by have h:=HA.o _ (K.o.trans F.kept);simpa using h);exact sv hI),(gq 6),(Ie 3 135 λ_ k=>Ai HP.o k 0 _ rfl),(λaF wF F=>by have s134:=F.p 2 134;have s136:=F.v 4 136;exact sP (C1.o _ (K.o.trans F.kept) _ s134) λ_ _ h=>h),(λaF wF F=>by have s137:=F.p 5 137;obtain ⟨dd,ee,hh⟩:=s137;exact sv hh),(λaF wF F=>by have s137:=F.p 5 137;exact sw (by obtain ⟨dd,ee,hh⟩:=s137;go_simp) rfl),(λaF wF F=>by have s138:=F.p 6 138;have s139:=F.v 7 139;exact sJ (G0 (o:=o) s138) (λ_ _ _ h0 h=>⟨h0,h⟩) (λw2 k2 h0=>⟨F.defers,BAD.o _ (K.o.trans (F.kept.trans k2)) h0⟩)),
   trivial⟩ ?_
 intro u w1 k1 hu;have p134:=hp hu 2;have p137:=hp hu 5;have p138:=hp hu 6;have p140:=hp hu 8;simp only [Bb,Ap,Act.put,Ep,hv hu 0,hv hu 1,hv hu 3,hv hu 4,hv hu 7];clear hu;generalize u 2=v134,u 5=v137,u 6=v138,u 8=v140 at *;obtain ⟨h0,hv⟩:=p140;obtain ⟨P,pl,pc,P',pl',pc',rfl,z1,z2⟩:=Ca hv;have hr:=HR.o.kept k1;obtain ⟨-,r0,r1,r2,r3,r4,r5⟩:=hr.facts;obtain ⟨f0,f1,f2,f3,f4,f5⟩:=hr.free;have HRR:=Ad hr;have Z1:=Ad z1;have Z2:=Ad z2;have H0:=Ad h0;have K1:=Ad k1;clear hr z1 z2 hv h0 k1 p134 p137 p138;go_simp;go_wp2_with fail;exact Fp (HRR.o.laid _ _ _ _ _ _) rfl rfl rfl ⟨Az (K.o.trans K1.o) (by omega),.inl ⟨H0.o,_,rfl,_,_,_,_,_,_,rfl,Z1.o.ivW HRR.o _ _ _ _ _ _,Z2.o.ivW HRR.o _ _ _ _ _ _⟩⟩
theorem nv (O:H8 S)(h6:S 6)(h7:S 7)(h8:S 8)(h9:S 9)(ha:IvS w va a)(hc:IvS w vc c)(ga:Gd a)(gc:Gd c)(na:n<a.length)(n0:0<n)(nc:n=c.length)
 (la:a.length<=1000) (lc:c.length<=1000) (hT:Tab w) (p1:1<=p) (p2:p<=2000) :
 Calls Tryz.prog 122 #[.agg #[.int .i64 p],.int .i64 12,va,vb,vc,.int .i64 n] w (Cn ((Iq p c c n (gI a n) (List.range' 1 (n-1))).th λx=>(Gc (gI c 0) (gI c 0) p).th λy=>Cm x y p) w):=by
 obtain ⟨W,hW,kW,bW,BR⟩:=N3 w p;have HW:=Ad hW;have K:=Ad kW;have HP:=Ad bW;have HR:=Ad BR;clear hW kW bW BR;obtain ⟨m,hm⟩:∃ m,m=n-1:=⟨_,rfl⟩;have hmz:(n:Int)-1=(m:Int):=by omega
 have hwm:IntKind.i64.wrap (m:Int)=(m:Int):=by simp [IntKind.wrap_i64];omega
 obtain ⟨o1,ho1⟩:∃ o,o=Iq p c c n (gI a n) (List.range' 1 (n-1)):=⟨_,rfl⟩;obtain ⟨o2,ho2⟩:∃ o,o=Gc (gI c 0) (gI c 0) p:=⟨_,rfl⟩;obtain ⟨o3,ho3⟩:∃ o,o=Cm o1.v o2.v p:=⟨_,rfl⟩;have ok1:o1.v.Ok:=by rw [ho1];exact Us p1 _ (Eu ga na).1
 have ok2:o2.v.Ok:=by rw [ho2];exact (J9 (Eu gc (by omega)).1 (Eu gc (by omega)).1 p1).1
 have C1:=Ad (λw1 (k:Kept w w1) v (hv:IvR w1 v (gI a n).raw)=>show Calls Tryz.prog 166 #[.agg #[.int .i64 p],v,vc,vc,.int .i64 1,.int .i64 m,.int .i64 n] w1 (Cn o1 w1) from by
  rw [ho1,hm];exact fk (fr:=1) O h7 h8 hv (Eu ga na).1 (hc.kept k) (hc.kept k) gc gc (Nat.sub_le _ _) (.inl (by omega)) (by omega) lc lc rfl (hT.kept k) p1 p2)
 have C2:=Ad (λw1 (k:Kept w w1) v u (hv:IvR w1 v (gI c 0).raw) (hu:IvR w1 u (gI c 0).raw)=>show Calls Tryz.prog 163 #[.agg #[.int .i64 p],v,u] w1 (Cn o2 w1) from by
  rw [ho2];exact Zk O h6 hv hu (Eu gc (by omega)).1 (Eu gc (by omega)).1 (hT.kept k) p1 p2)
 have C3:=Ad (λw1 (k:Kept w w1) v u (hv:IvR w1 v o1.v.raw) (hu:IvR w1 u o2.v.raw)=>show Calls Tryz.prog 60 #[.agg #[.int .i64 p],v,u] w1 (Cn o3 w1) from by
  rw [ho3];exact Zl O h9 hv hu ok1 ok2 (hT.kept k) p1 p2)
 rw [<-ho1];have e2:(o1.th λx=>(Gc (gI c 0) (gI c 0) p).th λy=>Cm x y p)=o1.th λ_=>o2.th λ_=>o3:=by unfold Outc.th;rw [ho3,ho2]
 rw [e2];obtain ⟨bA,oA,cA,rfl,hcA,RA⟩:=ha.place ga (by omega);have HA:=Ad (λw1 (k:Kept w w1)=>RA w1 k n na);obtain ⟨bB,oB,cB,rfl,hcB,RB⟩:=hc.place gc (by omega);have HB:=Ad (λw1 (k:Kept w w1)=>RB w1 k 0 (by omega));have hlb:0<c.length:=by omega
 have hnb:(n==0)=false:=by rw [Ek];omega
 clear RA RB ha hc ga gc hT p1 p2 O h6 h7 h8 h9 hcA hcB ho1 ho2 ho3 ok1 ok2 e2 hm nc;generalize gI a n=ga at *;generalize gI c 0=gb at *;obtain ⟨r,hr⟩:∃ r,r=o1.th λ_=>o2.th λ_=>o3:=⟨_,rfl⟩
 rw [<-hr];have B1:=Ad (λ(w1:World) (k:Kept w w1) (h:o1.k≠0)=>show Cn r w (.panicked (By 106 o1.k)) w1 from by rw [hr,Outc.th_bad h];exact ⟨k,.inr ⟨h,rfl⟩⟩);have B2:=Ad (λ(w1:World) (k:Kept w w1) (h':o1.k=0) (h:o2.k≠0)=>show Cn r w (.panicked (By 106 o2.k)) w1 from by rw [hr,Outc.th_ok h',Outc.th_bad h];exact ⟨k,.inr ⟨h,rfl⟩⟩);have B3:=Ad (λ(w1:World) (k:Kept w w1) (h':o1.k=0) (h'':o2.k=0) (h:o3.k≠0)=>show Cn r w (.panicked (By 106 o3.k)) w1 from by rw [hr,Outc.th_ok h',Outc.th_ok h''];exact ⟨k,.inr ⟨h,rfl⟩⟩);have HG:=Ad (λ(h:o1.k=0) (h':o2.k=0)=>show r=o3 by rw [hr,Outc.th_ok h,Outc.th_ok h'])
 clear hr;go_enter Tryz.func122,Tryz.ntmps122;go_wp2_with fail;rw [<-HW.o]
 refine Ih 21 ([(vE (.agg #[.int .i64 (p:Int)])),(vE (.agg #[.int .i64 (p:Int)])),(vE (.slice (some ⟨bA,oA,none⟩) a.length cA)),(vE (.int .i64 (n:Int))),(vE (.pointer (some ⟨bA,oA+n*6,none⟩))),(λv wv=>IvR wv v ga.raw),(vE (.slice (some ⟨bB,oB,none⟩) c.length cB)),(vE (.slice (some ⟨bB,oB,none⟩) c.length cB)),(vE (.int .i64 (n:Int))),(vE (.int .i64 (m:Int))),(vE (.int .i64 (n:Int))),(λv wv=>o1.k=0/\IvR wv v o1.v.raw),(vE (.agg #[.int .i64 (p:Int)])),(vE (.slice (some ⟨bB,oB,none⟩) c.length cB)),(vE (.pointer (some ⟨bB,oB,none⟩))),(λv wv=>IvR wv v gb.raw),(vE (.slice (some ⟨bB,oB,none⟩) c.length cB)),(vE (.pointer (some ⟨bB,oB,none⟩))),(λv wv=>IvR wv v gb.raw),(λv wv=>o2.k=0/\IvR wv v o2.v.raw),(λv wv=>o3.k=0/\IvR wv v o3.v.raw)])
  ⟨
   (E3 6 λ_ k=>Ai HP.o k 0 _ rfl),(E3 6 λ_ k=>Ai HP.o k 0 _ rfl),(gq 2),(gq 5),(Hz 2 111 3 112),(λaF wF F=>by have s113:=F.v 4 113;obtain ⟨xx,yy,zz,xx',yy',zz',h0,h1,h2,h3,h4,h5,hI⟩:=(HA.o _ (K.o.trans F.kept));exact sv hI),(gq 4),(gq 4),(gq 5),(gv 8 117),(gq 5),(λaF wF F=>by have s110:=F.v 1 110;have s114:=F.p 5 114;have s115:=F.v 6 115;have s116:=F.v 7 116;have s118:=F.v 9 118;have s119:=F.v 10 119;exact sJ (C1.o _ (K.o.trans F.kept) _ s114) (λ_ _ _ h0 h=>⟨h0,h⟩) (λw2 k2 h0=>⟨F.defers,B1.o _ (K.o.trans (F.kept.trans k2)) h0⟩)),(E3 6 λ_ k=>Ai HP.o k 0 _ rfl),(gq 4),(gv 13 122),(λaF wF F=>by have s123:=F.v 14 123;obtain ⟨xx,yy,zz,xx',yy',zz',h0,h1,h2,h3,h4,h5,hI⟩:=(by have h:=HB.o _ (K.o.trans F.kept);simpa using h);exact sv hI),(gq 4),(gv 16 125),(λaF wF F=>by have s126:=F.v 17 126;obtain ⟨xx,yy,zz,xx',yy',zz',h0,h1,h2,h3,h4,h5,hI⟩:=(by have h:=HB.o _ (K.o.trans F.kept);simpa using h);exact sv hI),(λaF wF F=>by have s121:=F.v 12 121;have s124:=F.p 15 124;have s127:=F.p 18 127;exact sJ (C2.o _ (K.o.trans F.kept) _ _ s124 s127) (λ_ _ _ h0 h=>⟨h0,h⟩) (λw2 k2 h0=>⟨F.defers,(by have s9:=F.p 11 120;exact B2.o _ (K.o.trans (F.kept.trans k2)) s9.1 h0)⟩)),(λaF wF F=>by have s109:=F.v 0 109;have s120:=F.p 11 120;have s128:=F.p 19 128;exact sJ (C3.o _ (K.o.trans F.kept) _ _ s120.2 s128.2) (λ_ _ _ h0 h=>⟨h0,h⟩) (λw2 k2 h0=>⟨F.defers,B3.o _ (K.o.trans (F.kept.trans k2)) s120.1 s128.1 h0⟩)),
   trivial⟩ ?_
 intro u w1 k1 hu;have p114:=hp hu 5;have p120:=hp hu 11;have p124:=hp hu 15;have p127:=hp hu 18;have p128:=hp hu 19;have p129:=hp hu 20;simp only [Bb,Ap,Act.put,Ep,hv hu 0,hv hu 1,hv hu 2,hv hu 3,hv hu 4,hv hu 6,hv hu 7,hv hu 8,hv hu 9,hv hu 10,hv hu 12,hv hu 13,hv hu 14,hv hu 16,hv hu 17];clear hu;generalize u 5=v114,u 11=v120,u 15=v124,u 18=v127,u 19=v128,u 20=v129 at *;obtain ⟨h0,hv⟩:=p129;obtain rfl:=HG.o p120.1 p128.1;obtain ⟨P,pl,pc,P',pl',pc',rfl,z1,z2⟩:=Ca hv;have hr:=HR.o.kept k1;obtain ⟨-,r0,r1,r2,r3,r4,r5⟩:=hr.facts;obtain ⟨f0,f1,f2,f3,f4,f5⟩:=hr.free
 have HRR:=Ad hr;have Z1:=Ad z1;have Z2:=Ad z2;have H0:=Ad h0;have K1:=Ad k1;clear hr z1 z2 hv h0 k1 p114 p120 p124 p127 p128;go_simp;go_wp2_with fail;exact Fp (HRR.o.laid _ _ _ _ _ _) rfl rfl rfl ⟨Az (K.o.trans K1.o) (by omega),.inl ⟨H0.o,_,rfl,_,_,_,_,_,_,rfl,Z1.o.ivW HRR.o _ _ _ _ _ _,Z2.o.ivW HRR.o _ _ _ _ _ _⟩⟩
theorem cR (p:Nat)(a c:List RawI)(n:Nat)(s:Iv)(j m:Nat)(h:0<m) :
 N7 p a c n s (List.range' j m)=(Ew (Fm j) (gI a j) p).th λu=>(Ew u (gI c (n-j)) p).th λq=>(Gc s q p).th λs'=>N7 p a c n s' (List.range' (j+1) (m-1)):=by
 obtain ⟨m,rfl⟩:∃ k,m=k+1:=⟨m-1,by omega⟩;rw [List.range'_succ];rfl
theorem Tr (n:Nat):(Fm n).Ok:=P5 (E6 _ _ _).1
theorem qe (O:H8 S)(h6:S 6)(h8:S 8)(h9:S 9)(ha:IvS w va a)(hc:IvS w vc c)(ga:Gd a)(gc:Gd c)(na:n<a.length)(n0:0<n)(nc:n=c.length)
 (la:a.length<=1000) (lc:c.length<=1000) (hT:Tab w) (p1:1<=p) (p2:p<=2000) :
 Calls Tryz.prog 122 #[.agg #[.int .i64 p],.int .i64 13,va,vb,vc,.int .i64 n] w
  (Cn ((Ew (Fm 1) (gI a 1) p).th λu=>(Ew u (gI c (n-1)) p).th λs=>(N7 p a c n s (List.range' 2 (n-1))).th λs=>Cm s (Fm n) p) w):=by
 obtain ⟨bA,oA,cA,rfl,hcA,RA⟩:=ha.place ga (by omega);obtain ⟨bB,oB,cB,rfl,hcB,RB⟩:=hc.place gc (by omega);obtain ⟨X,hX⟩:∃ X,X=(Ew (Fm 1) (gI a 1) p).th λu=>(Ew u (gI c (n-1)) p).th λs=>(N7 p a c n s (List.range' 2 (n-1))).th λs=>Cm s (Fm n) p:=⟨_,rfl⟩
 rw [<-hX];have CP:=Ad (λw1 (k:Kept w w1) j (hj:j<=n)=>show Calls Tryz.prog 57 #[.int .i64 (j:Nat)] w1 (RetI (Fm j).raw w1) from ar (by omega) (hT.kept k));have CM:=Ad (λw1 (k:Kept w w1) (s q:Iv) v u (os:s.Ok) (oq:q.Ok) (hv:IvR w1 v s.raw) (hu:IvR w1 u q.raw)=>dZ (p:=p) O h8 hv hu os oq (hT.kept k) p1 p2);have CA:=Ad (λw1 (k:Kept w w1) (s q:Iv) v u (os:s.Ok) (oq:q.Ok) (hv:IvR w1 v s.raw) (hu:IvR w1 u q.raw)=>Zk (p:=p) O h6 hv hu os oq (hT.kept k) p1 p2);have CD:=Ad (λw1 (k:Kept w w1) (s q:Iv) v u (os:s.Ok) (oq:q.Ok) (hv:IvR w1 v s.raw) (hu:IvR w1 u q.raw)=>Zl (p:=p) O h9 hv hu os oq (hT.kept k) p1 p2)
 have GA:=Ad (λj (hj:j<=n)=>show (gI a j).Ok from (Eu ga (by omega)).1);have GC:=Ad (λj (hj:j<n)=>show (gI c j).Ok from (Eu gc (by omega)).1);have OM:=Ad (λ(s q:Iv)=>(Ll (a:=s) (b:=q) p1).1);have OA:=Ad (λ(s q:Iv) (os:s.Ok) (oq:q.Ok)=>(J9 os oq p1).1);obtain ⟨m,hm⟩:∃ m,m=n-1:=⟨_,rfl⟩;have hmz:(n:Int)-1=(m:Int):=by omega
 have hwm:IntKind.i64.wrap (m:Int)=(m:Int):=by simp [IntKind.wrap_i64];omega
 obtain ⟨o1,ho1⟩:∃ o,o=Ew (Fm 1) (gI a 1) p:=⟨_,rfl⟩;obtain ⟨o2,ho2⟩:∃ o,o=Ew o1.v (gI c m) p:=⟨_,rfl⟩;obtain ⟨E,hE⟩:∃ E,E=N7 p a c n o2.v (List.range' 2 m):=⟨_,rfl⟩;have ok1:o1.v.Ok:=by rw [ho1];exact OM.o _ _
 have ok2:o2.v.Ok:=by rw [ho2];exact OM.o _ _
 have hXX:X=o1.th λ_=>o2.th λ_=>E.th λs=>Cm s (Fm n) p:=by
  rw [hX,<-hm,<-ho1];by_cases h1:o1.k=0
  ·rw [Outc.th_ok h1,Outc.th_ok h1,←ho2];by_cases h2:o2.k=0
   ·rw [Outc.th_ok h2,Outc.th_ok h2,<-hE]
   ·rw [Outc.th_bad h2,Outc.th_bad h2]
  ·rw [Outc.th_bad h1,Outc.th_bad h1]
 have BAD:=Ad (λ(w1:World) (k:Kept w w1) (z:Int) (h0:z≠0) (h:X.k=z)=>show Cn X w (.panicked (By 106 z)) w1 from ⟨k,.inr ⟨by rw [h];exact h0,by rw [h]⟩⟩);have B1:=Ad (λ(h:o1.k≠0)=>show X.k=o1.k by rw [hXX,Outc.th_bad h]);have B2:=Ad (λ(h':o1.k=0) (h:o2.k≠0)=>show X.k=o2.k by rw [hXX,Outc.th_ok h',Outc.th_bad h]);have HG:=Ad (λ(h:o1.k=0) (h':o2.k=0)=>show X=E.th λs=>Cm s (Fm n) p by rw [hXX,Outc.th_ok h,Outc.th_ok h']);have C1:=Ad (λw1 (k:Kept w w1) v u (hv:IvR w1 v (Fm 1).raw) (hu:IvR w1 u (gI a 1).raw)=>show Calls Tryz.prog 167 #[.agg #[.int .i64 p],v,u] w1 (Cn o1 w1) by rw [ho1];exact CM.o w1 k _ _ v u (Tr 1) (GA.o 1 (by omega)) hv hu)
 have C2:=Ad (λw1 (k:Kept w w1) v u (hv:IvR w1 v o1.v.raw) (hu:IvR w1 u (gI c m).raw)=>show Calls Tryz.prog 167 #[.agg #[.int .i64 p],v,u] w1 (Cn o2 w1) by rw [ho2];exact CM.o w1 k _ _ v u ok1 (GC.o m (by omega)) hv hu);have OK2:=Ad ok2;have HE:=Ad hE;have HM:=Ad hm;have hlb:m<c.length:=by omega
 have hla:1<a.length:=by omega
 have hnb:(n==0)=false:=by rw [Ek];omega
 have NC:=Ad nc;have NA:=Ad na;have N0:=Ad n0;have LA:=Ad la;obtain ⟨W,hW,kW,bW,BR⟩:=N3 w p;have HW:=Ad hW;have K:=Ad kW;have HP:=Ad bW;have HR:=Ad BR;clear hW kW bW BR;have HA:=Ad RA;have HB:=Ad RB;clear RA RB ha hc ga gc hT p1 p2 O h6 h8 h9 hcA hcB hX hXX ho1 ho2 hE ok1 ok2 hm la lc na nc;generalize hR:Cn X w=R;have HRR:=Ad hR;clear hR;go_enter Tryz.func122,Tryz.ntmps122;go_wp2_with fail;rw [<-HW.o]
 refine Ih 14 ([(vE (.agg #[.int .i64 (p:Int)])),(vE (.agg #[.int .i64 (p:Int)])),(λv wv=>IvR wv v ((Fm 1).raw)),(vE (.slice (some ⟨bA,oA,none⟩) a.length cA)),(vE (.pointer (some ⟨bA,oA+6,none⟩))),(λv wv=>IvR wv v ((gI a 1).raw)),(λv wv=>o1.k=0/\IvR wv v o1.v.raw),(vE (.slice (some ⟨bB,oB,none⟩) c.length cB)),(vE (.int .i64 (n:Int))),(vE (.int .i64 (m:Int))),(vE (.pointer (some ⟨bB,oB+m*6,none⟩))),(λv wv=>IvR wv v ((gI c m).raw)),(λv wv=>o2.k=0/\IvR wv v o2.v.raw),(λv wv=>∃ b,v=.pointer (some ⟨b,0,none⟩)/\W.heap.size<=b/\BlkI wv b (.bool false) (.slice none 0 0) (.int .i64 0) (.bool false) (.slice none 0 0) (.int .i64 0))])
  ⟨
   (E3 6 λ_ k=>Ai HP.o k 0 _ rfl),(E3 6 λ_ k=>Ai HP.o k 0 _ rfl),(λaF wF F=>by exact sI (CP.o _ (K.o.trans F.kept) 1 (by have:=N0.o;omega)) λ_ _ h=>h),(gq 2),(λaF wF F=>by have s144:=F.v 3 144;exact sw (by (have hla9:¬(a.length:Int)<=1:=(by omega);go_simp)) rfl),(λaF wF F=>by have s145:=F.v 4 145;obtain ⟨xx,yy,zz,xx',yy',zz',h0,h1,h2,h3,h4,h5,hI⟩:=(by have h:=HA.o _ (K.o.trans F.kept) 1 hla;simpa using h);exact sv hI),(λaF wF F=>by have s142:=F.v 1 142;have s143:=F.p 2 143;have s146:=F.p 5 146;exact sJ (C1.o _ (K.o.trans F.kept) _ _ s143 s146) (λ_ _ _ h0 h=>⟨h0,h⟩) (λw2 k2 h0=>⟨F.defers,(by rw [<-HRR.o];exact BAD.o _ (K.o.trans (F.kept.trans k2)) _ h0 (B1.o h0))⟩)),(gq 4),(gq 5),(gv 8 149),(Hz 7 148 9 150),(λaF wF F=>by have s151:=F.v 10 151;obtain ⟨xx,yy,zz,xx',yy',zz',h0,h1,h2,h3,h4,h5,hI⟩:=(HB.o _ (K.o.trans F.kept) m hlb);exact sv hI),(λaF wF F=>by have s141:=F.v 0 141;have s147:=F.p 6 147;have s152:=F.p 11 152;exact sJ (C2.o _ (K.o.trans F.kept) _ _ s147.2 s152) (λ_ _ _ h0 h=>⟨h0,h⟩) (λw2 k2 h0=>⟨F.defers,(by rw [<-HRR.o];exact BAD.o _ (K.o.trans (F.kept.trans k2)) _ h0 (B2.o s147.1 h0))⟩)),(λaF wF F=>by exact sN ⟨_,rfl,F.kept.size,Gw _⟩),
   trivial⟩ ?_
 intro u w1 k1 hu;have p143:=hp hu 2;have p146:=hp hu 5;have p147:=hp hu 6;have p152:=hp hu 11;have p153:=hp hu 12;have p13:=hp hu 13;simp only [Bb,Ap,Act.put,Ep,hv hu 0,hv hu 1,hv hu 3,hv hu 4,hv hu 7,hv hu 8,hv hu 9,hv hu 10];clear hu;generalize u 2=v143,u 5=v146,u 6=v147,u 11=v152,u 12=v153,u 13=v13 at *;obtain ⟨b13,rfl,hb13,hB13⟩:=p13;obtain ⟨h2,hv⟩:=p153;have h1:=p147.1;obtain ⟨P,pl,pc,P',pl',pc',rfl,z1,z2⟩:=Ca hv;obtain ⟨-,r0,r1,r2,r3,r4,r5⟩:=hB13.facts;obtain ⟨f0,f1,f2,f3,f4,f5⟩:=hB13.free;have HN:=Ad (show b13≠w.heap.size/\b13≠w.heap.size+1/\w.heap.size+1<W.heap.size by have:=HR.o.facts.1;omega)
 have HLB:=Ad (show w.heap.size<=b13 by have:=K.o.size;omega);have HG2:=Ad (HG.o h1 h2);clear p143 p146 p147 p152 hv h1 h2;go_simp;go_upto_region 23 with fail;change Code.wp _ _ _ _ (ivW w1 b13 _ _ _ _ _ _);have KX:=Ad (Az (x:=.bool o2.v.lo.neg) (y:=.slice P pl pc) (z:=.int .i64 o2.v.lo.e) (x':=.bool o2.v.hi.neg) (y':=.slice P' pl' pc') (z':=.int .i64 o2.v.hi.e) (K.o.trans k1) (show w.heap.size<=b13 by have:=K.o.size;omega));have XS:=Ad (BlkIv.store hB13 z1 z2);have XP:=Ad ((F8 w1 b13 w.heap.size (.bool o2.v.lo.neg) (.slice P pl pc) (.int .i64 o2.v.lo.e) (.bool o2.v.hi.neg) (.slice P' pl' pc') (.int .i64 o2.v.hi.e) HN.o.1.symm).trans ((k1.block _ (by have:=HN.o.2.2;omega)).trans HP.o))
 have XR:=Ad (N2 (HR.o.kept k1) HN.o.2.1.symm (.bool o2.v.lo.neg) (.slice P pl pc) (.int .i64 o2.v.lo.e) (.bool o2.v.hi.neg) (.slice P' pl' pc') (.int .i64 o2.v.hi.e));clear C1 C2 hmz hwm hlb hla r0 r1 r2 r3 r4 r5 f0 f1 f2 f3 f4 f5 z1 z2 hB13 hb13 k1 HP HR K HW B1 B2 HG hnb;generalize ivW w1 b13 _ _ _ _ _ _=X1 at *;generalize o2.v=s0 at *;go_wp2_with fail
 go_loopw [14] (λt wr=>∃ (j:Nat) (s:Iv),t=.int .i64 (j:Int)/\2<=j/\j<=n+1/\s.Ok/\N7 p a c n s (List.range' j (n+1-j))=E/\Kept w wr/\wr.heap[w.heap.size]?=some (.cells #[.int .i64 p] 81 (0,0))/\BlkI wr (w.heap.size+1) (.bool false) (.slice none 0 0) (.int .i64 0) (.bool false) (.slice none 0 0) (.int .i64 0)/\BlkIv wr b13 s) (λt _=>(n+1-intOf t).toNat)
 case atStart=>exact ⟨2,s0,rfl,Aq _,by have:=N0.o;omega,OK2.o,by rw [HE.o,HM.o,show n+1-2=n-1 by omega],KX.o,XP.o,XR.o,XS.o⟩
 case round =>
  obtain ⟨j,s,rfl,hj1,hjn,os,hs,hK,hP,hR,hS⟩:=hrel;have J1:=Ad hj1;have OS:=Ad os;have HSS:=Ad hs;have K:=Ad hK;have HP:=Ad hP;have HR:=Ad hR;obtain ⟨As,ls,cs,As',ls',cs',hb,d1,d2⟩:=hS;have HB13:=Ad hb;have D1:=Ad d1;have D2:=Ad d2;have HSr:=Ad (show IvR wr (.agg #[.bool s.lo.neg,.slice As ls cs,.int .i64 s.lo.e,.bool s.hi.neg,.slice As' ls' cs',.int .i64 s.hi.e]) s.raw from ⟨_,_,_,_,_,_,rfl,d1,d2⟩);clear hj1 os hs hK hP hR hb d1 d2 KX XP XR XS;by_cases hj:j<=n
  ·obtain ⟨q,hq⟩:∃ q,q=n-j:=⟨_,rfl⟩;have hqz:(n:Int)-(j:Int)=(q:Int):=by omega
   have hja:j<a.length:=by have:=NA.o;omega
   have hqb:q<c.length:=by have:=NC.o;have:=J1.o;omega
   have hjb:j+1<=2000:=by have:=NA.o;have:=LA.o;omega
   have hwq:IntKind.i64.wrap (q:Int)=(q:Int):=by have:=NA.o;have:=LA.o;simp [IntKind.wrap_i64];omega
   obtain ⟨o1,ho1⟩:∃ o,o=Ew (Fm j) (gI a j) p:=⟨_,rfl⟩;obtain ⟨o2,ho2⟩:∃ o,o=Ew o1.v (gI c q) p:=⟨_,rfl⟩;obtain ⟨o3,ho3⟩:∃ o,o=Gc s o2.v p:=⟨_,rfl⟩;have ok1:o1.v.Ok:=by rw [ho1];exact OM.o _ _
   have ok2:o2.v.Ok:=by rw [ho2];exact OM.o _ _
   have ok3:o3.v.Ok:=by rw [ho3];exact OA.o s o2.v OS.o ok2
   have C1:=Ad (λw1 (k:Kept w w1) v u (hv:IvR w1 v (Fm j).raw) (hu:IvR w1 u (gI a j).raw)=>show Calls Tryz.prog 167 #[.agg #[.int .i64 p],v,u] w1 (Cn o1 w1) by rw [ho1];exact CM.o w1 k _ _ v u (Tr j) (GA.o j hj) hv hu);have C2:=Ad (λw1 (k:Kept w w1) v u (hv:IvR w1 v o1.v.raw) (hu:IvR w1 u (gI c q).raw)=>show Calls Tryz.prog 167 #[.agg #[.int .i64 p],v,u] w1 (Cn o2 w1) by rw [ho2];exact CM.o w1 k _ _ v u ok1 (GC.o q (by have:=J1.o;omega)) hv hu);have C3:=Ad (λw1 (k:Kept w w1) v u (hv:IvR w1 v s.raw) (hu:IvR w1 u o2.v.raw)=>show Calls Tryz.prog 163 #[.agg #[.int .i64 p],v,u] w1 (Cn o3 w1) by rw [ho3];exact CA.o w1 k _ _ v u OS.o ok2 hv hu)
   have hst:E=o1.th λu=>(Ew u (gI c q) p).th λq=>(Gc s q p).th λs'=>N7 p a c n s' (List.range' (j+1) (n-j)):=by
    rw [<-HSS.o,cR p a c n s j (n+1-j) (by omega),<-hq,<-ho1,show n+1-j-1=q by omega]
   have hx:∀ z:Int,z≠0->E.k=z->X.k=z:=λz h0 h=>by rw [HG2.o,Outc.th_bad (by rw [h];exact h0),h]
   have B1:=Ad (λ(h:o1.k≠0)=>show X.k=o1.k from hx _ h (by rw [hst,Outc.th_bad h]));have B2:=Ad (λ(h:o1.k=0) (h':o2.k≠0)=>show X.k=o2.k from hx _ h' (by rw [hst,Outc.th_ok h,<-ho2,Outc.th_bad h']));have B3:=Ad (λ(h:o1.k=0) (h':o2.k=0) (h'':o3.k≠0)=>show X.k=o3.k from hx _ h'' (by rw [hst,Outc.th_ok h,<-ho2,Outc.th_ok h',<-ho3,Outc.th_bad h'']));have GO:=Ad (λ(h:o1.k=0) (h':o2.k=0) (h'':o3.k=0)=>show N7 p a c n o3.v (List.range' (j+1) (n+1-(j+1)))=E by rw [hst,Outc.th_ok h,<-ho2,Outc.th_ok h',<-ho3,Outc.th_ok h'',show n+1-(j+1)=n-j by omega]);have OK3:=Ad ok3;have HN2:=Ad HN.o
   clear hst hx ok1 ok2 ok3 ho1 ho2 ho3 hq;generalize hsn:s.lo.neg=n1,hse:s.lo.e=e1,hsn2:s.hi.neg=n2,hse2:s.hi.e=e2 at *;go_upto_region 26 with fail
   refine Ih 19 ([(vE (.agg #[.int .i64 (p:Int)])),(vE (.agg #[.bool n1,.slice As ls cs,.int .i64 e1,.bool n2,.slice As' ls' cs',.int .i64 e2])),(vE (.agg #[.int .i64 (p:Int)])),(vE (.agg #[.int .i64 (p:Int)])),(vE (.int .i64 (j:Int))),(λv wv=>IvR wv v ((Fm j).raw)),(vE (.slice (some ⟨bA,oA,none⟩) a.length cA)),(vE (.int .i64 (j:Int))),(vE (.pointer (some ⟨bA,oA+j*6,none⟩))),(λv wv=>IvR wv v ((gI a j).raw)),(λv wv=>o1.k=0/\IvR wv v o1.v.raw),(vE (.slice (some ⟨bB,oB,none⟩) c.length cB)),(vE (.int .i64 (n:Int))),(vE (.int .i64 (j:Int))),(vE (.int .i64 (q:Int))),(vE (.pointer (some ⟨bB,oB+q*6,none⟩))),(λv wv=>IvR wv v ((gI c q).raw)),(λv wv=>(o1.k=0/\o2.k=0)/\IvR wv v o2.v.raw),(λv wv=>o3.k=0/\IvR wv v o3.v.raw)])
    (hM:=⟨⟨mE,mE,mE,mE,mE,λv w w' k h=>by first | exact h | exact h.kept k | exact ⟨h.1,h.2.kept k⟩,mE,mE,mE,λv w w' k h=>by first | exact h | exact h.kept k | exact ⟨h.1,h.2.kept k⟩,λv w w' k h=>⟨h.1,h.2.kept k⟩,mE,mE,mE,mE,mE,λv w w' k h=>by first | exact h | exact h.kept k | exact ⟨h.1,h.2.kept k⟩,λv w w' k h=>⟨h.1,h.2.kept k⟩,λv w w' k h=>⟨h.1,h.2.kept k⟩,trivial⟩⟩) ⟨
      (E3 6 λ_ k=>Ai HP.o k 0 _ rfl),(E3 13 λ_ k=>c6 HB13.o k),(E3 6 λ_ k=>Ai HP.o k 0 _ rfl),(E3 6 λ_ k=>Ai HP.o k 0 _ rfl),(gq 14),(λaF wF F=>by have s163:=F.v 4 163;exact sI (CP.o _ (K.o.trans F.kept) j hj) λ_ _ h=>h),(gq 2),(gq 14),(Hz 6 165 7 166),(λaF wF F=>by have s167:=F.v 8 167;obtain ⟨xx,yy,zz,xx',yy',zz',h0,h1,h2,h3,h4,h5,hI⟩:=(HA.o _ (K.o.trans F.kept) j hja);exact sv hI),(λaF wF F=>by have s162:=F.v 3 162;have s164:=F.p 5 164;have s168:=F.p 9 168;exact sJ (C1.o _ (K.o.trans F.kept) _ _ s164 s168) (λ_ _ _ h0 h=>⟨h0,h⟩) (λw2 k2 h0=>⟨F.defers,(by rw [<-HRR.o];exact BAD.o _ (K.o.trans (F.kept.trans k2)) _ h0 (B1.o h0))⟩)),(gq 4),(gq 5),(gq 14),(Hz 12 171 13 172),(Hz 11 170 14 173),(λaF wF F=>by have s174:=F.v 15 174;obtain ⟨xx,yy,zz,xx',yy',zz',h0,h1,h2,h3,h4,h5,hI⟩:=(HB.o _ (K.o.trans F.kept) q hqb);exact sv hI),(λaF wF F=>by have s161:=F.v 2 161;have s169:=F.p 10 169;have s175:=F.p 16 175;exact sJ (C2.o _ (K.o.trans F.kept) _ _ s169.2 s175) (λ_ _ _ h0 h=>⟨⟨s169.1,h0⟩,h⟩) (λw2 k2 h0=>⟨F.defers,(by rw [<-HRR.o];exact BAD.o _ (K.o.trans (F.kept.trans k2)) _ h0 (B2.o s169.1 h0))⟩)),(λaF wF F=>by have s159:=F.v 0 159;have s160:=F.v 1 160;have s176:=F.p 17 176;exact sJ (C3.o _ (K.o.trans F.kept) _ _ (HSr.o.kept F.kept) s176.2) (λ_ _ _ h0 h=>⟨h0,h⟩) (λw2 k2 h0=>⟨F.defers,(by rw [<-HRR.o];exact BAD.o _ (K.o.trans (F.kept.trans k2)) _ h0 (B3.o s176.1.1 s176.1.2 h0))⟩)),
      trivial⟩ ?_
   intro u w1 k1 hu;have p164:=hp hu 5;have p168:=hp hu 9;have p169:=hp hu 10;have p175:=hp hu 16;have p176:=hp hu 17;have p177:=hp hu 18;simp only [Bb,Ap,Act.put,Ep,hv hu 0,hv hu 1,hv hu 2,hv hu 3,hv hu 4,hv hu 6,hv hu 7,hv hu 8,hv hu 11,hv hu 12,hv hu 13,hv hu 14,hv hu 15];clear hu;generalize u 5=v164,u 9=v168,u 10=v169,u 16=v175,u 17=v176,u 18=v177 at *;obtain ⟨h3,hv⟩:=p177;have h1:=p169.1;have h2:=p176.1.2;obtain ⟨Q,ql,qc,Q',ql',qc',rfl,z1,z2⟩:=Ca hv;have hB:=HB13.o.kept k1;obtain ⟨-,r0,r1,r2,r3,r4,r5⟩:=hB.facts;obtain ⟨f0,f1,f2,f3,f4,f5⟩:=hB.free
   have H12:=Ad (GO.o h1 h2 h3);clear p164 p168 p169 p175 p176 hv h1 h2 h3;go_simp;go_upto_region 25 with fail;change Code.wp _ _ _ _ (ivW w1 b13 _ _ _ _ _ _);have lw:w.heap.size<wr.heap.size:=by have:=HR.o.facts.1;omega
   have KX:=Ad (Az (x:=.bool o3.v.lo.neg) (y:=.slice Q ql qc) (z:=.int .i64 o3.v.lo.e) (x':=.bool o3.v.hi.neg) (y':=.slice Q' ql' qc') (z':=.int .i64 o3.v.hi.e) (K.o.trans k1) (show w.heap.size<=b13 by have:=HN2.o.1;have:=HLB.o;omega));have XS:=Ad (BlkIv.store hB z1 z2);have XP:=Ad ((F8 w1 b13 w.heap.size (.bool o3.v.lo.neg) (.slice Q ql qc) (.int .i64 o3.v.lo.e) (.bool o3.v.hi.neg) (.slice Q' ql' qc') (.int .i64 o3.v.hi.e) HN2.o.1.symm).trans ((k1.block _ lw).trans HP.o));have XR:=Ad (N2 (HR.o.kept k1) HN2.o.2.1.symm (.bool o3.v.lo.neg) (.slice Q ql qc) (.int .i64 o3.v.lo.e) (.bool o3.v.hi.neg) (.slice Q' ql' qc') (.int .i64 o3.v.hi.e))
   clear r0 r1 r2 r3 r4 r5 f0 f1 f2 f3 f4 f5 z1 z2 hB k1 lw;generalize ivW w1 b13 _ _ _ _ _ _=X2 at *;go_wp2_with fail;go_roundw
   case rel=>exact ⟨j+1,o3.v,by go_num,by have:=J1.o;omega,by omega,OK3.o,H12.o,KX.o,XP.o,XR.o,XS.o⟩
   case measure=>simp [intOf];omega
  ·obtain rfl:j=n+1:=by omega
   have hs:s=E.v/\E.k=0:=by
    have:=HSS.o;rw [show n+1-(n+1)=0 by omega] at this;rw [<-this];exact ⟨rfl,rfl⟩
   obtain ⟨o4,ho4⟩:∃ o,o=Cm s (Fm n) p:=⟨_,rfl⟩;have hx4:X=o4:=by rw [HG2.o,Outc.th_ok hs.2,ho4,hs.1]
   have C4:=Ad (λw1 (k:Kept w w1) v u (hv:IvR w1 v s.raw) (hu:IvR w1 u (Fm n).raw)=>show Calls Tryz.prog 60 #[.agg #[.int .i64 p],v,u] w1 (Cn o4 w1) by rw [ho4];exact CD.o w1 k _ _ v u OS.o (Tr n) hv hu);have HX4:=Ad hx4;clear ho4 hx4 hs;generalize hsn:s.lo.neg=n1,hse:s.lo.e=e1,hsn2:s.hi.neg=n2,hse2:s.hi.e=e2 at *;go_upto_region 27 with fail
   refine Ih 5 ([(vE (.agg #[.int .i64 (p:Int)])),(vE (.agg #[.bool n1,.slice As ls cs,.int .i64 e1,.bool n2,.slice As' ls' cs',.int .i64 e2])),(vE (.int .i64 (n:Int))),(λv wv=>IvR wv v ((Fm n).raw)),(λv wv=>o4.k=0/\IvR wv v o4.v.raw)])
    ⟨
     (E3 6 λ_ k=>Ai HP.o k 0 _ rfl),(E3 13 λ_ k=>c6 HB13.o k),(gq 5),(λaF wF F=>by have s180:=F.v 2 180;exact sI (CP.o _ (K.o.trans F.kept) n (Aq _)) λ_ _ h=>h),(λaF wF F=>by have s178:=F.v 0 178;have s179:=F.v 1 179;have s181:=F.p 3 181;exact sJ (C4.o _ (K.o.trans F.kept) _ _ (HSr.o.kept F.kept) s181) (λ_ _ _ h0 h=>⟨h0,h⟩) (λw2 k2 h0=>⟨F.defers,(by rw [<-HRR.o];exact BAD.o _ (K.o.trans (F.kept.trans k2)) _ h0 (by rw [HX4.o]))⟩)),
     trivial⟩ ?_
   intro u w1 k1 hu;have p181:=hp hu 3;have p182:=hp hu 4;simp only [Bb,Ap,Act.put,Ep,hv hu 0,hv hu 1,hv hu 2];clear hu;generalize u 3=v181,u 4=v182 at *;obtain ⟨h0,hv⟩:=p182;obtain ⟨P9,pl9,pc9,P9',pl9',pc9',rfl,z1,z2⟩:=Ca hv;have hr:=HR.o.kept k1;obtain ⟨-,r0,r1,r2,r3,r4,r5⟩:=hr.facts;obtain ⟨f0,f1,f2,f3,f4,f5⟩:=hr.free;have HRR2:=Ad hr;have Z1:=Ad z1;have Z2:=Ad z2;have H0:=Ad h0;have K1:=Ad k1;clear hr z1 z2 hv h0 k1 p181;go_simp;go_wp2_with fail;rw [<-HRR.o,HX4.o];exact Fp (HRR2.o.laid _ _ _ _ _ _) rfl rfl rfl ⟨Az (K.o.trans K1.o) (by omega),.inl ⟨H0.o,_,rfl,_,_,_,_,_,_,rfl,Z1.o.ivW HRR2.o _ _ _ _ _ _,Z2.o.ivW HRR2.o _ _ _ _ _ _⟩⟩
section
variable {ov:Iv->Nat->Outc Iv} {S:Int->Prop}
theorem nz (O:H8 S)(h6:S 6):im ov (λop=>op=6):=by
 intro w va vb vc a b c op n p hop ha hb hc ga gb gc na nb nc la lb hT p1 p2;subst hop;exact pV O h6 ha hb ga gb na nb la lb hT p1 (by omega)
theorem nE (O:H8 S)(h7:S 7):im ov (λop=>op=7):=by
 intro w va vb vc a b c op n p hop ha hb hc ga gb gc na nb nc la lb hT p1 p2;subst hop;exact qm O h7 ha hb ga gb na nb la lb hT p1 (by omega)
theorem nC (O:H8 S)(h10:S 10):im ov (λop=>op=10):=by
 intro w va vb vc a b c op n p hop ha hb hc ga gb gc na nb nc la lb hT p1 p2;subst hop;exact qi O h10 ha ga na la hT p1 p2
theorem kd (O:H8 S)(h6:S 6)(h7:S 7)(h8:S 8)(h9:S 9)(h12:S 12):im ov (λop=>op=12):=by
 intro w va vb vc a b c op n p hop ha hb hc ga gb gc na nb nc la lb hT p1 p2;subst hop
 show Calls _ _ _ _ (Cn (if n=0 then Gh (gI a 0) p else _) w)
 by_cases h:n=0
 ·rw [Ak h];have:=jZ (vb:=vb) (vc:=vc) O h12 ha ga na la hT p1 p2 h;rw [h] at this ⊢;exact this
 ·rw [Af h];exact nv O h6 h7 h8 h9 ha hc ga gc na (by omega) nc.symm la (by omega) hT p1 (by omega)
theorem nA (O:H8 S)(h6:S 6)(h8:S 8)(h9:S 9)(V:qJ ov):im ov (λop=>op=13):=by
 intro w va vb vc a b c op n p hop ha hb hc ga gb gc na nb nc la lb hT p1 p2;subst hop
 show Calls _ _ _ _ (Cn (if n=0 then ov (gI a 0) p else _) w)
 by_cases h:n=0
 ·rw [Ak h];have:=nm (vb:=vb) (vc:=vc) V ha ga na la hT p1 p2 h;rw [h] at this ⊢;exact this
 ·rw [Af h];exact qe O h6 h8 h9 ha hc ga gc na (by omega) nc.symm la (by omega) hT p1 (by omega)
def iu (op:Int):Prop:=6<=op/\op<=13
theorem n6 (O:H8 iu)(V:qJ ov):im ov iu:=by
 intro w va vb vc a b c op n p hop;have h:∀ i:Int,6<=i->i<=13->iu i:=λi a b=>⟨a,b⟩
 have:op=6\/op=7\/op=8\/op=9\/op=10\/op=11\/op=12\/op=13:=by unfold iu at hop;omega
 rcases this with e | e | e | e | e | e | e | e
 ·exact nz O (h 6 (by decide) (by decide)) e
 ·exact nE O (h 7 (by decide) (by decide)) e
 ·exact nB O (h 6 (by decide) (by decide)) (h 8 (by decide) (by decide)) e
 ·exact n7 O (h 7 (by decide) (by decide)) (h 8 (by decide) (by decide)) (h 9 (by decide) (by decide)) e
 ·exact nC O (h 10 (by decide) (by decide)) e
 ·exact nD O (h 6 (by decide) (by decide)) (h 8 (by decide) (by decide)) (h 11 (by decide) (by decide)) e
 ·exact kd O (h 6 (by decide) (by decide)) (h 7 (by decide) (by decide)) (h 8 (by decide) (by decide)) (h 9 (by decide) (by decide)) (h 12 (by decide) (by decide)) e
 ·exact nA O (h 6 (by decide) (by decide)) (h 8 (by decide) (by decide)) (h 9 (by decide) (by decide)) V e
end
theorem Xh (V:∀ a p,a.Ok->1<=p->p<=300->We (ov a p))(p1:1<=p)(p2:p<=300)(ga:Gd a)(gb:Gd b)(gc:Gd c)(ho:iu op)(h:(Fl ov p op a b c n).k=0):(Fl ov p op a b c n).v.Ok:=by
 have:op=6\/op=7\/op=8\/op=9\/op=10\/op=11\/op=12\/op=13:=by unfold iu at ho;omega
 rcases this with rfl | rfl | rfl | rfl | rfl | rfl | rfl | rfl
 ·exact (J9 (Lj ga n) (Lj gb n) p1).1
 ·exact (Rm (Lj ga n) (Lj gb n) p1).1
 ·exact Sc p1 ga gb (.inl rfl) h
 ·exact Sc p1 ga gb (.inr (.inr rfl)) h
 ·exact (Y2 (Lj ga n) p1).1
 ·exact Sc p1 ga gb (.inr (.inl rfl)) h
 ·by_cases h0:n=0
  ·subst h0;exact (Vn (Lj ga 0) p1).1
  ·have e:Fl ov p 12 a b c n=(Iq p c c n (gI a n) (List.range' 1 (n-1))).th fun x=>(Gc (gI c 0) (gI c 0) p).th fun y=>Cm x y p:=by
    show (if n=0 then _ else _)=_
    rw [Af h0]
   rw [e] at h ⊢;obtain ⟨-,q1⟩:=Zh h;rw [q1] at h ⊢;obtain ⟨-,q2⟩:=Zh h;rw [q2];exact (Kd (J9 (Lj gc 0) (Lj gc 0) p1).1 p1).1
 ·by_cases h0:n=0
  ·subst h0;exact (V _ p (Lj ga 0) p1 p2).1
  ·have e:Fl ov p 13 a b c n=(Ew (Fm 1) (gI a 1) p).th fun u=>(Ew u (gI c (n-1)) p).th fun s=>(N7 p a c n s (List.range' 2 (n-1))).th fun s=>Cm s (Fm n) p:=by
    show (if n=0 then _ else _)=_
    rw [Af h0]
   rw [e] at h ⊢;obtain ⟨-,q1⟩:=Zh h;rw [q1] at h ⊢;obtain ⟨-,q2⟩:=Zh h;rw [q2] at h ⊢;obtain ⟨-,q3⟩:=Zh h;rw [q3];exact (Kd (Tr n) p1).1
theorem Wy {ov:Iv->Nat->Outc Iv}{p:Nat}{op:Int}{a b:List RawI}(V:∀ a p,a.Ok->1<=p->p<=300->We (ov a p))(p1:1<=p)(p2:p<=300)(ga:Gd a)(gb:Gd b)(ho:iu op):∀ (js:List Nat) (c:List RawI),Gd c->(Lg ov p op a b c js).k=0->Gd (Lg ov p op a b c js).v/\(Lg ov p op a b c js).v.length=c.length+js.length
 | [],c,hc,_=>⟨hc,rfl⟩
 | j :: js, c, hc, h => by
   rw [Lg] at h ⊢;by_cases e:(Fl ov p op a b c j).k=0
   ·rw [Ak e] at h ⊢;obtain ⟨h1,h2⟩:=Wy V p1 p2 ga gb ho js _ (hc.snoc (Xh V p1 p2 ga gb hc ho e)) h;refine ⟨h1,?_⟩;rw [h2];simp;omega
   ·rw [Af e] at h;exact absurd h e
theorem jx {j m:Nat}{l:Ln}(V:∀ a p,a.Ok->1<=p->p<=300->We (ov a p))(N:im ov iu)(ho:iu l.op)(ha:l.a=(j:Int))(hb:l.b=(m:Int))(hj:j<i)(hm:m<i)(hk:k<=900)(p1:1<=p)(p2:p<=300):Xx tm ov p k t x q i l:=by
 have h6:6<=l.op:=ho.1;refine ⟨λall hi gall e=>?_,?_⟩
 ·subst hi;obtain ⟨g1,g2⟩:=gall.at hj;obtain ⟨g3,g4⟩:=gall.at hm;rw [jC _ _ _ _ _ _ _ _ h6,Hy,Hy,ha,hb,Int.toNat_natCast,Int.toNat_natCast] at e ⊢;obtain ⟨q1,q2⟩:=Wy V p1 p2 g1 g3 ho _ _ gd_nil e;exact ⟨q1,by rw [q2];simp⟩
 ·intro w vl vall vt vx vq all hl hall hi gall ht hx hq hT;subst hi;obtain ⟨g1,g2⟩:=gall.at hj;obtain ⟨g3,g4⟩:=gall.at hm;rw [jC _ _ _ _ _ _ _ _ h6,Hy,Hy,ha,hb,Int.toNat_natCast,Int.toNat_natCast];exact mN N ho h6 hl hall ha hb hj hm g1 g3 (by omega) (by omega) (by omega) (by omega) (λc n hc hn h0=>Xh V p1 p2 g1 g3 hc ho h0) hT p1 p2
end Go.Proofs.YtabjjdicffcolaaGreatDoor
