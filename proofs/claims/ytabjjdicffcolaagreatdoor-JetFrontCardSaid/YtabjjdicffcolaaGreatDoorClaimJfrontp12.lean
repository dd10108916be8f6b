/- Words and contracts, part 12. -/
import Derived.Test.YtabjjdicffcolaaGreatDoorClaimJfrontp10
set_option maxRecDepth 100000
set_option maxHeartbeats 0
namespace Go.Proofs.YtabjjdicffcolaaGreatDoor
open Go.RowKit
variable {cap tmps:Array Value} {up:Bool} {a:Iv} {l:List RawI} {K b b' ba bb bp c p:Nat} {A A':Option Addr} {o res:Outc RawI} {r:Raw} {v x x' y y' z z':Value} {w w':World}
def Ji (T:TypeId) (o:Outc RawI) (w:World) (e:Ending) (w':World):Prop :=
 Kept w w'/\((o.k=0/\∃ v1 v2,e=.returned (.tuple #[v1,v2])/\DyR w' v1 o.v.lo/\DyR w' v2 o.v.hi)\/(o.k≠0/\e=.panicked (By T o.k)))
def IvAt (w:World) (b o:Nat) (a:RawI):Prop:=∃ x y z x' y' z',w.cell? ⟨b,o,none⟩=some x/\w.cell? ⟨b,o+1,none⟩=some y/\w.cell? ⟨b,o+2,none⟩=some z /\
 w.cell? ⟨b,o+3,none⟩=some x'/\w.cell? ⟨b,o+4,none⟩=some y'/\w.cell? ⟨b,o+5,none⟩=some z'/\IvR w (.agg #[x,y,z,x',y',z']) a
def IvS (w:World) (v:Value) (l:List RawI):Prop:=∃ A c,v=.slice A l.length c/\l.length<=c/\(0<l.length->∃ b off,A=some ⟨b,off,none⟩/\∀ i a,l[i]?=some a->IvAt w b (off+i*6) a)
theorem IvAt.kept {o:Nat}{a:RawI}(h:IvAt w b o a)(k:Kept w w'):IvAt w' b o a:=by
 obtain ⟨x,y,z,x',y',z',h0,h1,h2,h3,h4,h5,hd⟩:=h;have hb:=Av h0
 exact ⟨x,y,z,x',y',z',(k.cell (p:=⟨b,o,none⟩) hb).trans h0,(k.cell (p:=⟨b,o+1,none⟩) hb).trans h1,(k.cell (p:=⟨b,o+2,none⟩) hb).trans h2,
  (k.cell (p:=⟨b,o+3,none⟩) hb).trans h3,(k.cell (p:=⟨b,o+4,none⟩) hb).trans h4,(k.cell (p:=⟨b,o+5,none⟩) hb).trans h5,hd.kept k⟩
theorem IvS.kept (h:IvS w v l)(k:Kept w w'):IvS w' v l:=by
 obtain ⟨A,c,rfl,hc,hA⟩:=h;refine ⟨A,c,rfl,hc,λh0=>?_⟩;obtain ⟨b,off,rfl,hd⟩:=hA h0;exact ⟨b,off,rfl,λi d hi=>(hd i d hi).kept k⟩
theorem Cw (w:World):DyR w (.agg #[.bool false,.slice none 0 0,.int .i64 0]) rz:=⟨_,rfl,Lim.nil _ _ _,by decide,by decide⟩
def rzI:RawI:=⟨rz,rz⟩
theorem Gr (w:World):IvR w (.agg #[.bool false,.slice none 0 0,.int .i64 0,.bool false,.slice none 0 0,.int .i64 0]) rzI:=⟨_,_,_,_,_,_,rfl,Cw w,Cw w⟩
def Fs (p:Int) (l:List RawI) (o:Outc RawI):Outc RawI:=if 1<=p/\p<=2000/\l.all Dl=true then o else ⟨rzI,1⟩
theorem Za {q:Value}(h:BlkI w b x y z x' y' z')(h':w.cell? ⟨b',0,none⟩=some q)
 (ht:tmps.getD 6 undef=.pointer (some ⟨b,0,none⟩)) (ht':tmps.getD 7 undef=.pointer (some ⟨b',0,none⟩)) :
 (results Tryz.f124 tmps).run Tryz.prog w=.ok (.tuple #[.agg #[x,y,z,x',y',z'],q]) w:=by
 obtain ⟨_,c0,c1,c2,c3,c4,c5⟩:=h.facts;have t1:tmps[6]?.getD undef=.pointer (some ⟨b,0,none⟩):=by simpa using ht
 have t2:tmps[7]?.getD undef=.pointer (some ⟨b',0,none⟩):=by simpa using ht'
 simp [results,Tryz.results124,t1,t2,go_sem,c0,c1,c2,c3,c4,c5,h']
theorem M0 {p:Int}(hv:IvS w v l)(hl:∀ a∈l,a.lens 17592186044416)(hn:l.length<=1000)
 (h:1<=p->p<=2000->l.all Dl=true->∀ w1,Kept w w1->Calls Tryz.prog K cap w1 (Ji 166 o w1)) (hz:o.k≠0->o.v=rzI)
 (hk:∀ w,(callFunc K cap).run Tryz.prog w=.ok (.enter K cap) w) :
 Calls Tryz.prog 124 #[.int .i64 p,.func (.func K) #[] cap,v] w (RetIE (Fs p l o) w):=by
 have hmf:=Hf;obtain ⟨A,c,rfl,hc,hA⟩:=hv;have HH:=Ad h;have HA:=Ad hA;have HL:=Ad hl;have HZ:=Ad hz;have HK:=Ad hk;clear h hA hl hz hk;obtain ⟨n,hn'⟩:∃ n,n=l.length:=⟨_,rfl⟩;rw [<-hn'] at hn hc HA ⊢;have HN:=Ad hn';clear hn';obtain ⟨W,hW⟩:∃ W,W=(w.alloc (.cells #[.bool false,.slice none 0 0,.int .i64 0,.bool false,.slice none 0 0,.int .i64 0] 30)).alloc (.cells #[.int .i64 0] 3):=⟨_,rfl⟩;have kW:Kept w W:=by rw [hW];exact (Ab _ _).trans (Ab _ _)
 have b0:BlkI W w.heap.size (.bool false) (.slice none 0 0) (.int .i64 0) (.bool false) (.slice none 0 0) (.int .i64 0):=by rw [hW];exact (Gw w).kept (Ab _ _)
 have b1:W.heap[w.heap.size+1]?=some (.cells #[.int .i64 0] 3 (0,0)):=by
  rw [hW];have:=heap_alloc_new (w.alloc (.cells #[.bool false,.slice none 0 0,.int .i64 0,.bool false,.slice none 0 0,.int .i64 0] 30)) (.cells #[.int .i64 0] 3);simpa using this
 have HW:=Ad hW;have KW:=Ad kW;have B0:=Ad b0;have B1:=Ad b1;clear hW kW b0 b1;by_cases hp:1<=p/\p<=2000
 ·have hd1:decide (1≤p)=true:=by simp [hp.1]
  have hd2:decide (p<=2000)=true:=by simp [hp.2]
  have HP:=Ad hp;clear hp
  go_enter_defers Tryz.func124,Tryz.ntmps124
  go_wp2_with fail;rw [<-HW.o];refine (Kv 1 _).mono ?_;rintro e w1 ⟨rfl,q⟩;have K1:=Ad q;clear q;simp only [];go_wp2_with fail
  go_loopw [22] (λt wr=>∃ k:Nat,k<=n/\t=.int .i64 k/\(∀ i a,i<k->l[i]?=some a->Dl a=true)/\Kept W wr) (λt _=>(n-intOf t).toNat)
  case atStart=>exact ⟨0,Nat.zero_le _,rfl,λi a hi=>absurd hi (Nat.not_lt_zero _),K1.o⟩
  case round =>
   obtain ⟨k,hk,rfl,hall,hKr⟩:=hrel;have KR:=Ad hKr;have AL:=Ad hall;clear hKr hall;by_cases hlt:k<n
   ·obtain ⟨b,off,rfl,hd⟩:=HA.out (by omega);obtain ⟨a,hak⟩:∃ a,l[k]?=some a:=⟨_,Cd (by have:=HN.out;omega)⟩;obtain ⟨x,y,z,x',y',z',h0,h1,h2,h3,h4,h5,hI⟩:=(hd k a hak).kept (KW.out.trans KR.out);obtain ⟨A1,l1,c1,A2,l2,c2,ei,-,-⟩:=Ar hI;injection ei with ei;injection ei with ei
    simp only [List.cons.injEq,and_true] at ei;obtain ⟨rfl,rfl,rfl,rfl,rfl,rfl⟩:=ei;have hm:=λw2 (q:Kept wr w2)=>Up (hI.kept q) (HL.o a (Dc hak))
    have AK:=Ad hak;clear hd hak hI;obtain ⟨mb,hmb⟩:∃ mb,mb=Dl a:=⟨_,rfl⟩;rw [<-hmb] at hm;have HMB:=Ad hmb;have HM:=Ad hm;clear hmb hm;generalize a.lo.neg=n1,a.lo.e=e1,a.hi.neg=n2,a.hi.e=e2 at *;go_wp2_with fail;refine (HM.o _ (Ab _ _)).mono ?_;rintro e w2 ⟨rfl,q⟩;have K2:=Ad (KR.o.trans ((Ab _ _).trans q));clear q h0 h1 h2 h3 h4 h5;simp only [];go_wp2_with fail;cases mb
    ·refine (Nb false 1 _).mono ?_;rintro e w3 ⟨he,rfl⟩;obtain rfl:e=.panicked (By 166 1):=he;have hpost:Fs p l o=⟨rzI,1⟩:=by
      unfold Fs;rw [Af];rintro ⟨-,-,h3⟩;rw [List.all_eq_true] at h3;have:=h3 a (Dc AK.o);rw [<-HMB.o] at this;cases this
     change bodyPostD _ _ (RetIE (Fs p l o) w) (Exit.panic _) _ _;rw [hpost];refine leaves_cons (f:=172) (args:=#[.pointer (some ⟨w.heap.size,0,none⟩),.pointer (some ⟨w.heap.size+1,0,none⟩)]) (by simp) (by simp [go_sem]) ?_;have y0:=B0.o.kept K2.o;have y1:=((Below.block K2.o) (w.heap.size+1) (Bi B1.o).1).trans B1.o;refine (Le _ _ _ _ _ _ _ _ _ _ _ y0 y1 (by omega)).mono ?_;rintro e u' w4 ⟨rfl,rfl,rfl⟩;obtain ⟨d0,d1⟩:=Jk (x:=.bool false) (y:=.slice none 0 0) (z:=.int .i64 0) (x':=.bool false) (y':=.slice none 0 0) (z':=.int .i64 0) (q:=.int .i64 (1:Int)) (o:=.cells #[.int .i64 (1:Int)] 166) y0 y1 (by omega)
     have hkept:=Kr (x:=.bool false) (y:=.slice none 0 0) (z:=.int .i64 0) (x':=.bool false) (y':=.slice none 0 0) (z':=.int .i64 0) (q:=.int .i64 (1:Int)) (o:=.cells #[.int .i64 (1:Int)] 166) (KW.o.trans K2.o) (Aq w.heap.size) (Nat.le_succ w.heap.size);have HKE:=Ad hkept;clear hkept y0 y1;refine ⟨.tuple #[.agg #[.bool false,.slice none 0 0,.int .i64 0,.bool false,.slice none 0 0,.int .i64 0],.int .i64 (1:Int)],?_,?_⟩
     ·obtain ⟨-,c0,c1,c2,c3,c4,c5⟩:=d0.facts;generalize laidI _ _ _ _ _ _ _ _ _ _ _=WW at *;simp [results,Tryz.results124,go_sem,c0,c1,c2,c3,c4,c5,d1]
     ·exact ⟨HKE.o.drew,_,rfl,Gr _⟩
    ·refine (Kv 1 _).mono ?_;rintro e w3 ⟨rfl,q⟩;replace K2:=Ad (K2.out.trans q);simp only [];go_wp2_with fail;go_roundw
     case rel =>
      refine ⟨k+1,by omega,by go_num,λi a' hi ha'=>?_,K2.o⟩;by_cases hik:i=k
      ·subst hik;rw [AK.out] at ha';injection ha' with ha'
       rw [<-ha',<-HMB.o]
      ·exact AL.o i a' (by omega) ha'
     case measure=>simp [intOf];omega
   ·obtain rfl:k=n:=by omega
    have hcall:=HH.o HP.o.1 HP.o.2 (by
     rw [List.all_eq_true];intro a ha;obtain ⟨i,hi,rfl⟩:=List.getElem_of_mem ha;exact AL.o i _ (by have:=HN.o;omega) (Cd hi))
    have HC:=Ad hcall;clear hcall;have hk:=HK.o;go_wp2_with fail;have hpost:Fs p l o=o:=by
     unfold Fs;rw [Ak];refine ⟨HP.o.1,HP.o.2,?_⟩;rw [List.all_eq_true];intro a ha;obtain ⟨i,hi,rfl⟩:=List.getElem_of_mem ha;exact AL.o i _ (by have:=HN.o;omega) (Cd hi)
    refine (HC.o _ (KW.o.trans KR.o)).mono ?_;rintro e w2 ⟨q,⟨h0,v1,v2,rfl,z1,z2⟩ | ⟨h0,rfl⟩⟩
    ·obtain ⟨A1,l1,c1,rfl,z1⟩:=Bf z1;obtain ⟨A2,l2,c2,rfl,z2⟩:=Bf z2;have y0:=B0.out.kept (KR.out.trans q);have y1:=(q.block (w.heap.size+1) (by have:=(Bi B1.out).1;have:=KR.out.size;omega)).trans (((KR.out).block (w.heap.size+1) (Bi B1.out).1).trans B1.out);obtain ⟨lb,r0,r1,r2,r3,r4,r5⟩:=y0.facts;obtain ⟨f0,f1,f2,f3,f4,f5⟩:=y0.free;have lb1:w.heap.size+1<w2.heap.size:=(Bi y1).1;have s0:=Ae y1 0 _ rfl;have g0:=Aw y1 0;have m1:¬w.heap.size=w2.heap.size:=by omega
     have m2:¬w.heap.size+1=w2.heap.size:=by omega
     have m3:¬w.heap.size=w2.heap.size+1:=by omega
     have m4:¬w.heap.size+1=w2.heap.size+1:=by omega
     have m5:¬w.heap.size=w.heap.size+1:=by omega
     have Z1:=Ad z1;have Z2:=Ad z2;have Y0:=Ad y0;have Y1:=Ad y1;have H0:=Ad h0;have K2:=Ad (KW.o.trans (KR.o.trans q));have HPOST:=Ad hpost;clear z1 z2 y0 y1 h0 q hpost hk;simp only [];go_wp2_with fail;refine leaves_cons (f:=172) (args:=#[.pointer (some ⟨w.heap.size,0,none⟩),.pointer (some ⟨w.heap.size+1,0,none⟩)]) (by simp) (by simp [go_sem]) ?_;refine (Zs _ _ _).mono ?_;rintro e u' w4 ⟨rfl,rfl,rfl⟩;obtain ⟨x0,x1⟩:=Jk (x:=.bool o.v.lo.neg) (y:=.slice A1 l1 c1) (z:=.int .i64 o.v.lo.e) (x':=.bool o.v.hi.neg) (y':=.slice A2 l2 c2) (z':=.int .i64 o.v.hi.e) (q:=.int .i64 0) (o:=.cells #[.bool o.v.lo.neg,.slice A1 l1 c1,.int .i64 o.v.lo.e] 28) Y0.o Y1.o m5
     refine ⟨_,Za ((x0.kept (Ab _ _)).kept (Ab _ _)) (An (Ab _ _) (An (Ab _ _) x1)) rfl rfl,?_⟩;rw [HPOST.o];refine ⟨((Kr K2.o (Aq _) (Nat.le_succ _)).trans (Ab _ _)).trans (Ab _ _),_,by rw [H0.o],_,_,_,_,_,_,rfl,?_,?_⟩
     ·exact ((Z1.o.laidI Y0.o Y1.o m5 _ _ _ _ _ _ _ _).kept (Ab _ _)).kept (Ab _ _)
     ·exact ((Z2.o.laidI Y0.o Y1.o m5 _ _ _ _ _ _ _ _).kept (Ab _ _)).kept (Ab _ _)
    ·have K2:=Ad (KR.out.trans q);have hpost2:Fs p l o=⟨rzI,o.k⟩:=by rw [hpost,←HZ.out h0]
     change bodyPostD _ _ (RetIE (Fs p l o) w) (Exit.panic _) _ _;rw [hpost2];refine leaves_cons (f:=172) (args:=#[.pointer (some ⟨w.heap.size,0,none⟩),.pointer (some ⟨w.heap.size+1,0,none⟩)]) (by simp) (by simp [go_sem]) ?_;have y0:=B0.o.kept K2.o;have y1:=((Below.block K2.o) (w.heap.size+1) (Bi B1.o).1).trans B1.o;refine (Le _ _ _ _ _ _ _ _ _ _ _ y0 y1 (by omega)).mono ?_;rintro e u' w4 ⟨rfl,rfl,rfl⟩;obtain ⟨d0,d1⟩:=Jk (x:=.bool false) (y:=.slice none 0 0) (z:=.int .i64 0) (x':=.bool false) (y':=.slice none 0 0) (z':=.int .i64 0) (q:=.int .i64 o.k) (o:=.cells #[.int .i64 o.k] 166) y0 y1 (by omega)
     have hkept:=Kr (x:=.bool false) (y:=.slice none 0 0) (z:=.int .i64 0) (x':=.bool false) (y':=.slice none 0 0) (z':=.int .i64 0) (q:=.int .i64 o.k) (o:=.cells #[.int .i64 o.k] 166) (KW.o.trans K2.o) (Aq w.heap.size) (Nat.le_succ w.heap.size);have HKE:=Ad hkept;clear hkept y0 y1;refine ⟨.tuple #[.agg #[.bool false,.slice none 0 0,.int .i64 0,.bool false,.slice none 0 0,.int .i64 0],.int .i64 o.k],?_,?_⟩
     ·obtain ⟨-,c0,c1,c2,c3,c4,c5⟩:=d0.facts;generalize laidI _ _ _ _ _ _ _ _ _ _ _=WW at *;simp [results,Tryz.results124,go_sem,c0,c1,c2,c3,c4,c5,d1]
     ·exact ⟨HKE.o.drew,_,rfl,Gr _⟩
 ·have hpost:Fs p l o=⟨rzI,1⟩:=by
   unfold Fs;rw [Af];rintro ⟨h1,h2,-⟩;exact hp ⟨h1,h2⟩
  rw [hpost];have K2:=Ad (Below.refl W.heap.size W);by_cases h1:1<=p
  ·have hd1:decide (1≤p)=true:=by simp [h1]
   have hd2:decide (p<=2000)=false:=by simp;omega
   clear hp h1
   go_enter_defers Tryz.func124,Tryz.ntmps124
   go_wp2_with fail;rw [<-HW.o];refine (Nb false 1 _).mono ?_;rintro e w3 ⟨he,rfl⟩;obtain rfl:e=.panicked (By 166 1):=he;change bodyPostD _ _ _ (Exit.panic _) _ _;refine leaves_cons (f:=172) (args:=#[.pointer (some ⟨w.heap.size,0,none⟩),.pointer (some ⟨w.heap.size+1,0,none⟩)]) (by simp) (by simp [go_sem]) ?_;have y0:=B0.o.kept K2.o;have y1:=((Below.block K2.o) (w.heap.size+1) (Bi B1.o).1).trans B1.o;refine (Le _ _ _ _ _ _ _ _ _ _ _ y0 y1 (by omega)).mono ?_;rintro e u' w4 ⟨rfl,rfl,rfl⟩;obtain ⟨d0,d1⟩:=Jk (x:=.bool false) (y:=.slice none 0 0) (z:=.int .i64 0) (x':=.bool false) (y':=.slice none 0 0) (z':=.int .i64 0) (q:=.int .i64 (1:Int)) (o:=.cells #[.int .i64 (1:Int)] 166) y0 y1 (by omega)
   have hkept:=Kr (x:=.bool false) (y:=.slice none 0 0) (z:=.int .i64 0) (x':=.bool false) (y':=.slice none 0 0) (z':=.int .i64 0) (q:=.int .i64 (1:Int)) (o:=.cells #[.int .i64 (1:Int)] 166) (KW.o.trans K2.o) (Aq w.heap.size) (Nat.le_succ w.heap.size);have HKE:=Ad hkept;clear hkept y0 y1;refine ⟨.tuple #[.agg #[.bool false,.slice none 0 0,.int .i64 0,.bool false,.slice none 0 0,.int .i64 0],.int .i64 (1:Int)],?_,?_⟩
   ·obtain ⟨-,c0,c1,c2,c3,c4,c5⟩:=d0.facts;generalize laidI _ _ _ _ _ _ _ _ _ _ _=WW at *;simp [results,Tryz.results124,go_sem,c0,c1,c2,c3,c4,c5,d1]
   ·exact ⟨HKE.o.drew,_,rfl,Gr _⟩
  ·have hd1:decide (1≤p)=false:=by simp;omega
   clear hp h1
   go_enter_defers Tryz.func124,Tryz.ntmps124
   go_wp2_with fail;rw [<-HW.o];refine (Nb false 1 _).mono ?_;rintro e w3 ⟨he,rfl⟩;obtain rfl:e=.panicked (By 166 1):=he;change bodyPostD _ _ _ (Exit.panic _) _ _;refine leaves_cons (f:=172) (args:=#[.pointer (some ⟨w.heap.size,0,none⟩),.pointer (some ⟨w.heap.size+1,0,none⟩)]) (by simp) (by simp [go_sem]) ?_;have y0:=B0.o.kept K2.o;have y1:=((Below.block K2.o) (w.heap.size+1) (Bi B1.o).1).trans B1.o;refine (Le _ _ _ _ _ _ _ _ _ _ _ y0 y1 (by omega)).mono ?_;rintro e u' w4 ⟨rfl,rfl,rfl⟩;obtain ⟨d0,d1⟩:=Jk (x:=.bool false) (y:=.slice none 0 0) (z:=.int .i64 0) (x':=.bool false) (y':=.slice none 0 0) (z':=.int .i64 0) (q:=.int .i64 (1:Int)) (o:=.cells #[.int .i64 (1:Int)] 166) y0 y1 (by omega)
   have hkept:=Kr (x:=.bool false) (y:=.slice none 0 0) (z:=.int .i64 0) (x':=.bool false) (y':=.slice none 0 0) (z':=.int .i64 0) (q:=.int .i64 (1:Int)) (o:=.cells #[.int .i64 (1:Int)] 166) (KW.o.trans K2.o) (Aq w.heap.size) (Nat.le_succ w.heap.size);have HKE:=Ad hkept;clear hkept y0 y1;refine ⟨.tuple #[.agg #[.bool false,.slice none 0 0,.int .i64 0,.bool false,.slice none 0 0,.int .i64 0],.int .i64 (1:Int)],?_,?_⟩
   ·obtain ⟨-,c0,c1,c2,c3,c4,c5⟩:=d0.facts;generalize laidI _ _ _ _ _ _ _ _ _ _ _=WW at *;simp [results,Tryz.results124,go_sem,c0,c1,c2,c3,c4,c5,d1]
   ·exact ⟨HKE.o.drew,_,rfl,Gr _⟩
instance iIS {l:List RawI}:Nonempty (Lv λv w=>IvS w v l):=⟨λ_ _ _ k h=>h.kept k⟩
def Dr (v:Iv):List Int->Outc Iv
 | []=>⟨v,0⟩
 | k::l=>if k≠0 then ⟨iz,k⟩ else Dr v l
theorem Ui (o1 o3:Outc Dy)(f g:Dy->Outc Dy):Gp (o1.bind dz f) (o3.bind dz g)=Dr ⟨(f o1.v).v,(g o3.v).v⟩ [o1.k,(f o1.v).k,o3.k,(g o3.v).k]:=by
 unfold Gp Outc.bind;simp only [Dr];by_cases h1:o1.k=0
 ·simp only [h1,if_true,ne_eq,not_true_eq_false,if_false];by_cases h2:(f o1.v).k=0
  ·simp only [h2,if_true,not_true_eq_false,if_false];by_cases h3:o3.k=0
   ·simp only [h3,if_true,not_true_eq_false,if_false];by_cases h4:(g o3.v).k=0
    ·simp only [h4,if_true,not_true_eq_false,if_false]
    ·simp only [h4,if_false,not_false_eq_true,if_true]
   ·simp only [h3,if_false,not_false_eq_true,if_true]
  ·simp only [h2,if_false,not_false_eq_true,if_true]
 ·simp only [h1,if_false,ne_eq,not_false_eq_true,if_true]
def Bn (o:Outc Iv):Outc RawI:=⟨o.v.raw,o.k⟩
theorem R5:iz.raw=rzI:=by show RawI.mk dz.raw dz.raw=⟨rz,rz⟩;rw [Ge]
theorem Eo {fn:Func}{R:Ending->World->Prop}{a:Act}{t t':Nat}(h:Blk w b x y z)(h':Blk w b' x' y' z')
 (hres:fn.results=#[.cell t 28,.cell t' 28]) (ht:a.tmps.getD t undef=.pointer (some ⟨b,0,none⟩)) (ht':a.tmps.getD t' undef=.pointer (some ⟨b',0,none⟩)) (hd:a.defers=[])
 (hR:R (.returned (.tuple #[.agg #[x,y,z],.agg #[x',y',z']])) w):bodyPost Tryz.prog fn R .ret a w:=by
 obtain ⟨_,c0,c1,c2,_⟩:=h.facts;obtain ⟨_,d0,d1,d2,_⟩:=h'.facts;refine bodyPost_ret (v:=.tuple #[.agg #[x,y,z],.agg #[x',y',z']]) ?_ hd hR;have ht2:a.tmps[t]?.getD undef=.pointer (some ⟨b,0,none⟩):=by simpa using ht
 have ht3:a.tmps[t']?.getD undef=.pointer (some ⟨b',0,none⟩):=by simpa using ht'
 simp [results,hres,ht2,ht3,go_sem,c0,c1,c2,d0,d1,d2]
theorem DyR.dyW (h:DyR w v r)(h0:Blk w b x y z)(hx:Bv x)(hy:Bv y)(hz:Bv z)(x' y' z':Value):DyR (Go.Proofs.YtabjjdicffcolaaGreatDoor.dyW w b x' y' z') v r:=by
 obtain ⟨s,rfl,hs,h1,h2⟩:=h;exact ⟨s,rfl,hs.dyW h0 hx hy hz,h1,h2⟩
theorem Jv {w1:World}{b3 b4:Nat}{r1 r2:Raw}{l l' c':Nat}{T:TypeId}(hk:Kept w w1)(h3:w.heap.size<=b3)(h4:w.heap.size<=b4)(hne:¬b3=b4)
 (R3:Blk w1 b3 (.bool false) (.slice none 0 0) (.int .i64 0)) (R4:Blk w1 b4 (.bool false) (.slice none 0 0) (.int .i64 0))
 (d1:DyR w1 (.agg #[.bool r1.neg,.slice A l c,.int .i64 r1.e]) r1) (d2:DyR w1 (.agg #[.bool r2.neg,.slice A' l' c',.int .i64 r2.e]) r2) (hr:res=⟨⟨r1,r2⟩,0⟩) :
 Blk (dyW (dyW w1 b3 (.bool r1.neg) (.slice A l c) (.int .i64 r1.e)) b4 (.bool r2.neg) (.slice A' l' c') (.int .i64 r2.e)) b3 (.bool r1.neg) (.slice A l c) (.int .i64 r1.e) /\
 Blk (dyW (dyW w1 b3 (.bool r1.neg) (.slice A l c) (.int .i64 r1.e)) b4 (.bool r2.neg) (.slice A' l' c') (.int .i64 r2.e)) b4 (.bool r2.neg) (.slice A' l' c') (.int .i64 r2.e) /\
 Ji T res w (.returned (.tuple #[.agg #[.bool r1.neg,.slice A l c,.int .i64 r1.e],.agg #[.bool r2.neg,.slice A' l' c',.int .i64 r2.e]])) (dyW (dyW w1 b3 (.bool r1.neg) (.slice A l c) (.int .i64 r1.e)) b4 (.bool r2.neg) (.slice A' l' c') (.int .i64 r2.e)):=by
 have R4':=R4.laid_other (b':=b3) (λh=>hne h.symm) (.bool r1.neg) (.slice A l c) (.int .i64 r1.e);refine ⟨(R3.laid _ _ _).laid_other hne _ _ _,R4'.laid _ _ _,Au (Au hk h3) h4,.inl ?_⟩;subst hr
 exact ⟨rfl,_,_,rfl,(d1.dyW R3 (Ah _) (Ag _ _ _) (Aj _) _ _ _).dyW R4' (Ah _) (Ag _ _ _) (Aj _) _ _ _,
  (d2.dyW R3 (Ah _) (Ag _ _ _) (Aj _) _ _ _).dyW R4' (Ah _) (Ag _ _ _) (Aj _) _ _ _⟩
theorem Jj (w:World)(hne:¬b=b')(x y z x' y' z':Value):dyW (dyW w b x y z) b' x' y' z'=dyW (dyW w b' x' y' z') b x y z:=by
 have hs:∀ (w:World) (i j:Nat) (u v:Value),(w.setCell ⟨b,i,none⟩ u).setCell ⟨b',j,none⟩ v=(w.setCell ⟨b',j,none⟩ v).setCell ⟨b,i,none⟩ u:=by
  intro w i j u v;simp only [World.setCell]
  congr 1
  apply Array.ext_getElem?;intro k;simp only [Array.getElem?_modify];by_cases h1:b=k
  ·have h2:¬b'=k:=fun h=>hne (h1.trans h.symm)
   simp [h1,h2]
  ·by_cases h2:b'=k
   ·simp [h1,h2]
   ·simp [h1,h2]
 unfold dyW;simp only [hs]
def Mr (res:Outc RawI) (v:RawI):List Int->Prop
 | []=>res=⟨v,0⟩
 | k::l=>(k≠0->res=⟨rzI,k⟩)/\(k=0->Mr res v l)
theorem Fw (v:Iv):∀ l:List Int,Mr (Bn (Dr v l)) v.raw l
 | []=>rfl
 | k :: l => by
   refine ⟨λh=>?_,λh=>?_⟩
   ·unfold Dr;rw [Ak h];unfold Bn;rw [R5]
   ·unfold Dr;rw [Af (λhh=>hh h)];exact Fw v l
def BlkIv (w:World) (b:Nat) (a:Iv):Prop:=∃ A l c A' l' c',BlkI w b (.bool a.lo.neg) (.slice A l c) (.int .i64 a.lo.e) (.bool a.hi.neg) (.slice A' l' c') (.int .i64 a.hi.e) /\
 DyR w (.agg #[.bool a.lo.neg,.slice A l c,.int .i64 a.lo.e]) a.lo.raw/\DyR w (.agg #[.bool a.hi.neg,.slice A' l' c',.int .i64 a.hi.e]) a.hi.raw
theorem BlkIv.kept (h:BlkIv w b a)(k:Kept w w'):BlkIv w' b a:=by
 obtain ⟨A,l,c,A',l',c',h1,h2,h3⟩:=h;exact ⟨A,l,c,A',l',c',h1.kept k,h2.kept k,h3.kept k⟩
theorem Qz (w:World):∃ W,W=(w.alloc (.cells #[.bool false,.slice none 0 0,.int .i64 0] 28)).alloc (.cells #[.bool false,.slice none 0 0,.int .i64 0] 28)/\Kept w W /\
 Blk W w.heap.size (.bool false) (.slice none 0 0) (.int .i64 0)/\Blk W (w.heap.size+1) (.bool false) (.slice none 0 0) (.int .i64 0) :=
 ⟨_,rfl,(Ab _ _).trans (Ab _ _),Bl (El w) _,Em _ _ _ _ _⟩
theorem pd {b:Iv}(ha:a.Ok)(hb:b.Ok)(hT:Tab w)(p1:1<=p)(p2:p<=2000)(ca:BlkIv w ba a)(cb:BlkIv w bb b)(cp:w.cell? ⟨bp,0,none⟩=some (.int .i64 p)) :
 Calls Tryz.prog 132 #[.pointer (some ⟨ba,0,none⟩),.pointer (some ⟨bb,0,none⟩),.pointer (some ⟨bp,0,none⟩)] w (Ji 166 (Bn (Gc a b p)) w):=by
 obtain ⟨A,l,c,A',l',c',hba,x1,x2⟩:=ca;obtain ⟨B,j,e,B',j',e',hbb,y1,y2⟩:=cb;obtain ⟨o1,ho1⟩:∃ o,o=Ey a.lo b.lo:=⟨_,rfl⟩;obtain ⟨o2,ho2⟩:∃ o,o=Dj o1.v p false:=⟨_,rfl⟩;obtain ⟨o3,ho3⟩:∃ o,o=Ey a.hi b.hi:=⟨_,rfl⟩;obtain ⟨o4,ho4⟩:∃ o,o=Dj o3.v p true:=⟨_,rfl⟩;have hres:Gc a b p=Dr ⟨o2.v,o4.v⟩ [o1.k,o2.k,o3.k,o4.k]:=by unfold Gc Wn;rw [Ui,<-ho1,<-ho3,<-ho2,<-ho4]
 rw [hres];have ok1:o1.Ok:=by rw [ho1];exact Ls ha.lo hb.lo
 have ok3:o3.Ok:=by rw [ho3];exact Ls ha.hi hb.hi
 have C1:=Ad (λw1 (k:Kept w w1)=>eh (x1.kept k) (y1.kept k) ha.lo hb.lo (hT.kept k));have C3:=Ad (λw1 (k:Kept w w1)=>eh (x2.kept k) (y2.kept k) ha.hi hb.hi (hT.kept k));have C2:=Ad (λw1 (k:Kept w w1) v (hv:DyR w1 v o1.v.raw)=>Qb hv ok1.1 (hT.kept k) p1 p2);have C4:=Ad (λw1 (k:Kept w w1) v (hv:DyR w1 v o3.v.raw)=>cz hv ok3.1 (hT.kept k) p1 p2);rw [<-ho1] at C1;rw [<-ho2] at C2;rw [<-ho3] at C3;rw [<-ho4] at C4;obtain ⟨W,hW,kW,B3,B4⟩:=Qz w;have HW:=Ad hW;have K:=Ad kW;have R3:=Ad B3;have R4:=Ad B4;have HA:=Ad hba;have HB:=Ad hbb;have CP:=Ad cp;have lp:=Av cp
 obtain ⟨la,-⟩:=hba.facts;obtain ⟨lb,-⟩:=hbb.facts;simp only at lp;clear hW kW B3 B4 hba hbb cp x1 x2 y1 y2 ha hb hT p1 p2 ho1 ho2 ho3 ho4 hres ok1 ok3;generalize a.lo.neg=n1,a.lo.e=e1,a.hi.neg=n2,a.hi.e=e2,b.lo.neg=n3,b.lo.e=e3,b.hi.neg=n4,b.hi.e=e4 at *;have hst:=Fw ⟨o2.v,o4.v⟩ [o1.raw.k,o2.raw.k,o3.raw.k,o4.raw.k];obtain ⟨res,hres⟩:∃ r,r=Bn (Dr ⟨o2.v,o4.v⟩ [o1.k,o2.k,o3.k,o4.k]):=⟨_,rfl⟩;have ST:=Ad (show Mr res ⟨o2.raw.v,o4.raw.v⟩ [o1.raw.k,o2.raw.k,o3.raw.k,o4.raw.k] by rw [hres];exact hst)
 rw [<-hres];clear hres hst;have BAD:Hid (∀ (k:Int) (w1:World),Kept w w1->k≠0->res=⟨rzI,k⟩->Ji 166 res w (.panicked (By 166 k)) w1):=λk w1 kk hk he=>by subst he;exact ⟨kk,.inr ⟨hk,rfl⟩⟩
 go_enter Tryz.func132,Tryz.ntmps132;go_wp2_with fail;rw [<-HW.o]
 refine Ih 14 ([(vP ba 0),(vE (.agg #[.bool n1,.slice A l c,.int .i64 e1])),(vP bb 0),(vE (.agg #[.bool n3,.slice B j e,.int .i64 e3])),(λv wv=>(∃ d,v=.tuple #[d,.int .i64 o1.raw.k]/\DyR wv d o1.raw.v)/\(True)),(λv wv=>DyR wv v o1.raw.v/\(True)),(vE (.int .i64 o1.raw.k)),(λv wv=>(o1.raw.k=0/\(True))/\DyR wv v o1.raw.v),(vE (.int .i64 p)),(λv wv=>(∃ d,v=.tuple #[d,.int .i64 o2.raw.k]/\DyR wv d o2.raw.v)/\(o1.raw.k=0)),(λv wv=>DyR wv v o2.raw.v/\(o1.raw.k=0)),(vE (.int .i64 o2.raw.k)),(λv wv=>(o2.raw.k=0/\(o1.raw.k=0))/\DyR wv v o2.raw.v),(λv wv=>∃ b,v=.pointer (some ⟨b,0,none⟩)/\W.heap.size<=b/\Blk wv b (.bool false) (.slice none 0 0) (.int .i64 0))])
  ⟨
   (gq 0),(λaF wF F=>by have s6:=F.v 0 6;have c0:=Ai (HA.o.kept K.o) F.kept 0 _ rfl;have c1:=Ai (HA.o.kept K.o) F.kept 1 _ rfl;have c2:=Ai (HA.o.kept K.o) F.kept 2 _ rfl;exact sv rfl),(gq 1),(λaF wF F=>by have s8:=F.v 2 8;have c0:=Ai (HB.o.kept K.o) F.kept 0 _ rfl;have c1:=Ai (HB.o.kept K.o) F.kept 1 _ rfl;have c2:=Ai (HB.o.kept K.o) F.kept 2 _ rfl;exact sv rfl),(λaF wF F=>by have s7:=F.v 1 7;have s9:=F.v 3 9;have hC:True:=trivial;exact Ax (by simp [Region.wanted]) (by go_simp) (C1.o _ (K.o.trans F.kept)) (λ_ _ h=>RetE.good h) (λ_ _ h=>⟨h,hC⟩)),(λaF wF F=>by have s10:=F.p 4 10;obtain ⟨⟨dd,ee,hh⟩,hC⟩:=s10;exact sv ⟨hh,hC⟩),(λaF wF F=>by have s10:=F.p 4 10;exact sw (by obtain ⟨⟨dd,ee,hh⟩,-⟩:=s10;go_simp) rfl),(λaF wF F=>by have s11:=F.p 5 11;have s12:=F.v 6 12;have hC:=s11.2;exact sG (D3 (d:=o1.v) (k:=o1.raw.k) s11.1) (λ_ _ _ h0 h=>⟨⟨h0,hC⟩,h⟩) (λw2 k2 h0=>⟨F.defers,BAD.o _ _ (K.o.trans (F.kept.trans k2)) h0 (ST.o.1 h0)⟩)),(λaF wF F=>by have s2:=F.q 2 (.pointer (some ⟨bp,0,none⟩));exact sw (by have cq:=An (K.o.trans F.kept) CP.o;go_simp) rfl),(λaF wF F=>by have s13:=F.p 7 13;have s14:=F.v 8 14;have hC:o1.raw.k=0:=s13.1.1;exact Ax (by simp [Region.wanted]) (by go_simp) (C2.o _ (K.o.trans F.kept) _ s13.2) (λ_ _ h=>RetE.good h) (λ_ _ h=>⟨h,hC⟩)),(λaF wF F=>by have s15:=F.p 9 15;obtain ⟨⟨dd,ee,hh⟩,hC⟩:=s15;exact sv ⟨hh,hC⟩),(λaF wF F=>by have s15:=F.p 9 15;exact sw (by obtain ⟨⟨dd,ee,hh⟩,-⟩:=s15;go_simp) rfl),(λaF wF F=>by have s16:=F.p 10 16;have s17:=F.v 11 17;have hC:=s16.2;exact sG (D3 (d:=o2.v) (k:=o2.raw.k) s16.1) (λ_ _ _ h0 h=>⟨⟨h0,hC⟩,h⟩) (λw2 k2 h0=>⟨F.defers,BAD.o _ _ (K.o.trans (F.kept.trans k2)) h0 ((ST.o.2 hC).1 h0)⟩)),(λaF wF F=>by exact sN ⟨_,rfl,F.kept.size,El _⟩),
   trivial⟩ ?_
 intro u w1 k1 hu;have p10:=hp hu 4;have p11:=hp hu 5;have p13:=hp hu 7;have p15:=hp hu 9;have p16:=hp hu 10;have p18:=hp hu 12;have p5:=hp hu 13;simp only [Bb,Ap,Act.put,Ep,hv hu 0,hv hu 1,hv hu 2,hv hu 3,hv hu 6,hv hu 8,hv hu 11];clear hu;generalize u 4=v10,u 5=v11,u 7=v13,u 9=v15,u 10=v16,u 12=v18,u 13=v5 at *;obtain ⟨bl,rfl,hbl,hB5⟩:=p5;obtain ⟨⟨z2,z1⟩,hd2⟩:=p18;obtain ⟨A5,l5,c5,rfl,hd2⟩:=Bf hd2;obtain ⟨lb5,c0,c1,c2,f0,f1,f2⟩:=hB5.facts;have hsW:w.heap.size+1<W.heap.size:=(Bi R4.o).1;have Z:=Ad (And.intro z1 z2);have KX:=Ad (Au (x:=.bool o2.raw.v.neg) (y:=.slice A5 l5 c5) (z:=.int .i64 o2.raw.v.e) (K.o.trans k1) (show w.heap.size<=bl by omega))
 have R3X:=Ad ((R3.o.kept k1).laid_other (b':=bl) (by omega) (.bool o2.raw.v.neg) (.slice A5 l5 c5) (.int .i64 o2.raw.v.e));have R4X:=Ad ((R4.o.kept k1).laid_other (b':=bl) (by omega) (.bool o2.raw.v.neg) (.slice A5 l5 c5) (.int .i64 o2.raw.v.e));have B5X:=Ad (hB5.laid (.bool o2.raw.v.neg) (.slice A5 l5 c5) (.int .i64 o2.raw.v.e));have D5X:=Ad (hd2.dyW hB5 (Ah _) (Ag _ _ _) (Aj _) (.bool o2.raw.v.neg) (.slice A5 l5 c5) (.int .i64 o2.raw.v.e));clear z1 z2 hd2 hB5 hsW p10 p11 p13 p15 p16 k1;go_simp;go_wp2_with fail;change Code.wp _ _ _ _ (dyW w1 bl _ _ _);generalize dyW w1 bl (.bool o2.raw.v.neg) (.slice A5 l5 c5) (.int .i64 o2.raw.v.e)=X at *
 clear c0 c1 c2 f0 f1 f2 lb5
 refine Qp 14 ([(vE (.agg #[.bool o2.raw.v.neg,.slice A5 l5 c5,.int .i64 o2.raw.v.e])),(vP ba 3),(vE (.agg #[.bool n2,.slice A' l' c',.int .i64 e2])),(vP bb 3),(vE (.agg #[.bool n4,.slice B' j' e',.int .i64 e4])),(λv wv=>(∃ d,v=.tuple #[d,.int .i64 o3.raw.k]/\DyR wv d o3.raw.v)/\(True)),(λv wv=>DyR wv v o3.raw.v/\(True)),(vE (.int .i64 o3.raw.k)),(λv wv=>(o3.raw.k=0/\(True))/\DyR wv v o3.raw.v),(vE (.int .i64 p)),(λv wv=>(∃ d,v=.tuple #[d,.int .i64 o4.raw.k]/\DyR wv d o4.raw.v)/\(o3.raw.k=0)),(λv wv=>DyR wv v o4.raw.v/\(o3.raw.k=0)),(vE (.int .i64 o4.raw.k)),(λv wv=>(o4.raw.k=0/\(o3.raw.k=0))/\DyR wv v o4.raw.v)])
  ⟨
   (E3 5 λ_ k=>c3 B5X.o k),(gq 0),(λaF wF F=>by have s20:=F.v 1 20;have c0:=Ai (HA.o.kept KX.o) F.kept 3 _ rfl;have c1:=Ai (HA.o.kept KX.o) F.kept 4 _ rfl;have c2:=Ai (HA.o.kept KX.o) F.kept 5 _ rfl;exact sv rfl),(gq 1),(λaF wF F=>by have s22:=F.v 3 22;have c0:=Ai (HB.o.kept KX.o) F.kept 3 _ rfl;have c1:=Ai (HB.o.kept KX.o) F.kept 4 _ rfl;have c2:=Ai (HB.o.kept KX.o) F.kept 5 _ rfl;exact sv rfl),(λaF wF F=>by have s21:=F.v 2 21;have s23:=F.v 4 23;have hC:True:=trivial;exact Ax (by simp [Region.wanted]) (by go_simp) (C3.o _ (KX.o.trans F.kept)) (λ_ _ h=>RetE.good h) (λ_ _ h=>⟨h,hC⟩)),(λaF wF F=>by have s24:=F.p 5 24;obtain ⟨⟨dd,ee,hh⟩,hC⟩:=s24;exact sv ⟨hh,hC⟩),(λaF wF F=>by have s24:=F.p 5 24;exact sw (by obtain ⟨⟨dd,ee,hh⟩,-⟩:=s24;go_simp) rfl),(λaF wF F=>by have s25:=F.p 6 25;have s26:=F.v 7 26;have hC:=s25.2;exact sG (D3 (d:=o3.v) (k:=o3.raw.k) s25.1) (λ_ _ _ h0 h=>⟨⟨h0,hC⟩,h⟩) (λw2 k2 h0=>⟨F.defers,BAD.o _ _ (KX.o.trans (F.kept.trans k2)) h0 (((ST.o.2 Z.o.1).2 Z.o.2).1 h0)⟩)),(λaF wF F=>by have s2:=F.q 2 (.pointer (some ⟨bp,0,none⟩));exact sw (by have cq:=An (KX.o.trans F.kept) CP.o;go_simp) rfl),(λaF wF F=>by have s27:=F.p 8 27;have s28:=F.v 9 28;have hC:o3.raw.k=0:=s27.1.1;exact Ax (by simp [Region.wanted]) (by go_simp) (C4.o _ (KX.o.trans F.kept) _ s27.2) (λ_ _ h=>RetE.good h) (λ_ _ h=>⟨h,hC⟩)),(λaF wF F=>by have s29:=F.p 10 29;obtain ⟨⟨dd,ee,hh⟩,hC⟩:=s29;exact sv ⟨hh,hC⟩),(λaF wF F=>by have s29:=F.p 10 29;exact sw (by obtain ⟨⟨dd,ee,hh⟩,-⟩:=s29;go_simp) rfl),(λaF wF F=>by have s30:=F.p 11 30;have s31:=F.v 12 31;have hC:=s30.2;exact sG (D3 (d:=o4.v) (k:=o4.raw.k) s30.1) (λ_ _ _ h0 h=>⟨⟨h0,hC⟩,h⟩) (λw2 k2 h0=>⟨F.defers,BAD.o _ _ (KX.o.trans (F.kept.trans k2)) h0 ((((ST.o.2 Z.o.1).2 Z.o.2).2 hC).1 h0)⟩)),
   trivial⟩ ?_
 intro u w1 k1 hu;have p24:=hp hu 5;have p25:=hp hu 6;have p27:=hp hu 8;have p29:=hp hu 10;have p30:=hp hu 11;have p32:=hp hu 13;simp only [Bb,Ap,Act.put,Ep,hv hu 0,hv hu 1,hv hu 2,hv hu 3,hv hu 4,hv hu 7,hv hu 9,hv hu 12];clear hu;generalize u 5=v24,u 6=v25,u 8=v27,u 10=v29,u 11=v30,u 13=v32 at *;obtain ⟨⟨z4,z3⟩,hd4⟩:=p32;obtain ⟨A6,l6,c6,rfl,hd4⟩:=Bf hd4;have hres:=(((ST.o.2 Z.o.1).2 Z.o.2).2 z3).2 z4;have r3:=R3X.o.kept k1;have r4:=R4X.o.kept k1;have hk:=KX.o.trans k1;have hd5:=D5X.o.kept k1;obtain ⟨-,c0,c1,c2,f0,f1,f2⟩:=r3.facts;obtain ⟨-,d0,d1,d2,g0,g1,g2⟩:=r4.facts
 obtain ⟨t1,t2,t3⟩:=Jv (T:=166) hk (Aq _) (Nat.le_succ _) (by omega) r3 r4 hd5 hd4 hres;have T1:=Ad t1;have T2:=Ad t2;have T3:=Ad t3;clear t1 t2 t3 r3 r4 hk hd5 hd4 hres z3 z4 p24 p25 p27 p29 p30 k1;refine ⟨?_,?_⟩
 ·go_simp;go_wp2_with fail;exact Eo T1.o T2.o rfl rfl rfl rfl T3.o
 ·first
   | exact .inl (by kernel_rfl)
   | (right
      rw [Jj _ (by omega)] at T1 T2 T3;go_simp;go_wp2_with fail;exact Eo T1.o T2.o rfl rfl rfl rfl T3.o)
theorem mB {b:Iv}(ha:a.Ok)(hb:b.Ok)(hT:Tab w)(p1:1<=p)(p2:p<=2000)(ca:BlkIv w ba a)(cb:BlkIv w bb b)(cp:w.cell? ⟨bp,0,none⟩=some (.int .i64 p)) :
 Calls Tryz.prog 134 #[.pointer (some ⟨ba,0,none⟩),.pointer (some ⟨bb,0,none⟩),.pointer (some ⟨bp,0,none⟩)] w (Ji 166 (Bn (I8 a b p)) w):=by
 obtain ⟨A,l,c,A',l',c',hba,x1,x2⟩:=ca;obtain ⟨B,j,e,B',j',e',hbb,y1,y2⟩:=cb;obtain ⟨o1,ho1⟩:∃ o,o=Ey a.lo (Ff b.hi):=⟨_,rfl⟩;obtain ⟨o2,ho2⟩:∃ o,o=Dj o1.v p false:=⟨_,rfl⟩;obtain ⟨o3,ho3⟩:∃ o,o=Ey a.hi (Ff b.lo):=⟨_,rfl⟩;obtain ⟨o4,ho4⟩:∃ o,o=Dj o3.v p true:=⟨_,rfl⟩;have hres:I8 a b p=Dr ⟨o2.v,o4.v⟩ [o1.k,o2.k,o3.k,o4.k]:=by unfold I8 Wn;rw [Ui,<-ho1,<-ho3,<-ho2,<-ho4]
 rw [hres];have ok1:o1.Ok:=by rw [ho1];exact Ls ha.lo (Kg hb.hi)
 have ok3:o3.Ok:=by rw [ho3];exact Ls ha.hi (Kg hb.lo)
 have C1:=Ad (λw1 (k:Kept w w1)=>oz (x1.kept k) (y2.kept k) ha.lo hb.hi (hT.kept k));have C3:=Ad (λw1 (k:Kept w w1)=>oz (x2.kept k) (y1.kept k) ha.hi hb.lo (hT.kept k));have C2:=Ad (λw1 (k:Kept w w1) v (hv:DyR w1 v o1.v.raw)=>Qb hv ok1.1 (hT.kept k) p1 p2);have C4:=Ad (λw1 (k:Kept w w1) v (hv:DyR w1 v o3.v.raw)=>cz hv ok3.1 (hT.kept k) p1 p2);rw [<-ho1] at C1;rw [<-ho2] at C2;rw [<-ho3] at C3;rw [<-ho4] at C4;obtain ⟨W,hW,kW,B3,B4⟩:=Qz w;have HW:=Ad hW;have K:=Ad kW;have R3:=Ad B3;have R4:=Ad B4;have HA:=Ad hba;have HB:=Ad hbb;have CP:=Ad cp;have lp:=Av cp
 obtain ⟨la,-⟩:=hba.facts;obtain ⟨lb,-⟩:=hbb.facts;simp only at lp;clear hW kW B3 B4 hba hbb cp x1 x2 y1 y2 ha hb hT p1 p2 ho1 ho2 ho3 ho4 hres ok1 ok3;generalize a.lo.neg=n1,a.lo.e=e1,a.hi.neg=n2,a.hi.e=e2,b.lo.neg=n3,b.lo.e=e3,b.hi.neg=n4,b.hi.e=e4 at *;have hst:=Fw ⟨o2.v,o4.v⟩ [o1.raw.k,o2.raw.k,o3.raw.k,o4.raw.k];obtain ⟨res,hres⟩:∃ r,r=Bn (Dr ⟨o2.v,o4.v⟩ [o1.k,o2.k,o3.k,o4.k]):=⟨_,rfl⟩;have ST:=Ad (show Mr res ⟨o2.raw.v,o4.raw.v⟩ [o1.raw.k,o2.raw.k,o3.raw.k,o4.raw.k] by rw [hres];exact hst)
 rw [<-hres];clear hres hst;have BAD:Hid (∀ (k:Int) (w1:World),Kept w w1->k≠0->res=⟨rzI,k⟩->Ji 166 res w (.panicked (By 166 k)) w1):=λk w1 kk hk he=>by subst he;exact ⟨kk,.inr ⟨hk,rfl⟩⟩
 go_enter Tryz.func134,Tryz.ntmps134;go_wp2_with fail;rw [<-HW.o]
 refine Ih 14 ([(vP ba 0),(vE (.agg #[.bool n1,.slice A l c,.int .i64 e1])),(vP bb 3),(vE (.agg #[.bool n4,.slice B' j' e',.int .i64 e4])),(λv wv=>(∃ d,v=.tuple #[d,.int .i64 o1.raw.k]/\DyR wv d o1.raw.v)/\(True)),(λv wv=>DyR wv v o1.raw.v/\(True)),(vE (.int .i64 o1.raw.k)),(λv wv=>(o1.raw.k=0/\(True))/\DyR wv v o1.raw.v),(vE (.int .i64 p)),(λv wv=>(∃ d,v=.tuple #[d,.int .i64 o2.raw.k]/\DyR wv d o2.raw.v)/\(o1.raw.k=0)),(λv wv=>DyR wv v o2.raw.v/\(o1.raw.k=0)),(vE (.int .i64 o2.raw.k)),(λv wv=>(o2.raw.k=0/\(o1.raw.k=0))/\DyR wv v o2.raw.v),(λv wv=>∃ b,v=.pointer (some ⟨b,0,none⟩)/\W.heap.size<=b/\Blk wv b (.bool false) (.slice none 0 0) (.int .i64 0))])
  ⟨
   (gq 0),(λaF wF F=>by have s6:=F.v 0 6;have c0:=Ai (HA.o.kept K.o) F.kept 0 _ rfl;have c1:=Ai (HA.o.kept K.o) F.kept 1 _ rfl;have c2:=Ai (HA.o.kept K.o) F.kept 2 _ rfl;exact sv rfl),(gq 1),(λaF wF F=>by have s8:=F.v 2 8;have c0:=Ai (HB.o.kept K.o) F.kept 3 _ rfl;have c1:=Ai (HB.o.kept K.o) F.kept 4 _ rfl;have c2:=Ai (HB.o.kept K.o) F.kept 5 _ rfl;exact sv rfl),(λaF wF F=>by have s7:=F.v 1 7;have s9:=F.v 3 9;have hC:True:=trivial;exact Ax (by simp [Region.wanted]) (by go_simp) (C1.o _ (K.o.trans F.kept)) (λ_ _ h=>RetE.good h) (λ_ _ h=>⟨h,hC⟩)),(λaF wF F=>by have s10:=F.p 4 10;obtain ⟨⟨dd,ee,hh⟩,hC⟩:=s10;exact sv ⟨hh,hC⟩),(λaF wF F=>by have s10:=F.p 4 10;exact sw (by obtain ⟨⟨dd,ee,hh⟩,-⟩:=s10;go_simp) rfl),(λaF wF F=>by have s11:=F.p 5 11;have s12:=F.v 6 12;have hC:=s11.2;exact sG (D3 (d:=o1.v) (k:=o1.raw.k) s11.1) (λ_ _ _ h0 h=>⟨⟨h0,hC⟩,h⟩) (λw2 k2 h0=>⟨F.defers,BAD.o _ _ (K.o.trans (F.kept.trans k2)) h0 (ST.o.1 h0)⟩)),(λaF wF F=>by have s2:=F.q 2 (.pointer (some ⟨bp,0,none⟩));exact sw (by have cq:=An (K.o.trans F.kept) CP.o;go_simp) rfl),(λaF wF F=>by have s13:=F.p 7 13;have s14:=F.v 8 14;have hC:o1.raw.k=0:=s13.1.1;exact Ax (by simp [Region.wanted]) (by go_simp) (C2.o _ (K.o.trans F.kept) _ s13.2) (λ_ _ h=>RetE.good h) (λ_ _ h=>⟨h,hC⟩)),(λaF wF F=>by have s15:=F.p 9 15;obtain ⟨⟨dd,ee,hh⟩,hC⟩:=s15;exact sv ⟨hh,hC⟩),(λaF wF F=>by have s15:=F.p 9 15;exact sw (by obtain ⟨⟨dd,ee,hh⟩,-⟩:=s15;go_simp) rfl),(λaF wF F=>by have s16:=F.p 10 16;have s17:=F.v 11 17;have hC:=s16.2;exact sG (D3 (d:=o2.v) (k:=o2.raw.k) s16.1) (λ_ _ _ h0 h=>⟨⟨h0,hC⟩,h⟩) (λw2 k2 h0=>⟨F.defers,BAD.o _ _ (K.o.trans (F.kept.trans k2)) h0 ((ST.o.2 hC).1 h0)⟩)),(λaF wF F=>by exact sN ⟨_,rfl,F.kept.size,El _⟩),
   trivial⟩ ?_
 intro u w1 k1 hu;have p10:=hp hu 4;have p11:=hp hu 5;have p13:=hp hu 7;have p15:=hp hu 9;have p16:=hp hu 10;have p18:=hp hu 12;have p5:=hp hu 13;simp only [Bb,Ap,Act.put,Ep,hv hu 0,hv hu 1,hv hu 2,hv hu 3,hv hu 6,hv hu 8,hv hu 11];clear hu;generalize u 4=v10,u 5=v11,u 7=v13,u 9=v15,u 10=v16,u 12=v18,u 13=v5 at *;obtain ⟨bl,rfl,hbl,hB5⟩:=p5;obtain ⟨⟨z2,z1⟩,hd2⟩:=p18;obtain ⟨A5,l5,c5,rfl,hd2⟩:=Bf hd2;obtain ⟨lb5,c0,c1,c2,f0,f1,f2⟩:=hB5.facts;have hsW:w.heap.size+1<W.heap.size:=(Bi R4.o).1;have Z:=Ad (And.intro z1 z2);have KX:=Ad (Au (x:=.bool o2.raw.v.neg) (y:=.slice A5 l5 c5) (z:=.int .i64 o2.raw.v.e) (K.o.trans k1) (show w.heap.size<=bl by omega))
 have R3X:=Ad ((R3.o.kept k1).laid_other (b':=bl) (by omega) (.bool o2.raw.v.neg) (.slice A5 l5 c5) (.int .i64 o2.raw.v.e));have R4X:=Ad ((R4.o.kept k1).laid_other (b':=bl) (by omega) (.bool o2.raw.v.neg) (.slice A5 l5 c5) (.int .i64 o2.raw.v.e));have B5X:=Ad (hB5.laid (.bool o2.raw.v.neg) (.slice A5 l5 c5) (.int .i64 o2.raw.v.e));have D5X:=Ad (hd2.dyW hB5 (Ah _) (Ag _ _ _) (Aj _) (.bool o2.raw.v.neg) (.slice A5 l5 c5) (.int .i64 o2.raw.v.e));clear z1 z2 hd2 hB5 hsW p10 p11 p13 p15 p16 k1;go_simp;go_wp2_with fail;change Code.wp _ _ _ _ (dyW w1 bl _ _ _);generalize dyW w1 bl (.bool o2.raw.v.neg) (.slice A5 l5 c5) (.int .i64 o2.raw.v.e)=X at *
 clear c0 c1 c2 f0 f1 f2 lb5
 refine Qp 14 ([(vE (.agg #[.bool o2.raw.v.neg,.slice A5 l5 c5,.int .i64 o2.raw.v.e])),(vP ba 3),(vE (.agg #[.bool n2,.slice A' l' c',.int .i64 e2])),(vP bb 0),(vE (.agg #[.bool n3,.slice B j e,.int .i64 e3])),(λv wv=>(∃ d,v=.tuple #[d,.int .i64 o3.raw.k]/\DyR wv d o3.raw.v)/\(True)),(λv wv=>DyR wv v o3.raw.v/\(True)),(vE (.int .i64 o3.raw.k)),(λv wv=>(o3.raw.k=0/\(True))/\DyR wv v o3.raw.v),(vE (.int .i64 p)),(λv wv=>(∃ d,v=.tuple #[d,.int .i64 o4.raw.k]/\DyR wv d o4.raw.v)/\(o3.raw.k=0)),(λv wv=>DyR wv v o4.raw.v/\(o3.raw.k=0)),(vE (.int .i64 o4.raw.k)),(λv wv=>(o4.raw.k=0/\(o3.raw.k=0))/\DyR wv v o4.raw.v)])
  ⟨
   (E3 5 λ_ k=>c3 B5X.o k),(gq 0),(λaF wF F=>by have s20:=F.v 1 20;have c0:=Ai (HA.o.kept KX.o) F.kept 3 _ rfl;have c1:=Ai (HA.o.kept KX.o) F.kept 4 _ rfl;have c2:=Ai (HA.o.kept KX.o) F.kept 5 _ rfl;exact sv rfl),(gq 1),(λaF wF F=>by have s22:=F.v 3 22;have c0:=Ai (HB.o.kept KX.o) F.kept 0 _ rfl;have c1:=Ai (HB.o.kept KX.o) F.kept 1 _ rfl;have c2:=Ai (HB.o.kept KX.o) F.kept 2 _ rfl;exact sv rfl),(λaF wF F=>by have s21:=F.v 2 21;have s23:=F.v 4 23;have hC:True:=trivial;exact Ax (by simp [Region.wanted]) (by go_simp) (C3.o _ (KX.o.trans F.kept)) (λ_ _ h=>RetE.good h) (λ_ _ h=>⟨h,hC⟩)),(λaF wF F=>by have s24:=F.p 5 24;obtain ⟨⟨dd,ee,hh⟩,hC⟩:=s24;exact sv ⟨hh,hC⟩),(λaF wF F=>by have s24:=F.p 5 24;exact sw (by obtain ⟨⟨dd,ee,hh⟩,-⟩:=s24;go_simp) rfl),(λaF wF F=>by have s25:=F.p 6 25;have s26:=F.v 7 26;have hC:=s25.2;exact sG (D3 (d:=o3.v) (k:=o3.raw.k) s25.1) (λ_ _ _ h0 h=>⟨⟨h0,hC⟩,h⟩) (λw2 k2 h0=>⟨F.defers,BAD.o _ _ (KX.o.trans (F.kept.trans k2)) h0 (((ST.o.2 Z.o.1).2 Z.o.2).1 h0)⟩)),(λaF wF F=>by have s2:=F.q 2 (.pointer (some ⟨bp,0,none⟩));exact sw (by have cq:=An (KX.o.trans F.kept) CP.o;go_simp) rfl),(λaF wF F=>by have s27:=F.p 8 27;have s28:=F.v 9 28;have hC:o3.raw.k=0:=s27.1.1;exact Ax (by simp [Region.wanted]) (by go_simp) (C4.o _ (KX.o.trans F.kept) _ s27.2) (λ_ _ h=>RetE.good h) (λ_ _ h=>⟨h,hC⟩)),(λaF wF F=>by have s29:=F.p 10 29;obtain ⟨⟨dd,ee,hh⟩,hC⟩:=s29;exact sv ⟨hh,hC⟩),(λaF wF F=>by have s29:=F.p 10 29;exact sw (by obtain ⟨⟨dd,ee,hh⟩,-⟩:=s29;go_simp) rfl),(λaF wF F=>by have s30:=F.p 11 30;have s31:=F.v 12 31;have hC:=s30.2;exact sG (D3 (d:=o4.v) (k:=o4.raw.k) s30.1) (λ_ _ _ h0 h=>⟨⟨h0,hC⟩,h⟩) (λw2 k2 h0=>⟨F.defers,BAD.o _ _ (KX.o.trans (F.kept.trans k2)) h0 ((((ST.o.2 Z.o.1).2 Z.o.2).2 hC).1 h0)⟩)),
   trivial⟩ ?_
 intro u w1 k1 hu;have p24:=hp hu 5;have p25:=hp hu 6;have p27:=hp hu 8;have p29:=hp hu 10;have p30:=hp hu 11;have p32:=hp hu 13;simp only [Bb,Ap,Act.put,Ep,hv hu 0,hv hu 1,hv hu 2,hv hu 3,hv hu 4,hv hu 7,hv hu 9,hv hu 12];clear hu;generalize u 5=v24,u 6=v25,u 8=v27,u 10=v29,u 11=v30,u 13=v32 at *;obtain ⟨⟨z4,z3⟩,hd4⟩:=p32;obtain ⟨A6,l6,c6,rfl,hd4⟩:=Bf hd4;have hres:=(((ST.o.2 Z.o.1).2 Z.o.2).2 z3).2 z4;have r3:=R3X.o.kept k1;have r4:=R4X.o.kept k1;have hk:=KX.o.trans k1;have hd5:=D5X.o.kept k1;obtain ⟨-,c0,c1,c2,f0,f1,f2⟩:=r3.facts;obtain ⟨-,d0,d1,d2,g0,g1,g2⟩:=r4.facts
 obtain ⟨t1,t2,t3⟩:=Jv (T:=166) hk (Aq _) (Nat.le_succ _) (by omega) r3 r4 hd5 hd4 hres;have T1:=Ad t1;have T2:=Ad t2;have T3:=Ad t3;clear t1 t2 t3 r3 r4 hk hd5 hd4 hres z3 z4 p24 p25 p27 p29 p30 k1;refine ⟨?_,?_⟩
 ·go_simp;go_wp2_with fail;exact Eo T1.o T2.o rfl rfl rfl rfl T3.o
 ·first
   | exact .inl (by kernel_rfl)
   | (right
      rw [Jj _ (by omega)] at T1 T2 T3;go_simp;go_wp2_with fail;exact Eo T1.o T2.o rfl rfl rfl rfl T3.o)
theorem Lh (o2 o4:Outc Dy):Gp o2 o4=Dr ⟨o2.v,o4.v⟩ [o2.k,o4.k]:=by
 unfold Gp Outc.bind;simp only [Dr];by_cases h1:o2.k=0
 ·simp only [h1,if_true,ne_eq,not_true_eq_false,if_false];by_cases h2:o4.k=0
  ·simp only [h2,if_true,not_true_eq_false,if_false]
  ·simp only [h2,if_false,not_false_eq_true,if_true]
 ·simp only [h1,if_false,ne_eq,not_false_eq_true,if_true]
theorem pZ (ha:a.Ok)(hT:Tab w)(p1:1<=p)(p2:p<=2000)(ca:BlkIv w ba a)(cp:w.cell? ⟨bp,0,none⟩=some (.int .i64 p)) :
 Calls Tryz.prog 138 #[.pointer (some ⟨ba,0,none⟩),.pointer (some ⟨bp,0,none⟩)] w (Ji 166 (Bn (Oi a p)) w):=by
 obtain ⟨A,l,c,A',l',c',hba,x1,x2⟩:=ca;obtain ⟨o2,ho2⟩:∃ o,o=Dj (Ff a.hi) p false:=⟨_,rfl⟩;obtain ⟨o4,ho4⟩:∃ o,o=Dj (Ff a.lo) p true:=⟨_,rfl⟩;have hres:Oi a p=Dr ⟨o2.v,o4.v⟩ [o2.k,o4.k]:=by unfold Oi;rw [Lh,<-ho2,<-ho4]
 rw [hres];have n1':=λw1 (k:Kept w w1)=>Yf (x2.kept k) (by have:=Eb ha.hi;omega)
 rw [Rd _ ha.hi] at n1';have n2':=λw1 (k:Kept w w1)=>Yf (x1.kept k) (by have:=Eb ha.lo;omega)
 rw [Rd _ ha.lo] at n2';have C1:=Ad n1';have C3:=Ad n2';have C2:=Ad (λw1 (k:Kept w w1) v (hv:DyR w1 v (Ff a.hi).raw)=>Qb hv (Kg ha.hi) (hT.kept k) p1 p2);have C4:=Ad (λw1 (k:Kept w w1) v (hv:DyR w1 v (Ff a.lo).raw)=>cz hv (Kg ha.lo) (hT.kept k) p1 p2);rw [<-ho2] at C2;rw [<-ho4] at C4;clear n1' n2';obtain ⟨W,hW,kW,B3,B4⟩:=Qz w;have HW:=Ad hW;have K:=Ad kW;have R3:=Ad B3;have R4:=Ad B4;have HA:=Ad hba;have CP:=Ad cp;have lp:=Av cp;obtain ⟨la,-⟩:=hba.facts;simp only at lp;have hst:=Fw ⟨o2.v,o4.v⟩ [o2.raw.k,o4.raw.k];obtain ⟨res,hres'⟩:∃ r,r=Bn (Dr ⟨o2.v,o4.v⟩ [o2.k,o4.k]):=⟨_,rfl⟩
 have ST:=Ad (show Mr res ⟨o2.raw.v,o4.raw.v⟩ [o2.raw.k,o4.raw.k] by rw [hres'];exact hst);rw [<-hres'];have BAD:Hid (∀ (k:Int) (w1:World),Kept w w1->k≠0->res=⟨rzI,k⟩->Ji 166 res w (.panicked (By 166 k)) w1):=λk w1 kk hk he=>by subst he;exact ⟨kk,.inr ⟨hk,rfl⟩⟩
 clear hW kW B3 B4 hba cp x1 x2 ha hT p1 p2 ho2 ho4 hres hres' hst;generalize (Ff a.hi).raw=m1 at *;generalize (Ff a.lo).raw=m2 at *;generalize a.lo.neg=n1,a.lo.e=e1,a.hi.neg=n2,a.hi.e=e2 at *;go_enter Tryz.func138,Tryz.ntmps138;go_wp2_with fail;rw [<-HW.o]
 refine Ih 9 ([(vP ba 3),(vE (.agg #[.bool n2,.slice A' l' c',.int .i64 e2])),(λv wv=>DyR wv v m1),(vE (.int .i64 p)),(λv wv=>(∃ d,v=.tuple #[d,.int .i64 o2.raw.k]/\DyR wv d o2.raw.v)/\(True)),(λv wv=>DyR wv v o2.raw.v/\(True)),(vE (.int .i64 o2.raw.k)),(λv wv=>(o2.raw.k=0/\(True))/\DyR wv v o2.raw.v),(λv wv=>∃ b,v=.pointer (some ⟨b,0,none⟩)/\W.heap.size<=b/\Blk wv b (.bool false) (.slice none 0 0) (.int .i64 0))])
  ⟨
   (gq 0),(λaF wF F=>by have s5:=F.v 0 5;have c0:=Ai (HA.o.kept K.o) F.kept 3 _ rfl;have c1:=Ai (HA.o.kept K.o) F.kept 4 _ rfl;have c2:=Ai (HA.o.kept K.o) F.kept 5 _ rfl;exact sv rfl),(λaF wF F=>by have s6:=F.v 1 6;exact sD (C1.o _ (K.o.trans F.kept)) λ_ _ h=>h),(λaF wF F=>by have s1:=F.q 1 (.pointer (some ⟨bp,0,none⟩));exact sw (by have cq:=An (K.o.trans F.kept) CP.o;go_simp) rfl),(λaF wF F=>by have s7:=F.p 2 7;have s8:=F.v 3 8;have hC:True:=trivial;exact Ax (by simp [Region.wanted]) (by go_simp) (C2.o _ (K.o.trans F.kept) _ s7) (λ_ _ h=>RetE.good h) (λ_ _ h=>⟨h,hC⟩)),(λaF wF F=>by have s9:=F.p 4 9;obtain ⟨⟨dd,ee,hh⟩,hC⟩:=s9;exact sv ⟨hh,hC⟩),(λaF wF F=>by have s9:=F.p 4 9;exact sw (by obtain ⟨⟨dd,ee,hh⟩,-⟩:=s9;go_simp) rfl),(λaF wF F=>by have s10:=F.p 5 10;have s11:=F.v 6 11;have hC:=s10.2;exact sG (D3 (d:=o2.v) (k:=o2.raw.k) s10.1) (λ_ _ _ h0 h=>⟨⟨h0,hC⟩,h⟩) (λw2 k2 h0=>⟨F.defers,BAD.o _ _ (K.o.trans (F.kept.trans k2)) h0 (ST.o.1 h0)⟩)),(λaF wF F=>by exact sN ⟨_,rfl,F.kept.size,El _⟩),
   trivial⟩ ?_
 intro u w1 k1 hu;have p7:=hp hu 2;have p9:=hp hu 4;have p10:=hp hu 5;have p12:=hp hu 7;have p4:=hp hu 8;simp only [Bb,Ap,Act.put,Ep,hv hu 0,hv hu 1,hv hu 3,hv hu 6];clear hu;generalize u 2=v7,u 4=v9,u 5=v10,u 7=v12,u 8=v4 at *;obtain ⟨bl,rfl,hbl,hB5⟩:=p4;obtain ⟨⟨z1,-⟩,hd2⟩:=p12;obtain ⟨A5,l5,c5,rfl,hd2⟩:=Bf hd2;obtain ⟨lb5,c0,c1,c2,f0,f1,f2⟩:=hB5.facts;have hsW:=(Bi R4.o).1;have Z:=Ad z1;have KX:=Ad (Au (x:=.bool o2.raw.v.neg) (y:=.slice A5 l5 c5) (z:=.int .i64 o2.raw.v.e) (K.o.trans k1) (show w.heap.size<=bl by omega))
 have R3X:=Ad ((R3.o.kept k1).laid_other (b':=bl) (by omega) (.bool o2.raw.v.neg) (.slice A5 l5 c5) (.int .i64 o2.raw.v.e));have R4X:=Ad ((R4.o.kept k1).laid_other (b':=bl) (by omega) (.bool o2.raw.v.neg) (.slice A5 l5 c5) (.int .i64 o2.raw.v.e));have B5X:=Ad (hB5.laid (.bool o2.raw.v.neg) (.slice A5 l5 c5) (.int .i64 o2.raw.v.e));have D5X:=Ad (hd2.dyW hB5 (Ah _) (Ag _ _ _) (Aj _) (.bool o2.raw.v.neg) (.slice A5 l5 c5) (.int .i64 o2.raw.v.e));clear z1 hd2 hB5 hsW p7 p9 p10 k1;go_simp;go_wp2_with fail;change Code.wp _ _ _ _ (dyW w1 bl _ _ _);generalize dyW w1 bl (.bool o2.raw.v.neg) (.slice A5 l5 c5) (.int .i64 o2.raw.v.e)=X at *
 clear c0 c1 c2 f0 f1 f2 lb5
 refine Qp 9 ([(vE (.agg #[.bool o2.raw.v.neg,.slice A5 l5 c5,.int .i64 o2.raw.v.e])),(vP ba 0),(vE (.agg #[.bool n1,.slice A l c,.int .i64 e1])),(λv wv=>DyR wv v m2),(vE (.int .i64 p)),(λv wv=>(∃ d,v=.tuple #[d,.int .i64 o4.raw.k]/\DyR wv d o4.raw.v)/\(True)),(λv wv=>DyR wv v o4.raw.v/\(True)),(vE (.int .i64 o4.raw.k)),(λv wv=>(o4.raw.k=0/\(True))/\DyR wv v o4.raw.v)])
  ⟨
   (E3 4 λ_ k=>Go.Proofs.YtabjjdicffcolaaGreatDoor.c3 B5X.o k),(gq 0),(λaF wF F=>by have s14:=F.v 1 14;have c0:=Ai (HA.o.kept KX.o) F.kept 0 _ rfl;have c1:=Ai (HA.o.kept KX.o) F.kept 1 _ rfl;have c2:=Ai (HA.o.kept KX.o) F.kept 2 _ rfl;exact sv rfl),(λaF wF F=>by have s15:=F.v 2 15;exact sD (C3.o _ (KX.o.trans F.kept)) λ_ _ h=>h),(λaF wF F=>by have s1:=F.q 1 (.pointer (some ⟨bp,0,none⟩));exact sw (by have cq:=An (KX.o.trans F.kept) CP.o;go_simp) rfl),(λaF wF F=>by have s16:=F.p 3 16;have s17:=F.v 4 17;have hC:True:=trivial;exact Ax (by simp [Region.wanted]) (by go_simp) (C4.o _ (KX.o.trans F.kept) _ s16) (λ_ _ h=>RetE.good h) (λ_ _ h=>⟨h,hC⟩)),(λaF wF F=>by have s18:=F.p 5 18;obtain ⟨⟨dd,ee,hh⟩,hC⟩:=s18;exact sv ⟨hh,hC⟩),(λaF wF F=>by have s18:=F.p 5 18;exact sw (by obtain ⟨⟨dd,ee,hh⟩,-⟩:=s18;go_simp) rfl),(λaF wF F=>by have s19:=F.p 6 19;have s20:=F.v 7 20;have hC:=s19.2;exact sG (D3 (d:=o4.v) (k:=o4.raw.k) s19.1) (λ_ _ _ h0 h=>⟨⟨h0,hC⟩,h⟩) (λw2 k2 h0=>⟨F.defers,BAD.o _ _ (KX.o.trans (F.kept.trans k2)) h0 ((ST.o.2 Z.o).1 h0)⟩)),
   trivial⟩ ?_
 intro u w1 k1 hu;have p16:=hp hu 3;have p18:=hp hu 5;have p19:=hp hu 6;have p21:=hp hu 8;simp only [Bb,Ap,Act.put,Ep,hv hu 0,hv hu 1,hv hu 2,hv hu 4,hv hu 7];clear hu;generalize u 3=v16,u 5=v18,u 6=v19,u 8=v21 at *;obtain ⟨⟨z4,-⟩,hd4⟩:=p21;obtain ⟨A6,l6,c6,rfl,hd4⟩:=Bf hd4;have hres:=(ST.o.2 Z.o).2 z4;have r3:=R3X.o.kept k1;have r4:=R4X.o.kept k1;have hk:=KX.o.trans k1;have hd5:=D5X.o.kept k1;obtain ⟨-,c0,c1,c2,f0,f1,f2⟩:=r3.facts;obtain ⟨-,d0,d1,d2,g0,g1,g2⟩:=r4.facts;obtain ⟨t1,t2,t3⟩:=Jv (T:=166) hk (Aq _) (Nat.le_succ _) (by omega) r3 r4 hd5 hd4 hres
 have T1:=Ad t1;have T2:=Ad t2;have T3:=Ad t3;clear t1 t2 t3 r3 r4 hk hd5 hd4 hres z4 p16 p18 p19 k1;refine ⟨?_,?_⟩
 ·go_simp;go_wp2_with fail;exact Eo T1.o T2.o rfl rfl rfl rfl T3.o
 ·first
   | exact .inl (by kernel_rfl)
   | (right
      rw [Jj _ (by omega)] at T1 T2 T3;go_simp;go_wp2_with fail;exact Eo T1.o T2.o rfl rfl rfl rfl T3.o)
theorem ft {d:Dy}(hd:d.Ok)(h:0<=d.q):d.neg=false:=by
 cases hn:d.neg
 ·rfl
 ·exfalso;by_cases h0:d.m=0
  ·have:=(hd.zero h0).1;rw [hn] at this;cases this
  ·have hs:sg d=-1:=by unfold sg;rw [Af h0,hn];rfl
   have:=(Vi hs).1;grind
theorem nT (ha:a.Ok)(hT:Tab w)(p1:1<=p)(p2:p<=2000)(ca:BlkIv w ba a)(cp:w.cell? ⟨bp,0,none⟩=some (.int .i64 p)) :
 Calls Tryz.prog 141 #[.pointer (some ⟨ba,0,none⟩),.pointer (some ⟨bp,0,none⟩)] w (Ji 166 (Bn (Gh a p)) w):=by
 obtain ⟨A,l,c,A',l',c',hba,x1,x2⟩:=ca;have sg1:=λw1 (k:Kept w w1)=>Yh (x1.kept k) (by have:=Eb ha.lo;omega)
 rw [Vj _ ha.lo] at sg1;by_cases hneg:sg a.lo<0
 ·have hres:Bn (Gh a p)=⟨rzI,4⟩:=by unfold Gh;rw [Ak hneg];unfold Bn;rw [R5]
  rw [hres];have hd:decide (0<=sg a.lo)=false:=by simp;omega
  obtain ⟨W,hW,kW,-,-⟩:=Qz w;have HW:=Ad hW;have K:=Ad kW;have SG:=Ad sg1;obtain ⟨la,c0,c1,c2,c3,c4,c5⟩:=hba.facts;clear hW kW sg1 hba x1 x2 ha hT p1 p2 cp hneg hres;generalize sg a.lo=g at *;generalize a.lo.neg=n1,a.lo.e=e1,a.hi.neg=n2,a.hi.e=e2 at *;go_enter Tryz.func141,Tryz.ntmps141
  go_wp2_with (first
   | (go_at_call 76;rw [<-HW.o];refine (SG.o _ K.o).mono ?_;rintro e w1 ⟨rfl,q⟩;replace K:=Ad (K.o.trans q))
   | (go_at_call 126;refine (Nb _ _ _).mono ?_;rintro e w3 ⟨he,rfl⟩;obtain rfl:e=.panicked (By 166 _):=he))
  exact ⟨rfl,K.o,.inr ⟨by decide,rfl⟩⟩
 ·have hlo:0≤a.lo.q:=by rw [kE  ] at hneg;exact      Ti.1 (by omega)
  have hn1:=ft ha.lo hlo;have hn2:=ft ha.hi (by have:=ha.le;grind);have hd:decide (0<=sg a.lo)=true:=by simp;omega
  obtain ⟨o2,ho2⟩:∃ o,o=Jm a.lo p false:=⟨_,rfl⟩;obtain ⟨o4,ho4⟩:∃ o,o=Jm a.hi p true:=⟨_,rfl⟩;have hres:Gh a p=Dr ⟨o2.v,o4.v⟩ [o2.k,o4.k]:=by unfold Gh;rw [Af hneg,Lh,<-ho2,<-ho4]
  rw [hres];have r1:Jn a.lo p false=o2:=by unfold Jn;rw [hn1,ho2];rfl
  have r2:Jn a.hi p true=o4:=by unfold Jn;rw [hn2,ho4];rfl
  have C2:=Ad (λw1 (k:Kept w w1)=>ky (p:=p) (up:=false) (x1.kept k) ha.lo (hT.kept k) p1 p2);have C4:=Ad (λw1 (k:Kept w w1)=>ky (p:=p) (up:=true) (x2.kept k) ha.hi (hT.kept k) p1 p2);rw [r1] at C2;rw [r2] at C4;have SG:=Ad sg1;clear r1 r2 sg1 hn1 hn2 hlo hneg;obtain ⟨W,hW,kW,B3,B4⟩:=Qz w;have HW:=Ad hW;have K:=Ad kW;have R3:=Ad B3;have R4:=Ad B4;have HA:=Ad hba;have CP:=Ad cp;have lp:=Av cp;obtain ⟨la,-⟩:=hba.facts;simp only at lp;have hst:=Fw ⟨o2.v,o4.v⟩ [o2.raw.k,o4.raw.k];obtain ⟨res,hres'⟩:∃ r,r=Bn (Dr ⟨o2.v,o4.v⟩ [o2.k,o4.k]):=⟨_,rfl⟩;have ST:=Ad (show Mr res ⟨o2.raw.v,o4.raw.v⟩ [o2.raw.k,o4.raw.k] by rw [hres'];exact hst)
  rw [<-hres'];have BAD:Hid (∀ (k:Int) (w1:World),Kept w w1->k≠0->res=⟨rzI,k⟩->Ji 166 res w (.panicked (By 166 k)) w1):=λk w1 kk hk he=>by subst he;exact ⟨kk,.inr ⟨hk,rfl⟩⟩
  clear hW kW B3 B4 hba cp x1 x2 ha hT p1 p2 ho2 ho4 hres hres' hst;generalize sg a.lo=g at *;generalize a.lo.neg=n1,a.lo.e=e1,a.hi.neg=n2,a.hi.e=e2 at *;obtain ⟨-,c0,c1,c2,c3,c4,c5⟩:=HA.o.facts;go_enter Tryz.func141,Tryz.ntmps141;go_wp2_with fail;rw [<-HW.o];refine (SG.o _ K.o).mono ?_;rintro e w5 ⟨rfl,q⟩;simp only [];go_wp2_with fail;refine (Kv 4 _).mono ?_;rintro e w6 ⟨rfl,q6⟩;have kk:=q.trans q6;replace K:=Ad (K.o.trans kk);have hsW0:w.heap.size+1<w6.heap.size:=Dn (Bi R4.o).1 kk.size
  replace R3:=Ad (R3.o.kept kk);replace R4:=Ad (R4.o.kept kk);clear kk q q6 c0 c1 c2 c3 c4 c5 HW hd;simp only [];go_upto_region 2 with fail
  refine qu 8 ([(vP ba 0),(vE (.agg #[.bool n1,.slice A l c,.int .i64 e1])),(vE (.int .i64 p)),(λv wv=>(∃ d,v=.tuple #[d,.int .i64 o2.raw.k]/\DyR wv d o2.raw.v)/\(True)),(λv wv=>DyR wv v o2.raw.v/\(True)),(vE (.int .i64 o2.raw.k)),(λv wv=>(o2.raw.k=0/\(True))/\DyR wv v o2.raw.v),(λv wv=>∃ b,v=.pointer (some ⟨b,0,none⟩)/\w6.heap.size<=b/\Blk wv b (.bool false) (.slice none 0 0) (.int .i64 0))])
   ⟨
    (gq 0),(λaF wF F=>by have s10:=F.v 0 10;have c0:=Ai (HA.o.kept K.o) F.kept 0 _ rfl;have c1:=Ai (HA.o.kept K.o) F.kept 1 _ rfl;have c2:=Ai (HA.o.kept K.o) F.kept 2 _ rfl;exact sv rfl),(λaF wF F=>by have s1:=F.q 1 (.pointer (some ⟨bp,0,none⟩));exact sw (by have cq:=An (K.o.trans F.kept) CP.o;go_simp) rfl),(λaF wF F=>by have s11:=F.v 1 11;have s12:=F.v 2 12;have hC:True:=trivial;exact Ax (by simp [Region.wanted]) (by go_simp) (C2.o _ (K.o.trans F.kept)) (λ_ _ h=>RetE.good h) (λ_ _ h=>⟨h,hC⟩)),(λaF wF F=>by have s13:=F.p 3 13;obtain ⟨⟨dd,ee,hh⟩,hC⟩:=s13;exact sv ⟨hh,hC⟩),(λaF wF F=>by have s13:=F.p 3 13;exact sw (by obtain ⟨⟨dd,ee,hh⟩,-⟩:=s13;go_simp) rfl),(λaF wF F=>by have s14:=F.p 4 14;have s15:=F.v 5 15;have hC:=s14.2;exact sG (D3 (d:=o2.v) (k:=o2.raw.k) s14.1) (λ_ _ _ h0 h=>⟨⟨h0,hC⟩,h⟩) (λw2 k2 h0=>⟨F.defers,BAD.o _ _ (K.o.trans (F.kept.trans k2)) h0 (ST.o.1 h0)⟩)),(λaF wF F=>by exact sN ⟨_,rfl,F.kept.size,El _⟩),
    trivial⟩ ?_
  intro u w1 k1 hu;have p13:=hp hu 3;have p14:=hp hu 4;have p16:=hp hu 6;have p4:=hp hu 7;simp only [Bb,Ap,Act.put,Ep,hv hu 0,hv hu 1,hv hu 2,hv hu 5];clear hu;generalize u 3=v13,u 4=v14,u 6=v16,u 7=v4 at *;obtain ⟨bl,rfl,hbl,hB5⟩:=p4;obtain ⟨⟨z1,-⟩,hd2⟩:=p16;obtain ⟨A5,l5,c5,rfl,hd2⟩:=Bf hd2;obtain ⟨lb5,c0,c1,c2,f0,f1,f2⟩:=hB5.facts;have hsW:=(Bi R4.o).1;have Z:=Ad z1;have KX:=Ad (Au (x:=.bool o2.raw.v.neg) (y:=.slice A5 l5 c5) (z:=.int .i64 o2.raw.v.e) (K.o.trans k1) (show w.heap.size<=bl by omega));have R3X:=Ad ((R3.o.kept k1).laid_other (b':=bl) (by omega) (.bool o2.raw.v.neg) (.slice A5 l5 c5) (.int .i64 o2.raw.v.e))
  have R4X:=Ad ((R4.o.kept k1).laid_other (b':=bl) (by omega) (.bool o2.raw.v.neg) (.slice A5 l5 c5) (.int .i64 o2.raw.v.e));have B5X:=Ad (hB5.laid (.bool o2.raw.v.neg) (.slice A5 l5 c5) (.int .i64 o2.raw.v.e));have D5X:=Ad (hd2.dyW hB5 (Ah _) (Ag _ _ _) (Aj _) (.bool o2.raw.v.neg) (.slice A5 l5 c5) (.int .i64 o2.raw.v.e));clear z1 hd2 hB5 hsW p13 p14 k1;go_simp;go_wp2_with fail;change Code.wp _ _ _ _ (dyW w1 bl _ _ _);generalize dyW w1 bl (.bool o2.raw.v.neg) (.slice A5 l5 c5) (.int .i64 o2.raw.v.e)=X at *;clear c0 c1 c2 f0 f1 f2 lb5
  refine Qp 8 ([(vE (.agg #[.bool o2.raw.v.neg,.slice A5 l5 c5,.int .i64 o2.raw.v.e])),(vP ba 3),(vE (.agg #[.bool n2,.slice A' l' c',.int .i64 e2])),(vE (.int .i64 p)),(λv wv=>(∃ d,v=.tuple #[d,.int .i64 o4.raw.k]/\DyR wv d o4.raw.v)/\(True)),(λv wv=>DyR wv v o4.raw.v/\(True)),(vE (.int .i64 o4.raw.k)),(λv wv=>(o4.raw.k=0/\(True))/\DyR wv v o4.raw.v)])
   ⟨
    (E3 4 λ_ k=>Go.Proofs.YtabjjdicffcolaaGreatDoor.c3 B5X.o k),(gq 0),(λaF wF F=>by have s18:=F.v 1 18;have c0:=Ai (HA.o.kept KX.o) F.kept 3 _ rfl;have c1:=Ai (HA.o.kept KX.o) F.kept 4 _ rfl;have c2:=Ai (HA.o.kept KX.o) F.kept 5 _ rfl;exact sv rfl),(λaF wF F=>by have s1:=F.q 1 (.pointer (some ⟨bp,0,none⟩));exact sw (by have cq:=An (KX.o.trans F.kept) CP.o;go_simp) rfl),(λaF wF F=>by have s19:=F.v 2 19;have s20:=F.v 3 20;have hC:True:=trivial;exact Ax (by simp [Region.wanted]) (by go_simp) (C4.o _ (KX.o.trans F.kept)) (λ_ _ h=>RetE.good h) (λ_ _ h=>⟨h,hC⟩)),(λaF wF F=>by have s21:=F.p 4 21;obtain ⟨⟨dd,ee,hh⟩,hC⟩:=s21;exact sv ⟨hh,hC⟩),(λaF wF F=>by have s21:=F.p 4 21;exact sw (by obtain ⟨⟨dd,ee,hh⟩,-⟩:=s21;go_simp) rfl),(λaF wF F=>by have s22:=F.p 5 22;have s23:=F.v 6 23;have hC:=s22.2;exact sG (D3 (d:=o4.v) (k:=o4.raw.k) s22.1) (λ_ _ _ h0 h=>⟨⟨h0,hC⟩,h⟩) (λw2 k2 h0=>⟨F.defers,BAD.o _ _ (KX.o.trans (F.kept.trans k2)) h0 ((ST.o.2 Z.o).1 h0)⟩)),
    trivial⟩ ?_
  intro u w1 k1 hu;have p21:=hp hu 4;have p22:=hp hu 5;have p24:=hp hu 7;simp only [Bb,Ap,Act.put,Ep,hv hu 0,hv hu 1,hv hu 2,hv hu 3,hv hu 6];clear hu;generalize u 4=v21,u 5=v22,u 7=v24 at *;obtain ⟨⟨z4,-⟩,hd4⟩:=p24;obtain ⟨A6,l6,c6,rfl,hd4⟩:=Bf hd4;have hres:=(ST.o.2 Z.o).2 z4;have r3:=R3X.o.kept k1;have r4:=R4X.o.kept k1;have hk:=KX.o.trans k1;have hd5:=D5X.o.kept k1;obtain ⟨-,c0,c1,c2,f0,f1,f2⟩:=r3.facts;obtain ⟨-,d0,d1,d2,g0,g1,g2⟩:=r4.facts;obtain ⟨t1,t2,t3⟩:=Jv (T:=166) hk (Aq _) (Nat.le_succ _) (by omega) r3 r4 hd5 hd4 hres
  have T1:=Ad t1;have T2:=Ad t2;have T3:=Ad t3;clear t1 t2 t3 r3 r4 hk hd5 hd4 hres z4 p21 p22 k1;refine ⟨?_,?_⟩
  ·go_simp;go_wp2_with fail;exact Eo T1.o T2.o rfl rfl rfl rfl T3.o
  ·first
    | exact .inl (by kernel_rfl)
    | (right
       rw [Jj _ (by omega)] at T1 T2 T3;go_simp;go_wp2_with fail;exact Eo T1.o T2.o rfl rfl rfl rfl T3.o)
def BoxD (w:World) (b:Nat) (r:Raw):Prop:=∃ A l c,Blk w b (.bool r.neg) (.slice A l c) (.int .i64 r.e)/\DyR w (.agg #[.bool r.neg,.slice A l c,.int .i64 r.e]) r
theorem BoxD.kept (h:BoxD w b r)(k:Kept w w'):BoxD w' b r:=by
 obtain ⟨A,l,c,h1,h2⟩:=h;exact ⟨A,l,c,h1.kept k,h2.kept k⟩
theorem BoxD.other (h:BoxD w b r)(hne:¬b=b')(h0:Blk w b' x y z)(hx:Bv x)(hy:Bv y)(hz:Bv z)(x' y' z':Value):BoxD (dyW w b' x' y' z') b r:=by
 obtain ⟨A,l,c,h1,h2⟩:=h;exact ⟨A,l,c,h1.laid_other hne _ _ _,h2.dyW h0 hx hy hz _ _ _⟩
theorem BoxD.made {l:Nat}(h0:Blk w b x y z)(hx:Bv x)(hy:Bv y)(hz:Bv z)(h:DyR w (.agg #[.bool r.neg,.slice A l c,.int .i64 r.e]) r) :
 BoxD (dyW w b (.bool r.neg) (.slice A l c) (.int .i64 r.e)) b r:=⟨A,l,c,h0.laid _ _ _,h.dyW h0 hx hy hz _ _ _⟩
theorem Zp (o1 o2:Outc Dy)(f:Dy->Dy->Outc Dy)(g:Dy->Dy->Outc Dy) :
 (o1.bind iz λx=>o2.bind iz λy=>Gp (f x y) (g x y))=Dr ⟨(f o1.v o2.v).v,(g o1.v o2.v).v⟩ [o1.k,o2.k,(f o1.v o2.v).k,(g o1.v o2.v).k]:=by
 rw [show (λx=>o2.bind iz λy=>Gp (f x y) (g x y))=λx=>o2.bind iz λy=>Dr ⟨(f x y).v,(g x y).v⟩ [(f x y).k,(g x y).k] from by funext x;congr 1;funext y;exact Lh _ _];unfold Outc.bind;simp only [Dr];by_cases h1:o1.k=0
 ·simp only [h1,if_true,ne_eq,not_true_eq_false,if_false];by_cases h2:o2.k=0
  ·simp only [h2,if_true,not_true_eq_false,if_false]
  ·simp only [h2,if_false,not_false_eq_true,if_true]
 ·simp only [h1,if_false,ne_eq,not_false_eq_true,if_true]
theorem qB (ha:a.Ok)(hT:Tab w)(p1:1<=p)(p2:p<=2000)(ca:BlkIv w ba a)(cp:w.cell? ⟨bp,0,none⟩=some (.int .i64 p)) :
 Calls Tryz.prog 140 #[.pointer (some ⟨ba,0,none⟩),.pointer (some ⟨bp,0,none⟩)] w (Ji 166 (Bn (Lb a p)) w):=by
 obtain ⟨A,l,c,A',l',c',hba,x1,x2⟩:=ca;obtain ⟨o1,ho1⟩:∃ o,o=Ch a.lo a.lo:=⟨_,rfl⟩;obtain ⟨o2,ho2⟩:∃ o,o=Ch a.hi a.hi:=⟨_,rfl⟩;obtain ⟨m0,hm0⟩:∃ m,m=Ci o1.v [o1.v,o2.v]:=⟨_,rfl⟩;obtain ⟨hz,hhz⟩:∃ z,z=D4 a:=⟨_,rfl⟩;obtain ⟨m,hm⟩:∃ m,m=if hz then dz else m0:=⟨_,rfl⟩
 obtain ⟨g,hg⟩:∃ g,g=Bd o1.v [o1.v,o2.v]:=⟨_,rfl⟩;obtain ⟨o3,ho3⟩:∃ o,o=Dj m p false:=⟨_,rfl⟩;obtain ⟨o4,ho4⟩:∃ o,o=Dj g p true:=⟨_,rfl⟩;have hres:Lb a p=Dr ⟨o3.v,o4.v⟩ [o1.k,o2.k,o3.k,o4.k]:=by
  unfold Lb;rw [Zp (Ch a.lo a.lo) (Ch a.hi a.hi) (λx y=>Dj (if D4 a then dz else Ci x [x,y]) p false) (λx y=>Dj (Bd x [x,y]) p true)];rw [<-ho1,<-ho2,<-hhz,<-hm0,<-hm,<-hg,<-ho3,<-ho4]
 rw [hres];have ok1:o1.Ok:=by rw [ho1];exact Kf _ _
 have ok2:o2.Ok:=by rw [ho2];exact Kf _ _
 have okL2:qn [o1.v,o2.v]:=by intro d hd;simp at hd;rcases hd with rfl | rfl;exact ok1.1;exact ok2.1
 have okm0:m0.Ok:=by rw [hm0];exact R8 ok1.1 okL2
 have okm:m.Ok:=by rw [hm];split;exact Nq;exact okm0
 have okg:g.Ok:=by rw [hg];exact M3 ok1.1 okL2
 have C1:=Ad (λw1 (k:Kept w w1)=>Sq (x1.kept k) (x1.kept k) ha.lo ha.lo (hT.kept k));have C2:=Ad (λw1 (k:Kept w w1)=>Sq (x2.kept k) (x2.kept k) ha.hi ha.hi (hT.kept k));have C3:=Ad (λw1 (k:Kept w w1) v (hv:DyR w1 v m.raw)=>Qb hv okm (hT.kept k) p1 p2);have C4:=Ad (λw1 (k:Kept w w1) v (hv:DyR w1 v g.raw)=>cz hv okg (hT.kept k) p1 p2);have CL:=Ad (λw1 v (hv:DyS w1 v [o1.v,o2.v])=>Yr hv okL2 (by simp));have CG:=Ad (λw1 v (hv:DyS w1 v [o1.v,o2.v])=>Qg hv okL2 (by simp));have CH:=Ad (λw1 (k:Kept w w1) u (hu:DyR w1 u dz.raw)=>jl (v:=.agg #[.bool a.lo.neg,.slice A l c,.int .i64 a.lo.e,.bool a.hi.neg,.slice A' l' c',.int .i64 a.hi.e]) (a:=a) ⟨_,_,_,_,_,_,rfl,x1.kept k,x2.kept k⟩ hu ha Nq)
 have hhas:aq a dz=hz:=by rw [hhz];unfold aq D4;rw [ah]
 rw [hhas] at CH;rw [<-ho1] at C1;rw [<-ho2] at C2;rw [<-ho3] at C3;rw [<-ho4] at C4;rw [<-hm0] at CL;rw [<-hg] at CG;obtain ⟨W,hW,kW,B3,B4⟩:=Qz w;have HW:=Ad hW;have K:=Ad kW;have R3:=Ad B3;have R4:=Ad B4;have HA:=Ad hba;have CP:=Ad cp;have HM:=Ad hm;have lp:=Av cp;obtain ⟨la,-⟩:=hba.facts;simp only at lp;have hst:=Fw ⟨o3.v,o4.v⟩ [o1.raw.k,o2.raw.k,o3.raw.k,o4.raw.k];obtain ⟨res,hres'⟩:∃ r,r=Bn (Dr ⟨o3.v,o4.v⟩ [o1.k,o2.k,o3.k,o4.k]):=⟨_,rfl⟩;have ST:=Ad (show Mr res ⟨o3.raw.v,o4.raw.v⟩ [o1.raw.k,o2.raw.k,o3.raw.k,o4.raw.k] by rw [hres'];exact hst);rw [<-hres'];have BAD:Hid (∀ (k:Int) (w1:World),Kept w w1->k≠0->res=⟨rzI,k⟩->Ji 166 res w (.panicked (By 166 k)) w1):=λk w1 kk hk he=>by subst he;exact ⟨kk,.inr ⟨hk,rfl⟩⟩
 clear hW kW B3 B4 hba cp x1 x2 ha hT p1 p2 ho1 ho2 ho3 ho4 hres hres' hst hm0 hm hg hhz ok1 ok2 okL2 okm0 okm okg hhas;generalize a.lo.neg=n1,a.lo.e=e1,a.hi.neg=n2,a.hi.e=e2 at *;go_enter Tryz.func140,Tryz.ntmps140;go_upto_region 1 with fail;rw [<-HW.o]
 refine qu 9 ([(vP ba 0),(vE (.agg #[.bool n1,.slice A l c,.int .i64 e1])),(vP ba 0),(vE (.agg #[.bool n1,.slice A l c,.int .i64 e1])),(λv wv=>(∃ d,v=.tuple #[d,.int .i64 o1.raw.k]/\DyR wv d o1.raw.v)/\(True)),(λv wv=>DyR wv v o1.raw.v/\(True)),(vE (.int .i64 o1.raw.k)),(λv wv=>(o1.raw.k=0/\(True))/\DyR wv v o1.raw.v),(λv wv=>∃ b,v=.pointer (some ⟨b,0,none⟩)/\W.heap.size<=b/\Blk wv b (.bool false) (.slice none 0 0) (.int .i64 0))])
  ⟨
   (gq 0),(λaF wF F=>by have s7:=F.v 0 7;have c0:=Ai (HA.o.kept K.o) F.kept 0 _ rfl;have c1:=Ai (HA.o.kept K.o) F.kept 1 _ rfl;have c2:=Ai (HA.o.kept K.o) F.kept 2 _ rfl;exact sv rfl),(gq 0),(λaF wF F=>by have s9:=F.v 2 9;have c0:=Ai (HA.o.kept K.o) F.kept 0 _ rfl;have c1:=Ai (HA.o.kept K.o) F.kept 1 _ rfl;have c2:=Ai (HA.o.kept K.o) F.kept 2 _ rfl;exact sv rfl),(λaF wF F=>by have s8:=F.v 1 8;have s10:=F.v 3 10;have hC:True:=trivial;exact Ax (by simp [Region.wanted]) (by go_simp) (C1.o _ (K.o.trans F.kept)) (λ_ _ h=>RetE.good h) (λ_ _ h=>⟨h,hC⟩)),(λaF wF F=>by have s11:=F.p 4 11;obtain ⟨⟨dd,ee,hh⟩,hC⟩:=s11;exact sv ⟨hh,hC⟩),(λaF wF F=>by have s11:=F.p 4 11;exact sw (by obtain ⟨⟨dd,ee,hh⟩,-⟩:=s11;go_simp) rfl),(λaF wF F=>by have s12:=F.p 5 12;have s13:=F.v 6 13;have hC:=s12.2;exact sG (D3 (d:=o1.v) (k:=o1.raw.k) s12.1) (λ_ _ _ h0 h=>⟨⟨h0,hC⟩,h⟩) (λw2 k2 h0=>⟨F.defers,BAD.o _ _ (K.o.trans (F.kept.trans k2)) h0 (ST.o.1 h0)⟩)),(λaF wF F=>by exact sN ⟨_,rfl,F.kept.size,El _⟩),
   trivial⟩ ?_
 intro u w1 k1 hu;have p11:=hp hu 4;have p12:=hp hu 5;have p14:=hp hu 7;have p4:=hp hu 8;simp only [Bb,Ap,Act.put,Ep,hv hu 0,hv hu 1,hv hu 2,hv hu 3,hv hu 6];clear hu;generalize u 4=v11,u 5=v12,u 7=v14,u 8=v4 at *;obtain ⟨b4,rfl,hb4,hB5⟩:=p4;obtain ⟨⟨z1,-⟩,hd2⟩:=p14;have hsW:=(Bi R4.o).1;obtain ⟨A5,l5,c5,rfl,hd2⟩:=Bf hd2;obtain ⟨lb5,c0,c1,c2,f0,f1,f2⟩:=hB5.facts;replace K:=Ad (Au (x:=.bool o1.raw.v.neg) (y:=.slice A5 l5 c5) (z:=.int .i64 o1.raw.v.e) (K.o.trans k1) (show w.heap.size<=b4 by omega));replace R3:=Ad ((R3.o.kept k1).laid_other (b':=b4) (by omega) (.bool o1.raw.v.neg) (.slice A5 l5 c5) (.int .i64 o1.raw.v.e))
 replace R4:=Ad ((R4.o.kept k1).laid_other (b':=b4) (by omega) (.bool o1.raw.v.neg) (.slice A5 l5 c5) (.int .i64 o1.raw.v.e));have B4:=Ad (BoxD.made hB5 (Ah _) (Ag _ _ _) (Aj _) hd2);have Z1:=Ad z1;clear z1 hd2 hB5 hsW p11 p12 k1;go_simp;go_upto_region 2 with fail;change Code.wp _ _ _ _ (dyW w1 b4 _ _ _);generalize dyW w1 b4 (.bool o1.raw.v.neg) (.slice A5 l5 c5) (.int .i64 o1.raw.v.e)=X at *;clear c0 c1 c2 f0 f1 f2 lb5
 refine qu 9 ([(vP ba 3),(vE (.agg #[.bool n2,.slice A' l' c',.int .i64 e2])),(vP ba 3),(vE (.agg #[.bool n2,.slice A' l' c',.int .i64 e2])),(λv wv=>(∃ d,v=.tuple #[d,.int .i64 o2.raw.k]/\DyR wv d o2.raw.v)/\(True)),(λv wv=>DyR wv v o2.raw.v/\(True)),(vE (.int .i64 o2.raw.k)),(λv wv=>(o2.raw.k=0/\(True))/\DyR wv v o2.raw.v),(λv wv=>∃ b,v=.pointer (some ⟨b,0,none⟩)/\X.heap.size<=b/\Blk wv b (.bool false) (.slice none 0 0) (.int .i64 0))])
  ⟨
   (gq 0),(λaF wF F=>by have s15:=F.v 0 15;have c0:=Ai (HA.o.kept K.o) F.kept 3 _ rfl;have c1:=Ai (HA.o.kept K.o) F.kept 4 _ rfl;have c2:=Ai (HA.o.kept K.o) F.kept 5 _ rfl;exact sv rfl),(gq 0),(λaF wF F=>by have s17:=F.v 2 17;have c0:=Ai (HA.o.kept K.o) F.kept 3 _ rfl;have c1:=Ai (HA.o.kept K.o) F.kept 4 _ rfl;have c2:=Ai (HA.o.kept K.o) F.kept 5 _ rfl;exact sv rfl),(λaF wF F=>by have s16:=F.v 1 16;have s18:=F.v 3 18;have hC:True:=trivial;exact Ax (by simp [Region.wanted]) (by go_simp) (C2.o _ (K.o.trans F.kept)) (λ_ _ h=>RetE.good h) (λ_ _ h=>⟨h,hC⟩)),(λaF wF F=>by have s19:=F.p 4 19;obtain ⟨⟨dd,ee,hh⟩,hC⟩:=s19;exact sv ⟨hh,hC⟩),(λaF wF F=>by have s19:=F.p 4 19;exact sw (by obtain ⟨⟨dd,ee,hh⟩,-⟩:=s19;go_simp) rfl),(λaF wF F=>by have s20:=F.p 5 20;have s21:=F.v 6 21;have hC:=s20.2;exact sG (D3 (d:=o2.v) (k:=o2.raw.k) s20.1) (λ_ _ _ h0 h=>⟨⟨h0,hC⟩,h⟩) (λw2 k2 h0=>⟨F.defers,BAD.o _ _ (K.o.trans (F.kept.trans k2)) h0 ((ST.o.2 Z1.o).1 h0)⟩)),(λaF wF F=>by exact sN ⟨_,rfl,F.kept.size,El _⟩),
   trivial⟩ ?_
 intro u w1 k1 hu;have p19:=hp hu 4;have p20:=hp hu 5;have p22:=hp hu 7;have p5:=hp hu 8;simp only [Bb,Ap,Act.put,Ep,hv hu 0,hv hu 1,hv hu 2,hv hu 3,hv hu 6];clear hu;generalize u 4=v19,u 5=v20,u 7=v22,u 8=v5 at *;obtain ⟨b5,rfl,hb5,hB5⟩:=p5;obtain ⟨⟨z2,-⟩,hd2⟩:=p22;have hsW:=(Bi R4.o).1;have hs4:b4<X.heap.size:=by obtain ⟨_,_,_,hh,-⟩:=B4.o;exact (Bi hh).1
 obtain ⟨A5,l5,c5,rfl,hd2⟩:=Bf hd2;obtain ⟨lb5,c0,c1,c2,f0,f1,f2⟩:=hB5.facts;replace K:=Ad (Au (x:=.bool o2.raw.v.neg) (y:=.slice A5 l5 c5) (z:=.int .i64 o2.raw.v.e) (K.o.trans k1) (show w.heap.size<=b5 by omega));replace R3:=Ad ((R3.o.kept k1).laid_other (b':=b5) (by omega) (.bool o2.raw.v.neg) (.slice A5 l5 c5) (.int .i64 o2.raw.v.e));replace R4:=Ad ((R4.o.kept k1).laid_other (b':=b5) (by omega) (.bool o2.raw.v.neg) (.slice A5 l5 c5) (.int .i64 o2.raw.v.e));replace B4:=Ad ((B4.o.kept k1).other (b':=b5) (by omega) hB5 (Ah _) (Ag _ _ _) (Aj _) (.bool o2.raw.v.neg) (.slice A5 l5 c5) (.int .i64 o2.raw.v.e))
 have B5:=Ad (BoxD.made hB5 (Ah _) (Ag _ _ _) (Aj _) hd2);have Z2:=Ad z2;clear z2 hd2 hB5 hsW hs4 p19 p20 k1;go_simp;go_upto_region 3 with fail;change Code.wp _ _ _ _ (dyW w1 b5 _ _ _);generalize dyW w1 b5 (.bool o2.raw.v.neg) (.slice A5 l5 c5) (.int .i64 o2.raw.v.e)=Y at *;clear c0 c1 c2 f0 f1 f2 lb5;obtain ⟨A4,l4,c4,hb4',hd4⟩:=B4.o;obtain ⟨A6,l6,c6,hb5',hd5⟩:=B5.o
 refine qu 5 ([(vE (.agg #[.bool o1.raw.v.neg,.slice A4 l4 c4,.int .i64 o1.raw.v.e])),(vE (.agg #[.bool o2.raw.v.neg,.slice A6 l6 c6,.int .i64 o2.raw.v.e])),(λv wv=>DyS wv v [o1.v,o2.v]),(λv wv=>DyR wv v m0.raw),(λv wv=>∃ b,v=.pointer (some ⟨b,0,none⟩)/\Y.heap.size<=b/\Blk wv b (.bool false) (.slice none 0 0) (.int .i64 0))])
  (hM:=⟨⟨mE,mE,λv w w' k h=>by first | exact h | exact h.kept k | exact ⟨h.1,h.2.kept k⟩,mD,λv w w' k h=>by obtain ⟨b,h1,h2,h3⟩:=h;exact ⟨b,h1,h2,h3.kept k⟩,trivial⟩⟩) ⟨
    (E3 4 λ_ k=>c3 hb4' k),(E3 5 λ_ k=>c3 hb5' k),(λaF wF F=>by have s23:=F.v 0 23;have s24:=F.v 1 24;simp only [Cv] at s23;simp only [Cv] at s24;exact Zm (Tm (d:=o1.v) (d':=o2.v) rfl (hd4.kept F.kept) (hd5.kept F.kept))),(λaF wF F=>by have s25:=F.p 2 25;exact sD (CL.o _ _ s25) λ_ _ h=>h),(λaF wF F=>by exact sN ⟨_,rfl,F.kept.size,El _⟩),
    trivial⟩ ?_
 intro u w1 k1 hu;have p25:=hp hu 2;have p26:=hp hu 3;have p6:=hp hu 4;simp only [Bb,Ap,Act.put,Ep,hv hu 0,hv hu 1];clear hu;generalize u 2=v25,u 3=v26,u 4=v6 at *;obtain ⟨b6,rfl,hb6,hB5⟩:=p6;have hd2:=p26;have hsW:=(Bi R4.o).1;have hs4:b4<Y.heap.size:=(Bi hb4').1;have hs5:b5<Y.heap.size:=(Bi hb5').1;clear hb4' hb5' hd4 hd5 p25 p26;obtain ⟨A5,l5,c5,rfl,hd2⟩:=Bf hd2;obtain ⟨lb5,c0,c1,c2,f0,f1,f2⟩:=hB5.facts;replace K:=Ad (Au (x:=.bool m0.raw.neg) (y:=.slice A5 l5 c5) (z:=.int .i64 m0.raw.e) (K.o.trans k1) (show w.heap.size<=b6 by omega))
 replace R3:=Ad ((R3.o.kept k1).laid_other (b':=b6) (by omega) (.bool m0.raw.neg) (.slice A5 l5 c5) (.int .i64 m0.raw.e));replace R4:=Ad ((R4.o.kept k1).laid_other (b':=b6) (by omega) (.bool m0.raw.neg) (.slice A5 l5 c5) (.int .i64 m0.raw.e));replace B4:=Ad ((B4.o.kept k1).other (b':=b6) (by omega) hB5 (Ah _) (Ag _ _ _) (Aj _) (.bool m0.raw.neg) (.slice A5 l5 c5) (.int .i64 m0.raw.e));replace B5:=Ad ((B5.o.kept k1).other (b':=b6) (by omega) hB5 (Ah _) (Ag _ _ _) (Aj _) (.bool m0.raw.neg) (.slice A5 l5 c5) (.int .i64 m0.raw.e));have B6:=Ad (BoxD.made hB5 (Ah _) (Ag _ _ _) (Aj _) hd2)
 have NE:=Ad (show (b4≠b6/\b5≠b6)/\(w.heap.size≠b6/\w.heap.size+1≠b6)/\w.heap.size<=b6 by omega);clear hd2 hB5 hsW hs4 hs5 k1 hb4 hb5 hb6;go_simp;go_upto_region 4 with fail;change Code.wp _ _ _ _ (dyW w1 b6 _ _ _);generalize dyW w1 b6 (.bool m0.raw.neg) (.slice A5 l5 c5) (.int .i64 m0.raw.e)=V at *;clear c0 c1 c2 f0 f1 f2 lb5
 refine rS 3 ([(vE (.agg #[.bool n1,.slice A l c,.int .i64 e1,.bool n2,.slice A' l' c',.int .i64 e2])),(vE (.agg #[.bool false,.slice none 0 0,.int .i64 0])),(vE (.bool hz))])
  ⟨
   (E3 0 λ_ k=>Go.Proofs.YtabjjdicffcolaaGreatDoor.c6 (HA.o.kept K.o) k),(λaF wF F=>by exact sv rfl),(λaF wF F=>by have s27:=F.v 0 27;have s28:=F.v 1 28;exact sK (CH.o _ (K.o.trans F.kept) (.agg #[.bool false,.slice none 0 0,.int .i64 0]) (by rw [Ge];exact Cw _)) λ_ _ h=>h),
   trivial⟩ ?_
 intro u w1 k1 hu;simp only [Bb,Ap,Act.put,Ep,hv hu 0,hv hu 1,hv hu 2];clear hu;replace K:=Ad (K.o.trans k1);replace R3:=Ad (R3.o.kept k1);replace R4:=Ad (R4.o.kept k1);replace B4:=Ad (B4.o.kept k1);replace B5:=Ad (B5.o.kept k1);replace B6:=Ad (B6.o.kept k1);clear k1
 -- the box of lo holds m
 have hB6:=B6.o;obtain ⟨A7,l7,c7,hb7,hd7⟩:=hB6;obtain ⟨_,c0,c1,c2,f0,f1,f2⟩:=hb7.facts;cases hz
 ·have hm:m=m0:=HM.out;subst hm;clear hb7 hd7;go_upto_region 6 with fail;clear c0 c1 c2 f0 f1 f2 A7 l7 c7;generalize w1=Q at *;clear hd2;have hB6:=B6.out;clear B6;obtain ⟨A7,l7,c7,hb7,hd7⟩:=hB6
  refine qu 6 ([(vE (.agg #[.bool m.raw.neg,.slice A7 l7 c7,.int .i64 m.raw.e])),(vE (.int .i64 p)),(λv wv=>(∃ d,v=.tuple #[d,.int .i64 o3.raw.k]/\DyR wv d o3.raw.v)/\(True)),(λv wv=>DyR wv v o3.raw.v/\(True)),(vE (.int .i64 o3.raw.k)),(λv wv=>(o3.raw.k=0/\(True))/\DyR wv v o3.raw.v)])
   ⟨
    (E3 6 λ_ k=>c3 hb7 k),(λaF wF F=>by have s1:=F.q 1 (.pointer (some ⟨bp,0,none⟩));exact sw (by have cq:=An (K.o.trans F.kept) CP.o;go_simp) rfl),(λaF wF F=>by have s31:=F.v 0 31;have s32:=F.v 1 32;have hC:True:=trivial;exact Ax (by simp [Region.wanted]) (by go_simp) (C3.o _ (K.o.trans F.kept) _ (hd7.kept F.kept)) (λ_ _ h=>RetE.good h) (λ_ _ h=>⟨h,hC⟩)),(λaF wF F=>by have s33:=F.p 2 33;obtain ⟨⟨dd,ee,hh⟩,hC⟩:=s33;exact sv ⟨hh,hC⟩),(λaF wF F=>by have s33:=F.p 2 33;exact sw (by obtain ⟨⟨dd,ee,hh⟩,-⟩:=s33;go_simp) rfl),(λaF wF F=>by have s34:=F.p 3 34;have s35:=F.v 4 35;have hC:=s34.2;exact sG (D3 (d:=o3.v) (k:=o3.raw.k) s34.1) (λ_ _ _ h0 h=>⟨⟨h0,hC⟩,h⟩) (λw2 k2 h0=>⟨F.defers,BAD.o _ _ (K.o.trans (F.kept.trans k2)) h0 (((ST.o.2 Z1.o).2 Z2.o).1 h0)⟩)),
    trivial⟩ ?_
  intro u w1 k1 hu;have p33:=hp hu 2;have p34:=hp hu 3;have p36:=hp hu 5;simp only [Bb,Ap,Act.put,Ep,hv hu 0,hv hu 1,hv hu 4];clear hu;generalize u 2=v33,u 3=v34,u 5=v36 at *;obtain ⟨⟨z3,-⟩,hd2⟩:=p36;have hB5:=hb7.kept k1;have ne:=NE.o;obtain ⟨ne1,ne2,ne3⟩:=ne;obtain ⟨A5,l5,c5,rfl,hd2⟩:=Bf hd2;obtain ⟨lb5,c0,c1,c2,f0,f1,f2⟩:=hB5.facts;replace K:=Ad (Au (x:=.bool o3.raw.v.neg) (y:=.slice A5 l5 c5) (z:=.int .i64 o3.raw.v.e) (K.o.trans k1) (show w.heap.size<=b6 by omega));replace R3:=Ad ((R3.o.kept k1).laid_other (b':=b6) ne2.1 (.bool o3.raw.v.neg) (.slice A5 l5 c5) (.int .i64 o3.raw.v.e))
  replace R4:=Ad ((R4.o.kept k1).laid_other (b':=b6) ne2.2 (.bool o3.raw.v.neg) (.slice A5 l5 c5) (.int .i64 o3.raw.v.e));replace B4:=Ad ((B4.o.kept k1).other (b':=b6) ne1.1 hB5 (Ah _) (Ag _ _ _) (Aj _) (.bool o3.raw.v.neg) (.slice A5 l5 c5) (.int .i64 o3.raw.v.e));replace B5:=Ad ((B5.o.kept k1).other (b':=b6) ne1.2 hB5 (Ah _) (Ag _ _ _) (Aj _) (.bool o3.raw.v.neg) (.slice A5 l5 c5) (.int .i64 o3.raw.v.e));have B6X:=Ad (hB5.laid (.bool o3.raw.v.neg) (.slice A5 l5 c5) (.int .i64 o3.raw.v.e));have D6X:=Ad (hd2.dyW hB5 (Ah _) (Ag _ _ _) (Aj _) (.bool o3.raw.v.neg) (.slice A5 l5 c5) (.int .i64 o3.raw.v.e))
  have Z3:=Ad z3;clear z3 hd2 hB5 hb7 hd7 p33 p34 k1 ne1 ne2 ne3;go_simp;go_upto_region 7 with fail;change Code.wp _ _ _ _ (dyW w1 b6 _ _ _);generalize dyW w1 b6 (.bool o3.raw.v.neg) (.slice A5 l5 c5) (.int .i64 o3.raw.v.e)=P at *;clear c0 c1 c2 f0 f1 f2 lb5;obtain ⟨A4,l4,c4,hb4',hd4⟩:=B4.o;obtain ⟨A6,l6,c6,hb5',hd5⟩:=B5.o
  refine Qp 10 ([(vE (.agg #[.bool o3.raw.v.neg,.slice A5 l5 c5,.int .i64 o3.raw.v.e])),(vE (.agg #[.bool o1.raw.v.neg,.slice A4 l4 c4,.int .i64 o1.raw.v.e])),(vE (.agg #[.bool o2.raw.v.neg,.slice A6 l6 c6,.int .i64 o2.raw.v.e])),(λv wv=>DyS wv v [o1.v,o2.v]),(λv wv=>DyR wv v g.raw),(vE (.int .i64 p)),(λv wv=>(∃ d,v=.tuple #[d,.int .i64 o4.raw.k]/\DyR wv d o4.raw.v)/\(True)),(λv wv=>DyR wv v o4.raw.v/\(True)),(vE (.int .i64 o4.raw.k)),(λv wv=>(o4.raw.k=0/\(True))/\DyR wv v o4.raw.v)])
   (hM:=⟨⟨mE,mE,mE,λv w w' k h=>by first | exact h | exact h.kept k | exact ⟨h.1,h.2.kept k⟩,mD,mE,λv w w' k h=>by obtain ⟨⟨d,h1,h2⟩,h3⟩:=h;exact ⟨⟨d,h1,h2.kept k⟩,h3⟩,λv w w' k h=>⟨h.1.kept k,h.2⟩,mE,λv w w' k h=>by first | exact h | exact h.kept k | exact ⟨h.1,h.2.kept k⟩,trivial⟩⟩) ⟨
     (E3 6 λ_ k=>c3 B6X.o k),(E3 4 λ_ k=>c3 hb4' k),(E3 5 λ_ k=>c3 hb5' k),(λaF wF F=>by have s38:=F.v 1 38;have s39:=F.v 2 39;simp only [Cv] at s38;simp only [Cv] at s39;exact Zm (Tm (d:=o1.v) (d':=o2.v) rfl (hd4.kept F.kept) (hd5.kept F.kept))),(λaF wF F=>by have s40:=F.p 3 40;exact sD (CG.o _ _ s40) λ_ _ h=>h),(λaF wF F=>by have s1:=F.q 1 (.pointer (some ⟨bp,0,none⟩));exact sw (by have cq:=An (K.o.trans F.kept) CP.o;go_simp) rfl),(λaF wF F=>by have s41:=F.p 4 41;have s42:=F.v 5 42;have hC:True:=trivial;exact Ax (by simp [Region.wanted]) (by go_simp) (C4.o _ (K.o.trans F.kept) _ s41) (λ_ _ h=>RetE.good h) (λ_ _ h=>⟨h,hC⟩)),(λaF wF F=>by have s43:=F.p 6 43;obtain ⟨⟨dd,ee,hh⟩,hC⟩:=s43;exact sv ⟨hh,hC⟩),(λaF wF F=>by have s43:=F.p 6 43;exact sw (by obtain ⟨⟨dd,ee,hh⟩,-⟩:=s43;go_simp) rfl),(λaF wF F=>by have s44:=F.p 7 44;have s45:=F.v 8 45;have hC:=s44.2;exact sG (D3 (d:=o4.v) (k:=o4.raw.k) s44.1) (λ_ _ _ h0 h=>⟨⟨h0,hC⟩,h⟩) (λw2 k2 h0=>⟨F.defers,BAD.o _ _ (K.o.trans (F.kept.trans k2)) h0 ((((ST.o.2 Z1.o).2 Z2.o).2 Z3.o).1 h0)⟩)),
     trivial⟩ ?_
  intro u w1 k1 hu;have p40:=hp hu 3;have p41:=hp hu 4;have p43:=hp hu 6;have p44:=hp hu 7;have p46:=hp hu 9;simp only [Bb,Ap,Act.put,Ep,hv hu 0,hv hu 1,hv hu 2,hv hu 5,hv hu 8];clear hu;generalize u 3=v40,u 4=v41,u 6=v43,u 7=v44,u 9=v46 at *;obtain ⟨⟨z4,-⟩,hdN⟩:=p46;obtain ⟨A8,l8,c8,rfl,hdN⟩:=Bf hdN;have hres:=(((ST.o.2 Z1.o).2 Z2.o).2 Z3.o).2 z4;have r3:=R3.o.kept k1;have r4:=R4.o.kept k1;have hk:=K.o.trans k1;have hdM:=D6X.o.kept k1;obtain ⟨-,c0,c1,c2,f0,f1,f2⟩:=r3.facts;obtain ⟨-,d0,d1,d2,g0,g1,g2⟩:=r4.facts;obtain ⟨t1,t2,t3⟩:=Jv (T:=166) hk (Aq _) (Nat.le_succ _) (by omega) r3 r4 hdM hdN hres
  have T1:=Ad t1;have T2:=Ad t2;have T3:=Ad t3;clear t1 t2 t3 r3 r4 hk hdM hdN hres z4 p40 p41 p43 p44 hb4' hb5' hd4 hd5 B4 B5 B6X D6X NE k1;refine ⟨?_,?_⟩
  ·go_simp;go_wp2_with fail;exact Eo T1.o T2.o rfl rfl rfl rfl T3.o
  ·first
    | exact .inl (by kernel_rfl)
    | (right
       rw [Jj _ (by omega)] at T1 T2 T3;go_simp;go_wp2_with fail;exact Eo T1.o T2.o rfl rfl rfl rfl T3.o)
 ·have hm:m=dz:=HM.out;have HB7:=Ad  hb7;clear hb7 hd7;go_upto_region 6 with fail;change Code.wp _ _ _ _ (dyW w1 b6 (.bool false) (.slice none 0 0) (.int .i64 0));clear c0 c1 c2 f0 f1 f2 hd2;have ne:=NE.out;replace K:=Ad  (Au       (x:=.bool false) (y:=.slice none 0 0) (z:=.int .i64 0) K.out ne.2.2);replace R3:=Ad  (R3.out.laid_other ne.2.1.1 (.bool false) (.slice none 0 0) (.int .i64 0));replace R4:=Ad  (R4.out.laid_other ne.2.1.2 (.bool false) (.slice none 0 0) (.int .i64 0));replace B4:=Ad  (B4.out.other ne.1.1 HB7.out (Ah          _) (Ag           _ _ _) (Aj         _) (.bool false) (.slice none 0 0) (.int .i64 0))
  replace B5:=Ad (B5.o.other ne.1.2 HB7.o (Ah _) (Ag _ _ _) (Aj _) (.bool false) (.slice none 0 0) (.int .i64 0));replace B6:Hid (BoxD (dyW w1 b6 (.bool false) (.slice none 0 0) (.int .i64 0)) b6 m.raw):=by
   rw [hm,Ge];exact ⟨none,0,0,HB7.o.laid _ _ _,Cw _⟩
  clear HB7 ne hm A7 l7 c7;generalize dyW w1 b6 (.bool false) (.slice none 0 0) (.int .i64 0)=Q at *;have hB6:=B6.o;clear B6;obtain ⟨A7,l7,c7,hb7,hd7⟩:=hB6
  refine qu 6 ([(vE (.agg #[.bool m.raw.neg,.slice A7 l7 c7,.int .i64 m.raw.e])),(vE (.int .i64 p)),(λv wv=>(∃ d,v=.tuple #[d,.int .i64 o3.raw.k]/\DyR wv d o3.raw.v)/\(True)),(λv wv=>DyR wv v o3.raw.v/\(True)),(vE (.int .i64 o3.raw.k)),(λv wv=>(o3.raw.k=0/\(True))/\DyR wv v o3.raw.v)])
   ⟨
    (E3 6 λ_ k=>c3 hb7 k),(λaF wF F=>by have s1:=F.q 1 (.pointer (some ⟨bp,0,none⟩));exact sw (by have cq:=An (K.o.trans F.kept) CP.o;go_simp) rfl),(λaF wF F=>by have s31:=F.v 0 31;have s32:=F.v 1 32;have hC:True:=trivial;exact Ax (by simp [Region.wanted]) (by go_simp) (C3.o _ (K.o.trans F.kept) _ (hd7.kept F.kept)) (λ_ _ h=>RetE.good h) (λ_ _ h=>⟨h,hC⟩)),(λaF wF F=>by have s33:=F.p 2 33;obtain ⟨⟨dd,ee,hh⟩,hC⟩:=s33;exact sv ⟨hh,hC⟩),(λaF wF F=>by have s33:=F.p 2 33;exact sw (by obtain ⟨⟨dd,ee,hh⟩,-⟩:=s33;go_simp) rfl),(λaF wF F=>by have s34:=F.p 3 34;have s35:=F.v 4 35;have hC:=s34.2;exact sG (D3 (d:=o3.v) (k:=o3.raw.k) s34.1) (λ_ _ _ h0 h=>⟨⟨h0,hC⟩,h⟩) (λw2 k2 h0=>⟨F.defers,BAD.o _ _ (K.o.trans (F.kept.trans k2)) h0 (((ST.o.2 Z1.o).2 Z2.o).1 h0)⟩)),
    trivial⟩ ?_
  intro u w1 k1 hu;have p33:=hp hu 2;have p34:=hp hu 3;have p36:=hp hu 5;simp only [Bb,Ap,Act.put,Ep,hv hu 0,hv hu 1,hv hu 4];clear hu;generalize u 2=v33,u 3=v34,u 5=v36 at *;obtain ⟨⟨z3,-⟩,hd2⟩:=p36;have hB5:=hb7.kept k1;have ne:=NE.o;obtain ⟨ne1,ne2,ne3⟩:=ne;obtain ⟨A5,l5,c5,rfl,hd2⟩:=Bf hd2;obtain ⟨lb5,c0,c1,c2,f0,f1,f2⟩:=hB5.facts;replace K:=Ad (Au (x:=.bool o3.raw.v.neg) (y:=.slice A5 l5 c5) (z:=.int .i64 o3.raw.v.e) (K.o.trans k1) (show w.heap.size<=b6 by omega));replace R3:=Ad ((R3.o.kept k1).laid_other (b':=b6) ne2.1 (.bool o3.raw.v.neg) (.slice A5 l5 c5) (.int .i64 o3.raw.v.e))
  replace R4:=Ad ((R4.o.kept k1).laid_other (b':=b6) ne2.2 (.bool o3.raw.v.neg) (.slice A5 l5 c5) (.int .i64 o3.raw.v.e));replace B4:=Ad ((B4.o.kept k1).other (b':=b6) ne1.1 hB5 (Ah _) (Ag _ _ _) (Aj _) (.bool o3.raw.v.neg) (.slice A5 l5 c5) (.int .i64 o3.raw.v.e));replace B5:=Ad ((B5.o.kept k1).other (b':=b6) ne1.2 hB5 (Ah _) (Ag _ _ _) (Aj _) (.bool o3.raw.v.neg) (.slice A5 l5 c5) (.int .i64 o3.raw.v.e));have B6X:=Ad (hB5.laid (.bool o3.raw.v.neg) (.slice A5 l5 c5) (.int .i64 o3.raw.v.e));have D6X:=Ad (hd2.dyW hB5 (Ah _) (Ag _ _ _) (Aj _) (.bool o3.raw.v.neg) (.slice A5 l5 c5) (.int .i64 o3.raw.v.e))
  have Z3:=Ad z3;clear z3 hd2 hB5 hb7 hd7 p33 p34 k1 ne1 ne2 ne3;go_simp;go_upto_region 7 with fail;change Code.wp _ _ _ _ (dyW w1 b6 _ _ _);generalize dyW w1 b6 (.bool o3.raw.v.neg) (.slice A5 l5 c5) (.int .i64 o3.raw.v.e)=P at *;clear c0 c1 c2 f0 f1 f2 lb5;obtain ⟨A4,l4,c4,hb4',hd4⟩:=B4.o;obtain ⟨A6,l6,c6,hb5',hd5⟩:=B5.o
  refine Qp 10 ([(vE (.agg #[.bool o3.raw.v.neg,.slice A5 l5 c5,.int .i64 o3.raw.v.e])),(vE (.agg #[.bool o1.raw.v.neg,.slice A4 l4 c4,.int .i64 o1.raw.v.e])),(vE (.agg #[.bool o2.raw.v.neg,.slice A6 l6 c6,.int .i64 o2.raw.v.e])),(λv wv=>DyS wv v [o1.v,o2.v]),(λv wv=>DyR wv v g.raw),(vE (.int .i64 p)),(λv wv=>(∃ d,v=.tuple #[d,.int .i64 o4.raw.k]/\DyR wv d o4.raw.v)/\(True)),(λv wv=>DyR wv v o4.raw.v/\(True)),(vE (.int .i64 o4.raw.k)),(λv wv=>(o4.raw.k=0/\(True))/\DyR wv v o4.raw.v)])
   (hM:=⟨⟨mE,mE,mE,λv w w' k h=>by first | exact h | exact h.kept k | exact ⟨h.1,h.2.kept k⟩,mD,mE,λv w w' k h=>by obtain ⟨⟨d,h1,h2⟩,h3⟩:=h;exact ⟨⟨d,h1,h2.kept k⟩,h3⟩,λv w w' k h=>⟨h.1.kept k,h.2⟩,mE,λv w w' k h=>by first | exact h | exact h.kept k | exact ⟨h.1,h.2.kept k⟩,trivial⟩⟩) ⟨
     (E3 6 λ_ k=>c3 B6X.o k),(E3 4 λ_ k=>c3 hb4' k),(E3 5 λ_ k=>c3 hb5' k),(λaF wF F=>by have s38:=F.v 1 38;have s39:=F.v 2 39;simp only [Cv] at s38;simp only [Cv] at s39;exact Zm (Tm (d:=o1.v) (d':=o2.v) rfl (hd4.kept F.kept) (hd5.kept F.kept))),(λaF wF F=>by have s40:=F.p 3 40;exact sD (CG.o _ _ s40) λ_ _ h=>h),(λaF wF F=>by have s1:=F.q 1 (.pointer (some ⟨bp,0,none⟩));exact sw (by have cq:=An (K.o.trans F.kept) CP.o;go_simp) rfl),(λaF wF F=>by have s41:=F.p 4 41;have s42:=F.v 5 42;have hC:True:=trivial;exact Ax (by simp [Region.wanted]) (by go_simp) (C4.o _ (K.o.trans F.kept) _ s41) (λ_ _ h=>RetE.good h) (λ_ _ h=>⟨h,hC⟩)),(λaF wF F=>by have s43:=F.p 6 43;obtain ⟨⟨dd,ee,hh⟩,hC⟩:=s43;exact sv ⟨hh,hC⟩),(λaF wF F=>by have s43:=F.p 6 43;exact sw (by obtain ⟨⟨dd,ee,hh⟩,-⟩:=s43;go_simp) rfl),(λaF wF F=>by have s44:=F.p 7 44;have s45:=F.v 8 45;have hC:=s44.2;exact sG (D3 (d:=o4.v) (k:=o4.raw.k) s44.1) (λ_ _ _ h0 h=>⟨⟨h0,hC⟩,h⟩) (λw2 k2 h0=>⟨F.defers,BAD.o _ _ (K.o.trans (F.kept.trans k2)) h0 ((((ST.o.2 Z1.o).2 Z2.o).2 Z3.o).1 h0)⟩)),
     trivial⟩ ?_
  intro u w1 k1 hu;have p40:=hp hu 3;have p41:=hp hu 4;have p43:=hp hu 6;have p44:=hp hu 7;have p46:=hp hu 9;simp only [Bb,Ap,Act.put,Ep,hv hu 0,hv hu 1,hv hu 2,hv hu 5,hv hu 8];clear hu;generalize u 3=v40,u 4=v41,u 6=v43,u 7=v44,u 9=v46 at *;obtain ⟨⟨z4,-⟩,hdN⟩:=p46;obtain ⟨A8,l8,c8,rfl,hdN⟩:=Bf hdN;have hres:=(((ST.o.2 Z1.o).2 Z2.o).2 Z3.o).2 z4;have r3:=R3.o.kept k1;have r4:=R4.o.kept k1;have hk:=K.o.trans k1;have hdM:=D6X.o.kept k1;obtain ⟨-,c0,c1,c2,f0,f1,f2⟩:=r3.facts;obtain ⟨-,d0,d1,d2,g0,g1,g2⟩:=r4.facts;obtain ⟨t1,t2,t3⟩:=Jv (T:=166) hk (Aq _) (Nat.le_succ _) (by omega) r3 r4 hdM hdN hres
  have T1:=Ad t1;have T2:=Ad t2;have T3:=Ad t3;clear t1 t2 t3 r3 r4 hk hdM hdN hres z4 p40 p41 p43 p44 hb4' hb5' hd4 hd5 B4 B5 B6X D6X NE k1;refine ⟨?_,?_⟩
  ·go_simp;go_wp2_with fail;exact Eo T1.o T2.o rfl rfl rfl rfl T3.o
  ·first
    | exact .inl (by kernel_rfl)
    | (right
       rw [Jj _ (by omega)] at T1 T2 T3;go_simp;go_wp2_with fail;exact Eo T1.o T2.o rfl rfl rfl rfl T3.o)
theorem cY (o1 o2 o3 o4:Outc Dy)(f g:Dy->Dy->Dy->Dy->Outc Dy) :
 Oa o1 o2 o3 o4 (λx y z u=>Gp (f x y z u) (g x y z u)) =
  Dr ⟨(f o1.v o2.v o3.v o4.v).v,(g o1.v o2.v o3.v o4.v).v⟩ [o1.k,o2.k,o3.k,o4.k,(f o1.v o2.v o3.v o4.v).k,(g o1.v o2.v o3.v o4.v).k]:=by
 unfold Oa
 rw [show (λx=>o2.bind iz λy=>o3.bind iz λz=>o4.bind iz λu=>Gp (f x y z u) (g x y z u)) =
  λx=>o2.bind iz λy=>o3.bind iz λz=>o4.bind iz λu=>Dr ⟨(f x y z u).v,(g x y z u).v⟩ [(f x y z u).k,(g x y z u).k] from by
   funext x;congr 1;funext y;congr 1;funext z;congr 1;funext u;exact Lh _ _]
 unfold Outc.bind;simp only [Dr];by_cases h1:o1.k=0
 ·simp only [h1,if_true,ne_eq,not_true_eq_false,if_false];by_cases h2:o2.k=0
  ·simp only [h2,if_true,not_true_eq_false,if_false];by_cases h3:o3.k=0
   ·simp only [h3,if_true,not_true_eq_false,if_false];by_cases h4:o4.k=0
    ·simp only [h4,if_true,not_true_eq_false,if_false]
    ·simp only [h4,if_false,not_false_eq_true,if_true]
   ·simp only [h3,if_false,not_false_eq_true,if_true]
  ·simp only [h2,if_false,not_false_eq_true,if_true]
 ·simp only [h1,if_false,ne_eq,not_false_eq_true,if_true]
def One (w:World) (v:Value) (r:Raw):Prop:=∃ A n c b,v=.slice (some ⟨b,0,none⟩) 1 1/\Blk w b (.bool r.neg) (.slice A n c) (.int .i64 r.e)/\DyR w (.agg #[.bool r.neg,.slice A n c,.int .i64 r.e]) r
theorem One.kept (h:One w v r)(k:Kept w w'):One w' v r:=by
 obtain ⟨A,n,c,b,h0,h1,h2⟩:=h;exact ⟨A,n,c,b,h0,h1.kept k,h2.kept k⟩
theorem Lm {n m:Nat}(hm:w.heap.size=m)(h:DyR w (.agg #[.bool r.neg,.slice A n c,.int .i64 r.e]) r) :
 One (w.alloc (.cells #[.bool r.neg,.slice A n c,.int .i64 r.e] 28)) (.slice (some ⟨m,0,none⟩) 1 1) r:=by
 subst hm;exact ⟨A,n,c,_,rfl,Bz _ _ _ _,h.kept (Ab _ _)⟩
theorem fM (w:World)(x y z x' y' z':Value):∃ V,V=w.alloc (.cells #[x,y,z,x',y',z'] 28)/\Kept w V/\V.heap[w.heap.size]?=some (.cells #[x,y,z,x',y',z'] 28 (0,0))/\w.heap.size<V.heap.size :=
 ⟨_,rfl,Ab _ _,heap_alloc_new _ _,by simp⟩
theorem Nu (w:World)(x y z:Value):∃ V,V=w.alloc (.cells #[x,y,z] 28)/\Kept w V/\Blk V w.heap.size x y z/\w.heap.size<V.heap.size :=
 ⟨_,rfl,Ab _ _,Bz _ _ _ _,by simp⟩
theorem lN {b:Iv}(ha:a.Ok)(hb:b.Ok)(hT:Tab w)(p1:1<=p)(p2:p<=2000)(ca:BlkIv w ba a)(cb:BlkIv w bb b)(cp:w.cell? ⟨bp,0,none⟩=some (.int .i64 p)) :
 Calls Tryz.prog 136 #[.pointer (some ⟨ba,0,none⟩),.pointer (some ⟨bb,0,none⟩),.pointer (some ⟨bp,0,none⟩)] w (Ji 166 (Bn (Ew a b p)) w):=by
 obtain ⟨A,l,c,A',l',c',hba,x1,x2⟩:=ca;obtain ⟨B,j,e,B',j',e',hbb,y1,y2⟩:=cb;obtain ⟨o1,ho1⟩:∃ o,o=Ch a.lo b.lo:=⟨_,rfl⟩;obtain ⟨o2,ho2⟩:∃ o,o=Ch a.lo b.hi:=⟨_,rfl⟩;obtain ⟨o3,ho3⟩:∃ o,o=Ch a.hi b.lo:=⟨_,rfl⟩;obtain ⟨o4,ho4⟩:∃ o,o=Ch a.hi b.hi:=⟨_,rfl⟩;obtain ⟨m,hm⟩:∃ m,m=Ci o1.v [o1.v,o2.v,o3.v,o4.v]:=⟨_,rfl⟩;obtain ⟨g,hg⟩:∃ g,g=Bd o1.v [o1.v,o2.v,o3.v,o4.v]:=⟨_,rfl⟩;obtain ⟨o5,ho5⟩:∃ o,o=Dj m p false:=⟨_,rfl⟩;obtain ⟨o6,ho6⟩:∃ o,o=Dj g p true:=⟨_,rfl⟩;have hres:Ew a b p=Dr ⟨o5.v,o6.v⟩ [o1.k,o2.k,o3.k,o4.k,o5.k,o6.k]:=by
  unfold Ew;rw [cY _ _ _ _ (λx y z u=>Dj (Ci x [x,y,z,u]) p false) (λx y z u=>Dj (Bd x [x,y,z,u]) p true)];rw [<-ho1,<-ho2,<-ho3,<-ho4,<-hm,<-hg,<-ho5,<-ho6]
 rw [hres];have ok1:o1.Ok:=by rw [ho1];exact Kf _ _
 have ok2:o2.Ok:=by rw [ho2];exact Kf _ _
 have ok3:o3.Ok:=by rw [ho3];exact Kf _ _
 have ok4:o4.Ok:=by rw [ho4];exact Kf _ _
 have okL4:qn [o1.v,o2.v,o3.v,o4.v]:=by intro d hd;simp at hd;rcases hd with rfl | rfl | rfl | rfl;exact ok1.1;exact ok2.1;exact ok3.1;exact ok4.1
 have okm:m.Ok:=by rw [hm];exact R8 ok1.1 okL4
 have okg:g.Ok:=by rw [hg];exact M3 ok1.1 okL4
 have C1:=Ad (λw1 (k:Kept w w1)=>Sq (x1.kept k) (y1.kept k) ha.lo hb.lo (hT.kept k));have C2:=Ad (λw1 (k:Kept w w1)=>Sq (x1.kept k) (y2.kept k) ha.lo hb.hi (hT.kept k));have C3:=Ad (λw1 (k:Kept w w1)=>Sq (x2.kept k) (y1.kept k) ha.hi hb.lo (hT.kept k));have C4:=Ad (λw1 (k:Kept w w1)=>Sq (x2.kept k) (y2.kept k) ha.hi hb.hi (hT.kept k));have C5:=Ad (λw1 (k:Kept w w1) v (hv:DyR w1 v m.raw)=>Qb hv okm (hT.kept k) p1 p2);have C6:=Ad (λw1 (k:Kept w w1) v (hv:DyR w1 v g.raw)=>cz hv okg (hT.kept k) p1 p2);have CL:=Ad (λw1 v (hv:DyS w1 v [o1.v,o2.v,o3.v,o4.v])=>Yr hv okL4 (by simp))
 have CG:=Ad (λw1 v (hv:DyS w1 v [o1.v,o2.v,o3.v,o4.v])=>Qg hv okL4 (by simp));rw [<-ho1] at C1;rw [<-ho2] at C2;rw [<-ho3] at C3;rw [<-ho4] at C4;rw [<-ho5] at C5;rw [<-ho6] at C6;rw [<-hm] at CL;rw [<-hg] at CG;obtain ⟨W,hW,kW,B3,B4⟩:=Qz w;have HW:=Ad hW;have K:=Ad kW;have R3:=Ad B3;have R4:=Ad B4;have HA:=Ad hba;have HB:=Ad hbb;have CP:=Ad cp;have lp:=Av cp;obtain ⟨la,-⟩:=hba.facts;obtain ⟨lb,-⟩:=hbb.facts;simp only at lp;have hst:=Fw ⟨o5.v,o6.v⟩ [o1.raw.k,o2.raw.k,o3.raw.k,o4.raw.k,o5.raw.k,o6.raw.k];obtain ⟨res,hres'⟩:∃ r,r=Bn (Dr ⟨o5.v,o6.v⟩ [o1.k,o2.k,o3.k,o4.k,o5.k,o6.k]):=⟨_,rfl⟩
 have ST:=Ad (show Mr res ⟨o5.raw.v,o6.raw.v⟩ [o1.raw.k,o2.raw.k,o3.raw.k,o4.raw.k,o5.raw.k,o6.raw.k] by rw [hres'];exact hst);rw [<-hres'];have BAD:Hid (∀ (k:Int) (w1:World),Kept w w1->k≠0->res=⟨rzI,k⟩->Ji 166 res w (.panicked (By 166 k)) w1):=λk w1 kk hk he=>by subst he;exact ⟨kk,.inr ⟨hk,rfl⟩⟩
 clear hW kW B3 B4 hba hbb cp x1 x2 y1 y2 ha hb hT p1 p2 ho1 ho2 ho3 ho4 ho5 ho6 hres hres' hst hm hg okL4 okm okg ok1 ok2 ok3 ok4;generalize a.lo.neg=n1,a.lo.e=e1,a.hi.neg=n2,a.hi.e=e2,b.lo.neg=n3,b.lo.e=e3,b.hi.neg=n4,b.hi.e=e4 at *;go_enter Tryz.func136,Tryz.ntmps136;go_upto_region 2 with fail;rw [<-HW.o];obtain ⟨-,a0,a1,a2,a3,a4,a5⟩:=(HA.o.kept K.o).facts;obtain ⟨X,hX,kX,hx15,lX⟩:=fM W (.bool n1) (.slice A l c) (.int .i64 e1) (.bool n2) (.slice A' l' c') (.int .i64 e2);have HX:=Ad hX
 clear hX;go_upto_region 3 with fail;rw [<-HX.o];refine wp_loop_rounds 3 ?_;rw [rounds_succ];have x0:=Ae hx15 0 _ rfl;have x1:=Ae hx15 1 _ rfl;have x2:=Ae hx15 2 _ rfl;have KX:=Ad (K.o.trans kX);have HXb:=Ad hx15;clear a0 a1 a2 a3 a4 a5 hx15;obtain ⟨Y,hY,kY,hy7,lY⟩:=Nu X (.bool n1) (.slice A l c) (.int .i64 e1);have HY:=Ad hY;clear hY;go_upto_region 5 with fail;rw [<-HY.o];replace K:=Ad (KX.o.trans kY);have O5:=Ad (OwnS.nil Y W.heap.size);have B15:=Ad (show Y.heap[W.heap.size]?=some (.cells #[.bool n1,.slice A l c,.int .i64 e1,.bool n2,.slice A' l' c',.int .i64 e2] 28 (0,0)) from (kY.block _ lX).trans HXb.o)
 have hy:=hy7;have lY':=lY;clear x0 x1 x2;obtain ⟨-,b0,b1,b2,b3,b4,b5⟩:=(HB.o.kept K.o).facts;obtain ⟨U,hU,kU,hu25,lU⟩:=fM Y (.bool n3) (.slice B j e) (.int .i64 e3) (.bool n4) (.slice B' j' e') (.int .i64 e4);have HU:=Ad hU;clear hU;go_upto_region 6 with fail;rw [<-HU.o];refine wp_loop_rounds 3 ?_;rw [rounds_succ];have x0:=Ae hu25 0 _ rfl;have x1:=Ae hu25 1 _ rfl;have x2:=Ae hu25 2 _ rfl;have x3:=Ae hu25 3 _ rfl;have x4:=Ae hu25 4 _ rfl;have x5:=Ae hu25 5 _ rfl;have KU:=Ad (K.o.trans kU);have HUb:=Ad hu25;have hy7':=hy.kept kU
 clear b0 b1 b2 b3 b4 b5 hu25;obtain ⟨Z,hZ,kZ,hz9,lZ⟩:=Nu U (.bool n3) (.slice B j e) (.int .i64 e3);have HZ:=Ad hZ;clear hZ;go_upto_region 8 with fail;rw [<-HZ.o];have KZ:=Ad (KU.o.trans kZ);have hz7:=hy7'.kept kZ;clear x0 x1 x2 x3 x4 x5
 refine oN 8 ([(vE (.slice none 0 0)),(vE (.agg #[.bool n1,.slice A l c,.int .i64 e1])),(vE (.agg #[.bool n3,.slice B j e,.int .i64 e3])),(λv wv=>(∃ d,v=.tuple #[d,.int .i64 o1.raw.k]/\DyR wv d o1.raw.v)/\(True)),(λv wv=>DyR wv v o1.raw.v/\(True)),(vE (.int .i64 o1.raw.k)),(λv wv=>(o1.raw.k=0/\(True))/\DyR wv v o1.raw.v),(λv wv=>One wv v o1.raw.v)])
  (hM:=⟨⟨mE,mE,mE,λv w w' k h=>by obtain ⟨⟨d,h1,h2⟩,h3⟩:=h;exact ⟨⟨d,h1,h2.kept k⟩,h3⟩,λv w w' k h=>⟨h.1.kept k,h.2⟩,mE,λv w w' k h=>by first | exact h | exact h.kept k | exact ⟨h.1,h.2.kept k⟩,λv w w' k h=>h.kept k,trivial⟩⟩) ⟨
    (gq 5),(E3 7 λ_ k=>c3 hz7 k),(E3 9 λ_ k=>c3 hz9 k),(λaF wF F=>by have s32:=F.v 1 32;have s33:=F.v 2 33;have hC:True:=trivial;exact Ax (by simp [Region.wanted]) (by go_simp) (C1.o _ (KZ.o.trans F.kept)) (λ_ _ h=>RetE.good h) (λ_ _ h=>⟨h,hC⟩)),(λaF wF F=>by have s34:=F.p 3 34;obtain ⟨⟨dd,ee,hh⟩,hC⟩:=s34;exact sv ⟨hh,hC⟩),(λaF wF F=>by have s34:=F.p 3 34;exact sw (by obtain ⟨⟨dd,ee,hh⟩,-⟩:=s34;go_simp) rfl),(λaF wF F=>by have s35:=F.p 4 35;have s36:=F.v 5 36;have hC:=s35.2;exact sG (D3 (d:=o1.v) (k:=o1.raw.k) s35.1) (λ_ _ _ h0 h=>⟨⟨h0,hC⟩,h⟩) (λw2 k2 h0=>⟨F.defers,BAD.o _ _ (KZ.o.trans (F.kept.trans k2)) h0 (ST.o.1 h0)⟩)),(λaF wF F=>by have s37:=F.p 6 37;obtain ⟨A9,l9,c9,e9,hd9⟩:=Bf s37.2;simp only [Cv] at e9;exact Zm (Lm rfl hd9)),
    trivial⟩ ?_
 intro u w1 k1 hu;have p34:=hp hu 3;have p35:=hp hu 4;have p37:=hp hu 6;have p38:=hp hu 7;simp only [Bb,Ap,Act.put,Ep,hv hu 0,hv hu 1,hv hu 2,hv hu 5];clear hu;generalize u 3=v34,u 4=v35,u 6=v37,u 7=v38 at *;obtain ⟨A9,l9,c9,b9,u9,hb9,hd9⟩:=p38;obtain ⟨⟨z1,-⟩,-⟩:=p37;replace K:=Ad (KZ.o.trans k1);have KW:=Ad (((((kX.trans kY).trans kU).trans kZ).trans k1));have B15':=Ad ((((kU.trans kZ).trans k1).block _ (Nat.lt_trans lX lY')).trans B15.o);subst u9;refine Fc (.tmp 31) (.tmp 38) ?ho (v:=.slice none 0 0) ?hs (OwnS.nil w1 w1.heap.size) (d:=o1.v) hd9 hb9 ?hx (by simp) (Aq _) ?h
 case ho=>rfl
 case hs=>first | rfl | (go_simp;done)
 case hx=>first | rfl | (go_simp;done)
 intro v1 S1 O1 hg1;have KS:=Ad (show Kept w1 S1 from Below.grown (Below.refl _ _) hg1 (Aq _) (by intro k hk;simp [Value.ownBlock] at hk));have Z1:=Ad z1;have OW1:=Ad O1;clear z1 hd9 hb9 p34 p35 hg1 O1;have lw1:w.heap.size<=w1.heap.size:=K.o.size;replace K:=Ad (K.o.trans KS.o);have b25:=((kZ.trans k1).trans KS.o).block _ (Dn (Bi HUb.o).1 (Aq _)) |>.trans HUb.o
 have b7:=(hz7.kept k1).kept KS.o;have B25:=Ad b25;go_simp;go_wp2_with fail;rw [rounds_succ];have x3:=Ae b25 3 _ rfl;have x4:=Ae b25 4 _ rfl;have x5:=Ae b25 5 _ rfl;obtain ⟨Z2,hZ2,kZ2,hz92,lZ2⟩:=Nu S1 (.bool n4) (.slice B' j' e') (.int .i64 e4);have HZ2:=Ad hZ2;clear hZ2;go_upto_region 8 with fail;rw [<-HZ2.o];generalize w1=T at *;replace K:=Ad (K.o.trans kZ2);have c7:=b7.kept kZ2;clear x3 x4 x5
 refine oN 8 ([(vE v1),(vE (.agg #[.bool n1,.slice A l c,.int .i64 e1])),(vE (.agg #[.bool n4,.slice B' j' e',.int .i64 e4])),(λv wv=>(∃ d,v=.tuple #[d,.int .i64 o2.raw.k]/\DyR wv d o2.raw.v)/\(True)),(λv wv=>DyR wv v o2.raw.v/\(True)),(vE (.int .i64 o2.raw.k)),(λv wv=>(o2.raw.k=0/\(True))/\DyR wv v o2.raw.v),(λv wv=>One wv v o2.raw.v)])
  (hM:=⟨⟨mE,mE,mE,λv w w' k h=>by obtain ⟨⟨d,h1,h2⟩,h3⟩:=h;exact ⟨⟨d,h1,h2.kept k⟩,h3⟩,λv w w' k h=>⟨h.1.kept k,h.2⟩,mE,λv w w' k h=>by first | exact h | exact h.kept k | exact ⟨h.1,h.2.kept k⟩,λv w w' k h=>h.kept k,trivial⟩⟩) ⟨
    (gq 5),(E3 7 λ_ k=>c3 c7 k),(E3 9 λ_ k=>c3 hz92 k),(λaF wF F=>by have s32:=F.v 1 32;have s33:=F.v 2 33;have hC:True:=trivial;exact Ax (by simp [Region.wanted]) (by go_simp) (C2.o _ (K.o.trans F.kept)) (λ_ _ h=>RetE.good h) (λ_ _ h=>⟨h,hC⟩)),(λaF wF F=>by have s34:=F.p 3 34;obtain ⟨⟨dd,ee,hh⟩,hC⟩:=s34;exact sv ⟨hh,hC⟩),(λaF wF F=>by have s34:=F.p 3 34;exact sw (by obtain ⟨⟨dd,ee,hh⟩,-⟩:=s34;go_simp) rfl),(λaF wF F=>by have s35:=F.p 4 35;have s36:=F.v 5 36;have hC:=s35.2;exact sG (D3 (d:=o2.v) (k:=o2.raw.k) s35.1) (λ_ _ _ h0 h=>⟨⟨h0,hC⟩,h⟩) (λw2 k2 h0=>⟨F.defers,BAD.o _ _ (K.o.trans (F.kept.trans k2)) h0 ((ST.o.2 Z1.o).1 h0)⟩)),(λaF wF F=>by have s37:=F.p 6 37;obtain ⟨A9,l9,c9,e9,hd9⟩:=Bf s37.2;simp only [Cv] at e9;exact Zm (Lm rfl hd9)),
    trivial⟩ ?_
 intro u w1 k1 hu;have p34:=hp hu 3;have p35:=hp hu 4;have p37:=hp hu 6;have p38:=hp hu 7;simp only [Bb,Ap,Act.put,Ep,hv hu 0,hv hu 1,hv hu 2,hv hu 5];clear hu;generalize u 3=v34,u 4=v35,u 6=v37,u 7=v38 at *;obtain ⟨A8,l8,c8,b8,u9,hb9,hd9⟩:=p38;obtain ⟨⟨z2,-⟩,-⟩:=p37;subst u9;have O2:=(OW1.o.kept kZ2).kept k1;have lT:T.heap.size<=w1.heap.size:=Bp KS.o.size (Bp kZ2.size k1.size);refine Fc (.tmp 31) (.tmp 38) ?ho (v:=v1) ?hs O2 (d:=o2.v) hd9 hb9 ?hx (by simp) lT ?h
 case ho=>rfl
 case hs=>first | rfl | (go_simp;done)
 case hx=>first | rfl | (go_simp;done)
 intro v2 S2 O2' hg2;have KT:=Ad (show Kept T S2 from Below.grown ((KS.o.trans kZ2).trans k1) hg2 lT (λk hk=>(O2.row.lt k hk).1));have lw2:w.heap.size<=w1.heap.size:=Bp lw1 lT;replace K:=Ad (show Kept w S2 from Below.grown (K.o.trans k1) hg2 lw2 (λk hk=>Bp lw1 (O2.row.lt k hk).1));have Z2':=Ad z2;have OW2:=Ad O2';have d15:=(KT.o.block _ (Dn (Bi B15'.o).1 (Aq _))).trans B15'.o;have D15:=Ad d15;clear z2 hd9 hb9 p34 p35 hg2 O2 O2' c7 b7 b25 hz92 k1 kZ2 hz7;go_simp;go_wp2_with fail;rw [rounds_succ];go_wp2_with fail
 rw [rounds_succ];have x3:=Ae d15 3 _ rfl;have x4:=Ae d15 4 _ rfl;have x5:=Ae d15 5 _ rfl;obtain ⟨Y3,hY3,kY3,hb3,lY3⟩:=Nu S2 (.bool n2) (.slice A' l' c') (.int .i64 e2);have HY3:=Ad hY3;clear hY3;go_upto_region 5 with fail;rw [<-HY3.o];clear x3 x4 x5 d15;replace K:=Ad (K.o.trans kY3);obtain ⟨-,b0,b1,b2,b3,b4,b5⟩:=(HB.o.kept K.o).facts;obtain ⟨U3,hU3,kU3,hu25,lU3⟩:=fM Y3 (.bool n3) (.slice B j e) (.int .i64 e3) (.bool n4) (.slice B' j' e') (.int .i64 e4);have HU3:=Ad hU3;clear hU3;go_upto_region 6 with fail;rw [<-HU3.o];refine wp_loop_rounds 3 ?_;rw [rounds_succ]
 have x0:=Ae hu25 0 _ rfl;have x1:=Ae hu25 1 _ rfl;have x2:=Ae hu25 2 _ rfl;replace K:=Ad (K.o.trans kU3);have HU3b:=Ad hu25;clear b0 b1 b2 b3 b4 b5 hu25;obtain ⟨Z3,hZ3,kZ3,hz9,lZ3⟩:=Nu U3 (.bool n3) (.slice B j e) (.int .i64 e3);have HZ3:=Ad hZ3;clear hZ3;go_upto_region 8 with fail;rw [<-HZ3.o];replace K:=Ad (K.o.trans kZ3);have hz7:=(hb3.kept kU3).kept kZ3;generalize w1=T2 at *;clear x0 x1 x2
 refine oN 8 ([(vE v2),(vE (.agg #[.bool n2,.slice A' l' c',.int .i64 e2])),(vE (.agg #[.bool n3,.slice B j e,.int .i64 e3])),(λv wv=>(∃ d,v=.tuple #[d,.int .i64 o3.raw.k]/\DyR wv d o3.raw.v)/\(True)),(λv wv=>DyR wv v o3.raw.v/\(True)),(vE (.int .i64 o3.raw.k)),(λv wv=>(o3.raw.k=0/\(True))/\DyR wv v o3.raw.v),(λv wv=>One wv v o3.raw.v)])
  (hM:=⟨⟨mE,mE,mE,λv w w' k h=>by obtain ⟨⟨d,h1,h2⟩,h3⟩:=h;exact ⟨⟨d,h1,h2.kept k⟩,h3⟩,λv w w' k h=>⟨h.1.kept k,h.2⟩,mE,λv w w' k h=>by first | exact h | exact h.kept k | exact ⟨h.1,h.2.kept k⟩,λv w w' k h=>h.kept k,trivial⟩⟩) ⟨
    (gq 5),(E3 7 λ_ k=>c3 hz7 k),(E3 9 λ_ k=>c3 hz9 k),(λaF wF F=>by have s32:=F.v 1 32;have s33:=F.v 2 33;have hC:True:=trivial;exact Ax (by simp [Region.wanted]) (by go_simp) (C3.o _ (K.o.trans F.kept)) (λ_ _ h=>RetE.good h) (λ_ _ h=>⟨h,hC⟩)),(λaF wF F=>by have s34:=F.p 3 34;obtain ⟨⟨dd,ee,hh⟩,hC⟩:=s34;exact sv ⟨hh,hC⟩),(λaF wF F=>by have s34:=F.p 3 34;exact sw (by obtain ⟨⟨dd,ee,hh⟩,-⟩:=s34;go_simp) rfl),(λaF wF F=>by have s35:=F.p 4 35;have s36:=F.v 5 36;have hC:=s35.2;exact sG (D3 (d:=o3.v) (k:=o3.raw.k) s35.1) (λ_ _ _ h0 h=>⟨⟨h0,hC⟩,h⟩) (λw2 k2 h0=>⟨F.defers,BAD.o _ _ (K.o.trans (F.kept.trans k2)) h0 (((ST.o.2 Z1.o).2 Z2'.o).1 h0)⟩)),(λaF wF F=>by have s37:=F.p 6 37;obtain ⟨A9,l9,c9,e9,hd9⟩:=Bf s37.2;simp only [Cv] at e9;exact Zm (Lm rfl hd9)),
    trivial⟩ ?_
 intro u w1 k1 hu;have p34:=hp hu 3;have p35:=hp hu 4;have p37:=hp hu 6;have p38:=hp hu 7;simp only [Bb,Ap,Act.put,Ep,hv hu 0,hv hu 1,hv hu 2,hv hu 5];clear hu;generalize u 3=v34,u 4=v35,u 6=v37,u 7=v38 at *;obtain ⟨A7,l7,c7,b7,u9,hb9,hd9⟩:=p38;obtain ⟨⟨z3,-⟩,-⟩:=p37;subst u9;have O3:=(((OW2.o.kept kY3).kept kU3).kept kZ3).kept k1;have lT3:T.heap.size<=w1.heap.size:=Bp KT.o.size (Bp kY3.size (Bp kU3.size (Bp kZ3.size k1.size)));refine Fc (.tmp 31) (.tmp 38) ?ho (v:=v2) ?hs O3 (d:=o3.v) hd9 hb9 ?hx (by simp) lT3 ?h
 case ho=>rfl
 case hs=>first | rfl | (go_simp;done)
 case hx=>first | rfl | (go_simp;done)
 intro v3 S3 O3' hg3;have l7:S2.heap.size<w1.heap.size:=Dn lY3 (Bp kU3.size (Bp kZ3.size k1.size));have l25:Y3.heap.size<w1.heap.size:=Dn lU3 (Bp kZ3.size k1.size)
 have q7:Blk S3 S2.heap.size (.bool n2) (.slice A' l' c') (.int .i64 e2) :=
  (hg3.block _ l7 (λe=>by have:=(OW2.o.row.lt _ e.symm).2;omega)).trans (hz7.kept k1)
 have q25:=(hg3.block _ l25 (λe=>by have:=(OW2.o.row.lt _ e.symm).2;have:=kY3.size;omega)).trans (((kZ3.trans k1).block _ (Bi HU3b.o).1).trans HU3b.o);replace KT:=Ad (show Kept T S3 from Below.grown (((((KT.o.trans kY3).trans kU3).trans kZ3).trans k1)) hg3 lT3 (λk hk=>(O3.row.lt k hk).1));replace K:=Ad (show Kept w S3 from Below.grown (K.o.trans k1) hg3 (Bp lw1 lT3) (λk hk=>Bp lw1 (O3.row.lt k hk).1));have Z3':=Ad z3;have OW3:=Ad O3';clear z3 hd9 hb9 p34 p35 hg3 O3 O3' k1 kZ3 hz7 hz9 l7 l25 kY3 kU3 OW1;go_simp;go_wp2_with fail
 rw [rounds_succ];have x3:=Ae q25 3 _ rfl;have x4:=Ae q25 4 _ rfl;have x5:=Ae q25 5 _ rfl;obtain ⟨Z4,hZ4,kZ4,hz94,lZ4⟩:=Nu S3 (.bool n4) (.slice B' j' e') (.int .i64 e4);have HZ4:=Ad hZ4;clear hZ4;go_upto_region 8 with fail;rw [<-HZ4.o];replace K:=Ad (K.o.trans kZ4);have hz7:=q7.kept kZ4;generalize w1=T3 at *;clear x3 x4 x5
 refine oN 8 ([(vE v3),(vE (.agg #[.bool n2,.slice A' l' c',.int .i64 e2])),(vE (.agg #[.bool n4,.slice B' j' e',.int .i64 e4])),(λv wv=>(∃ d,v=.tuple #[d,.int .i64 o4.raw.k]/\DyR wv d o4.raw.v)/\(True)),(λv wv=>DyR wv v o4.raw.v/\(True)),(vE (.int .i64 o4.raw.k)),(λv wv=>(o4.raw.k=0/\(True))/\DyR wv v o4.raw.v),(λv wv=>One wv v o4.raw.v)])
  (hM:=⟨⟨mE,mE,mE,λv w w' k h=>by obtain ⟨⟨d,h1,h2⟩,h3⟩:=h;exact ⟨⟨d,h1,h2.kept k⟩,h3⟩,λv w w' k h=>⟨h.1.kept k,h.2⟩,mE,λv w w' k h=>by first | exact h | exact h.kept k | exact ⟨h.1,h.2.kept k⟩,λv w w' k h=>h.kept k,trivial⟩⟩) ⟨
    (gq 5),(E3 7 λ_ k=>c3 hz7 k),(E3 9 λ_ k=>c3 hz94 k),(λaF wF F=>by have s32:=F.v 1 32;have s33:=F.v 2 33;have hC:True:=trivial;exact Ax (by simp [Region.wanted]) (by go_simp) (C4.o _ (K.o.trans F.kept)) (λ_ _ h=>RetE.good h) (λ_ _ h=>⟨h,hC⟩)),(λaF wF F=>by have s34:=F.p 3 34;obtain ⟨⟨dd,ee,hh⟩,hC⟩:=s34;exact sv ⟨hh,hC⟩),(λaF wF F=>by have s34:=F.p 3 34;exact sw (by obtain ⟨⟨dd,ee,hh⟩,-⟩:=s34;go_simp) rfl),(λaF wF F=>by have s35:=F.p 4 35;have s36:=F.v 5 36;have hC:=s35.2;exact sG (D3 (d:=o4.v) (k:=o4.raw.k) s35.1) (λ_ _ _ h0 h=>⟨⟨h0,hC⟩,h⟩) (λw2 k2 h0=>⟨F.defers,BAD.o _ _ (K.o.trans (F.kept.trans k2)) h0 ((((ST.o.2 Z1.o).2 Z2'.o).2 Z3'.o).1 h0)⟩)),(λaF wF F=>by have s37:=F.p 6 37;obtain ⟨A9,l9,c9,e9,hd9⟩:=Bf s37.2;simp only [Cv] at e9;exact Zm (Lm rfl hd9)),
    trivial⟩ ?_
 intro u w1 k1 hu;have p34:=hp hu 3;have p35:=hp hu 4;have p37:=hp hu 6;have p38:=hp hu 7;simp only [Bb,Ap,Act.put,Ep,hv hu 0,hv hu 1,hv hu 2,hv hu 5];clear hu;generalize u 3=v34,u 4=v35,u 6=v37,u 7=v38 at *;obtain ⟨A6,l6,c6,b6,u9,hb9,hd9⟩:=p38;obtain ⟨⟨z4,-⟩,-⟩:=p37;subst u9;have O4:=(OW3.o.kept kZ4).kept k1;have lT4:T.heap.size<=w1.heap.size:=Bp KT.o.size (Bp kZ4.size k1.size);refine Fc (.tmp 31) (.tmp 38) ?ho (v:=v3) ?hs O4 (d:=o4.v) hd9 hb9 ?hx (by simp) lT4 ?h
 case ho=>rfl
 case hs=>first | rfl | (go_simp;done)
 case hx=>first | rfl | (go_simp;done)
 intro v4 S4 O4' hg4;replace KT:=Ad (show Kept T S4 from Below.grown ((KT.o.trans kZ4).trans k1) hg4 lT4 (λk hk=>(O4.row.lt k hk).1));replace K:=Ad (show Kept w S4 from Below.grown (K.o.trans k1) hg4 (Bp lw1 lT4) (λk hk=>Bp lw1 (O4.row.lt k hk).1));have Z4':=Ad z4;have OD:=Ad (show DyS S4 v4 [o1.v,o2.v,o3.v,o4.v] from O4'.dyS);clear z4 hd9 hb9 p34 p35 hg4 O4 O4' k1 kZ4 hz7 hz94 OW3 OW2 q7 q25;go_simp;go_wp2_with fail;rw [rounds_succ];go_wp2_with fail;rw [rounds_succ];go_upto_region 11 with fail;replace R3:=Ad ((R3.o.kept KW.o).kept KT.o);replace R4:=Ad ((R4.o.kept KW.o).kept KT.o)
 clear HXb HUb HU3b B15 B15' D15 B25 hy7 hb3 KX KU KZ KS kX kY kU kZ;generalize w1=T4 at *
 refine Ih 8 ([(vE v4),(λv wv=>DyR wv v m.raw),(vE (.int .i64 p)),(λv wv=>(∃ d,v=.tuple #[d,.int .i64 o5.raw.k]/\DyR wv d o5.raw.v)/\(True)),(λv wv=>DyR wv v o5.raw.v/\(True)),(vE (.int .i64 o5.raw.k)),(λv wv=>(o5.raw.k=0/\(True))/\DyR wv v o5.raw.v),(λv wv=>∃ b,v=.pointer (some ⟨b,0,none⟩)/\S4.heap.size<=b/\Blk wv b (.bool false) (.slice none 0 0) (.int .i64 0))])
  ⟨
   (gq 5),(λaF wF F=>by have s42:=F.v 0 42;exact sD (CL.o _ _ (OD.o.kept F.kept)) λ_ _ h=>h),(λaF wF F=>by have s2:=F.q 2 (.pointer (some ⟨bp,0,none⟩));exact sw (by have cq:=An (K.o.trans F.kept) CP.o;go_simp) rfl),(λaF wF F=>by have s43:=F.p 1 43;have s44:=F.v 2 44;have hC:True:=trivial;exact Ax (by simp [Region.wanted]) (by go_simp) (C5.o _ (K.o.trans F.kept) _ s43) (λ_ _ h=>RetE.good h) (λ_ _ h=>⟨h,hC⟩)),(λaF wF F=>by have s45:=F.p 3 45;obtain ⟨⟨dd,ee,hh⟩,hC⟩:=s45;exact sv ⟨hh,hC⟩),(λaF wF F=>by have s45:=F.p 3 45;exact sw (by obtain ⟨⟨dd,ee,hh⟩,-⟩:=s45;go_simp) rfl),(λaF wF F=>by have s46:=F.p 4 46;have s47:=F.v 5 47;have hC:=s46.2;exact sG (D3 (d:=o5.v) (k:=o5.raw.k) s46.1) (λ_ _ _ h0 h=>⟨⟨h0,hC⟩,h⟩) (λw2 k2 h0=>⟨F.defers,BAD.o _ _ (K.o.trans (F.kept.trans k2)) h0 (((((ST.o.2 Z1.o).2 Z2'.o).2 Z3'.o).2 Z4'.o).1 h0)⟩)),(λaF wF F=>by exact sN ⟨_,rfl,F.kept.size,El _⟩),
   trivial⟩ ?_
 intro u w1 k1 hu;have p43:=hp hu 1;have p45:=hp hu 3;have p46:=hp hu 4;have p48:=hp hu 6;have p10:=hp hu 7;simp only [Bb,Ap,Act.put,Ep,hv hu 0,hv hu 2,hv hu 5];clear hu;generalize u 1=v43,u 3=v45,u 4=v46,u 6=v48,u 7=v10 at *;obtain ⟨bl,rfl,hbl,hB5⟩:=p10;obtain ⟨⟨z1,-⟩,hd2⟩:=p48;obtain ⟨A5,l5,c5,rfl,hd2⟩:=Bf hd2;obtain ⟨lb5,c0,c1,c2,f0,f1,f2⟩:=hB5.facts;have hsW:=(Bi R4.o).1;have Z:=Ad z1;have KX:=Ad (Au (x:=.bool o5.raw.v.neg) (y:=.slice A5 l5 c5) (z:=.int .i64 o5.raw.v.e) (K.o.trans k1) (show w.heap.size<=bl by omega))
 have R3X:=Ad ((R3.o.kept k1).laid_other (b':=bl) (by omega) (.bool o5.raw.v.neg) (.slice A5 l5 c5) (.int .i64 o5.raw.v.e));have R4X:=Ad ((R4.o.kept k1).laid_other (b':=bl) (by omega) (.bool o5.raw.v.neg) (.slice A5 l5 c5) (.int .i64 o5.raw.v.e));have B5X:=Ad (hB5.laid (.bool o5.raw.v.neg) (.slice A5 l5 c5) (.int .i64 o5.raw.v.e));have D5X:=Ad (hd2.dyW hB5 (Ah _) (Ag _ _ _) (Aj _) (.bool o5.raw.v.neg) (.slice A5 l5 c5) (.int .i64 o5.raw.v.e));have ODX:=Ad (OD.o.kept (Au (x:=.bool o5.raw.v.neg) (y:=.slice A5 l5 c5) (z:=.int .i64 o5.raw.v.e) k1 hbl));clear z1 hd2 hB5 hsW p43 p45 p46 k1
 go_simp;go_upto_region 12 with fail;change Code.wp _ _ _ _ (dyW w1 bl _ _ _);generalize dyW w1 bl (.bool o5.raw.v.neg) (.slice A5 l5 c5) (.int .i64 o5.raw.v.e)=X5 at *;clear c0 c1 c2 f0 f1 f2 lb5
 refine Qp 8 ([(vE (.agg #[.bool o5.raw.v.neg,.slice A5 l5 c5,.int .i64 o5.raw.v.e])),(vE v4),(λv wv=>DyR wv v g.raw),(vE (.int .i64 p)),(λv wv=>(∃ d,v=.tuple #[d,.int .i64 o6.raw.k]/\DyR wv d o6.raw.v)/\(True)),(λv wv=>DyR wv v o6.raw.v/\(True)),(vE (.int .i64 o6.raw.k)),(λv wv=>(o6.raw.k=0/\(True))/\DyR wv v o6.raw.v)])
  ⟨
   (E3 10 λ_ k=>c3 B5X.o k),(gq 5),(λaF wF F=>by have s50:=F.v 1 50;exact sD (CG.o _ _ (ODX.o.kept F.kept)) λ_ _ h=>h),(λaF wF F=>by have s2:=F.q 2 (.pointer (some ⟨bp,0,none⟩));exact sw (by have cq:=An (KX.o.trans F.kept) CP.o;go_simp) rfl),(λaF wF F=>by have s51:=F.p 2 51;have s52:=F.v 3 52;have hC:True:=trivial;exact Ax (by simp [Region.wanted]) (by go_simp) (C6.o _ (KX.o.trans F.kept) _ s51) (λ_ _ h=>RetE.good h) (λ_ _ h=>⟨h,hC⟩)),(λaF wF F=>by have s53:=F.p 4 53;obtain ⟨⟨dd,ee,hh⟩,hC⟩:=s53;exact sv ⟨hh,hC⟩),(λaF wF F=>by have s53:=F.p 4 53;exact sw (by obtain ⟨⟨dd,ee,hh⟩,-⟩:=s53;go_simp) rfl),(λaF wF F=>by have s54:=F.p 5 54;have s55:=F.v 6 55;have hC:=s54.2;exact sG (D3 (d:=o6.v) (k:=o6.raw.k) s54.1) (λ_ _ _ h0 h=>⟨⟨h0,hC⟩,h⟩) (λw2 k2 h0=>⟨F.defers,BAD.o _ _ (KX.o.trans (F.kept.trans k2)) h0 ((((((ST.o.2 Z1.o).2 Z2'.o).2 Z3'.o).2 Z4'.o).2 Z.o).1 h0)⟩)),
   trivial⟩ ?_
 intro u w1 k1 hu;have p51:=hp hu 2;have p53:=hp hu 4;have p54:=hp hu 5;have p56:=hp hu 7;simp only [Bb,Ap,Act.put,Ep,hv hu 0,hv hu 1,hv hu 3,hv hu 6];clear hu;generalize u 2=v51,u 4=v53,u 5=v54,u 7=v56 at *;obtain ⟨⟨z4,-⟩,hd4⟩:=p56;obtain ⟨A6,l6,c6,rfl,hd4⟩:=Bf hd4;have hres:=(((((ST.o.2 Z1.o).2 Z2'.o).2 Z3'.o).2 Z4'.o).2 Z.o).2 z4;have r3:=R3X.o.kept k1;have r4:=R4X.o.kept k1;have hk:=KX.o.trans k1;have hd5:=D5X.o.kept k1;obtain ⟨-,c0,c1,c2,f0,f1,f2⟩:=r3.facts;obtain ⟨-,d0,d1,d2,g0,g1,g2⟩:=r4.facts;obtain ⟨t1,t2,t3⟩:=Jv (T:=166) hk (Aq _) (Nat.le_succ _) (by omega) r3 r4 hd5 hd4 hres
 have T1:=Ad t1;have T2:=Ad t2;have T3:=Ad t3;clear t1 t2 t3 r3 r4 hk hd5 hd4 hres z4 p51 p53 p54 k1;refine ⟨?_,?_⟩
 ·go_simp;go_wp2_with fail;exact Eo T1.o T2.o rfl rfl rfl rfl T3.o
 ·first
   | exact .inl (by kernel_rfl)
   | (right
      rw [Jj _ (by omega)] at T1 T2 T3;go_simp;go_wp2_with fail;exact Eo T1.o T2.o rfl rfl rfl rfl T3.o)
def G7:List Int->Int
 | []=>0
 | k::l=>if k≠0 then k else G7 l
def cn (res:Int):List Int->Prop
 | []=>res=0
 | k::l=>(k≠0->res=k)/\(k=0->cn res l)
theorem kO:∀ l:List Int,cn (G7 l) l
 | []=>rfl
 | k :: l => by
   refine ⟨λh=>?_,λh=>?_⟩
   ·unfold G7;rw [Ak h]
   ·unfold G7;rw [Af (by simpa using h)];exact kO l
def it (T:TypeId) (res:Int) (l:List Dy) (w:World):Ending->World->Prop:=λe w'=>Kept w w'/\((res=0/\∃ v,e=.returned v/\DyS w' v l)\/(res≠0/\e=.panicked (By T res)))
theorem iW {b:Iv}(ha:a.Ok)(hb:b.Ok)(hT:Tab w)(p1:1<=p)(p2:p<=2000)(ca:BlkIv w ba a)(cb:BlkIv w bb b)(cp:w.cell? ⟨bp,0,none⟩=some (.int .i64 p)) :
 Calls Tryz.prog 127 #[.bool up,.pointer (some ⟨ba,0,none⟩),.pointer (some ⟨bb,0,none⟩),.pointer (some ⟨bp,0,none⟩)] w
  (it 166 (G7 [(Cz a.lo b.lo p up).k,(Cz a.lo b.hi p up).k,(Cz a.hi b.lo p up).k,(Cz a.hi b.hi p up).k])
    [(Cz a.lo b.lo p up).v,(Cz a.lo b.hi p up).v,(Cz a.hi b.lo p up).v,(Cz a.hi b.hi p up).v] w):=by
 obtain ⟨A,l,c,A',l',c',hba,x1,x2⟩:=ca;obtain ⟨B,j,e,B',j',e',hbb,y1,y2⟩:=cb;have C1:=Ad (λw1 (k:Kept w w1)=>Qo (up:=up) (x1.kept k) (y1.kept k) ha.lo hb.lo (hT.kept k) p1 p2);have C2:=Ad (λw1 (k:Kept w w1)=>Qo (up:=up) (x1.kept k) (y2.kept k) ha.lo hb.hi (hT.kept k) p1 p2);have C3:=Ad (λw1 (k:Kept w w1)=>Qo (up:=up) (x2.kept k) (y1.kept k) ha.hi hb.lo (hT.kept k) p1 p2);have C4:=Ad (λw1 (k:Kept w w1)=>Qo (up:=up) (x2.kept k) (y2.kept k) ha.hi hb.hi (hT.kept k) p1 p2);generalize Cz a.lo b.lo p up=o1 at *;generalize Cz a.lo b.hi p up=o2 at *;generalize Cz a.hi b.lo p up=o3 at *
 generalize Cz a.hi b.hi p up=o4 at *;have K:=Ad (show Kept w w from Below.refl _ _);have HA:=Ad hba;have HB:=Ad hbb;have CP:=Ad cp;have lp:=Av cp;obtain ⟨la,-⟩:=hba.facts;obtain ⟨lb,-⟩:=hbb.facts;simp only at lp;have hst:=kO [o1.raw.k,o2.raw.k,o3.raw.k,o4.raw.k];obtain ⟨res,hres'⟩:∃ r,r=G7 [o1.k,o2.k,o3.k,o4.k]:=⟨_,rfl⟩;have ST:=Ad (show cn res [o1.raw.k,o2.raw.k,o3.raw.k,o4.raw.k] by rw [hres'];exact hst);rw [<-hres'];have BAD:Hid (∀ (k:Int) (w1:World),Kept w w1->k≠0->res=k->it 166 res [o1.v,o2.v,o3.v,o4.v] w (.panicked (By 166 k)) w1):=λk w1 kk hk he=>by subst he;exact ⟨kk,.inr ⟨hk,rfl⟩⟩
 clear hba hbb cp x1 x2 y1 y2 ha hb hT p1 p2 hres' hst;generalize a.lo.neg=n1,a.lo.e=e1,a.hi.neg=n2,a.hi.e=e2,b.lo.neg=n3,b.lo.e=e3,b.hi.neg=n4,b.hi.e=e4 at *;go_enter Tryz.func127,Tryz.ntmps127;go_upto_region 2 with fail;obtain ⟨-,a0,a1,a2,a3,a4,a5⟩:=(HA.o.kept K.o).facts;obtain ⟨X,hX,kX,hx15,lX⟩:=fM w (.bool n1) (.slice A l c) (.int .i64 e1) (.bool n2) (.slice A' l' c') (.int .i64 e2);have HX:=Ad hX;clear hX;go_upto_region 3 with fail;rw [<-HX.o];refine wp_loop_rounds 3 ?_;rw [rounds_succ]
 have x0:=Ae hx15 0 _ rfl;have x1:=Ae hx15 1 _ rfl;have x2:=Ae hx15 2 _ rfl;have KX:=Ad (K.o.trans kX);have HXb:=Ad hx15;clear a0 a1 a2 a3 a4 a5 hx15;obtain ⟨Y,hY,kY,hy7,lY⟩:=Nu X (.bool n1) (.slice A l c) (.int .i64 e1);have HY:=Ad hY;clear hY;go_upto_region 5 with fail;rw [<-HY.o];replace K:=Ad (KX.o.trans kY);have O5:=Ad (OwnS.nil Y w.heap.size);have B15:=Ad (show Y.heap[w.heap.size]?=some (.cells #[.bool n1,.slice A l c,.int .i64 e1,.bool n2,.slice A' l' c',.int .i64 e2] 28 (0,0)) from (kY.block _ lX).trans HXb.o);have hy:=hy7;have lY':=lY;clear x0 x1 x2
 obtain ⟨-,b0,b1,b2,b3,b4,b5⟩:=(HB.o.kept K.o).facts;obtain ⟨U,hU,kU,hu25,lU⟩:=fM Y (.bool n3) (.slice B j e) (.int .i64 e3) (.bool n4) (.slice B' j' e') (.int .i64 e4);have HU:=Ad hU;clear hU;go_upto_region 6 with fail;rw [<-HU.o];refine wp_loop_rounds 3 ?_;rw [rounds_succ];have x0:=Ae hu25 0 _ rfl;have x1:=Ae hu25 1 _ rfl;have x2:=Ae hu25 2 _ rfl;have x3:=Ae hu25 3 _ rfl;have x4:=Ae hu25 4 _ rfl;have x5:=Ae hu25 5 _ rfl;have KU:=Ad (K.o.trans kU);have HUb:=Ad hu25;have hy7':=hy.kept kU;clear b0 b1 b2 b3 b4 b5 hu25;obtain ⟨Z,hZ,kZ,hz9,lZ⟩:=Nu U (.bool n3) (.slice B j e) (.int .i64 e3)
 have HZ:=Ad hZ;clear hZ;go_upto_region 8 with fail;rw [<-HZ.o];have KZ:=Ad (KU.o.trans kZ);have hz7:=hy7'.kept kZ;clear x0 x1 x2 x3 x4 x5
 refine oN 10 ([(vE (.slice none 0 0)),(vE (.agg #[.bool n1,.slice A l c,.int .i64 e1])),(vE (.agg #[.bool n3,.slice B j e,.int .i64 e3])),(vE (.int .i64 p)),(vE (.bool up)),(λv wv=>(∃ d,v=.tuple #[d,.int .i64 o1.raw.k]/\DyR wv d o1.raw.v)/\(True)),(λv wv=>DyR wv v o1.raw.v/\(True)),(vE (.int .i64 o1.raw.k)),(λv wv=>(o1.raw.k=0/\(True))/\DyR wv v o1.raw.v),(λv wv=>One wv v o1.raw.v)])
  (hM:=⟨⟨mE,mE,mE,mE,mE,λv w w' k h=>by obtain ⟨⟨d,h1,h2⟩,h3⟩:=h;exact ⟨⟨d,h1,h2.kept k⟩,h3⟩,λv w w' k h=>⟨h.1.kept k,h.2⟩,mE,λv w w' k h=>by first | exact h | exact h.kept k | exact ⟨h.1,h.2.kept k⟩,λv w w' k h=>h.kept k,trivial⟩⟩) ⟨
    (gq 6),(E3 8 λ_ k=>c3 hz7 k),(E3 10 λ_ k=>c3 hz9 k),(λaF wF F=>by have s3:=F.q 3 (.pointer (some ⟨bp,0,none⟩));exact sw (by have cq:=An (KZ.o.trans F.kept) CP.o;go_simp) rfl),(gq 0),(λaF wF F=>by have s32:=F.v 1 32;have s33:=F.v 2 33;have s34:=F.v 3 34;have s35:=F.v 4 35;have hC:True:=trivial;exact Ax (by simp [Region.wanted]) (by go_simp) (C1.o _ (KZ.o.trans F.kept)) (λ_ _ h=>RetE.good h) (λ_ _ h=>⟨h,hC⟩)),(λaF wF F=>by have s36:=F.p 5 36;obtain ⟨⟨dd,ee,hh⟩,hC⟩:=s36;exact sv ⟨hh,hC⟩),(λaF wF F=>by have s36:=F.p 5 36;exact sw (by obtain ⟨⟨dd,ee,hh⟩,-⟩:=s36;go_simp) rfl),(λaF wF F=>by have s37:=F.p 6 37;have s38:=F.v 7 38;have hC:=s37.2;exact sG (D3 (d:=o1.v) (k:=o1.raw.k) s37.1) (λ_ _ _ h0 h=>⟨⟨h0,hC⟩,h⟩) (λw2 k2 h0=>⟨F.defers,BAD.o _ _ (KZ.o.trans (F.kept.trans k2)) h0 (ST.o.1 h0)⟩)),(λaF wF F=>by have s39:=F.p 8 39;obtain ⟨A9,l9,c9,e9,hd9⟩:=Bf s39.2;simp only [Cv] at e9;exact Zm (Lm rfl hd9)),
    trivial⟩ ?_
 intro u w1 k1 hu;have p36:=hp hu 5;have p37:=hp hu 6;have p39:=hp hu 8;have p40:=hp hu 9;simp only [Bb,Ap,Act.put,Ep,hv hu 0,hv hu 1,hv hu 2,hv hu 3,hv hu 4,hv hu 7];clear hu;generalize u 5=v36,u 6=v37,u 8=v39,u 9=v40 at *;obtain ⟨A9,l9,c9,b9,u9,hb9,hd9⟩:=p40;obtain ⟨⟨z1,-⟩,-⟩:=p39;replace K:=Ad (KZ.o.trans k1);have B15':=Ad ((((kU.trans kZ).trans k1).block _ (Nat.lt_trans lX lY')).trans B15.o);subst u9;refine Fc (.tmp 31) (.tmp 40) ?ho (v:=.slice none 0 0) ?hs (OwnS.nil w1 w1.heap.size) (d:=o1.v) hd9 hb9 ?hx (by simp) (Aq _) ?h
 case ho=>rfl
 case hs=>first | rfl | (go_simp;done)
 case hx=>first | rfl | (go_simp;done)
 intro v1 S1 O1 hg1;have KS:=Ad (show Kept w1 S1 from Below.grown (Below.refl _ _) hg1 (Aq _) (by intro k hk;simp [Value.ownBlock] at hk));have Z1:=Ad z1;have OW1:=Ad O1;clear z1 hd9 hb9 p36 p37 hg1 O1;have lw1:w.heap.size<=w1.heap.size:=K.o.size;replace K:=Ad (K.o.trans KS.o);have b25:=((kZ.trans k1).trans KS.o).block _ (Dn (Bi HUb.o).1 (Aq _)) |>.trans HUb.o
 have b7:=(hz7.kept k1).kept KS.o;have B25:=Ad b25;go_simp;go_wp2_with fail;rw [rounds_succ];have x3:=Ae b25 3 _ rfl;have x4:=Ae b25 4 _ rfl;have x5:=Ae b25 5 _ rfl;obtain ⟨Z2,hZ2,kZ2,hz92,lZ2⟩:=Nu S1 (.bool n4) (.slice B' j' e') (.int .i64 e4);have HZ2:=Ad hZ2;clear hZ2;go_upto_region 8 with fail;rw [<-HZ2.o];generalize w1=T at *;replace K:=Ad (K.o.trans kZ2);have c7:=b7.kept kZ2;clear x3 x4 x5
 refine oN 10 ([(vE v1),(vE (.agg #[.bool n1,.slice A l c,.int .i64 e1])),(vE (.agg #[.bool n4,.slice B' j' e',.int .i64 e4])),(vE (.int .i64 p)),(vE (.bool up)),(λv wv=>(∃ d,v=.tuple #[d,.int .i64 o2.raw.k]/\DyR wv d o2.raw.v)/\(True)),(λv wv=>DyR wv v o2.raw.v/\(True)),(vE (.int .i64 o2.raw.k)),(λv wv=>(o2.raw.k=0/\(True))/\DyR wv v o2.raw.v),(λv wv=>One wv v o2.raw.v)])
  (hM:=⟨⟨mE,mE,mE,mE,mE,λv w w' k h=>by obtain ⟨⟨d,h1,h2⟩,h3⟩:=h;exact ⟨⟨d,h1,h2.kept k⟩,h3⟩,λv w w' k h=>⟨h.1.kept k,h.2⟩,mE,λv w w' k h=>by first | exact h | exact h.kept k | exact ⟨h.1,h.2.kept k⟩,λv w w' k h=>h.kept k,trivial⟩⟩) ⟨
    (gq 6),(E3 8 λ_ k=>c3 c7 k),(E3 10 λ_ k=>c3 hz92 k),(λaF wF F=>by have s3:=F.q 3 (.pointer (some ⟨bp,0,none⟩));exact sw (by have cq:=An (K.o.trans F.kept) CP.o;go_simp) rfl),(gq 0),(λaF wF F=>by have s32:=F.v 1 32;have s33:=F.v 2 33;have s34:=F.v 3 34;have s35:=F.v 4 35;have hC:True:=trivial;exact Ax (by simp [Region.wanted]) (by go_simp) (C2.o _ (K.o.trans F.kept)) (λ_ _ h=>RetE.good h) (λ_ _ h=>⟨h,hC⟩)),(λaF wF F=>by have s36:=F.p 5 36;obtain ⟨⟨dd,ee,hh⟩,hC⟩:=s36;exact sv ⟨hh,hC⟩),(λaF wF F=>by have s36:=F.p 5 36;exact sw (by obtain ⟨⟨dd,ee,hh⟩,-⟩:=s36;go_simp) rfl),(λaF wF F=>by have s37:=F.p 6 37;have s38:=F.v 7 38;have hC:=s37.2;exact sG (D3 (d:=o2.v) (k:=o2.raw.k) s37.1) (λ_ _ _ h0 h=>⟨⟨h0,hC⟩,h⟩) (λw2 k2 h0=>⟨F.defers,BAD.o _ _ (K.o.trans (F.kept.trans k2)) h0 ((ST.o.2 Z1.o).1 h0)⟩)),(λaF wF F=>by have s39:=F.p 8 39;obtain ⟨A9,l9,c9,e9,hd9⟩:=Bf s39.2;simp only [Cv] at e9;exact Zm (Lm rfl hd9)),
    trivial⟩ ?_
 intro u w1 k1 hu;have p36:=hp hu 5;have p37:=hp hu 6;have p39:=hp hu 8;have p40:=hp hu 9;simp only [Bb,Ap,Act.put,Ep,hv hu 0,hv hu 1,hv hu 2,hv hu 3,hv hu 4,hv hu 7];clear hu;generalize u 5=v36,u 6=v37,u 8=v39,u 9=v40 at *;obtain ⟨A8,l8,c8,b8,u9,hb9,hd9⟩:=p40;obtain ⟨⟨z2,-⟩,-⟩:=p39;subst u9;have O2:=(OW1.o.kept kZ2).kept k1;have lT:T.heap.size<=w1.heap.size:=Bp KS.o.size (Bp kZ2.size k1.size);refine Fc (.tmp 31) (.tmp 40) ?ho (v:=v1) ?hs O2 (d:=o2.v) hd9 hb9 ?hx (by simp) lT ?h
 case ho=>rfl
 case hs=>first | rfl | (go_simp;done)
 case hx=>first | rfl | (go_simp;done)
 intro v2 S2 O2' hg2;have KT:=Ad (show Kept T S2 from Below.grown ((KS.o.trans kZ2).trans k1) hg2 lT (λk hk=>(O2.row.lt k hk).1));have lw2:w.heap.size<=w1.heap.size:=Bp lw1 lT;replace K:=Ad (show Kept w S2 from Below.grown (K.o.trans k1) hg2 lw2 (λk hk=>Bp lw1 (O2.row.lt k hk).1));have Z2':=Ad z2;have OW2:=Ad O2';have d15:=(KT.o.block _ (Dn (Bi B15'.o).1 (Aq _))).trans B15'.o;have D15:=Ad d15;clear z2 hd9 hb9 p36 p37 hg2 O2 O2' c7 b7 b25 hz92 k1 kZ2 hz7;go_simp;go_wp2_with fail;rw [rounds_succ];go_wp2_with fail
 rw [rounds_succ];have x3:=Ae d15 3 _ rfl;have x4:=Ae d15 4 _ rfl;have x5:=Ae d15 5 _ rfl;obtain ⟨Y3,hY3,kY3,hb3,lY3⟩:=Nu S2 (.bool n2) (.slice A' l' c') (.int .i64 e2);have HY3:=Ad hY3;clear hY3;go_upto_region 5 with fail;rw [<-HY3.o];clear x3 x4 x5 d15;replace K:=Ad (K.o.trans kY3);obtain ⟨-,b0,b1,b2,b3,b4,b5⟩:=(HB.o.kept K.o).facts;obtain ⟨U3,hU3,kU3,hu25,lU3⟩:=fM Y3 (.bool n3) (.slice B j e) (.int .i64 e3) (.bool n4) (.slice B' j' e') (.int .i64 e4);have HU3:=Ad hU3;clear hU3;go_upto_region 6 with fail;rw [<-HU3.o];refine wp_loop_rounds 3 ?_;rw [rounds_succ]
 have x0:=Ae hu25 0 _ rfl;have x1:=Ae hu25 1 _ rfl;have x2:=Ae hu25 2 _ rfl;replace K:=Ad (K.o.trans kU3);have HU3b:=Ad hu25;clear b0 b1 b2 b3 b4 b5 hu25;obtain ⟨Z3,hZ3,kZ3,hz9,lZ3⟩:=Nu U3 (.bool n3) (.slice B j e) (.int .i64 e3);have HZ3:=Ad hZ3;clear hZ3;go_upto_region 8 with fail;rw [<-HZ3.o];replace K:=Ad (K.o.trans kZ3);have hz7:=(hb3.kept kU3).kept kZ3;generalize w1=T2 at *;clear x0 x1 x2
 refine oN 10 ([(vE v2),(vE (.agg #[.bool n2,.slice A' l' c',.int .i64 e2])),(vE (.agg #[.bool n3,.slice B j e,.int .i64 e3])),(vE (.int .i64 p)),(vE (.bool up)),(λv wv=>(∃ d,v=.tuple #[d,.int .i64 o3.raw.k]/\DyR wv d o3.raw.v)/\(True)),(λv wv=>DyR wv v o3.raw.v/\(True)),(vE (.int .i64 o3.raw.k)),(λv wv=>(o3.raw.k=0/\(True))/\DyR wv v o3.raw.v),(λv wv=>One wv v o3.raw.v)])
  (hM:=⟨⟨mE,mE,mE,mE,mE,λv w w' k h=>by obtain ⟨⟨d,h1,h2⟩,h3⟩:=h;exact ⟨⟨d,h1,h2.kept k⟩,h3⟩,λv w w' k h=>⟨h.1.kept k,h.2⟩,mE,λv w w' k h=>by first | exact h | exact h.kept k | exact ⟨h.1,h.2.kept k⟩,λv w w' k h=>h.kept k,trivial⟩⟩) ⟨
    (gq 6),(E3 8 λ_ k=>c3 hz7 k),(E3 10 λ_ k=>c3 hz9 k),(λaF wF F=>by have s3:=F.q 3 (.pointer (some ⟨bp,0,none⟩));exact sw (by have cq:=An (K.o.trans F.kept) CP.o;go_simp) rfl),(gq 0),(λaF wF F=>by have s32:=F.v 1 32;have s33:=F.v 2 33;have s34:=F.v 3 34;have s35:=F.v 4 35;have hC:True:=trivial;exact Ax (by simp [Region.wanted]) (by go_simp) (C3.o _ (K.o.trans F.kept)) (λ_ _ h=>RetE.good h) (λ_ _ h=>⟨h,hC⟩)),(λaF wF F=>by have s36:=F.p 5 36;obtain ⟨⟨dd,ee,hh⟩,hC⟩:=s36;exact sv ⟨hh,hC⟩),(λaF wF F=>by have s36:=F.p 5 36;exact sw (by obtain ⟨⟨dd,ee,hh⟩,-⟩:=s36;go_simp) rfl),(λaF wF F=>by have s37:=F.p 6 37;have s38:=F.v 7 38;have hC:=s37.2;exact sG (D3 (d:=o3.v) (k:=o3.raw.k) s37.1) (λ_ _ _ h0 h=>⟨⟨h0,hC⟩,h⟩) (λw2 k2 h0=>⟨F.defers,BAD.o _ _ (K.o.trans (F.kept.trans k2)) h0 (((ST.o.2 Z1.o).2 Z2'.o).1 h0)⟩)),(λaF wF F=>by have s39:=F.p 8 39;obtain ⟨A9,l9,c9,e9,hd9⟩:=Bf s39.2;simp only [Cv] at e9;exact Zm (Lm rfl hd9)),
    trivial⟩ ?_
 intro u w1 k1 hu;have p36:=hp hu 5;have p37:=hp hu 6;have p39:=hp hu 8;have p40:=hp hu 9;simp only [Bb,Ap,Act.put,Ep,hv hu 0,hv hu 1,hv hu 2,hv hu 3,hv hu 4,hv hu 7];clear hu;generalize u 5=v36,u 6=v37,u 8=v39,u 9=v40 at *;obtain ⟨A7,l7,c7,b7,u9,hb9,hd9⟩:=p40;obtain ⟨⟨z3,-⟩,-⟩:=p39;subst u9;have O3:=(((OW2.o.kept kY3).kept kU3).kept kZ3).kept k1;have lT3:T.heap.size<=w1.heap.size:=Bp KT.o.size (Bp kY3.size (Bp kU3.size (Bp kZ3.size k1.size)));refine Fc (.tmp 31) (.tmp 40) ?ho (v:=v2) ?hs O3 (d:=o3.v) hd9 hb9 ?hx (by simp) lT3 ?h
 case ho=>rfl
 case hs=>first | rfl | (go_simp;done)
 case hx=>first | rfl | (go_simp;done)
 intro v3 S3 O3' hg3;have l7:S2.heap.size<w1.heap.size:=Dn lY3 (Bp kU3.size (Bp kZ3.size k1.size));have l25:Y3.heap.size<w1.heap.size:=Dn lU3 (Bp kZ3.size k1.size)
 have q7:Blk S3 S2.heap.size (.bool n2) (.slice A' l' c') (.int .i64 e2) :=
  (hg3.block _ l7 (λe=>by have:=(OW2.o.row.lt _ e.symm).2;omega)).trans (hz7.kept k1)
 have q25:=(hg3.block _ l25 (λe=>by have:=(OW2.o.row.lt _ e.symm).2;have:=kY3.size;omega)).trans (((kZ3.trans k1).block _ (Bi HU3b.o).1).trans HU3b.o);replace KT:=Ad (show Kept T S3 from Below.grown (((((KT.o.trans kY3).trans kU3).trans kZ3).trans k1)) hg3 lT3 (λk hk=>(O3.row.lt k hk).1));replace K:=Ad (show Kept w S3 from Below.grown (K.o.trans k1) hg3 (Bp lw1 lT3) (λk hk=>Bp lw1 (O3.row.lt k hk).1));have Z3':=Ad z3;have OW3:=Ad O3';clear z3 hd9 hb9 p36 p37 hg3 O3 O3' k1 kZ3 hz7 hz9 l7 l25 kY3 kU3 OW1;go_simp;go_wp2_with fail
 rw [rounds_succ];have x3:=Ae q25 3 _ rfl;have x4:=Ae q25 4 _ rfl;have x5:=Ae q25 5 _ rfl;obtain ⟨Z4,hZ4,kZ4,hz94,lZ4⟩:=Nu S3 (.bool n4) (.slice B' j' e') (.int .i64 e4);have HZ4:=Ad hZ4;clear hZ4;go_upto_region 8 with fail;rw [<-HZ4.o];replace K:=Ad (K.o.trans kZ4);have hz7:=q7.kept kZ4;generalize w1=T3 at *;clear x3 x4 x5
 refine oN 10 ([(vE v3),(vE (.agg #[.bool n2,.slice A' l' c',.int .i64 e2])),(vE (.agg #[.bool n4,.slice B' j' e',.int .i64 e4])),(vE (.int .i64 p)),(vE (.bool up)),(λv wv=>(∃ d,v=.tuple #[d,.int .i64 o4.raw.k]/\DyR wv d o4.raw.v)/\(True)),(λv wv=>DyR wv v o4.raw.v/\(True)),(vE (.int .i64 o4.raw.k)),(λv wv=>(o4.raw.k=0/\(True))/\DyR wv v o4.raw.v),(λv wv=>One wv v o4.raw.v)])
  (hM:=⟨⟨mE,mE,mE,mE,mE,λv w w' k h=>by obtain ⟨⟨d,h1,h2⟩,h3⟩:=h;exact ⟨⟨d,h1,h2.kept k⟩,h3⟩,λv w w' k h=>⟨h.1.kept k,h.2⟩,mE,λv w w' k h=>by first | exact h | exact h.kept k | exact ⟨h.1,h.2.kept k⟩,λv w w' k h=>h.kept k,trivial⟩⟩) ⟨
    (gq 6),(E3 8 λ_ k=>c3 hz7 k),(E3 10 λ_ k=>c3 hz94 k),(λaF wF F=>by have s3:=F.q 3 (.pointer (some ⟨bp,0,none⟩));exact sw (by have cq:=An (K.o.trans F.kept) CP.o;go_simp) rfl),(gq 0),(λaF wF F=>by have s32:=F.v 1 32;have s33:=F.v 2 33;have s34:=F.v 3 34;have s35:=F.v 4 35;have hC:True:=trivial;exact Ax (by simp [Region.wanted]) (by go_simp) (C4.o _ (K.o.trans F.kept)) (λ_ _ h=>RetE.good h) (λ_ _ h=>⟨h,hC⟩)),(λaF wF F=>by have s36:=F.p 5 36;obtain ⟨⟨dd,ee,hh⟩,hC⟩:=s36;exact sv ⟨hh,hC⟩),(λaF wF F=>by have s36:=F.p 5 36;exact sw (by obtain ⟨⟨dd,ee,hh⟩,-⟩:=s36;go_simp) rfl),(λaF wF F=>by have s37:=F.p 6 37;have s38:=F.v 7 38;have hC:=s37.2;exact sG (D3 (d:=o4.v) (k:=o4.raw.k) s37.1) (λ_ _ _ h0 h=>⟨⟨h0,hC⟩,h⟩) (λw2 k2 h0=>⟨F.defers,BAD.o _ _ (K.o.trans (F.kept.trans k2)) h0 ((((ST.o.2 Z1.o).2 Z2'.o).2 Z3'.o).1 h0)⟩)),(λaF wF F=>by have s39:=F.p 8 39;obtain ⟨A9,l9,c9,e9,hd9⟩:=Bf s39.2;simp only [Cv] at e9;exact Zm (Lm rfl hd9)),
    trivial⟩ ?_
 intro u w1 k1 hu;have p36:=hp hu 5;have p37:=hp hu 6;have p39:=hp hu 8;have p40:=hp hu 9;simp only [Bb,Ap,Act.put,Ep,hv hu 0,hv hu 1,hv hu 2,hv hu 3,hv hu 4,hv hu 7];clear hu;generalize u 5=v36,u 6=v37,u 8=v39,u 9=v40 at *;obtain ⟨A6,l6,c6,b6,u9,hb9,hd9⟩:=p40;obtain ⟨⟨z4,-⟩,-⟩:=p39;subst u9;have O4:=(OW3.o.kept kZ4).kept k1;have lT4:T.heap.size<=w1.heap.size:=Bp KT.o.size (Bp kZ4.size k1.size);refine Fc (.tmp 31) (.tmp 40) ?ho (v:=v3) ?hs O4 (d:=o4.v) hd9 hb9 ?hx (by simp) lT4 ?h
 case ho=>rfl
 case hs=>first | rfl | (go_simp;done)
 case hx=>first | rfl | (go_simp;done)
 intro v4 S4 O4' hg4;replace KT:=Ad (show Kept T S4 from Below.grown ((KT.o.trans kZ4).trans k1) hg4 lT4 (λk hk=>(O4.row.lt k hk).1));replace K:=Ad (show Kept w S4 from Below.grown (K.o.trans k1) hg4 (Bp lw1 lT4) (λk hk=>Bp lw1 (O4.row.lt k hk).1));have Z4':=Ad z4;have OD:=Ad (show DyS S4 v4 [o1.v,o2.v,o3.v,o4.v] from O4'.dyS);clear z4 hd9 hb9 p36 p37 hg4 O4 O4' k1 kZ4 hz7 hz94 OW3 OW2 q7 q25;go_simp;go_wp2_with fail;rw [rounds_succ];go_wp2_with fail;rw [rounds_succ];have hz:=(((ST.o.2 Z1.o).2 Z2'.o).2 Z3'.o).2 Z4'.o;go_wp2_with fail;go_ret;exact ⟨K.o,.inl ⟨hz,_,rfl,OD.o⟩⟩
theorem Uk (a b c d:Outc Dy)(f:Dy->Dy->Dy->Dy->Outc Iv) :
 Oa a b c d f=if G7 [a.k,b.k,c.k,d.k]≠0 then ⟨iz,G7 [a.k,b.k,c.k,d.k]⟩ else f a.v b.v c.v d.v:=by
 unfold Oa Outc.bind;simp only [G7];by_cases h1:a.k=0
 ·by_cases h2:b.k=0
  ·by_cases h3:c.k=0
   ·by_cases h4:d.k=0
    ·simp [h1,h2,h3,h4]
    ·simp [h1,h2,h3,h4]
   ·simp [h1,h2,h3]
  ·simp [h1,h2]
 ·simp [h1]
theorem cP (a b:Iv)(p:Nat)(hz:D4 b=false) :
 Cm a b p=Dr ⟨Ci (Bg a.lo b.lo p false).v [(Bg a.lo b.lo p false).v,(Bg a.lo b.hi p false).v,(Bg a.hi b.lo p false).v,(Bg a.hi b.hi p false).v],
  Bd (Bg a.lo b.lo p true).v [(Bg a.lo b.lo p true).v,(Bg a.lo b.hi p true).v,(Bg a.hi b.lo p true).v,(Bg a.hi b.hi p true).v]⟩
  [G7 [(Bg a.lo b.lo p false).k,(Bg a.lo b.hi p false).k,(Bg a.hi b.lo p false).k,(Bg a.hi b.hi p false).k],
   G7 [(Bg a.lo b.lo p true).k,(Bg a.lo b.hi p true).k,(Bg a.hi b.lo p true).k,(Bg a.hi b.hi p true).k]]:=by
 unfold Cm;rw [hz,Uk];simp only [Bool.false_eq_true,if_false,Dr];by_cases h1:G7 [(Bg a.lo b.lo p false).k,(Bg a.lo b.hi p false).k,(Bg a.hi b.lo p false).k,(Bg a.hi b.hi p false).k]=0
 ·rw [Uk]
 ·simp [h1]
theorem aS {x y:Dy}(h:¬y.m=0):Cz x y p up=Bg x y p up:=by
 unfold Cz;rw [Af h]
theorem cC {b:Iv}(hb:b.Ok)(cb:BlkIv w bb b)(hz:D4 b=true) :
 Calls Tryz.prog 125 #[.pointer (some ⟨bb,0,none⟩),.pointer (some ⟨ba,0,none⟩),.pointer (some ⟨bp,0,none⟩)] w (Ji 166 (Bn (Cm a b p)) w):=by
 obtain ⟨B,j,e,B',j',e',hbb,y1,y2⟩:=cb;have hres:Bn (Cm a b p)=⟨rzI,4⟩:=by unfold Cm;rw [Ak hz];unfold Bn;rw [R5]
 rw [hres];have CH:=Ad (λw1 (k:Kept w w1)=>jl (v:=.agg #[.bool b.lo.neg,.slice B j e,.int .i64 b.lo.e,.bool b.hi.neg,.slice B' j' e',.int .i64 b.hi.e]) (u:=.agg #[.bool false,.slice none 0 0,.int .i64 0]) (a:=b) ⟨_,_,_,_,_,_,rfl,y1.kept k,y2.kept k⟩ (by rw [Ge];exact Cw _) hb Nq);have hhas:aq b dz=true:=by rw [<-hz];unfold aq D4;rw [ah]
 rw [hhas] at CH;obtain ⟨W,hW,kW,-,-⟩:=Qz w;have HW:=Ad hW;have K:=Ad kW;obtain ⟨lb,c0,c1,c2,c3,c4,c5⟩:=hbb.facts;clear hW kW hbb y1 y2 hres hz hhas;go_enter Tryz.func125,Tryz.ntmps125
 go_wp2_with (first
  | (go_at_call 24;rw [<-HW.o];refine (CH.o _ K.o).mono ?_;rintro e w1 ⟨rfl,q⟩;replace K:=Ad (K.o.trans q))
  | (go_at_call 126;refine (Nb _ _ _).mono ?_;rintro e w3 ⟨he,rfl⟩;obtain rfl:e=.panicked (By 166 _):=he))
 exact ⟨rfl,K.o,.inr ⟨by decide,rfl⟩⟩
section
variable {P:Program} {ops:Array Oper} {Q:Exit->Act->World->Prop}
theorem Vs {V:Nat->Value->World->Prop}{i:Nat}{o:Oper}{a:Act}{w:World}{f:FuncId}{args:Array Value}{T:TypeId}{r:Int}{l:List Dy}(hw:Region.wanted o (yielded ops a.tmps)=true)
 (h:(execOp a.eval o).run P w=.ok (.enter f args) w) (hc:Calls P f args w (it T r l w))
 (hp:∀ v w',Kept w w'->r=0->DyS w' v l->V i v w') (hq:∀ w',Kept w w'->r≠0->Q (.panic (By T r)) a w'):Bo P ops Q V i o a w :=
 Gb hw h hc λe w' he=>by
  obtain ⟨k,⟨h0,v,he,hd⟩ | ⟨h0,he⟩⟩:=he
  ·exact .inl ⟨v,he,k,hp v w' k h0 hd⟩
  ·exact .inr ⟨_,he,hq w' k h0⟩
end
theorem lM {b:Iv}(ha:a.Ok)(hb:b.Ok)(hT:Tab w)(p1:1<=p)(p2:p<=2000)(ca:BlkIv w ba a)(cb:BlkIv w bb b)(cp:w.cell? ⟨bp,0,none⟩=some (.int .i64 p)) :
 Calls Tryz.prog 125 #[.pointer (some ⟨bb,0,none⟩),.pointer (some ⟨ba,0,none⟩),.pointer (some ⟨bp,0,none⟩)] w (Ji 166 (Bn (Cm a b p)) w):=by
 by_cases hz:D4 b=true
 ·exact cC hb cb hz
 have hmf:=Hf;obtain ⟨n1,n2⟩:=Kq hb hz;have hz:D4 b=false:=by simpa using hz
 obtain ⟨o1,ho1⟩:∃ o,o=Bg a.lo b.lo p false:=⟨_,rfl⟩;obtain ⟨o2,ho2⟩:∃ o,o=Bg a.lo b.hi p false:=⟨_,rfl⟩;obtain ⟨o3,ho3⟩:∃ o,o=Bg a.hi b.lo p false:=⟨_,rfl⟩;obtain ⟨o4,ho4⟩:∃ o,o=Bg a.hi b.hi p false:=⟨_,rfl⟩;obtain ⟨u1,hu1⟩:∃ o,o=Bg a.lo b.lo p true:=⟨_,rfl⟩;obtain ⟨u2,hu2⟩:∃ o,o=Bg a.lo b.hi p true:=⟨_,rfl⟩;obtain ⟨u3,hu3⟩:∃ o,o=Bg a.hi b.lo p true:=⟨_,rfl⟩;obtain ⟨u4,hu4⟩:∃ o,o=Bg a.hi b.hi p true:=⟨_,rfl⟩;obtain ⟨o5,ho5⟩:∃ o:Outc Dy,o=⟨Ci o1.v [o1.v,o2.v,o3.v,o4.v],0⟩:=⟨_,rfl⟩;obtain ⟨o6,ho6⟩:∃ o:Outc Dy,o=⟨Bd u1.v [u1.v,u2.v,u3.v,u4.v],0⟩:=⟨_,rfl⟩;have hm:Ci o1.v [o1.v,o2.v,o3.v,o4.v]=o5.v:=by rw [ho5]
 have hg:Bd u1.v [u1.v,u2.v,u3.v,u4.v]=o6.v:=by rw [ho6]
 have D1:=λw1 (k:Kept w w1)=>iW (up:=false) ha hb (hT.kept k) p1 p2 (ca.kept k) (cb.kept k) (An k cp)
 have D2:=λw1 (k:Kept w w1)=>iW (up:=true) ha hb (hT.kept k) p1 p2 (ca.kept k) (cb.kept k) (An k cp)
 simp only [aS n1,aS n2,<-ho1,<-ho2,<-ho3,<-ho4,<-hu1,<-hu2,<-hu3,<-hu4] at D1 D2;have hres:Cm a b p=Dr ⟨o5.v,o6.v⟩ [G7 [o1.k,o2.k,o3.k,o4.k],G7 [u1.k,u2.k,u3.k,u4.k]]:=by
  rw [cP a b p hz,<-ho1,<-ho2,<-ho3,<-ho4,<-hu1,<-hu2,<-hu3,<-hu4,hm,hg]
 rw [hres];generalize G7 [o1.k,o2.k,o3.k,o4.k]=r1 at *;generalize G7 [u1.k,u2.k,u3.k,u4.k]=r2 at *;have ok1:o1.Ok:=by rw [ho1];exact Fo _ _ _ _
 have ok2:o2.Ok:=by rw [ho2];exact Fo _ _ _ _
 have ok3:o3.Ok:=by rw [ho3];exact Fo _ _ _ _
 have ok4:o4.Ok:=by rw [ho4];exact Fo _ _ _ _
 have ok5:u1.Ok:=by rw [hu1];exact Fo _ _ _ _
 have ok6:u2.Ok:=by rw [hu2];exact Fo _ _ _ _
 have ok7:u3.Ok:=by rw [hu3];exact Fo _ _ _ _
 have ok8:u4.Ok:=by rw [hu4];exact Fo _ _ _ _
 have okL4:qn [o1.v,o2.v,o3.v,o4.v]:=by intro d hd;simp at hd;rcases hd with rfl | rfl | rfl | rfl;exact ok1.1;exact ok2.1;exact ok3.1;exact ok4.1
 have okU4:qn [u1.v,u2.v,u3.v,u4.v]:=by intro d hd;simp at hd;rcases hd with rfl | rfl | rfl | rfl;exact ok5.1;exact ok6.1;exact ok7.1;exact ok8.1
 have cl:=λw1 v (hv:DyS w1 v [o1.v,o2.v,o3.v,o4.v])=>Yr hv okL4 (by simp)
 have cg:=λw1 v (hv:DyS w1 v [u1.v,u2.v,u3.v,u4.v])=>Qg hv okU4 (by simp)
 rw [hm] at cl;rw [hg] at cg;generalize hl1:[o1.v,o2.v,o3.v,o4.v]=ls at *;generalize hl2:[u1.v,u2.v,u3.v,u4.v]=us at *;have C1:=Ad D1;have C2:=Ad D2;have CL:=Ad cl;have CG:=Ad cg;obtain ⟨B,j,e,B',j',e',hbb,y1,y2⟩:=cb;have CH:=Ad (λw1 (k:Kept w w1)=>jl (v:=.agg #[.bool b.lo.neg,.slice B j e,.int .i64 b.lo.e,.bool b.hi.neg,.slice B' j' e',.int .i64 b.hi.e]) (u:=.agg #[.bool false,.slice none 0 0,.int .i64 0]) (a:=b) ⟨_,_,_,_,_,_,rfl,y1.kept k,y2.kept k⟩ (by rw [Ge];exact Cw _) hb Nq);have hhas:aq b dz=false:=by rw [<-hz];unfold aq D4;rw [ah]
 rw [hhas] at CH;obtain ⟨W,hW,kW,B3,B4⟩:=Qz w;have HW:=Ad hW;have K:=Ad kW;have R3:=Ad B3;have R4:=Ad B4;obtain ⟨lb,c0,c1,c2,c3,c4,c5⟩:=hbb.facts;have hst:=Fw ⟨o5.v,o6.v⟩ [r1,r2];obtain ⟨res,hres'⟩:∃ r,r=Bn (Dr ⟨o5.v,o6.v⟩ [r1,r2]):=⟨_,rfl⟩;have ST:=Ad (show Mr res ⟨o5.raw.v,o6.raw.v⟩ [r1,r2] by rw [hres'];exact hst);rw [<-hres'];have BAD:Hid (∀ (k:Int) (w1:World),Kept w w1->k≠0->res=⟨rzI,k⟩->Ji 166 res w (.panicked (By 166 k)) w1):=λk w1 kk hk he=>by subst he;exact ⟨kk,.inr ⟨hk,rfl⟩⟩
 obtain ⟨la,-⟩:=(show ∃ x,w.heap[ba]?=some x from ca.elim (λ_ h=>by obtain ⟨_,_,_,_,_,h,_⟩:=h;exact ⟨_,h⟩));clear hW kW B3 B4 hbb cp ca y1 y2 ha hb hT p1 p2 ho1 ho2 ho3 ho4 ho5 ho6 hu1 hu2 hu3 hu4 hres hres' hst hm hg okL4 okU4 ok1 ok2 ok3 ok4 ok5 ok6 ok7 ok8 D1 D2 cl cg hz hhas n1 n2 hl1 hl2 la;generalize b.lo.neg=n3,b.lo.e=e3,b.hi.neg=n4,b.hi.e=e4 at *;go_enter Tryz.func125,Tryz.ntmps125;go_wp2_with fail;rw [<-HW.o];refine (CH.o _ K.o).mono ?_;rintro e w5 ⟨rfl,q⟩;simp only [];go_wp2_with fail;refine (Kv 4 _).mono ?_;rintro e w6 ⟨rfl,q6⟩
 have kk:=q.trans q6;replace K:=Ad (K.o.trans kk);have hsW0:w.heap.size+1<w6.heap.size:=Dn (Bi R4.o).1 kk.size;replace R3:=Ad (R3.o.kept kk);replace R4:=Ad (R4.o.kept kk);clear kk q q6 c0 c1 c2 c3 c4 c5 HW;simp only [];go_upto_region 3 with fail
 refine qu 4 ([(vE (.func (.func 127) #[] #[.pointer (some ⟨ba,0,none⟩),.pointer (some ⟨bb,0,none⟩),.pointer (some ⟨bp,0,none⟩)])),(λv wv=>r1=0/\DyS wv v ls),(λv wv=>(r1=0)/\DyR wv v o5.raw.v),(λv wv=>∃ b,v=.pointer (some ⟨b,0,none⟩)/\w6.heap.size<=b/\Blk wv b (.bool false) (.slice none 0 0) (.int .i64 0))])
  (hM:=⟨⟨mE,λv w w' k h=>by first | exact h | exact h.kept k | exact ⟨h.1,h.2.kept k⟩,λv w w' k h=>by first | exact h | exact h.kept k | exact ⟨h.1,h.2.kept k⟩,λv w w' k h=>by obtain ⟨b,h1,h2,h3⟩:=h;exact ⟨b,h1,h2,h3.kept k⟩,trivial⟩⟩) ⟨
    (gq 5),(λaF wF F=>by have s13:=F.v 0 13;exact Vs (by simp [Region.wanted]) (by go_simp) (C1.o _ (K.o.trans F.kept)) (λ_ _ _ h0 h=>⟨h0,h⟩) (λw2 k2 h0=>⟨F.defers,BAD.o _ _ (K.o.trans (F.kept.trans k2)) h0 (ST.o.1 h0)⟩)),(λaF wF F=>by have s14:=F.p 1 14;have hC:=s14.1;exact Ax (by simp [Region.wanted]) (by go_simp) (CL.o _ _ s14.2) (λ_ _ h=>RetD.good h) (λ_ _ h=>⟨hC,h⟩)),(λaF wF F=>by exact sN ⟨_,rfl,F.kept.size,El _⟩),
    trivial⟩ ?_
 intro u w1 k1 hu;have p14:=hp hu 1;have p15:=hp hu 2;have p6:=hp hu 3;simp only [Bb,Ap,Act.put,Ep,hv hu 0];clear hu;generalize u 1=v14,u 2=v15,u 3=v6 at *;obtain ⟨bl,rfl,hbl,hB5⟩:=p6;obtain ⟨z1,hd2⟩:=p15;obtain ⟨A5,l5,c5,rfl,hd2⟩:=Bf hd2;obtain ⟨lb5,c0,c1,c2,f0,f1,f2⟩:=hB5.facts;have hsW:=(Bi R4.o).1;have Z:=Ad z1;have KX:=Ad (Au (x:=.bool o5.raw.v.neg) (y:=.slice A5 l5 c5) (z:=.int .i64 o5.raw.v.e) (K.o.trans k1) (show w.heap.size<=bl by omega));have R3X:=Ad ((R3.o.kept k1).laid_other (b':=bl) (by omega) (.bool o5.raw.v.neg) (.slice A5 l5 c5) (.int .i64 o5.raw.v.e))
 have R4X:=Ad ((R4.o.kept k1).laid_other (b':=bl) (by omega) (.bool o5.raw.v.neg) (.slice A5 l5 c5) (.int .i64 o5.raw.v.e));have B5X:=Ad (hB5.laid (.bool o5.raw.v.neg) (.slice A5 l5 c5) (.int .i64 o5.raw.v.e));have D5X:=Ad (hd2.dyW hB5 (Ah _) (Ag _ _ _) (Aj _) (.bool o5.raw.v.neg) (.slice A5 l5 c5) (.int .i64 o5.raw.v.e));clear z1 hd2 hB5 hsW p14 k1;go_simp;go_wp2_with fail;change Code.wp _ _ _ _ (dyW w1 bl _ _ _);generalize dyW w1 bl (.bool o5.raw.v.neg) (.slice A5 l5 c5) (.int .i64 o5.raw.v.e)=X at *;clear c0 c1 c2 f0 f1 f2 lb5
 refine Qp 4 ([(vE (.agg #[.bool o5.raw.v.neg,.slice A5 l5 c5,.int .i64 o5.raw.v.e])),(vE (.func (.func 127) #[] #[.pointer (some ⟨ba,0,none⟩),.pointer (some ⟨bb,0,none⟩),.pointer (some ⟨bp,0,none⟩)])),(λv wv=>r2=0/\DyS wv v us),(λv wv=>((r2=0)/\True)/\DyR wv v o6.raw.v)])
  (hM:=⟨⟨mE,mE,λv w w' k h=>by first | exact h | exact h.kept k | exact ⟨h.1,h.2.kept k⟩,λv w w' k h=>by first | exact h | exact h.kept k | exact ⟨h.1,h.2.kept k⟩,trivial⟩⟩) ⟨
    (E3 6 λ_ k=>Go.Proofs.YtabjjdicffcolaaGreatDoor.c3 B5X.o k),(gq 5),(λaF wF F=>by have s17:=F.v 1 17;exact Vs (by simp [Region.wanted]) (by go_simp) (C2.o _ (KX.o.trans F.kept)) (λ_ _ _ h0 h=>⟨h0,h⟩) (λw2 k2 h0=>⟨F.defers,BAD.o _ _ (KX.o.trans (F.kept.trans k2)) h0 ((ST.o.2 Z.o).1 h0)⟩)),(λaF wF F=>by have s18:=F.p 2 18;have hC:=s18.1;exact Ax (by simp [Region.wanted]) (by go_simp) (CG.o _ _ s18.2) (λ_ _ h=>RetD.good h) (λ_ _ h=>⟨⟨hC,trivial⟩,h⟩)),
    trivial⟩ ?_
 intro u w1 k1 hu;have p18:=hp hu 2;have p19:=hp hu 3;simp only [Bb,Ap,Act.put,Ep,hv hu 0,hv hu 1];clear hu;generalize u 2=v18,u 3=v19 at *;obtain ⟨⟨z4,-⟩,hd4⟩:=p19;obtain ⟨A6,l6,c6,rfl,hd4⟩:=Bf hd4;have hres:=(ST.o.2 Z.o).2 z4;have r3:=R3X.o.kept k1;have r4:=R4X.o.kept k1;have hk:=KX.o.trans k1;have hd5:=D5X.o.kept k1;obtain ⟨-,c0,c1,c2,f0,f1,f2⟩:=r3.facts;obtain ⟨-,d0,d1,d2,g0,g1,g2⟩:=r4.facts;obtain ⟨t1,t2,t3⟩:=Jv (T:=166) hk (Aq _) (Nat.le_succ _) (by omega) r3 r4 hd5 hd4 hres;have T1:=Ad t1;have T2:=Ad t2;have T3:=Ad t3
 clear t1 t2 t3 r3 r4 hk hd5 hd4 hres z4 p18 k1;refine ⟨?_,?_⟩
 ·go_simp;go_wp2_with fail;exact Eo T1.o T2.o rfl rfl rfl rfl T3.o
 ·first
   | exact .inl (by kernel_rfl)
   | (right
      rw [Jj _ (by omega)] at T1 T2 T3;go_simp;go_wp2_with fail;exact Eo T1.o T2.o rfl rfl rfl rfl T3.o)
end Go.Proofs.YtabjjdicffcolaaGreatDoor
