/- Words and contracts, part 7. -/
import Derived.Test.YtabjjdicffcolaaGreatDoorClaimJfrontp06
import Derived.Deep.LoopGhost
import Derived.Defers
import Derived.Recover
import Derived.Orders
set_option maxRecDepth 100000
set_option maxHeartbeats 0
namespace Go.Proofs.YtabjjdicffcolaaGreatDoor
open Go.RowKit
variable {cap cs:Array Value} {xs:List Nat} {B K b b2 b3 base g i id k m n x:Nat} {o:Obj} {r:Raw} {T T' t:TypeId} {q s u v y z:Value} {a w w':World}
theorem Kept.ofDrewN (h:Kept (w.drewN n) w'):Kept w w':=⟨h.os,h.tape,h.output,h.size,h.block⟩
def RetQR (n m:Nat) (w:World) (e:Ending) (w':World):Prop :=
 ∃ v1 v2,e=.returned (.tuple #[v1,v2])/\Lim w' v1 (Al (n/m))/\Lim w' v2 (Al (n%m))/\Kept w w'
theorem aQ (hv:Lim w v (Al n))(hu:Lim w u (Al m))(hl:(Al n).length<=100000)(hl':(Al m).length<=100000)(hlt:n<m) :
 Calls Tryz.prog 175 #[v,u] w (RetQR n m w):=by
 have hord:=Nc hv hu (by omega) (by omega);have hcm:Fx n m=-1:=by unfold Fx;rw [Ak hlt]
 rw [hcm] at hord;have e1:n/m=0:=Nat.div_eq_of_lt hlt;have e2:n%m=n:=Nat.mod_eq_of_lt hlt;have HO:=Ad hord;have HV:=Ad hv;have HE:=Ad (And.intro e1 e2);clear hord hcm e1 e2 hv hu;have HL:=Ad hl;clear hl hl' hlt;go_enter Tryz.func175,Tryz.ntmps175
 go_wp2_with (first
  | (go_at_call 113;refine HO.o.mono ?_;rintro e w1 ⟨rfl,q1,rfl⟩)
  | (go_at_call 81;refine (Yb (HV.o.drewN _) (by have:=HL.o;omega)).mono ?_;rintro e w1 ⟨v1,rfl,hv1,hk1⟩;have HV1:=Ad hv1;have HK1:=Ad hk1;clear hv1 hk1))
 refine bodyPost_ret (v:=.tuple #[.slice none 0 0,v1]) (by simp [results,Tryz.results175,go_sem]) rfl ⟨_,_,rfl,?_,?_,HK1.o.ofDrewN⟩
 ·rw [HE.o.1,Be];exact Lim.nil _ _ _
 ·rw [HE.o.2];exact HV1.o
theorem Iw (m:Nat)(h0:m≠0)(h:m<18446744073709551616):Al m=[m]:=by
 rw [D7 m h0,Nat.mod_eq_of_lt h,Nat.div_eq_of_lt h,Be]
theorem dC (hv:Lim w v (Al n))(hu:Lim w u (Al m))(hl:(Al n).length<=100000)(h0:m≠0)(h1:m<18446744073709551616)(hge:m<=n) :
 Calls Tryz.prog 175 #[v,u] w (RetQR n m w):=by
 have hord:=Nc hv hu (by omega) (by rw [Iw m h0 h1];simp);have hcm:decide (Fx n m<0)=false:=by unfold Fx;rw [Af (by omega)];split<;>simp
 have HC:=Ad hcm;have HO:=Ad hord;have HV:=Ad hv;rw [Iw m h0 h1] at hu;obtain ⟨_,A,c,rfl,hc,hA⟩:=hu;obtain ⟨b,off,rfl,hb,hcell⟩:=hA (by simp);have hcl:w.cell? ⟨b,off,none⟩=some (.int .u64 m):=hcell 0 (by simp);have hls:([m]:List Nat).length=1:=rfl;rw [hls] at hc ⊢;rw [hls] at HO;have HL:=Ad hl;clear hord hcm hv hA hcell hl hls hge;generalize Fx n m=cm at *;have hcm:=HC.o;go_enter Tryz.func175,Tryz.ntmps175
 go_wp2_with (first
  | (go_at_call 113;refine HO.o.mono ?_;rintro e w1 ⟨rfl,q1,rfl⟩)
  | (go_at_call 195;refine (gT (HV.o.drewN _) m (by omega) h1 HL.o).mono ?_;rintro e w1 ⟨v1,v2,rfl,hv1,hv2,hk1⟩;have HV1:=Ad hv1;have HV2:=Ad hv2;have HK1:=Ad hk1;clear hv1 hv2 hk1))
 refine bodyPost_ret (v:=.tuple #[v1,v2]) (by simp [results,Tryz.results175,go_sem]) rfl ⟨_,_,rfl,?_,?_,HK1.o.ofDrewN⟩
 ·have:=HV1.o;rwa [Cq] at this
 ·have:=HV2.o;rwa [Cq] at this
structure OnlyB (B g:Nat) (w w':World):Prop where
 os:w'.os=w.os
 tape:w'.tape=w.tape
 output:w'.output=w.output
 size:w.heap.size<=w'.heap.size
 block:∀ k,k<B->k≠g->w'.heap[k]?=w.heap[k]?
theorem OnlyB.only {b c:World}(h:OnlyB B g a b)(k:Only g b c):OnlyB B g a c :=
 ⟨k.os.trans h.os,k.tape.trans h.tape,k.output.trans h.output,by rw [k.size];exact h.size,λi hi hne=>(k.block i hne).trans (h.block i hi hne)⟩
theorem OnlyB.setCell (h:OnlyB B g a w)(hx:B<=x)(k:Nat)(u:Value):OnlyB B g a (w.setCell ⟨x,k,none⟩ u) :=
 ⟨h.os,h.tape,h.output,by have:=h.size;simp [World.setCell];exact this,λj hj hne=>(Below.heap_setCell w ⟨x,k,none⟩ u j (by simp only;omega)).trans (h.block j hj hne)⟩
theorem OnlyB.grown (h:a.grownBy w none)(hB:B<=a.heap.size):OnlyB B g a w:=⟨h.os,h.tape,h.output,h.size,λk hk _=>h.block k (by omega) (by simp)⟩
theorem OnlyB.cell (h:OnlyB B g a w)(hb:b<B)(hg:b≠g):w.cell? ⟨b,k,none⟩=a.cell? ⟨b,k,none⟩:=World.cell?_of_block (h.block b hb hg)
theorem OnlyB.kept {b:World}(h:OnlyB B g b w)(k:Kept a b)(hg:a.heap.size<=g)(hB:a.heap.size<=B):Kept a w :=
 ⟨h.os.trans k.os,h.tape.trans k.tape,h.output.trans k.output,Bp k.size h.size,λj hj=>(h.block j (by omega) (by omega)).trans (k.block j hj)⟩
theorem Only.own (h:Only g a w){gq cap:Nat}(ho:Own a base (.slice (some ⟨gq,0,none⟩) n cap) xs)(hne:gq≠g):Own w base (.slice (some ⟨gq,0,none⟩) n cap) xs :=
 World.ownsRow.kept (row:=some g) ho ⟨h.os,h.tape,h.output,Nat.le_of_eq h.size.symm,λk _ hk=>h.block k (λe=>hk (by rw [e]))⟩ (Or.inr (by simp only [Value.ownBlock];intro e;exact hne (Option.some.inj e)))
theorem Re {cap:Nat}(ho:Own w base (.slice (some ⟨g,0,none⟩) n cap) xs)(hne:g≠x):Own (w.setCell ⟨x,k,none⟩ u) base (.slice (some ⟨g,0,none⟩) n cap) xs :=
 World.ownsRow.kept (row:=some x) ho ⟨rfl,rfl,rfl,by simp [World.setCell],λj _ hj=>Below.heap_setCell w ⟨x,k,none⟩ u j (λe=>hj (by rw [e]))⟩ (Or.inr (by simp only [Value.ownBlock];intro e;exact hne (Option.some.inj e)))
theorem aR (hv:Lim w v (Al n))(hu:Lim w u (Al m))(hl:(Al n).length<=50000)(h0:m≠0)(h2:2<=(Al m).length)(hge:m<=n) :
 Calls Tryz.prog 175 #[v,u] w (RetQR n m w):=by
 have hll:(Al m).length<=(Al n).length:=by
  by_cases h:(Al n).length<(Al m).length
  ·have:=Lf n m h;omega
  ·omega
 have hord:=Nc hv hu (by omega) (by omega);have hcm:decide (Fx n m<0)=false:=by unfold Fx;rw [Af (by omega)];split<;>simp
 have HC:=Ad hcm;have HO:=Ad hord;have hv':=hv;have hu':=hu;obtain ⟨_,A',c',rfl,hc',hA'⟩:=hv;obtain ⟨_,A,c,rfl,hc,hA⟩:=hu;obtain ⟨b,off,rfl,hb,hcell⟩:=hA (by omega);have hck:=hcell ((Al m).length-1) (by omega);have hnd:=Y4 m h0;have hb64:=Qx _ (Fy m ((Al m).length-1));have hb0:=Df _ (M7 m h0);have hlz:∀ w,Calls Tryz.prog 160 #[.int .u64 (Ba (Al m) ((Al m).length-1))] w (RetQ (.int .i64 ((64-bl (Ba (Al m) ((Al m).length-1)):Nat):Int)) w):=by
  intro w;refine (pO _ w (Fy m _)).mono ?_;rintro e w' ⟨rfl,rfl⟩;exact ⟨Jf (by omega),0,rfl⟩
 have htop:Ba (Al m) ((Al m).length-1)<18446744073709551616:=Fy m _;have HLZ:=Ad hlz;have HND:=Ad hnd;have HV:=Ad hv';have HU:=Ad hu';clear hord hcm hv' hu' hA hA' hcell hlz hnd hge;generalize hs:64-bl (Ba (Al m) ((Al m).length-1))=s at *;have hs64:s<64:=by omega
 clear hs hb64 hb0;generalize Ba (Al m) ((Al m).length-1)=tp at *;generalize hl1:(Al n).length=l1 at *;generalize hl2:(Al m).length=l2 at *;have HL1:=Ad hl1;have HL2:=Ad hl2;clear hl1 hl2;obtain ⟨l,rfl⟩:∃ l,l2=l+2:=⟨l2-2,by omega⟩;have hlb:(Al (m*2^s)).length<=l+2:=Dk _ _ HND.o.1;have hla:(Al (n*2^s)).length<=l1+1:=by
  refine Dk _ _ ?_;have a:=Di n;rw [HL1.o] at a;rw [Nat.pow_succ];have b:2^s<=18446744073709551616:=by
   have:2^s<=2^64:=Ee (by decide) (by omega);exact this
  exact Dn (Nat.mul_lt_mul_of_pos_right a (Nat.pow_pos (by decide))) (Nat.mul_le_mul_left _ b)
 have HLB:=Ad hlb;have HLA:=Ad hla;clear hlb hla;rw [show l+2-1=l+1 by omega] at hck;have e1:((l:Int)+2==1)=false:=by rw [Ek];omega
 generalize Fx n m=cm at *;have hcm:=HC.o;obtain ⟨i0,hi,hz0,hz1,hz2⟩:=info_parts Sy;go_enter Tryz.func175,Tryz.ntmps175
 go_wp2_with (go_at_call 113;refine HO.o.mono ?_;rintro e w1 ⟨rfl,q1,rfl⟩)
 refine (HLZ.o _).mono ?_;rintro e w' ⟨rfl,q2,rfl⟩;go_wp2_with fail;refine (Oc (m:=m) (by exact HU.o) s (by rw [HL2.o];omega) (by omega)).mono ?_;rintro e w1 ⟨vb,rfl,hvb,hk1⟩;have HVB:=Ad hvb;have HK1:Hid (Kept w w1):=hk1.ofDrewN;clear hvb hk1;go_wp2_with fail;refine (aI HVB.o (l+2) HLB.o (by omega)).mono ?_;rintro e w2 ⟨vv,rfl,hov,hk2⟩;have HOV:=Ad hov;have HK2:Hid (Kept w w2):=HK1.o.trans hk2;have HS2:Hid (w1.heap.size<=w2.heap.size):=hk2.size;clear hov hk2;go_wp2_with fail;refine (Oc (m:=n) (HV.o.kept HK2.o) s (by rw [HL1.o];omega) (by omega)).mono ?_;rintro e w3 ⟨va,rfl,hva,hk3⟩
 have HVA:=Ad hva;have HK3:=Ad hk3;clear hva hk3;go_wp2_with fail;refine (aI HVA.o (l1+1) HLA.o (by omega)).mono ?_;rintro e w4 ⟨vu,rfl,hou,hk4⟩;have HOU:=Ad hou;have HK4:=Ad hk4;clear hou hk4
 -- the two rows, the quotient's row
 have hlv:(Al (m*2^s)++List.replicate (l+2-(Al (m*2^s)).length) 0).length=l+2:=by
  rw [List.length_append,List.length_replicate];have:=HLB.o;omega
 have hlu:(Al (n*2^s)++List.replicate (l1+1-(Al (n*2^s)).length) 0).length=l1+1:=by
  rw [List.length_append,List.length_replicate];have:=HLA.o;omega
 have hvv:=fI (m*2^s) (l+2-(Al (m*2^s)).length);have hvu:=fI (n*2^s) (l1+1-(Al (n*2^s)).length);have hsv:=Xn (m*2^s) (l+2-(Al (m*2^s)).length);have hsu:=Xn (n*2^s) (l1+1-(Al (n*2^s)).length);generalize Al (m*2^s)++List.replicate (l+2-(Al (m*2^s)).length) 0=vs at *;generalize Al (n*2^s)++List.replicate (l1+1-(Al (n*2^s)).length) 0=us0 at *;obtain ⟨gv,cv,rfl,hgv1,hgv2,hcv⟩:=HOV.o.shape (by rw [hlv];omega);obtain ⟨gu,cu,rfl,hgu1,hgu2,hcu⟩:=HOU.o.shape (by rw [hlu];omega);have htop2:=lg vs hsv (l+2) hlv (by omega) (by rw [hvv];exact HND.o.2)
 have hVc:∀ i,i<l+2->w2.cell? ⟨gv,i,none⟩=some (.int .u64 (Ba vs i)):=λi hi=>HOV.o.cell i (by rw [hlv];exact hi)
 have hk24:Below w2.heap.size w2 w4:=HK3.o.trans HK4.o;have hVc4:∀ i,i<l+2->w4.cell? ⟨gv,i,none⟩=some (.int .u64 (Ba vs i)):=λi hi=>(hk24.cell (p:=⟨gv,i,none⟩) hgv2).trans (hVc i hi)
 have hsz:=HK3.o.size;have hne:gv≠gu:=by omega
 have hgv4:gv<w4.heap.size:=by have:=hk24.size;omega
 have hK4:Kept w w4:=HK2.o.trans hk24;have hwgu:w.heap.size<=gu:=by have:=HK2.o.size;omega
 rw [hlu] at hcu HOU;rw [hlv] at hcv;have HVC:=Ad hVc4;have HKW:=Ad hK4;have HOU':=Ad HOU.o;have HVS:=Ad (And.intro hsv (And.intro hlv (And.intro hvv htop2)));have HUS:=Ad (And.intro hsu (And.intro hlu hvu));have HW:=Ad (And.intro hwgu (And.intro hgu2 (And.intro hgv4 hne)));clear hlv hlu hvv hvu hsv hsu htop2 hVc hk24 hVc4 hsz hK4 HOV HOU HVB HVA HK1 HK2 HK3 HK4 HS2 hgv1 hgv2 hgu1 hwgu;rw [HVS.o.2.1,HUS.o.2.1];obtain ⟨d,rfl⟩:∃ d,l1=l+2+d:=⟨l1-(l+2),by omega⟩
 go_wp2_with (at_make;go_must (refine wpList_make_full _ rfl _ _ 26 rfl w4.heap.size 55 i0 (.int .u64 0) 1 Tryz.underlying26 hi hz0 hz1 .i64 .i64 _ _ (d+1) rfl rfl (by omega) (by omega) (by rw [hz2];omega) (by unfold maxLen;omega) (Aq _) ?_))
 intro w5 hown5 hgrow5;have hq5:Own w5 w4.heap.size (.slice (some ⟨w4.heap.size,0,none⟩) (d+1) (d+1)) (List.replicate (d+1) 0):=Ol hown5;have hB5:OnlyB w4.heap.size gu w4 w5:=OnlyB.grown hgrow5 (Aq _);have hu5:Own w5 w3.heap.size (.slice (some ⟨gu,0,none⟩) (l+2+d+1) cu) us0:=World.ownsRow.kept (row:=none) HOU'.o hgrow5 (Or.inr (by simp [Value.ownBlock]));have hst:=LongInv.start n m s us0 vs l d HUS.o.1 HUS.o.2.1 HUS.o.2.2 h0 HL2.o HL1.o HVS.o.2.2.1;have HQ5:=Ad hq5;have HB5:=Ad hB5;have HU5:=Ad hu5;have HST:=Ad hst;have hqne:w4.heap.size≠gu:=by have:=HW.o.2.1;omega
 have HQN:=Ad hqne;clear hown5 hgrow5 hq5 hB5 hu5 hst hqne HOU';go_wp2_with fail;have HN:Hid ((n*2^s)/(m*2^s)=n/m/\(n*2^s)%(m*2^s)/2^s=n%m):=⟨Nat.mul_div_mul_right _ _ (Nat.pow_pos (by decide)),by rw [Nat.mul_mod_mul_right,Nat.mul_div_cancel _ (Nat.pow_pos (by decide))]⟩
 go_loopw [11] (λt wr=>∃ (k:Nat) (us qs:List Nat),k<=d+1/\t=.int .i64 ((k:Int)-1)/\Own wr w3.heap.size (.slice (some ⟨gu,0,none⟩) (l+2+d+1) cu) us/\Own wr w4.heap.size (.slice (some ⟨w4.heap.size,0,none⟩) (d+1) (d+1)) qs/\qs.length=d+1/\LongInv (n*2^s) (Bq vs) (l+2) us qs k/\OnlyB w4.heap.size gu w4 wr) (λt _=>(intOf t+1).toNat)
 case atStart=>exact ⟨d+1,us0,_,Aq _,congrArg (Value.int .i64) (by omega),HU5.o,HQ5.o,by simp,HST.o,HB5.o⟩
 case round =>
  obtain ⟨k,us,qs,hkd,rfl,hu,hq,hql,hinv,hB⟩:=hrel;have HUS2:=Ad hu;have HQS:=Ad hq;have HQL:=Ad hql;have HI:=Ad hinv;have HB:=Ad hB;have hul:=hinv.lens;rw [hql] at hul;have HUL:=Ad hul;clear hu hq hql hinv hB hul HST HU5 HQ5 HB5;cases k with
  | succ j =>
    have hwin:=HI.o.window (vs:=vs) (by rw [HQL.o];omega) (by omega) rfl HVS.o.2.1 HVS.o.1 HVS.o.2.2.2;have hnext:=λwl'=>HI.o.next (vs:=vs) (wl':=wl') (by rw [HQL.o];omega) rfl hwin.2 hwin.1.qlt hwin.1.vpos
    have hql':=hwin.1.qlt;have htl:(us.take j).length=j:=by rw [List.length_take,HUL.o];omega
    have hW:Win wr w3.heap.size gu (l+2+d+1) cu (us.take j) ((us.drop j).take (l+2+1)) (us.drop (j+(l+2+1))):=by
     unfold Win;rw [<-Sw];exact HUS2.o
    have hdig:=mc (gv:=gv) (cv:=cv) (c:=cu-j) hwin.1 (by omega) (by rw [htl];omega) hW (by omega) hcv HW.o.2.2.2 (λi hi=>(HB.o.cell HW.o.2.2.1 HW.o.2.2.2).trans (HVC.o i hi));rw [htl] at hdig;have HDG:=Ad hdig;have HNX:=Ad hnext;clear hdig hnext hwin hW htl;generalize (us.drop j).take (l+2+1)=wl at *;go_wp2_with fail;rw [show j+(l+2)+1-j=l+2+1 by omega];refine HDG.o.mono ?_;rintro e w6 ⟨rfl,wl',hl',hs',hv',hW',hOn⟩;have hinv':=HNX.o wl' hl' hs' hv';have hq6:=hOn.own HQS.o HQN.o;have hB6:=HB.o.only hOn;have hu6:Own w6 w3.heap.size (.slice (some ⟨gu,0,none⟩) (l+2+d+1) cu) (us.take j++(wl'++us.drop (j+(l+2+1)))):=hW'
    have hqf:=hq6.frozen j;have hqc:=hq6.cell j (by rw [HQL.o];omega);have HI':=Ad hinv';have HQ6:=Ad hq6;have HB6:=Ad hB6;have HU6:=Ad hu6;clear hinv' hq6 hB6 hu6 hl' hs' hv' hW' hOn HDG HNX HI HB HUS2 HQS;generalize Bq wl/Bq vs=qd at *;generalize Ba qs j=y at *;go_wp2_with fail;go_roundw
    case rel=>exact ⟨j,_,qs.set j qd,by omega,by go_num,Re HU6.o HQN.o.symm,HQ6.o.stored _ _,by rw [List.length_set];exact HQL.o,HI'.o,HB6.o.setCell (Aq _) _ _⟩
    case measure=>simp [intOf]
  | zero =>
    have hfin:=HI.o.finish;rw [HVS.o.2.2.1,HN.o.1] at hfin;have hlimq:=HQS.o.lim HI.o.qs_small;have hlow:=HI.o.low;rw [List.drop_zero] at hlow;have hvlt:=G8 vs HVS.o.1;rw [HVS.o.2.1] at hvlt;have htk:=ig us HI.o.us_small (l+2) (by rw [HUL.o];omega) (by omega);have hlimu:=(HUS2.o.lim HI.o.us_small).take (l+2) (by rw [HUL.o];omega);have hKf:=HB.o.kept HKW.o (by have:=HW.o.1;omega) HKW.o.size;have HLQ:=Ad hlimq;have HLU:=Ad hlimu;have HF:=Ad (And.intro hfin htk);have HKF:=Ad hKf;clear hfin hlimq hlow hvlt htk hlimu hKf;go_wp2_with fail
    go_region_with (first
     | (go_at_call_of 82 (some (Addr.mk w4.heap.size 0 none));refine (La (xs:=qs) (by exact HLQ.o) (by rw [HQL.o];omega)).mono ?_;rintro e w6 ⟨vq,rfl,hvq,rfl⟩;have HVQ:=Ad hvq;clear hvq)
     | (go_at_call_of 82 (some (Addr.mk gu 0 none));refine (La (xs:=us.take (l+2)) (by exact HLU.o) (by rw [List.length_take];omega)).mono ?_;rintro e w6 ⟨vt,rfl,hvt,rfl⟩;have HVT:=Ad hvt;clear hvt)
     | (go_at_call 117;refine (Ts (m:=Bq (us.take (l+2))) (by exact HVT.o) s (by have:=Md (us.take (l+2)) (F5 HI.o.us_small _);rw [List.length_take] at this;omega) (by omega)).mono ?_;rintro e w7 ⟨vr,rfl,hvr,hk7⟩;have HVR:=Ad hvr;have HK7:=Ad hk7;clear hvr hk7))
    all_goals
     go_wp2_with fail;refine bodyPost_ret (v:=.tuple #[vq,vr]) (by simp [results,Tryz.results175,go_sem]) rfl ⟨vq,vr,rfl,?_,?_,?_⟩
     ·rw [<-HF.o.1.1];exact HVQ.o.kept ⟨HK7.o.os,HK7.o.tape,HK7.o.output,HK7.o.size,HK7.o.block⟩
     ·rw [<-HN.o.2,<-HF.o.1.2,<-HF.o.2];exact HVR.o
     ·exact HKF.o.trans ⟨HK7.o.os,HK7.o.tape,HK7.o.output,HK7.o.size,HK7.o.block⟩
theorem aP (hv:Lim w v (Al n))(hu:Lim w u (Al m))(hl:(Al n).length<=50000)(hl':(Al m).length<=50000)(h0:m≠0) :
 Calls Tryz.prog 175 #[v,u] w (RetQR n m w):=by
 by_cases hlt:n<m
 ·exact aQ hv hu (by omega) (by omega) hlt
 ·by_cases h1:m<18446744073709551616
  ·exact dC hv hu (by omega) h0 h1 (by omega)
  ·exact aR hv hu hl h0 (S7 m 1 (by simpa using h1)) (by omega)
theorem E7 {a:Nat}(h:a<=b):(Al a).length<=(Al b).length:=Dk a _ (Nat.lt_of_le_of_lt h (Di b))
theorem R9 (a b k:Nat)(ha:(Al a).length<=k)(hb:(Al b).length<=k):(Al (a+b)).length<=k+1:=by
 refine Dk _ _ ?_;have c:∀ x,(Al x).length<=k->x<18446744073709551616^k:=λx hx=>Dn (Di x) (Ee (by decide) hx)
 have d:=c a ha;have e:=c b hb;rw [Nat.pow_succ];omega
theorem kM (hv:Lim w v (Al n))(hl:(Al n).length<=20000) :
 Calls Tryz.prog 183 #[v] w (RetLim (Al (Kj n)) w):=by
 by_cases h0:n=0
 ·subst h0;rw [Be] at *;have e:Kj 0=0:=rfl;rw [e,Be];obtain ⟨hs,A,c,rfl,hc,hA⟩:=hv;clear hs hA hc hl;refine Calls.mono (R:=λe w'=>e=.returned (.slice none 0 0)/\w=w') ?_ (λe w' ⟨he,hw⟩=>by subst hw;exact ⟨_,he,Lim.nil _ _ _,Below.refl _ _⟩);have e0:(((([]:List Nat).length:Nat):Int)==0)=true:=rfl;go_enter Tryz.func183,Tryz.ntmps183;go_wp2_with fail;go_ret;exact ⟨rfl,rfl⟩
 ·have hv':=hv;obtain ⟨hs,A,c,rfl,hc,hA⟩:=hv;have hp:=Br n h0;have hk0:Kept w (w.alloc (.cells #[.int .u64 1] 55)):=(Below.refl _ _).alloc (Aq _) _;have hsz:=Nk (hv'.kept hk0) (by omega);have hone:Lim (w.alloc (.cells #[.int .u64 1] 55)) (.slice (some ⟨w.heap.size,0,none⟩) 1 1) [1]:=Yt (by omega) (by simp) (by simp [go_sem]) 1 (Aq _);rw [←Iw 1 (by decide) (by decide)] at hone;have hblb:bl n≤64*(Al n).length:=by
   have a:=cE n h0;have b:=Qx _ (Fy n ((Al n).length-1));omega
  have HV:=Ad hv';have HSZ:=Ad hsz;have HONE:=Ad hone;have HK0:=Ad hk0;clear hs hA hv' hsz hone hk0;have HISQ:Hid (Kj n=S6 n (2^((bl n+1)/2)) (2^((bl n+1)/2))):=by show Kj n=_;unfold Kj;rw [Af h0]
  generalize hll:(Al n).length=l at *;have HL:=Ad hll;clear hll;have e0:(((l:Nat):Int)==0)=false:=by rw [Ek];omega
  have hbl2:(bl n+1)/2<=32*l+1:=by omega
  have HX0:Hid ((Al (2^((bl n+1)/2))).length<=l+1):=by
   refine Dk _ _ ?_;have e:(18446744073709551616:Nat)=2^64:=by decide
   rw [e,<-Nat.pow_mul];exact Nat.pow_lt_pow_right (by decide) (by omega)
  have hdiv:((bl n:Int)+1)/2=(((bl n+1)/2:Nat):Int):=by omega
  have hpos:0<2^((bl n+1)/2):=Nat.pow_pos (by decide);have HPOS:=Ad hpos;generalize (bl n+1)/2=h at *;generalize bl n=bn at *;clear hpos;go_enter Tryz.func183,Tryz.ntmps183
  go_wp2_with (go_at_call 112;refine HSZ.o.mono ?_;rintro e w1 ⟨rfl,q1,rfl⟩)
  go_wp2_with fail;refine (Oc (m:=1) (by exact HONE.o) h (by rw [Iw 1 (by decide) (by decide)];simp) (by omega)).mono ?_;rintro e w1 ⟨vx,rfl,hvx,hk1⟩;rw [Nat.one_mul] at hvx;have HVX:=Ad hvx;have HK1:Hid (Kept w w1):=HK0.o.trans hk1.ofDrewN;clear hvx hk1;go_wp2_with fail
  go_loopg [3] (2^h) (λf vx wr=>∃ x,Lim wr vx (Al x)/\0<x/\x<=f/\S6 n f x=Kj n/\(Al x).length<=l+1/\Kept w wr)
  case atStart=>exact ⟨2^h,HVX.o,HPOS.o,Aq _,HISQ.o.symm,HX0.o,HK1.o⟩
  case round =>
   obtain ⟨x,hlx,hx0,hxf,hsp,hlen,hk⟩:=hrel;have HLX:=Ad hlx;have HSP:=Ad hsp;have HLEN:=Ad hlen;have HK:=Ad hk;clear hlx hsp hlen hk HVX HK1 HX0 HPOS HISQ;have HQL:Hid ((Al (n/x)).length<=l):=by
    have:=E7 (Nat.div_le_self n x);rw [HL.o] at this;exact this
   go_wp2_with fail;refine (aP (HV.o.kept HK.o) HLX.o (by rw [HL.o];omega) (by have:=HLEN.o;omega) (by omega)).mono ?_;rintro e w2 ⟨vq,vr,rfl,hvq,_,hk2⟩;have HVQ:=Ad hvq;have HK2:=Ad hk2;clear hvq hk2;go_wp2_with fail;refine (dx (HLX.o.kept HK2.o) HVQ.o (by have:=HLEN.o;omega) (by have:=HQL.o;omega)).mono ?_;rintro e w3 ⟨vp,rfl,hvp,hk3⟩;have HVP:=Ad hvp;have HK3:=Ad hk3;clear hvp hk3;have HPL:=Ad (R9 x (n/x) (l+1) HLEN.o (Bp HQL.o (by omega)));go_wp2_with fail;refine (Ts (n:=1) HVP.o (by have:=HPL.o;omega) (by omega)).mono ?_
   rintro e w4 ⟨vy,rfl,hvy,hk4⟩;rw [Nat.pow_one] at hvy;have HVY:=Ad hvy;have HK4:=Ad hk4;have HXW:=Ad (((HLX.o.kept HK2.o).kept HK3.o).kept hk4);have HYL:Hid ((Al ((x+n/x)/2)).length<=l+2):=Bp (E7 (Nat.div_le_self _ _)) HPL.o;have HKW:=Ad (((HK.o.trans HK2.o).trans HK3.o).trans hk4);clear hvy hk4;have hord:=Nc HVY.o HXW.o (by have:=HYL.o;omega) (by have:=HLEN.o;omega);have HO:=Ad hord;clear hord;by_cases hd:x<=(x+n/x)/2
   ·have hge:decide ((0:Int)≤Fx ((x+n/x)/2) x)=true:=by
     unfold Fx;rw [Af (by omega)];split<;>simp
    have HFIN:Hid (x=Kj n):=by
     have:=HSP.o;obtain ⟨f,rfl⟩:∃ f,gk=f+1:=⟨gk-1,by omega⟩;unfold S6 at this;rwa [Ak hd] at this
    clear hd;generalize Fx ((x+n/x)/2) x=cc at *
    go_wp2_with (go_at_call 113;refine HO.o.mono ?_;rintro e w5 ⟨rfl,q5,rfl⟩)
    go_ret;exact ⟨_,rfl,by rw [<-HFIN.o];exact HXW.o,HKW.o.drewN _⟩
   ·have hlt:decide ((0:Int)≤Fx ((x+n/x)/2) x)=false:=by
     unfold Fx;rw [Ak (by omega)];simp
    have HNXT:Hid (S6 n (gk-1) ((x+n/x)/2)=Kj n):=by
     have:=HSP.o;obtain ⟨f,rfl⟩:∃ f,gk=f+1:=⟨gk-1,by omega⟩;unfold S6 at this;rwa [Af hd] at this
    have HYP:=Ad (bJ n x hx0 (Nat.pos_of_ne_zero h0));have HLT:Hid ((x+n/x)/2<x):=Nat.lt_of_not_le hd;clear hd;generalize Fx ((x+n/x)/2) x=cc at *;generalize (x+n/x)/2=y at *
    go_wp2_with (go_at_call 113;refine HO.o.mono ?_;rintro e w5 ⟨rfl,q5,rfl⟩)
    go_roundg (gk-1)
    case measure=>omega
    case rel=>exact ⟨y,HVY.o,HYP.o,by have:=HLT.o;omega,HNXT.o,Bp (E7 (Nat.le_of_lt HLT.o)) HLEN.o,HKW.o.drewN _⟩
def DyR (w:World) (v:Value) (r:Raw):Prop:=∃ s,v=.agg #[.bool r.neg,s,.int .i64 r.e]/\Lim w s r.m/\-9223372036854775808<=r.e/\r.e<=9223372036854775807
theorem DyR.kept (h:DyR w v r)(k:Kept w w'):DyR w' v r:=by
 obtain ⟨s,rfl,hs,h1,h2⟩:=h;exact ⟨s,rfl,hs.kept k,h1,h2⟩
def By (T:TypeId) (k:Int):List PanicEntry:=[{ v:=.iface T (.agg #[.int .i64 k]),recovered:=false }]
theorem nf (k:Int)(w:World):Calls Tryz.prog 118 #[.bool true,.int .i64 k] w λe w'=>e=.returned (.tuple #[])/\w=w':=by
 go_enter Tryz.func118,Tryz.ntmps118;go_wp2
 go_end0
 exact ⟨rfl,rfl⟩
theorem jQ (k:Int)(w:World):Calls Tryz.prog 118 #[.bool false,.int .i64 k] w λe w'=>e=.panicked (By 129 k)/\w=w':=by
 go_enter Tryz.func118,Tryz.ntmps118;go_wp2;exact ⟨rfl,rfl,rfl⟩
def RetK (v:Value) (w:World) (e:Ending) (w':World):Prop:=e=.returned v/\Kept w w'
theorem Od (hv:DyR w v r)(hl:r.m.length<=17592186044416) :
 Calls Tryz.prog 53 #[v] w (RetK (.bool (Io r)) w):=by
 obtain ⟨neg,m,e⟩:=r;obtain ⟨s,rfl,hs,h1,h2⟩:=hv;simp only at hs h1 h2 hl ⊢;have hm:=λw1 (k:Kept w w1)=>pQ (hs.kept k) hl
 obtain ⟨hsm,A,c,rfl,hc,hA⟩:=hs;unfold Io;simp only;by_cases h0:m.length=0
 ·rw [Ak h0];clear hsm hA hm;rw [h0];have HL:=Ad h0;clear h0 hl hc
  cases neg<;>(
   go_enter Tryz.func53,Tryz.ntmps53;go_wp2_with fail;go_ret;exact ⟨rfl,(Below.refl _ _).alloc (Aq _) _⟩)
 ·rw [Af    h0];obtain ⟨b,off,rfl,hb,hcell⟩:=hA (by omega);have hc0:=hcell 0 (by omega);have hlt0:=Cc     hsm 0;have e0:(((m.length:Nat):Int)==0)=false:=by rw [Ek   ];omega
  have HM:=Ad hm;have hl0:0<m.length:=by omega
  clear hcell hA hsm hm h0;have eand:bits .and .u64 ((Ba m 0:Nat):Int) 1=((Ba m 0%2:Nat):Int):=by
   have h:=bits_and_u64_nat (Ba m 0) 1 hlt0 (by omega);rw [Nat.and_one_is_mod] at h;exact h
  rw [Nat.add_zero] at hc0;generalize Ba m 0=x at *;generalize m.length=l at *;generalize Wk m=bm at *;cases bm
  ·rw [Bool.false_and,Bool.false_and,Bool.false_and];go_enter Tryz.func53,Tryz.ntmps53
   go_wp2_with (go_at_call 90;refine (HM.o _ ((Below.refl _ _).alloc (Aq _) _)).mono ?_;rintro e w1 ⟨rfl,q,rfl⟩)
   go_ret;exact ⟨rfl,below_drewN ((Below.refl _ _).alloc (Aq _) _) _⟩
  ·rw [Bool.true_and];by_cases h3:x%2=1
   ·have d3:(x%2==1)=true:=by simp [h3]
    rw [d3,Bool.true_and];clear d3;rw [h3] at eand;have eand1:bits .and .u64 ((x:Nat):Int) 1=1:=eand;clear h3 eand;by_cases h4:-1048576<=e
    ·have d4:decide (-1048576≤e)=true:=by simp [h4]
     rw [d4,Bool.true_and];have d5:decide (e<=1048576)=true\/decide (e<=1048576)=false:=Cb _
     rcases d5 with d5 | d5<;>(
      rw [d5];go_enter Tryz.func53,Tryz.ntmps53
      go_wp2_with (go_at_call 90;refine (HM.o _ ((Below.refl _ _).alloc (Aq _) _)).mono ?_;rintro e w1 ⟨rfl,q,rfl⟩)
      go_ret;exact ⟨rfl,below_drewN ((Below.refl _ _).alloc (Aq _) _) _⟩)
    ·have d4:decide (-1048576≤e)=false:=by simp [h4]
     rw [d4,Bool.false_and];go_enter Tryz.func53,Tryz.ntmps53
     go_wp2_with (go_at_call 90;refine (HM.o _ ((Below.refl _ _).alloc (Aq _) _)).mono ?_;rintro e w1 ⟨rfl,q,rfl⟩)
     go_ret;exact ⟨rfl,below_drewN ((Below.refl _ _).alloc (Aq _) _) _⟩
   ·have h3':x%2=0:=by omega
    have d3:(x%2==1)=false:=by simp [h3]
    rw [d3,Bool.false_and,Bool.false_and];rw [h3'] at eand;have eand1:bits .and .u64 ((x:Nat):Int) 1=0:=eand;clear d3 h3 h3' eand;go_enter Tryz.func53,Tryz.ntmps53
    go_wp2_with (go_at_call 90;refine (HM.o _ ((Below.refl _ _).alloc (Aq _) _)).mono ?_;rintro e w1 ⟨rfl,q,rfl⟩)
    go_ret;exact ⟨rfl,below_drewN ((Below.refl _ _).alloc (Aq _) _) _⟩
theorem Hf:∀ (fn:Fn) (first cap:Array Value) (w:World),(Instr.makeFunc fn first cap).run Tryz.prog w=.ok (.func fn first cap) w:=λ_ _ _ _=>rfl
theorem Fb {P:Program}{Q:Exit->Act->List Frame->World->Prop}{a:Act}{cs cs':List Frame}{o:Oper}{l:List Oper}{y:Code}
 (ho:o.guard=none) (hr:(execOp a.eval o).run P w=.ok .recover w')
 (hc:(match recoverD cs with | some (v',cs'')=>v'=v/\cs''=cs' | none=>v=.nilIface/\cs'=cs))
 (h:wpList P (o::l).toArray (Exit.then (y.wp P (λe a w=>Q e a cs' w)) (λe a w=>Q e a cs' w)) l (a.put o.dst v) w') :
 (Code.seq (.region id (o::l).toArray false) y).wpS P Q a cs w:=by
 apply wpS_seq;intro b k hb _;have h1:wpOps P (o::l).toArray (Exit.then (y.wp P (λe a w=>Q e a cs' w)) (λe a w=>Q e a cs' w)) (List.range' 1 l.length) (a.put o.dst v) w':=by
  rw [wpOps_eq_wpList l 1 (by intro j;simp [Nat.add_comm 1 j])];exact h
 obtain ⟨e,a',w'',hq,harr⟩:=wp_ops _ _ _ h1 b k cs';have hw:Region.wanted o (yielded (o::l).toArray a.tmps)=true:=by simp [Region.wanted,ho]
 have hi:(o::l).toArray[0]?=some o:=by simp
 have hg:=stepG_op (P:=P) (b:=b) (k:=k) (cs:=cs) (w:=w) (rest:=List.range' 1 l.length) hi hw;have hfin:(b.at a (.inRegion (o::l).toArray (0::List.range' 1 l.length)::k)).finish v=b.at (a.put o.dst v) (.inRegion (o::l).toArray (List.range' 1 l.length)::k):=by
  rw [Frame.finish_at,hi];rfl
 have htr:=tryRecover_deferred (fr:=b.at a (.inRegion (o::l).toArray (0::List.range' 1 l.length)::k)) hb cs;have hstep:step P (lone (b.at a (.inRegion (o::l).toArray (0::List.range' 1 l.length)::k)) cs w)=.next (lone (b.at (a.put o.dst v) (.inRegion (o::l).toArray (List.range' 1 l.length)::k)) cs' w'):=by
  refine step_lone_go ?_;rw [hg,<-hfin];cases hrec:recoverD cs with
  | none =>
    rw [hrec] at hc htr;obtain ⟨rfl,rfl⟩:=hc;simp only [Frame.at] at htr ⊢;simp [stepG.apply,hr,htr]
  | some p =>
    obtain ⟨v1,cs1⟩:=p;rw [hrec] at hc htr;obtain ⟨rfl,rfl⟩:=hc;simp only [Frame.at] at htr ⊢;simp [stepG.apply,hr,htr]
 refine ⟨e,a',cs',w'',?_,.of_steps (.head step_region (.one (by rw [List.range_eq_range',List.size_toArray,List.length_cons,List.range'_succ];exact hstep))) harr⟩;cases e<;>first | exact hq | exact wpS_of_wp hq
theorem Ae (h:w.heap[b]?=some (.cells cs t (0,0)))(i:Nat)(v:Value)(hi:cs[i]?=some v) :
 w.cell? ⟨b,i,none⟩=some v:=by
 simp [World.cell?,h,hi]
theorem Aw (h:w.heap[b]?=some (.cells cs t (0,0)))(i:Nat) :
 w.frozen? ⟨b,i,none⟩=false:=by
 simp [World.frozen?,h]
def ev (w:World) (b2 b3:Nat) (T:TypeId) (k:Int):World :=
 ((((w.setCell ⟨b2,0,none⟩ (.bool false)).setCell ⟨b2,1,none⟩ (.slice none 0 0)).setCell ⟨b2,2,none⟩ (.int .i64 0)).setCell ⟨b3,0,none⟩ (.int .i64 k)).alloc (.cells #[.int .i64 k] T)
theorem S8 (k:Int)(w:World):(Instr.typeAssert (.iface 129 (.agg #[.int .i64 k])) 20 129 true).run Tryz.prog w=.ok (.tuple #[.agg #[.int .i64 k],.bool true]) w:=by
 kernel_rfl
theorem Vf (w:World):(Instr.typeAssert .nilIface 20 129 true).run Tryz.prog w=.ok (.tuple #[.agg #[.int .i64 0],.bool false]) w:=by
 kernel_rfl
theorem cH (b2 b3:Nat)(w:World)(k:Int)(x y z q:Value)
 (h0:w.heap[b2]?=some (.cells #[x,y,z] 28 (0,0))) (h1:w.heap[b3]?=some (.cells #[q] 3 (0,0))) (hne:¬b2=b3) :
 CallsD Tryz.prog 115 #[.pointer (some ⟨b2,0,none⟩),.pointer (some ⟨b3,0,none⟩)] (.panicking (By 129 k)) w λe u' w' =>
  e=.returned (.tuple #[])/\u'=.panicking [{ v:=.iface 129 (.agg #[.int .i64 k]),recovered:=true }]/\w'=(ev w b2 b3 129 k).drew:=by
 have ha:=S8 k;have l2:b2<w.heap.size:=(Bi h0).1;have l3:b3<w.heap.size:=(Bi h1).1;have n2:¬b2=w.heap.size:=by omega
 have n3:¬b3=w.heap.size:=by omega
 have n2':¬w.heap.size=b2:=by omega
 have n3':¬w.heap.size=b3:=by omega
 have hne':¬b3=b2:=λh=>hne h.symm
 have c20:=Ae h0 0 x rfl;have c21:=Ae h0 1 y rfl;have c22:=Ae h0 2 z rfl;have c30:=Ae h1 0 q rfl;have f20:=Aw h0 0;have f21:=Aw h0 1;have f22:=Aw h0 2;have f30:=Aw h1 0;refine callsD_of_wpS Tryz.func115 rfl λc₀ cs hu=>?_
 simp only [Tryz.ntmps115,List.size_toArray,List.length_cons,List.length_nil,Nat.reduceAdd,Nat.reduceSub,Array.replicate_succ,
  Array.replicate_zero,List.push_toArray,List.append_toArray,List.nil_append,List.cons_append]
 refine Fb (v:=.iface 129 (.agg #[.int .i64 k])) (cs':={ c₀ with mode:=.panicking [{ v:=.iface 129 (.agg #[.int .i64 k]),recovered:=true }] }::cs) (w':=w) rfl ?_ ?_ ?_
 ·simp [go_sem]
 ·rw [recoverD,hu];exact ⟨rfl,rfl⟩
 go_wp2_with fail;go_region;exact ⟨rfl,_,rfl,_,results_none rfl _ _ _,rfl,rfl,rfl⟩
theorem cI (b2 b3:Nat)(w:World) :
 CallsD Tryz.prog 115 #[.pointer (some ⟨b2,0,none⟩),.pointer (some ⟨b3,0,none⟩)] .returning w λe u' w' =>
  e=.returned (.tuple #[])/\u'=.returning/\w'=w.alloc (.cells #[.int .i64 0] 129):=by
 have ha:=Vf;refine callsD_of_wpS Tryz.func115 rfl λc₀ cs hu=>?_
 simp only [Tryz.ntmps115,List.size_toArray,List.length_cons,List.length_nil,Nat.reduceAdd,Nat.reduceSub,Array.replicate_succ,
  Array.replicate_zero,List.push_toArray,List.append_toArray,List.nil_append,List.cons_append]
 refine Fb (v:=.nilIface) (cs':=c₀::cs) (w':=w) rfl ?_ ?_ ?_
 ·simp [go_sem]
 ·rw [recoverD,hu];exact ⟨rfl,rfl⟩
 go_wp2_with fail;exact ⟨rfl,.returning,by rw [<-hu],_,results_none rfl _ _ _,rfl,rfl,rfl⟩
def J6 (T:TypeId) (o:Outc Raw) (w:World) (e:Ending) (w':World):Prop :=
 Kept w w'/\((o.k=0/\∃ v,e=.returned v/\DyR w' v o.v)\/(o.k≠0/\e=.panicked (By T o.k)))
def RetE (o:Outc Raw) (w:World) (e:Ending) (w':World):Prop :=
 Kept w w'/\∃ v,e=.returned (.tuple #[v,.int .i64 o.k])/\DyR w' v o.v
theorem Bw (h:w.heap[b]?=some (.cells cs t (0,0)))(v:Value):(w.setCell ⟨b,i,none⟩ v).heap[b]?=some (.cells (cs.setIfInBounds i v) t (0,0)):=by
 simp only [World.setCell,Array.getElem?_modify,h];simp
theorem Bh {b':Nat}{x:Obj}(h:w.heap[b]?=some x)(hne:¬b=b')(v:Value):(w.setCell ⟨b',i,none⟩ v).heap[b]?=some x:=by
 rw [Below.heap_setCell _ _ _ _ hne,h]
def F7 (w:World) (b2 b3:Nat) (x y z q:Value) (o:Obj):World :=
 ((((w.setCell ⟨b2,0,none⟩ x).setCell ⟨b2,1,none⟩ y).setCell ⟨b2,2,none⟩ z).setCell ⟨b3,0,none⟩ q).alloc o
theorem M5 {x x' y' z' q':Value}
 (h0:w.heap[b2]?=some (.cells #[x,y,z] T (0,0))) (h1:w.heap[b3]?=some (.cells #[q] T' (0,0))) (hne:¬b2=b3) :
 (F7 w b2 b3 x' y' z' q' o).cell? ⟨b2,0,none⟩=some x'/\(F7 w b2 b3 x' y' z' q' o).cell? ⟨b2,1,none⟩=some y' /\
 (F7 w b2 b3 x' y' z' q' o).cell? ⟨b2,2,none⟩=some z'/\(F7 w b2 b3 x' y' z' q' o).cell? ⟨b3,0,none⟩=some q':=by
 have l2:b2<w.heap.size:=(Bi h0).1;have l3:b3<w.heap.size:=(Bi h1).1;have g0:(F7 w b2 b3 x' y' z' q' o).heap[b2]?=some (.cells #[x',y',z'] T (0,0)):=by
  unfold F7;rw [Below.heap_alloc _ _ _ (by simp [World.setCell,l2])];exact Bh (Bw (Bw (Bw h0 _) _) _) hne _
 have g1:(F7 w b2 b3 x' y' z' q' o).heap[b3]?=some (.cells #[q'] T' (0,0)):=by
  unfold F7;rw [Below.heap_alloc _ _ _ (by simp [World.setCell,l3])];exact Bw (Bh (Bh (Bh h1 (λh=>hne h.symm) _) (λh=>hne h.symm) _) (λh=>hne h.symm) _) _
 exact ⟨Ae g0 0 _ rfl,Ae g0 1 _ rfl,Ae g0 2 _ rfl,Ae g1 0 _ rfl⟩
theorem Pg {w0:World}{x:Value}(h:Kept w0 w)(h2:w0.heap.size<=b2)(h3:w0.heap.size<=b3):Kept w0 (F7 w b2 b3 x y z q o) :=
 ((((h.setCell (p:=⟨b2,0,none⟩) h2 x).setCell (p:=⟨b2,1,none⟩) h2 y).setCell (p:=⟨b2,2,none⟩) h2 z).setCell (p:=⟨b3,0,none⟩) h3 q).alloc (by simpa [World.setCell] using h.size) o
theorem Lim.laid {x x' y' z' q':Value}(h:Lim w s xs)
 (h0:w.heap[b2]?=some (.cells #[x,y,z] T (0,0))) (h1:w.heap[b3]?=some (.cells #[q] T' (0,0)))
 (hx:∀ n,¬x=.int .u64 n) (hy:∀ n,¬y=.int .u64 n) (hz:∀ n,¬z=.int .u64 n) (hq:∀ n,¬q=.int .u64 n) :
 Lim (F7 w b2 b3 x' y' z' q' o) s xs:=by
 obtain ⟨hsm,A,c,rfl,hc,hA⟩:=h;refine ⟨hsm,A,c,rfl,hc,λhp=>?_⟩;obtain ⟨b,off,rfl,hb,hcell⟩:=hA hp;have n2:¬b=b2:=by
  rintro rfl;have h5:=hcell 0 hp;simp only [World.cell?,h0] at h5;rcases off with _ | _ | _ | off
  ·simp at h5;exact hx _ h5
  ·simp at h5;exact hy _ h5
  ·simp at h5;exact hz _ h5
  ·simp at h5
 have n3:¬b=b3:=by
  rintro rfl;have h5:=hcell 0 hp;simp only [World.cell?,h1] at h5;rcases off with _ | off
  ·simp at h5;exact hq _ h5
  ·simp at h5
 have e:(F7 w b2 b3 x' y' z' q' o).heap[b]?=w.heap[b]?:=by
  unfold F7;rw [Below.heap_alloc _ _ _ (by simpa [World.setCell] using hb),Below.heap_setCell _ _ _ _ n3,Below.heap_setCell _ _ _ _ n2,Below.heap_setCell _ _ _ _ n2,Below.heap_setCell _ _ _ _ n2]
 refine ⟨b,off,rfl,?_,λi hi=>?_⟩
 ·unfold F7;simp [World.setCell];omega
 ·rw [<-hcell i hi];simp only [World.cell?,e]
def rz:Raw:=⟨false,[],0⟩
theorem cS {o:Outc Raw}(h:∀ w1,Kept w w1->Calls Tryz.prog K cap w1 (J6 129 o w1))(hz:o.k≠0->o.v=rz)
 (hk:∀ w,(callFunc K cap).run Tryz.prog w=.ok (.enter K cap) w) :
 Calls Tryz.prog 78 #[.func (.func K) #[] cap] w (RetE o w):=by
 have hmf:=Hf;have HH:=Ad h;clear h
 go_enter_defers Tryz.func78,Tryz.ntmps78
 go_wp2_with fail;have k1:Kept w ((w.alloc (.cells #[.bool false,.slice none 0 0,.int .i64 0] 28)).alloc (.cells #[.int .i64 0] 3)):=((Below.refl _ _).alloc (Aq _) _).alloc (by simp) _;refine (HH.o _ k1).mono ?_;have b0:((w.alloc (.cells #[.bool false,.slice none 0 0,.int .i64 0] 28)).alloc (.cells #[.int .i64 0] 3)).heap[w.heap.size]?=some (.cells #[.bool false,.slice none 0 0,.int .i64 0] 28 (0,0)):=by
  rw [Below.heap_alloc _ _ _ (by simp)];exact heap_alloc_new _ _
 have b1:((w.alloc (.cells #[.bool false,.slice none 0 0,.int .i64 0] 28)).alloc (.cells #[.int .i64 0] 3)).heap[w.heap.size+1]?=some (.cells #[.int .i64 0] 3 (0,0)):=by
  have:=heap_alloc_new (w.alloc (.cells #[.bool false,.slice none 0 0,.int .i64 0] 28)) (.cells #[.int .i64 0] 3);simpa using this
 rintro e w1 ⟨q,hq⟩;have c0:=(q.block w.heap.size (by simp;omega)).trans b0;have c1:=(q.block (w.heap.size+1) (by simp)).trans b1;have k2:=k1.trans q;clear q b0 b1 k1 HH;have hs1:w.heap.size+1<w1.heap.size:=(Bi c1).1;have hs0:w.heap.size<w1.heap.size:=by omega
 have n1:¬w.heap.size=w1.heap.size:=by omega
 have n2:¬w.heap.size+1=w1.heap.size:=by omega
 have n3:¬w.heap.size=w.heap.size+1:=by omega
 have n4:¬w.heap.size+1=w.heap.size:=by omega
 have c20:w1.cell? ⟨w.heap.size,0,none⟩=some (.bool false):=Ae c0 0 _ rfl;have c21:w1.cell? ⟨w.heap.size,1,none⟩=some (.slice none 0 0):=Ae c0 1 _ rfl;have c22:w1.cell? ⟨w.heap.size,2,none⟩=some (.int .i64 0):=Ae c0 2 _ rfl;have c30:w1.cell? ⟨w.heap.size+1,0,none⟩=some (.int .i64 0):=Ae c1 0 _ rfl;have f20:=Aw c0 0;have f21:=Aw c0 1;have f22:=Aw c0 2;have f30:=Aw c1 0;have KK:=Ad k2;have HQ:=Ad hq;clear k2 hq;rcases HQ.o with ⟨h0,v,rfl,hv⟩ | ⟨h0,rfl⟩
 ·obtain ⟨s,rfl,hs,e1,e2⟩:=hv;have HS:=Ad hs;obtain ⟨_,A,c,rfl,_⟩:=hs;clear HQ;simp only [];go_wp2_with fail;refine leaves_cons (f:=115) (args:=#[.pointer (some ⟨w.heap.size,0,none⟩),.pointer (some ⟨w.heap.size+1,0,none⟩)]) (by simp) (by simp [go_sem]) ?_;refine (cI _ _ _).mono ?_;rintro e u' w2 ⟨rfl,rfl,rfl⟩;obtain ⟨d0,d1,d2,d3⟩:=M5 (x':=.bool o.v.neg) (y':=.slice A o.v.m.length c) (z':=.int .i64 o.v.e) (q':=.int .i64 0) (o:=.cells #[.int .i64 0] 129) c0 c1 n3;refine ⟨.tuple #[.agg #[.bool o.v.neg,.slice A o.v.m.length c,.int .i64 o.v.e],.int .i64 0],?_,?_⟩
  ·change (results Tryz.f78 _).run Tryz.prog (F7 w1 w.heap.size (w.heap.size+1) (.bool o.v.neg) (.slice A o.v.m.length c) (.int .i64 o.v.e) (.int .i64 0) (.cells #[.int .i64 0] 129))=.ok _ (F7 w1 w.heap.size (w.heap.size+1) (.bool o.v.neg) (.slice A o.v.m.length c) (.int .i64 o.v.e) (.int .i64 0) (.cells #[.int .i64 0] 129));generalize F7 w1 w.heap.size (w.heap.size+1) (.bool o.v.neg) (.slice A o.v.m.length c) (.int .i64 o.v.e) (.int .i64 0) (.cells #[.int .i64 0] 129)=W at *;simp [results,Tryz.results78,go_sem,d0,d1,d2,d3]
  ·refine ⟨Pg KK.o (Aq _) (Nat.le_succ _),_,by rw [h0],?_⟩;exact ⟨_,rfl,HS.o.laid c0 c1 (by simp) (by simp) (by simp) (by simp),e1,e2⟩
 ·clear HQ;simp only [];refine leaves_cons (f:=115) (args:=#[.pointer (some ⟨w.heap.size,0,none⟩),.pointer (some ⟨w.heap.size+1,0,none⟩)]) (by simp) (by simp [go_sem]) ?_;refine (cH _ _ _ _ _ _ _ _ c0 c1 n3).mono ?_;rintro e u' w2 ⟨rfl,rfl,rfl⟩;obtain ⟨d0,d1,d2,d3⟩:=M5 (x':=.bool false) (y':=.slice none 0 0) (z':=.int .i64 0) (q':=.int .i64 o.k) (o:=.cells #[.int .i64 o.k] 129) c0 c1 n3;refine ⟨.tuple #[.agg #[.bool false,.slice none 0 0,.int .i64 0],.int .i64 o.k],?_,?_⟩
  ·change (results Tryz.f78 _).run Tryz.prog (F7 w1 w.heap.size (w.heap.size+1) (.bool false) (.slice none 0 0) (.int .i64 0) (.int .i64 o.k) (.cells #[.int .i64 o.k] 129)).drew=.ok _ (F7 w1 w.heap.size (w.heap.size+1) (.bool false) (.slice none 0 0) (.int .i64 0) (.int .i64 o.k) (.cells #[.int .i64 o.k] 129)).drew;generalize F7 w1 w.heap.size (w.heap.size+1) (.bool false) (.slice none 0 0) (.int .i64 0) (.int .i64 o.k) (.cells #[.int .i64 o.k] 129)=W at *;simp [results,Tryz.results78,go_sem,d0,d1,d2,d3]
  ·refine ⟨(Pg KK.o (Aq _) (Nat.le_succ _)).drew,_,rfl,?_⟩;rw [hz h0];exact ⟨_,rfl,⟨(by intro i hi;cases hi),none,0,rfl,Aq _,λh=>absurd h (Nat.lt_irrefl 0)⟩,by decide,by decide⟩
section
variable {P:Program} {ops:Array Oper} {Q:Exit->Act->World->Prop} {md:Region.Mode}
def Ap (ops:Array Oper) (i:Nat):Option Tmp:=(ops[i]?).bind (·.dst)
def Bu (md:Region.Mode) (ops:Array Oper) (i j:Nat):Bool :=
 ((ops[i]?).map λo=>o.after.any λe=>Region.binds md e&&e.on==j).getD false
def Cg (ops:Array Oper) (m:Nat):Bool:=(List.range m).all λi=>(List.range m).all λj=>i==j||Ap ops i==none||Ap ops i != Ap ops j
def G4 (md:Region.Mode) (ops:Array Oper) (m i t:Nat):Bool:=(List.range m).all λj=>Ap ops j != some t||i==j||Bu md ops j i
def Dv (ops:Array Oper) (m n:Nat):Bool:=(List.range m).all λj=>(Ap ops j).all λt=>decide (t<n)
def Ua (md:Region.Mode) (ops:Array Oper):Nat->List (List Nat)
 | 0=>[]
 | n+1=>Ua md ops n++[(List.range n).filter λj=>Bu md ops n j||(List.range n).any λk=>Bu md ops n k&&((Ua md ops n).getD k []).contains j]
def L5 (md:Region.Mode) (ops:Array Oper) (m:Nat):Bool :=
 (List.range ops.size).all λi=>decide (i<m)||(List.range m).all λj=>((Ua md ops ops.size).getD i []).contains j
theorem Kb (md:Region.Mode)(ops:Array Oper):∀ n,(Ua md ops n).length=n
 | 0=>rfl
 | n+1=>by unfold Ua;rw [List.length_append,Kb md ops n];rfl
theorem Mu {md:Region.Mode}{ops:Array Oper}{L:Nat->Bool}(hcl:∀ i j,L i=true->Bu md ops i j=true->L j=true) :
 ∀ n i j,i<n->((Ua md ops n).getD i []).contains j=true->(∀ k,Bu md ops i k=true->L k=true)->L j=true
 | 0,_,_,h,_,_=>absurd h (Nat.not_lt_zero _)
 | n + 1, i, j, h, hc, hd => by
   unfold Ua at hc;by_cases hi:i<n
   ·rw [Da,Gf (by rw [Kb];exact hi),<-Da] at hc;exact Mu hcl n i j hi hc hd
   ·obtain rfl:i=n:=by omega
    rw [Da,Gk (by rw [Kb];exact Aq _),Kb,Nat.sub_self] at hc;simp only [List.getElem?_cons_zero,Option.getD_some,List.contains_eq_mem,List.mem_filter,List.mem_range,decide_eq_true_eq,Bool.or_eq_true,List.any_eq_true,Bool.and_eq_true] at hc;obtain ⟨_,hw | ⟨k,hk,hwk,hck⟩⟩:=hc
    ·exact hd j hw
    ·exact Mu hcl i k j hk (by simpa [List.contains_eq_mem] using hck) (λk' hk'=>hcl k k' (hd k hwk) hk')
def Er (md:Region.Mode) (ops:Array Oper):Bool:=(List.range ops.size).all λi=>((ops[i]?).map λo=>o.after.all λe=>!Region.binds md e||decide (e.on<i)).getD true
def Fg {α:Type} (f:Nat->α) (i:Nat) (v:α):Nat->α:=λj=>if j=i then v else f j
def Bb (ops:Array Oper) (S:Nat->Bool) (u:Nat->Value):Nat->Act->Act
 | 0,a=>a
 | k+1,a=>if S k then (Bb ops S u k a).put (Ap ops k) (u k) else Bb ops S u k a
theorem I4 {S S':Nat->Bool}{u u':Nat->Value}{a:Act}:∀ n,(∀ j,j<n->S j=S' j/\u j=u' j)->Bb ops S u n a=Bb ops S' u' n a
 | 0,_=>rfl
 | n + 1, h => by
   unfold Bb;obtain ⟨h1,h2⟩:=h n (by omega);rw [h1,h2,I4 n (λj hj=>h j (by omega))]
theorem U5 {S:Nat->Bool}{u:Nat->Value}{a:Act}{i:Nat}{v:Value}(hS:S i=false):∀ n,i<n ->
 (∀ j,j<n->j≠i->Ap ops i=none\/Ap ops i≠Ap ops j)->(Bb ops S u n a).put (Ap ops i) v=Bb ops (Fg S i true) (Fg u i v) n a
 | 0,h,_=>absurd h (Nat.not_lt_zero _)
 | n + 1, h, hap => by
   by_cases hi:i=n
   ·subst hi;have e1:Fg S i true i=true:=by simp [Fg]
    have e2:Fg u i v i=v:=by simp [Fg]
    unfold Bb;rw [hS,e1,e2];simp only [Bool.false_eq_true,if_false,if_true];rw [I4 (S':=Fg S i true) (u':=Fg u i v) i (λj hj=>by unfold Fg;rw [Af (by omega),Af (by omega)];exact ⟨rfl,rfl⟩)]
   ·have e1:Fg S i true n=S n:=by simp [Fg];intro h;exact absurd h.symm hi
    have e2:Fg u i v n=u n:=by unfold Fg;rw [Af (λh=>hi h.symm)]
    have ih:=U5 (u:=u) (a:=a) (v:=v) hS n (by omega) (λj hj=>hap j (by omega));unfold Bb;rw [e1,e2];cases hn:S n
    ·simp only [Bool.false_eq_true,if_false];exact ih
    ·simp only [if_true];rw [←ih];refine Act.put_comm _ _ _ (fun d hd=>?_);intro hc;rcases hap n (by omega) (fun h=>hi h.symm) with h | h
     ·rw [h] at hc;cases hc
     ·exact h (hc.trans hd.symm)
theorem aK (a:Act)(x:Option Tmp)(v:Value):(a.put x v).defers=a.defers:=by cases x<;>rfl
theorem ks (a:Act)(x:Option Tmp)(v:Value):(a.put x v).tmps.size=a.tmps.size:=by cases x<;>simp [Act.put]
theorem Lo {S:Nat->Bool}{u:Nat->Value}{a:Act}:∀ n,(Bb ops S u n a).defers=a.defers
 | 0=>rfl
 | n + 1 => by
   unfold Bb;split
   ·rw [aK,Lo n]
   ·exact Lo n
theorem Se {S:Nat->Bool}{u:Nat->Value}{a:Act}:∀ n,(Bb ops S u n a).tmps.size=a.tmps.size
 | 0=>rfl
 | n + 1 => by
   unfold Bb;split
   ·rw [ks,Se n]
   ·exact Se n
theorem Sr (a:Act)(x:Option Tmp)(v:Value)(t:Nat)(h:x≠some t):(a.put x v).tmps.getD t undef=a.tmps.getD t undef:=by
 cases x with
 | none=>rfl
 | some d =>
   have:d≠t:=λe=>h (by rw [e])
   simp only [Act.put,Cv];rw [Array.getElem?_setIfInBounds_ne this]
theorem am (a:Act)(v:Value)(t:Nat)(h:t<a.tmps.size):(a.put (some t) v).tmps.getD t undef=v:=by
 simp only [Act.put,Cv];simp [h]
theorem Ic {S:Nat->Bool}{u:Nat->Value}{a:Act}{t:Nat}:∀ n,(∀ j,j<n->S j=true->Ap ops j≠some t) ->
 (Bb ops S u n a).tmps.getD t undef=a.tmps.getD t undef
 | 0,_=>rfl
 | n + 1, h => by
   unfold Bb;split
   ·rename_i hs;rw [Sr _ _ _ _ (h n (by omega) hs),Ic n (λj hj=>h j (by omega))]
   ·exact Ic n (λj hj=>h j (by omega))
theorem Id {S:Nat->Bool}{u:Nat->Value}{a:Act}{t i:Nat}(ht:t<a.tmps.size)(hS:S i=true)(hi:Ap ops i=some t):∀ n,i<n ->
 (∀ j,j<n->j≠i->Ap ops j≠some t)->(Bb ops S u n a).tmps.getD t undef=u i
 | 0,h,_=>absurd h (Nat.not_lt_zero _)
 | n + 1, h, hap => by
   unfold Bb;by_cases he:i=n
   ·subst he;rw [hS,hi];simp only [if_true];exact am _ _ _ (by rw [Se];exact ht)
   ·split
    ·rw [Sr _ _ _ _ (hap n (by omega) (λh=>he h.symm)),Id ht hS hi n (by omega) (λj hj=>hap j (by omega))]
    ·exact Id ht hS hi n (by omega) (λj hj=>hap j (by omega))
theorem Mi (n i:Nat):(Array.replicate n false).getD i false=false:=by
 rw [Cv];by_cases h:i<n
 ·rw [Array.getElem?_eq_getElem (by simpa using h)];simp
 ·rw [Array.getElem?_eq_none (by simpa using h)];rfl
def Bo (P:Program) (ops:Array Oper) (Q:Exit->Act->World->Prop) (V:Nat->Value->World->Prop) (i:Nat) (o:Oper) (a:Act) (w:World):Prop :=
 if Region.wanted o (yielded ops a.tmps)=true then o.wp P a w (λa' w'=>∃ v,a'=a.put o.dst v/\Kept w w'/\V i v w') Q else V i undef w
structure Finds (md:Region.Mode) (ops:Array Oper) (m:Nat) (V:Nat->Value->World->Prop) (a0:Act) (W:World) (i:Nat) (a:Act) (w:World):Prop where
 kept:Kept W w
 defers:a.defers=a0.defers
 done:∀ j t,Bu md ops i j=true->Ap ops j=some t->V j (a.tmps.getD t undef) w
 old:∀ t,G4 md ops m i t=true->a.tmps.getD t undef=a0.tmps.getD t undef
theorem De {n:Nat}{p:Nat->Bool}(h:(List.range n).all p=true)(i:Nat)(hi:i<n):p i=true:=by
 rw [List.all_eq_true] at h;exact h i (List.mem_range.2 hi)
def Px (P:Program) (ops:Array Oper) (Q:Exit->Act->World->Prop) (J:(Nat->Bool)->(Nat->Value)->World->Prop) (L:Nat->Bool) (u:Nat->Value) (i:Nat) (o:Oper) (a:Act) (w:World):Prop :=
 if Region.wanted o (yielded ops a.tmps)=true then o.wp P a w (λa' w'=>∃ v,a'=a.put o.dst v/\J (Fg L i true) (Fg u i v) w') Q else J (Fg L i true) (Fg u i undef) w
structure Qc (md:Region.Mode) (ops:Array Oper) (m:Nat) (J:(Nat->Bool)->(Nat->Value)->World->Prop) (a0:Act) (L:Nat->Bool) (u:Nat->Value) (i:Nat) (a:Act) (w:World):Prop where
 frame:J L u w
 yet:L i=false
 wait:∀ j,Bu md ops i j=true->L j=true
 lt:∀ j,L j=true->j<m
 defers:a.defers=a0.defers
 done:∀ j t,Bu md ops i j=true->Ap ops j=some t->a.tmps.getD t undef=u j
 old:∀ t,G4 md ops m i t=true->a.tmps.getD t undef=a0.tmps.getD t undef
structure qR (md:Region.Mode) (ops:Array Oper) (m:Nat) (J:(Nat->Bool)->(Nat->Value)->World->Prop) (a0:Act) (listed:Array Bool) (a:Act) (w:World):Prop where
 size:listed.size=ops.size
 tail:∀ i,m<=i->listed.getD i false=false
 closed:∀ i j,listed.getD i false=true->Bu md ops i j=true->listed.getD j false=true
 vals:∃ u,a=Bb ops (λi=>listed.getD i false) u m a0/\J (λi=>listed.getD i false) u w
theorem Wm            {m:Nat}{J:(Nat→Bool)→(Nat→Value)→World→Prop}{a0:Act}
 (hsz:m<=ops.size) (hap:Cg ops m=true) (hin:Dv ops m a0.tmps.size=true) (htl:L5 md ops m=true) (hbk:Er md ops=true)
 (hstep:∀ i o,i<m->ops[i]?=some o->∀ L u a w,Qc md ops m J a0 L u i a w->Px P ops Q J L u i o a w)
 (hend:∀ u w L,(∀ i,i<m->L i=true)->J L u w->∀ listed:Array Bool,listed.size=ops.size->(∀ i,listed.getD i false=decide (i<m))->wpAny P md ops Q (ops.size-m) listed (Bb ops (λ_=>true) u m a0) w) :
 ∀ (k:Nat) (listed:Array Bool) (a:Act) (w:World),((List.range m).filter λi=>!listed.getD i false).length=k->qR md ops m J a0 listed a w->wpAny P md ops Q (ops.size-m+k) listed a w:=by
 intro k
 induction k with
 | zero =>
   intro listed a w hk hI;obtain ⟨u,rfl,hu⟩:=hI.vals;have hall:∀ i,i<m->listed.getD i false=true:=by
    intro i hi;have h1:=G9 hk;have h2:∀ x∈(List.range m).filter (λi=>!listed.getD i false),False:=by rw [h1];intro x hx;cases hx
    cases hc:listed.getD i false
    ·exact (h2 i (List.mem_filter.2 ⟨List.mem_range.2 hi,by rw [hc];rfl⟩)).elim
    ·rfl
   have e:Bb ops (λi=>listed.getD i false) u m a0=Bb ops (λ_=>true) u m a0:=I4 m (λj hj=>⟨hall j hj,rfl⟩);rw [e];refine hend u w _ hall hu listed hI.size (λi=>?_);by_cases hi:i<m
   ·rw [hall i hi];simp [hi]
   ·rw [hI.tail i (by omega)];simp [hi]
 | succ k ih =>
   intro listed a w hk hI;obtain ⟨u,rfl,hu⟩:=hI.vals
   -- the first one that has not come up is ready, or some are ready
   refine ⟨λhnone=>?_,λi hi=>?_⟩
   ·exfalso;have hex:∃ x,x<m∧listed.getD x false=false:=by
     cases hl:(List.range m).filter (λi=>!listed.getD i false) with
     | nil=>rw [hl] at hk;simp at hk
     | cons x xs =>
       have hx:x∈(List.range m).filter (λi=>!listed.getD i false):=by rw [hl];exact List.mem_cons_self ..
       obtain ⟨h1,h2⟩:=List.mem_filter.1 hx;exact ⟨x,List.mem_range.1 h1,by simpa using h2⟩
    have hmin : ∀ n x, x ≤ n → x < m → listed.getD x false = false → ∃ y, y ∈ Region.ready md ops listed := by
     intro n
     induction n with
     | zero => 
       intro x hx hxm hxl;obtain rfl:x=0:=by omega
       refine ⟨0,mem_ready.2 ⟨?_,ops[0],Array.getElem?_eq_getElem (by omega),λe he hb=>?_⟩⟩
       ·rw [Cv,Array.getElem?_eq_getElem (by rw [hI.size];omega)] at hxl ⊢;exact hxl
       ·have h1:=De hbk 0 (by omega);rw [Array.getElem?_eq_getElem (show 0<ops.size by omega)] at h1;simp only [Option.map_some,Option.getD_some,Array.all_eq_true'] at h1;have:=h1 e he;rw [hb] at this;simp at this
     | succ n ihn =>
       intro x hx hxm hxl;by_cases hall:∀ j,Bu md ops x j=true->listed.getD j false=true
       ·refine ⟨x,mem_ready.2 ⟨?_,ops[x],Array.getElem?_eq_getElem (by omega),fun e he hb=>?_⟩⟩
        ·rw [Cv,Array.getElem?_eq_getElem (by rw [hI.size];omega)] at hxl ⊢;exact hxl
        ·refine hall e.on ?_;unfold Bu;rw [Array.getElem?_eq_getElem (show x<ops.size by omega)];simp only [Option.map_some,Option.getD_some,Array.any_eq_true'];exact ⟨e,he,by rw [hb];simp⟩
       ·obtain ⟨j,hj⟩:=Classical.not_forall.1 hall;obtain ⟨hj1,hj2⟩:=Classical.not_imp.1 hj;have hjx:j<x:=by
         have h1:=De hbk x (by omega);unfold Bu at hj1;rw [Array.getElem?_eq_getElem (show x<ops.size by omega)] at h1 hj1;simp only [Option.map_some,Option.getD_some,Array.all_eq_true',Array.any_eq_true'] at h1 hj1;obtain ⟨e,he,hb⟩:=hj1;simp only [Bool.and_eq_true,beq_iff_eq] at hb;have:=h1 e he;rw [hb.1,hb.2] at this;simpa using this
        exact ihn j (by omega) (by omega) (by simpa using hj2)
    obtain ⟨x,hx1,hx2⟩:=hex;obtain ⟨y,hy⟩:=hmin x x (Aq _) hx1 hx2;rw [hnone] at hy;cases hy
   ·obtain ⟨hjun,oi,hoi,hdep⟩:=mem_ready.1 hi;have hil:i<listed.size:=by
     by_cases hc:i<listed.size
     ·exact hc
     ·rw [Cv,Array.getElem?_eq_none (by omega)] at hjun;simp at hjun
    have hfalse:listed.getD i false=false:=by
     rw [Cv,Array.getElem?_eq_getElem hil] at *;exact hjun
    have hdone:∀ j,Bu md ops i j=true->listed.getD j false=true:=by
     intro j hj;unfold Bu at hj;rw [hoi] at hj;simp only [Option.map_some,Option.getD_some,Array.any_eq_true'] at hj;obtain ⟨e,he,hb⟩:=hj;simp only [Bool.and_eq_true,beq_iff_eq] at hb;have:=hdep e he hb.1;rw [hb.2] at this;exact this
    by_cases him:i<m
    ·have hF:Qc md ops m J a0 (fun i=>listed.getD i false) u i (Bb ops (fun i=>listed.getD i false) u m a0) w:=by
      refine ⟨hu,hfalse,hdone,λj hj=>Classical.byContradiction λhc=>(by rw [hI.tail j (by omega)] at hj;cases hj),Lo m,λj t hw hs=>?_,λt hu0=>?_⟩
      ·have hjl:=hdone j hw;have hjm:j<m:=by
        by_cases hc:j<m
        ·exact hc
        ·rw [hI.tail j (by omega)] at hjl;cases hjl
       have htn:t<a0.tmps.size:=by
        have:=De hin j hjm;rw [hs] at this;simpa using this
       rw [Id (i:=j) htn hjl hs m hjm (λj' hj' hne=>?_)]
       ·have h1:=De (De hap j hjm) j' hj';rw [hs] at h1;simp only [Bool.or_eq_true,beq_iff_eq,bne_iff_ne] at h1;rcases h1 with (h1 | h1) | h1
        ·exact absurd h1.symm hne
        ·cases h1
        ·exact λh=>h1 h.symm
      ·refine Ic m (fun j hj hjl hs=>?_);have h1:=De hu0 j hj;rw [hs] at h1;simp only [bne_self_eq_false,Bool.false_or,Bool.or_eq_true,beq_iff_eq] at h1;rcases h1 with h1 | h1
       ·rw [<-h1,hfalse] at hjl;cases hjl
       ·have:=hI.closed j i hjl h1;rw [hfalse] at this;cases this
     have hs:=hstep i oi him hoi _ _ _ w hF;unfold Px at hs;unfold wpOp;simp only [hoi];have hput:∀ v w',J (Fg (λi=>listed.getD i false) i true) (Fg u i v) w'->qR md ops m J a0 (listed.setIfInBounds i true) ((Bb ops (λi=>listed.getD i false) u m a0).put oi.dst v) w':=by
      intro v w' hk';have hso:oi.dst=Ap ops i:=by unfold Ap;rw [hoi];rfl
      have hset:∀ j,(listed.setIfInBounds i true).getD j false=Fg (λi=>listed.getD i false) i true j:=by
       intro j;unfold Fg;by_cases hj:j=i
       ·subst hj;rw [Ak rfl,Cv];simp [hil]
       ·rw [Af hj,getD_set_ne false (λh=>hj h.symm)]
      refine ⟨by rw [Array.size_setIfInBounds,hI.size],λj hj=>?_,λj l hj hw=>?_,Fg u i v,?_,by rw [show (λj=>(listed.setIfInBounds i true).getD j false)=Fg (λi=>listed.getD i false) i true from funext hset];exact hk'⟩
      ·rw [getD_set_ne false (by omega)];exact hI.tail j hj
      ·rw [hset] at hj ⊢;unfold Fg at hj ⊢;by_cases hji:j=i
       ·subst hji;by_cases hli:l=j
        ·rw [Ak hli]
        ·rw [Af hli];exact hdone l hw
       ·rw [Af hji] at hj;by_cases hli:l=i
        ·rw [Ak hli]
        ·rw [Af hli];exact hI.closed j l hj hw
      ·rw [hso,U5 (S:=fun i=>listed.getD i false) hfalse m him (fun j hj hne=>?_)]
       ·exact I4 m (λj _=>⟨(hset j).symm,rfl⟩)
       ·have h1:=De (De hap i him) j hj;simp only [Bool.or_eq_true,beq_iff_eq,bne_iff_ne] at h1;rcases h1 with (h1 | h1) | h1
        ·exact absurd h1.symm hne
        ·exact .inl h1
        ·exact .inr h1
     have hcount : ((List.range m).filter fun j => !(listed.setIfInBounds i true).getD j false).length = k := by
      have h1:(List.range m).filter (λj=>!(listed.setIfInBounds i true).getD j false)=((List.range m).filter (λj=>!listed.getD j false)).filter (λj=>j != i):=by
       rw [List.filter_filter];apply List.filter_congr;intro j _;by_cases hj:j=i
       ·subst hj;rw [Cv];simp [hil]
       ·rw [getD_set_ne false (λh=>hj h.symm)];simp [hj]
      rw [h1];have hnd:((List.range m).filter (fun j=>!listed.getD j false)).Nodup:=List.Pairwise.filter _ List.nodup_range;have hmem:i∈(List.range m).filter (fun j=>!listed.getD j false):=List.mem_filter.2 ⟨List.mem_range.2 him,by rw [hfalse];rfl⟩;have h2 : ∀ (l : List Nat), l.Nodup → i ∈ l → (l.filter (fun j => j != i)).length + 1 = l.length := by
       intro l
       induction l with
       | nil=>intro _ h;cases h
       | cons x xs ihx =>
         intro hn hm;obtain ⟨hx,hn'⟩:=List.nodup_cons.1 hn;by_cases hxi:x=i
         ·subst hxi;have:xs.filter (fun j=>j != x)=xs:=by
           rw [List.filter_eq_self];intro y hy;simp only [bne_iff_ne];rintro rfl;exact hx hy
          rw [List.filter_cons_of_neg (by simp),this];rfl
         ·have hm':i∈xs:=by
           rcases List.mem_cons.1 hm with h | h
           ·exact absurd h.symm hxi
           ·exact h
          rw [List.filter_cons_of_pos (by simp [hxi])];simp only [List.length_cons];rw [ihx hn' hm']
      have:=h2 _ hnd hmem;omega
     by_cases hw:Region.wanted oi (yielded ops (Bb ops (λi=>listed.getD i false) u m a0).tmps)=true
     ·rw [Ak hw] at hs ⊢;refine .inl (Oper.wp_mono (λa' w' h=>?_) hs);obtain ⟨v,rfl,hk'⟩:=h;exact ih _ _ _ hcount (hput v w' hk')
     ·rw [Af hw] at hs ⊢;exact ih _ _ _ hcount (hput undef w hs)
    ·-- an operation behind waits for one that has not come up
     exfalso;have hex:∃ x,x<m/\listed.getD x false=false:=by
      cases hl:(List.range m).filter (λi=>!listed.getD i false) with
      | nil=>rw [hl] at hk;simp at hk
      | cons x xs =>
        have hx:x∈(List.range m).filter (λi=>!listed.getD i false):=by rw [hl];exact List.mem_cons_self ..
        obtain ⟨h1,h2⟩:=List.mem_filter.1 hx;exact ⟨x,List.mem_range.1 h1,by simpa using h2⟩
     obtain ⟨x,hx1,hx2⟩:=hex;have h1:=De htl i (by rw [<-hI.size];exact hil);simp only [Bool.or_eq_true,decide_eq_true_eq] at h1;have h2:=Mu (L:=λj=>listed.getD j false) hI.closed ops.size i x (by rw [<-hI.size];exact hil) (De (h1.resolve_left him) x hx1) hdone;rw [hx2] at h2;cases h2
theorem Qk {m:Nat}{J:(Nat->Bool)->(Nat->Value)->World->Prop}{a0:Act}{W:World}(hsz:m<=ops.size)(hap:Cg ops m=true)(hin:Dv ops m a0.tmps.size=true)(htl:L5 .any ops m=true)(hbk:Er .any ops=true)
 (hJ:J (λ_=>false) (λ_=>undef) W.drew)
 (hstep:∀ i o,i<m->ops[i]?=some o->∀ L u a w,Qc .any ops m J a0 L u i a w->Px P ops Q J L u i o a w)
 (hend:∀ u w L,(∀ i,i<m->L i=true)->J L u w->∀ listed:Array Bool,listed.size=ops.size->(∀ i,listed.getD i false=decide (i<m))->wpAny P .any ops Q (ops.size-m) listed (Bb ops (λ_=>true) u m a0) w) :
 wpAny P .any ops Q ops.size (Array.replicate ops.size false) a0 W.drew:=by
 have h:=Wm (md:=.any) (a0:=a0) (J:=J) (Q:=Q) (P:=P) hsz hap hin htl hbk hstep hend
  ((List.range m).filter λi=>!(Array.replicate ops.size false).getD i false).length (Array.replicate ops.size false) a0 W.drew rfl ?_
 ·have e:ops.size-m+((List.range m).filter fun i=>!(Array.replicate ops.size false).getD i false).length=ops.size:=by
   have:(List.range m).filter (λi=>!(Array.replicate ops.size false).getD i false)=List.range m:=by
    rw [List.filter_eq_self];intro i hi;rw [Mi];rfl
   rw [this,List.length_range];omega
  rw [e] at h;exact h
 ·refine ⟨by simp,fun i _=>?_,fun i j hi=>?_,fun _=>undef,?_,by rw [show (fun i=>(Array.replicate ops.size false).getD i false)=fun _=>false from funext fun i=>Mi _ _];exact hJ⟩
  ·exact Mi _ _
  ·rw [Mi] at hi;cases hi
  ·have:∀ n,Bb ops (fun i=>(Array.replicate ops.size false).getD i false) (fun _=>undef) n a0=a0:=by
    intro n
    induction n with
    | zero=>rfl
    | succ n ih =>
      unfold Bb;rw [Af (by rw [Mi];simp),ih]
   exact (this m).symm
theorem Nr {l:Array Bool}{i:Nat}(h:i<l.size):l.getD i true=l.getD i false:=by
 rw [Cv,Cv,Array.getElem?_eq_getElem h];rfl
theorem Ng {m:Nat}{listed:Array Bool}(hm:m<ops.size)(hl:listed.size=ops.size)(hbk:Er md ops=true)(hd:∀ i,i<m->listed.getD i false=true)(h0:listed.getD m false=false):m∈Region.ready md ops listed:=by
 refine mem_ready.2 ⟨by rw [Nr (by omega)];exact h0,ops[m],Array.getElem?_eq_getElem hm,λe he hb=>?_⟩;have h1:=De hbk m hm;rw [Array.getElem?_eq_getElem hm] at h1;simp only [Option.map_some,Option.getD_some,Array.all_eq_true'] at h1;have:=h1 e he;rw [hb] at this;exact hd _ (by simpa using this)
theorem Mh {i:Nat}{listed:Array Bool}(hl:listed.size=ops.size)(h:i∈Region.ready md ops listed):i<ops.size/\listed.getD i false=false:=by
 obtain ⟨h1,o,ho,_⟩:=mem_ready.1 h;have h3:i<ops.size:=(Bi ho).1;rw [Nr (by omega)] at h1;exact ⟨h3,h1⟩
theorem Q6 {l:Array Bool}{i:Nat}(h:i<l.size)(j:Nat):(l.setIfInBounds i true).getD j false=if j=i then true else l.getD j false:=by
 by_cases hj:j=i
 ·subst hj;rw [Ak rfl,Cv];simp [h]
 ·rw [Af hj,getD_set_ne false (λh=>hj h.symm)]
theorem Rr {i:Nat}{o:Oper}{K:Act->World->Prop}{a:Act}{w:World}(ho:ops[i]?=some o)(hg:o.guard=none)(h:o.wp P a w K Q):wpOp P ops Q i K a w:=by
 unfold wpOp;simp only [ho];have:Region.wanted o (yielded ops a.tmps)=true:=by simp [Region.wanted,hg]
 rw [Ak this];exact .inl h
theorem On {id m:Nat}{J:(Nat->Bool)->(Nat->Value)->World->Prop}{a0:Act}{W:World}(hm:P.follows .mixedOrders=true)
 (hsz:m=ops.size) (hap:Cg ops m=true) (hin:Dv ops m a0.tmps.size=true) (hbk:Er .any ops=true)
 (hJ:J (λ_=>false) (λ_=>undef) W.drew)
 (hstep:∀ i o,i<m->ops[i]?=some o->∀ L u a w,Qc .any ops m J a0 L u i a w->Px P ops Q J L u i o a w)
 (hend:∀ u w L,(∀ i,i<m->L i=true)->J L u w->Q .normal (Bb ops (λ_=>true) u m a0) w) :
 (Code.region id ops true).wp P Q a0 W:=by
 have htl:L5 .any ops m=true:=by
  unfold L5;rw [List.all_eq_true];intro i hi;have:=List.mem_range.1 hi;simp;left;omega
 refine wp_region_any hm (Qk (by omega) hap hin htl hbk hJ hstep λu w L hL hk listed hl hlt=>?_);have:ops.size-m=0:=by omega
 rw [this];refine ⟨?_,hend u w L hL hk⟩;rw [List.eq_nil_iff_forall_not_mem];intro i hi;obtain ⟨h1,o,ho,_⟩:=mem_ready.1 hi;have h2:=hlt i;have h3:i<ops.size:=(Bi ho).1;rw [Cv,Array.getElem?_eq_getElem (by omega)] at h1 h2;simp only [Option.getD_some] at h1 h2;rw [h1] at h2;simp at h2;omega
theorem Y8 {id m:Nat}{J:(Nat->Bool)->(Nat->Value)->World->Prop}{a0:Act}{W:World}{o:Oper}(hm:P.follows .mixedOrders=true)
 (hsz:m+1=ops.size) (ho:ops[m]?=some o) (hg:o.guard=none) (hap:Cg ops m=true) (hin:Dv ops m a0.tmps.size=true) (htl:L5 .any ops m=true) (hbk:Er .any ops=true)
 (hJ:J (λ_=>false) (λ_=>undef) W.drew)
 (hstep:∀ i o,i<m->ops[i]?=some o->∀ L u a w,Qc .any ops m J a0 L u i a w->Px P ops Q J L u i o a w)
 (hend:∀ u w L,(∀ i,i<m->L i=true)->J L u w->o.wp P (Bb ops (λ_=>true) u m a0) w (Q .normal) Q) :
 (Code.region id ops true).wp P Q a0 W:=by
 refine wp_region_any hm (Qk (by omega) hap hin htl hbk hJ hstep λu w L hL hk listed hl hlt=>?_);have hs:ops.size-m=0+1:=by omega
 rw [hs];refine ⟨λhn=>?_,λi hi=>?_⟩
 ·have:=Ng (md:=.any) (m:=m) (by omega) hl hbk (λi hi=>by rw [hlt];simp [hi]) (by rw [hlt];simp);rw [hn] at this;cases this
 ·obtain ⟨h1,h2⟩:=Mh hl hi;rw [hlt] at h2;simp at h2;obtain rfl:i=m:=by omega
  refine Rr ho hg (Oper.wp_mono (λa w h=>?_) (hend u w L hL hk));refine ⟨?_,h⟩;rw [List.eq_nil_iff_forall_not_mem];intro j hj;obtain ⟨h3,h4⟩:=Mh (by rw [Array.size_setIfInBounds];exact hl) hj;rw [Q6 (by omega),hlt] at h4;by_cases hji:j=i
  ·rw [Ak hji] at h4;cases h4
  ·rw [Af hji] at h4;simp at h4;omega
theorem Y9 {id m:Nat}{J:(Nat->Bool)->(Nat->Value)->World->Prop}{a0:Act}{W:World}{o o':Oper}(hm:P.follows .mixedOrders=true)
 (hsz:m+2=ops.size) (ho:ops[m]?=some o) (hg:o.guard=none) (ho':ops[m+1]?=some o') (hg':o'.guard=none)
 (hap:Cg ops m=true) (hin:Dv ops m a0.tmps.size=true) (htl:L5 .any ops m=true) (hbk:Er .any ops=true)
 (hJ:J (λ_=>false) (λ_=>undef) W.drew)
 (hstep:∀ i o,i<m->ops[i]?=some o->∀ L u a w,Qc .any ops m J a0 L u i a w->Px P ops Q J L u i o a w)
 (hend:∀ u w L,(∀ i,i<m->L i=true)->J L u w->o.wp P (Bb ops (λ_=>true) u m a0) w (λa w=>o'.wp P a w (Q .normal) Q) Q /\
   (Bu .any ops (m+1) m=true\/o'.wp P (Bb ops (λ_=>true) u m a0) w (λa w=>o.wp P a w (Q .normal) Q) Q)) :
 (Code.region id ops true).wp P Q a0 W:=by
 refine wp_region_any hm (Qk (by omega) hap hin htl hbk hJ hstep λu w L hL hk listed hl hlt=>?_);obtain ⟨hA,hB⟩:=hend u w L hL hk;have hs:ops.size-m=1+1:=by omega
 rw [hs];have hdone:∀ (l:Array Bool) (a:Act) (w:World),l.size=ops.size->(∀ i,i<m+2->l.getD i false=true)->Q .normal a w->wpAny P .any ops Q 0 l a w:=by
  intro l a w hl h hq;refine ⟨?_,hq⟩;rw [List.eq_nil_iff_forall_not_mem];intro j hj;obtain ⟨h3,h4⟩:=Mh hl hj;rw [h j (by omega)] at h4;cases h4
 refine ⟨λhn=>?_,λi hi=>?_⟩
 ·have:=Ng (md:=.any) (m:=m) (by omega) hl hbk (λi hi=>by rw [hlt];simp [hi]) (by rw [hlt];simp);rw [hn] at this;cases this
 ·obtain ⟨h1,h2⟩:=Mh hl hi;rw [hlt] at h2;simp at h2;have hsz2:∀ k:Nat,(listed.setIfInBounds k true).size=ops.size:=fun k=>by rw [Array.size_setIfInBounds];exact hl
  have hlk:∀ k j:Nat,k<ops.size->(listed.setIfInBounds k true).getD j false=if j=k then true else decide (j<m):=λk j hk=>by
   rw [Q6 (by omega),hlt]
  by_cases him:i=m
  ·subst him;refine Rr ho hg (Oper.wp_mono (fun a w h=>?_) hA);refine ⟨fun hn=>?_,fun j hj=>?_⟩
   ·have:=Ng (md:=.any) (m:=i+1) (by omega) (hsz2 i) hbk (λj hj=>by rw [hlk i j h1];by_cases hji:j=i<;>simp [hji];omega) (by rw [hlk i _ h1];simp);rw [hn] at this;cases this
   ·obtain ⟨h3,h4⟩:=Mh (hsz2 i) hj;rw [hlk i j h1] at h4;by_cases hji:j=i
    ·rw [Ak hji] at h4;cases h4
    ·rw [Af hji] at h4;simp at h4;obtain rfl:j=i+1:=by omega
     refine Rr ho' hg' (Oper.wp_mono (λa w h=>?_) h);refine hdone _ a w (by rw [Array.size_setIfInBounds];exact hsz2 i) (λl hl'=>?_) h;rw [Q6 (by rw [hsz2];omega),hlk i l h1];by_cases e1:l=i+1
     ·rw [Ak e1]
     ·rw [Af e1];by_cases e2:l=i
      ·rw [Ak e2]
      ·rw [Af e2];simp;omega
  ·obtain rfl:i=m+1:=by omega
   rcases hB with hB | hB
   ·exfalso;obtain ⟨_,oi,hoi,hdep⟩:=mem_ready.1 hi;unfold Bu at hB;rw [hoi] at hB;simp only [Option.map_some,Option.getD_some,Array.any_eq_true'] at hB;obtain ⟨e,he,hb⟩:=hB;simp only [Bool.and_eq_true,beq_iff_eq] at hb;have:=hdep e he hb.1;rw [hb.2,hlt] at this;simp at this
   ·refine Rr ho' hg' (Oper.wp_mono (fun a w h=>?_) hB);refine ⟨fun hn=>?_,fun j hj=>?_⟩
    ·have:=Ng (md:=.any) (m:=m) (by omega) (hsz2 (m+1)) hbk (λj hj=>by rw [hlk _ j h1,Af (by omega)];simp [hj]) (by rw [hlk _ _ h1,Af (by omega)];simp);rw [hn] at this;cases this
    ·obtain ⟨h3,h4⟩:=Mh (hsz2 (m+1)) hj;rw [hlk _ j h1] at h4;by_cases hji:j=m+1
     ·rw [Ak hji] at h4;cases h4
     ·rw [Af hji] at h4;simp at h4;obtain rfl:j=m:=by omega
      refine Rr ho hg (Oper.wp_mono (λa w h=>?_) h);refine hdone _ a w (by rw [Array.size_setIfInBounds];exact hsz2 _) (λl hl'=>?_) h;rw [Q6 (by rw [hsz2];omega),hlk _ l h1];by_cases e1:l=j
      ·rw [Ak e1]
      ·rw [Af e1];by_cases e2:l=j+1
       ·rw [Ak e2]
       ·rw [Af e2];simp;omega
theorem Vq {m:Nat}{V:Nat->Value->World->Prop}{a0:Act}{W:World}(hmono:∀ i v w w',Kept w w'->V i v w->V i v w')
 (hstep:∀ i o,i<m->ops[i]?=some o->∀ a w,Finds md ops m V a0 W i a w->Bo P ops Q V i o a w) :
 ∀ i o,i<m->ops[i]?=some o->∀ L u a w,Qc md ops m (λL u w=>Kept W w/\∀ j,j<m->L j=true->V j (u j) w) a0 L u i a w->Px P ops Q (λL u w=>Kept W w/\∀ j,j<m->L j=true->V j (u j) w) L u i o a w:=by
 intro i o hi ho L u a w F;obtain ⟨f1,f2⟩:=F.frame;have h:=hstep i o hi ho a w ⟨f1,F.defers,λj t h1 h2=>by rw [F.done j t h1 h2];exact f2 j (F.lt j (F.wait j h1)) (F.wait j h1),F.old⟩;have up:∀ (v:Value) (w':World),Kept w w'->V i v w'->Kept W w'/\∀ j,j<m->Fg L i true j=true->V j (Fg u i v j) w':=by
  intro v w' k hv;refine ⟨f1.trans k,λj hj hL=>?_⟩;by_cases e:j=i
  ·subst e;simpa [Fg] using hv
  ·have:L j=true:=by simpa [Fg,e] using hL
   have:=hmono j _ w w' k (f2 j hj this);simpa [Fg,e] using this
 unfold Bo at h;unfold Px;by_cases hw:Region.wanted o (yielded ops a.tmps)=true
 ·rw [Ak hw] at h ⊢;refine Oper.wp_mono (λa' w' q=>?_) h;obtain ⟨v,rfl,k,hv⟩:=q;exact ⟨v,rfl,up v w' k hv⟩
 ·rw [Af hw] at h ⊢;exact up undef w (Below.refl _ _) h
theorem dD {id m:Nat}{V:Nat->Value->World->Prop}{a0:Act}{W:World}(hm:P.follows .mixedOrders=true)
 (hsz:m=ops.size) (hap:Cg ops m=true) (hin:Dv ops m a0.tmps.size=true) (hbk:Er .any ops=true)
 (hmono:∀ i v w w',Kept w w'->V i v w->V i v w')
 (hstep:∀ i o,i<m->ops[i]?=some o->∀ a w,Finds .any ops m V a0 W i a w->Bo P ops Q V i o a w)
 (hend:∀ u w,Kept W w->(∀ i,i<m->V i (u i) w)->Q .normal (Bb ops (λ_=>true) u m a0) w) :
 (Code.region id ops true).wp P Q a0 W :=
 On (J:=λL u w=>Kept W w/\∀ j,j<m->L j=true->V j (u j) w) hm hsz hap hin hbk ⟨(Below.refl _ _).drew,λ_ _ h=>by cases h⟩ (Vq hmono hstep) (λu w L hL hJ=>hend u w hJ.1 λi hi=>hJ.2 i hi (hL i hi))
theorem aT {id m:Nat}{V:Nat->Value->World->Prop}{a0:Act}{W:World}{o:Oper}(hm:P.follows .mixedOrders=true)
 (hsz:m+1=ops.size) (ho:ops[m]?=some o) (hg:o.guard=none) (hap:Cg ops m=true) (hin:Dv ops m a0.tmps.size=true) (htl:L5 .any ops m=true) (hbk:Er .any ops=true)
 (hmono:∀ i v w w',Kept w w'->V i v w->V i v w')
 (hstep:∀ i o,i<m->ops[i]?=some o->∀ a w,Finds .any ops m V a0 W i a w->Bo P ops Q V i o a w)
 (hend:∀ u w,Kept W w->(∀ i,i<m->V i (u i) w)->o.wp P (Bb ops (λ_=>true) u m a0) w (Q .normal) Q) :
 (Code.region id ops true).wp P Q a0 W :=
 Y8 (J:=λL u w=>Kept W w/\∀ j,j<m->L j=true->V j (u j) w) hm hsz ho hg hap hin htl hbk ⟨(Below.refl _ _).drew,λ_ _ h=>by cases h⟩ (Vq hmono hstep) (λu w L hL hJ=>hend u w hJ.1 λi hi=>hJ.2 i hi (hL i hi))
theorem aU {id m:Nat}{V:Nat->Value->World->Prop}{a0:Act}{W:World}{o o':Oper}(hm:P.follows .mixedOrders=true)
 (hsz:m+2=ops.size) (ho:ops[m]?=some o) (hg:o.guard=none) (ho':ops[m+1]?=some o') (hg':o'.guard=none)
 (hap:Cg ops m=true) (hin:Dv ops m a0.tmps.size=true) (htl:L5 .any ops m=true) (hbk:Er .any ops=true)
 (hmono:∀ i v w w',Kept w w'->V i v w->V i v w')
 (hstep:∀ i o,i<m->ops[i]?=some o->∀ a w,Finds .any ops m V a0 W i a w->Bo P ops Q V i o a w)
 (hend:∀ u w,Kept W w->(∀ i,i<m->V i (u i) w)->o.wp P (Bb ops (λ_=>true) u m a0) w (λa w=>o'.wp P a w (Q .normal) Q) Q /\
   (Bu .any ops (m+1) m=true\/o'.wp P (Bb ops (λ_=>true) u m a0) w (λa w=>o.wp P a w (Q .normal) Q) Q)) :
 (Code.region id ops true).wp P Q a0 W :=
 Y9 (J:=λL u w=>Kept W w/\∀ j,j<m->L j=true->V j (u j) w) hm hsz ho hg ho' hg' hap hin htl hbk ⟨(Below.refl _ _).drew,λ_ _ h=>by cases h⟩ (Vq hmono hstep) (λu w L hL hJ=>hend u w hJ.1 λi hi=>hJ.2 i hi (hL i hi))
end
section
variable {P:Program} {ops:Array Oper} {Q:Exit->Act->World->Prop} {md:Region.Mode}
def Pw (P:Program) (ops:Array Oper) (Q:Exit->Act->World->Prop) (J:(Nat->Bool)->World->Prop) (V:Nat->Value->World->Prop) (L:Nat->Bool) (i:Nat) (o:Oper) (a:Act) (w:World):Prop :=
 if Region.wanted o (yielded ops a.tmps)=true then o.wp P a w (λa' w'=>∃ v,a'=a.put o.dst v/\(J (Fg L i true) w'/\∀ j,j≠i->∀ u,V j u w->V j u w')/\V i v w') Q else J (Fg L i true) w/\V i undef w
structure FindsG (md:Region.Mode) (ops:Array Oper) (m:Nat) (J:(Nat->Bool)->World->Prop) (V:Nat->Value->World->Prop) (a0:Act) (L:Nat->Bool) (i:Nat) (a:Act) (w:World):Prop where
 frame:J L w
 yet:L i=false
 wait:∀ j,Bu md ops i j=true->L j=true
 defers:a.defers=a0.defers
 done:∀ j t,Bu md ops i j=true->Ap ops j=some t->V j (a.tmps.getD t undef) w
 old:∀ t,G4 md ops m i t=true->a.tmps.getD t undef=a0.tmps.getD t undef
theorem aV {id m:Nat}{J:(Nat->Bool)->World->Prop}{V:Nat->Value->World->Prop}{a0:Act}{W:World}(hm:P.follows .mixedOrders=true)
 (hsz:m=ops.size) (hap:Cg ops m=true) (hin:Dv ops m a0.tmps.size=true) (hbk:Er .any ops=true)
 (hJ:J (λ_=>false) W.drew)
 (hstep:∀ i o,i<m->ops[i]?=some o->∀ L a w,FindsG .any ops m J V a0 L i a w->Pw P ops Q J V L i o a w)
 (hend:∀ u w L,(∀ i,i<m->L i=true)->J L w->(∀ i,i<m->V i (u i) w)->Q .normal (Bb ops (λ_=>true) u m a0) w) :
 (Code.region id ops true).wp P Q a0 W:=by
 refine On (m:=m) (J:=λL u w=>J L w/\∀ j,j<m->L j=true->V j (u j) w) hm hsz hap hin hbk ⟨hJ,λ_ _ h=>by cases h⟩ (λi o hi ho L u a w F=>?_) (λu w L hL hk=>hend u w L hL hk.1 (λi hi=>hk.2 i hi (hL i hi)));obtain ⟨f1,f2⟩:=F.frame;have h:=hstep i o hi ho L a w ⟨f1,F.yet,F.wait,F.defers,λj t h1 h2=>by rw [F.done j t h1 h2];exact f2 j (F.lt j (F.wait j h1)) (F.wait j h1),F.old⟩;have up:∀ (v:Value) (w':World),(∀ j,j≠i->∀ u,V j u w->V j u w')->V i v w'->∀ j,j<m->Fg L i true j=true->V j (Fg u i v j) w':=by
  intro v w' hs hv j hj hL;by_cases e:j=i
  ·subst e;simpa [Fg] using hv
  ·have:L j=true:=by simpa [Fg,e] using hL
   have:=hs j e _ (f2 j hj this);simpa [Fg,e] using this
 unfold Pw at h;unfold Px;by_cases hw:Region.wanted o (yielded ops a.tmps)=true
 ·rw [Ak hw] at h ⊢;refine Oper.wp_mono (λa' w' q=>?_) h;obtain ⟨v,rfl,⟨k1,k2⟩,hv⟩:=q;exact ⟨v,rfl,k1,up v w' k2 hv⟩
 ·rw [Af hw] at h ⊢;exact ⟨h.1,up undef w (λj _ u h=>h) h.2⟩
end
section
variable {P:Program} {md:Region.Mode} {ops:Array Oper} {Q:Exit->Act->World->Prop}
end
end Go.Proofs.YtabjjdicffcolaaGreatDoor
