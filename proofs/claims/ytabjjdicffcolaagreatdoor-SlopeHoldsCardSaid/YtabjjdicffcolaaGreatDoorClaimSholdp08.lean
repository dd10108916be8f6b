/- Words and contracts, part 8. -/
import Derived.Test.YtabjjdicffcolaaGreatDoorClaimSholdp07
import Derived.Deep.LoopGhost
import Derived.Defers
import Derived.Recover
import Derived.Orders
set_option maxRecDepth 100000
set_option maxHeartbeats 0
namespace Go.Proofs.YtabjjdicffcolaaGreatDoor
open Go.Lib (hid)
open Go.RowKit
variable {cap cs:Array Value} {xs:List Nat} {B K b b2 b3 base g i id k m n x:Nat} {o:Obj} {r:Raw} {T T' t:TypeId} {q s u v y z:Value} {a w w':World}
theorem Kept.ofDrewN (h:Kept (w.drewN n) w'):Kept w w':=⟨h.os,h.tape,h.output,h.size,h.block⟩
def RetQR (n m:Nat) (w:World) (e:Ending) (w':World):Prop :=
 ∃ v1 v2,e=.returned (.tuple #[v1,v2])∧Lim w' v1 (limbs (n/m))∧Lim w' v2 (limbs (n%m))∧Kept w w'
theorem Yt (hv:Lim w v (limbs n))(hu:Lim w u (limbs m))(hl:(limbs n).length≤100000)(hl':(limbs m).length≤100000)(hlt:n<m) :
 Calls Tryz.prog 175 #[v,u] w (RetQR n m w):=by
 have hord:=L3 hv hu (by omega) (by omega);have hcm:Du n m=-1:=by unfold Du;rw [if_pos hlt]
 rw [hcm] at hord;have e1:n/m=0:=Nat.div_eq_of_lt hlt;have e2:n%m=n:=Nat.mod_eq_of_lt hlt;have HO:=hid hord;have HV:=hid hv;have HE:=hid (And.intro e1 e2);clear hord hcm e1 e2 hv hu;have HL:=hid hl;clear hl hl' hlt;go_enter Tryz.func175,Tryz.ntmps175
 go_wp2_with (first
  | (go_at_call 113;refine HO.out.mono ?_;rintro e w1 ⟨rfl,q1,rfl⟩)
  | (go_at_call 81;refine (Vu (HV.out.drewN _) (by have:=HL.out;omega)).mono ?_;rintro e w1 ⟨v1,rfl,hv1,hk1⟩;have HV1:=hid hv1;have HK1:=hid hk1;clear hv1 hk1))
 refine bodyPost_ret (v:=.tuple #[.slice none 0 0,v1]) (by simp [results,Tryz.results175,go_sem]) rfl ⟨_,_,rfl,?_,?_,HK1.out.ofDrewN⟩
 ·rw [HE.out.1,Au];exact Lim.nil _ _ _
 ·rw [HE.out.2];exact HV1.out
theorem G4 (m:Nat)(h0:m≠0)(h:m<18446744073709551616):limbs m=[m]:=by
 rw [Bq m h0,Nat.mod_eq_of_lt h,Nat.div_eq_of_lt h,Au]
theorem Aa7 (hv:Lim w v (limbs n))(hu:Lim w u (limbs m))(hl:(limbs n).length≤100000)(h0:m≠0)(h1:m<18446744073709551616)(hge:m≤n) :
 Calls Tryz.prog 175 #[v,u] w (RetQR n m w):=by
 have hord:=L3 hv hu (by omega) (by rw [G4 m h0 h1];simp);have hcm:decide (Du n m<0)=false:=by unfold Du;rw [if_neg (by omega)];split<;>simp
 have HC:=hid hcm;have HO:=hid hord;have HV:=hid hv;rw [G4 m h0 h1] at hu;obtain ⟨_,A,c,rfl,hc,hA⟩:=hu;obtain ⟨b,off,rfl,hb,hcell⟩:=hA (by simp);have hcl:w.cell? ⟨b,off,none⟩=some (.int .u64 m):=hcell 0 (by simp);have hls:([m]:List Nat).length=1:=rfl;rw [hls] at hc ⊢;rw [hls] at HO;have HL:=hid hl;clear hord hcm hv hA hcell hl hls hge;generalize Du n m=cm at *;have hcm:=HC.out;go_enter Tryz.func175,Tryz.ntmps175
 go_wp2_with (first
  | (go_at_call 113;refine HO.out.mono ?_;rintro e w1 ⟨rfl,q1,rfl⟩)
  | (go_at_call 195;refine (Aef (HV.out.drewN _) m (by omega) h1 HL.out).mono ?_;rintro e w1 ⟨v1,v2,rfl,hv1,hv2,hk1⟩;have HV1:=hid hv1;have HV2:=hid hv2;have HK1:=hid hk1;clear hv1 hv2 hk1))
 refine bodyPost_ret (v:=.tuple #[v1,v2]) (by simp [results,Tryz.results175,go_sem]) rfl ⟨_,_,rfl,?_,?_,HK1.out.ofDrewN⟩
 ·have:=HV1.out;rwa [Bn] at this
 ·have:=HV2.out;rwa [Bn] at this
structure OnlyB (B g:Nat) (w w':World):Prop where
 os:w'.os=w.os
 tape:w'.tape=w.tape
 output:w'.output=w.output
 size:w.heap.size≤w'.heap.size
 block:∀ k,k<B→k≠g→w'.heap[k]?=w.heap[k]?
theorem OnlyB.refl (B g:Nat)(w:World):OnlyB B g w w:=⟨rfl,rfl,rfl,Nat.le_refl _,fun _ _ _=>rfl⟩
theorem OnlyB.only {b c:World}(h:OnlyB B g a b)(k:Only g b c):OnlyB B g a c :=
 ⟨k.os.trans h.os,k.tape.trans h.tape,k.output.trans h.output,by rw [k.size];exact h.size,fun i hi hne=>(k.block i hne).trans (h.block i hi hne)⟩
theorem OnlyB.setCell (h:OnlyB B g a w)(hx:B≤x)(k:Nat)(u:Value):OnlyB B g a (w.setCell ⟨x,k,none⟩ u) :=
 ⟨h.os,h.tape,h.output,by have:=h.size;simp [World.setCell];exact this,fun j hj hne=>(Below.heap_setCell w ⟨x,k,none⟩ u j (by simp only;omega)).trans (h.block j hj hne)⟩
theorem OnlyB.drewN (h:OnlyB B g a w)(n:Nat):OnlyB B g a (w.drewN n):=⟨h.os,h.tape,h.output,h.size,h.block⟩
theorem OnlyB.grown (h:a.grownBy w none)(hB:B≤a.heap.size):OnlyB B g a w:=⟨h.os,h.tape,h.output,h.size,fun k hk _=>h.block k (by omega) (by simp)⟩
theorem OnlyB.cell (h:OnlyB B g a w)(hb:b<B)(hg:b≠g):w.cell? ⟨b,k,none⟩=a.cell? ⟨b,k,none⟩:=World.cell?_of_block (h.block b hb hg)
theorem OnlyB.kept {b:World}(h:OnlyB B g b w)(k:Kept a b)(hg:a.heap.size≤g)(hB:a.heap.size≤B):Kept a w :=
 ⟨h.os.trans k.os,h.tape.trans k.tape,h.output.trans k.output,Nat.le_trans k.size h.size,fun j hj=>(h.block j (by omega) (by omega)).trans (k.block j hj)⟩
theorem Only.own (h:Only g a w){gq cap:Nat}(ho:Own a base (.slice (some ⟨gq,0,none⟩) n cap) xs)(hne:gq≠g):Own w base (.slice (some ⟨gq,0,none⟩) n cap) xs :=
 World.ownsRow.kept (row:=some g) ho ⟨h.os,h.tape,h.output,Nat.le_of_eq h.size.symm,fun k _ hk=>h.block k (fun e=>hk (by rw [e]))⟩ (Or.inr (by simp only [Value.ownBlock];intro e;exact hne (Option.some.inj e)))
theorem Po {cap:Nat}(ho:Own w base (.slice (some ⟨g,0,none⟩) n cap) xs)(hne:g≠x):Own (w.setCell ⟨x,k,none⟩ u) base (.slice (some ⟨g,0,none⟩) n cap) xs :=
 World.ownsRow.kept (row:=some x) ho ⟨rfl,rfl,rfl,by simp [World.setCell],fun j _ hj=>Below.heap_setCell w ⟨x,k,none⟩ u j (fun e=>hj (by rw [e]))⟩ (Or.inr (by simp only [Value.ownBlock];intro e;exact hne (Option.some.inj e)))
theorem Yu (hv:Lim w v (limbs n))(hu:Lim w u (limbs m))(hl:(limbs n).length≤50000)(h0:m≠0)(h2:2≤(limbs m).length)(hge:m≤n) :
 Calls Tryz.prog 175 #[v,u] w (RetQR n m w):=by
 have hll:(limbs m).length≤(limbs n).length:=by
  by_cases h:(limbs n).length<(limbs m).length
  ·have:=Ft n m h;omega
  ·omega
 have hord:=L3 hv hu (by omega) (by omega);have hcm:decide (Du n m<0)=false:=by unfold Du;rw [if_neg (by omega)];split<;>simp
 have HC:=hid hcm;have HO:=hid hord;have hv':=hv;have hu':=hu;obtain ⟨_,A',c',rfl,hc',hA'⟩:=hv;obtain ⟨_,A,c,rfl,hc,hA⟩:=hu;obtain ⟨b,off,rfl,hb,hcell⟩:=hA (by omega);have hck:=hcell ((limbs m).length-1) (by omega);have hnd:=Wm m h0;have hb64:=O7 _ (Dp m ((limbs m).length-1));have hb0:=Cr _ (Js m h0);have hlz:∀ w,Calls Tryz.prog 160 #[.int .u64 (nth (limbs m) ((limbs m).length-1))] w (RetQ (.int .i64 ((64-bl (nth (limbs m) ((limbs m).length-1)):Nat):Int)) w):=by
  intro w;refine (Alp _ w (Dp m _)).mono ?_;rintro e w' ⟨rfl,rfl⟩;exact ⟨F8 (by omega),0,rfl⟩
 have htop:nth (limbs m) ((limbs m).length-1)<18446744073709551616:=Dp m _;have HLZ:=hid hlz;have HND:=hid hnd;have HV:=hid hv';have HU:=hid hu';clear hord hcm hv' hu' hA hA' hcell hlz hnd hge;generalize hs:64-bl (nth (limbs m) ((limbs m).length-1))=s at *;have hs64:s<64:=by omega
 clear hs hb64 hb0;generalize nth (limbs m) ((limbs m).length-1)=tp at *;generalize hl1:(limbs n).length=l1 at *;generalize hl2:(limbs m).length=l2 at *;have HL1:=hid hl1;have HL2:=hid hl2;clear hl1 hl2;obtain ⟨l,rfl⟩:∃ l,l2=l+2:=⟨l2-2,by omega⟩;have hlb:(limbs (m*2^s)).length≤l+2:=Cv _ _ HND.out.1;have hla:(limbs (n*2^s)).length≤l1+1:=by
  refine Cv _ _ ?_;have a:=Ce n;rw [HL1.out] at a;rw [Nat.pow_succ];have b:2^s≤18446744073709551616:=by
   have:2^s≤2^64:=Nat.pow_le_pow_right (by decide) (by omega);exact this
  exact Nat.lt_of_lt_of_le (Nat.mul_lt_mul_of_pos_right a (Nat.pow_pos (by decide))) (Nat.mul_le_mul_left _ b)
 have HLB:=hid hlb;have HLA:=hid hla;clear hlb hla;rw [show l+2-1=l+1 by omega] at hck;have e1:((l:Int)+2==1)=false:=by rw [beq_eq_false_iff_ne];omega
 generalize Du n m=cm at *;have hcm:=HC.out;obtain ⟨i0,hi,hz0,hz1,hz2⟩:=info_parts Na;go_enter Tryz.func175,Tryz.ntmps175
 go_wp2_with (go_at_call 113;refine HO.out.mono ?_;rintro e w1 ⟨rfl,q1,rfl⟩)
 refine (HLZ.out _).mono ?_;rintro e w' ⟨rfl,q2,rfl⟩;go_wp2_with fail;refine (Mq (m:=m) (by exact HU.out) s (by rw [HL2.out];omega) (by omega)).mono ?_;rintro e w1 ⟨vb,rfl,hvb,hk1⟩;have HVB:=hid hvb;have HK1:Hid (Kept w w1):=hk1.ofDrewN;clear hvb hk1;go_wp2_with fail;refine (Yl HVB.out (l+2) HLB.out (by omega)).mono ?_;rintro e w2 ⟨vv,rfl,hov,hk2⟩;have HOV:=hid hov;have HK2:Hid (Kept w w2):=HK1.out.trans hk2;have HS2:Hid (w1.heap.size≤w2.heap.size):=hk2.size;clear hov hk2;go_wp2_with fail;refine (Mq (m:=n) (HV.out.kept HK2.out) s (by rw [HL1.out];omega) (by omega)).mono ?_;rintro e w3 ⟨va,rfl,hva,hk3⟩
 have HVA:=hid hva;have HK3:=hid hk3;clear hva hk3;go_wp2_with fail;refine (Yl HVA.out (l1+1) HLA.out (by omega)).mono ?_;rintro e w4 ⟨vu,rfl,hou,hk4⟩;have HOU:=hid hou;have HK4:=hid hk4;clear hou hk4
 -- the two rows, the quotient's row
 have hlv:(limbs (m*2^s)++List.replicate (l+2-(limbs (m*2^s)).length) 0).length=l+2:=by
  rw [List.length_append,List.length_replicate];have:=HLB.out;omega
 have hlu:(limbs (n*2^s)++List.replicate (l1+1-(limbs (n*2^s)).length) 0).length=l1+1:=by
  rw [List.length_append,List.length_replicate];have:=HLA.out;omega
 have hvv:=Ac3 (m*2^s) (l+2-(limbs (m*2^s)).length);have hvu:=Ac3 (n*2^s) (l1+1-(limbs (n*2^s)).length);have hsv:=Vc (m*2^s) (l+2-(limbs (m*2^s)).length);have hsu:=Vc (n*2^s) (l1+1-(limbs (n*2^s)).length);generalize limbs (m*2^s)++List.replicate (l+2-(limbs (m*2^s)).length) 0=vs at *;generalize limbs (n*2^s)++List.replicate (l1+1-(limbs (n*2^s)).length) 0=us0 at *;obtain ⟨gv,cv,rfl,hgv1,hgv2,hcv⟩:=HOV.out.shape (by rw [hlv];omega);obtain ⟨gu,cu,rfl,hgu1,hgu2,hcu⟩:=HOU.out.shape (by rw [hlu];omega);have htop2:=Aho vs hsv (l+2) hlv (by omega) (by rw [hvv];exact HND.out.2)
 have hVc:∀ i,i<l+2→w2.cell? ⟨gv,i,none⟩=some (.int .u64 (nth vs i)):=fun i hi=>HOV.out.cell i (by rw [hlv];exact hi)
 have hk24:Below w2.heap.size w2 w4:=HK3.out.trans HK4.out;have hVc4:∀ i,i<l+2→w4.cell? ⟨gv,i,none⟩=some (.int .u64 (nth vs i)):=fun i hi=>(hk24.cell (p:=⟨gv,i,none⟩) hgv2).trans (hVc i hi)
 have hsz:=HK3.out.size;have hne:gv≠gu:=by omega
 have hgv4:gv<w4.heap.size:=by have:=hk24.size;omega
 have hK4:Kept w w4:=HK2.out.trans hk24;have hwgu:w.heap.size≤gu:=by have:=HK2.out.size;omega
 rw [hlu] at hcu HOU;rw [hlv] at hcv;have HVC:=hid hVc4;have HKW:=hid hK4;have HOU':=hid HOU.out;have HVS:=hid (And.intro hsv (And.intro hlv (And.intro hvv htop2)));have HUS:=hid (And.intro hsu (And.intro hlu hvu));have HW:=hid (And.intro hwgu (And.intro hgu2 (And.intro hgv4 hne)));clear hlv hlu hvv hvu hsv hsu htop2 hVc hk24 hVc4 hsz hK4 HOV HOU HVB HVA HK1 HK2 HK3 HK4 HS2 hgv1 hgv2 hgu1 hwgu;rw [HVS.out.2.1,HUS.out.2.1];obtain ⟨d,rfl⟩:∃ d,l1=l+2+d:=⟨l1-(l+2),by omega⟩
 go_wp2_with (at_make;go_must (refine wpList_make_full _ rfl _ _ 26 rfl w4.heap.size 55 i0 (.int .u64 0) 1 Tryz.underlying26 hi hz0 hz1 .i64 .i64 _ _ (d+1) rfl rfl (by omega) (by omega) (by rw [hz2];omega) (by unfold maxLen;omega) (Nat.le_refl _) ?_))
 intro w5 hown5 hgrow5;have hq5:Own w5 w4.heap.size (.slice (some ⟨w4.heap.size,0,none⟩) (d+1) (d+1)) (List.replicate (d+1) 0):=Jw hown5;have hB5:OnlyB w4.heap.size gu w4 w5:=OnlyB.grown hgrow5 (Nat.le_refl _);have hu5:Own w5 w3.heap.size (.slice (some ⟨gu,0,none⟩) (l+2+d+1) cu) us0:=World.ownsRow.kept (row:=none) HOU'.out hgrow5 (Or.inr (by simp [Value.ownBlock]));have hst:=LongInv.start n m s us0 vs l d HUS.out.1 HUS.out.2.1 HUS.out.2.2 h0 HL2.out HL1.out HVS.out.2.2.1;have HQ5:=hid hq5;have HB5:=hid hB5;have HU5:=hid hu5;have HST:=hid hst;have hqne:w4.heap.size≠gu:=by have:=HW.out.2.1;omega
 have HQN:=hid hqne;clear hown5 hgrow5 hq5 hB5 hu5 hst hqne HOU';go_wp2_with fail;have HN:Hid ((n*2^s)/(m*2^s)=n/m∧(n*2^s)%(m*2^s)/2^s=n%m):=⟨Nat.mul_div_mul_right _ _ (Nat.pow_pos (by decide)),by rw [Nat.mul_mod_mul_right,Nat.mul_div_cancel _ (Nat.pow_pos (by decide))]⟩
 go_loopw [11] (fun t wr=>∃ (k:Nat) (us qs:List Nat),k≤d+1∧t=.int .i64 ((k:Int)-1)∧Own wr w3.heap.size (.slice (some ⟨gu,0,none⟩) (l+2+d+1) cu) us∧Own wr w4.heap.size (.slice (some ⟨w4.heap.size,0,none⟩) (d+1) (d+1)) qs∧qs.length=d+1∧LongInv (n*2^s) (val vs) (l+2) us qs k∧OnlyB w4.heap.size gu w4 wr) (fun t _=>(intOf t+1).toNat)
 case atStart=>exact ⟨d+1,us0,_,Nat.le_refl _,congrArg (Value.int .i64) (by omega),HU5.out,HQ5.out,by simp,HST.out,HB5.out⟩
 case round =>
  obtain ⟨k,us,qs,hkd,rfl,hu,hq,hql,hinv,hB⟩:=hrel;have HUS2:=hid hu;have HQS:=hid hq;have HQL:=hid hql;have HI:=hid hinv;have HB:=hid hB;have hul:=hinv.lens;rw [hql] at hul;have HUL:=hid hul;clear hu hq hql hinv hB hul HST HU5 HQ5 HB5;cases k with
  | succ j =>
    have hwin:=HI.out.window (vs:=vs) (by rw [HQL.out];omega) (by omega) rfl HVS.out.2.1 HVS.out.1 HVS.out.2.2.2;have hnext:=fun wl'=>HI.out.next (vs:=vs) (wl':=wl') (by rw [HQL.out];omega) rfl hwin.2 hwin.1.qlt hwin.1.vpos
    have hql':=hwin.1.qlt;have htl:(us.take j).length=j:=by rw [List.length_take,HUL.out];omega
    have hW:Win wr w3.heap.size gu (l+2+d+1) cu (us.take j) ((us.drop j).take (l+2+1)) (us.drop (j+(l+2+1))):=by
     unfold Win;rw [←Q7];exact HUS2.out
    have hdig:=Aif (gv:=gv) (cv:=cv) (c:=cu-j) hwin.1 (by omega) (by rw [htl];omega) hW (by omega) hcv HW.out.2.2.2 (fun i hi=>(HB.out.cell HW.out.2.2.1 HW.out.2.2.2).trans (HVC.out i hi));rw [htl] at hdig;have HDG:=hid hdig;have HNX:=hid hnext;clear hdig hnext hwin hW htl;generalize (us.drop j).take (l+2+1)=wl at *;go_wp2_with fail;rw [show j+(l+2)+1-j=l+2+1 by omega];refine HDG.out.mono ?_;rintro e w6 ⟨rfl,wl',hl',hs',hv',hW',hOn⟩;have hinv':=HNX.out wl' hl' hs' hv';have hq6:=hOn.own HQS.out HQN.out;have hB6:=HB.out.only hOn;have hu6:Own w6 w3.heap.size (.slice (some ⟨gu,0,none⟩) (l+2+d+1) cu) (us.take j++(wl'++us.drop (j+(l+2+1)))):=hW'
    have hqf:=hq6.frozen j;have hqc:=hq6.cell j (by rw [HQL.out];omega);have HI':=hid hinv';have HQ6:=hid hq6;have HB6:=hid hB6;have HU6:=hid hu6;clear hinv' hq6 hB6 hu6 hl' hs' hv' hW' hOn HDG HNX HI HB HUS2 HQS;generalize val wl/val vs=qd at *;generalize nth qs j=y at *;go_wp2_with fail;go_roundw
    case rel=>exact ⟨j,_,qs.set j qd,by omega,by go_num,Po HU6.out HQN.out.symm,HQ6.out.stored _ _,by rw [List.length_set];exact HQL.out,HI'.out,HB6.out.setCell (Nat.le_refl _) _ _⟩
    case measure=>simp [intOf]
  | zero =>
    have hfin:=HI.out.finish;rw [HVS.out.2.2.1,HN.out.1] at hfin;have hlimq:=HQS.out.lim HI.out.qs_small;have hlow:=HI.out.low;rw [List.drop_zero] at hlow;have hvlt:=Ev vs HVS.out.1;rw [HVS.out.2.1] at hvlt;have htk:=Aej us HI.out.us_small (l+2) (by rw [HUL.out];omega) (by omega);have hlimu:=(HUS2.out.lim HI.out.us_small).take (l+2) (by rw [HUL.out];omega);have hKf:=HB.out.kept HKW.out (by have:=HW.out.1;omega) HKW.out.size;have HLQ:=hid hlimq;have HLU:=hid hlimu;have HF:=hid (And.intro hfin htk);have HKF:=hid hKf;clear hfin hlimq hlow hvlt htk hlimu hKf;go_wp2_with fail
    go_region_with (first
     | (go_at_call_of 82 (some (Addr.mk w4.heap.size 0 none));refine (Id (xs:=qs) (by exact HLQ.out) (by rw [HQL.out];omega)).mono ?_;rintro e w6 ⟨vq,rfl,hvq,rfl⟩;have HVQ:=hid hvq;clear hvq)
     | (go_at_call_of 82 (some (Addr.mk gu 0 none));refine (Id (xs:=us.take (l+2)) (by exact HLU.out) (by rw [List.length_take];omega)).mono ?_;rintro e w6 ⟨vt,rfl,hvt,rfl⟩;have HVT:=hid hvt;clear hvt)
     | (go_at_call 117;refine (Rp (m:=val (us.take (l+2))) (by exact HVT.out) s (by have:=Ku (us.take (l+2)) (D3 HI.out.us_small _);rw [List.length_take] at this;omega) (by omega)).mono ?_;rintro e w7 ⟨vr,rfl,hvr,hk7⟩;have HVR:=hid hvr;have HK7:=hid hk7;clear hvr hk7))
    all_goals
     go_wp2_with fail;refine bodyPost_ret (v:=.tuple #[vq,vr]) (by simp [results,Tryz.results175,go_sem]) rfl ⟨vq,vr,rfl,?_,?_,?_⟩
     ·rw [←HF.out.1.1];exact HVQ.out.kept ⟨HK7.out.os,HK7.out.tape,HK7.out.output,HK7.out.size,HK7.out.block⟩
     ·rw [←HN.out.2,←HF.out.1.2,←HF.out.2];exact HVR.out
     ·exact HKF.out.trans ⟨HK7.out.os,HK7.out.tape,HK7.out.output,HK7.out.size,HK7.out.block⟩
theorem Ys (hv:Lim w v (limbs n))(hu:Lim w u (limbs m))(hl:(limbs n).length≤50000)(hl':(limbs m).length≤50000)(h0:m≠0) :
 Calls Tryz.prog 175 #[v,u] w (RetQR n m w):=by
 by_cases hlt:n<m
 ·exact Yt hv hu (by omega) (by omega) hlt
 ·by_cases h1:m<18446744073709551616
  ·exact Aa7 hv hu (by omega) h0 h1 (by omega)
  ·exact Yu hv hu hl h0 (Rb m 1 (by simpa using h1)) (by omega)
theorem Eh {a:Nat}(h:a≤b):(limbs a).length≤(limbs b).length:=Cv a _ (Nat.lt_of_le_of_lt h (Ce b))
theorem Qe (a b k:Nat)(ha:(limbs a).length≤k)(hb:(limbs b).length≤k):(limbs (a+b)).length≤k+1:=by
 refine Cv _ _ ?_;have c:∀ x,(limbs x).length≤k→x<18446744073709551616^k:=fun x hx=>Nat.lt_of_lt_of_le (Ce x) (Nat.pow_le_pow_right (by decide) hx)
 have d:=c a ha;have e:=c b hb;rw [Nat.pow_succ];omega
theorem Ahe (hv:Lim w v (limbs n))(hl:(limbs n).length≤20000) :
 Calls Tryz.prog 183 #[v] w (RetLim (limbs (isq n)) w):=by
 by_cases h0:n=0
 ·subst h0;rw [Au] at *;have e:isq 0=0:=rfl;rw [e,Au];obtain ⟨hs,A,c,rfl,hc,hA⟩:=hv;clear hs hA hc hl;refine Calls.mono (R:=fun e w'=>e=.returned (.slice none 0 0)∧w=w') ?_ (fun e w' ⟨he,hw⟩=>by subst hw;exact ⟨_,he,Lim.nil _ _ _,Below.refl _ _⟩);have e0:(((([]:List Nat).length:Nat):Int)==0)=true:=rfl;go_enter Tryz.func183,Tryz.ntmps183;go_wp2_with fail;go_ret;exact ⟨rfl,rfl⟩
 ·have hv':=hv;obtain ⟨hs,A,c,rfl,hc,hA⟩:=hv;have hp:=Bc n h0;have hk0:Kept w (w.alloc (.cells #[.int .u64 1] 55)):=(Below.refl _ _).alloc (Nat.le_refl _) _;have hsz:=L7 (hv'.kept hk0) (by omega);have hone:Lim (w.alloc (.cells #[.int .u64 1] 55)) (.slice (some ⟨w.heap.size,0,none⟩) 1 1) [1]:=Wf (by omega) (by simp) (by simp [go_sem]) 1 (Nat.le_refl _);rw [←G4 1 (by decide) (by decide)] at hone;have hblb:bl n≤64*(limbs n).length:=by
   have a:=Rx n h0;have b:=O7 _ (Dp n ((limbs n).length-1));omega
  have HV:=hid hv';have HSZ:=hid hsz;have HONE:=hid hone;have HK0:=hid hk0;clear hs hA hv' hsz hone hk0;have HISQ:Hid (isq n=Q9 n (2^((bl n+1)/2)) (2^((bl n+1)/2))):=by show isq n=_;unfold isq;rw [if_neg h0]
  generalize hll:(limbs n).length=l at *;have HL:=hid hll;clear hll;have e0:(((l:Nat):Int)==0)=false:=by rw [beq_eq_false_iff_ne];omega
  have hbl2:(bl n+1)/2≤32*l+1:=by omega
  have HX0:Hid ((limbs (2^((bl n+1)/2))).length≤l+1):=by
   refine Cv _ _ ?_;have e:(18446744073709551616:Nat)=2^64:=by decide
   rw [e,←Nat.pow_mul];exact Nat.pow_lt_pow_right (by decide) (by omega)
  have hdiv:((bl n:Int)+1)/2=(((bl n+1)/2:Nat):Int):=by omega
  have hpos:0<2^((bl n+1)/2):=Nat.pow_pos (by decide);have HPOS:=hid hpos;generalize (bl n+1)/2=h at *;generalize bl n=bn at *;clear hpos;go_enter Tryz.func183,Tryz.ntmps183
  go_wp2_with (go_at_call 112;refine HSZ.out.mono ?_;rintro e w1 ⟨rfl,q1,rfl⟩)
  go_wp2_with fail;refine (Mq (m:=1) (by exact HONE.out) h (by rw [G4 1 (by decide) (by decide)];simp) (by omega)).mono ?_;rintro e w1 ⟨vx,rfl,hvx,hk1⟩;rw [Nat.one_mul] at hvx;have HVX:=hid hvx;have HK1:Hid (Kept w w1):=HK0.out.trans hk1.ofDrewN;clear hvx hk1;go_wp2_with fail
  go_loopg [3] (2^h) (fun f vx wr=>∃ x,Lim wr vx (limbs x)∧0<x∧x≤f∧Q9 n f x=isq n∧(limbs x).length≤l+1∧Kept w wr)
  case atStart=>exact ⟨2^h,HVX.out,HPOS.out,Nat.le_refl _,HISQ.out.symm,HX0.out,HK1.out⟩
  case round =>
   obtain ⟨x,hlx,hx0,hxf,hsp,hlen,hk⟩:=hrel;have HLX:=hid hlx;have HSP:=hid hsp;have HLEN:=hid hlen;have HK:=hid hk;clear hlx hsp hlen hk HVX HK1 HX0 HPOS HISQ;have HQL:Hid ((limbs (n/x)).length≤l):=by
    have:=Eh (Nat.div_le_self n x);rw [HL.out] at this;exact this
   go_wp2_with fail;refine (Ys (HV.out.kept HK.out) HLX.out (by rw [HL.out];omega) (by have:=HLEN.out;omega) (by omega)).mono ?_;rintro e w2 ⟨vq,vr,rfl,hvq,_,hk2⟩;have HVQ:=hid hvq;have HK2:=hid hk2;clear hvq hk2;go_wp2_with fail;refine (Aa4 (HLX.out.kept HK2.out) HVQ.out (by have:=HLEN.out;omega) (by have:=HQL.out;omega)).mono ?_;rintro e w3 ⟨vp,rfl,hvp,hk3⟩;have HVP:=hid hvp;have HK3:=hid hk3;clear hvp hk3;have HPL:=hid (Qe x (n/x) (l+1) HLEN.out (Nat.le_trans HQL.out (by omega)));go_wp2_with fail;refine (Rp (n:=1) HVP.out (by have:=HPL.out;omega) (by omega)).mono ?_
   rintro e w4 ⟨vy,rfl,hvy,hk4⟩;rw [Nat.pow_one] at hvy;have HVY:=hid hvy;have HK4:=hid hk4;have HXW:=hid (((HLX.out.kept HK2.out).kept HK3.out).kept hk4);have HYL:Hid ((limbs ((x+n/x)/2)).length≤l+2):=Nat.le_trans (Eh (Nat.div_le_self _ _)) HPL.out;have HKW:=hid (((HK.out.trans HK2.out).trans HK3.out).trans hk4);clear hvy hk4;have hord:=L3 HVY.out HXW.out (by have:=HYL.out;omega) (by have:=HLEN.out;omega);have HO:=hid hord;clear hord;by_cases hd:x≤(x+n/x)/2
   ·have hge:decide ((0:Int)≤Du ((x+n/x)/2) x)=true:=by
     unfold Du;rw [if_neg (by omega)];split<;>simp
    have HFIN:Hid (x=isq n):=by
     have:=HSP.out;obtain ⟨f,rfl⟩:∃ f,gk=f+1:=⟨gk-1,by omega⟩;unfold Q9 at this;rwa [if_pos hd] at this
    clear hd;generalize Du ((x+n/x)/2) x=cc at *
    go_wp2_with (go_at_call 113;refine HO.out.mono ?_;rintro e w5 ⟨rfl,q5,rfl⟩)
    go_ret;exact ⟨_,rfl,by rw [←HFIN.out];exact HXW.out,HKW.out.drewN _⟩
   ·have hlt:decide ((0:Int)≤Du ((x+n/x)/2) x)=false:=by
     unfold Du;rw [if_pos (by omega)];simp
    have HNXT:Hid (Q9 n (gk-1) ((x+n/x)/2)=isq n):=by
     have:=HSP.out;obtain ⟨f,rfl⟩:∃ f,gk=f+1:=⟨gk-1,by omega⟩;unfold Q9 at this;rwa [if_neg hd] at this
    have HYP:=hid (Zj n x hx0 (Nat.pos_of_ne_zero h0));have HLT:Hid ((x+n/x)/2<x):=Nat.lt_of_not_le hd;clear hd;generalize Du ((x+n/x)/2) x=cc at *;generalize (x+n/x)/2=y at *
    go_wp2_with (go_at_call 113;refine HO.out.mono ?_;rintro e w5 ⟨rfl,q5,rfl⟩)
    go_roundg (gk-1)
    case measure=>omega
    case rel=>exact ⟨y,HVY.out,HYP.out,by have:=HLT.out;omega,HNXT.out,Nat.le_trans (Eh (Nat.le_of_lt HLT.out)) HLEN.out,HKW.out.drewN _⟩
def DyR (w:World) (v:Value) (r:Raw):Prop:=∃ s,v=.agg #[.bool r.neg,s,.int .i64 r.e]∧Lim w s r.m∧-9223372036854775808≤r.e∧r.e≤9223372036854775807
theorem DyR.kept (h:DyR w v r)(k:Kept w w'):DyR w' v r:=by
 obtain ⟨s,rfl,hs,h1,h2⟩:=h;exact ⟨s,rfl,hs.kept k,h1,h2⟩
theorem DyR.drewN (h:DyR w v r)(n:Nat):DyR (w.drewN n) v r:=h
def Dc (T:TypeId) (k:Int):List PanicEntry:=[{ v:=.iface T (.agg #[.int .i64 k]),recovered:=false }]
theorem Aje (k:Int)(w:World):Calls Tryz.prog 118 #[.bool true,.int .i64 k] w fun e w'=>e=.returned (.tuple #[])∧w=w':=by
 go_enter Tryz.func118,Tryz.ntmps118;go_wp2
 go_end0
 exact ⟨rfl,rfl⟩
theorem Agh (k:Int)(w:World):Calls Tryz.prog 118 #[.bool false,.int .i64 k] w fun e w'=>e=.panicked (Dc 129 k)∧w=w':=by
 go_enter Tryz.func118,Tryz.ntmps118;go_wp2;exact ⟨rfl,rfl,rfl⟩
def RetK (v:Value) (w:World) (e:Ending) (w':World):Prop:=e=.returned v∧Kept w w'
theorem RetK.mk (h:Kept w w'):RetK v w (.returned v) w':=⟨rfl,h⟩
theorem Ms (hv:DyR w v r)(hl:r.m.length≤17592186044416) :
 Calls Tryz.prog 53 #[v] w (RetK (.bool (Ew r)) w):=by
 obtain ⟨neg,m,e⟩:=r;obtain ⟨s,rfl,hs,h1,h2⟩:=hv;simp only at hs h1 h2 hl ⊢;have hm:=fun w1 (k:Kept w w1)=>Als (hs.kept k) hl
 obtain ⟨hsm,A,c,rfl,hc,hA⟩:=hs;unfold Ew;simp only;by_cases h0:m.length=0
 ·rw [if_pos h0];clear hsm hA hm;rw [h0];have HL:=hid h0;clear h0 hl hc
  cases neg<;>(
   go_enter Tryz.func53,Tryz.ntmps53;go_wp2_with fail;go_ret;exact ⟨rfl,(Below.refl _ _).alloc (Nat.le_refl _) _⟩)
 ·rw [if_neg h0];obtain ⟨b,off,rfl,hb,hcell⟩:=hA (by omega);have hc0:=hcell 0 (by omega);have hlt0:=nth_lt hsm 0;have e0:(((m.length:Nat):Int)==0)=false:=by rw [beq_eq_false_iff_ne];omega
  have HM:=hid hm;have hl0:0<m.length:=by omega
  clear hcell hA hsm hm h0;have eand:bits .and .u64 ((nth m 0:Nat):Int) 1=((nth m 0%2:Nat):Int):=by
   have h:=bits_and_u64_nat (nth m 0) 1 hlt0 (by omega);rw [Nat.and_one_is_mod] at h;exact h
  rw [Nat.add_zero] at hc0;generalize nth m 0=x at *;generalize m.length=l at *;generalize Nx m=bm at *;cases bm
  ·rw [Bool.false_and,Bool.false_and,Bool.false_and];go_enter Tryz.func53,Tryz.ntmps53
   go_wp2_with (go_at_call 90;refine (HM.out _ ((Below.refl _ _).alloc (Nat.le_refl _) _)).mono ?_;rintro e w1 ⟨rfl,q,rfl⟩)
   go_ret;exact ⟨rfl,below_drewN ((Below.refl _ _).alloc (Nat.le_refl _) _) _⟩
  ·rw [Bool.true_and];by_cases h3:x%2=1
   ·have d3:(x%2==1)=true:=by simp [h3]
    rw [d3,Bool.true_and];clear d3;rw [h3] at eand;have eand1:bits .and .u64 ((x:Nat):Int) 1=1:=eand;clear h3 eand;by_cases h4:-1048576≤e
    ·have d4:decide (-1048576≤e)=true:=by simp [h4]
     rw [d4,Bool.true_and];have d5:decide (e≤1048576)=true∨decide (e≤1048576)=false:=Bl _
     rcases d5 with d5 | d5<;>(
      rw [d5];go_enter Tryz.func53,Tryz.ntmps53
      go_wp2_with (go_at_call 90;refine (HM.out _ ((Below.refl _ _).alloc (Nat.le_refl _) _)).mono ?_;rintro e w1 ⟨rfl,q,rfl⟩)
      go_ret;exact ⟨rfl,below_drewN ((Below.refl _ _).alloc (Nat.le_refl _) _) _⟩)
    ·have d4:decide (-1048576≤e)=false:=by simp [h4]
     rw [d4,Bool.false_and];go_enter Tryz.func53,Tryz.ntmps53
     go_wp2_with (go_at_call 90;refine (HM.out _ ((Below.refl _ _).alloc (Nat.le_refl _) _)).mono ?_;rintro e w1 ⟨rfl,q,rfl⟩)
     go_ret;exact ⟨rfl,below_drewN ((Below.refl _ _).alloc (Nat.le_refl _) _) _⟩
   ·have h3':x%2=0:=by omega
    have d3:(x%2==1)=false:=by simp [h3]
    rw [d3,Bool.false_and,Bool.false_and];rw [h3'] at eand;have eand1:bits .and .u64 ((x:Nat):Int) 1=0:=eand;clear d3 h3 h3' eand;go_enter Tryz.func53,Tryz.ntmps53
    go_wp2_with (go_at_call 90;refine (HM.out _ ((Below.refl _ _).alloc (Nat.le_refl _) _)).mono ?_;rintro e w1 ⟨rfl,q,rfl⟩)
    go_ret;exact ⟨rfl,below_drewN ((Below.refl _ _).alloc (Nat.le_refl _) _) _⟩
theorem Ho:∀ (fn:Fn) (first cap:Array Value) (w:World),(Instr.makeFunc fn first cap).run Tryz.prog w=.ok (.func fn first cap) w:=fun _ _ _ _=>rfl
theorem Ga {P:Program}{Q:Exit→Act→List Frame→World→Prop}{a:Act}{cs cs':List Frame}{o:Oper}{l:List Oper}{y:Code}
 (ho:o.guard=none) (hr:(execOp a.eval o).run P w=.ok .recover w')
 (hc:(match recoverD cs with | some (v',cs'')=>v'=v∧cs''=cs' | none=>v=.nilIface∧cs'=cs))
 (h:wpList P (o::l).toArray (Exit.then (y.wp P (fun e a w=>Q e a cs' w)) (fun e a w=>Q e a cs' w)) l (a.put o.dst v) w') :
 (Code.seq (.region id (o::l).toArray false) y).wpS P Q a cs w:=by
 apply wpS_seq;intro b k hb _;have h1:wpOps P (o::l).toArray (Exit.then (y.wp P (fun e a w=>Q e a cs' w)) (fun e a w=>Q e a cs' w)) (List.range' 1 l.length) (a.put o.dst v) w':=by
  rw [wpOps_eq_wpList l 1 (by intro j;simp [Nat.add_comm 1 j])];exact h
 obtain ⟨e,a',w'',hq,harr⟩:=wp_ops _ _ _ h1 b k cs';have hw:Region.wanted o (yielded (o::l).toArray a.tmps)=true:=by simp [Region.wanted,ho]
 have hi:(o::l).toArray[0]?=some o:=by simp
 have hg:=stepG_op (P:=P) (b:=b) (k:=k) (cs:=cs) (w:=w) (rest:=List.range' 1 l.length) hi hw;have hfin:(b.at a (.inRegion (o::l).toArray (0::List.range' 1 l.length)::k)).finish v=b.at (a.put o.dst v) (.inRegion (o::l).toArray (List.range' 1 l.length)::k):=by
  rw [Frame.finish_at,hi];rfl
 have htr:=tryRecover_deferred (fr:=b.at a (.inRegion (o::l).toArray (0::List.range' 1 l.length)::k)) hb cs;have hstep:step P (lone (b.at a (.inRegion (o::l).toArray (0::List.range' 1 l.length)::k)) cs w)=.next (lone (b.at (a.put o.dst v) (.inRegion (o::l).toArray (List.range' 1 l.length)::k)) cs' w'):=by
  refine step_lone_go ?_;rw [hg,←hfin];cases hrec:recoverD cs with
  | none =>
    rw [hrec] at hc htr;obtain ⟨rfl,rfl⟩:=hc;simp only [Frame.at] at htr ⊢;simp [stepG.apply,hr,htr]
  | some p =>
    obtain ⟨v1,cs1⟩:=p;rw [hrec] at hc htr;obtain ⟨rfl,rfl⟩:=hc;simp only [Frame.at] at htr ⊢;simp [stepG.apply,hr,htr]
 refine ⟨e,a',cs',w'',?_,.of_steps (.head step_region (.one (by rw [List.range_eq_range',List.size_toArray,List.length_cons,List.range'_succ];exact hstep))) harr⟩;cases e<;>first | exact hq | exact wpS_of_wp hq
theorem Ae (h:w.heap[b]?=some (.cells cs t (0,0)))(i:Nat)(v:Value)(hi:cs[i]?=some v) :
 w.cell? ⟨b,i,none⟩=some v:=by
 simp [World.cell?,h,hi]
theorem Ap (h:w.heap[b]?=some (.cells cs t (0,0)))(i:Nat) :
 w.frozen? ⟨b,i,none⟩=false:=by
 simp [World.frozen?,h]
def Abr (w:World) (b2 b3:Nat) (T:TypeId) (k:Int):World :=
 ((((w.setCell ⟨b2,0,none⟩ (.bool false)).setCell ⟨b2,1,none⟩ (.slice none 0 0)).setCell ⟨b2,2,none⟩ (.int .i64 0)).setCell ⟨b3,0,none⟩ (.int .i64 k)).alloc (.cells #[.int .i64 k] T)
theorem Rc (k:Int)(w:World):(Instr.typeAssert (.iface 129 (.agg #[.int .i64 k])) 20 129 true).run Tryz.prog w=.ok (.tuple #[.agg #[.int .i64 k],.bool true]) w:=by
 kernel_rfl
theorem Th (w:World):(Instr.typeAssert .nilIface 20 129 true).run Tryz.prog w=.ok (.tuple #[.agg #[.int .i64 0],.bool false]) w:=by
 kernel_rfl
theorem Z0 (b2 b3:Nat)(w:World)(k:Int)(x y z q:Value)
 (h0:w.heap[b2]?=some (.cells #[x,y,z] 28 (0,0))) (h1:w.heap[b3]?=some (.cells #[q] 3 (0,0))) (hne:¬b2=b3) :
 CallsD Tryz.prog 115 #[.pointer (some ⟨b2,0,none⟩),.pointer (some ⟨b3,0,none⟩)] (.panicking (Dc 129 k)) w fun e u' w' =>
  e=.returned (.tuple #[])∧u'=.panicking [{ v:=.iface 129 (.agg #[.int .i64 k]),recovered:=true }]∧w'=(Abr w b2 b3 129 k).drew:=by
 have ha:=Rc k;have l2:b2<w.heap.size:=(Array.getElem?_eq_some_iff.1 h0).1;have l3:b3<w.heap.size:=(Array.getElem?_eq_some_iff.1 h1).1;have n2:¬b2=w.heap.size:=by omega
 have n3:¬b3=w.heap.size:=by omega
 have n2':¬w.heap.size=b2:=by omega
 have n3':¬w.heap.size=b3:=by omega
 have hne':¬b3=b2:=fun h=>hne h.symm
 have c20:=Ae h0 0 x rfl;have c21:=Ae h0 1 y rfl;have c22:=Ae h0 2 z rfl;have c30:=Ae h1 0 q rfl;have f20:=Ap h0 0;have f21:=Ap h0 1;have f22:=Ap h0 2;have f30:=Ap h1 0;refine callsD_of_wpS Tryz.func115 rfl fun c₀ cs hu=>?_
 simp only [Tryz.ntmps115,List.size_toArray,List.length_cons,List.length_nil,Nat.reduceAdd,Nat.reduceSub,Array.replicate_succ,
  Array.replicate_zero,List.push_toArray,List.append_toArray,List.nil_append,List.cons_append]
 refine Ga (v:=.iface 129 (.agg #[.int .i64 k])) (cs':={ c₀ with mode:=.panicking [{ v:=.iface 129 (.agg #[.int .i64 k]),recovered:=true }] }::cs) (w':=w) rfl ?_ ?_ ?_
 ·simp [go_sem]
 ·rw [recoverD,hu];exact ⟨rfl,rfl⟩
 go_wp2_with fail;go_region;exact ⟨rfl,_,rfl,_,results_none rfl _ _ _,rfl,rfl,rfl⟩
theorem Z8 (b2 b3:Nat)(w:World) :
 CallsD Tryz.prog 115 #[.pointer (some ⟨b2,0,none⟩),.pointer (some ⟨b3,0,none⟩)] .returning w fun e u' w' =>
  e=.returned (.tuple #[])∧u'=.returning∧w'=w.alloc (.cells #[.int .i64 0] 129):=by
 have ha:=Th;refine callsD_of_wpS Tryz.func115 rfl fun c₀ cs hu=>?_
 simp only [Tryz.ntmps115,List.size_toArray,List.length_cons,List.length_nil,Nat.reduceAdd,Nat.reduceSub,Array.replicate_succ,
  Array.replicate_zero,List.push_toArray,List.append_toArray,List.nil_append,List.cons_append]
 refine Ga (v:=.nilIface) (cs':=c₀::cs) (w':=w) rfl ?_ ?_ ?_
 ·simp [go_sem]
 ·rw [recoverD,hu];exact ⟨rfl,rfl⟩
 go_wp2_with fail;exact ⟨rfl,.returning,by rw [←hu],_,results_none rfl _ _ _,rfl,rfl,rfl⟩
def Goes (T:TypeId) (o:Outc Raw) (w:World) (e:Ending) (w':World):Prop :=
 Kept w w'∧((o.k=0∧∃ v,e=.returned v∧DyR w' v o.v)∨(o.k≠0∧e=.panicked (Dc T o.k)))
def RetE (o:Outc Raw) (w:World) (e:Ending) (w':World):Prop :=
 Kept w w'∧∃ v,e=.returned (.tuple #[v,.int .i64 o.k])∧DyR w' v o.v
theorem Aw (h:w.heap[b]?=some (.cells cs t (0,0)))(v:Value):(w.setCell ⟨b,i,none⟩ v).heap[b]?=some (.cells (cs.setIfInBounds i v) t (0,0)):=by
 simp only [World.setCell,Array.getElem?_modify,h];simp
theorem Bh {b':Nat}{x:Obj}(h:w.heap[b]?=some x)(hne:¬b=b')(v:Value):(w.setCell ⟨b',i,none⟩ v).heap[b]?=some x:=by
 rw [Below.heap_setCell _ _ _ _ hne,h]
def Fb (w:World) (b2 b3:Nat) (x y z q:Value) (o:Obj):World :=
 ((((w.setCell ⟨b2,0,none⟩ x).setCell ⟨b2,1,none⟩ y).setCell ⟨b2,2,none⟩ z).setCell ⟨b3,0,none⟩ q).alloc o
theorem Lv {x x' y' z' q':Value}
 (h0:w.heap[b2]?=some (.cells #[x,y,z] T (0,0))) (h1:w.heap[b3]?=some (.cells #[q] T' (0,0))) (hne:¬b2=b3) :
 (Fb w b2 b3 x' y' z' q' o).cell? ⟨b2,0,none⟩=some x'∧(Fb w b2 b3 x' y' z' q' o).cell? ⟨b2,1,none⟩=some y' ∧
 (Fb w b2 b3 x' y' z' q' o).cell? ⟨b2,2,none⟩=some z'∧(Fb w b2 b3 x' y' z' q' o).cell? ⟨b3,0,none⟩=some q':=by
 have l2:b2<w.heap.size:=(Array.getElem?_eq_some_iff.1 h0).1;have l3:b3<w.heap.size:=(Array.getElem?_eq_some_iff.1 h1).1;have g0:(Fb w b2 b3 x' y' z' q' o).heap[b2]?=some (.cells #[x',y',z'] T (0,0)):=by
  unfold Fb;rw [Below.heap_alloc _ _ _ (by simp [World.setCell,l2])];exact Bh (Aw (Aw (Aw h0 _) _) _) hne _
 have g1:(Fb w b2 b3 x' y' z' q' o).heap[b3]?=some (.cells #[q'] T' (0,0)):=by
  unfold Fb;rw [Below.heap_alloc _ _ _ (by simp [World.setCell,l3])];exact Aw (Bh (Bh (Bh h1 (fun h=>hne h.symm) _) (fun h=>hne h.symm) _) (fun h=>hne h.symm) _) _
 exact ⟨Ae g0 0 _ rfl,Ae g0 1 _ rfl,Ae g0 2 _ rfl,Ae g1 0 _ rfl⟩
theorem Nk {w0:World}{x:Value}(h:Kept w0 w)(h2:w0.heap.size≤b2)(h3:w0.heap.size≤b3):Kept w0 (Fb w b2 b3 x y z q o) :=
 ((((h.setCell (p:=⟨b2,0,none⟩) h2 x).setCell (p:=⟨b2,1,none⟩) h2 y).setCell (p:=⟨b2,2,none⟩) h2 z).setCell (p:=⟨b3,0,none⟩) h3 q).alloc (by simpa [World.setCell] using h.size) o
theorem Lim.laid {x x' y' z' q':Value}(h:Lim w s xs)
 (h0:w.heap[b2]?=some (.cells #[x,y,z] T (0,0))) (h1:w.heap[b3]?=some (.cells #[q] T' (0,0)))
 (hx:∀ n,¬x=.int .u64 n) (hy:∀ n,¬y=.int .u64 n) (hz:∀ n,¬z=.int .u64 n) (hq:∀ n,¬q=.int .u64 n) :
 Lim (Fb w b2 b3 x' y' z' q' o) s xs:=by
 obtain ⟨hsm,A,c,rfl,hc,hA⟩:=h;refine ⟨hsm,A,c,rfl,hc,fun hp=>?_⟩;obtain ⟨b,off,rfl,hb,hcell⟩:=hA hp;have n2:¬b=b2:=by
  rintro rfl;have h5:=hcell 0 hp;simp only [World.cell?,h0] at h5;rcases off with _ | _ | _ | off
  ·simp at h5;exact hx _ h5
  ·simp at h5;exact hy _ h5
  ·simp at h5;exact hz _ h5
  ·simp at h5
 have n3:¬b=b3:=by
  rintro rfl;have h5:=hcell 0 hp;simp only [World.cell?,h1] at h5;rcases off with _ | off
  ·simp at h5;exact hq _ h5
  ·simp at h5
 have e:(Fb w b2 b3 x' y' z' q' o).heap[b]?=w.heap[b]?:=by
  unfold Fb;rw [Below.heap_alloc _ _ _ (by simpa [World.setCell] using hb),Below.heap_setCell _ _ _ _ n3,Below.heap_setCell _ _ _ _ n2,Below.heap_setCell _ _ _ _ n2,Below.heap_setCell _ _ _ _ n2]
 refine ⟨b,off,rfl,?_,fun i hi=>?_⟩
 ·unfold Fb;simp [World.setCell];omega
 ·rw [←hcell i hi];simp only [World.cell?,e]
def rz:Raw:=⟨false,[],0⟩
theorem Aak {o:Outc Raw}(h:∀ w1,Kept w w1→Calls Tryz.prog K cap w1 (Goes 129 o w1))(hz:o.k≠0→o.v=rz)
 (hk:∀ w,(callFunc K cap).run Tryz.prog w=.ok (.enter K cap) w) :
 Calls Tryz.prog 78 #[.func (.func K) #[] cap] w (RetE o w):=by
 have hmf:=Ho;have HH:=hid h;clear h
 go_enter_defers Tryz.func78,Tryz.ntmps78
 go_wp2_with fail;have k1:Kept w ((w.alloc (.cells #[.bool false,.slice none 0 0,.int .i64 0] 28)).alloc (.cells #[.int .i64 0] 3)):=((Below.refl _ _).alloc (Nat.le_refl _) _).alloc (by simp) _;refine (HH.out _ k1).mono ?_;have b0:((w.alloc (.cells #[.bool false,.slice none 0 0,.int .i64 0] 28)).alloc (.cells #[.int .i64 0] 3)).heap[w.heap.size]?=some (.cells #[.bool false,.slice none 0 0,.int .i64 0] 28 (0,0)):=by
  rw [Below.heap_alloc _ _ _ (by simp)];exact heap_alloc_new _ _
 have b1:((w.alloc (.cells #[.bool false,.slice none 0 0,.int .i64 0] 28)).alloc (.cells #[.int .i64 0] 3)).heap[w.heap.size+1]?=some (.cells #[.int .i64 0] 3 (0,0)):=by
  have:=heap_alloc_new (w.alloc (.cells #[.bool false,.slice none 0 0,.int .i64 0] 28)) (.cells #[.int .i64 0] 3);simpa using this
 rintro e w1 ⟨q,hq⟩;have c0:=(q.block w.heap.size (by simp;omega)).trans b0;have c1:=(q.block (w.heap.size+1) (by simp)).trans b1;have k2:=k1.trans q;clear q b0 b1 k1 HH;have hs1:w.heap.size+1<w1.heap.size:=(Array.getElem?_eq_some_iff.1 c1).1;have hs0:w.heap.size<w1.heap.size:=by omega
 have n1:¬w.heap.size=w1.heap.size:=by omega
 have n2:¬w.heap.size+1=w1.heap.size:=by omega
 have n3:¬w.heap.size=w.heap.size+1:=by omega
 have n4:¬w.heap.size+1=w.heap.size:=by omega
 have c20:w1.cell? ⟨w.heap.size,0,none⟩=some (.bool false):=Ae c0 0 _ rfl;have c21:w1.cell? ⟨w.heap.size,1,none⟩=some (.slice none 0 0):=Ae c0 1 _ rfl;have c22:w1.cell? ⟨w.heap.size,2,none⟩=some (.int .i64 0):=Ae c0 2 _ rfl;have c30:w1.cell? ⟨w.heap.size+1,0,none⟩=some (.int .i64 0):=Ae c1 0 _ rfl;have f20:=Ap c0 0;have f21:=Ap c0 1;have f22:=Ap c0 2;have f30:=Ap c1 0;have KK:=hid k2;have HQ:=hid hq;clear k2 hq;rcases HQ.out with ⟨h0,v,rfl,hv⟩ | ⟨h0,rfl⟩
 ·obtain ⟨s,rfl,hs,e1,e2⟩:=hv;have HS:=hid hs;obtain ⟨_,A,c,rfl,_⟩:=hs;clear HQ;simp only [];go_wp2_with fail;refine leaves_cons (f:=115) (args:=#[.pointer (some ⟨w.heap.size,0,none⟩),.pointer (some ⟨w.heap.size+1,0,none⟩)]) (by simp) (by simp [go_sem]) ?_;refine (Z8 _ _ _).mono ?_;rintro e u' w2 ⟨rfl,rfl,rfl⟩;obtain ⟨d0,d1,d2,d3⟩:=Lv (x':=.bool o.v.neg) (y':=.slice A o.v.m.length c) (z':=.int .i64 o.v.e) (q':=.int .i64 0) (o:=.cells #[.int .i64 0] 129) c0 c1 n3;refine ⟨.tuple #[.agg #[.bool o.v.neg,.slice A o.v.m.length c,.int .i64 o.v.e],.int .i64 0],?_,?_⟩
  ·change (results Tryz.f78 _).run Tryz.prog (Fb w1 w.heap.size (w.heap.size+1) (.bool o.v.neg) (.slice A o.v.m.length c) (.int .i64 o.v.e) (.int .i64 0) (.cells #[.int .i64 0] 129))=.ok _ (Fb w1 w.heap.size (w.heap.size+1) (.bool o.v.neg) (.slice A o.v.m.length c) (.int .i64 o.v.e) (.int .i64 0) (.cells #[.int .i64 0] 129));generalize Fb w1 w.heap.size (w.heap.size+1) (.bool o.v.neg) (.slice A o.v.m.length c) (.int .i64 o.v.e) (.int .i64 0) (.cells #[.int .i64 0] 129)=W at *;simp [results,Tryz.results78,go_sem,d0,d1,d2,d3]
  ·refine ⟨Nk KK.out (Nat.le_refl _) (Nat.le_succ _),_,by rw [h0],?_⟩;exact ⟨_,rfl,HS.out.laid c0 c1 (by simp) (by simp) (by simp) (by simp),e1,e2⟩
 ·clear HQ;simp only [];refine leaves_cons (f:=115) (args:=#[.pointer (some ⟨w.heap.size,0,none⟩),.pointer (some ⟨w.heap.size+1,0,none⟩)]) (by simp) (by simp [go_sem]) ?_;refine (Z0 _ _ _ _ _ _ _ _ c0 c1 n3).mono ?_;rintro e u' w2 ⟨rfl,rfl,rfl⟩;obtain ⟨d0,d1,d2,d3⟩:=Lv (x':=.bool false) (y':=.slice none 0 0) (z':=.int .i64 0) (q':=.int .i64 o.k) (o:=.cells #[.int .i64 o.k] 129) c0 c1 n3;refine ⟨.tuple #[.agg #[.bool false,.slice none 0 0,.int .i64 0],.int .i64 o.k],?_,?_⟩
  ·change (results Tryz.f78 _).run Tryz.prog (Fb w1 w.heap.size (w.heap.size+1) (.bool false) (.slice none 0 0) (.int .i64 0) (.int .i64 o.k) (.cells #[.int .i64 o.k] 129)).drew=.ok _ (Fb w1 w.heap.size (w.heap.size+1) (.bool false) (.slice none 0 0) (.int .i64 0) (.int .i64 o.k) (.cells #[.int .i64 o.k] 129)).drew;generalize Fb w1 w.heap.size (w.heap.size+1) (.bool false) (.slice none 0 0) (.int .i64 0) (.int .i64 o.k) (.cells #[.int .i64 o.k] 129)=W at *;simp [results,Tryz.results78,go_sem,d0,d1,d2,d3]
  ·refine ⟨(Nk KK.out (Nat.le_refl _) (Nat.le_succ _)).drew,_,rfl,?_⟩;rw [hz h0];exact ⟨_,rfl,⟨(by intro i hi;cases hi),none,0,rfl,Nat.le_refl _,fun h=>absurd h (Nat.lt_irrefl 0)⟩,by decide,by decide⟩
section
variable {P:Program} {ops:Array Oper} {Q:Exit→Act→World→Prop} {md:Region.Mode}
def Al (ops:Array Oper) (i:Nat):Option Tmp:=(ops[i]?).bind (·.dst)
def Bi (md:Region.Mode) (ops:Array Oper) (i j:Nat):Bool :=
 ((ops[i]?).map fun o=>o.after.any fun e=>Region.binds md e&&e.on==j).getD false
def Bs (ops:Array Oper) (m:Nat):Bool:=(List.range m).all fun i=>(List.range m).all fun j=>i==j||Al ops i==none||Al ops i != Al ops j
def Eu (md:Region.Mode) (ops:Array Oper) (m i t:Nat):Bool:=(List.range m).all fun j=>Al ops j != some t||i==j||Bi md ops j i
def Cw (ops:Array Oper) (m n:Nat):Bool:=(List.range m).all fun j=>(Al ops j).all fun t=>decide (t<n)
def R8 (md:Region.Mode) (ops:Array Oper):Nat→List (List Nat)
 | 0=>[]
 | n+1=>R8 md ops n++[(List.range n).filter fun j=>Bi md ops n j||(List.range n).any fun k=>Bi md ops n k&&((R8 md ops n).getD k []).contains j]
def Ja (md:Region.Mode) (ops:Array Oper) (m:Nat):Bool :=
 (List.range ops.size).all fun i=>decide (i<m)||(List.range m).all fun j=>((R8 md ops ops.size).getD i []).contains j
theorem Jd (md:Region.Mode)(ops:Array Oper):∀ n,(R8 md ops n).length=n
 | 0=>rfl
 | n+1=>by unfold R8;rw [List.length_append,Jd md ops n];rfl
theorem Li {md:Region.Mode}{ops:Array Oper}{L:Nat→Bool}(hcl:∀ i j,L i=true→Bi md ops i j=true→L j=true) :
 ∀ n i j,i<n→((R8 md ops n).getD i []).contains j=true→(∀ k,Bi md ops i k=true→L k=true)→L j=true
 | 0,_,_,h,_,_=>absurd h (Nat.not_lt_zero _)
 | n + 1, i, j, h, hc, hd => by
   unfold R8 at hc;by_cases hi:i<n
   ·rw [List.getD_eq_getElem?_getD,List.getElem?_append_left (by rw [Jd];exact hi),←List.getD_eq_getElem?_getD] at hc;exact Li hcl n i j hi hc hd
   ·obtain rfl:i=n:=by omega
    rw [List.getD_eq_getElem?_getD,List.getElem?_append_right (by rw [Jd];exact Nat.le_refl _),Jd,Nat.sub_self] at hc;simp only [List.getElem?_cons_zero,Option.getD_some,List.contains_eq_mem,List.mem_filter,List.mem_range,decide_eq_true_eq,Bool.or_eq_true,List.any_eq_true,Bool.and_eq_true] at hc;obtain ⟨_,hw | ⟨k,hk,hwk,hck⟩⟩:=hc
    ·exact hd j hw
    ·exact Li hcl i k j hk (by simpa [List.contains_eq_mem] using hck) (fun k' hk'=>hcl k k' (hd k hwk) hk')
def Dr (md:Region.Mode) (ops:Array Oper):Bool:=(List.range ops.size).all fun i=>((ops[i]?).map fun o=>o.after.all fun e=>!Region.binds md e||decide (e.on<i)).getD true
def upd {α:Type} (f:Nat→α) (i:Nat) (v:α):Nat→α:=fun j=>if j=i then v else f j
def Ax (ops:Array Oper) (S:Nat→Bool) (u:Nat→Value):Nat→Act→Act
 | 0,a=>a
 | k+1,a=>if S k then (Ax ops S u k a).put (Al ops k) (u k) else Ax ops S u k a
theorem Hw {S S':Nat→Bool}{u u':Nat→Value}{a:Act}:∀ n,(∀ j,j<n→S j=S' j∧u j=u' j)→Ax ops S u n a=Ax ops S' u' n a
 | 0,_=>rfl
 | n + 1, h => by
   unfold Ax;obtain ⟨h1,h2⟩:=h n (by omega);rw [h1,h2,Hw n (fun j hj=>h j (by omega))]
theorem S0 {S:Nat→Bool}{u:Nat→Value}{a:Act}{i:Nat}{v:Value}(hS:S i=false):∀ n,i<n →
 (∀ j,j<n→j≠i→Al ops i=none∨Al ops i≠Al ops j)→(Ax ops S u n a).put (Al ops i) v=Ax ops (upd S i true) (upd u i v) n a
 | 0,h,_=>absurd h (Nat.not_lt_zero _)
 | n + 1, h, hap => by
   by_cases hi:i=n
   ·subst hi;have e1:upd S i true i=true:=by simp [upd]
    have e2:upd u i v i=v:=by simp [upd]
    unfold Ax;rw [hS,e1,e2];simp only [Bool.false_eq_true,if_false,if_true];rw [Hw (S':=upd S i true) (u':=upd u i v) i (fun j hj=>by unfold upd;rw [if_neg (by omega),if_neg (by omega)];exact ⟨rfl,rfl⟩)]
   ·have e1:upd S i true n=S n:=by simp [upd];intro h;exact absurd h.symm hi
    have e2:upd u i v n=u n:=by unfold upd;rw [if_neg (fun h=>hi h.symm)]
    have ih:=S0 (u:=u) (a:=a) (v:=v) hS n (by omega) (fun j hj=>hap j (by omega));unfold Ax;rw [e1,e2];cases hn:S n
    ·simp only [Bool.false_eq_true,if_false];exact ih
    ·simp only [if_true];rw [←ih];refine Act.put_comm _ _ _ (fun d hd=>?_);intro hc;rcases hap n (by omega) (fun h=>hi h.symm) with h | h
     ·rw [h] at hc;cases hc
     ·exact h (hc.trans hd.symm)
theorem Yo (a:Act)(x:Option Tmp)(v:Value):(a.put x v).defers=a.defers:=by cases x<;>rfl
theorem Agx (a:Act)(x:Option Tmp)(v:Value):(a.put x v).tmps.size=a.tmps.size:=by cases x<;>simp [Act.put]
theorem Kb {S:Nat→Bool}{u:Nat→Value}{a:Act}:∀ n,(Ax ops S u n a).defers=a.defers
 | 0=>rfl
 | n + 1 => by
   unfold Ax;split
   ·rw [Yo,Kb n]
   ·exact Kb n
theorem Qj {S:Nat→Bool}{u:Nat→Value}{a:Act}:∀ n,(Ax ops S u n a).tmps.size=a.tmps.size
 | 0=>rfl
 | n + 1 => by
   unfold Ax;split
   ·rw [Agx,Qj n]
   ·exact Qj n
theorem Qz (a:Act)(x:Option Tmp)(v:Value)(t:Nat)(h:x≠some t):(a.put x v).tmps.getD t undef=a.tmps.getD t undef:=by
 cases x with
 | none=>rfl
 | some d =>
   have:d≠t:=fun e=>h (by rw [e])
   simp only [Act.put,Array.getD_eq_getD_getElem?];rw [Array.getElem?_setIfInBounds_ne this]
theorem Xt (a:Act)(v:Value)(t:Nat)(h:t<a.tmps.size):(a.put (some t) v).tmps.getD t undef=v:=by
 simp only [Act.put,Array.getD_eq_getD_getElem?];simp [h]
theorem Hg {S:Nat→Bool}{u:Nat→Value}{a:Act}{t:Nat}:∀ n,(∀ j,j<n→S j=true→Al ops j≠some t) →
 (Ax ops S u n a).tmps.getD t undef=a.tmps.getD t undef
 | 0,_=>rfl
 | n + 1, h => by
   unfold Ax;split
   ·rename_i hs;rw [Qz _ _ _ _ (h n (by omega) hs),Hg n (fun j hj=>h j (by omega))]
   ·exact Hg n (fun j hj=>h j (by omega))
theorem Hh {S:Nat→Bool}{u:Nat→Value}{a:Act}{t i:Nat}(ht:t<a.tmps.size)(hS:S i=true)(hi:Al ops i=some t):∀ n,i<n →
 (∀ j,j<n→j≠i→Al ops j≠some t)→(Ax ops S u n a).tmps.getD t undef=u i
 | 0,h,_=>absurd h (Nat.not_lt_zero _)
 | n + 1, h, hap => by
   unfold Ax;by_cases he:i=n
   ·subst he;rw [hS,hi];simp only [if_true];exact Xt _ _ _ (by rw [Qj];exact ht)
   ·split
    ·rw [Qz _ _ _ _ (hap n (by omega) (fun h=>he h.symm)),Hh ht hS hi n (by omega) (fun j hj=>hap j (by omega))]
    ·exact Hh ht hS hi n (by omega) (fun j hj=>hap j (by omega))
theorem Ky (n i:Nat):(Array.replicate n false).getD i false=false:=by
 rw [Array.getD_eq_getD_getElem?];by_cases h:i<n
 ·rw [Array.getElem?_eq_getElem (by simpa using h)];simp
 ·rw [Array.getElem?_eq_none (by simpa using h)];rfl
def Bf (P:Program) (ops:Array Oper) (Q:Exit→Act→World→Prop) (V:Nat→Value→World→Prop) (i:Nat) (o:Oper) (a:Act) (w:World):Prop :=
 if Region.wanted o (yielded ops a.tmps)=true then o.wp P a w (fun a' w'=>∃ v,a'=a.put o.dst v∧Kept w w'∧V i v w') Q else V i undef w
structure Finds (md:Region.Mode) (ops:Array Oper) (m:Nat) (V:Nat→Value→World→Prop) (a0:Act) (W:World) (i:Nat) (a:Act) (w:World):Prop where
 kept:Kept W w
 defers:a.defers=a0.defers
 done:∀ j t,Bi md ops i j=true→Al ops j=some t→V j (a.tmps.getD t undef) w
 old:∀ t,Eu md ops m i t=true→a.tmps.getD t undef=a0.tmps.getD t undef
theorem Cp {n:Nat}{p:Nat→Bool}(h:(List.range n).all p=true)(i:Nat)(hi:i<n):p i=true:=by
 rw [List.all_eq_true] at h;exact h i (List.mem_range.2 hi)
def Mb (P:Program) (ops:Array Oper) (Q:Exit→Act→World→Prop) (J:(Nat→Bool)→(Nat→Value)→World→Prop) (L:Nat→Bool) (u:Nat→Value) (i:Nat) (o:Oper) (a:Act) (w:World):Prop :=
 if Region.wanted o (yielded ops a.tmps)=true then o.wp P a w (fun a' w'=>∃ v,a'=a.put o.dst v∧J (upd L i true) (upd u i v) w') Q else J (upd L i true) (upd u i undef) w
structure Mi (md:Region.Mode) (ops:Array Oper) (m:Nat) (J:(Nat→Bool)→(Nat→Value)→World→Prop) (a0:Act) (L:Nat→Bool) (u:Nat→Value) (i:Nat) (a:Act) (w:World):Prop where
 frame:J L u w
 yet:L i=false
 wait:∀ j,Bi md ops i j=true→L j=true
 lt:∀ j,L j=true→j<m
 defers:a.defers=a0.defers
 done:∀ j t,Bi md ops i j=true→Al ops j=some t→a.tmps.getD t undef=u j
 old:∀ t,Eu md ops m i t=true→a.tmps.getD t undef=a0.tmps.getD t undef
structure Amn (md:Region.Mode) (ops:Array Oper) (m:Nat) (J:(Nat→Bool)→(Nat→Value)→World→Prop) (a0:Act) (listed:Array Bool) (a:Act) (w:World):Prop where
 size:listed.size=ops.size
 tail:∀ i,m≤i→listed.getD i false=false
 closed:∀ i j,listed.getD i false=true→Bi md ops i j=true→listed.getD j false=true
 vals:∃ u,a=Ax ops (fun i=>listed.getD i false) u m a0∧J (fun i=>listed.getD i false) u w
theorem Ua            {m:Nat}{J:(Nat→Bool)→(Nat→Value)→World→Prop}{a0:Act}
 (hsz:m≤ops.size) (hap:Bs ops m=true) (hin:Cw ops m a0.tmps.size=true) (htl:Ja md ops m=true) (hbk:Dr md ops=true)
 (hstep:∀ i o,i<m→ops[i]?=some o→∀ L u a w,Mi md ops m J a0 L u i a w→Mb P ops Q J L u i o a w)
 (hend:∀ u w L,(∀ i,i<m→L i=true)→J L u w→∀ listed:Array Bool,listed.size=ops.size→(∀ i,listed.getD i false=decide (i<m))→wpAny P md ops Q (ops.size-m) listed (Ax ops (fun _=>true) u m a0) w) :
 ∀ (k:Nat) (listed:Array Bool) (a:Act) (w:World),((List.range m).filter fun i=>!listed.getD i false).length=k→Amn md ops m J a0 listed a w→wpAny P md ops Q (ops.size-m+k) listed a w:=by
 intro k
 induction k with
 | zero =>
   intro listed a w hk hI;obtain ⟨u,rfl,hu⟩:=hI.vals;have hall:∀ i,i<m→listed.getD i false=true:=by
    intro i hi;have h1:=List.eq_nil_of_length_eq_zero hk;have h2:∀ x∈(List.range m).filter (fun i=>!listed.getD i false),False:=by rw [h1];intro x hx;cases hx
    cases hc:listed.getD i false
    ·exact (h2 i (List.mem_filter.2 ⟨List.mem_range.2 hi,by rw [hc];rfl⟩)).elim
    ·rfl
   have e:Ax ops (fun i=>listed.getD i false) u m a0=Ax ops (fun _=>true) u m a0:=Hw m (fun j hj=>⟨hall j hj,rfl⟩);rw [e];refine hend u w _ hall hu listed hI.size (fun i=>?_);by_cases hi:i<m
   ·rw [hall i hi];simp [hi]
   ·rw [hI.tail i (by omega)];simp [hi]
 | succ k ih =>
   intro listed a w hk hI;obtain ⟨u,rfl,hu⟩:=hI.vals
   -- the first one that has not come up is ready, or some are ready
   refine ⟨fun hnone=>?_,fun i hi=>?_⟩
   ·exfalso;have hex:∃ x,x<m∧listed.getD x false=false:=by
     cases hl:(List.range m).filter (fun i=>!listed.getD i false) with
     | nil=>rw [hl] at hk;simp at hk
     | cons x xs =>
       have hx:x∈(List.range m).filter (fun i=>!listed.getD i false):=by rw [hl];exact List.mem_cons_self ..
       obtain ⟨h1,h2⟩:=List.mem_filter.1 hx;exact ⟨x,List.mem_range.1 h1,by simpa using h2⟩
    have hmin : ∀ n x, x ≤ n → x < m → listed.getD x false = false → ∃ y, y ∈ Region.ready md ops listed := by
     intro n
     induction n with
     | zero => 
       intro x hx hxm hxl;obtain rfl:x=0:=by omega
       refine ⟨0,mem_ready.2 ⟨?_,ops[0],Array.getElem?_eq_getElem (by omega),fun e he hb=>?_⟩⟩
       ·rw [Array.getD_eq_getD_getElem?,Array.getElem?_eq_getElem (by rw [hI.size];omega)] at hxl ⊢;exact hxl
       ·have h1:=Cp hbk 0 (by omega);rw [Array.getElem?_eq_getElem (show 0<ops.size by omega)] at h1;simp only [Option.map_some,Option.getD_some,Array.all_eq_true'] at h1;have:=h1 e he;rw [hb] at this;simp at this
     | succ n ihn =>
       intro x hx hxm hxl;by_cases hall:∀ j,Bi md ops x j=true→listed.getD j false=true
       ·refine ⟨x,mem_ready.2 ⟨?_,ops[x],Array.getElem?_eq_getElem (by omega),fun e he hb=>?_⟩⟩
        ·rw [Array.getD_eq_getD_getElem?,Array.getElem?_eq_getElem (by rw [hI.size];omega)] at hxl ⊢;exact hxl
        ·refine hall e.on ?_;unfold Bi;rw [Array.getElem?_eq_getElem (show x<ops.size by omega)];simp only [Option.map_some,Option.getD_some,Array.any_eq_true'];exact ⟨e,he,by rw [hb];simp⟩
       ·obtain ⟨j,hj⟩:=Classical.not_forall.1 hall;obtain ⟨hj1,hj2⟩:=Classical.not_imp.1 hj;have hjx:j<x:=by
         have h1:=Cp hbk x (by omega);unfold Bi at hj1;rw [Array.getElem?_eq_getElem (show x<ops.size by omega)] at h1 hj1;simp only [Option.map_some,Option.getD_some,Array.all_eq_true',Array.any_eq_true'] at h1 hj1;obtain ⟨e,he,hb⟩:=hj1;simp only [Bool.and_eq_true,beq_iff_eq] at hb;have:=h1 e he;rw [hb.1,hb.2] at this;simpa using this
        exact ihn j (by omega) (by omega) (by simpa using hj2)
    obtain ⟨x,hx1,hx2⟩:=hex;obtain ⟨y,hy⟩:=hmin x x (Nat.le_refl _) hx1 hx2;rw [hnone] at hy;cases hy
   ·obtain ⟨hjun,oi,hoi,hdep⟩:=mem_ready.1 hi;have hil:i<listed.size:=by
     by_cases hc:i<listed.size
     ·exact hc
     ·rw [Array.getD_eq_getD_getElem?,Array.getElem?_eq_none (by omega)] at hjun;simp at hjun
    have hfalse:listed.getD i false=false:=by
     rw [Array.getD_eq_getD_getElem?,Array.getElem?_eq_getElem hil] at *;exact hjun
    have hdone:∀ j,Bi md ops i j=true→listed.getD j false=true:=by
     intro j hj;unfold Bi at hj;rw [hoi] at hj;simp only [Option.map_some,Option.getD_some,Array.any_eq_true'] at hj;obtain ⟨e,he,hb⟩:=hj;simp only [Bool.and_eq_true,beq_iff_eq] at hb;have:=hdep e he hb.1;rw [hb.2] at this;exact this
    by_cases him:i<m
    ·have hF:Mi md ops m J a0 (fun i=>listed.getD i false) u i (Ax ops (fun i=>listed.getD i false) u m a0) w:=by
      refine ⟨hu,hfalse,hdone,fun j hj=>Classical.byContradiction fun hc=>(by rw [hI.tail j (by omega)] at hj;cases hj),Kb m,fun j t hw hs=>?_,fun t hu0=>?_⟩
      ·have hjl:=hdone j hw;have hjm:j<m:=by
        by_cases hc:j<m
        ·exact hc
        ·rw [hI.tail j (by omega)] at hjl;cases hjl
       have htn:t<a0.tmps.size:=by
        have:=Cp hin j hjm;rw [hs] at this;simpa using this
       rw [Hh (i:=j) htn hjl hs m hjm (fun j' hj' hne=>?_)]
       ·have h1:=Cp (Cp hap j hjm) j' hj';rw [hs] at h1;simp only [Bool.or_eq_true,beq_iff_eq,bne_iff_ne] at h1;rcases h1 with (h1 | h1) | h1
        ·exact absurd h1.symm hne
        ·cases h1
        ·exact fun h=>h1 h.symm
      ·refine Hg m (fun j hj hjl hs=>?_);have h1:=Cp hu0 j hj;rw [hs] at h1;simp only [bne_self_eq_false,Bool.false_or,Bool.or_eq_true,beq_iff_eq] at h1;rcases h1 with h1 | h1
       ·rw [←h1,hfalse] at hjl;cases hjl
       ·have:=hI.closed j i hjl h1;rw [hfalse] at this;cases this
     have hs:=hstep i oi him hoi _ _ _ w hF;unfold Mb at hs;unfold wpOp;simp only [hoi];have hput:∀ v w',J (upd (fun i=>listed.getD i false) i true) (upd u i v) w'→Amn md ops m J a0 (listed.setIfInBounds i true) ((Ax ops (fun i=>listed.getD i false) u m a0).put oi.dst v) w':=by
      intro v w' hk';have hso:oi.dst=Al ops i:=by unfold Al;rw [hoi];rfl
      have hset:∀ j,(listed.setIfInBounds i true).getD j false=upd (fun i=>listed.getD i false) i true j:=by
       intro j;unfold upd;by_cases hj:j=i
       ·subst hj;rw [if_pos rfl,Array.getD_eq_getD_getElem?];simp [hil]
       ·rw [if_neg hj,getD_set_ne false (fun h=>hj h.symm)]
      refine ⟨by rw [Array.size_setIfInBounds,hI.size],fun j hj=>?_,fun j l hj hw=>?_,upd u i v,?_,by rw [show (fun j=>(listed.setIfInBounds i true).getD j false)=upd (fun i=>listed.getD i false) i true from funext hset];exact hk'⟩
      ·rw [getD_set_ne false (by omega)];exact hI.tail j hj
      ·rw [hset] at hj ⊢;unfold upd at hj ⊢;by_cases hji:j=i
       ·subst hji;by_cases hli:l=j
        ·rw [if_pos hli]
        ·rw [if_neg hli];exact hdone l hw
       ·rw [if_neg hji] at hj;by_cases hli:l=i
        ·rw [if_pos hli]
        ·rw [if_neg hli];exact hI.closed j l hj hw
      ·rw [hso,S0 (S:=fun i=>listed.getD i false) hfalse m him (fun j hj hne=>?_)]
       ·exact Hw m (fun j _=>⟨(hset j).symm,rfl⟩)
       ·have h1:=Cp (Cp hap i him) j hj;simp only [Bool.or_eq_true,beq_iff_eq,bne_iff_ne] at h1;rcases h1 with (h1 | h1) | h1
        ·exact absurd h1.symm hne
        ·exact .inl h1
        ·exact .inr h1
     have hcount : ((List.range m).filter fun j => !(listed.setIfInBounds i true).getD j false).length = k := by
      have h1:(List.range m).filter (fun j=>!(listed.setIfInBounds i true).getD j false)=((List.range m).filter (fun j=>!listed.getD j false)).filter (fun j=>j != i):=by
       rw [List.filter_filter];apply List.filter_congr;intro j _;by_cases hj:j=i
       ·subst hj;rw [Array.getD_eq_getD_getElem?];simp [hil]
       ·rw [getD_set_ne false (fun h=>hj h.symm)];simp [hj]
      rw [h1];have hnd:((List.range m).filter (fun j=>!listed.getD j false)).Nodup:=List.Pairwise.filter _ List.nodup_range;have hmem:i∈(List.range m).filter (fun j=>!listed.getD j false):=List.mem_filter.2 ⟨List.mem_range.2 him,by rw [hfalse];rfl⟩;have h2 : ∀ (l : List Nat), l.Nodup → i ∈ l → (l.filter (fun j => j != i)).length + 1 = l.length := by
       intro l
       induction l with
       | nil=>intro _ h;cases h
       | cons x xs ihx =>
         intro hn hm;obtain ⟨hx,hn'⟩:=List.nodup_cons.1 hn;by_cases hxi:x=i
         ·subst hxi;have:xs.filter (fun j=>j != x)=xs:=by
           rw [List.filter_eq_self];intro y hy;simp only [bne_iff_ne];rintro rfl;exact hx hy
          rw [List.filter_cons_of_neg (by simp),this];rfl
         ·have hm':i∈xs:=by
           rcases List.mem_cons.1 hm with h | h
           ·exact absurd h.symm hxi
           ·exact h
          rw [List.filter_cons_of_pos (by simp [hxi])];simp only [List.length_cons];rw [ihx hn' hm']
      have:=h2 _ hnd hmem;omega
     by_cases hw:Region.wanted oi (yielded ops (Ax ops (fun i=>listed.getD i false) u m a0).tmps)=true
     ·rw [if_pos hw] at hs ⊢;refine .inl (Oper.wp_mono (fun a' w' h=>?_) hs);obtain ⟨v,rfl,hk'⟩:=h;exact ih _ _ _ hcount (hput v w' hk')
     ·rw [if_neg hw] at hs ⊢;exact ih _ _ _ hcount (hput undef w hs)
    ·-- an operation behind waits for one that has not come up
     exfalso;have hex:∃ x,x<m∧listed.getD x false=false:=by
      cases hl:(List.range m).filter (fun i=>!listed.getD i false) with
      | nil=>rw [hl] at hk;simp at hk
      | cons x xs =>
        have hx:x∈(List.range m).filter (fun i=>!listed.getD i false):=by rw [hl];exact List.mem_cons_self ..
        obtain ⟨h1,h2⟩:=List.mem_filter.1 hx;exact ⟨x,List.mem_range.1 h1,by simpa using h2⟩
     obtain ⟨x,hx1,hx2⟩:=hex;have h1:=Cp htl i (by rw [←hI.size];exact hil);simp only [Bool.or_eq_true,decide_eq_true_eq] at h1;have h2:=Li (L:=fun j=>listed.getD j false) hI.closed ops.size i x (by rw [←hI.size];exact hil) (Cp (h1.resolve_left him) x hx1) hdone;rw [hx2] at h2;cases h2
theorem On {m:Nat}{J:(Nat→Bool)→(Nat→Value)→World→Prop}{a0:Act}{W:World}(hsz:m≤ops.size)(hap:Bs ops m=true)(hin:Cw ops m a0.tmps.size=true)(htl:Ja .any ops m=true)(hbk:Dr .any ops=true)
 (hJ:J (fun _=>false) (fun _=>undef) W.drew)
 (hstep:∀ i o,i<m→ops[i]?=some o→∀ L u a w,Mi .any ops m J a0 L u i a w→Mb P ops Q J L u i o a w)
 (hend:∀ u w L,(∀ i,i<m→L i=true)→J L u w→∀ listed:Array Bool,listed.size=ops.size→(∀ i,listed.getD i false=decide (i<m))→wpAny P .any ops Q (ops.size-m) listed (Ax ops (fun _=>true) u m a0) w) :
 wpAny P .any ops Q ops.size (Array.replicate ops.size false) a0 W.drew:=by
 have h:=Ua (md:=.any) (a0:=a0) (J:=J) (Q:=Q) (P:=P) hsz hap hin htl hbk hstep hend
  ((List.range m).filter fun i=>!(Array.replicate ops.size false).getD i false).length (Array.replicate ops.size false) a0 W.drew rfl ?_
 ·have e:ops.size-m+((List.range m).filter fun i=>!(Array.replicate ops.size false).getD i false).length=ops.size:=by
   have:(List.range m).filter (fun i=>!(Array.replicate ops.size false).getD i false)=List.range m:=by
    rw [List.filter_eq_self];intro i hi;rw [Ky];rfl
   rw [this,List.length_range];omega
  rw [e] at h;exact h
 ·refine ⟨by simp,fun i _=>?_,fun i j hi=>?_,fun _=>undef,?_,by rw [show (fun i=>(Array.replicate ops.size false).getD i false)=fun _=>false from funext fun i=>Ky _ _];exact hJ⟩
  ·exact Ky _ _
  ·rw [Ky] at hi;cases hi
  ·have:∀ n,Ax ops (fun i=>(Array.replicate ops.size false).getD i false) (fun _=>undef) n a0=a0:=by
    intro n
    induction n with
    | zero=>rfl
    | succ n ih =>
      unfold Ax;rw [if_neg (by rw [Ky];simp),ih]
   exact (this m).symm
theorem Me {l:Array Bool}{i:Nat}(h:i<l.size):l.getD i true=l.getD i false:=by
 rw [Array.getD_eq_getD_getElem?,Array.getD_eq_getD_getElem?,Array.getElem?_eq_getElem h];rfl
theorem L5 {m:Nat}{listed:Array Bool}(hm:m<ops.size)(hl:listed.size=ops.size)(hbk:Dr md ops=true)(hd:∀ i,i<m→listed.getD i false=true)(h0:listed.getD m false=false):m∈Region.ready md ops listed:=by
 refine mem_ready.2 ⟨by rw [Me (by omega)];exact h0,ops[m],Array.getElem?_eq_getElem hm,fun e he hb=>?_⟩;have h1:=Cp hbk m hm;rw [Array.getElem?_eq_getElem hm] at h1;simp only [Option.map_some,Option.getD_some,Array.all_eq_true'] at h1;have:=h1 e he;rw [hb] at this;exact hd _ (by simpa using this)
theorem Kx {i:Nat}{listed:Array Bool}(hl:listed.size=ops.size)(h:i∈Region.ready md ops listed):i<ops.size∧listed.getD i false=false:=by
 obtain ⟨h1,o,ho,_⟩:=mem_ready.1 h;have h3:i<ops.size:=(Array.getElem?_eq_some_iff.1 ho).1;rw [Me (by omega)] at h1;exact ⟨h3,h1⟩
theorem Pf {l:Array Bool}{i:Nat}(h:i<l.size)(j:Nat):(l.setIfInBounds i true).getD j false=if j=i then true else l.getD j false:=by
 by_cases hj:j=i
 ·subst hj;rw [if_pos rfl,Array.getD_eq_getD_getElem?];simp [h]
 ·rw [if_neg hj,getD_set_ne false (fun h=>hj h.symm)]
theorem P3 {i:Nat}{o:Oper}{K:Act→World→Prop}{a:Act}{w:World}(ho:ops[i]?=some o)(hg:o.guard=none)(h:o.wp P a w K Q):wpOp P ops Q i K a w:=by
 unfold wpOp;simp only [ho];have:Region.wanted o (yielded ops a.tmps)=true:=by simp [Region.wanted,hg]
 rw [if_pos this];exact .inl h
theorem My {id m:Nat}{J:(Nat→Bool)→(Nat→Value)→World→Prop}{a0:Act}{W:World}(hm:P.follows .mixedOrders=true)
 (hsz:m=ops.size) (hap:Bs ops m=true) (hin:Cw ops m a0.tmps.size=true) (hbk:Dr .any ops=true)
 (hJ:J (fun _=>false) (fun _=>undef) W.drew)
 (hstep:∀ i o,i<m→ops[i]?=some o→∀ L u a w,Mi .any ops m J a0 L u i a w→Mb P ops Q J L u i o a w)
 (hend:∀ u w L,(∀ i,i<m→L i=true)→J L u w→Q .normal (Ax ops (fun _=>true) u m a0) w) :
 (Code.region id ops true).wp P Q a0 W:=by
 have htl:Ja .any ops m=true:=by
  unfold Ja;rw [List.all_eq_true];intro i hi;have:=List.mem_range.1 hi;simp;left;omega
 refine wp_region_any hm (On (by omega) hap hin htl hbk hJ hstep fun u w L hL hk listed hl hlt=>?_);have:ops.size-m=0:=by omega
 rw [this];refine ⟨?_,hend u w L hL hk⟩;rw [List.eq_nil_iff_forall_not_mem];intro i hi;obtain ⟨h1,o,ho,_⟩:=mem_ready.1 hi;have h2:=hlt i;have h3:i<ops.size:=(Array.getElem?_eq_some_iff.1 ho).1;rw [Array.getD_eq_getD_getElem?,Array.getElem?_eq_getElem (by omega)] at h1 h2;simp only [Option.getD_some] at h1 h2;rw [h1] at h2;simp at h2;omega
theorem Wp {id m:Nat}{J:(Nat→Bool)→(Nat→Value)→World→Prop}{a0:Act}{W:World}{o:Oper}(hm:P.follows .mixedOrders=true)
 (hsz:m+1=ops.size) (ho:ops[m]?=some o) (hg:o.guard=none) (hap:Bs ops m=true) (hin:Cw ops m a0.tmps.size=true) (htl:Ja .any ops m=true) (hbk:Dr .any ops=true)
 (hJ:J (fun _=>false) (fun _=>undef) W.drew)
 (hstep:∀ i o,i<m→ops[i]?=some o→∀ L u a w,Mi .any ops m J a0 L u i a w→Mb P ops Q J L u i o a w)
 (hend:∀ u w L,(∀ i,i<m→L i=true)→J L u w→o.wp P (Ax ops (fun _=>true) u m a0) w (Q .normal) Q) :
 (Code.region id ops true).wp P Q a0 W:=by
 refine wp_region_any hm (On (by omega) hap hin htl hbk hJ hstep fun u w L hL hk listed hl hlt=>?_);have hs:ops.size-m=0+1:=by omega
 rw [hs];refine ⟨fun hn=>?_,fun i hi=>?_⟩
 ·have:=L5 (md:=.any) (m:=m) (by omega) hl hbk (fun i hi=>by rw [hlt];simp [hi]) (by rw [hlt];simp);rw [hn] at this;cases this
 ·obtain ⟨h1,h2⟩:=Kx hl hi;rw [hlt] at h2;simp at h2;obtain rfl:i=m:=by omega
  refine P3 ho hg (Oper.wp_mono (fun a w h=>?_) (hend u w L hL hk));refine ⟨?_,h⟩;rw [List.eq_nil_iff_forall_not_mem];intro j hj;obtain ⟨h3,h4⟩:=Kx (by rw [Array.size_setIfInBounds];exact hl) hj;rw [Pf (by omega),hlt] at h4;by_cases hji:j=i
  ·rw [if_pos hji] at h4;cases h4
  ·rw [if_neg hji] at h4;simp at h4;omega
theorem Pp {id m:Nat}{J:(Nat→Bool)→(Nat→Value)→World→Prop}{a0:Act}{W:World}{o o':Oper}(hm:P.follows .mixedOrders=true)
 (hsz:m+2=ops.size) (ho:ops[m]?=some o) (hg:o.guard=none) (ho':ops[m+1]?=some o') (hg':o'.guard=none)
 (hap:Bs ops m=true) (hin:Cw ops m a0.tmps.size=true) (htl:Ja .any ops m=true) (hbk:Dr .any ops=true)
 (hJ:J (fun _=>false) (fun _=>undef) W.drew)
 (hstep:∀ i o,i<m→ops[i]?=some o→∀ L u a w,Mi .any ops m J a0 L u i a w→Mb P ops Q J L u i o a w)
 (hend:∀ u w L,(∀ i,i<m→L i=true)→J L u w→o.wp P (Ax ops (fun _=>true) u m a0) w (fun a w=>o'.wp P a w (Q .normal) Q) Q ∧
   (Bi .any ops (m+1) m=true∨o'.wp P (Ax ops (fun _=>true) u m a0) w (fun a w=>o.wp P a w (Q .normal) Q) Q)) :
 (Code.region id ops true).wp P Q a0 W:=by
 refine wp_region_any hm (On (by omega) hap hin htl hbk hJ hstep fun u w L hL hk listed hl hlt=>?_);obtain ⟨hA,hB⟩:=hend u w L hL hk;have hs:ops.size-m=1+1:=by omega
 rw [hs];have hdone:∀ (l:Array Bool) (a:Act) (w:World),l.size=ops.size→(∀ i,i<m+2→l.getD i false=true)→Q .normal a w→wpAny P .any ops Q 0 l a w:=by
  intro l a w hl h hq;refine ⟨?_,hq⟩;rw [List.eq_nil_iff_forall_not_mem];intro j hj;obtain ⟨h3,h4⟩:=Kx hl hj;rw [h j (by omega)] at h4;cases h4
 refine ⟨fun hn=>?_,fun i hi=>?_⟩
 ·have:=L5 (md:=.any) (m:=m) (by omega) hl hbk (fun i hi=>by rw [hlt];simp [hi]) (by rw [hlt];simp);rw [hn] at this;cases this
 ·obtain ⟨h1,h2⟩:=Kx hl hi;rw [hlt] at h2;simp at h2;have hsz2:∀ k:Nat,(listed.setIfInBounds k true).size=ops.size:=fun k=>by rw [Array.size_setIfInBounds];exact hl
  have hlk:∀ k j:Nat,k<ops.size→(listed.setIfInBounds k true).getD j false=if j=k then true else decide (j<m):=fun k j hk=>by
   rw [Pf (by omega),hlt]
  by_cases him:i=m
  ·subst him;refine P3 ho hg (Oper.wp_mono (fun a w h=>?_) hA);refine ⟨fun hn=>?_,fun j hj=>?_⟩
   ·have:=L5 (md:=.any) (m:=i+1) (by omega) (hsz2 i) hbk (fun j hj=>by rw [hlk i j h1];by_cases hji:j=i<;>simp [hji];omega) (by rw [hlk i _ h1];simp);rw [hn] at this;cases this
   ·obtain ⟨h3,h4⟩:=Kx (hsz2 i) hj;rw [hlk i j h1] at h4;by_cases hji:j=i
    ·rw [if_pos hji] at h4;cases h4
    ·rw [if_neg hji] at h4;simp at h4;obtain rfl:j=i+1:=by omega
     refine P3 ho' hg' (Oper.wp_mono (fun a w h=>?_) h);refine hdone _ a w (by rw [Array.size_setIfInBounds];exact hsz2 i) (fun l hl'=>?_) h;rw [Pf (by rw [hsz2];omega),hlk i l h1];by_cases e1:l=i+1
     ·rw [if_pos e1]
     ·rw [if_neg e1];by_cases e2:l=i
      ·rw [if_pos e2]
      ·rw [if_neg e2];simp;omega
  ·obtain rfl:i=m+1:=by omega
   rcases hB with hB | hB
   ·exfalso;obtain ⟨_,oi,hoi,hdep⟩:=mem_ready.1 hi;unfold Bi at hB;rw [hoi] at hB;simp only [Option.map_some,Option.getD_some,Array.any_eq_true'] at hB;obtain ⟨e,he,hb⟩:=hB;simp only [Bool.and_eq_true,beq_iff_eq] at hb;have:=hdep e he hb.1;rw [hb.2,hlt] at this;simp at this
   ·refine P3 ho' hg' (Oper.wp_mono (fun a w h=>?_) hB);refine ⟨fun hn=>?_,fun j hj=>?_⟩
    ·have:=L5 (md:=.any) (m:=m) (by omega) (hsz2 (m+1)) hbk (fun j hj=>by rw [hlk _ j h1,if_neg (by omega)];simp [hj]) (by rw [hlk _ _ h1,if_neg (by omega)];simp);rw [hn] at this;cases this
    ·obtain ⟨h3,h4⟩:=Kx (hsz2 (m+1)) hj;rw [hlk _ j h1] at h4;by_cases hji:j=m+1
     ·rw [if_pos hji] at h4;cases h4
     ·rw [if_neg hji] at h4;simp at h4;obtain rfl:j=m:=by omega
      refine P3 ho hg (Oper.wp_mono (fun a w h=>?_) h);refine hdone _ a w (by rw [Array.size_setIfInBounds];exact hsz2 _) (fun l hl'=>?_) h;rw [Pf (by rw [hsz2];omega),hlk _ l h1];by_cases e1:l=j
      ·rw [if_pos e1]
      ·rw [if_neg e1];by_cases e2:l=j+1
       ·rw [if_pos e2]
       ·rw [if_neg e2];simp;omega
theorem Tq {m:Nat}{V:Nat→Value→World→Prop}{a0:Act}{W:World}(hmono:∀ i v w w',Kept w w'→V i v w→V i v w')
 (hstep:∀ i o,i<m→ops[i]?=some o→∀ a w,Finds md ops m V a0 W i a w→Bf P ops Q V i o a w) :
 ∀ i o,i<m→ops[i]?=some o→∀ L u a w,Mi md ops m (fun L u w=>Kept W w∧∀ j,j<m→L j=true→V j (u j) w) a0 L u i a w→Mb P ops Q (fun L u w=>Kept W w∧∀ j,j<m→L j=true→V j (u j) w) L u i o a w:=by
 intro i o hi ho L u a w F;obtain ⟨f1,f2⟩:=F.frame;have h:=hstep i o hi ho a w ⟨f1,F.defers,fun j t h1 h2=>by rw [F.done j t h1 h2];exact f2 j (F.lt j (F.wait j h1)) (F.wait j h1),F.old⟩;have up:∀ (v:Value) (w':World),Kept w w'→V i v w'→Kept W w'∧∀ j,j<m→upd L i true j=true→V j (upd u i v j) w':=by
  intro v w' k hv;refine ⟨f1.trans k,fun j hj hL=>?_⟩;by_cases e:j=i
  ·subst e;simpa [upd] using hv
  ·have:L j=true:=by simpa [upd,e] using hL
   have:=hmono j _ w w' k (f2 j hj this);simpa [upd,e] using this
 unfold Bf at h;unfold Mb;by_cases hw:Region.wanted o (yielded ops a.tmps)=true
 ·rw [if_pos hw] at h ⊢;refine Oper.wp_mono (fun a' w' q=>?_) h;obtain ⟨v,rfl,k,hv⟩:=q;exact ⟨v,rfl,up v w' k hv⟩
 ·rw [if_neg hw] at h ⊢;exact up undef w (Below.refl _ _) h
theorem Aa8 {id m:Nat}{V:Nat→Value→World→Prop}{a0:Act}{W:World}(hm:P.follows .mixedOrders=true)
 (hsz:m=ops.size) (hap:Bs ops m=true) (hin:Cw ops m a0.tmps.size=true) (hbk:Dr .any ops=true)
 (hmono:∀ i v w w',Kept w w'→V i v w→V i v w')
 (hstep:∀ i o,i<m→ops[i]?=some o→∀ a w,Finds .any ops m V a0 W i a w→Bf P ops Q V i o a w)
 (hend:∀ u w,Kept W w→(∀ i,i<m→V i (u i) w)→Q .normal (Ax ops (fun _=>true) u m a0) w) :
 (Code.region id ops true).wp P Q a0 W :=
 My (J:=fun L u w=>Kept W w∧∀ j,j<m→L j=true→V j (u j) w) hm hsz hap hin hbk ⟨(Below.refl _ _).drew,fun _ _ h=>by cases h⟩ (Tq hmono hstep) (fun u w L hL hJ=>hend u w hJ.1 fun i hi=>hJ.2 i hi (hL i hi))
theorem Yw {id m:Nat}{V:Nat→Value→World→Prop}{a0:Act}{W:World}{o:Oper}(hm:P.follows .mixedOrders=true)
 (hsz:m+1=ops.size) (ho:ops[m]?=some o) (hg:o.guard=none) (hap:Bs ops m=true) (hin:Cw ops m a0.tmps.size=true) (htl:Ja .any ops m=true) (hbk:Dr .any ops=true)
 (hmono:∀ i v w w',Kept w w'→V i v w→V i v w')
 (hstep:∀ i o,i<m→ops[i]?=some o→∀ a w,Finds .any ops m V a0 W i a w→Bf P ops Q V i o a w)
 (hend:∀ u w,Kept W w→(∀ i,i<m→V i (u i) w)→o.wp P (Ax ops (fun _=>true) u m a0) w (Q .normal) Q) :
 (Code.region id ops true).wp P Q a0 W :=
 Wp (J:=fun L u w=>Kept W w∧∀ j,j<m→L j=true→V j (u j) w) hm hsz ho hg hap hin htl hbk ⟨(Below.refl _ _).drew,fun _ _ h=>by cases h⟩ (Tq hmono hstep) (fun u w L hL hJ=>hend u w hJ.1 fun i hi=>hJ.2 i hi (hL i hi))
theorem Yx {id m:Nat}{V:Nat→Value→World→Prop}{a0:Act}{W:World}{o o':Oper}(hm:P.follows .mixedOrders=true)
 (hsz:m+2=ops.size) (ho:ops[m]?=some o) (hg:o.guard=none) (ho':ops[m+1]?=some o') (hg':o'.guard=none)
 (hap:Bs ops m=true) (hin:Cw ops m a0.tmps.size=true) (htl:Ja .any ops m=true) (hbk:Dr .any ops=true)
 (hmono:∀ i v w w',Kept w w'→V i v w→V i v w')
 (hstep:∀ i o,i<m→ops[i]?=some o→∀ a w,Finds .any ops m V a0 W i a w→Bf P ops Q V i o a w)
 (hend:∀ u w,Kept W w→(∀ i,i<m→V i (u i) w)→o.wp P (Ax ops (fun _=>true) u m a0) w (fun a w=>o'.wp P a w (Q .normal) Q) Q ∧
   (Bi .any ops (m+1) m=true∨o'.wp P (Ax ops (fun _=>true) u m a0) w (fun a w=>o.wp P a w (Q .normal) Q) Q)) :
 (Code.region id ops true).wp P Q a0 W :=
 Pp (J:=fun L u w=>Kept W w∧∀ j,j<m→L j=true→V j (u j) w) hm hsz ho hg ho' hg' hap hin htl hbk ⟨(Below.refl _ _).drew,fun _ _ h=>by cases h⟩ (Tq hmono hstep) (fun u w L hL hJ=>hend u w hJ.1 fun i hi=>hJ.2 i hi (hL i hi))
end
section
variable {P:Program} {ops:Array Oper} {Q:Exit→Act→World→Prop} {md:Region.Mode}
def Nz (P:Program) (ops:Array Oper) (Q:Exit→Act→World→Prop) (J:(Nat→Bool)→World→Prop) (V:Nat→Value→World→Prop) (L:Nat→Bool) (i:Nat) (o:Oper) (a:Act) (w:World):Prop :=
 if Region.wanted o (yielded ops a.tmps)=true then o.wp P a w (fun a' w'=>∃ v,a'=a.put o.dst v∧(J (upd L i true) w'∧∀ j,j≠i→∀ u,V j u w→V j u w')∧V i v w') Q else J (upd L i true) w∧V i undef w
structure FindsG (md:Region.Mode) (ops:Array Oper) (m:Nat) (J:(Nat→Bool)→World→Prop) (V:Nat→Value→World→Prop) (a0:Act) (L:Nat→Bool) (i:Nat) (a:Act) (w:World):Prop where
 frame:J L w
 yet:L i=false
 wait:∀ j,Bi md ops i j=true→L j=true
 defers:a.defers=a0.defers
 done:∀ j t,Bi md ops i j=true→Al ops j=some t→V j (a.tmps.getD t undef) w
 old:∀ t,Eu md ops m i t=true→a.tmps.getD t undef=a0.tmps.getD t undef
theorem Yy {id m:Nat}{J:(Nat→Bool)→World→Prop}{V:Nat→Value→World→Prop}{a0:Act}{W:World}(hm:P.follows .mixedOrders=true)
 (hsz:m=ops.size) (hap:Bs ops m=true) (hin:Cw ops m a0.tmps.size=true) (hbk:Dr .any ops=true)
 (hJ:J (fun _=>false) W.drew)
 (hstep:∀ i o,i<m→ops[i]?=some o→∀ L a w,FindsG .any ops m J V a0 L i a w→Nz P ops Q J V L i o a w)
 (hend:∀ u w L,(∀ i,i<m→L i=true)→J L w→(∀ i,i<m→V i (u i) w)→Q .normal (Ax ops (fun _=>true) u m a0) w) :
 (Code.region id ops true).wp P Q a0 W:=by
 refine My (m:=m) (J:=fun L u w=>J L w∧∀ j,j<m→L j=true→V j (u j) w) hm hsz hap hin hbk ⟨hJ,fun _ _ h=>by cases h⟩ (fun i o hi ho L u a w F=>?_) (fun u w L hL hk=>hend u w L hL hk.1 (fun i hi=>hk.2 i hi (hL i hi)));obtain ⟨f1,f2⟩:=F.frame;have h:=hstep i o hi ho L a w ⟨f1,F.yet,F.wait,F.defers,fun j t h1 h2=>by rw [F.done j t h1 h2];exact f2 j (F.lt j (F.wait j h1)) (F.wait j h1),F.old⟩;have up:∀ (v:Value) (w':World),(∀ j,j≠i→∀ u,V j u w→V j u w')→V i v w'→∀ j,j<m→upd L i true j=true→V j (upd u i v j) w':=by
  intro v w' hs hv j hj hL;by_cases e:j=i
  ·subst e;simpa [upd] using hv
  ·have:L j=true:=by simpa [upd,e] using hL
   have:=hs j e _ (f2 j hj this);simpa [upd,e] using this
 unfold Nz at h;unfold Mb;by_cases hw:Region.wanted o (yielded ops a.tmps)=true
 ·rw [if_pos hw] at h ⊢;refine Oper.wp_mono (fun a' w' q=>?_) h;obtain ⟨v,rfl,⟨k1,k2⟩,hv⟩:=q;exact ⟨v,rfl,k1,up v w' k2 hv⟩
 ·rw [if_neg hw] at h ⊢;exact ⟨h.1,up undef w (fun j _ u h=>h) h.2⟩
end
end Go.Proofs.YtabjjdicffcolaaGreatDoor
