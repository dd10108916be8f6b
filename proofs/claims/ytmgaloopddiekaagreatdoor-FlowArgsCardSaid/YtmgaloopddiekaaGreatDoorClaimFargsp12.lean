/- Words and contracts, part 12. -/
import Derived.Test.YtmgaloopddiekaaGreatDoorClaimFargsp08
import Derived.Test.YtmgaloopddiekaaGreatDoorClaimFargsp09
import Derived.Test.YtmgaloopddiekaaGreatDoorClaimFargsp11
set_option maxRecDepth 100000
set_option maxHeartbeats 0
namespace Go.Proofs.YtmgaloopddiekaaGreatDoor
open Go.Lib (hid)
open Go.RowKit
theorem Qy (u:Value)(n:Nat):(Builtin.zeroCells #[u] n).toList=List.replicate n u:=by
 unfold Builtin.zeroCells;apply List.ext_getElem
 ·simp
 ·intro i h1 h2;have:i%1=0:=Nat.mod_one i;simp [this]
theorem Ux (n:Nat)(x:Nat):∀ u∈List.replicate n (Value.int .u64 x),u.oneCell'=true:=by
 intro u hu;rw [(List.mem_replicate.1 hu).2];rfl
theorem U1 {w:World}{v:Value}{xs:List Nat}(hv:Lim w v xs)(n:Nat)(hl:xs.length≤n)(hn:n≤200000) :
 Calls Tryz.prog 245 #[v,.int .i64 n] w fun e w'=>∃ v',e=.returned v'∧Own w' w.heap.size v' (xs++List.replicate (n-xs.length) 0)∧Kept w w':=by
 have hv':=hv;obtain ⟨hs,A,c,rfl,hc,hA⟩:=hv;have HV:=hid hv';clear hA hv' hs;generalize hlen:xs.length=l at *;have HL:=hid hlen;clear hlen;obtain ⟨i0,hi,hz0,hz1,hz2⟩:=info_parts Kx;have ez:=Qy (.int .u64 0) (n-l);have HZ:=hid ez;clear ez;go_enter Tryz.func245,Tryz.ntmps245
 go_wp2_with (first
  | (go_at_call 150;refine (Kz HV.out (by rw [HL.out];omega)).mono ?_;rintro e w1 ⟨v1,rfl,ho,hk⟩;have HO:=hid ho;have HK:=hid hk;clear ho hk)
  | (at_builtin;go_must (refine Gc _ rfl _ _ 28 3 rfl w.heap.size 54 i0 (.int .u64 0) .i64 .i64 Tryz.underlying28 Tryz.underlying3 hi hz0 (by rw [hz1];decide) (by rw [hz1];rfl) _ xs.length (xs.map U) rfl (by rw [hz1];exact HO.out) (n-l) _ rfl (by omega) (by show ∀ u∈(Builtin.zeroCells #[_] _).toList,_;rw [HZ.out];exact Ux _ _) (by unfold maxLen;rw [HL.out];omega) (by rw [HL.out,hz2];omega) HK.out.size ?_)))
 intro v' w2 hown2 hgrow2;have ho:Hid (Own w2 w.heap.size v' (xs++List.replicate (n-l) 0)):=by
  refine Dn (n:=xs.length+(n-l)) ?_;have h2:=hown2;rw [HZ.out] at h2;rw [List.map_replicate];exact h2
 have hk:Hid (Below w.heap.size w w2):=Below.grown HK.out hgrow2 HK.out.size (fun k hk=>(World.ownsRow.lt HO.out k hk).1);clear hown2 hgrow2;go_wp2_with fail;go_ret;exact ⟨_,rfl,ho.out,hk.out⟩
theorem Aer (x:Nat):val [x]=x:=by simp [val]
theorem Ys {w:World}{g:Nat}{x:Nat}(hx:x<18446744073709551616)(hg:g<w.heap.size)(hc:w.cell? ⟨g,0,none⟩=some (.int .u64 x))(c:Nat)(hc1:1≤c):Lim w (.slice (some ⟨g,0,none⟩) 1 c) [x]:=by
 refine ⟨fun y hy=>?_,some ⟨g,0,none⟩,c,rfl,hc1,fun _=>⟨g,0,rfl,hg,fun i hi=>?_⟩⟩
 ·rw [List.mem_singleton.1 hy];exact hx
 ·obtain rfl:i=0:=by simp at hi;omega
  exact hc
theorem Aal {w:World}{v:Value}{xs:List Nat}(hv:Lim w v xs)(b:Nat)(hb:0<b)(hb64:b<18446744073709551616)(hl:xs.length≤100000) :
 Calls Tryz.prog 244 #[v,.int .u64 b] w fun e w'=>∃ v1 v2,e=.returned (.tuple #[v1,v2])∧Lim w' v1 (limbs (val xs/b))∧Lim w' v2 (limbs (val xs%b))∧Kept w w':=by
 have hall:=Agl xs hv.1 b hb;rw [←hall.1,←hall.2];clear hall;obtain ⟨hs,A,c,rfl,hc,hA⟩:=hv;have HS:=hid hs;have HA:=hid hA;have hsm:=Js xs hs b hb;have HR:=hid (Qf xs b hb);have hln:=D9 xs b;have hst:=Jt xs b;have hz:shS xs b 0=(List.replicate xs.length 0,0):=rfl;clear hs hA;generalize hlen:xs.length=l at *;have HSM:=hid hsm;have HLN:=hid hln;have HST:=hid hst;have HZ:=hid hz;have HL:=hid hlen;clear hlen hsm hln hst hz;obtain ⟨i0,hi,hz0,hz1,hz2⟩:=info_parts Kx;go_enter Tryz.func244,Tryz.ntmps244
 go_wp2_with (at_make;go_must (refine wpList_make_full _ rfl _ _ 28 rfl w.heap.size 54 i0 (.int .u64 0) 1 Tryz.underlying28 hi hz0 hz1 .i64 .i64 _ _ l rfl rfl (by omega) (by omega) (by rw [hz2];omega) (by unfold maxLen;omega) (by simp) ?_))
 intro w1 hown1 hgrow1;have ho:Hid (Own w1 w.heap.size (.slice (some ⟨w.heap.size,0,none⟩) l l) (shS xs b 0).1):=by rw [HZ.out];exact Im hown1
 have hk:Hid (Below w.heap.size w w1):=Below.grown (Below.refl _ _) hgrow1 (by simp) (by intro k hk;cases hk);clear hown1 hgrow1;go_wp2_with fail;generalize hBase:w.heap.size=B at *;have HBASE:=hid hBase;clear hBase
 go_loopw [7,8] (fun r t wr=>∃ k:Nat,k≤l∧t=.int .i64 ((k:Int)-1)∧r=.int .u64 (shS xs b (l-k)).2∧Own wr B (.slice (some ⟨B,0,none⟩) l l) (shS xs b (l-k)).1∧Below B w wr) (fun _ t _=>(intOf t+1).toNat)
 case atStart=>exact ⟨l,Nat.le_refl _,rfl,by rw [Nat.sub_self,HZ.out];rfl,by rw [Nat.sub_self];exact ho.out,hk.out⟩
 case round =>
  obtain ⟨k,hkl,rfl,rfl,hO,hB⟩:=hrel;have HO:=hid hO;have HB:=hid hB;clear hO hB;cases k with
  | succ k =>
    obtain ⟨bb,off,rfl,hbb,hcell⟩:=HA.out (by omega);have hck:=(HB.out.cell (p:=⟨bb,off+k,none⟩) hbb).trans (hcell k (by omega));clear hcell;have ho1:=HO.out.cell k (by rw [HLN.out];omega);have hf1:=HO.out.frozen k;have hr:=HR.out (l-(k+1));have hx:=nth_lt HS.out k;have HS1:Hid (shS xs b (l-k)=((shS xs b (l-(k+1))).1.set k (((shS xs b (l-(k+1))).2*18446744073709551616+nth xs k)/b),((shS xs b (l-(k+1))).2*18446744073709551616+nth xs k)%b)):=by
     show _=_
     have:=HST.out (l-(k+1));rwa [show l-(k+1)+1=l-k by omega,show l-1-(l-(k+1))=k by omega] at this
    generalize shS xs b (l-(k+1))=s at *;obtain ⟨o,r⟩:=s;simp only at *;generalize nth xs k=x at *;generalize nth o k=y at *;have hdiv:=fun w=>Yd r x b hb64 hx hr w
    have HD:=hid hdiv;clear hdiv;obtain ⟨qd,hqd⟩:∃ qd,(r*18446744073709551616+x)/b=qd:=⟨_,rfl⟩;obtain ⟨rd,hrd⟩:∃ rd,(r*18446744073709551616+x)%b=rd:=⟨_,rfl⟩;rw [hqd,hrd] at HD HS1;clear hqd hrd
    go_wp2_with (go_at_call 254;refine (HD.out _).mono ?_;rintro e w' ⟨rfl,nd,rfl⟩)
    go_roundw
    case rel=>exact ⟨k,by omega,by go_num,by rw [HS1.out],by rw [HS1.out];exact HO.out.stored _ _,(below_drewN HB.out _).setCell (Nat.le_refl _) _⟩
    case measure=>simp [intOf]
  | zero =>
    have hlim:=HO.out.lim (HSM.out _);rw [Nat.sub_zero] at hlim;have hr:=HR.out l;rw [Nat.sub_zero] at HO ⊢;have hlen:=HLN.out l;generalize hsE:shS xs b l=s at *;obtain ⟨o,r⟩:=s;have HSE:=hid hsE;clear hsE;simp only at *;have HLM:=hid hlim;clear hlim
    go_wp2_with (fail)
    refine (G6 HLM.out (by rw [hlen];omega)).mono ?_;rintro e w' ⟨v1,rfl,hv1,rfl⟩;have HV1:=hid hv1;clear hv1
    go_wp2_with (fail)
    have hl1:Lim (wr.alloc (.cells #[.int .u64 r] 54)) (.slice (some ⟨wr.heap.size,0,none⟩) 1 1) [r]:=Ys (by omega) (by simp) (by simp [go_sem]) 1 (Nat.le_refl _);have hk1:Hid (Kept wr (wr.alloc (.cells #[.int .u64 r] 54))):=(Below.refl _ _).alloc (Nat.le_refl _) _;have HL1:=hid hl1;clear hl1;refine (G6 HL1.out (by simp)).mono ?_;rintro e w' ⟨v2,rfl,hv2,rfl⟩;have HV2:=hid hv2;clear hv2
    go_wp2_with (fail)
    refine bodyPost_ret (v:=.tuple #[v1,v2]) (by simp [results,Tryz.results244,go_sem]) rfl ⟨v1,v2,rfl,by rw [HSE.out];exact HV1.out.kept hk1.out,?_,?_⟩
    ·have:=HV2.out;rw [Aer] at this;rw [HSE.out];exact this
    ·rw [Kept,HBASE.out];exact HB.out.alloc (by rw [←HBASE.out];exact HB.out.size) _
end Go.Proofs.YtmgaloopddiekaaGreatDoor
