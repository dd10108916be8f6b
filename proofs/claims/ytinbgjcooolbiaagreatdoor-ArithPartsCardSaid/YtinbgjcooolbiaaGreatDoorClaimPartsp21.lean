/- Words and contracts, part 21. -/
import Derived.Test.YtinbgjcooolbiaaGreatDoorClaimPartsp08
set_option maxRecDepth 100000
set_option maxHeartbeats 0
namespace Go.Proofs.YtinbgjcooolbiaaGreatDoor.Dg
open Go.Lib (hid)
open Go.RowKit
def four (x:Nat):List Nat:=[x%65536,x/65536%65536,x/4294967296%65536,x/281474976710656%65536]
def Dk:List Nat→List Nat
 | []=>[]
 | x::xs=>four x++Dk xs
theorem Hp:∀ xs,(Dk xs).length=4*xs.length
 | []=>rfl
 | x::xs=>by simp only [Dk,List.length_append,Hp xs,List.length_cons,four,List.length_nil];omega
theorem J3:∀ xs ys,Dk (xs++ys)=Dk xs++Dk ys
 | [],ys=>rfl
 | x::xs,ys=>by simp only [List.cons_append,Dk,J3 xs ys,List.append_assoc]
theorem Se (xs:List Nat)(k:Nat)(h:k<xs.length):Dk (xs.take (k+1))=Dk (xs.take k)++four (nth xs k):=by
 rw [Fm xs k h,J3,Dk,Dk,List.append_nil]
theorem Sd (x:Nat):Small (four x):=by
 intro y hy;simp only [four,List.mem_cons,List.not_mem_nil,or_false] at hy;rcases hy with rfl | rfl | rfl | rfl<;>exact Nat.mod_lt _ (by decide)
theorem K7:∀ xs,Small (Dk xs)
 | []=>fun x hx=>by cases hx
 | x :: xs => fun y hy => by
   rcases List.mem_append.1 hy with h | h
   ·exact Sd x y h
   ·exact K7 xs y h
theorem Zb (x:Nat)(h:x<18446744073709551616):val (four x)=x:=by
 simp only [four,val];omega
theorem Oe:∀ xs,Go.Proofs.YtinbgjcooolbiaaGreatDoor.Small xs→val (Dk xs)=Go.Proofs.YtinbgjcooolbiaaGreatDoor.val xs
 | [],_=>rfl
 | x :: xs, h => by
   have h1:=h x (List.mem_cons_self ..);have h2:=Oe xs (fun y hy=>h y (List.mem_cons_of_mem _ hy));rw [Dk,val_append,Zb x h1,h2,show (four x).length=4 from rfl,show (65536:Nat)^4=18446744073709551616 by decide]
   show _=x+_
   rfl
theorem Jv (n:Int):IntKind.u32.wrap n=n%4294967296:=by simp [IntKind.wrap,IntKind.signed,IntKind.bits]
theorem Oi (a b:Nat)(ha:a<4294967296)(hb:b<4294967296):bits .and .u32 (a:Int) (b:Int)=((a &&& b:Nat):Int):=by
 have hx:a &&& b<2^32:=Nat.and_lt_two_pow _ (by omega);have h1:(BitVec.ofInt 32 (a:Int)).toNat=a:=by
  rw [BitVec.ofInt_natCast,BitVec.toNat_ofNat];exact Nat.mod_eq_of_lt (by omega)
 have h2:(BitVec.ofInt 32 (b:Int)).toNat=b:=by
  rw [BitVec.ofInt_natCast,BitVec.toNat_ofNat];exact Nat.mod_eq_of_lt (by omega)
 show IntKind.u32.wrap ((BitVec.ofInt 32 (a:Int) &&& BitVec.ofInt 32 (b:Int)).toNat:Int)=_
 rw [BitVec.toNat_and,h1,h2,Jv];omega
theorem Sm (a b:Nat)(ha:a<4294967296)(hb:b<4294967296):bits .or .u32 (a:Int) (b:Int)=((a ||| b:Nat):Int):=by
 have hx:a ||| b<2^32:=Nat.or_lt_two_pow (by omega) (by omega)
 have h1:(BitVec.ofInt 32 (a:Int)).toNat=a:=by
  rw [BitVec.ofInt_natCast,BitVec.toNat_ofNat];exact Nat.mod_eq_of_lt (by omega)
 have h2:(BitVec.ofInt 32 (b:Int)).toNat=b:=by
  rw [BitVec.ofInt_natCast,BitVec.toNat_ofNat];exact Nat.mod_eq_of_lt (by omega)
 show IntKind.u32.wrap ((BitVec.ofInt 32 (a:Int) ||| BitVec.ofInt 32 (b:Int)).toNat:Int)=_
 rw [BitVec.toNat_or,h1,h2,Jv];omega
theorem Ta (y:Nat):bits .and .u32 (IntKind.u32.wrap (y:Int)) 65535=((y%65536:Nat):Int):=by
 have e:IntKind.u32.wrap (y:Int)=((y%4294967296:Nat):Int):=by rw [Jv];omega
 rw [e,show (65535:Int)=((65535:Nat):Int) from rfl,Oi _ _ (Nat.mod_lt _ (by decide)) (by decide)];rw [show (65535:Nat)=2^16-1 from rfl,Nat.and_two_pow_sub_one_eq_mod];omega
theorem Ab1 {w:World}{v:Value}{xs:List Nat}(hv:Go.Proofs.YtinbgjcooolbiaaGreatDoor.Lim w v xs)(hl:xs.length≤100000) :
 Calls Tryz.prog 107 #[v] w (RetLim (limbs (Go.Proofs.YtinbgjcooolbiaaGreatDoor.val xs)) w):=by
 obtain ⟨hs,A,c,rfl,hc,hA⟩:=hv;have HV:=hid (Oe xs hs);have HX:=hid (fun k=>Go.Proofs.YtinbgjcooolbiaaGreatDoor.nth_lt hs k);rw [←HV.out];clear HV;have HA:=hid hA;clear hA hs;obtain ⟨i0,hi,hz0,hz1,hz2⟩:=info_parts uinfo;generalize hlen:xs.length=l at *;have HL:=hid hlen;clear hlen;go_enter Tryz.func107,Tryz.ntmps107;go_wp2_with fail
 go_loopw [3,4] (fun o i wr=>∃ k:Nat,k≤l∧i=.int .i64 k∧Own wr w.heap.size o (Dk (xs.take k))∧Below w.heap.size w wr) (fun _ i _=>(l-intOf i).toNat)
 case atStart=>exact ⟨0,Nat.zero_le _,rfl,World.ownsRow_nil _ _ _ _,Below.refl _ _⟩
 case round =>
  obtain ⟨k,hkl,rfl,hO,hB⟩:=hrel;have HO:=hid hO;have HB:=hid hB;clear hO hB;by_cases hlt:k<l
  ·obtain ⟨b,off,rfl,hb,hcell⟩:=HA.out (by omega);have HC:=hid (hcell k hlt);have HT:=hid (Se xs k (by rw [HL.out];omega));have hxk:=HX.out k;have hlo:(Dk (xs.take k)).length=4*k:=by rw [Hp,List.length_take,HL.out];omega
   have HLO:=hid hlo;clear hcell hlo;generalize nth xs k=x at *;go_wp2_with fail
   go_loopw [3,5] (fun o i wr=>∃ j:Nat,j≤4∧i=.int .i64 j∧Own wr w.heap.size o (Dk (xs.take k)++(four x).take j)∧Below w.heap.size w wr) (fun _ i _=>(4-intOf i).toNat)
   case atStart=>exact ⟨0,Nat.zero_le _,rfl,by rw [List.take_zero,List.append_nil];exact HO.out,HB.out⟩
   case round =>
    obtain ⟨j,hj,rfl,hO,hB⟩:=hrel;replace HO:=hid hO;replace HB:=hid hB;clear hO hB;have hck:=(HB.out.cell (p:=⟨b,off+k,none⟩) hb).trans HC.out;by_cases hj4:j<4
    ·obtain rfl | rfl | rfl | rfl:j=0∨j=1∨j=2∨j=3:=by omega
     ·obtain ⟨d,hd,hx⟩:∃ d:Nat,d=x%65536∧bits .and .u32 ((x:Int)%4294967296) 65535=(d:Int):=⟨_,rfl,by rw [←Ta (x),Jv]⟩;obtain ⟨L,hL⟩:∃ L,L=Dk (xs.take k)++(four x).take 0:=⟨_,rfl⟩;rw [←hL] at HO;have HLL:Hid (L.length=4*k+0):=by rw [hL,List.length_append,HLO.out,List.length_take];rfl
      have HD:Hid (L++[d]=Dk (xs.take k)++(four x).take (0+1)):=by rw [hL,hd,List.append_assoc];rfl
      clear hd hL
      go_wp2_with (at_builtin;go_must (refine wpList_append_own _ rfl _ _ 79 rfl w.heap.size 91 i0 (.int .u32 0) 1 4 Tryz.underlying79 hi hz0 hz1 hz2 rfl (by decide) _ L.length (L.map U) rfl (World.ownsRow.alloc HO.out _) ⟨_,0,none⟩ 1 1 [_] rfl rfl (Bk _ _ _) (by simp [Value.oneCell']) (by rw [HLL.out];unfold maxLen;omega) (by rw [HLL.out];omega) (by have:=HB.out.size;simp;omega) ?_))
      intro v' w2 hown2 hgrow2 _;have ho:Hid (Own w2 w.heap.size v' (L++[d])):=own_of_rows (ys:=[d]) hown2;have hk:Hid (Below w.heap.size w w2):=Below.grown (HB.out.alloc HB.out.size _) hgrow2 (by have:=HB.out.size;simp;omega) (fun k hk=>(World.ownsRow.lt HO.out k hk).1);clear hown2 hgrow2 hx;go_wp2_with fail;go_roundw
      case rel=>exact ⟨1,by omega,by go_num,by rw [HD.out] at ho;exact ho.out,hk.out⟩
      case measure=>simp [intOf]
     ·obtain ⟨d,hd,hx⟩:∃ d:Nat,d=x/65536%65536∧bits .and .u32 ((x:Int)/65536%4294967296) 65535=(d:Int):=⟨_,rfl,by rw [←Ta (x/65536),Jv];rfl⟩;obtain ⟨L,hL⟩:∃ L,L=Dk (xs.take k)++(four x).take 1:=⟨_,rfl⟩;rw [←hL] at HO;have HLL:Hid (L.length=4*k+1):=by rw [hL,List.length_append,HLO.out,List.length_take];rfl
      have HD:Hid (L++[d]=Dk (xs.take k)++(four x).take (1+1)):=by rw [hL,hd,List.append_assoc];rfl
      clear hd hL
      go_wp2_with (at_builtin;go_must (refine wpList_append_own _ rfl _ _ 79 rfl w.heap.size 91 i0 (.int .u32 0) 1 4 Tryz.underlying79 hi hz0 hz1 hz2 rfl (by decide) _ L.length (L.map U) rfl (World.ownsRow.alloc HO.out _) ⟨_,0,none⟩ 1 1 [_] rfl rfl (Bk _ _ _) (by simp [Value.oneCell']) (by rw [HLL.out];unfold maxLen;omega) (by rw [HLL.out];omega) (by have:=HB.out.size;simp;omega) ?_))
      intro v' w2 hown2 hgrow2 _;have ho:Hid (Own w2 w.heap.size v' (L++[d])):=own_of_rows (ys:=[d]) hown2;have hk:Hid (Below w.heap.size w w2):=Below.grown (HB.out.alloc HB.out.size _) hgrow2 (by have:=HB.out.size;simp;omega) (fun k hk=>(World.ownsRow.lt HO.out k hk).1);clear hown2 hgrow2 hx;go_wp2_with fail;go_roundw
      case rel=>exact ⟨2,by omega,by go_num,by rw [HD.out] at ho;exact ho.out,hk.out⟩
      case measure=>simp [intOf]
     ·obtain ⟨d,hd,hx⟩:∃ d:Nat,d=x/4294967296%65536∧bits .and .u32 ((x:Int)/4294967296%4294967296) 65535=(d:Int):=⟨_,rfl,by rw [←Ta (x/4294967296),Jv];rfl⟩;have hx2:bits .and .u32 ((x:Int)/4294967296) 65535=(d:Int):=by rw [←hx];congr 1;omega
      obtain ⟨L,hL⟩:∃ L,L=Dk (xs.take k)++(four x).take 2:=⟨_,rfl⟩;rw [←hL] at HO;have HLL:Hid (L.length=4*k+2):=by rw [hL,List.length_append,HLO.out,List.length_take];rfl
      have HD:Hid (L++[d]=Dk (xs.take k)++(four x).take (2+1)):=by rw [hL,hd,List.append_assoc];rfl
      clear hd hL
      go_wp2_with (at_builtin;go_must (refine wpList_append_own _ rfl _ _ 79 rfl w.heap.size 91 i0 (.int .u32 0) 1 4 Tryz.underlying79 hi hz0 hz1 hz2 rfl (by decide) _ L.length (L.map U) rfl (World.ownsRow.alloc HO.out _) ⟨_,0,none⟩ 1 1 [_] rfl rfl (Bk _ _ _) (by simp [Value.oneCell']) (by rw [HLL.out];unfold maxLen;omega) (by rw [HLL.out];omega) (by have:=HB.out.size;simp;omega) ?_))
      intro v' w2 hown2 hgrow2 _;have ho:Hid (Own w2 w.heap.size v' (L++[d])):=own_of_rows (ys:=[d]) hown2;have hk:Hid (Below w.heap.size w w2):=Below.grown (HB.out.alloc HB.out.size _) hgrow2 (by have:=HB.out.size;simp;omega) (fun k hk=>(World.ownsRow.lt HO.out k hk).1);clear hown2 hgrow2 hx hx2;go_wp2_with fail;go_roundw
      case rel=>exact ⟨3,by omega,by go_num,by rw [HD.out] at ho;exact ho.out,hk.out⟩
      case measure=>simp [intOf]
     ·obtain ⟨d,hd,hx⟩:∃ d:Nat,d=x/281474976710656%65536∧bits .and .u32 ((x:Int)/281474976710656%4294967296) 65535=(d:Int):=⟨_,rfl,by rw [←Ta (x/281474976710656),Jv];rfl⟩;have hx2:bits .and .u32 ((x:Int)/281474976710656) 65535=(d:Int):=by rw [←hx];congr 1;omega
      obtain ⟨L,hL⟩:∃ L,L=Dk (xs.take k)++(four x).take 3:=⟨_,rfl⟩;rw [←hL] at HO;have HLL:Hid (L.length=4*k+3):=by rw [hL,List.length_append,HLO.out,List.length_take];rfl
      have HD:Hid (L++[d]=Dk (xs.take k)++(four x).take (3+1)):=by rw [hL,hd,List.append_assoc];rfl
      clear hd hL
      go_wp2_with (at_builtin;go_must (refine wpList_append_own _ rfl _ _ 79 rfl w.heap.size 91 i0 (.int .u32 0) 1 4 Tryz.underlying79 hi hz0 hz1 hz2 rfl (by decide) _ L.length (L.map U) rfl (World.ownsRow.alloc HO.out _) ⟨_,0,none⟩ 1 1 [_] rfl rfl (Bk _ _ _) (by simp [Value.oneCell']) (by rw [HLL.out];unfold maxLen;omega) (by rw [HLL.out];omega) (by have:=HB.out.size;simp;omega) ?_))
      intro v' w2 hown2 hgrow2 _;have ho:Hid (Own w2 w.heap.size v' (L++[d])):=own_of_rows (ys:=[d]) hown2;have hk:Hid (Below w.heap.size w w2):=Below.grown (HB.out.alloc HB.out.size _) hgrow2 (by have:=HB.out.size;simp;omega) (fun k hk=>(World.ownsRow.lt HO.out k hk).1);clear hown2 hgrow2 hx hx2;go_wp2_with fail;go_roundw
      case rel=>exact ⟨4,by omega,by go_num,by rw [HD.out] at ho;exact ho.out,hk.out⟩
      case measure=>simp [intOf]
    ·obtain rfl:j=4:=by omega
     go_wp2_with fail;go_roundw
     case rel=>exact ⟨k+1,by omega,by go_num,by rw [HT.out];exact HO.out,HB.out⟩
     case measure=>simp [intOf];omega
  ·obtain rfl:k=l:=by omega
   have hlim:=HO.out.lim (K7 _);rw [List.take_of_length_le (by rw [HL.out];omega)] at hlim;have HLM:=hid hlim;clear hlim
   go_wp2_with (go_at_call 130;refine (Em HLM.out (by rw [Hp,HL.out];omega)).mono ?_;rintro e w' ⟨v',rfl,hv',rfl⟩;have HV':=hid hv';clear hv')
   go_ret;exact ⟨_,rfl,HV'.out,HB.out⟩
def shS (xs:List Nat) (r:Nat):Nat→List Nat × Nat
 | 0=>([],0)
 | i+1=>((shS xs r i).1++[(nth xs i*2^r+(shS xs r i).2)%65536],(nth xs i*2^r+(shS xs r i).2)/65536)
theorem Db (xs:List Nat)(r:Nat):∀ i,(shS xs r i).1.length=i
 | 0=>rfl
 | i+1=>by rw [shS,List.length_append,Db xs r i];rfl
theorem Hc (xs:List Nat)(r:Nat):∀ i,Small (shS xs r i).1
 | 0=>fun x hx=>by cases hx
 | i + 1 => fun x hx => by
   rw [shS] at hx;rcases List.mem_append.1 hx with h | h
   ·exact Hc xs r i x h
   ·have:x=(nth xs i*2^r+(shS xs r i).2)%65536:=by simpa using h
    rw [this];exact Nat.mod_lt _ (by decide)
theorem Ob {xs:List Nat}(hs:Small xs)(r:Nat):∀ i,(shS xs r i).2<2^r
 | 0=>Nat.pow_pos (by decide)
 | i + 1 => by
   rw [shS];have h1:=nth_lt hs i;have h2:=Ob hs r i;have h3:(nth xs i+1)*2^r≤65536*2^r:=Nat.mul_le_mul_right _ h1;rw [Nat.add_mul,Nat.one_mul] at h3;exact Nat.div_lt_of_lt_mul (by omega)
theorem Kd {xs:List Nat}(r:Nat):∀ i,i≤xs.length→val (shS xs r i).1+65536^i*(shS xs r i).2=val (xs.take i)*2^r
 | 0,_=>by simp [shS,val]
 | i + 1, h => by
   have ih:=Kd (xs:=xs) r i (by omega);rw [shS,val_append,Db,Bf xs i (by omega),Nat.add_mul,←ih,Nat.pow_succ];simp only [val,Nat.mul_zero,Nat.add_zero];generalize (shS xs r i).2=c;have:=Nat.mod_add_div (nth xs i*2^r+c) 65536;rw [Nat.mul_assoc (65536^i) 65536,Nat.add_assoc,←Nat.mul_add,this,Nat.mul_add,←Nat.add_assoc,Nat.mul_assoc (65536^i) (nth xs i)];exact Nat.add_right_comm _ _ _
theorem Vp (q:Nat)(xs:List Nat):val (List.replicate q 0++xs)=65536^q*val xs:=by
 induction q with
 | zero=>simp
 | succ q ih=>rw [List.replicate_succ,List.cons_append,val,ih,Nat.pow_succ];rw [Nat.zero_add,←Nat.mul_assoc,Nat.mul_comm 65536]
theorem Aau {xs:List Nat}(q r:Nat):val (List.replicate q 0++((shS xs r xs.length).1++[(shS xs r xs.length).2]))=val xs*2^(16*q+r):=by
 rw [Vp,val_append,Db];simp only [val,Nat.mul_zero,Nat.add_zero];rw [Kd r xs.length (Nat.le_refl _),List.take_length,Nat.pow_add,Nat.pow_mul,show (2:Nat)^16=65536 from rfl,Nat.mul_left_comm]
theorem Pc {x c r:Nat}(h:c<2^r):x*2^r ||| c=x*2^r+c:=by
 rw [Nat.mul_comm,Nat.two_pow_add_eq_or_of_lt h]
theorem Ys {x c r:Nat}(hx:x<65536)(hr:r<16)(hc:c<2^r):bits .or .u32 ((x:Int)*2^r%4294967296) (c:Int)=((x*2^r+c:Nat):Int)∧x*2^r+c<4294967296:=by
 have h1:2^r≤2^15:=Nat.pow_le_pow_right (by decide) (by omega);have h2:x*2^r≤65535*2^15:=Nat.mul_le_mul (by omega) h1;have e:(x:Int)*2^r%4294967296=((x*2^r:Nat):Int):=by
  have:(x:Int)*2^r=((x*2^r:Nat):Int):=by simp
  rw [this];omega
 rw [e,Sm _ _ (by omega) (by omega),Pc hc];exact ⟨rfl,by omega⟩
theorem Hl (y:Nat)(h:y<4294967296):bits .and .u32 (y:Int) 65535=((y%65536:Nat):Int):=by
 rw [show (65535:Int)=((65535:Nat):Int) from rfl,Oi _ _ h (by decide)];rw [show (65535:Nat)=2^16-1 from rfl,Nat.and_two_pow_sub_one_eq_mod]
theorem Aat {w:World}{v:Value}{xs:List Nat}(hv:Lim w v xs)(n:Nat)(hl:xs.length≤100000)(h0:0<xs.length)(hn:n≤6400000) :
 Calls Tryz.prog 90 #[v,.int .i64 n] w (RetLimF (limbs (val (List.replicate (n/16) 0++((shS xs (n%16) xs.length).1++[(shS xs (n%16) xs.length).2])))) w):=by
 obtain ⟨hs,A,c,rfl,hc,hA⟩:=hv;obtain ⟨b,off,rfl,hb,hcell⟩:=hA h0;have HC:=hid hcell;have HX:=hid (nth_lt hs);have HCY:=hid (Ob hs (n%16));clear hcell hA hs;obtain ⟨i0,hi,hz0,hz1,hz2⟩:=info_parts uinfo;generalize hlen:xs.length=l at *;have HL:=hid hlen;clear hlen;have e0:(((l:Nat):Int)==0)=false:=by rw [beq_eq_false_iff_ne];omega
 go_enter Tryz.func90,Tryz.ntmps90
 go_wp2_with (at_make;go_must (refine wpList_make_full _ rfl _ _ 79 rfl w.heap.size 91 i0 (.int .u32 0) 1 Tryz.underlying79 hi hz0 hz1 .i64 .i64 _ _ (n/16) rfl rfl (by omega) (by omega) (by rw [hz2];omega) (by unfold maxLen;omega) (by simp) ?_))
 intro w1 hown1 hgrow1;have ho:Hid (Own w1 w.heap.size (.slice (some ⟨w.heap.size,0,none⟩) (n/16) (n/16)) (List.replicate (n/16) 0)):=E8 hown1;have hk:Hid (Below w.heap.size w w1):=Below.grown (Below.refl _ _) hgrow1 (by simp) (by intro k hk;cases hk);clear hown1 hgrow1;have hr16:n%16<16:=Nat.mod_lt _ (by decide);go_wp2_with fail
 go_loopw [5,6,7] (fun o cy i wr=>∃ k:Nat,k≤l∧i=.int .i64 k∧cy=.int .u32 ((shS xs (n%16) k).2:Nat)∧Own wr w.heap.size o (List.replicate (n/16) 0++(shS xs (n%16) k).1)∧Below w.heap.size w wr) (fun _ _ i _=>(l-intOf i).toNat)
 case atStart=>exact ⟨0,Nat.zero_le _,rfl,rfl,by rw [shS,List.append_nil];exact ho.out,hk.out⟩
 case round =>
  obtain ⟨k,hkl,rfl,rfl,hO,hB⟩:=hrel;have HO:=hid hO;have HB:=hid hB;clear hO hB;by_cases hlt:k<l
  ·have hck:=(HB.out.cell (p:=⟨b,off+k,none⟩) hb).trans (HC.out k hlt);have hxk:=HX.out k;have hcy:=HCY.out k;have HST:=hid (show shS xs (n%16) (k+1)=((shS xs (n%16) k).1++[(nth xs k*2^(n%16)+(shS xs (n%16) k).2)%65536],(nth xs k*2^(n%16)+(shS xs (n%16) k).2)/65536) from rfl);have hL:(List.replicate (n/16) 0++(shS xs (n%16) k).1).length=n/16+k:=by rw [List.length_append,List.length_replicate,Db]
   obtain ⟨L,hLL⟩:∃ L,L=List.replicate (n/16) 0++(shS xs (n%16) k).1:=⟨_,rfl⟩;rw [←hLL] at HO hL;have HLL:=hid hLL;have HLN:=hid hL;clear hLL hL;obtain ⟨y,hy⟩:∃ y,y=nth xs k*2^(n%16)+(shS xs (n%16) k).2:=⟨_,rfl⟩;obtain ⟨d,hd⟩:∃ d,d=y%65536:=⟨_,rfl⟩;have hor:=(Ys hxk hr16 hcy).1;have hlt2:=(Ys hxk hr16 hcy).2;rw [←hy] at HST hor hlt2;have hand:=Hl y hlt2;rw [←hd] at HST hand;have HD:=hid hd;clear hy hd hcy;generalize (shS xs (n%16) k).2=cy at *;generalize nth xs k=x at *
   go_wp2_with (at_builtin;go_must (refine wpList_append_own _ rfl _ _ 79 rfl w.heap.size 91 i0 (.int .u32 0) 1 4 Tryz.underlying79 hi hz0 hz1 hz2 rfl (by decide) _ L.length (L.map U) rfl (World.ownsRow.alloc HO.out _) ⟨_,0,none⟩ 1 1 [_] rfl rfl (Bk _ _ _) (by simp [Value.oneCell']) (by rw [HLN.out];unfold maxLen;omega) (by rw [HLN.out];omega) (by have:=HB.out.size;simp;omega) ?_))
   intro v' w2 hown2 hgrow2 _;have ho:Hid (Own w2 w.heap.size v' (L++[d])):=own_of_rows (ys:=[d]) hown2;have hk:Hid (Below w.heap.size w w2):=Below.grown (HB.out.alloc HB.out.size _) hgrow2 (by have:=HB.out.size;simp;omega) (fun k hk=>(World.ownsRow.lt HO.out k hk).1);clear hown2 hgrow2 hor hand;go_wp2_with fail;go_roundw
   case rel=>exact ⟨k+1,by omega,by go_num,by rw [HST.out];go_num,by rw [HST.out];rw [HLL.out,List.append_assoc] at ho;exact ho.out,hk.out⟩
   case measure=>simp [intOf];omega
  ·obtain rfl:k=l:=by omega
   have hcy:=HCY.out k;have hL:(List.replicate (n/16) 0++(shS xs (n%16) k).1).length=n/16+k:=by rw [List.length_append,List.length_replicate,Db]
   obtain ⟨L,hLL⟩:∃ L,L=List.replicate (n/16) 0++(shS xs (n%16) k).1:=⟨_,rfl⟩;have hsm:Small L:=by
    rw [hLL];intro x hx;rcases List.mem_append.1 hx with h | h
    ·rw [(List.mem_replicate.1 h).2];decide
    ·exact Hc _ _ _ x h
   have hp:2^(n%16)≤2^15:=Nat.pow_le_pow_right (by decide) (by omega);have hgoal:List.replicate (n/16) 0++((shS xs (n%16) k).1++[(shS xs (n%16) k).2])=L++[(shS xs (n%16) k).2]:=by rw [hLL,List.append_assoc]
   have HG:=hid hgoal;rw [←hLL] at HO hL;have HLN:=hid hL;have HSM:=hid hsm;generalize (shS xs (n%16) k).2=cy at *;have hc2:cy<65536:=by omega
   clear hLL hL hsm hgoal hp hcy
   go_wp2_with (at_builtin;go_must (refine wpList_append_own _ rfl _ _ 79 rfl w.heap.size 91 i0 (.int .u32 0) 1 4 Tryz.underlying79 hi hz0 hz1 hz2 rfl (by decide) _ L.length (L.map U) rfl (World.ownsRow.alloc HO.out _) ⟨_,0,none⟩ 1 1 [_] rfl rfl (Bk _ _ _) (by simp [Value.oneCell']) (by rw [HLN.out];unfold maxLen;omega) (by rw [HLN.out];omega) (by have:=HB.out.size;simp;omega) ?_))
   intro v' w2 hown2 hgrow2 _;have ho:Hid (Own w2 w.heap.size v' (L++[cy])):=own_of_rows (ys:=[cy]) hown2;have hk:Hid (Below w.heap.size w w2):=Below.grown (HB.out.alloc HB.out.size _) hgrow2 (by have:=HB.out.size;simp;omega) (fun k hk=>(World.ownsRow.lt HO.out k hk).1);clear hown2 hgrow2;have hlim:=ho.out.lim (by
    intro x hx;rcases List.mem_append.1 hx with h | h
    ·exact HSM.out x h
    ·have:x=cy:=by simpa using h
     omega)
   have HLM:=hid hlim;clear hlim
   go_wp2_with (go_at_call 130;refine (S5 ho.out HLM.out.1 (by rw [List.length_append,HLN.out];simp;omega)).mono ?_;rintro e w' ⟨v',rfl,hv',hf',rfl⟩;have HV':=hid hv';have FR:=hid hf';clear hv' hf')
   go_ret;exact ⟨_,rfl,by rw [HG.out];exact HV'.out,hk.out,.inr FR.out⟩
theorem Abd {w:World}{v:Value}{m:Nat}(hv:Lim w v (limbs m))(n:Nat)(hl:(limbs m).length≤100000)(hn:n≤6400000) :
 Calls Tryz.prog 90 #[v,.int .i64 n] w (RetLimF (limbs (m*2^n)) w):=by
 by_cases h0:m=0
 ·subst h0;rw [limbs_zero] at *;rw [Nat.zero_mul,limbs_zero];have hv':=hv;obtain ⟨hs,A,c,rfl,hc,hA⟩:=hv;clear hs hA hc hl;refine Calls.mono (R:=fun e w'=>e=.returned (.slice A ([]:List Nat).length c)∧w=w') ?_ (fun e w' ⟨he,hw⟩=>by subst hw;exact ⟨_,he,hv',Below.refl _ _,.inl rfl⟩);clear hv';have e0:(((([]:List Nat).length:Nat):Int)==0)=true:=rfl;go_enter Tryz.func90,Tryz.ntmps90;go_wp2_with fail;go_ret;exact ⟨rfl,rfl⟩
 ·have:=Aat hv n hl (length_limbs_pos m h0) hn;rwa [Aau,val_limbs,show 16*(n/16)+n%16=n by omega] at this
theorem shl_c {w:World}{v:Value}{m:Nat}(hv:Lim w v (limbs m))(n:Nat)(hl:(limbs m).length≤100000)(hn:n≤6400000) :
 Calls Tryz.prog 90 #[v,.int .i64 n] w (RetLim (limbs (m*2^n)) w):=(Abd hv n hl hn).mono fun _ _ h=>h.lim
end Go.Proofs.YtinbgjcooolbiaaGreatDoor.Dg
