/- Words and contracts, part 3. -/
import Derived.Test.YtmgaloopddiekaaGreatDoorClaimFargsp01
import Derived.Test.YtmgaloopddiekaaGreatDoorClaimFargsp02
import Derived.WalkKit
import Derived.WalkSpells
import Derived.WalkLawsBesides
import Derived.Lib.Mul64
import Derived.Lib.TrailingZeros
import Derived.Laws.Bits64b
import Derived.Laws.Externs
set_option maxRecDepth 100000
set_option maxHeartbeats 0
namespace Go.Proofs.YtmgaloopddiekaaGreatDoor
open Go.RowKit Go.Lib
def Cz (x y c:Nat):Nat:=(x+y+c)%18446744073709551616
def C7 (x y c:Nat):Nat:=(x+y+c)/18446744073709551616
def Lt (x y c:Nat):Nat:=(x+18446744073709551616-y-c)%18446744073709551616
def Mx (x y c:Nat):Nat:=if x<y+c then 1 else 0
def Ec (x y:Nat):Nat:=x*y%18446744073709551616
def Ls (x y:Nat):Nat:=x*y/18446744073709551616
theorem H4 {k:IntKind}{a b:Int}(h:a=b):Ending.returned (.int k a)=.returned (.int k b):=by rw [h]
theorem Mh (x y c:Nat)(hc:c≤1)(w:World) :
 (callFunc 166 #[.int .u64 x,.int .u64 y,.int .u64 c]).run Tryz.prog w =
   .ok (.value (.tuple #[.int .u64 (Cz x y c),.int .u64 (C7 x y c)])) w:=by
 rw [run_callFunc_extern Tryz.func166 (by kernel_rfl) (by kernel_rfl) (by kernel_rfl) (e:=add64Entry) (by kernel_rfl),run_add64 x y c (by omega) (by omega) (by omega) (by omega)];simp only [Result.andThen,Cz,C7]
 congr 5<;>omega
def Qj:Array Value→Sem Value:=fun args=>do
 let (x, y, b) ← Extern.MathBitsCarry.three "Sub64" args
 pure (Extern.MathBitsCarry.pair ((x+Extern.MathBitsCarry.m64-y-b)%Extern.MathBitsCarry.m64) (if x<y+b then 1 else 0))
theorem Aah {P:Program}(x y b:Nat)(hb:b≤1)(w:World) :
 (Qj #[.int .u64 x,.int .u64 y,.int .u64 b]).run P w =
   .ok (Extern.MathBitsCarry.pair ((x+Extern.MathBitsCarry.m64-y-b)%Extern.MathBitsCarry.m64) (if x<y+b then 1 else 0)) w:=by
 have:b=0∨b=1:=by omega
 rcases this with rfl | rfl<;>rfl
theorem Y8 (x y b:Nat)(hb:b≤1)(w:World) :
 (callFunc 167 #[.int .u64 x,.int .u64 y,.int .u64 b]).run Tryz.prog w =
   .ok (.value (.tuple #[.int .u64 (Lt x y b),.int .u64 (Mx x y b)])) w:=by
 rw [run_callFunc_extern Tryz.func167 (by kernel_rfl) (by kernel_rfl) (by kernel_rfl) (e:=Qj) (by kernel_rfl),Aah x y b hb];rfl
namespace Mul64
theorem maskN (a:Nat)(ha:a<18446744073709551616):bits .and .u64 (a:Int) 4294967295=((a%4294967296:Nat):Int):=by
 have h:=bits_and_u64_nat a 4294967295 ha (by omega);have e:a &&& 4294967295=a%4294967296:=Nat.and_two_pow_sub_one_eq_mod a 32;rw [e] at h;exact h
theorem divN (a:Nat):(a:Int)/4294967296=((a/4294967296:Nat):Int):=by omega
theorem mulN (a b:Nat):(a:Int)*(b:Int)=((a*b:Nat):Int):=(Int.natCast_mul a b).symm
theorem addN (a b:Nat):(a:Int)+(b:Int)=((a+b:Nat):Int):=(Int.natCast_add a b).symm
theorem wrapN (a:Nat)(ha:a<18446744073709551616):IntKind.u64.wrap (a:Int)=(a:Int):=by rw [IntKind.wrap_u64];omega
theorem wrapM (a:Nat):IntKind.u64.wrap (a:Int)=((a%18446744073709551616:Nat):Int):=by rw [IntKind.wrap_u64];omega
end Mul64
theorem Acz (x y:Nat)(hx:x<18446744073709551616)(hy:y<18446744073709551616)(w:World) :
 Calls Tryz.prog 185 #[.int .u64 x,.int .u64 y] w fun e w'=>e=.returned (.tuple #[.int .u64 (Ls x y),.int .u64 (Ec x y)])∧w=w':=by
 unfold Ls Ec;obtain ⟨bd,bt,bw,hhi⟩:=Lib.mul64_hi x y hx hy;have ba:=Lib.half_mul_le (a:=x/4294967296) (b:=y/4294967296) (by omega) (by omega);have bb:=Lib.half_mul_le (a:=x/4294967296) (b:=y%4294967296) (by omega) (by omega);have bc:=Lib.half_mul_le (a:=x%4294967296) (b:=y/4294967296) (by omega) (by omega);have ba':x/4294967296*(y/4294967296)<18446744073709551616:=by omega
 have bb':x/4294967296*(y%4294967296)<18446744073709551616:=by omega
 have bc':x%4294967296*(y/4294967296)<18446744073709551616:=by omega
 have bh1:x/4294967296*(y/4294967296)+(x/4294967296*(y%4294967296)+x%4294967296*(y%4294967296)/4294967296)/4294967296<18446744073709551616:=by omega
 have bh:x/4294967296*(y/4294967296)+(x/4294967296*(y%4294967296)+x%4294967296*(y%4294967296)/4294967296)/4294967296+((x/4294967296*(y%4294967296)+x%4294967296*(y%4294967296)/4294967296)%4294967296+x%4294967296*(y/4294967296))/4294967296<18446744073709551616:=by omega
 go_enter Tryz.func185,Tryz.ntmps185;go_wp2;simp only [Mul64.maskN x hx,Mul64.maskN y hy,Mul64.divN,Mul64.mulN,Mul64.addN,Mul64.wrapN _ bd,Mul64.wrapN _ bb',Mul64.wrapN _ bt,Mul64.maskN _ bt,Mul64.wrapN _ bc',Mul64.wrapN _ bw,Mul64.wrapN _ ba',Mul64.wrapN _ bh1,Mul64.wrapN _ bh,Mul64.wrapM (x*y)];rw [hhi]
 go_ret2
 exact ⟨rfl,rfl⟩
theorem Mk:∀ (f n:Nat),n<2^f→Lib.bitLenAux f n=bl n
 | 0, n, h => by
   have:n=0:=by simpa using h
   subst this;rfl
 | f + 1, n, h => by
   unfold Lib.bitLenAux;by_cases h0:n=0
   ·simp [h0,bl]
   ·rw [if_neg h0,Mk f (n/2) (by rw [Nat.pow_succ] at h;omega)];unfold bl;rw [if_neg h0];by_cases h1:n/2=0
    ·have:n=1:=by omega
     subst this;decide
    ·rw [if_neg h1];have:Nat.log2 n=Nat.log2 (n/2)+1:=by
      rw [Nat.log2_def];simp;omega
     omega
theorem Ze (n:Nat)(h:n<18446744073709551616):Lib.bitLen n=bl n:=Mk 64 n h
theorem Ah2 (x:Nat)(w:World)(h1:x<18446744073709551616) :
 Calls Tryz.prog 163 #[.int .u64 x] w fun e w'=>e=.returned (.int .i64 (64-bl x))∧w=w':=by
 have hb:=Ze x h1;have hle:bl x≤64:=by
  unfold bl;split
  ·omega
  ·rename_i h0;have:=(Nat.log2_lt h0 (k:=64)).2 (by omega);omega
 have H:Hid (Lib.bitLen x=bl x):=hb;clear hb;go_enter Tryz.func163,Tryz.ntmps163
 go_wp2_with (go_at_call 193;refine (Ajk _ _ (by omega) (by omega)).mono ?_;rw [Int.toNat_natCast,H.out];rintro e w' ⟨rfl,rfl⟩)
 go_ret;exact ⟨rfl,rfl⟩
def Tab (w:World):Prop:=∀ j,j<64→w.cell? ⟨0,j,none⟩=some (.int .u8 (Lib.deBruijn64tab.getD j 0))
theorem Aav (x k idx:Nat)(w:World)(hx0:((x:Int)==0)=false)
 (key:IntKind.u64.wrap (bits BinOp.and IntKind.u64 (x:Int) (IntKind.u64.wrap (-(x:Int)))*285870213051353865)/288230376151711744=(idx:Int))
 (hi:idx<64) (hk:k<64) (hcell:w.cell? ⟨0,idx,none⟩=some (.int .u8 k)) :
 Calls Tryz.prog 168 #[.int .u64 x] w fun e w'=>e=.returned (.int .i64 k)∧w=w':=by
 go_enter Tryz.func168,Tryz.ntmps168
 go_wp2_with (simp only [key])
 go_ret;exact ⟨rfl,rfl⟩
theorem Aeo (x a:Nat)(hx:x<18446744073709551616)(hx0:x≠0)(hlow:x &&& (18446744073709551616-x)=a) :
 IntKind.u64.wrap (bits BinOp.and IntKind.u64 (x:Int) (IntKind.u64.wrap (-(x:Int)))*285870213051353865)/288230376151711744=((a*285870213051353865%18446744073709551616/288230376151711744:Nat):Int):=by
 have e1:IntKind.u64.wrap (-(x:Int))=((18446744073709551616-x:Nat):Int):=by rw [IntKind.wrap_u64];omega
 rw [e1,bits_and_u64_nat x _ hx (by omega),hlow,IntKind.wrap_u64];omega
theorem Aj4 (x:Nat)(hx:x<18446744073709551616)(hx0:x≠0)(w:World)(hT:Tab w) :
 Calls Tryz.prog 168 #[.int .u64 x] w fun e w'=>e=.returned (.int .i64 (Lib.ctz 64 x))∧w=w':=by
 obtain ⟨hlow,hk⟩:=Lib.lowest_bit 64 x hx0 hx;obtain ⟨hi,htab⟩:=Lib.deBruijn64_at _ hk;have hcell:=hT _ hi;rw [htab] at hcell;exact Aav x _ _ w (by simp;omega) (Aeo x _ hx hx0 hlow) hi hk hcell
theorem Ahq (x:Nat)(hx:x<18446744073709551616)(hx0:x≠0):Lib.ctz 64 x=tz x:=by
 have p:(2:Nat)^64=18446744073709551616:=by decide
 obtain ⟨m,hm,_⟩:=Lib.ctzFrom_spec 64 x (by omega) (by omega);unfold Lib.ctz;rw [if_neg hx0];exact (Nz x _ (2*m+1) (by omega) (by rw [Nat.mul_comm];exact hm)).symm
theorem Aj5 (x:Nat)(hx:x<18446744073709551616)(hx0:x≠0)(w:World)(hT:Tab w) :
 Calls Tryz.prog 168 #[.int .u64 x] w fun e w'=>e=.returned (.int .i64 (tz x))∧w=w':=by
 rw [←Ahq x hx hx0];exact Aj4 x hx hx0 w hT
theorem Bg {w:World}{a:Addr}{v:Value}(h:w.cell? a=some v):a.block<w.heap.size:=by
 unfold World.cell? at h;by_cases hlt:a.block<w.heap.size
 ·exact hlt
 ·have:w.heap[a.block]?=none:=by simp;omega
  rw [this] at h;simp at h
theorem Tab.kept {w w':World}(h:Tab w)(k:Below w.heap.size w w'):Tab w':=fun j hj=>(k.cell (p:=⟨_,j,none⟩) (Bg (h j hj))).trans (h j hj)
theorem Tab.drewN {w:World}(h:Tab w)(n:Nat):Tab (w.drewN n):=h
end Go.Proofs.YtmgaloopddiekaaGreatDoor
