/- Words and contracts, part 3. -/
import Derived.Test.YtinbgjcooolbiaaGreatDoorClaimPartsp01
import Derived.Test.YtinbgjcooolbiaaGreatDoorClaimPartsp02
import Derived.WalkKit
import Derived.WalkSpells
import Derived.WalkLawsBesides
import Derived.Lib.Mul64
import Derived.Lib.TrailingZeros
import Derived.Laws.Bits64b
import Derived.Laws.Externs
set_option maxRecDepth 100000
set_option maxHeartbeats 0
namespace Go.Proofs.YtinbgjcooolbiaaGreatDoor
open Go.RowKit Go.Lib
def Cc (x y c:Nat):Nat:=(x+y+c)%18446744073709551616
def Cg (x y c:Nat):Nat:=(x+y+c)/18446744073709551616
def Jd (x y c:Nat):Nat:=(x+18446744073709551616-y-c)%18446744073709551616
def J5 (x y c:Nat):Nat:=if x<y+c then 1 else 0
def Dd (x y:Nat):Nat:=x*y%18446744073709551616
def Jc (x y:Nat):Nat:=x*y/18446744073709551616
theorem F5 {k:IntKind}{a b:Int}(h:a=b):Ending.returned (.int k a)=.returned (.int k b):=by rw [h]
theorem Jw (x y c:Nat)(hc:c≤1)(w:World) :
 (callFunc 129 #[.int .u64 x,.int .u64 y,.int .u64 c]).run Tryz.prog w =
   .ok (.value (.tuple #[.int .u64 (Cc x y c),.int .u64 (Cg x y c)])) w:=by
 rw [run_callFunc_extern Tryz.func129 (by kernel_rfl) (by kernel_rfl) (by kernel_rfl) (e:=add64Entry) (by kernel_rfl),run_add64 x y c (by omega) (by omega) (by omega) (by omega)];simp only [Result.andThen,Cc,Cg]
 congr 5<;>omega
def M5:Array Value→Sem Value:=fun args=>do
 let (x, y, b) ← Extern.MathBitsCarry.three "Sub64" args
 pure (Extern.MathBitsCarry.pair ((x+Extern.MathBitsCarry.m64-y-b)%Extern.MathBitsCarry.m64) (if x<y+b then 1 else 0))
theorem Va {P:Program}(x y b:Nat)(hb:b≤1)(w:World) :
 (M5 #[.int .u64 x,.int .u64 y,.int .u64 b]).run P w =
   .ok (Extern.MathBitsCarry.pair ((x+Extern.MathBitsCarry.m64-y-b)%Extern.MathBitsCarry.m64) (if x<y+b then 1 else 0)) w:=by
 have:b=0∨b=1:=by omega
 rcases this with rfl | rfl<;>rfl
theorem Ue (x y b:Nat)(hb:b≤1)(w:World) :
 (callFunc 140 #[.int .u64 x,.int .u64 y,.int .u64 b]).run Tryz.prog w =
   .ok (.value (.tuple #[.int .u64 (Jd x y b),.int .u64 (J5 x y b)])) w:=by
 rw [run_callFunc_extern Tryz.func140 (by kernel_rfl) (by kernel_rfl) (by kernel_rfl) (e:=M5) (by kernel_rfl),Va x y b hb];rfl
namespace Mul64
theorem maskN (a:Nat)(ha:a<18446744073709551616):bits .and .u64 (a:Int) 4294967295=((a%4294967296:Nat):Int):=by
 have h:=bits_and_u64_nat a 4294967295 ha (by omega);have e:a &&& 4294967295=a%4294967296:=Nat.and_two_pow_sub_one_eq_mod a 32;rw [e] at h;exact h
theorem divN (a:Nat):(a:Int)/4294967296=((a/4294967296:Nat):Int):=by omega
theorem mulN (a b:Nat):(a:Int)*(b:Int)=((a*b:Nat):Int):=(Int.natCast_mul a b).symm
theorem addN (a b:Nat):(a:Int)+(b:Int)=((a+b:Nat):Int):=(Int.natCast_add a b).symm
theorem wrapN (a:Nat)(ha:a<18446744073709551616):IntKind.u64.wrap (a:Int)=(a:Int):=by rw [IntKind.wrap_u64];omega
theorem wrapM (a:Nat):IntKind.u64.wrap (a:Int)=((a%18446744073709551616:Nat):Int):=by rw [IntKind.wrap_u64];omega
end Mul64
theorem Xm (x y:Nat)(hx:x<18446744073709551616)(hy:y<18446744073709551616)(w:World) :
 Calls Tryz.prog 128 #[.int .u64 x,.int .u64 y] w fun e w'=>e=.returned (.tuple #[.int .u64 (Jc x y),.int .u64 (Dd x y)])∧w=w':=by
 unfold Jc Dd;obtain ⟨bd,bt,bw,hhi⟩:=Lib.mul64_hi x y hx hy;have ba:=Lib.half_mul_le (a:=x/4294967296) (b:=y/4294967296) (by omega) (by omega);have bb:=Lib.half_mul_le (a:=x/4294967296) (b:=y%4294967296) (by omega) (by omega);have bc:=Lib.half_mul_le (a:=x%4294967296) (b:=y/4294967296) (by omega) (by omega);have ba':x/4294967296*(y/4294967296)<18446744073709551616:=by omega
 have bb':x/4294967296*(y%4294967296)<18446744073709551616:=by omega
 have bc':x%4294967296*(y/4294967296)<18446744073709551616:=by omega
 have bh1:x/4294967296*(y/4294967296)+(x/4294967296*(y%4294967296)+x%4294967296*(y%4294967296)/4294967296)/4294967296<18446744073709551616:=by omega
 have bh:x/4294967296*(y/4294967296)+(x/4294967296*(y%4294967296)+x%4294967296*(y%4294967296)/4294967296)/4294967296+((x/4294967296*(y%4294967296)+x%4294967296*(y%4294967296)/4294967296)%4294967296+x%4294967296*(y/4294967296))/4294967296<18446744073709551616:=by omega
 go_enter Tryz.func128,Tryz.ntmps128;go_wp2;simp only [Mul64.maskN x hx,Mul64.maskN y hy,Mul64.divN,Mul64.mulN,Mul64.addN,Mul64.wrapN _ bd,Mul64.wrapN _ bb',Mul64.wrapN _ bt,Mul64.maskN _ bt,Mul64.wrapN _ bc',Mul64.wrapN _ bw,Mul64.wrapN _ ba',Mul64.wrapN _ bh1,Mul64.wrapN _ bh,Mul64.wrapM (x*y)];rw [hhi]
 go_ret2
 exact ⟨rfl,rfl⟩
theorem Jy:∀ (f n:Nat),n<2^f→Lib.bitLenAux f n=bl n
 | 0, n, h => by
   have:n=0:=by simpa using h
   subst this;rfl
 | f + 1, n, h => by
   unfold Lib.bitLenAux;by_cases h0:n=0
   ·simp [h0,bl]
   ·rw [if_neg h0,Jy f (n/2) (by rw [Nat.pow_succ] at h;omega)];unfold bl;rw [if_neg h0];by_cases h1:n/2=0
    ·have:n=1:=by omega
     subst this;decide
    ·rw [if_neg h1];have:Nat.log2 n=Nat.log2 (n/2)+1:=by
      rw [Nat.log2_def];simp;omega
     omega
theorem Ui (n:Nat)(h:n<18446744073709551616):Lib.bitLen n=bl n:=Jy 64 n h
theorem Ab6 (x:Nat)(w:World)(h1:x<18446744073709551616) :
 Calls Tryz.prog 115 #[.int .u64 x] w fun e w'=>e=.returned (.int .i64 (64-bl x))∧w=w':=by
 have hb:=Ui x h1;have hle:bl x≤64:=by
  unfold bl;split
  ·omega
  ·rename_i h0;have:=(Nat.log2_lt h0 (k:=64)).2 (by omega);omega
 have H:Hid (Lib.bitLen x=bl x):=hb;clear hb;go_enter Tryz.func115,Tryz.ntmps115
 go_wp2_with (go_at_call 138;refine (Adn _ _ (by omega) (by omega)).mono ?_;rw [Int.toNat_natCast,H.out];rintro e w' ⟨rfl,rfl⟩)
 go_ret;exact ⟨rfl,rfl⟩
def Tab (w:World):Prop:=∀ j,j<64→w.cell? ⟨2,j,none⟩=some (.int .u8 (Lib.deBruijn64tab.getD j 0))
theorem Vn (x k idx:Nat)(w:World)(hx0:((x:Int)==0)=false)
 (key:IntKind.u64.wrap (bits BinOp.and IntKind.u64 (x:Int) (IntKind.u64.wrap (-(x:Int)))*285870213051353865)/288230376151711744=(idx:Int))
 (hi:idx<64) (hk:k<64) (hcell:w.cell? ⟨2,idx,none⟩=some (.int .u8 k)) :
 Calls Tryz.prog 141 #[.int .u64 x] w fun e w'=>e=.returned (.int .i64 k)∧w=w':=by
 go_enter Tryz.func141,Tryz.ntmps141
 go_wp2_with (simp only [key])
 go_ret;exact ⟨rfl,rfl⟩
theorem Y9 (x a:Nat)(hx:x<18446744073709551616)(hx0:x≠0)(hlow:x &&& (18446744073709551616-x)=a) :
 IntKind.u64.wrap (bits BinOp.and IntKind.u64 (x:Int) (IntKind.u64.wrap (-(x:Int)))*285870213051353865)/288230376151711744=((a*285870213051353865%18446744073709551616/288230376151711744:Nat):Int):=by
 have e1:IntKind.u64.wrap (-(x:Int))=((18446744073709551616-x:Nat):Int):=by rw [IntKind.wrap_u64];omega
 rw [e1,bits_and_u64_nat x _ hx (by omega),hlow,IntKind.wrap_u64];omega
theorem Ady (x:Nat)(hx:x<18446744073709551616)(hx0:x≠0)(w:World)(hT:Tab w) :
 Calls Tryz.prog 141 #[.int .u64 x] w fun e w'=>e=.returned (.int .i64 (Lib.ctz 64 x))∧w=w':=by
 obtain ⟨hlow,hk⟩:=Lib.lowest_bit 64 x hx0 hx;obtain ⟨hi,htab⟩:=Lib.deBruijn64_at _ hk;have hcell:=hT _ hi;rw [htab] at hcell;exact Vn x _ _ w (by simp;omega) (Y9 x _ hx hx0 hlow) hi hk hcell
theorem Abu (x:Nat)(hx:x<18446744073709551616)(hx0:x≠0):Lib.ctz 64 x=tz x:=by
 have p:(2:Nat)^64=18446744073709551616:=by decide
 obtain ⟨m,hm,_⟩:=Lib.ctzFrom_spec 64 x (by omega) (by omega);unfold Lib.ctz;rw [if_neg hx0];exact (Hg x _ (2*m+1) (by omega) (by rw [Nat.mul_comm];exact hm)).symm
theorem Adz (x:Nat)(hx:x<18446744073709551616)(hx0:x≠0)(w:World)(hT:Tab w) :
 Calls Tryz.prog 141 #[.int .u64 x] w fun e w'=>e=.returned (.int .i64 (tz x))∧w=w':=by
 rw [←Abu x hx hx0];exact Ady x hx hx0 w hT
theorem Bn {w:World}{a:Addr}{v:Value}(h:w.cell? a=some v):a.block<w.heap.size:=by
 unfold World.cell? at h;by_cases hlt:a.block<w.heap.size
 ·exact hlt
 ·have:w.heap[a.block]?=none:=by simp;omega
  rw [this] at h;simp at h
theorem Tab.kept {w w':World}(h:Tab w)(k:Below w.heap.size w w'):Tab w':=fun j hj=>(k.cell (p:=⟨_,j,none⟩) (Bn (h j hj))).trans (h j hj)
theorem Tab.drewN {w:World}(h:Tab w)(n:Nat):Tab (w.drewN n):=h
end Go.Proofs.YtinbgjcooolbiaaGreatDoor
