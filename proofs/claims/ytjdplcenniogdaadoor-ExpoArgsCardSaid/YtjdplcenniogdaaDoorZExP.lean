/- What the rounds of e^1 yield at 48 bits; what may tells of the few numbers: by reckoning. -/
import Derived.Test.YtjdplcenniogdaaDoorZExG
namespace Go.Proofs.YtjdplcenniogdaaDoor

def r9 : Dy := ⟨false, 1, -9⟩
def oL : Dy × Dy := (nearG 48 false r9 10 1 one one).getD (one, one)
def oH : Dy × Dy := (nearG 48 true r9 10 1 one one).getD (one, one)
theorem some_getD {α : Type} {o : Option α} {d : α} (h : o.isSome = true) : o = some (o.getD d) := by cases o <;> simp_all
theorem hL1 : nearG 48 false r9 10 1 one one = some oL := some_getD (by decide +kernel)
theorem hH1 : nearG 48 true r9 10 1 one one = some oH := some_getD (by decide +kernel)
def e173 : Dy := ⟨false, 173, -6⟩
theorem dy_ext {a b : Dy} (h1 : a.neg = b.neg) (h2 : a.m = b.m) (h3 : a.e = b.e) : a = b := by cases a; cases b; simp_all
theorem rL : rndS 8 false (bndD 48 false one oL) = e173 := dy_ext (by decide +kernel) (by decide +kernel) (by decide +kernel)
theorem rH : rndS 8 false (bndD 48 true one oH) = e173 := dy_ext (by decide +kernel) (by decide +kernel) (by decide +kernel)
theorem bndR1 : bndR (absD one) = r9 := dy_ext (by decide +kernel) (by decide +kernel) (by decide +kernel)
theorem may1 : mayX one.raw 8 = 0 := by decide +kernel
theorem may0 : mayX dz.raw 30 = 0 := by decide +kernel
theorem may65 : mayX ⟨false, [65], 0⟩ 30 = 4 := by decide +kernel
theorem may00 : mayX dz.raw 0 = 1 := by decide +kernel
end Go.Proofs.YtjdplcenniogdaaDoor
