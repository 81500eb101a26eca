import Derived.Test.YtpejdgkaapnekaaGreatGP10
import Derived.Test.YtpejdgkaapnekaaGreatGEnvT
set_option linter.unusedVariables false
set_option linter.unusedSimpArgs false
set_option linter.unnecessarySimpa false
set_option maxHeartbeats 1000000
namespace Go.Abs
open Go
def tN : List Func→Bool
 | []=>true
 | f :: r => !(f.name == "runtime.NumGoroutine") && tN r
theorem wm : ∀ {l : List Func}, tN l = true → ∀ (f : Nat) (fn : Func), l[f]? = some fn → (fn.name == "runtime.NumGoroutine") = false
 | [],_,f,fn,h=>by simp at h
 | x::r,h,0,fn,e=>by
   simp only [tN,Bool.and_eq_true,Bool.not_eq_true'] at h
   simp at e; subst e; exact h.1
 | x::r,h,f + 1,fn,e=>by
   simp only [tN,Bool.and_eq_true,Bool.not_eq_true'] at h
   exact wm h.2 f fn (by simpa using e)
def u8s : List Nat→List UInt8
 | []=>[]
 | a::r=>UInt8.ofNat a::u8s r
end Go.Abs
namespace Go.Proofs.YtpejdgkaapnekaaGreat
open Go Go.Abs
theorem progOk : ProgOk Tryz.prog env:=⟨aq,by kernel_rfl,fun f fn h=>wm (l:=Tryz.prog.funcs.toList) (by kernel_rfl) f fn (by rw [Array.getElem?_toList]; exact h)⟩
end Go.Proofs.YtpejdgkaapnekaaGreat
