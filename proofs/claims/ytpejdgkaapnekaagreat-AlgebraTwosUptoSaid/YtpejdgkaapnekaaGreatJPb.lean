import Derived.Test.YtpejdgkaapnekaaGreatJP10
import Derived.Test.YtpejdgkaapnekaaGreatJEnvT
set_option linter.unusedVariables false
set_option linter.unusedSimpArgs false
set_option maxHeartbeats 1000000
namespace Go.Abs
open Go
def qF : List Func→Bool
 | []=>true
 | f :: r => !(f.name == "runtime.NumGoroutine") && qF r
theorem sJ : ∀ {l : List Func}, qF l = true → ∀ (f : Nat) (fn : Func), l[f]? = some fn → (fn.name == "runtime.NumGoroutine") = false
 | [],_,f,fn,h=>by simp at h
 | x::r,h,0,fn,e=>by
   simp only [qF,Bool.and_eq_true,Bool.not_eq_true'] at h
   simp at e; subst e; exact h.1
 | x::r,h,f + 1,fn,e=>by
   simp only [qF,Bool.and_eq_true,Bool.not_eq_true'] at h
   exact sJ h.2 f fn (by simpa using e)
def u8s : List Nat→List UInt8
 | []=>[]
 | a::r=>UInt8.ofNat a::u8s r
end Go.Abs
namespace Go.Proofs.YtpejdgkaapnekaaGreat
open Go Go.Abs
theorem progOk : ProgOk Tryz.prog env:=⟨envOk,by kernel_rfl,fun f fn h=>sJ (l:=Tryz.prog.funcs.toList) (by kernel_rfl) f fn (by rw [Array.getElem?_toList]; exact h)⟩
end Go.Proofs.YtpejdgkaapnekaaGreat
