import Derived.Test.YtpejdgkaapnekaaGreatFP10
import Derived.Test.YtpejdgkaapnekaaGreatFEnvT
set_option linter.unusedVariables false
set_option linter.unusedSimpArgs false
set_option maxHeartbeats 1000000
namespace Go.Abs
open Go
def sh : List Func→Bool
 | []=>true
 | f :: r => !(f.name == "runtime.NumGoroutine") && sh r
theorem uI : ∀ {l : List Func}, sh l = true → ∀ (f : Nat) (fn : Func), l[f]? = some fn → (fn.name == "runtime.NumGoroutine") = false
 | [],_,f,fn,h=>by simp at h
 | x::r,h,0,fn,e=>by
   simp only [sh,Bool.and_eq_true,Bool.not_eq_true'] at h
   simp at e; subst e; exact h.1
 | x::r,h,f + 1,fn,e=>by
   simp only [sh,Bool.and_eq_true,Bool.not_eq_true'] at h
   exact uI h.2 f fn (by simpa using e)
def u8s : List Nat→List UInt8
 | []=>[]
 | a::r=>UInt8.ofNat a::u8s r
end Go.Abs
namespace Go.Proofs.YtpejdgkaapnekaaGreat
open Go Go.Abs
theorem progOk : ProgOk Tryz.prog env:=⟨aa,by kernel_rfl,fun f fn h=>uI (l:=Tryz.prog.funcs.toList) (by kernel_rfl) f fn (by rw [Array.getElem?_toList]; exact h)⟩
end Go.Proofs.YtpejdgkaapnekaaGreat
