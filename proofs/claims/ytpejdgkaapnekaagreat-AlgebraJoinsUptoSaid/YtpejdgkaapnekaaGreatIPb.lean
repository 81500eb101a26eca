import Derived.Test.YtpejdgkaapnekaaGreatIP9
import Derived.Test.YtpejdgkaapnekaaGreatIEnvT
set_option linter.unusedVariables false
set_option linter.unusedSimpArgs false
set_option maxHeartbeats 1000000
namespace Go.Abs
open Go
def qi:List Func→Bool
 | []=>true
 | f :: r => !(f.name == "runtime.NumGoroutine") && qi r
theorem sd : ∀ {l : List Func}, qi l = true → ∀ (f : Nat) (fn : Func), l[f]? = some fn → (fn.name == "runtime.NumGoroutine") = false
 | [],_,f,fn,h=>by simp at h
 | x::r,h,0,fn,e=>by
   simp only[qi,GZ,Hd] at h
   simp at e;subst e;exact h.1
 | x::r,h,f+1,fn,e=>by
   simp only[qi,GZ,Hd] at h
   exact sd h.2 f fn (by simpa using e)
def u8s:List Nat→List UInt8
 | []=>[]
 | a::r=>UInt8.ofNat a::u8s r
end Go.Abs
namespace Go.Proofs.YtpejdgkaapnekaaGreat
open Go Go.Abs
theorem progOk:ProgOk Tryz.prog env:=⟨envOk,by kernel_rfl,fun f fn h=>sd (l:=Tryz.prog.funcs.toList) (by kernel_rfl) f fn (by rw[HI];exact h)⟩
end Go.Proofs.YtpejdgkaapnekaaGreat
