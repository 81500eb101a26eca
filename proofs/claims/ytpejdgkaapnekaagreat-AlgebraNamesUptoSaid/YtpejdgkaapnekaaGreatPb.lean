import Derived.Test.YtpejdgkaapnekaaGreatP2
import Derived.Test.YtpejdgkaapnekaaGreatEnvT
set_option linter.unusedVariables false
set_option linter.unusedSimpArgs false
namespace Go.Abs
open Go
def namesB : List Func → Bool
  | [] => true
  | f :: r => !(f.name == "runtime.NumGoroutine") && namesB r
theorem namesB_ok : ∀ {l : List Func}, namesB l = true → ∀ (f : Nat) (fn : Func), l[f]? = some fn → (fn.name == "runtime.NumGoroutine") = false
  | [], _, f, fn, h => by simp at h
  | x :: r, h, 0, fn, e => by
    simp only [namesB, Bool.and_eq_true, Bool.not_eq_true'] at h
    simp at e; subst e; exact h.1
  | x :: r, h, f + 1, fn, e => by
    simp only [namesB, Bool.and_eq_true, Bool.not_eq_true'] at h
    exact namesB_ok h.2 f fn (by simpa using e)
def u8s : List Nat → List UInt8
  | [] => []
  | a :: r => UInt8.ofNat a :: u8s r
end Go.Abs
namespace Go.Proofs.YtpejdgkaapnekaaGreat
open Go Go.Abs
theorem progOk : ProgOk Tryz.prog env := ⟨envOk, by kernel_rfl, fun f fn h => namesB_ok (l := Tryz.prog.funcs.toList) (by kernel_rfl) f fn (by rw [Array.getElem?_toList]; exact h)⟩
end Go.Proofs.YtpejdgkaapnekaaGreat
