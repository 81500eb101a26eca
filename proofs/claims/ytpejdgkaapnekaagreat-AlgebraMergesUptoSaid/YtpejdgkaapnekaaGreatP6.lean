import Derived.LoopNIn
import Derived.Laws.RangeAny
import Derived.Test.YtpejdgkaapnekaaGreatRows
import Derived.Deep.Slices
import Derived.Deep.DeepHandedRow
import Derived.ReadAgain
import Derived.MapPlaces
import Derived.WalkKit
import Derived.ProofKit
import Derived.OpenShut
import Derived.JoinedCond
import Derived.Test.YtpejdgkaapnekaaGreatPb
import Derived.Test.YtpejdgkaapnekaaGreatP2
set_option linter.unusedVariables false
set_option linter.unusedSimpArgs false
namespace Go.Proofs.YtpejdgkaapnekaaGreat
open Go Go.Abs
attribute [local irreducible] OkOps OkC DRun thenQ blockQ RetQ
set_option maxRecDepth 10000
def letterF (c : Nat) : Bool := decide (97 ≤ c) && decide (c ≤ 122)
def furtherF (c : Nat) : Bool := letterF c || (decide (48 ≤ c) && decide (c ≤ 57)) || decide (c = 95)
def nameF (s : List UInt8) : Bool := decide (1 ≤ s.length) && decide (s.length ≤ 12) && letterF (at_ s 0).toNat && s.all (fun c => furtherF c.toNat)
end Go.Proofs.YtpejdgkaapnekaaGreat
namespace Go.Proofs.YtpejdgkaapnekaaGreat
open Go Go.Abs
attribute [local irreducible] OkOps OkC DRun thenQ blockQ RetQ
set_option maxRecDepth 10000
structure Dim where
  name : List UInt8
  lo : Int
  hi : Int
  deriving Inhabited
structure Attr where
  name : List UInt8
  type : Int
  deriving Inhabited
def encDim (d : Dim) : List D := [.str d.name, .int .i64 d.lo, .int .i64 d.hi]
def encDims (l : List Dim) : D := .sl 3 32 (l.map encDim)
def encAttr (a : Attr) : List D := [.str a.name, .int .i64 a.type]
def encAttrs (l : List Attr) : D := .sl 2 24 (l.map encAttr)
def encInt (n : Int) : List D := [.int .i64 n]
def encInts (l : List Int) : D := .sl 1 8 (l.map encInt)
def lastF (hi : Int) : Int := min hi 1073741824
theorem c247 (nm : List UInt8) (lo hi : Int) : CallA Tryz.prog 247 [.agg [.d (.str nm), .d (.int .i64 lo), .d (.int .i64 hi)]] [] (.one (.d (.int .i64 (lastF hi)))) [] := by
  refine enter tabOk Tryz.func247 rfl (by decide +kernel) rfl fun hok w0 σ0 φ0 M => ?_
  repeat' (first | (show OkOps _ _ _ _ _ _; first | refine okops_nil ?_ | refine s_plain tabOk rfl rfl rfl rfl rfl ?_ | (show OkOps _ _ _ (Oper.mk _ (Op.box _ _) _ _ _ (_) :: _) _ _; first | refine s_box 0 rfl rfl rfl rfl rfl rfl ?_ | fail) | fail) | (show OkC _ _ _ _ _; first | refine ok_seq ?_ | refine ok_region ?_ | refine ok_ret ?_ | fail) | (show thenQ _ _ _ _; first | refine then_n ?_ | fail) | (show RetQ _ _ _ _ _ _; first | refine ret_leaf (.inl rfl) rfl rfl ?_ | fail) | fail)
  all_goals (try (((simp_all [lastF, at_drop, List.drop_eq_nil_of_le]) <;> first | omega | (rw [Bool.eq_iff_iff]; simp; omega) | grind); done))
def boundsF (lo hi : Int) : Bool := decide (-1073741824 ≤ lo) && decide (lo ≤ 1073741824) && decide (lo ≤ hi) && decide (hi ≤ 1073741825)
def withinL : List Dim → List Int → Bool
  | d :: ds, x :: xs => decide (d.lo ≤ x) && decide (x ≤ lastF d.hi) && withinL ds xs
  | _, _ => true
def ofF (ds : List Dim) (at' : List Int) : Bool := decide (at'.length = ds.length) && withinL ds at'
def dimsGo : List (List UInt8) → List Dim → Int
  | _, [] => 0
  | met, d :: r => if !nameF d.name || met.contains d.name then 11 else if !boundsF d.lo d.hi then 3 else dimsGo (met ++ [d.name]) r
def dimsF (ds : List Dim) : Int := if (ds.length : Int) < 1 ∨ 4 < (ds.length : Int) then 13 else dimsGo [] ds
def attrsGo : List (List UInt8) → List Attr → Int
  | _, [] => 0
  | met, a :: r => if !nameF a.name || met.contains a.name then 11 else if a.type < 1 ∨ 4 < a.type then 12 else attrsGo (met ++ [a.name]) r
def schemaF (ds : List Dim) (ats : List Attr) : Int := if dimsF ds ≠ 0 then dimsF ds else if (ats.length : Int) < 1 ∨ 6 < (ats.length : Int) then 9 else attrsGo (ds.map Dim.name) ats
end Go.Proofs.YtpejdgkaapnekaaGreat
namespace Go.Proofs.YtpejdgkaapnekaaGreat
open Go Go.Abs
attribute [local irreducible] OkOps OkC DRun thenQ blockQ RetQ
set_option maxRecDepth 10000
structure Val where
  kind : Int
  num : Int
  den : Int
  str : List UInt8
  deriving Inhabited
def encVal (v : Val) : List D := [.int .i64 v.kind, .int .i64 v.num, .int .i64 v.den, .str v.str]
def encVals (l : List Val) : D := .sl 4 40 (l.map encVal)
def plainF (d : Int) (s : List UInt8) : Bool := d == 0 && s == []
theorem c279 (k n d : Int) (s : List UInt8) : CallA Tryz.prog 279 [.agg [.d (.int .i64 k), .d (.int .i64 n), .d (.int .i64 d), .d (.str s)]] [] (.one (.d (.bool (plainF d s)))) [] := by
  refine enter tabOk Tryz.func279 rfl (by decide +kernel) rfl fun hok w0 σ0 φ0 M => ?_
  repeat' (first | (show OkOps _ _ _ _ _ _; first | refine okops_nil ?_ | refine s_plain tabOk rfl rfl rfl rfl rfl ?_ | (show OkOps _ _ _ (Oper.mk _ (_) _ _ _ (some _) :: _) _ _; first | refine s_guard rfl rfl (by first | assumption | rfl) ?_ | refine s_out rfl rfl (by first | assumption | rfl) rfl rfl ?_ | refine s_split rfl rfl rfl rfl (fun h => ?_) (fun h => ?_) | fail) | (show OkOps _ _ _ (Oper.mk _ (Op.pick _ _ _) _ _ _ (_) :: _) _ _; first | refine s_e envOk rfl rfl rfl (step3_pickT rfl rfl (by first | rfl | assumption) rfl) ?_ | refine s_e envOk rfl rfl rfl (step3_pickF rfl rfl (by first | rfl | assumption) rfl) ?_ | fail) | (show OkOps _ _ _ (Oper.mk _ (Op.box _ _) _ _ _ (_) :: _) _ _; first | refine s_box 0 rfl rfl rfl rfl rfl rfl ?_ | fail) | fail) | (show OkC _ _ _ _ _; first | refine ok_seq ?_ | refine ok_region ?_ | refine ok_ret ?_ | fail) | (show thenQ _ _ _ _; first | refine then_n ?_ | fail) | (show RetQ _ _ _ _ _ _; first | refine ret_leaf (.inl rfl) rfl rfl ?_ | fail) | fail)
  all_goals (try (((simp_all [plainF, at_drop, List.drop_eq_nil_of_le]) <;> first | omega | (rw [Bool.eq_iff_iff]; simp; omega) | grind); done))
theorem c280 (a b : Nat) : CallA Tryz.prog 280 [.one (.d (.int .i64 a)), .one (.d (.int .i64 b))] [] (.one (.d (.int .i64 (Nat.gcd a b)))) [] := by
  refine enter tabOk Tryz.func280 rfl (by decide +kernel) rfl fun hok w0 σ0 φ0 M => ?_
  repeat' (first | (show OkOps _ _ _ _ _ _; first | refine okops_nil ?_ | refine s_plain tabOk rfl rfl rfl rfl rfl ?_ | fail) | (show OkC _ _ _ _ _; first | refine ok_seq ?_ | refine ok_region ?_ | refine ok_block ?_ | refine ok_skip ?_ | refine ok_ret ?_ | refine ok_exit ?_ | refine ok_cond rfl (fun h => ?_) (fun h => ?_) | refine ok_regionD progOk.mo ?_ | refine s_loop 1 rfl [] subL_nil (fun (p : Nat × Nat) => [(0, .one (.d (.int .i64 (p.1 : Int)))), (1, .one (.d (.int .i64 (p.2 : Int))))]) (fun (p : Nat × Nat) => Nat.gcd p.1 p.2 = Nat.gcd a b) (fun (p : Nat × Nat) => p.2) (a, b) (subL_cons rfl (subL_cons rfl subL_nil)) ?_ (fun p hg => ?_) | fail) | (show thenQ _ _ _ _; first | refine then_n ?_ | refine then_x ?_ | fail) | (show blockQ _ _ _ _; first | refine block_n ?_ | refine block_x rfl ?_ | fail) | (show RetQ _ _ _ _ _ _; first | refine ret_leaf (.inl rfl) rfl rfl ?_ | fail) | (show DRun _ _ _ _ _ _ _ _; first | refine d_nil (by kernel_rfl) ?_ | refine d_e envOk rfl rfl rfl (step3_plain rfl rfl) ?_ | (show DRun _ _ _ _ (Oper.mk _ (Op.binOp .rem _ _ _ _) _ _ _ (_) :: _) _ _ _; first | refine d_e envOk rfl rfl rfl (step3_rem rfl rfl rfl rfl (by first | omega | ((try simp only [decide_eq_true_eq, decide_eq_false_iff_not, Bool.not_eq_true', Bool.not_true, Bool.not_false, List.length_map, List.length_set, bne_iff_ne, ne_eq, beq_iff_eq, bne_eq_false_iff_eq, beq_eq_false_iff_ne] at *); omega))) ?_ | fail) | fail) | (show Exists _; first | refine Exists.intro ((p.2, p.1 % p.2)) ⟨?_, ?_, (by first | exact subL_nil | exact (subL_cons rfl subL_nil) | exact (subL_cons rfl (subL_cons rfl subL_nil)) | exact (subL_cons rfl (subL_cons rfl (subL_cons rfl subL_nil))) | exact (subL_cons rfl (subL_cons rfl (subL_cons rfl (subL_cons rfl subL_nil)))) | exact (subL_cons rfl (subL_cons rfl (subL_cons rfl (subL_cons rfl (subL_cons rfl subL_nil))))) | exact (subL_cons rfl (subL_cons rfl (subL_cons rfl (subL_cons rfl (subL_cons rfl (subL_cons rfl subL_nil)))))) | exact (subL_cons rfl (subL_cons rfl (subL_cons rfl (subL_cons rfl (subL_cons rfl (subL_cons rfl (subL_cons rfl subL_nil))))))) | exact (subL_cons rfl (subL_cons rfl (subL_cons rfl (subL_cons rfl (subL_cons rfl (subL_cons rfl (subL_cons rfl (subL_cons rfl subL_nil))))))))), (subL_cons rfl (subL_cons rfl subL_nil)), subL_nil⟩ | fail) | fail)
  all_goals (try (((simp_all [at_drop, List.drop_eq_nil_of_le]) <;> first | omega | (rw [Bool.eq_iff_iff]; simp; omega) | grind); done))
  · have h' : p.2 ≠ 0 := by simpa using h
    show Nat.gcd p.2 (p.1 % p.2) = _
    rw [Nat.gcd_comm, ← Nat.gcd_rec, Nat.gcd_comm]; exact hg
  · have h' : p.2 ≠ 0 := by simpa using h
    exact Nat.mod_lt _ (by omega)
end Go.Proofs.YtpejdgkaapnekaaGreat
namespace Go.Proofs.YtpejdgkaapnekaaGreat
open Go Go.Abs
attribute [local irreducible] OkOps OkC DRun thenQ blockQ RetQ
set_option maxRecDepth 10000
theorem c204 (ds : List Dim) (at' : List Int) : CallA Tryz.prog 204 [.one (.d (encDims ds)), .one (.d (encInts at'))] [] (.one (.d (.bool (ofF ds at')))) [] := by
  refine enter tabOk Tryz.func204 rfl (by decide +kernel) rfl fun hok w0 σ0 φ0 M => ?_
  have h1 := hok.1.sl; have h2 := hok.2.1.sl; clear hok; simp only [List.length_map] at h1 h2; replace h1 := h1.1; replace h2 := h2.1
  repeat' (first | (show OkOps _ _ _ _ _ _; first | refine okops_nil ?_ | refine s_plain tabOk rfl rfl rfl rfl rfl ?_ | (show OkOps _ _ _ (Oper.mk _ (_) _ _ _ (some _) :: _) _ _; first | refine s_guard rfl rfl (by first | assumption | rfl) ?_ | refine s_out rfl rfl (by first | assumption | rfl) rfl rfl ?_ | refine s_split rfl rfl rfl rfl (fun h => ?_) (fun h => ?_) | fail) | (show OkOps _ _ _ (Oper.mk _ (Op.binOp .add _ _ _ _) _ _ _ (_) :: _) _ _; first | refine s_e envOk rfl rfl rfl (step3_add rfl rfl rfl rfl (wrap64 (by omega) (by omega))) ?_ | fail) | (show OkOps _ _ _ (Oper.mk _ (Op.pick _ _ _) _ _ _ (_) :: _) _ _; first | refine s_e envOk rfl rfl rfl (step3_pickT rfl rfl (by first | rfl | assumption) rfl) ?_ | refine s_e envOk rfl rfl rfl (step3_pickF rfl rfl (by first | rfl | assumption) rfl) ?_ | fail) | (show OkOps _ _ _ (Oper.mk _ (Op.indexAddr _ _ _) _ _ _ (_) :: _) _ _; first | refine s_e envOk rfl rfl rfl (step3_idx rfl rfl rfl rfl rfl (by first | omega | ((try simp only [decide_eq_true_eq, decide_eq_false_iff_not, Bool.not_eq_true', Bool.not_true, Bool.not_false, List.length_map, List.length_set, bne_iff_ne, ne_eq, beq_iff_eq, bne_eq_false_iff_eq, beq_eq_false_iff_ne] at *); omega)) (at_map (by first | omega | ((try simp only [decide_eq_true_eq, decide_eq_false_iff_not, Bool.not_eq_true', Bool.not_true, Bool.not_false, List.length_map, List.length_set, bne_iff_ne, ne_eq, beq_iff_eq, bne_eq_false_iff_eq, beq_eq_false_iff_ne] at *); omega)))) ?_ | fail) | (show OkOps _ _ _ (Oper.mk _ (Op.call _) _ _ _ (_) :: _) _ _; first | refine s_callF rfl rfl rfl rfl rfl rfl rfl rfl (c247 _ _ _) rfl ?_ | fail) | fail) | (show OkC _ _ _ _ _; first | refine ok_seq ?_ | refine ok_region ?_ | refine ok_block ?_ | refine ok_skip ?_ | refine ok_ret ?_ | refine ok_exit ?_ | refine ok_condT rfl ?_ | refine ok_cond rfl (fun h => ?_) (fun h => ?_) | refine s_loop 4 rfl [(0, _), (12, _), (13, _)] (subL_cons rfl (subL_cons rfl (subL_cons rfl subL_nil))) (fun (k : Nat) => [(14, .one (.d (.int .i64 k)))]) (fun (k : Nat) => k ≤ ds.length ∧ at'.length = ds.length ∧ withinL ds at' = withinL (ds.drop k) (at'.drop k)) (fun (k : Nat) => ds.length - k) 0 (subL_cons rfl subL_nil) ?_ (fun k ⟨hk, hq, hs⟩ => ?_) | fail) | (show thenQ _ _ _ _; first | refine then_n ?_ | refine then_r ?_ | refine then_x ?_ | fail) | (show blockQ _ _ _ _; first | refine block_n ?_ | refine block_r ?_ | refine block_x rfl ?_ | fail) | (show RetQ _ _ _ _ _ _; first | refine ret_leaf (.inl rfl) rfl rfl ?_ | fail) | (show Exists _; first | refine Exists.intro (k + 1) ⟨?_, ?_, (by first | exact subL_nil | exact (subL_cons rfl subL_nil) | exact (subL_cons rfl (subL_cons rfl subL_nil)) | exact (subL_cons rfl (subL_cons rfl (subL_cons rfl subL_nil))) | exact (subL_cons rfl (subL_cons rfl (subL_cons rfl (subL_cons rfl subL_nil)))) | exact (subL_cons rfl (subL_cons rfl (subL_cons rfl (subL_cons rfl (subL_cons rfl subL_nil))))) | exact (subL_cons rfl (subL_cons rfl (subL_cons rfl (subL_cons rfl (subL_cons rfl (subL_cons rfl subL_nil)))))) | exact (subL_cons rfl (subL_cons rfl (subL_cons rfl (subL_cons rfl (subL_cons rfl (subL_cons rfl (subL_cons rfl subL_nil))))))) | exact (subL_cons rfl (subL_cons rfl (subL_cons rfl (subL_cons rfl (subL_cons rfl (subL_cons rfl (subL_cons rfl (subL_cons rfl subL_nil))))))))), (subL_cons rfl subL_nil), (subL_cons rfl (subL_cons rfl (subL_cons rfl subL_nil)))⟩ | fail) | fail)
  all_goals (try (((simp_all [ofF, withinL, at_drop, List.drop_eq_nil_of_le]) <;> first | omega | (rw [Bool.eq_iff_iff]; simp; omega) | grind); done))
def cmpF : List Int → List Int → Int
  | [], [] => 0
  | [], _ :: _ => -1
  | _ :: _, [] => 1
  | x :: xs, y :: ys => if x < y then -1 else if y < x then 1 else cmpF xs ys
theorem cmpF_nil {b : List Int} : cmpF [] b = if b = [] then 0 else -1 := by cases b <;> simp [cmpF]
theorem cmpF_nil' {a : List Int} : cmpF a [] = if a = [] then 0 else 1 := by cases a <;> simp [cmpF]
theorem c246 (x : Int) : CallA Tryz.prog 246 [.one (.d (.int .i64 x))] [] (.one (.d (.bool false))) [] := by
  refine enter tabOk Tryz.func246 rfl (by decide +kernel) rfl fun hok w0 σ0 φ0 M => ?_
  repeat' (first | (show OkOps _ _ _ _ _ _; first | refine okops_nil ?_ | refine s_plain tabOk rfl rfl rfl rfl rfl ?_ | fail) | (show OkC _ _ _ _ _; first | refine ok_seq ?_ | refine ok_region ?_ | refine ok_ret ?_ | fail) | (show thenQ _ _ _ _; first | refine then_n ?_ | fail) | (show RetQ _ _ _ _ _ _; first | refine ret_leaf (.inl rfl) rfl rfl ?_ | fail) | fail)
  all_goals (try (((simp_all [at_drop, List.drop_eq_nil_of_le]) <;> first | omega | (rw [Bool.eq_iff_iff]; simp; omega) | grind); done))
theorem c198 (x y : Int) : CallA Tryz.prog 198 [.one (.d (.int .i64 x)), .one (.d (.int .i64 y))] [] (.one (.d (.int .i64 (if x < y then -1 else if y < x then 1 else 0)))) [] := by
  refine enter tabOk Tryz.func198 rfl (by decide +kernel) rfl fun hok w0 σ0 φ0 M => ?_
  repeat' (first | (show OkOps _ _ _ _ _ _; first | refine okops_nil ?_ | refine s_plain tabOk rfl rfl rfl rfl rfl ?_ | (show OkOps _ _ _ (Oper.mk _ (Op.call _) _ _ _ (_) :: _) _ _; first | refine s_callF rfl rfl rfl rfl rfl rfl rfl rfl (c246 _) rfl ?_ | fail) | fail) | (show OkC _ _ _ _ _; first | refine ok_seq ?_ | refine ok_region ?_ | refine ok_skip ?_ | refine ok_ret ?_ | refine ok_condF rfl ?_ | refine ok_cond rfl (fun h => ?_) (fun h => ?_) | fail) | (show thenQ _ _ _ _; first | refine then_n ?_ | refine then_r ?_ | fail) | (show RetQ _ _ _ _ _ _; first | refine ret_leaf (.inl rfl) rfl rfl ?_ | fail) | fail)
  all_goals (try (((simp_all [at_drop, List.drop_eq_nil_of_le]) <;> first | omega | (rw [Bool.eq_iff_iff]; simp; omega) | grind); done))
theorem c130 (a b : List Int) : CallA Tryz.prog 130 [.one (.d (encInts a)), .one (.d (encInts b))] [] (.one (.d (.int .i64 (cmpF a b)))) [] := by
  refine enter tabOk Tryz.func130 rfl (by decide +kernel) rfl fun hok w0 σ0 φ0 M => ?_
  have h1 := hok.1.sl; have h2 := hok.2.1.sl; clear hok; simp only [List.length_map] at h1 h2; replace h1 := h1.1; replace h2 := h2.1
  repeat' (first | (show OkOps _ _ _ _ _ _; first | refine okops_nil ?_ | refine s_plain tabOk rfl rfl rfl rfl rfl ?_ | (show OkOps _ _ _ (Oper.mk _ (Op.binOp .add _ _ _ _) _ _ _ (_) :: _) _ _; first | refine s_e envOk rfl rfl rfl (step3_add rfl rfl rfl rfl (wrap64 (by omega) (by omega))) ?_ | fail) | (show OkOps _ _ _ (Oper.mk _ (Op.indexAddr _ _ _) _ _ _ (_) :: _) _ _; first | refine s_e envOk rfl rfl rfl (step3_idx rfl rfl rfl rfl rfl (by first | omega | ((try simp only [decide_eq_true_eq, decide_eq_false_iff_not, Bool.not_eq_true', Bool.not_true, Bool.not_false, List.length_map, List.length_set, bne_iff_ne, ne_eq, beq_iff_eq, bne_eq_false_iff_eq, beq_eq_false_iff_ne] at *); omega)) (at_map (by first | omega | ((try simp only [decide_eq_true_eq, decide_eq_false_iff_not, Bool.not_eq_true', Bool.not_true, Bool.not_false, List.length_map, List.length_set, bne_iff_ne, ne_eq, beq_iff_eq, bne_eq_false_iff_eq, beq_eq_false_iff_ne] at *); omega)))) ?_ | fail) | (show OkOps _ _ _ (Oper.mk _ (Op.call _) _ _ _ (_) :: _) _ _; first | refine s_callF rfl rfl rfl rfl rfl rfl rfl rfl (c198 _ _) rfl ?_ | fail) | fail) | (show OkC _ _ _ _ _; first | refine ok_seq ?_ | refine ok_region ?_ | refine ok_block ?_ | refine ok_skip ?_ | refine ok_ret ?_ | refine ok_exit ?_ | refine ok_cond rfl (fun h => ?_) (fun h => ?_) | refine s_loop 2 rfl [(0, _), (1, _), (9, _), (10, _)] (subL_cons rfl (subL_cons rfl (subL_cons rfl (subL_cons rfl subL_nil)))) (fun (k : Nat) => [(11, .one (.d (.int .i64 k)))]) (fun (k : Nat) => k ≤ a.length ∧ k ≤ b.length ∧ cmpF a b = cmpF (a.drop k) (b.drop k)) (fun (k : Nat) => a.length - k) 0 (subL_cons rfl subL_nil) ?_ (fun k ⟨hk, hq, hs⟩ => ?_) | fail) | (show thenQ _ _ _ _; first | refine then_n ?_ | refine then_r ?_ | refine then_x ?_ | fail) | (show blockQ _ _ _ _; first | refine block_n ?_ | refine block_r ?_ | refine block_x rfl ?_ | fail) | (show RetQ _ _ _ _ _ _; first | refine ret_leaf (.inl rfl) rfl rfl ?_ | fail) | (show Exists _; first | refine Exists.intro (k + 1) ⟨?_, ?_, (by first | exact subL_nil | exact (subL_cons rfl subL_nil) | exact (subL_cons rfl (subL_cons rfl subL_nil)) | exact (subL_cons rfl (subL_cons rfl (subL_cons rfl subL_nil))) | exact (subL_cons rfl (subL_cons rfl (subL_cons rfl (subL_cons rfl subL_nil)))) | exact (subL_cons rfl (subL_cons rfl (subL_cons rfl (subL_cons rfl (subL_cons rfl subL_nil))))) | exact (subL_cons rfl (subL_cons rfl (subL_cons rfl (subL_cons rfl (subL_cons rfl (subL_cons rfl subL_nil)))))) | exact (subL_cons rfl (subL_cons rfl (subL_cons rfl (subL_cons rfl (subL_cons rfl (subL_cons rfl (subL_cons rfl subL_nil))))))) | exact (subL_cons rfl (subL_cons rfl (subL_cons rfl (subL_cons rfl (subL_cons rfl (subL_cons rfl (subL_cons rfl (subL_cons rfl subL_nil))))))))), (subL_cons rfl subL_nil), (subL_cons rfl (subL_cons rfl (subL_cons rfl (subL_cons rfl subL_nil))))⟩ | fail) | fail)
  all_goals (try (((simp_all [cmpF, cmpF_nil, cmpF_nil', at_drop, List.drop_eq_nil_of_le]) <;> first | omega | (rw [Bool.eq_iff_iff]; simp; omega) | grind); done))
theorem c35 (a b : List Int) : CallA Tryz.prog 35 [.one (.d (encInts a)), .one (.d (encInts b))] [] (.one (.d (.int .i64 (cmpF a b)))) [] := by
  refine enter tabOk Tryz.func35 rfl (by decide +kernel) rfl fun hok w0 σ0 φ0 M => ?_
  repeat' (first | (show OkOps _ _ _ _ _ _; first | refine okops_nil ?_ | refine s_plain tabOk rfl rfl rfl rfl rfl ?_ | (show OkOps _ _ _ (Oper.mk _ (Op.call _) _ _ _ (_) :: _) _ _; first | refine s_callF rfl rfl rfl rfl rfl rfl rfl rfl (c130 _ _) rfl ?_ | fail) | fail) | (show OkC _ _ _ _ _; first | refine ok_seq ?_ | refine ok_region ?_ | refine ok_ret ?_ | fail) | (show thenQ _ _ _ _; first | refine then_n ?_ | fail) | (show RetQ _ _ _ _ _ _; first | refine ret_leaf (.inl rfl) rfl rfl ?_ | fail) | fail)
  all_goals (try (((simp_all [at_drop, List.drop_eq_nil_of_le]) <;> first | omega | (rw [Bool.eq_iff_iff]; simp; omega) | grind); done))
def idxGo {α : Type} (p : α → Bool) : List α → Nat → Int
  | [], _ => -1
  | x :: r, k => if p x then k else idxGo p r (k + 1)
end Go.Proofs.YtpejdgkaapnekaaGreat
namespace Go.Proofs.YtpejdgkaapnekaaGreat
open Go Go.Abs
theorem cmpF_refl : ∀ a : List Int, cmpF a a = 0
  | [] => rfl
  | x :: a => by simp only [cmpF, if_neg (Int.lt_irrefl x)]; exact cmpF_refl a
theorem cmpF_swap : ∀ a b : List Int, cmpF b a = - cmpF a b
  | [], [] => rfl
  | [], _ :: _ => rfl
  | _ :: _, [] => rfl
  | x :: a, y :: b => by
    simp only [cmpF]
    by_cases h1 : x < y
    · rw [if_pos h1, if_neg (by omega), if_pos h1]; rfl
    · by_cases h2 : y < x
      · rw [if_pos h2, if_neg h1, if_pos h2]
      · rw [if_neg h1, if_neg h2, if_neg h1, if_neg h2]; exact cmpF_swap a b
theorem cmpF_le_trans : ∀ a b c : List Int, cmpF a b ≤ 0 → cmpF b c ≤ 0 → cmpF a c ≤ 0 ∧ (cmpF a c = 0 → cmpF a b = 0 ∧ cmpF b c = 0)
  | [], [], [], _, _ => by simp [cmpF]
  | [], [], _ :: _, _, _ => by simp [cmpF]
  | [], _ :: _, [], _, h => by simp [cmpF] at h
  | [], _ :: _, _ :: _, _, _ => by simp [cmpF]
  | _ :: _, [], _, h, _ => by simp [cmpF] at h
  | _ :: _, _ :: _, [], _, h => by simp [cmpF] at h
  | x :: a, y :: b, z :: c, h1, h2 => by
    have ih := cmpF_le_trans a b c
    simp only [cmpF] at h1 h2 ⊢
    split at h1 <;> split at h2 <;> (try split at h1) <;> (try split at h2) <;> (try omega)
    all_goals first
      | (rw [if_pos (by omega)]; omega)
      | (have := ih h1 h2
         simp only [if_neg (show ¬ x < y by omega), if_neg (show ¬ y < x by omega), if_neg (show ¬ y < z by omega), if_neg (show ¬ z < y by omega), if_neg (show ¬ x < z by omega), if_neg (show ¬ z < x by omega)]
         exact this)
theorem cmpF_eq : ∀ a b : List Int, cmpF a b = 0 → a = b
  | [], [], _ => rfl
  | [], _ :: _, h => by simp [cmpF] at h
  | _ :: _, [], h => by simp [cmpF] at h
  | x :: a, y :: b, h => by
    simp only [cmpF] at h
    split at h
    · omega
    · split at h
      · omega
      · rw [cmpF_eq a b h, show x = y by omega]
end Go.Proofs.YtpejdgkaapnekaaGreat
namespace Go.Proofs.YtpejdgkaapnekaaGreat
open Go Go.Abs
attribute [local irreducible] OkOps OkC DRun thenQ blockQ RetQ
set_option maxRecDepth 10000
def okByte (c : UInt8) : Bool := decide (32 ≤ c.toNat) && decide (c.toNat ≤ 126)
def rightF (k n d : Int) (s : List UInt8) : Bool :=
  if k = 0 then plainF d s && (decide (1 ≤ n) && decide (n ≤ 255))
  else if k = 1 then plainF d s && (n == 0 || n == 1)
  else if k = 2 then s == [] && (decide (1 ≤ d) && (decide (d ≤ 1099511627776) && (decide (-1099511627776 ≤ n) && (decide (n ≤ 1099511627776) && ((Nat.gcd n.natAbs d.toNat : Nat) : Int) == 1))))
  else if k = 3 then n == 0 && (d == 0 && (decide ((s.length : Int) ≤ 16) && s.all okByte))
  else false
def fitsF (k n d : Int) (s : List UInt8) (t : Int) : Bool :=
  rightF k n d s && (decide (1 ≤ t) && (decide (t ≤ 4) && (if k = 0 then true else if k = 1 then t == 1 else if k = 2 then t == 3 || t == 2 && d == 1 else t == 4)))
theorem c281 (c : Int) : CallA Tryz.prog 281 [.one (.d (.int .i32 c))] [] (.one (.d (.bool (decide (c < 32) || decide (126 < c))))) [] := by
  refine enter tabOk Tryz.func281 rfl (by decide +kernel) rfl fun hok w0 σ0 φ0 M => ?_
  repeat' (first | (show OkOps _ _ _ _ _ _; first | refine okops_nil ?_ | refine s_plain tabOk rfl rfl rfl rfl rfl ?_ | (show OkOps _ _ _ (Oper.mk _ (_) _ _ _ (some _) :: _) _ _; first | refine s_guard rfl rfl (by first | assumption | rfl) ?_ | refine s_out rfl rfl (by first | assumption | rfl) rfl rfl ?_ | refine s_split rfl rfl rfl rfl (fun h => ?_) (fun h => ?_) | fail) | (show OkOps _ _ _ (Oper.mk _ (Op.pick _ _ _) _ _ _ (_) :: _) _ _; first | refine s_e envOk rfl rfl rfl (step3_pickT rfl rfl (by first | rfl | assumption) rfl) ?_ | refine s_e envOk rfl rfl rfl (step3_pickF rfl rfl (by first | rfl | assumption) rfl) ?_ | fail) | fail) | (show OkC _ _ _ _ _; first | refine ok_seq ?_ | refine ok_region ?_ | refine ok_ret ?_ | fail) | (show thenQ _ _ _ _; first | refine then_n ?_ | fail) | (show RetQ _ _ _ _ _ _; first | refine ret_leaf (.inl rfl) rfl rfl ?_ | fail) | fail)
  all_goals (try (((simp_all [at_drop, List.drop_eq_nil_of_le]) <;> first | omega | (rw [Bool.eq_iff_iff]; simp; omega) | grind); done))
end Go.Proofs.YtpejdgkaapnekaaGreat
namespace Go.Abs
open Go
variable {P : Program} {V : Env} {T : Tab} {c : Ctx} {w0 : World} {σ0 : Sig} {φ0 : Pl} {M : Nat → Prop} {n : Nat} {rd : Option Nat} {mk : List Deferred} {ops : Array Oper} {o : Oper} {rest : List Oper} {fr : List (Nat × AV)} {sto : Sto} {K : St → Prop} {st st0 : St}
def encMet (met : List (List UInt8)) : List (List D × List D) := met.map fun nm => ([.str nm], [.bool true])
theorem findK_met {s : List UInt8} : ∀ {met : List (List UInt8)} {i : Nat}, (met.contains s = true → ∃ j, findK [.str s] (encMet met) i = some (j, [.bool true])) ∧ (met.contains s = false → findK [.str s] (encMet met) i = none)
  | [], i => by simp [encMet, findK]
  | x :: r, i => by
    have ih := findK_met (s := s) (met := r) (i := i + 1)
    simp only [encMet, List.map_cons, findK, eqDs, eqD, Bool.and_true, List.contains_cons] at ih ⊢
    cases hb : (s == x) with
    | true => simp
    | false => simpa [hb] using ih
theorem updK_met {s : List UInt8} : ∀ {met : List (List UInt8)}, met.contains s = false → updK [.str s] [.bool true] (encMet met) = encMet (met ++ [s])
  | [], _ => rfl
  | x :: r, h => by
    simp only [List.contains_cons, Bool.or_eq_false_iff] at h
    have ih := updK_met (s := s) (met := r) h.2
    simp only [encMet, List.map_cons, updK, eqDs, eqD, Bool.and_true, List.cons_append, h.1, cond_false] at ih ⊢
    rw [ih]
theorem fitsAll_met : ∀ {met : List (List UInt8)}, fitsAll [.str] (encMet met) = true
  | [] => rfl
  | x :: r => by
    have ih := fitsAll_met (met := r)
    simp only [encMet, List.map_cons, fitsAll, fitsB, fitB, Bool.and_true, Bool.true_and] at ih ⊢
    exact ih
theorem s_lookMet (hV : EnvOk P V) {d t id : Nat} {m : MTy} {x y : Operand} {s : List UInt8} {met : List (List UInt8)} (ho : o.op = .lookup t x y false) (hg : o.guard = none) (hdst : o.dst = some d) (hd : Nat.blt d n = true)
    (hm : look V.M t = some m) (hms : m.ks = [.str]) (hk : m.kg = false) (hv : m.vg = false) (hz : m.z = [.bool false])
    (hx : ev ⟨fr, sto⟩ x = some (.one (.mapr id))) (hl : look sto id = some (.map false false (encMet met))) (hy : ev ⟨fr, sto⟩ y = some (.one (.d (.str s))))
    (h : OkOps P ⟨w0, σ0, φ0, M, n, rd, mk⟩ ops rest ⟨(d, .one (.d (.bool (met.contains s)))) :: fr, sto⟩ K) : OkOps P ⟨w0, σ0, φ0, M, n, rd, mk⟩ ops (o :: rest) ⟨fr, sto⟩ K := by
  refine okops_lookup (hV.M t m hm) ho hg (by rw [hdst]; exact hd) hx (es := encMet met) (by rw [hl, hk, hv]) hy (kd := [.str s]) (by rw [hk]; rfl) (by rw [hms]; rfl) (by rw [hms]; exact fitsAll_met) (v := .one (.d (.bool (met.contains s)))) ?_ (by rw [hdst]; exact h)
  cases hb : met.contains s with
  | true =>
    obtain ⟨j, hj⟩ := (findK_met (i := 0)).1 hb
    simp only [lookF, hj, hv, outA]; rfl
  | false =>
    simp only [lookF, (findK_met (i := 0)).2 hb, hv, hz, outA]; rfl
theorem s_updMet (hV : EnvOk P V) {t id : Nat} {m : MTy} {x y z : Operand} {s : List UInt8} {met : List (List UInt8)} (ho : o.op = .mapUpdate t x y z) (hg : o.guard = none) (hdst : o.dst = none)
    (hm : look V.M t = some m) (hms : m.ks = [.str]) (hk : m.kg = false) (hv : m.vg = false)
    (hx : ev ⟨fr, sto⟩ x = some (.one (.mapr id))) (hl : look sto id = some (.map false false (encMet met))) (hy : ev ⟨fr, sto⟩ y = some (.one (.d (.str s)))) (hz : ev ⟨fr, sto⟩ z = some (.one (.d (.bool true)))) (hnot : met.contains s = false)
    (h : OkOps P ⟨w0, σ0, φ0, M, n, rd, mk⟩ ops rest ⟨fr, setS id (.map false false (encMet (met ++ [s]))) sto⟩ K) : OkOps P ⟨w0, σ0, φ0, M, n, rd, mk⟩ ops (o :: rest) ⟨fr, sto⟩ K := by
  refine okops_mapUpdate (hV.M t m hm) ho hg hdst hx (es := encMet met) (by rw [hl, hk, hv]) hy (kd := [.str s]) (by rw [hk]; rfl) (by rw [hms]; rfl) (by rw [hms]; exact fitsAll_met) hz (vd := [.bool true]) (by rw [hv]; rfl) ?_
  rw [updK_met hnot, hk, hv]
  exact h
theorem s_callM (k : Nat) (ρ : List (Nat × Nat)) {d : Nat} {fop : Operand} {args : Array Operand} {ats : Array TypeId} {f : FuncId} {cargs : List AV} {cs rs : Sto} {rav rav' : AV} {sto' : Sto} (hC : CallA P f cargs cs rav rs)
    (ho : o.op = .call { callee := .value fop, args := args, argTypes := ats }) (hg : o.guard = none) (hdst : o.dst = some d) (hd : Nat.blt d n = true) (hf : ev ⟨fr, sto⟩ fop = some (.one (.d (.fn f []))))
    (ha : evL ⟨fr, sto⟩ args.toList = some (renL (rn k ρ) cargs)) (hpass : Pass ⟨fr, sto⟩ (rn k ρ) ρ cs) (hcomp : CompatL ⟨fr, sto⟩ (rn k ρ) ρ rs)
    (hk : (bigK ρ && injK ρ && allIn cs ρ && keysNd ρ && keysOk ρ rs && avsIn cs (cargs ++ []) && stoIn cs cs && avIn rs rav && stoIn rs rs && Nat.ble (k + 16) 1000000) = true) (hfresh : freshRB k ⟨fr, sto⟩ = true)
    (hr : renV (rn k ρ) rav = rav') (hs : putR (rn k ρ) (delL ρ sto) rs = sto')
    (h : OkOps P ⟨w0, σ0, φ0, M, n, rd, mk⟩ ops rest ⟨(d, rav') :: fr, sto'⟩ K) : OkOps P ⟨w0, σ0, φ0, M, n, rd, mk⟩ ops (o :: rest) ⟨fr, sto⟩ K := by
  subst hr; subst hs
  exact okops_callM k ρ ho hg (by rw [hdst]; exact hd) hf ha (caps := []) (by simpa using hC) hpass hcomp hk (freshRB_ok hfresh) (by rw [hdst]; exact h)
theorem s_loopM {α : Type} {body : Code} {Q : Exit → St → Prop} (rg : Nat) (hrg : firstReg body = rg) (kept : List (Nat × AV)) (hk : SubL fr kept) (L : α → List (Nat × AV)) (S : α → Sto) (Inv : α → Prop) (μ : α → Nat) (x0 : α) (hL : SubL fr (L x0)) (hS : SubL sto (S x0)) (h0 : Inv x0)
    (hround : ∀ x, Inv x → OkC P c body ⟨L x ++ kept, S x⟩ (thenQ (fun st' => ∃ y, Inv y ∧ μ y < μ x ∧ SubL st'.sto (S y) ∧ SubL st'.fr (L y) ∧ SubL st'.fr kept) Q)) : OkC P c (.loop body) ⟨fr, sto⟩ Q := by
  have hap : ∀ {f a b : List (Nat × AV)}, SubL f a → SubL f b → SubL f (a ++ b) := by
    intro f a b h1 h2
    induction a with
    | nil => exact h2
    | cons p r ih => exact ⟨h1.1, ih h1.2⟩
  have hdr : ∀ {f : List (Nat × AV)} {s s' : Sto}, SubL s s' → Imp c ⟨f, s⟩ ⟨f, s'⟩ := fun h a w σ φ hr => ⟨σ, φ, hr.dropTo fun i e hi => h.look hi⟩
  refine okc_imp (st' := ⟨L x0 ++ kept, S x0⟩) (Imp.trans (imp_subL (hap hL hk)) (hdr hS)) ?_
  refine ok_loop (fun n st => ∃ x, Inv x ∧ n = μ x ∧ st = ⟨L x ++ kept, S x⟩) (μ x0) ⟨x0, h0, rfl, rfl⟩ ?_
  rintro n st ⟨x, hx, rfl, rfl⟩
  refine ok_mono (hround x hx) fun e st h => ?_
  cases e with
  | normal =>
    obtain ⟨y, hy, hlt, hs, h1, h2⟩ := h
    obtain ⟨f, s⟩ := st
    simp only at hs h1 h2
    exact ⟨μ y, _, hlt, ⟨y, hy, rfl, rfl⟩, Imp.trans (imp_subL (hap h1 h2)) (hdr hs)⟩
  | _ => exact h
theorem imp_sealL {dl : List Nat} {ss : St} (h : sealL st dl = some ss) : Imp c st ss := fun a w σ φ hr => by
  obtain ⟨σs, _, h3, _⟩ := Rel.sealL h hr
  exact ⟨σs, φ, h3⟩
theorem s_callD (k : Nat) {d : Nat} {fop : Operand} {args : Array Operand} {ats : Array TypeId} {f : FuncId} {caps : List D} {avs avs' : List AV} {rav rav' : AV}
    (ho : o.op = .call { callee := .value fop, args := args, argTypes := ats }) (hg : o.guard = none) (hdst : o.dst = some d) (hd : Nat.blt d n = true) (hf : ev ⟨fr, sto⟩ fop = some (.one (.d (.fn f caps))))
    (ha : evL ⟨fr, sto⟩ args.toList = some avs) (hD : avsD avs = true) (hap : (avs ++ caps.map fun x => .one (.d x)) = avs') (hC : CallA P f avs' [] rav [])
    (hk : (keysOk [] [] && Nat.ble (k + 16) 1000000 && avIn [] rav && stoIn [] []) = true) (hfresh : freshRB k ⟨fr, sto⟩ = true) (hr : renV (rn k []) rav = rav')
    (h : OkOps P ⟨w0, σ0, φ0, M, n, rd, mk⟩ ops rest ⟨(d, rav') :: fr, sto⟩ K) : OkOps P ⟨w0, σ0, φ0, M, n, rd, mk⟩ ops (o :: rest) ⟨fr, sto⟩ K := by
  subst hap; subst hr
  exact okops_call k ho hg (by rw [hdst]; exact hd) hf ha hD hC hk (freshRB_ok hfresh) (by rw [hdst]; exact h)
theorem d_callD (k : Nat) {ops : Array Oper} {acc : List Tr} {d : Nat} {fop : Operand} {args : Array Operand} {ats : Array TypeId} {f : FuncId} {caps : List D} {avs avs' : List AV} {rav rav' : AV}
    (ho : o.op = .call { callee := .value fop, args := args, argTypes := ats }) (hg : o.guard = none) (hdst : o.dst = some d) (hd : Nat.blt d c.n = true) (hf : ev ⟨fr, sto⟩ fop = some (.one (.d (.fn f caps))))
    (ha : evL ⟨fr, sto⟩ args.toList = some avs) (hD : avsD avs = true) (hap : (avs ++ caps.map fun x => .one (.d x)) = avs') (hC : CallA P f avs' [] rav [])
    (hk : (keysOk [] [] && Nat.ble (k + 16) 1000000 && avIn [] rav && stoIn [] []) = true) (hr : renV (rn k []) rav = rav')
    (h : DRun P c ops st0 rest ⟨(d, rav') :: fr, sto⟩ (callTr k [] [] rav [] :: acc) K) : DRun P c ops st0 (o :: rest) ⟨fr, sto⟩ acc K := by
  subst hap; subst hr
  refine d_run hg (loc_callD k ho (by rw [hdst]; exact hd) hf ha hD hC hk) ?_
  rw [hdst]; exact h
theorem s_new (hV : EnvOk P V) (id : Nat) {d : Nat} {v : AV} {wr : List (Nat × Option AObj)} {nw : List Nat} (hg : o.guard = none) (hdst : o.dst = some d) (hd : Nat.blt d n = true) (h : step3 V ⟨fr, sto⟩ o id = some ⟨v, wr, nw⟩) (hid : Nat.blt (id + 1) 1000000 = true) (hf : freshLB ⟨fr, sto⟩ nw = true)
    (hk : OkOps P ⟨w0, σ0, φ0, M, n, rd, mk⟩ ops rest ⟨(d, v) :: fr, appW wr sto⟩ K) : OkOps P ⟨w0, σ0, φ0, M, n, rd, mk⟩ ops (o :: rest) ⟨fr, sto⟩ K := by
  have := step3_ok (c := ⟨w0, σ0, φ0, M, n, rd, mk⟩) hV (o := o) (by rw [hdst]; exact hd) h hid (freshLB_ok hf) ops rest K (by rw [hdst]; exact hk)
  rwa [unguard hg] at this
theorem ret_leafS {T : Tab} {rs : List ResultVar} {rav rav' : AV} {rsto : Sto} {e : Exit} {st : St} {l : List (Bool × List AC)} (he : e = .ret ∨ e = .normal) (hl : resL T st rs = some l) (hr : resAV l = some rav') (h : rav' = rav) (hs : SubL st.sto rsto) : RetQ T rs rav rsto e st :=
  ⟨he, l, hl, by rw [hr, h], hs⟩
end Go.Abs
namespace Go.Abs
open Go
variable {P : Program} {V : Env} {T : Tab} {c : Ctx} {w0 : World} {σ0 : Sig} {φ0 : Pl} {M : Nat → Prop} {n : Nat} {rd : Option Nat} {mk : List Deferred} {ops : Array Oper} {o : Oper} {rest : List Oper} {fr : List (Nat × AV)} {sto : Sto} {K : St → Prop} {st st0 : St} {acc : List Tr}
variable {σ σ' : Sig} {φ φ' : Pl} {w w' : World}
theorem look_append {α : Type} : ∀ {a b : List (Nat × α)} {i : Nat}, look (a ++ b) i = match look a i with | some v => some v | none => look b i
  | [], _, _ => rfl
  | (j, x) :: r, b, i => by
    simp only [List.cons_append, look]
    cases Nat.beq j i with
    | true => rfl
    | false => simp only [cond_false]; exact look_append
def bigS (s : Sto) : Prop := ∀ i e, look s i = some e → 1000000 ≤ i
theorem look_big {o1 s : Sto} (ho : keysLt 1000000 o1 = true) {i : Nat} (hi : 1000000 ≤ i) : look (o1 ++ s) i = look s i := by
  rw [look_append]
  cases hl : look o1 i with
  | none => rfl
  | some e => have := keysLt_look ho hl; omega
theorem RepC.mv {x : AC} {v : Value} {s s2 : Sto} (h : ∀ i, x.men i = true → look s2 i = look s i ∧ φ' i = φ i) (hr : RepC σ φ s x v) : RepC σ φ' s2 x v := by
  have hk : ∀ i, x.men i = true → hasK s2 i = hasK s i := fun i hi => by unfold hasK; rw [(h i hi).1]
  cases hr with
  | d h1 => exact .d h1
  | junk h1 => exact .junk h1
  | dead hx h1 =>
    refine .dead ?_ h1
    cases x <;> simp only [acIn] at hx ⊢ <;> first | exact hx | (rw [hk _ (Nat.beq_refl _)]; exact hx)
  | ownNil hl hp => have := h _ (Nat.beq_refl _); exact .ownNil (this.1.trans hl) (this.2.trans hp)
  | own hl hn hp => have := h _ (Nat.beq_refl _); exact .own (this.1.trans hl) hn (this.2.trans hp)
  | sub hl hn hc hA =>
    have := h _ (Nat.beq_refl _)
    refine .sub (this.1.trans hl) hn hc fun h0 => ?_
    obtain ⟨B, cap, h1, h2⟩ := hA h0
    exact ⟨B, cap, this.2.trans h1, h2⟩
  | ref hl hp => have := h _ (Nat.beq_refl _); exact .ref (this.1.trans hl) (this.2.trans hp)
  | rref hl hp => have := h _ (Nat.beq_refl _); exact .rref (this.1.trans hl) (this.2.trans hp)
  | yl hl hp => have := h _ (Nat.beq_refl _); exact .yl (this.1.trans hl) (this.2.trans hp)
  | mapr hl hp => have := h _ (Nat.beq_refl _); exact .mapr (this.1.trans hl) (this.2.trans hp)
  | bsl hl hp => have := h _ (Nat.beq_refl _); exact .bsl (this.1.trans hl) (this.2.trans hp)
theorem acIn_men {x : AC} {s : Sto} (h : acIn s x = true) : ∀ i, x.men i = true → hasK s i = true := by
  intro i hi
  cases x <;> simp only [AC.men, Bool.false_eq_true] at hi <;> (have := Nat.eq_of_beq_eq_true hi; subst this; exact h)
theorem acsIn_men : ∀ {l : List AC} {s : Sto}, acsIn s l = true → ∀ i, acsMen i l = true → hasK s i = true
  | [], _, _, _, h => by simp [acsMen] at h
  | x :: r, s, h, i, hi => by
    simp only [acsIn, Bool.and_eq_true] at h
    simp only [acsMen, Bool.or_eq_true] at hi
    rcases hi with hi | hi
    · exact acIn_men h.1 i hi
    · exact acsIn_men h.2 i hi
theorem tsIn_men : ∀ {l : List (Bool × List AC)} {s : Sto}, tsIn s l = true → ∀ i, tsMen i l = true → hasK s i = true
  | [], _, _, _, h => by simp [tsMen] at h
  | x :: r, s, h, i, hi => by
    simp only [tsIn, Bool.and_eq_true] at h
    simp only [tsMen, Bool.or_eq_true] at hi
    rcases hi with hi | hi
    · exact acsIn_men h.1 i hi
    · exact tsIn_men h.2 i hi
theorem avIn_men {x : AV} {s : Sto} (h : avIn s x = true) : ∀ i, x.men i = true → hasK s i = true := by
  intro i hi
  cases x with
  | one x => exact acIn_men h i hi
  | agg cs => exact acsIn_men h i hi
  | tup ts => exact tsIn_men h i hi
  | any => simp [AV.men] at hi
theorem frIn_men : ∀ {l : List (Nat × AV)} {s : Sto}, frIn s l = true → ∀ i, frMen i l = true → hasK s i = true
  | [], _, _, _, h => by simp [frMen] at h
  | x :: r, s, h, i, hi => by
    simp only [frIn, Bool.and_eq_true] at h
    simp only [frMen, Bool.or_eq_true] at hi
    rcases hi with hi | hi
    · exact avIn_men h.1 i hi
    · exact frIn_men h.2 i hi
theorem acs_mv {s s2 : Sto} : ∀ {l : List AC} {vs : List Value}, (∀ i, acsMen i l = true → look s2 i = look s i ∧ φ' i = φ i) → All2 (RepC σ φ s) l vs → All2 (RepC σ φ' s2) l vs
  | [], [], _, _ => trivial
  | x :: r, v :: vs, h, ha => ⟨RepC.mv (fun i hi => h i (by simp [acsMen, hi])) ha.1, acs_mv (fun i hi => h i (by simp [acsMen, hi])) ha.2⟩
  | [], _ :: _, _, ha => ha.elim
  | _ :: _, [], _, ha => ha.elim
theorem repT_mv {s s2 : Sto} {t : Bool × List AC} {v : Value} (h : ∀ i, acsMen i t.2 = true → look s2 i = look s i ∧ φ' i = φ i) (hr : RepT σ φ s t v) : RepT σ φ' s2 t v := by
  obtain ⟨b, cs⟩ := t
  cases b with
  | true => obtain ⟨vs, rfl, h1⟩ := hr; exact ⟨vs, rfl, acs_mv h h1⟩
  | false => exact acs_mv h hr
theorem ts_mv {s s2 : Sto} : ∀ {l : List (Bool × List AC)} {vs : List Value}, (∀ i, tsMen i l = true → look s2 i = look s i ∧ φ' i = φ i) → All2 (RepT σ φ s) l vs → All2 (RepT σ φ' s2) l vs
  | [], [], _, _ => trivial
  | x :: r, v :: vs, h, ha => ⟨repT_mv (fun i hi => h i (by simp [tsMen, hi])) ha.1, ts_mv (fun i hi => h i (by simp [tsMen, hi])) ha.2⟩
  | [], _ :: _, _, ha => ha.elim
  | _ :: _, [], _, ha => ha.elim
theorem RepV.mv {x : AV} {v : Value} {s s2 : Sto} (h : ∀ i, x.men i = true → look s2 i = look s i ∧ φ' i = φ i) (hr : RepV σ φ s x v) : RepV σ φ' s2 x v := by
  cases x with
  | one x => exact RepC.mv h hr
  | agg cs => obtain ⟨vs, rfl, h1⟩ := hr; exact ⟨vs, rfl, acs_mv h h1⟩
  | tup ts => obtain ⟨vs, rfl, h1⟩ := hr; exact ⟨vs, rfl, ts_mv h h1⟩
  | any => trivial
theorem aoIn_men {e : AObj} {s : Sto} (h : aoIn s e = true) : ∀ i, e.men i = true → hasK s i = true := by
  intro i hi
  cases e with
  | box cs => exact acsIn_men h i hi
  | loop li fr st p => exact frIn_men h i hi
  | _ => simp [AObj.men] at hi
theorem look_frMen : ∀ {fr : List (Nat × AV)} {s : Nat} {v : AV} {i : Nat}, look fr s = some v → v.men i = true → frMen i fr = true
    | [], _, _, _, h, _ => by simp [look] at h
    | (t, x) :: r, s, v, i, h, hi => by
      rcases look_cons h with ⟨_, rfl⟩ | ⟨_, h⟩
      · simp [frMen, hi]
      · simp only [frMen, look_frMen h hi, Bool.or_true]
theorem ObjRep.mv {id : Nat} {e : AObj} {s s2 : Sto} (h : ∀ i, e.men i = true → look s2 i = look s i ∧ φ' i = φ i) (hφ : φ' id = φ id) (hr : ObjRep σ φ s w id e) : ObjRep σ φ' s2 w id e := by
  cases e with
  | box cs =>
    obtain ⟨B, c, vs, t, h1, h2, h3, h4⟩ := hr
    exact ⟨B, c, vs, t, hφ.trans h1, h2, acs_mv h h3, h4⟩
  | row k b xs =>
    rcases hr with ⟨h1, h2⟩ | ⟨B, cap, arr, t, vs, h1, h2⟩
    · exact .inl ⟨h1, hφ.trans h2⟩
    · exact .inr ⟨B, cap, arr, t, vs, hφ.trans h1, h2⟩
  | map kg vg es =>
    obtain ⟨B, c, ents, h1, h2⟩ := hr
    exact ⟨B, c, ents, hφ.trans h1, h2⟩
  | loop li fr st p =>
    obtain ⟨B, c, r, h1, h2, h3, h4, h5⟩ := hr
    refine ⟨B, c, r, hφ.trans h1, h2, h3, fun s v hv => ?_, h5⟩
    obtain ⟨u, hu, hru⟩ := h4 s v hv
    refine ⟨u, hu, RepV.mv (fun i hi => h i ?_) hru⟩
    exact look_frMen hv hi
theorem HInv.pinned {o1 s : Sto} (ho : keysLt 1000000 o1 = true) (hs : bigS s) (hin : stoIn s s = true) (h : HInv σ φ (o1 ++ s) w) : HInv σ φ s w := by
  have hl : ∀ {i : Nat}, hasK s i = true → look s i = look (o1 ++ s) i := fun {i} hi => by
    obtain ⟨e, he⟩ := hasK_look hi
    rw [look_big ho (hs _ _ he)]
  refine ⟨h.sig, fun i e hi => ?_, fun i i' e e' p p' hi hi' => ?_⟩
  · refine ObjRep.mv (fun j hj => ⟨hl (aoIn_men (stoIn_look hin hi) j hj), rfl⟩) rfl (h.obj i e ?_)
    rw [look_big ho (hs _ _ hi)]; exact hi
  · exact h.inj _ _ _ _ _ _ (by rw [look_big ho (hs _ _ hi)]; exact hi) (by rw [look_big ho (hs _ _ hi')]; exact hi')
def isLoop (s : Sto) : Prop := ∃ li fr st p, look s 1000000 = some (.loop li fr st p)
end Go.Abs
namespace Go.Abs
open Go
variable {P : Program} {V : Env} {T : Tab} {c : Ctx} {w0 : World} {σ0 : Sig} {φ0 : Pl} {M : Nat → Prop} {n : Nat} {rd : Option Nat} {mk : List Deferred} {ops : Array Oper} {o : Oper} {rest : List Oper} {fr : List (Nat × AV)} {sto : Sto} {K : St → Prop} {st st0 : St} {acc : List Tr}
theorem d_new (hV : EnvOk P V) (id : Nat) {d : Nat} {v : AV} {wr : List (Nat × Option AObj)} {nw : List Nat} (hg : o.guard = none) (hdst : o.dst = some d) (hd : Nat.blt d c.n = true) (h : step3 V ⟨fr, sto⟩ o id = some ⟨v, wr, nw⟩) (hid : Nat.blt (id + 1) 1000000 = true) (hf : freshLB ⟨fr, sto⟩ nw = true)
    (k : DRun P c ops st0 rest ⟨(d, v) :: fr, appW wr sto⟩ (⟨v, wr, riOf ⟨fr, sto⟩ o.op, nw⟩ :: acc) K) : DRun P c ops st0 (o :: rest) ⟨fr, sto⟩ acc K :=
  d_run hg (loc_step3 hV (by rw [hdst]; exact hd) h hid) (by rw [hdst]; exact k)
theorem d_store (hV : EnvOk P V) {v : AV} {wr : List (Nat × Option AObj)} (hg : o.guard = none) (hdst : o.dst = none) (h : step3 V ⟨fr, sto⟩ o 0 = some ⟨v, wr, []⟩)
    (k : DRun P c ops st0 rest ⟨fr, appW wr sto⟩ (⟨v, wr, riOf ⟨fr, sto⟩ o.op, []⟩ :: acc) K) : DRun P c ops st0 (o :: rest) ⟨fr, sto⟩ acc K :=
  d_run hg (loc_step3 hV (by rw [hdst]; rfl) h rfl) (by rw [hdst]; exact k)
def OkR (P : Program) (c : Ctx) (bl : Nat) (g : Operand) (ps : Array Nat) (assign body rest : Code) (st : St) (Q : Exit → St → Prop) : Prop :=
  ∀ (a : Act) (w : World) (σ : Sig) (φ : Pl), Rel c st a w σ φ → (Code.block bl (.rangeFunc g ps assign body)).wpIn (fnc c) 0 P
    (Exit.then (rest.wpIn (fnc c) 0 P fun e a' w' => ∃ st' σ' φ', Q e st' ∧ RelE c e st' a' w' σ' φ') fun e a' w' => ∃ st' σ' φ', Q e st' ∧ RelE c e st' a' w' σ' φ') a w
def normQ (R : St → Prop) (e : Exit) (st : St) : Prop := e = .normal ∧ R st
def retQ (Q : Exit → St → Prop) (e : Exit) (st : St) : Prop := e = .ret ∧ Q .ret st
structure FamW {α : Type} (E : α → Sto) : Prop where
  big : ∀ a, bigS (E a)
  ins : ∀ a, stoIn (E a) (E a) = true
  lp : ∀ a, isLoop (E a)
  nd : ∀ a, nodupL (keysL (E a)) = true
def fitG (r : Nat → Nat) : List Nat → Bool
  | [] => true
  | i :: l => (!(Nat.ble 1000000 (r i) && Nat.blt (r i) 2000000) || Nat.beq (r i) i) && fitG r l
theorem fitG_ok {r : Nat → Nat} : ∀ {l : List Nat}, fitG r l = true → ∀ {i : Nat}, i ∈ l → Pin (r i) → r i = i
  | j :: l, h, i, hi, hb => by
    simp only [fitG, Bool.and_eq_true, Bool.or_eq_true, Bool.not_eq_true'] at h
    rcases List.mem_cons.1 hi with rfl | hi
    · rcases h.1 with h1 | h1
      · rw [Nat.ble_eq.mpr hb.1, Nat.blt_eq.mpr hb.2] at h1; cases h1
      · exact Nat.eq_of_beq_eq_true h1
    · exact fitG_ok h.2 hi hb
theorem imp_ren (r : Nat → Nat) (hk : (nodupL (keysL sto) && nodupL (mapN r (keysL sto)) && fitG r (keysL sto) && stoIn sto sto && frIn sto fr) = true) : Imp c ⟨fr, sto⟩ ⟨renFr r fr, renS r sto⟩ := by
  intro a w σ φ hr
  simp only [Bool.and_eq_true] at hk
  obtain ⟨⟨⟨⟨h1, h2⟩, h3⟩, h4⟩, h5⟩ := hk
  classical
  let φ' : Pl := fun t => if h : ∃ i, i ∈ keysL sto ∧ r i = t then φ h.choose else φ t
  have hφ : ∀ {i : Nat}, i ∈ keysL sto → φ' (r i) = φ i := by
    intro i hi
    have hex : ∃ j, j ∈ keysL sto ∧ r j = r i := ⟨i, hi, rfl⟩
    show (if h : ∃ j, j ∈ keysL sto ∧ r j = r i then φ h.choose else φ (r i)) = φ i
    rw [dif_pos hex]
    have := hex.choose_spec
    rw [nodup_inj h2 this.1 hi this.2]
  have hR : ∀ j o, look sto j = some o → look (renS r sto) (r j) = some (renO r o) ∧ φ' (r j) = φ j := fun j o hj => ⟨renS_look h2 hj, hφ (look_key hj)⟩
  refine ⟨σ, φ', hr.le, hr.fresh, ⟨hr.inv.sig, fun t e ht => ?_, fun t t' e e' p p' ht ht' hne hp hp' => ?_⟩, fun t e p ht hp => ?_, fun s v hv => ?_, hr.defers, hr.size, hr.fra, fun t ht => ?_⟩
  · obtain ⟨i, o, rfl, hi, rfl⟩ := look_renS h1 ht
    exact reObj hR hi (stoIn_look h4 hi) (hr.inv.obj _ _ hi)
  · obtain ⟨i, o, rfl, hi, rfl⟩ := look_renS h1 ht
    obtain ⟨i', o', rfl, hi', rfl⟩ := look_renS h1 ht'
    rw [(hR _ _ hi).2] at hp
    rw [(hR _ _ hi').2] at hp'
    exact hr.inv.inj _ _ _ _ _ _ hi hi' (fun e => hne (by rw [e])) hp hp'
  · obtain ⟨i, o, rfl, hi, rfl⟩ := look_renS h1 ht
    rw [(hR _ _ hi).2] at hp
    exact hr.mine _ _ _ hi hp
  · rw [look_renFr] at hv
    cases hl : look fr s with
    | none => rw [hl] at hv; cases hv
    | some v0 =>
      rw [hl] at hv; cases hv
      obtain ⟨u, hu, hru⟩ := hr.slot s v0 hl
      exact ⟨u, hu, reV hR (frIn_look h5 hl) hru⟩
  · show (if h : ∃ j, j ∈ keysL sto ∧ r j = t then φ h.choose else φ t) = _
    split
    · rename_i hex
      have hs := hex.choose_spec
      have := fitG_ok h3 hs.1 (by rw [hs.2]; exact ht)
      rw [hs.2] at this
      rw [← this]; exact hr.pin t ht
    · exact hr.pin t ht
def AssignQ (P : Program) (id : Nat) (c : Ctx) (body : Code) (rav : AV) (rsto : Sto) (e : Exit) (st : St) : Prop :=
  e = .normal ∧ ∃ li1 fr1, look st.sto id = some (.loop li1 fr1 .ready none) ∧ OkC P c body ⟨st.fr, setS id (.loop li1 fr1 .busy none) st.sto⟩ (RoundQ id rav rsto)
end Go.Abs
namespace Go.Abs
open Go
variable {P : Program} {V : Env} {T : Tab} {c : Ctx} {st st0 : St} {σ σ' : Sig} {φ φ' : Pl} {w w' : World}
theorem wl_run {ops : Array Oper} {o : Oper} {rest : List Oper} {a : Act} {Q : Exit → Act → World → Prop} {u : Value} (hg : o.guard = none) (hrun : (execOp a.eval o).run P w = .ok (.value u) w') (h : wpListIn (fnc c) 0 P ops Q rest (a.put o.dst u) w') : wpListIn (fnc c) 0 P ops Q (o :: rest) a w := by
  refine wpListIn_plain hg fun K' hK => ⟨fun f _ => fnc_fn c f, ?_⟩
  rw [semAt_run (by simp) hrun]
  exact hK _ _ h
theorem run_next_over {s : ByteArray} {pos r : Nat} {ty : TypeId} (hh : w.heap[r]? = some (.stringIter s pos)) (h : ¬ pos < s.size) : (Instr.next (.pointer (some ⟨r, 0, none⟩)) true ty).run P w = .ok (.tuple #[.bool false]) w := by
  simp [Instr.next, getObj, Sem.run, hh, Result.andThen, h]
theorem run_next_more {s : ByteArray} {pos r : Nat} {ty : TypeId} (hh : w.heap[r]? = some (.stringIter s pos)) (h : pos < s.size) : (Instr.next (.pointer (some ⟨r, 0, none⟩)) true ty).run P w =
    .ok (.tuple #[.bool true, .int .i64 pos, .int .i32 (Utf8.decode s pos).1]) { w with heap := w.heap.setIfInBounds r (.stringIter s (pos + (Utf8.decode s pos).2)) } := by
  simp [Instr.next, getObj, setObj, Sem.run, hh, Result.andThen, h, goInt]
theorem decode_wide (s : ByteArray) (pos : Nat) (h : pos < s.size) : 1 ≤ (Utf8.decode s pos).2 := by
  by_cases ha : (s[pos]'h).toNat < 128
  · rw [decode_ascii s pos h ha]; exact Nat.le_refl _
  · exact (decode_high s pos h (by omega)).2
theorem Rel.iter {fr : List (Nat × AV)} {a : Act} {r : Nat} {s : ByteArray} {p q : Nat} (hr : Rel c ⟨fr, []⟩ a w σ φ) (hh : w.heap[r]? = some (.stringIter s p)) (hn : c.w0.heap.size ≤ r) :
    Rel c ⟨fr, []⟩ a { w with heap := w.heap.setIfInBounds r (.stringIter s q) } σ φ := by
  refine ⟨hr.le, hr.fresh, ⟨fun b cs hb => ?_, fun i e hi => by simp [look] at hi, fun i i' e e' p p' hi => by simp [look] at hi⟩, fun i e p hi => by simp [look] at hi, hr.slot, hr.defers, hr.size, ⟨hr.fra.os, hr.fra.tape, hr.fra.output, ?_, hr.fra.drawn, fun b hb hm => ?_⟩, hr.pin⟩
  · obtain ⟨t, f, h1⟩ := hr.inv.sig b cs hb
    refine ⟨t, f, ?_⟩
    have hne : r ≠ b := by rintro rfl; rw [hh] at h1; cases h1
    simp only [Array.getElem?_setIfInBounds_ne hne]; exact h1
  · simp only [Array.size_setIfInBounds]; exact hr.fra.size
  · have hne : r ≠ b := by omega
    simp only [Array.getElem?_setIfInBounds_ne hne]; exact hr.fra.block b hb hm
def runeOf (s : List UInt8) (k : Nat) : Int := ((Utf8.decode ⟨s.toArray⟩ k).1 : Nat)
def widthOf (s : List UInt8) (k : Nat) : Nat := (Utf8.decode ⟨s.toArray⟩ k).2
theorem rune_ascii {s : List UInt8} {k : Nat} {b : UInt8} (h : s[k]? = some b) (hb : b.toNat < 128) : runeOf s k = b.toNat ∧ widthOf s k = 1 := by
  obtain ⟨hl, he⟩ := List.getElem?_eq_some_iff.1 h
  have hk : k < (⟨s.toArray⟩ : ByteArray).size := by simpa [ByteArray.size] using hl
  have hg : (⟨s.toArray⟩ : ByteArray)[k]'hk = b := by
    show s.toArray[k]'(by simpa using hl) = b
    simpa using he
  have := decode_ascii ⟨s.toArray⟩ k hk (by rw [hg]; exact hb)
  unfold runeOf widthOf
  rw [this, hg]
  exact ⟨rfl, rfl⟩
theorem rune_high {s : List UInt8} {k : Nat} {b : UInt8} (h : s[k]? = some b) (hb : ¬ b.toNat < 128) : 128 ≤ runeOf s k := by
  obtain ⟨hl, he⟩ := List.getElem?_eq_some_iff.1 h
  have hk : k < (⟨s.toArray⟩ : ByteArray).size := by simpa [ByteArray.size] using hl
  have hg : (⟨s.toArray⟩ : ByteArray)[k]'hk = b := by
    show s.toArray[k]'(by simpa using hl) = b
    simpa using he
  have := (decode_high ⟨s.toArray⟩ k hk (by rw [hg]; omega)).1
  unfold runeOf; omega
theorem subL_skip {α : Type} {d : Nat} {v : α} {l : List (Nat × α)} : ∀ {kept : List (Nat × α)}, look kept d = none → SubL l kept → SubL ((d, v) :: l) kept
  | [], _, _ => trivial
  | (t, x) :: r, h, hs => by
    simp only [look] at h
    cases hb : Nat.beq t d with
    | true => rw [hb] at h; simp at h
    | false =>
      rw [hb] at h
      simp only [cond_false] at h
      refine ⟨?_, subL_skip h hs.2⟩
      have : Nat.beq d t = false := by
        cases hc : Nat.beq d t with
        | false => rfl
        | true => have := Nat.eq_of_beq_eq_true hc; subst this; rw [Nat.beq_refl] at hb; cases hb
      simp only [look, this, cond_false]
      exact hs.1
theorem RelE.back {fr : List (Nat × AV)} {st' : St} {a a' : Act} {e : Exit} (hmk : c.mks = []) (hr : Rel c ⟨fr, []⟩ a w σ φ) (h : RelE ⟨w, σ, φ, MOf φ [], c.n, c.rd, []⟩ e st' a' w' σ' φ') : RelE c e st' a' w' σ' φ' := by
  rcases h with h | ⟨he, r, h1, h2, h3, h4⟩
  · have hb := Rel.back (rd := c.rd) (mk := []) hr h
    have hd : a'.defers = [] := h.defers
    have : ({ a' with defers := c.mks } : Act) = a' := by rw [hmk, ← hd]
    rw [this] at hb
    exact .inl hb
  · have hb := Rel.back (rd := c.rd) (mk := []) hr h4
    rw [hmk] at hb
    exact .inr ⟨he, r, h1, h2, Nat.le_trans hr.fra.size h3, hb⟩
def strQ (bl : Nat) (Q : Exit → St → Prop) (I : Prop) (kept : List (Nat × AV)) (e : Exit) (st : St) : Prop := (e = .normal ∧ I ∧ SubL st.fr kept) ∨ (e ≠ .normal ∧ blockQ bl Q e st)
def overQ (bl : Nat) (Q : Exit → St → Prop) (e : Exit) (st : St) : Prop := e ≠ .normal ∧ blockQ bl Q e st
theorem strQ_n {bl : Nat} {Q : Exit → St → Prop} {I : Prop} {kept : List (Nat × AV)} (h : I) (hs : SubL st.fr kept) : strQ bl Q I kept .normal st := .inl ⟨rfl, h, hs⟩
theorem strQ_x {bl : Nat} {Q : Exit → St → Prop} {I : Prop} {kept : List (Nat × AV)} {e : Exit} (he : e ≠ .normal) (h : blockQ bl Q e st) : strQ bl Q I kept e st := .inr ⟨he, h⟩
theorem overQ_x {bl : Nat} {Q : Exit → St → Prop} {e : Exit} (he : e ≠ .normal) (h : blockQ bl Q e st) : overQ bl Q e st := ⟨he, h⟩
theorem ok_rangeStr {id1 id2 bl : Nat} {o0 o1 o2 : Oper} {l2 : List Oper} {body2 : Code} {fr kept : List (Nat × AV)} {Q : Exit → St → Prop} {d0 d1 d2 : Nat} {t : TypeId} {x0 : Operand} {s : List UInt8}
    (hmk : c.mks = []) (h0 : o0.op = .move x0) (hg0 : o0.guard = none) (hd0 : o0.dst = some d0) (hb0 : Nat.blt d0 c.n = true) (hx : ev ⟨fr, []⟩ x0 = some (.one (.d (.str s))))
    (h1 : o1.op = .range t (.tmp d0)) (hg1 : o1.guard = none) (hd1 : o1.dst = some d1) (hb1 : Nat.blt d1 c.n = true) (ht : P.underlying t = some .string)
    (h2 : o2.op = .next (.tmp d1) true) (hg2 : o2.guard = none) (hd2 : o2.dst = some d2) (hb2 : Nat.blt d2 c.n = true) (hne : Nat.beq d0 d1 = false)
    (hk : SubL fr kept) (hkd : look kept d0 = none) (hkd1 : look kept d1 = none) (hkd2 : look kept d2 = none) (Inv : Nat → Prop) (hi : Inv 0)
    (hmore : ∀ k, Inv k → k < s.length → ∀ (c2 : Ctx), c2.n = c.n → c2.rd = c.rd → c2.mks = [] → ∀ raw, OkOps P c2 (o2 :: l2).toArray l2 ⟨(d2, .tup [(false, [.d (.bool true)]), (false, [.d (.int .i64 k)]), (false, [.d (.int .i32 (runeOf s k))])]) :: (d1, .one (.d (.raw raw))) :: kept, []⟩
      (fun st' => OkC P c2 body2 st' (strQ bl Q (Inv (k + widthOf s k)) ((d1, .one (.d (.raw raw))) :: kept))))
    (hover : ∀ k, Inv k → s.length ≤ k → ∀ (c2 : Ctx), c2.n = c.n → c2.rd = c.rd → c2.mks = [] → ∀ raw, OkOps P c2 (o2 :: l2).toArray l2 ⟨(d2, .tup [(false, [.d (.bool false)])]) :: (d1, .one (.d (.raw raw))) :: kept, []⟩
      (fun st' => OkC P c2 body2 st' (overQ bl Q))) :
    OkC P c (.seq (.region id1 ⟨[o0, o1]⟩ false) (.block bl (.loop (.seq (.region id2 ⟨o2 :: l2⟩ false) body2)))) ⟨fr, []⟩ Q := by
  intro a w σ φ hr
  refine wpIn_seq (wpIn_region_list ?_)
  have hs := ev_rep hr hx
  replace hs := RepC.d_inv hs
  generalize hv : a.eval x0 = v at hs
  cases hs with
  | str hlen =>
  have hrun0 : (execOp a.eval o0).run P w = .ok (.value (.string ⟨s.toArray⟩)) w := by
    rw [← hv]; simp [execOp, h0]
  refine wl_run hg0 hrun0 ?_
  have hr1 : Rel c ⟨(d0, .one (.d (.str s))) :: fr, []⟩ (a.put o0.dst (.string ⟨s.toArray⟩)) w σ φ := by
    have := hr.putTo (dst := o0.dst) (v := .one (.d (.str s))) (u := .string ⟨s.toArray⟩) (st' := ⟨fr, []⟩) (by rw [hd0]; exact hb0) hr.le hr.fresh hr.inv hr.mine hr.fra hr.pin (fun _ => RepC.d (.str hlen)) (fun s x _ hx => ⟨x, hx, fun z hz => hz⟩)
    rw [hd0] at this ⊢; exact this
  generalize ha1 : a.put o0.dst (.string ⟨s.toArray⟩) = a1 at hr1
  have hv1 : a1.eval (.tmp d0) = .string ⟨s.toArray⟩ := by
    have h3 := ev_rep hr1 (x := .tmp d0) (v := .one (.d (.str s))) (by simp [ev, look])
    replace h3 := RepC.d_inv h3
    generalize a1.eval (.tmp d0) = v1 at h3
    cases h3; rfl
  let ptr : Value := .pointer (some ⟨w.heap.size, 0, none⟩)
  have hrun1 : (execOp a1.eval o1).run P w = .ok (.value ptr) (w.alloc (.stringIter ⟨s.toArray⟩ 0)) := by
    have h4 := run_range_string (P := P) w t ⟨s.toArray⟩ ht
    simp only [execOp, h1, hv1]
    simp only [Sem.run_bind, h4, Result.andThen_ok, Sem.run_pure]
    rfl
  refine wl_run hg1 hrun1 (wpListIn_nil ?_)
  have hrA := hr1.alien (.stringIter ⟨s.toArray⟩ 0)
  have hr2 : Rel c ⟨(d1, .one (.d (.raw ptr))) :: (d0, .one (.d (.str s))) :: fr, []⟩ (a1.put o1.dst ptr) (w.alloc (.stringIter ⟨s.toArray⟩ 0)) σ φ := by
    have := hrA.putTo (dst := o1.dst) (v := .one (.d (.raw ptr))) (u := ptr) (st' := ⟨(d0, .one (.d (.str s))) :: fr, []⟩) (by rw [hd1]; exact hb1) hrA.le hrA.fresh hrA.inv hrA.mine hrA.fra hrA.pin (fun _ => RepC.d (.raw rfl)) (fun s x _ hx => ⟨x, hx, fun z hz => hz⟩)
    rw [hd1] at this ⊢; exact this
  generalize a1.put o1.dst ptr = a2 at hr2
  have hold : c.w0.heap.size ≤ w.heap.size := hr.fra.size
  let r := w.heap.size
  have hr3 : Rel c ⟨(d1, .one (.d (.raw ptr))) :: kept, []⟩ a2 (w.alloc (.stringIter ⟨s.toArray⟩ 0)) σ φ :=
    ⟨hr2.le, hr2.fresh, hr2.inv, hr2.mine, fun s v hv => hr2.slot s v (SubL.look (l' := (d1, .one (.d (.raw ptr))) :: kept) ⟨by simp [look], subL_skip hkd1 (subL_skip hkd hk)⟩ hv), hr2.defers, hr2.size, hr2.fra, hr2.pin⟩
  refine wpIn_block (wpIn_loop (fun a w => ∃ k σ φ, Inv k ∧ Rel c ⟨(d1, .one (.d (.raw ptr))) :: kept, []⟩ a w σ φ ∧ w.heap[r]? = some (.stringIter ⟨s.toArray⟩ k)) (fun _ w => match w.heap[r]? with | some (.stringIter _ p) => s.length - p | _ => 0)
    ⟨0, σ, φ, hi, hr3, alloc_heap_new _ _⟩ ?_)
  clear hr3 hr2 hrA hr1 hrun1 hrun0 hv1 ha1 a1 a2
  rintro a w1 ⟨k, σ1, φ1, hI, hr4, hh⟩
  refine wpIn_seq (wpIn_region_list ?_)
  have hp : a.eval (.tmp d1) = ptr := by
    have h3 := ev_rep hr4 (x := .tmp d1) (v := .one (.d (.raw ptr))) (by simp [ev, look])
    replace h3 := RepC.d_inv h3
    generalize a.eval (.tmp d1) = v1 at h3
    cases h3; rfl
  have hsz : (⟨s.toArray⟩ : ByteArray).size = s.length := by simp [ByteArray.size]
  have fin : ∀ {w2 : World} {st2 : St} {a2 : Act} (hr5 : Rel c ⟨st2.fr, []⟩ a2 w2 σ1 φ1) (hst : st2.sto = []) {R : St → Prop} {K : Exit → St → Prop} (_ : ∀ st', R st' → OkC P ⟨w2, σ1, φ1, MOf φ1 [], c.n, c.rd, []⟩ body2 st' K)
      (_ : OkOps P ⟨w2, σ1, φ1, MOf φ1 [], c.n, c.rd, []⟩ (o2 :: l2).toArray l2 st2 R) {Z : Exit → Act → World → Prop}
      (_ : ∀ e a5 w5 st5 σ5 φ5, K e st5 → RelE ⟨w2, σ1, φ1, MOf φ1 [], c.n, c.rd, []⟩ e st5 a5 w5 σ5 φ5 → Z e a5 w5), wpListIn (fnc c) 0 P (o2 :: l2).toArray (Exit.then (body2.wpIn (fnc c) 0 P Z) Z) l2 a2 w2 := by
    intro w2 st2 a2 hr5 hst R K hR hO Z hZ
    have hd0 : a2.defers = [] := hr5.defers.trans hmk
    have hd : ({ a2 with defers := [] } : Act) = a2 := by rw [← hd0]
    have hr6 := hr5.anew [] c.rd
    rw [hd] at hr6
    obtain ⟨f2, s2⟩ := st2
    simp only at hst hr6
    subst hst
    refine hO a2 w2 σ1 φ1 _ hr6 fun a4 w4 σ4 φ4 st4 hK hr7 => ?_
    exact wpIn_mono (hR st4 hK a4 w4 σ4 φ4 hr7) fun e a5 w5 ⟨st5, σ5, φ5, hq, hre⟩ => hZ e a5 w5 st5 σ5 φ5 hq hre
  have leave : ∀ {e : Exit} {a5 : Act} {w5 : World} {st5 : St} {σ5 : Sig} {φ5 : Pl}, blockQ bl Q e st5 → RelE c e st5 a5 w5 σ5 φ5 → e ≠ .normal → Exit.inBlock bl (fun e a' w' => ∃ st' σ' φ', Q e st' ∧ RelE c e st' a' w' σ' φ') e a5 w5 := by
    intro e a5 w5 st5 σ5 φ5 hq hre hne
    cases e with
    | normal => exact absurd rfl hne
    | exit i =>
      simp only [blockQ] at hq
      cases hb : Nat.beq i bl with
      | true =>
        have hi := Nat.eq_of_beq_eq_true hb
        rw [hb] at hq
        simp only [Exit.inBlock]
        rw [if_pos hi]
        exact ⟨st5, σ5, φ5, hq, .inl (hre.rel (by simp))⟩
      | false =>
        have hi : i ≠ bl := by rintro rfl; rw [Nat.beq_refl] at hb; cases hb
        rw [hb] at hq
        simp only [Exit.inBlock]
        rw [if_neg hi]
        exact ⟨st5, σ5, φ5, hq, hre⟩
    | _ => exact ⟨st5, σ5, φ5, hq, hre⟩
  by_cases hlt : k < s.length
  · have hrun2 := run_next_more (P := P) (ty := o2.type) hh (by rw [hsz]; exact hlt)
    have hrun : (execOp a.eval o2).run P w1 = .ok (.value (.tuple #[.bool true, .int .i64 k, .int .i32 (Utf8.decode ⟨s.toArray⟩ k).1])) { w1 with heap := w1.heap.setIfInBounds r (.stringIter ⟨s.toArray⟩ (k + (Utf8.decode ⟨s.toArray⟩ k).2)) } := by
      simp only [execOp, h2, hp]
      simp only [Sem.run_bind, ptr]
      rw [show (⟨w.heap.size, 0, none⟩ : Addr) = ⟨r, 0, none⟩ from rfl, hrun2]
      rfl
    refine wl_run hg2 hrun ?_
    have hri := hr4.iter (q := k + (Utf8.decode ⟨s.toArray⟩ k).2) hh hold
    have hrl := decode_le ⟨s.toArray⟩ k
    have hr5 := hri.putTo (dst := o2.dst) (v := .tup [(false, [.d (.bool true)]), (false, [.d (.int .i64 k)]), (false, [.d (.int .i32 (runeOf s k))])]) (u := .tuple #[.bool true, .int .i64 k, .int .i32 (Utf8.decode ⟨s.toArray⟩ k).1]) (st' := ⟨(d1, .one (.d (.raw ptr))) :: kept, []⟩) (by rw [hd2]; exact hb2) hri.le hri.fresh hri.inv hri.mine hri.fra hri.pin
      (fun _ => ⟨[_, _, _], rfl, ⟨⟨.d .bool, trivial⟩, ⟨⟨.d (.int (by
        simp only [inR, IntKind.min, IntKind.max, IntKind.signed, IntKind.bits, if_true]; omega)), trivial⟩, ⟨⟨.d (.int (by
        simp only [inR, runeOf, IntKind.min, IntKind.max, IntKind.signed, IntKind.bits, if_true]; omega)), trivial⟩, trivial⟩⟩⟩⟩) (fun s x _ hx => ⟨x, hx, fun z hz => hz⟩)
    rw [hd2] at hr5 ⊢
    refine fin (st2 := ⟨_, []⟩) hr5 rfl (fun st' h => h) (hmore k hI hlt ⟨_, σ1, φ1, MOf φ1 [], c.n, c.rd, []⟩ rfl rfl rfl ptr) ?_
    rintro e a5 w5 st5 σ5 φ5 hq hre
    have hbk := RelE.back hmk hri hre
    rcases hq with ⟨rfl, hI', hsub⟩ | ⟨hne', hq⟩
    · have h6 := hbk.rel (by simp)
      have h7 := hre.rel (by simp)
      have hlt1 : r < w1.heap.size := (Array.getElem?_eq_some_iff.1 hh).1
      have h8 : w5.heap[r]? = some (.stringIter ⟨s.toArray⟩ (k + widthOf s k)) := by
        rw [h7.fra.block r (by simp only [Array.size_setIfInBounds]; exact hlt1) (by rintro ⟨id, e, p, h, _⟩; simp [look] at h)]
        simp [hlt1, widthOf]
      have h9 := h6.dropTo (s' := []) (by simp [look])
      refine ⟨⟨_, σ5, φ5, hI', ⟨h9.le, h9.fresh, h9.inv, h9.mine, fun s v hv => h9.slot s v (hsub.look hv), h9.defers, h9.size, h9.fra, h9.pin⟩, h8⟩, ?_⟩
      · simp only [h8, hh]
        have := decode_wide ⟨s.toArray⟩ k (by rw [hsz]; exact hlt)
        simp only [widthOf]
        omega
    · have := leave hq hbk hne'
      cases e <;> first | exact absurd rfl hne' | exact this
  · have hrun2 := run_next_over (P := P) (ty := o2.type) hh (by rw [hsz]; exact hlt)
    have hrun : (execOp a.eval o2).run P w1 = .ok (.value (.tuple #[.bool false])) w1 := by
      simp only [execOp, h2, hp]
      simp only [Sem.run_bind, ptr]
      rw [show (⟨w.heap.size, 0, none⟩ : Addr) = ⟨r, 0, none⟩ from rfl, hrun2]
      rfl
    refine wl_run hg2 hrun ?_
    have hr5 := hr4.putTo (dst := o2.dst) (v := .tup [(false, [.d (.bool false)])]) (u := .tuple #[.bool false]) (st' := ⟨(d1, .one (.d (.raw ptr))) :: kept, []⟩) (by rw [hd2]; exact hb2) hr4.le hr4.fresh hr4.inv hr4.mine hr4.fra hr4.pin
      (fun _ => ⟨[_], rfl, ⟨⟨.d .bool, trivial⟩, trivial⟩⟩) (fun s x _ hx => ⟨x, hx, fun z hz => hz⟩)
    rw [hd2] at hr5 ⊢
    refine fin (st2 := ⟨_, []⟩) hr5 rfl (fun st' h => h) (hover k hI (by omega) ⟨_, σ1, φ1, MOf φ1 [], c.n, c.rd, []⟩ rfl rfl rfl ptr) ?_
    rintro e a5 w5 st5 σ5 φ5 ⟨hne', hq⟩ hre
    have := leave hq (RelE.back hmk hr4 hre) hne'
    cases e <;> first | exact absurd rfl hne' | exact this
end Go.Abs
namespace Go.Proofs.YtpejdgkaapnekaaGreat
open Go Go.Abs
attribute [local irreducible] OkOps OkC DRun thenQ blockQ RetQ strQ overQ
set_option maxRecDepth 10000
theorem under9 : Tryz.prog.underlying 9 = some .string := by kernel_rfl
theorem odd_byte {s : List UInt8} {k : Nat} (h : k < s.length) : (decide (runeOf s k < 32) || decide (126 < runeOf s k)) = !okByte (at_ s k) := by
  have hb := at_get h
  by_cases ha : (at_ s k).toNat < 128
  · rw [(rune_ascii hb ha).1, Bool.eq_iff_iff]
    simp [okByte]
    omega
  · have := rune_high hb ha
    rw [Bool.eq_iff_iff]
    simp [okByte]
    omega
theorem ok_width {s : List UInt8} {k : Nat} (h : k < s.length) (hb : okByte (at_ s k) = true) : widthOf s k = 1 := by
  simp [okByte] at hb
  exact (rune_ascii (at_get h) (by omega)).2
theorem c341 (s : List UInt8) : CallA Tryz.prog 341 [.one (.d (.str s)), .one (.d (.fn 281 [])), .one (.d (.bool true))] [] (.one (.d (.int .i64 (idxGo (fun c => !okByte c) s 0)))) [] := by
  refine enter tabOk Tryz.func341 rfl (by decide +kernel) rfl fun hok w0 σ0 φ0 M => ?_
  have hl := hok.1.str; clear hok
  repeat' (first | (show OkOps _ _ _ _ _ _; first | refine okops_nil ?_ | refine s_plain tabOk rfl rfl rfl rfl rfl ?_ | fail) | (show OkC _ _ _ _ _; first | refine ok_rangeStr (kept := [(1, _), (2, _)]) rfl rfl rfl rfl rfl rfl rfl rfl rfl rfl under9 rfl rfl rfl rfl rfl (subL_cons rfl (subL_cons rfl subL_nil)) rfl rfl rfl (fun k => k ≤ s.length ∧ idxGo (fun c => !okByte c) s 0 = idxGo (fun c => !okByte c) (s.drop k) k) ⟨Nat.zero_le _, rfl⟩ ?_ ?_ | refine ok_seq ?_ | refine ok_region ?_ | fail) | (show thenQ _ _ _ _; first | refine then_n ?_ | fail) | fail)
  · rintro k ⟨hk, hi⟩ hlt ⟨w1, σ1, φ1, M1, n1, rd1, mk1⟩ hn hrd hmk raw
    dsimp only at hn hrd hmk
    subst hn hrd hmk
    repeat' (first | (show OkOps _ _ _ _ _ _; first | refine okops_nil ?_ | refine s_plain tabOk rfl rfl rfl rfl rfl ?_ | (show OkOps _ _ _ (Oper.mk _ (Op.call _) _ _ _ (_) :: _) _ _; first | refine s_callF rfl rfl rfl rfl rfl rfl rfl rfl (c281 _) rfl ?_ | fail) | fail) | (show OkC _ _ _ _ _; first | refine ok_seq ?_ | refine ok_region ?_ | refine ok_block ?_ | refine ok_skip ?_ | refine ok_ret ?_ | refine ok_condT rfl ?_ | refine ok_cond rfl (fun h => ?_) (fun h => ?_) | fail) | (show thenQ _ _ _ _; first | refine then_n ?_ | refine then_r ?_ | fail) | (show blockQ _ _ _ _; first | refine block_n ?_ | refine block_r ?_ | fail) | (show RetQ _ _ _ _ _ _; first | refine ret_leaf (.inl rfl) rfl rfl ?_ | fail) | (show strQ _ _ _ _ _ _; first | refine strQ_n ?_ (by first | exact subL_nil | exact (subL_cons rfl subL_nil) | exact (subL_cons rfl (subL_cons rfl subL_nil)) | exact (subL_cons rfl (subL_cons rfl (subL_cons rfl subL_nil))) | exact (subL_cons rfl (subL_cons rfl (subL_cons rfl (subL_cons rfl subL_nil)))) | exact (subL_cons rfl (subL_cons rfl (subL_cons rfl (subL_cons rfl (subL_cons rfl subL_nil))))) | exact (subL_cons rfl (subL_cons rfl (subL_cons rfl (subL_cons rfl (subL_cons rfl (subL_cons rfl subL_nil)))))) | exact (subL_cons rfl (subL_cons rfl (subL_cons rfl (subL_cons rfl (subL_cons rfl (subL_cons rfl (subL_cons rfl subL_nil)))))))) | refine strQ_x (by simp) ?_ | fail) | fail)
    · rw [odd_byte hlt] at h
      rw [hi, at_drop hlt]
      simp at h
      simp [idxGo, h]
    · rw [odd_byte hlt] at h
      have hb : okByte (at_ s k) = true := by simpa using h
      rw [ok_width hlt hb]
      refine ⟨by omega, ?_⟩
      rw [hi, at_drop hlt]
      simp [idxGo, hb]
  · rintro k ⟨hk, hi⟩ hge ⟨w1, σ1, φ1, M1, n1, rd1, mk1⟩ hn hrd hmk raw
    dsimp only at hn hrd hmk
    subst hn hrd hmk
    repeat' (first | (show OkOps _ _ _ _ _ _; first | refine okops_nil ?_ | refine s_plain tabOk rfl rfl rfl rfl rfl ?_ | fail) | (show OkC _ _ _ _ _; first | refine ok_seq ?_ | refine ok_region ?_ | refine ok_ret ?_ | refine ok_exit ?_ | refine ok_condF rfl ?_ | fail) | (show thenQ _ _ _ _; first | refine then_n ?_ | refine then_x ?_ | fail) | (show blockQ _ _ _ _; first | refine block_x rfl ?_ | fail) | (show RetQ _ _ _ _ _ _; first | refine ret_leaf (.inl rfl) rfl rfl ?_ | fail) | (show overQ _ _ _ _; first | refine overQ_x (by simp) ?_ | fail) | fail)
    rw [hi, List.drop_eq_nil_of_le hge]
    rfl
theorem c282 (s : List UInt8) : CallA Tryz.prog 282 [.one (.d (.str s)), .one (.d (.fn 281 []))] [] (.one (.d (.int .i64 (idxGo (fun c => !okByte c) s 0)))) [] := by
  refine enter tabOk Tryz.func282 rfl (by decide +kernel) rfl fun hok w0 σ0 φ0 M => ?_
  clear hok
  repeat' (first | (show OkOps _ _ _ _ _ _; first | refine okops_nil ?_ | refine s_plain tabOk rfl rfl rfl rfl rfl ?_ | (show OkOps _ _ _ (Oper.mk _ (Op.call _) _ _ _ (_) :: _) _ _; first | refine s_callF rfl rfl rfl rfl rfl rfl rfl rfl (c341 _) rfl ?_ | fail) | fail) | (show OkC _ _ _ _ _; first | refine ok_seq ?_ | refine ok_region ?_ | refine ok_ret ?_ | fail) | (show thenQ _ _ _ _; first | refine then_n ?_ | fail) | (show RetQ _ _ _ _ _ _; first | refine ret_leaf (.inl rfl) rfl rfl ?_ | fail) | fail)
  all_goals rfl
end Go.Proofs.YtpejdgkaapnekaaGreat
namespace Go.Proofs.YtpejdgkaapnekaaGreat
open Go Go.Abs
attribute [local irreducible] OkOps OkC DRun thenQ blockQ RetQ
set_option maxRecDepth 10000
theorem c280' (a b : Int) (ha : 0 ≤ a) (hb : 0 ≤ b) : CallA Tryz.prog 280 [.one (.d (.int .i64 a)), .one (.d (.int .i64 b))] [] (.one (.d (.int .i64 ((Nat.gcd a.toNat b.toNat : Nat) : Int)))) [] := by
  have := c280 a.toNat b.toNat
  rwa [Int.toNat_of_nonneg ha, Int.toNat_of_nonneg hb] at this
theorem idx_all {s : List UInt8} : ∀ (k : Nat), (decide (idxGo (fun c => !okByte c) s k < 0)) = s.all okByte := by
  induction s with
  | nil => intro k; simp [idxGo]
  | cons c r ih =>
    intro k
    simp only [idxGo, List.all_cons, ← ih (k + 1)]
    rw [Bool.eq_iff_iff]
    by_cases hc : okByte c = true <;> simp [hc]
theorem c233 (k n d : Int) (s : List UInt8) : CallA Tryz.prog 233 [.agg [.d (.int .i64 k), .d (.int .i64 n), .d (.int .i64 d), .d (.str s)]] [] (.one (.d (.bool (rightF k n d s)))) [] := by
  refine enter tabOk Tryz.func233 rfl (by decide +kernel) rfl fun hok w0 σ0 φ0 M => ?_
  have h1 := (hok.1 (.d (.int .i64 n)) (by simp)); replace h1 := OkD.i64 h1; clear hok
  repeat' (first | (show OkOps _ _ _ _ _ _; first | refine okops_nil ?_ | refine s_plain tabOk rfl rfl rfl rfl rfl ?_ | (show OkOps _ _ _ (Oper.mk _ (_) _ _ _ (some _) :: _) _ _; first | refine s_guard rfl rfl (by first | assumption | rfl) ?_ | refine s_out rfl rfl (by first | assumption | rfl) rfl rfl ?_ | refine s_outN rfl rfl rfl rfl ?_ | refine s_split rfl rfl rfl rfl (fun h => ?_) (fun h => ?_) | fail) | (show OkOps _ _ _ (Oper.mk _ (Op.unOp .neg _ _) _ _ _ (_) :: _) _ _; first | refine s_e envOk rfl rfl rfl (step3_neg rfl rfl (wrap64 (by first | omega | ((try simp only [decide_eq_true_eq, decide_eq_false_iff_not, Bool.not_eq_true', Bool.not_true, Bool.not_false, List.length_map, List.length_set, bne_iff_ne, ne_eq, beq_iff_eq, bne_eq_false_iff_eq, beq_eq_false_iff_ne] at *); omega)) (by first | omega | ((try simp only [decide_eq_true_eq, decide_eq_false_iff_not, Bool.not_eq_true', Bool.not_true, Bool.not_false, List.length_map, List.length_set, bne_iff_ne, ne_eq, beq_iff_eq, bne_eq_false_iff_eq, beq_eq_false_iff_ne] at *); omega)))) ?_ | fail) | (show OkOps _ _ _ (Oper.mk _ (Op.pick _ _ _) _ _ _ (_) :: _) _ _; first | refine s_e envOk rfl rfl rfl (step3_pickT rfl rfl (by first | rfl | assumption) rfl) ?_ | refine s_e envOk rfl rfl rfl (step3_pickF rfl rfl (by first | rfl | assumption) rfl) ?_ | fail) | (show OkOps _ _ _ (Oper.mk _ (Op.call _) _ _ _ (_) :: _) _ _; first | refine s_callF rfl rfl rfl rfl rfl rfl rfl rfl (c279 _ _ _ _) rfl ?_ | refine s_callF rfl rfl rfl rfl rfl rfl rfl rfl (c280' _ _ (by first | omega | ((try simp only [decide_eq_true_eq, decide_eq_false_iff_not, Bool.not_eq_true', Bool.not_true, Bool.not_false, List.length_map, List.length_set, bne_iff_ne, ne_eq, beq_iff_eq, bne_eq_false_iff_eq, beq_eq_false_iff_ne] at *); omega)) (by first | omega | ((try simp only [decide_eq_true_eq, decide_eq_false_iff_not, Bool.not_eq_true', Bool.not_true, Bool.not_false, List.length_map, List.length_set, bne_iff_ne, ne_eq, beq_iff_eq, bne_eq_false_iff_eq, beq_eq_false_iff_ne] at *); omega))) rfl ?_ | refine s_callF rfl rfl rfl rfl rfl rfl rfl rfl (c282 _) rfl ?_ | fail) | (show OkOps _ _ _ (Oper.mk _ (Op.box _ _) _ _ _ (_) :: _) _ _; first | refine s_box 0 rfl rfl rfl rfl rfl rfl ?_ | fail) | fail) | (show OkC _ _ _ _ _; first | refine ok_seq ?_ | refine ok_region ?_ | refine ok_block ?_ | refine ok_skip ?_ | refine ok_ret ?_ | refine ok_cond rfl (fun h => ?_) (fun h => ?_) | fail) | (show thenQ _ _ _ _; first | refine then_n ?_ | refine then_r ?_ | fail) | (show blockQ _ _ _ _; first | refine block_n ?_ | refine block_r ?_ | fail) | (show RetQ _ _ _ _ _ _; first | refine ret_leaf (.inl rfl) rfl rfl ?_ | fail) | fail)
  all_goals (try (((simp_all [rightF, ← idx_all 0, at_drop, List.drop_eq_nil_of_le]) <;> first | omega | (rw [Bool.eq_iff_iff]; simp; omega) | grind); done))
end Go.Proofs.YtpejdgkaapnekaaGreat
namespace Go.Proofs.YtpejdgkaapnekaaGreat
open Go Go.Abs
attribute [local irreducible] OkOps OkC DRun thenQ blockQ RetQ
set_option maxRecDepth 10000
theorem c215 (k n d : Int) (s : List UInt8) (t : Int) : CallA Tryz.prog 215 [.agg [.d (.int .i64 k), .d (.int .i64 n), .d (.int .i64 d), .d (.str s)], .one (.d (.int .i64 t))] [] (.one (.d (.bool (fitsF k n d s t)))) [] := by
  refine enter tabOk Tryz.func215 rfl (by decide +kernel) rfl fun hok w0 σ0 φ0 M => ?_
  clear hok
  repeat' (first | (show OkOps _ _ _ _ _ _; first | refine okops_nil ?_ | refine s_plain tabOk rfl rfl rfl rfl rfl ?_ | (show OkOps _ _ _ (Oper.mk _ (_) _ _ _ (some _) :: _) _ _; first | refine s_guard rfl rfl (by first | assumption | rfl) ?_ | refine s_out rfl rfl (by first | assumption | rfl) rfl rfl ?_ | refine s_outN rfl rfl rfl rfl ?_ | refine s_split rfl rfl rfl rfl (fun h => ?_) (fun h => ?_) | fail) | (show OkOps _ _ _ (Oper.mk _ (Op.pick _ _ _) _ _ _ (_) :: _) _ _; first | refine s_e envOk rfl rfl rfl (step3_pickT rfl rfl (by first | rfl | assumption) rfl) ?_ | refine s_e envOk rfl rfl rfl (step3_pickF rfl rfl (by first | rfl | assumption) rfl) ?_ | fail) | (show OkOps _ _ _ (Oper.mk _ (Op.call _) _ _ _ (_) :: _) _ _; first | refine s_callF rfl rfl rfl rfl rfl rfl rfl rfl (c233 _ _ _ _) rfl ?_ | fail) | (show OkOps _ _ _ (Oper.mk _ (Op.box _ _) _ _ _ (_) :: _) _ _; first | refine s_box 0 rfl rfl rfl rfl rfl rfl ?_ | fail) | fail) | (show OkC _ _ _ _ _; first | refine ok_seq ?_ | refine ok_region ?_ | refine ok_block ?_ | refine ok_skip ?_ | refine ok_ret ?_ | refine ok_condT rfl ?_ | refine ok_cond rfl (fun h => ?_) (fun h => ?_) | fail) | (show thenQ _ _ _ _; first | refine then_n ?_ | refine then_r ?_ | fail) | (show blockQ _ _ _ _; first | refine block_n ?_ | refine block_r ?_ | fail) | (show RetQ _ _ _ _ _ _; first | refine ret_leaf (.inl rfl) rfl rfl ?_ | fail) | fail)
  all_goals (try (((simp_all [fitsF, at_drop, List.drop_eq_nil_of_le]) <;> first | omega | (rw [Bool.eq_iff_iff]; simp; omega) | grind); done))
  all_goals (by_cases hk : k = 0 <;> simp_all [fitsF, rightF])
  all_goals omega
end Go.Proofs.YtpejdgkaapnekaaGreat
namespace Go.Proofs.YtpejdgkaapnekaaGreat
open Go Go.Abs
attribute [local irreducible] OkOps OkC DRun thenQ blockQ RetQ
set_option maxRecDepth 10000
structure Cell where
  at' : List Int
  vals : List Val
  deriving Inhabited
def encCell (c : Cell) : List D := [encInts c.at', encVals c.vals]
def encCells (l : List Cell) : D := .sl 2 48 (l.map encCell)
def valsGo : List Attr → List Val → Int
  | a :: ats, v :: vs => if !fitsF v.kind v.num v.den v.str a.type then 12 else valsGo ats vs
  | _, _ => 0
def cellF (ds : List Dim) (ats : List Attr) (at' : List Int) (vs : List Val) : Int :=
  if (at'.length : Int) ≠ ds.length ∨ (vs.length : Int) ≠ ats.length then 13 else if !ofF ds at' then 3 else valsGo ats vs
theorem c161 (ds : List Dim) (ats : List Attr) (at' : List Int) (vs : List Val) : CallA Tryz.prog 161 [.one (.d (encDims ds)), .one (.d (encAttrs ats)), .agg [.d (encInts at'), .d (encVals vs)]] [] (.one (.d (.int .i64 (cellF ds ats at' vs)))) [] := by
  refine enter tabOk Tryz.func161 rfl (by decide +kernel) rfl fun hok w0 σ0 φ0 M => ?_
  have h1 := hok.1.sl.1; have h2 := hok.2.1.sl.1; have h3 := OkD.sl (hok.2.2.1 (.d (encInts at')) (by simp)); have h4 := OkD.sl (hok.2.2.1 (.d (encVals vs)) (by simp)); clear hok
  replace h3 := h3.1; replace h4 := h4.1; simp only [List.length_map] at h1 h2 h3 h4
  repeat' (first | (show OkOps _ _ _ _ _ _; first | refine okops_nil ?_ | refine s_plain tabOk rfl rfl rfl rfl rfl ?_ | (show OkOps _ _ _ (Oper.mk _ (_) _ _ _ (some _) :: _) _ _; first | refine s_guard rfl rfl (by first | assumption | rfl) ?_ | refine s_out rfl rfl (by first | assumption | rfl) rfl rfl ?_ | refine s_split rfl rfl rfl rfl (fun h => ?_) (fun h => ?_) | fail) | (show OkOps _ _ _ (Oper.mk _ (Op.binOp .add _ _ _ _) _ _ _ (_) :: _) _ _; first | refine s_e envOk rfl rfl rfl (step3_add rfl rfl rfl rfl (wrap64 (by omega) (by omega))) ?_ | fail) | (show OkOps _ _ _ (Oper.mk _ (Op.pick _ _ _) _ _ _ (_) :: _) _ _; first | refine s_e envOk rfl rfl rfl (step3_pickT rfl rfl (by first | rfl | assumption) rfl) ?_ | refine s_e envOk rfl rfl rfl (step3_pickF rfl rfl (by first | rfl | assumption) rfl) ?_ | fail) | (show OkOps _ _ _ (Oper.mk _ (Op.indexAddr _ _ _) _ _ _ (_) :: _) _ _; first | refine s_e envOk rfl rfl rfl (step3_idx rfl rfl rfl rfl rfl (by first | omega | ((try simp only [decide_eq_true_eq, decide_eq_false_iff_not, Bool.not_eq_true', Bool.not_true, Bool.not_false, List.length_map, List.length_set, bne_iff_ne, ne_eq, beq_iff_eq, bne_eq_false_iff_eq, beq_eq_false_iff_ne] at *); omega)) (at_map (by first | omega | ((try simp only [decide_eq_true_eq, decide_eq_false_iff_not, Bool.not_eq_true', Bool.not_true, Bool.not_false, List.length_map, List.length_set, bne_iff_ne, ne_eq, beq_iff_eq, bne_eq_false_iff_eq, beq_eq_false_iff_ne] at *); omega)))) ?_ | fail) | (show OkOps _ _ _ (Oper.mk _ (Op.call _) _ _ _ (_) :: _) _ _; first | refine s_callF rfl rfl rfl rfl rfl rfl rfl rfl (c204 _ _) rfl ?_ | fail) | (show OkOps _ _ _ (Oper.mk _ (Op.box _ _) _ _ _ (_) :: _) _ _; first | refine s_box 0 rfl rfl rfl rfl rfl rfl ?_ | fail) | (show OkOps _ _ _ (Oper.mk _ (Op.alloc _) _ _ _ (_) :: _) _ _; first | refine s_alloc tabOk 1 rfl rfl rfl rfl rfl ?_ | fail) | refine s_store envOk rfl rfl rfl ?_ | fail) | (show OkC _ _ _ _ _; first | refine ok_seq ?_ | refine ok_region ?_ | refine ok_block ?_ | refine ok_skip ?_ | refine ok_ret ?_ | refine ok_exit ?_ | refine ok_condT rfl ?_ | refine ok_cond rfl (fun h => ?_) (fun h => ?_) | refine ok_regionD progOk.mo ?_ | refine s_loop 6 rfl [(1, _), (29, _), (30, _)] (subL_cons rfl (subL_cons rfl (subL_cons rfl subL_nil))) (fun (k : Nat) => [(31, .one (.d (.int .i64 k)))]) (fun (k : Nat) => k ≤ vs.length ∧ at'.length = ds.length ∧ vs.length = ats.length ∧ ofF ds at' = true ∧ cellF ds ats at' vs = valsGo (ats.drop k) (vs.drop k)) (fun (k : Nat) => vs.length - k) 0 (subL_cons rfl subL_nil) ?_ (fun k ⟨hk, hq, hq2, hof, hs⟩ => ?_) | fail) | (show thenQ _ _ _ _; first | refine then_n ?_ | refine then_r ?_ | refine then_x ?_ | fail) | (show blockQ _ _ _ _; first | refine block_n ?_ | refine block_r ?_ | refine block_x rfl ?_ | fail) | (show RetQ _ _ _ _ _ _; first | refine ret_leaf (.inl rfl) rfl rfl ?_ | fail) | (show DRun _ _ _ _ _ _ _ _; first | refine d_nil (by kernel_rfl) ?_ | refine d_e envOk rfl rfl rfl (step3_plain rfl rfl) ?_ | (show DRun _ _ _ _ (Oper.mk _ (Op.indexAddr _ _ _) _ _ _ (_) :: _) _ _ _; first | refine d_e envOk rfl rfl rfl (step3_idx rfl rfl rfl rfl rfl (by first | omega | ((try simp only [decide_eq_true_eq, decide_eq_false_iff_not, Bool.not_eq_true', Bool.not_true, Bool.not_false, List.length_map, List.length_set, bne_iff_ne, ne_eq, beq_iff_eq, bne_eq_false_iff_eq, beq_eq_false_iff_ne] at *); omega)) (at_map (by first | omega | ((try simp only [decide_eq_true_eq, decide_eq_false_iff_not, Bool.not_eq_true', Bool.not_true, Bool.not_false, List.length_map, List.length_set, bne_iff_ne, ne_eq, beq_iff_eq, bne_eq_false_iff_eq, beq_eq_false_iff_ne] at *); omega)))) ?_ | fail) | (show DRun _ _ _ _ (Oper.mk _ (Op.call _) _ _ _ (_) :: _) _ _ _; first | refine d_l rfl rfl (loc_callF' rfl rfl rfl rfl rfl rfl (c215 _ _ _ _ _) rfl) ?_ | fail) | fail) | (show Exists _; first | refine Exists.intro (k + 1) ⟨?_, ?_, (by first | exact subL_nil | exact (subL_cons rfl subL_nil) | exact (subL_cons rfl (subL_cons rfl subL_nil)) | exact (subL_cons rfl (subL_cons rfl (subL_cons rfl subL_nil))) | exact (subL_cons rfl (subL_cons rfl (subL_cons rfl (subL_cons rfl subL_nil)))) | exact (subL_cons rfl (subL_cons rfl (subL_cons rfl (subL_cons rfl (subL_cons rfl subL_nil))))) | exact (subL_cons rfl (subL_cons rfl (subL_cons rfl (subL_cons rfl (subL_cons rfl (subL_cons rfl subL_nil)))))) | exact (subL_cons rfl (subL_cons rfl (subL_cons rfl (subL_cons rfl (subL_cons rfl (subL_cons rfl (subL_cons rfl subL_nil))))))) | exact (subL_cons rfl (subL_cons rfl (subL_cons rfl (subL_cons rfl (subL_cons rfl (subL_cons rfl (subL_cons rfl (subL_cons rfl subL_nil))))))))), (subL_cons rfl subL_nil), (subL_cons rfl (subL_cons rfl (subL_cons rfl subL_nil)))⟩ | fail) | fail)
  all_goals (try (((simp_all [cellF, valsGo, at_drop, List.drop_eq_nil_of_le]) <;> first | omega | (rw [Bool.eq_iff_iff]; simp; omega) | grind); done))
end Go.Proofs.YtpejdgkaapnekaaGreat
namespace Go.Proofs.YtpejdgkaapnekaaGreat
open Go Go.Abs
attribute [local irreducible] OkOps OkC DRun thenQ blockQ RetQ
set_option maxRecDepth 10000
def cellsGo (ds : List Dim) (ats : List Attr) : Option (List Int) → List Cell → Int
  | _, [] => 0
  | none, c :: r => if cellF ds ats c.at' c.vals ≠ 0 then cellF ds ats c.at' c.vals else cellsGo ds ats (some c.at') r
  | some p, c :: r => if cellF ds ats c.at' c.vals ≠ 0 then cellF ds ats c.at' c.vals else if cmpF p c.at' = 0 then 5 else if 0 < cmpF p c.at' then 2 else cellsGo ds ats (some c.at') r
def checkF (ds : List Dim) (ats : List Attr) (cs : List Cell) : Int := if schemaF ds ats ≠ 0 then schemaF ds ats else if 4096 < (cs.length : Int) then 9 else cellsGo ds ats none cs
def pv (cs : List Cell) (k : Nat) : Option (List Int) := if k = 0 then none else some (at_ cs ((k : Int) - 1).toNat).at'
theorem pv_zero {cs : List Cell} : pv cs 0 = none := rfl
theorem pv_pos {cs : List Cell} {k : Nat} (h : ¬ k = 0) : pv cs k = some (at_ cs ((k : Int) - 1).toNat).at' := by simp [pv, h]
theorem pv_succ {cs : List Cell} {k : Nat} : pv cs (k + 1) = some (at_ cs k).at' := by
  have : (((k + 1 : Nat) : Int) - 1).toNat = k := by omega
  rw [pv_pos (by omega), this]
theorem cellsGo_bad {ds : List Dim} {ats : List Attr} {p : Option (List Int)} {c : Cell} {r : List Cell} (h : cellF ds ats c.at' c.vals ≠ 0) : cellsGo ds ats p (c :: r) = cellF ds ats c.at' c.vals := by cases p <;> simp [cellsGo, h]
theorem cmpF_range : ∀ {a b : List Int}, cmpF a b = 0 ∨ cmpF a b = 1 ∨ cmpF a b = -1
  | [], [] => by simp [cmpF]
  | [], _ :: _ => by simp [cmpF]
  | _ :: _, [] => by simp [cmpF]
  | x :: xs, y :: ys => by
    simp only [cmpF]
    split
    · simp
    · split
      · simp
      · exact cmpF_range
theorem cmpF_pos {a b : List Int} : 0 < cmpF a b ↔ cmpF a b = 1 := by
  rcases cmpF_range (a := a) (b := b) with h | h | h <;> simp [h]
end Go.Proofs.YtpejdgkaapnekaaGreat
namespace Go.Proofs.YtpejdgkaapnekaaGreat
open Go Go.Abs
def ltC (x y : Cell) : Prop := cmpF x.at' y.at' < 0
def leC (x y : Cell) : Bool := decide (cmpF x.at' y.at' ≤ 0)
def diffC (x y : Cell) : Prop := x.at' ≠ y.at'
def sortF (cs : List Cell) : List Cell := cs.mergeSort leC
theorem sortF_perm (cs : List Cell) : (sortF cs).Perm cs := List.mergeSort_perm cs leC
theorem ltC_trans {x y z : Cell} (h1 : ltC x y) (h2 : ltC y z) : ltC x z := by
  unfold ltC at *
  have h := cmpF_le_trans x.at' y.at' z.at' (by omega) (by omega)
  have := h.2
  by_cases h0 : cmpF x.at' z.at' = 0
  · have := this h0; omega
  · omega
theorem ltC_irrefl {x : Cell} (h : ltC x x) : False := by
  unfold ltC at h; rw [cmpF_refl] at h; omega
theorem ltC_diff {x y : Cell} (h : ltC x y) : diffC x y := fun e => by
  unfold ltC at h; rw [e, cmpF_refl] at h; omega
theorem lt_of_le_diff {x y : Cell} (h : ¬ cmpF y.at' x.at' < 0) (hd : diffC x y) : ltC x y := by
  have h1 := cmpF_swap x.at' y.at'
  unfold ltC
  by_cases h0 : cmpF x.at' y.at' = 0
  · exact absurd (cmpF_eq _ _ h0) hd
  · omega
theorem diffC_symm : ∀ {x y : Cell}, diffC x y → diffC y x := fun h e => h e.symm
theorem sorted_uniq : ∀ {l m : List Cell}, l.Perm m → l.Pairwise ltC → m.Pairwise ltC → l = m
  | [], m, hp, _, _ => (List.nil_perm.1 hp).symm ▸ rfl
  | x :: l, [], hp, _, _ => by have := hp.length_eq; simp at this
  | x :: l, y :: m, hp, h1, h2 => by
    rw [List.pairwise_cons] at h1 h2
    have hxy : x = y := by
      have hx : x ∈ y :: m := hp.mem_iff.1 List.mem_cons_self
      have hy : y ∈ x :: l := hp.mem_iff.2 List.mem_cons_self
      rcases List.mem_cons.1 hx with e | hx
      · exact e
      · rcases List.mem_cons.1 hy with e | hy
        · exact e.symm
        · exact (ltC_irrefl (ltC_trans (h1.1 y hy) (h2.1 x hx))).elim
    subst hxy
    rw [sorted_uniq (hp.cons_inv) h1.2 h2.2]
theorem diff_of_sorted {l : List Cell} (h : l.Pairwise ltC) : l.Pairwise diffC := h.imp ltC_diff
theorem perm_diff {l m : List Cell} (hp : l.Perm m) (h : m.Pairwise diffC) : l.Pairwise diffC := (hp.pairwise_iff (fun h => diffC_symm h)).2 h
theorem sortF_sorted {cs : List Cell} (h : cs.Pairwise diffC) : (sortF cs).Pairwise ltC := by
  have h1 : (sortF cs).Pairwise fun a b => leC a b = true := List.pairwise_mergeSort (le := leC) (fun a b c h1 h2 => by
    simp only [leC, decide_eq_true_eq] at *
    exact (cmpF_le_trans _ _ _ h1 h2).1) (fun a b => by
    have := cmpF_swap a.at' b.at'
    simp only [leC, Bool.or_eq_true, decide_eq_true_eq]; omega) cs
  have h2 := perm_diff (sortF_perm cs) h
  refine (h1.and h2).imp fun {a b} h => ?_
  have hl : cmpF a.at' b.at' ≤ 0 := by simpa [leC] using h.1
  refine lt_of_le_diff ?_ h.2
  have := cmpF_swap a.at' b.at'
  omega
theorem sort_uniq {cs : List Cell} (h : cs.Pairwise diffC) : ∀ l : List Cell, l.Perm cs → l.Pairwise (fun x y => ¬ cmpF y.at' x.at' < 0) → l = sortF cs := fun l hp hs =>
  sorted_uniq (hp.trans (sortF_perm cs).symm) ((hs.and (perm_diff hp h)).imp fun {a b} h => lt_of_le_diff h.1 h.2) (sortF_sorted h)
theorem sortF_id {cs : List Cell} (h : cs.Pairwise ltC) : sortF cs = cs := sorted_uniq (sortF_perm cs) (sortF_sorted (diff_of_sorted h)) h
theorem sortF_length (cs : List Cell) : (sortF cs).length = cs.length := (sortF_perm cs).length_eq
theorem sortF_filter {cs ds : List Cell} (p : Cell → Bool) (h : cs.Pairwise diffC) (hd : ds.Pairwise ltC) (he : (cs.filter p).Perm ds) : (sortF cs).filter p = ds :=
  sorted_uniq (((sortF_perm cs).filter p).trans he) ((sortF_sorted h).filter p) hd
theorem cellsGo_some {ds : List Dim} {ats : List Attr} : ∀ {cs : List Cell} {p : List Int}, cellsGo ds ats (some p) cs = 0 → (∀ c ∈ cs, cmpF p c.at' < 0) ∧ cs.Pairwise ltC ∧ ∀ c ∈ cs, cellF ds ats c.at' c.vals = 0
  | [], p, _ => ⟨by simp, .nil, by simp⟩
  | c :: r, p, h => by
    simp only [cellsGo] at h
    split at h
    · rename_i h1; exact absurd h h1
    split at h
    · omega
    split at h
    · omega
    rename_i h1 h2 h3
    have hlt : cmpF p c.at' < 0 := by omega
    obtain ⟨i1, i2, i3⟩ := cellsGo_some h
    refine ⟨fun x hx => ?_, List.pairwise_cons.2 ⟨i1, i2⟩, fun x hx => ?_⟩
    · rcases List.mem_cons.1 hx with rfl | hx
      · exact hlt
      · exact ltC_trans (x := ⟨p, []⟩) (y := c) hlt (i1 x hx)
    · rcases List.mem_cons.1 hx with rfl | hx
      · simpa using h1
      · exact i3 x hx
theorem cellsGo_none {ds : List Dim} {ats : List Attr} {cs : List Cell} (h : cellsGo ds ats none cs = 0) : cs.Pairwise ltC ∧ ∀ c ∈ cs, cellF ds ats c.at' c.vals = 0 := by
  cases cs with
  | nil => exact ⟨.nil, by simp⟩
  | cons c r =>
    simp only [cellsGo] at h
    split at h
    · rename_i h1; exact absurd h h1
    rename_i h1
    obtain ⟨i1, i2, i3⟩ := cellsGo_some h
    refine ⟨List.pairwise_cons.2 ⟨i1, i2⟩, fun x hx => ?_⟩
    rcases List.mem_cons.1 hx with rfl | hx
    · simpa using h1
    · exact i3 x hx
structure OkA (ds : List Dim) (ats : List Attr) (cs : List Cell) : Prop where
  sch : schemaF ds ats = 0
  few : cs.length ≤ 4096
  srt : cs.Pairwise ltC
  cel : ∀ c ∈ cs, cellF ds ats c.at' c.vals = 0
theorem okA {ds : List Dim} {ats : List Attr} {cs : List Cell} (h : checkF ds ats cs = 0) : OkA ds ats cs := by
  unfold checkF at h
  split at h
  · rename_i h1; exact absurd h h1
  split at h
  · omega
  rename_i h1 h2
  obtain ⟨h3, h4⟩ := cellsGo_none h
  exact ⟨by simpa using h1, by omega, h3, h4⟩
theorem ok_cellsGo {ds : List Dim} {ats : List Attr} : ∀ {cs : List Cell} {p : Option (List Int)}, (∀ q, p = some q → ∀ c ∈ cs, cmpF q c.at' < 0) → cs.Pairwise ltC → (∀ c ∈ cs, cellF ds ats c.at' c.vals = 0) → cellsGo ds ats p cs = 0
  | [], p, _, _, _ => by cases p <;> rfl
  | c :: r, p, h1, h2, h3 => by
    rw [List.pairwise_cons] at h2
    have h4 := h3 c List.mem_cons_self
    have ih : cellsGo ds ats (some c.at') r = 0 := ok_cellsGo (fun q e x hx => by cases e; exact h2.1 x hx) h2.2 (fun x hx => h3 x (List.mem_cons_of_mem _ hx))
    cases p with
    | none => simp only [cellsGo, h4, ne_eq, not_true_eq_false, if_false, ih]
    | some q =>
      have h5 := h1 q rfl c List.mem_cons_self
      simp only [cellsGo, h4, ne_eq, not_true_eq_false, if_false, ih]
      rw [if_neg (by omega), if_neg (by omega)]
theorem okA_check {ds : List Dim} {ats : List Attr} {cs : List Cell} (h : OkA ds ats cs) : checkF ds ats cs = 0 := by
  unfold checkF
  rw [if_neg (by simp [h.sch]), if_neg (by have := h.few; omega)]
  exact ok_cellsGo (fun q e => by cases e) h.srt h.cel
theorem schemaF_ok {ds : List Dim} {ats : List Attr} (h : schemaF ds ats = 0) : dimsF ds = 0 ∧ 1 ≤ ats.length ∧ ats.length ≤ 6 ∧ attrsGo (ds.map Dim.name) ats = 0 := by
  unfold schemaF at h
  split at h
  · rename_i h1; exact absurd h h1
  split at h
  · omega
  rename_i h1 h2
  exact ⟨by simpa using h1, by omega, by omega, h⟩
theorem dimsGo_ok : ∀ {ds : List Dim} {met : List (List UInt8)}, dimsGo met ds = 0 → (∀ d ∈ ds, boundsF d.lo d.hi = true ∧ nameF d.name = true ∧ d.name ∉ met) ∧ (ds.map Dim.name).Nodup
  | [], met, _ => ⟨by simp, by simp⟩
  | d :: r, met, h => by
    simp only [dimsGo] at h
    split at h
    · omega
    split at h
    · omega
    rename_i h1 h2
    obtain ⟨i1, i2⟩ := dimsGo_ok h
    simp only [Bool.or_eq_true, Bool.not_eq_true', not_or, Bool.not_eq_false, Bool.not_eq_true, List.contains_eq_mem, decide_eq_true_eq, decide_eq_false_iff_not] at h1
    refine ⟨fun x hx => ?_, ?_⟩
    · rcases List.mem_cons.1 hx with rfl | hx
      · exact ⟨by simpa using h2, h1.1, h1.2⟩
      · obtain ⟨j1, j2, j3⟩ := i1 x hx
        exact ⟨j1, j2, fun hm => j3 (List.mem_append.2 (.inl hm))⟩
    · rw [List.map_cons, List.nodup_cons]
      refine ⟨fun hm => ?_, i2⟩
      obtain ⟨x, hx, he⟩ := List.mem_map.1 hm
      exact (i1 x hx).2.2 (by rw [he]; simp)
theorem dimsF_ok {ds : List Dim} (h : dimsF ds = 0) : 1 ≤ ds.length ∧ ds.length ≤ 4 ∧ (∀ d ∈ ds, boundsF d.lo d.hi = true ∧ nameF d.name = true) ∧ (ds.map Dim.name).Nodup := by
  unfold dimsF at h
  split at h
  · omega
  rename_i h1
  obtain ⟨h2, h3⟩ := dimsGo_ok h
  exact ⟨by omega, by omega, fun d hd => ⟨(h2 d hd).1, (h2 d hd).2.1⟩, h3⟩
theorem boundsF_ok {lo hi : Int} : boundsF lo hi = true ↔ -1073741824 ≤ lo ∧ lo ≤ 1073741824 ∧ lo ≤ hi ∧ hi ≤ 1073741825 := by
  simp only [boundsF, Bool.and_eq_true, decide_eq_true_eq]; omega
theorem cellF_ok {ds : List Dim} {ats : List Attr} {at' : List Int} {vs : List Val} : cellF ds ats at' vs = 0 ↔ at'.length = ds.length ∧ vs.length = ats.length ∧ withinL ds at' = true ∧ valsGo ats vs = 0 := by
  unfold cellF
  constructor
  · intro h
    split at h
    · omega
    rename_i h1
    have e1 : at'.length = ds.length := by omega
    split at h
    · omega
    rename_i h2
    refine ⟨e1, by omega, ?_, h⟩
    simpa [ofF, e1] using h2
  · rintro ⟨h1, h2, h3, h4⟩
    rw [if_neg (by omega), if_neg (by simp [ofF, h1, h3])]
    exact h4
theorem withinL_iff : ∀ {ds : List Dim} {xs : List Int}, xs.length = ds.length → (withinL ds xs = true ↔ ∀ i, i < ds.length → (at_ ds i).lo ≤ at_ xs i ∧ at_ xs i ≤ lastF (at_ ds i).hi)
  | [], [], _ => by simp [withinL]
  | d :: ds, x :: xs, h => by
    have ih := withinL_iff (ds := ds) (xs := xs) (by simpa using h)
    simp only [withinL, Bool.and_eq_true, decide_eq_true_eq, ih]
    constructor
    · rintro ⟨⟨h1, h2⟩, h3⟩ i hi
      cases i with
      | zero => exact ⟨h1, h2⟩
      | succ i => exact h3 i (by simpa using hi)
    · intro h4
      exact ⟨⟨(h4 0 (by simp)).1, (h4 0 (by simp)).2⟩, fun i hi => h4 (i + 1) (by simpa using hi)⟩
  | [], _ :: _, h => by simp at h
  | _ :: _, [], h => by simp at h
end Go.Proofs.YtpejdgkaapnekaaGreat
namespace Go.Proofs.YtpejdgkaapnekaaGreat
open Go Go.Abs
attribute [local irreducible] OkOps OkC DRun thenQ blockQ RetQ
set_option maxRecDepth 10000
theorem nameF_iff {s : List UInt8} : nameF s = true ↔ (1 ≤ s.length ∧ s.length ≤ 12) ∧ letterF (at_ s 0).toNat = true ∧ ∀ j, j < s.length → furtherF (at_ s j).toNat = true := by
  simp only [nameF, Bool.and_eq_true, decide_eq_true_eq, List.all_eq_true, and_assoc]
  refine and_congr_right fun _ => and_congr_right fun _ => and_congr_right fun _ => ⟨fun h j hj => h _ (at_mem hj), fun h x hx => ?_⟩
  obtain ⟨j, hj⟩ := List.getElem?_of_mem hx
  have hl := (List.getElem?_eq_some_iff.1 hj).1
  rw [at_get hl] at hj
  rw [← Option.some.inj hj]; exact h j hl
theorem c142 (s : List UInt8) : CallA Tryz.prog 142 [.one (.d (.str s))] [] (.one (.d (.bool (nameF s)))) [] := by
  refine enter tabOk Tryz.func142 rfl (by decide +kernel) rfl fun hok w0 σ0 φ0 M => ?_
  have h1 := hok.1.str; clear hok
  repeat' (first | (show OkOps _ _ _ _ _ _; first | refine okops_nil ?_ | refine s_plain tabOk rfl rfl rfl rfl rfl ?_ | (show OkOps _ _ _ (Oper.mk _ (_) _ _ _ (some _) :: _) _ _; first | refine s_guard rfl rfl (by first | assumption | rfl) ?_ | refine s_out rfl rfl (by first | assumption | rfl) rfl rfl ?_ | refine s_outN rfl rfl rfl rfl ?_ | refine s_split rfl rfl rfl rfl (fun h => ?_) (fun h => ?_) | fail) | (show OkOps _ _ _ (Oper.mk _ (Op.convert _ _ _) _ _ _ (_) :: _) _ _; first | refine s_bytes tabOk rfl rfl rfl rfl rfl rfl (by first | omega | ((try simp only [decide_eq_true_eq, decide_eq_false_iff_not, Bool.not_eq_true', Bool.not_true, Bool.not_false, List.length_map, List.length_set, bne_iff_ne, ne_eq, beq_iff_eq, bne_eq_false_iff_eq, beq_eq_false_iff_ne] at *); omega)) ?_ | fail) | (show OkOps _ _ _ (Oper.mk _ (Op.binOp .add _ _ _ _) _ _ _ (_) :: _) _ _; first | refine s_e envOk rfl rfl rfl (step3_add rfl rfl rfl rfl (wrap64 (by omega) (by omega))) ?_ | fail) | (show OkOps _ _ _ (Oper.mk _ (Op.pick _ _ _) _ _ _ (_) :: _) _ _; first | refine s_e envOk rfl rfl rfl (step3_pickT rfl rfl (by first | rfl | assumption) rfl) ?_ | refine s_e envOk rfl rfl rfl (step3_pickF rfl rfl (by first | rfl | assumption) rfl) ?_ | fail) | (show OkOps _ _ _ (Oper.mk _ (Op.indexAddr _ _ _) _ _ _ (_) :: _) _ _; first | refine s_e envOk rfl rfl rfl (step3_idx rfl rfl rfl rfl rfl (by first | omega | ((try simp only [decide_eq_true_eq, decide_eq_false_iff_not, Bool.not_eq_true', Bool.not_true, Bool.not_false, List.length_map, List.length_set, bne_iff_ne, ne_eq, beq_iff_eq, bne_eq_false_iff_eq, beq_eq_false_iff_ne] at *); omega)) (at_map (by first | omega | ((try simp only [decide_eq_true_eq, decide_eq_false_iff_not, Bool.not_eq_true', Bool.not_true, Bool.not_false, List.length_map, List.length_set, bne_iff_ne, ne_eq, beq_iff_eq, bne_eq_false_iff_eq, beq_eq_false_iff_ne] at *); omega)))) ?_ | fail) | fail) | (show OkC _ _ _ _ _; first | refine ok_seq ?_ | refine ok_region ?_ | refine ok_block ?_ | refine ok_skip ?_ | refine ok_ret ?_ | refine ok_exit ?_ | refine ok_condT rfl ?_ | refine ok_condF rfl ?_ | refine ok_cond rfl (fun h => ?_) (fun h => ?_) | refine s_loop 4 rfl [(15, _), (16, _)] (subL_cons rfl (subL_cons rfl subL_nil)) (fun (k : Nat) => [(17, .one (.d (.int .i64 k)))]) (fun (k : Nat) => k ≤ s.length ∧ 1 ≤ s.length ∧ s.length ≤ 12 ∧ (0 < k → letterF (at_ s 0).toNat = true) ∧ (∀ j, j < k → furtherF (at_ s j).toNat = true)) (fun (k : Nat) => s.length - k) 0 (subL_cons rfl subL_nil) ?_ (fun k ⟨hk, hq, hq2, hf, hs⟩ => ?_) | fail) | (show thenQ _ _ _ _; first | refine then_n ?_ | refine then_r ?_ | refine then_x ?_ | fail) | (show blockQ _ _ _ _; first | refine block_n ?_ | refine block_r ?_ | refine block_x rfl ?_ | fail) | (show RetQ _ _ _ _ _ _; first | refine ret_leaf (.inl rfl) rfl rfl ?_ | fail) | (show Exists _; first | refine Exists.intro (k + 1) ⟨?_, ?_, (by first | exact subL_nil | exact (subL_cons rfl subL_nil) | exact (subL_cons rfl (subL_cons rfl subL_nil)) | exact (subL_cons rfl (subL_cons rfl (subL_cons rfl subL_nil))) | exact (subL_cons rfl (subL_cons rfl (subL_cons rfl (subL_cons rfl subL_nil)))) | exact (subL_cons rfl (subL_cons rfl (subL_cons rfl (subL_cons rfl (subL_cons rfl subL_nil))))) | exact (subL_cons rfl (subL_cons rfl (subL_cons rfl (subL_cons rfl (subL_cons rfl (subL_cons rfl subL_nil)))))) | exact (subL_cons rfl (subL_cons rfl (subL_cons rfl (subL_cons rfl (subL_cons rfl (subL_cons rfl (subL_cons rfl subL_nil))))))) | exact (subL_cons rfl (subL_cons rfl (subL_cons rfl (subL_cons rfl (subL_cons rfl (subL_cons rfl (subL_cons rfl (subL_cons rfl subL_nil))))))))), (subL_cons rfl subL_nil), (subL_cons rfl (subL_cons rfl subL_nil))⟩ | fail) | fail)
  all_goals (try simp only [decide_eq_true_eq, decide_eq_false_iff_not, Bool.not_eq_true', Bool.not_eq_false', Bool.not_true, Bool.not_false, List.length_map, bne_iff_ne, ne_eq, beq_iff_eq, bne_eq_false_iff_eq, beq_eq_false_iff_ne, Int.toNat_natCast] at *)
  all_goals first
    | omega
    | (refine ⟨by omega, by omega, by omega, ?_, ?_⟩
       · intro hk0
         by_cases h0 : 0 < k
         · exact hf h0
         · have hk0' : k = 0 := by omega
           subst hk0'
           simp only [letterF, Bool.and_eq_true, decide_eq_true_eq]; omega
       · intro j hj
         rcases Nat.lt_or_ge j k with hjk | hjk
         · exact hs j hjk
         · have hje : j = k := by omega
           subst hje
           simp only [furtherF, letterF, Bool.or_eq_true, Bool.and_eq_true, decide_eq_true_eq]; omega)
    | (congr 3; symm; rw [Bool.eq_false_iff, ne_eq, nameF_iff]; rintro ⟨hlen, h0, hj⟩
       first
         | omega
         | (have hjk := hj k (by omega)
            simp only [furtherF, letterF, Bool.or_eq_true, Bool.and_eq_true, decide_eq_true_eq] at hjk h0
            by_cases hk0 : k = 0
            · subst hk0; omega
            · omega))
    | (congr 3; symm; rw [nameF_iff]; exact ⟨⟨hq, hq2⟩, hf (by omega), fun j hj => hs j (by omega)⟩)
    | (refine ⟨by omega, by omega, by omega, fun h => by omega, fun j hj => by omega⟩)
end Go.Proofs.YtpejdgkaapnekaaGreat
namespace Go.Proofs.YtpejdgkaapnekaaGreat
open Go Go.Abs
attribute [local irreducible] OkOps OkC DRun thenQ blockQ RetQ
set_option maxRecDepth 10000
theorem c190a (ds : List Dim) (hne : dimsF ds ≠ 0) : CallA Tryz.prog 190 [.one (.d (encDims ds)), .one (.mapr 1000000)] [(1000000, .map false false (encMet []))] (.one (.d (.int .i64 (dimsF ds)))) [] := by
  refine enter tabOk Tryz.func190 rfl (by decide +kernel) rfl fun hok w0 σ0 φ0 M => ?_
  have h1 := hok.1.sl.1; clear hok; simp only [List.length_map] at h1
  repeat' (first | (show OkOps _ _ _ _ _ _; first | refine okops_nil ?_ | refine s_plain tabOk rfl rfl rfl rfl rfl ?_ | (show OkOps _ _ _ (Oper.mk _ (_) _ _ _ (some _) :: _) _ _; first | refine s_guard rfl rfl (by first | assumption | rfl) ?_ | refine s_out rfl rfl (by first | assumption | rfl) rfl rfl ?_ | refine s_split rfl rfl rfl rfl (fun h => ?_) (fun h => ?_) | fail) | (show OkOps _ _ _ (Oper.mk _ (Op.binOp .add _ _ _ _) _ _ _ (_) :: _) _ _; first | refine s_e envOk rfl rfl rfl (step3_add rfl rfl rfl rfl (wrap64 (by omega) (by omega))) ?_ | fail) | (show OkOps _ _ _ (Oper.mk _ (Op.pick _ _ _) _ _ _ (_) :: _) _ _; first | refine s_e envOk rfl rfl rfl (step3_pickT rfl rfl (by first | rfl | assumption) rfl) ?_ | refine s_e envOk rfl rfl rfl (step3_pickF rfl rfl (by first | rfl | assumption) rfl) ?_ | fail) | (show OkOps _ _ _ (Oper.mk _ (Op.indexAddr _ _ _) _ _ _ (_) :: _) _ _; first | refine s_e envOk rfl rfl rfl (step3_idx rfl rfl rfl rfl rfl (by first | omega | ((try simp only [decide_eq_true_eq, decide_eq_false_iff_not, Bool.not_eq_true', Bool.not_true, Bool.not_false, List.length_map, List.length_set, bne_iff_ne, ne_eq, beq_iff_eq, bne_eq_false_iff_eq, beq_eq_false_iff_ne] at *); omega)) (at_map (by first | omega | ((try simp only [decide_eq_true_eq, decide_eq_false_iff_not, Bool.not_eq_true', Bool.not_true, Bool.not_false, List.length_map, List.length_set, bne_iff_ne, ne_eq, beq_iff_eq, bne_eq_false_iff_eq, beq_eq_false_iff_ne] at *); omega)))) ?_ | fail) | (show OkOps _ _ _ (Oper.mk _ (Op.call _) _ _ _ (_) :: _) _ _; first | refine s_callF rfl rfl rfl rfl rfl rfl rfl rfl (c142 _) rfl ?_ | fail) | (show OkOps _ _ _ (Oper.mk _ (Op.alloc _) _ _ _ (_) :: _) _ _; first | refine s_alloc tabOk 0 rfl rfl rfl rfl rfl ?_ | fail) | refine s_store envOk rfl rfl rfl ?_ | refine s_lookMet envOk rfl rfl rfl rfl rfl rfl rfl rfl rfl rfl rfl rfl ?_ | refine s_updMet envOk rfl rfl rfl rfl rfl rfl rfl rfl rfl rfl rfl (by assumption) ?_ | fail) | (show OkC _ _ _ _ _; first | refine ok_seq ?_ | refine ok_region ?_ | refine ok_block ?_ | refine ok_skip ?_ | refine ok_ret ?_ | refine ok_exit ?_ | refine ok_condT rfl ?_ | refine ok_cond rfl (fun h => ?_) (fun h => ?_) | refine s_loopM 4 rfl [(1, _), (15, _), (16, _)] (subL_cons rfl (subL_cons rfl (subL_cons rfl subL_nil))) (fun (p : Nat × List (List UInt8)) => [(17, .one (.d (.int .i64 (p.1 : Int))))]) (fun (p : Nat × List (List UInt8)) => [(1000000, .map false false (encMet p.2))]) (fun (p : Nat × List (List UInt8)) => p.1 ≤ ds.length ∧ (1 : Int) ≤ ds.length ∧ (ds.length : Int) ≤ 4 ∧ dimsF ds = dimsGo p.2 (ds.drop p.1)) (fun (p : Nat × List (List UInt8)) => ds.length - p.1) (0, []) (subL_cons rfl subL_nil) (by first | exact subL_nil | exact (subL_cons rfl subL_nil) | exact (subL_cons rfl (subL_cons rfl subL_nil)) | exact (subL_cons rfl (subL_cons rfl (subL_cons rfl subL_nil))) | exact (subL_cons rfl (subL_cons rfl (subL_cons rfl (subL_cons rfl subL_nil)))) | exact (subL_cons rfl (subL_cons rfl (subL_cons rfl (subL_cons rfl (subL_cons rfl subL_nil))))) | exact (subL_cons rfl (subL_cons rfl (subL_cons rfl (subL_cons rfl (subL_cons rfl (subL_cons rfl subL_nil)))))) | exact (subL_cons rfl (subL_cons rfl (subL_cons rfl (subL_cons rfl (subL_cons rfl (subL_cons rfl (subL_cons rfl subL_nil))))))) | exact (subL_cons rfl (subL_cons rfl (subL_cons rfl (subL_cons rfl (subL_cons rfl (subL_cons rfl (subL_cons rfl (subL_cons rfl subL_nil))))))))) ?_ (fun p ⟨hk, hq, hq2, hs⟩ => ?_) | fail) | (show thenQ _ _ _ _; first | refine then_n ?_ | refine then_r ?_ | refine then_x ?_ | fail) | (show blockQ _ _ _ _; first | refine block_n ?_ | refine block_r ?_ | refine block_x rfl ?_ | fail) | (show RetQ _ _ _ _ _ _; first | refine ret_leaf (.inl rfl) rfl rfl ?_ | fail) | (show Exists _; first | refine Exists.intro ((p.1 + 1, p.2 ++ [(at_ ds p.1).name])) ⟨?_, ?_, (by first | exact subL_nil | exact (subL_cons rfl subL_nil) | exact (subL_cons rfl (subL_cons rfl subL_nil)) | exact (subL_cons rfl (subL_cons rfl (subL_cons rfl subL_nil))) | exact (subL_cons rfl (subL_cons rfl (subL_cons rfl (subL_cons rfl subL_nil)))) | exact (subL_cons rfl (subL_cons rfl (subL_cons rfl (subL_cons rfl (subL_cons rfl subL_nil))))) | exact (subL_cons rfl (subL_cons rfl (subL_cons rfl (subL_cons rfl (subL_cons rfl (subL_cons rfl subL_nil)))))) | exact (subL_cons rfl (subL_cons rfl (subL_cons rfl (subL_cons rfl (subL_cons rfl (subL_cons rfl (subL_cons rfl subL_nil))))))) | exact (subL_cons rfl (subL_cons rfl (subL_cons rfl (subL_cons rfl (subL_cons rfl (subL_cons rfl (subL_cons rfl (subL_cons rfl subL_nil))))))))), (subL_cons rfl subL_nil), (subL_cons rfl (subL_cons rfl (subL_cons rfl subL_nil)))⟩ | fail) | fail)
  all_goals (try (((simp_all [dimsF, dimsGo, boundsF, at_drop, List.drop_eq_nil_of_le]) <;> first | omega | (rw [Bool.eq_iff_iff]; simp; omega) | grind); done))
theorem c190b (ds : List Dim) (he : dimsF ds = 0) : CallA Tryz.prog 190 [.one (.d (encDims ds)), .one (.mapr 1000000)] [(1000000, .map false false (encMet []))] (.one (.d (.int .i64 0))) [(1000000, .map false false (encMet (ds.map Dim.name)))] := by
  refine enter tabOk Tryz.func190 rfl (by decide +kernel) rfl fun hok w0 σ0 φ0 M => ?_
  have h1 := hok.1.sl.1; clear hok; simp only [List.length_map] at h1
  repeat' (first | (show OkOps _ _ _ _ _ _; first | refine okops_nil ?_ | refine s_plain tabOk rfl rfl rfl rfl rfl ?_ | (show OkOps _ _ _ (Oper.mk _ (_) _ _ _ (some _) :: _) _ _; first | refine s_guard rfl rfl (by first | assumption | rfl) ?_ | refine s_out rfl rfl (by first | assumption | rfl) rfl rfl ?_ | refine s_split rfl rfl rfl rfl (fun h => ?_) (fun h => ?_) | fail) | (show OkOps _ _ _ (Oper.mk _ (Op.binOp .add _ _ _ _) _ _ _ (_) :: _) _ _; first | refine s_e envOk rfl rfl rfl (step3_add rfl rfl rfl rfl (wrap64 (by omega) (by omega))) ?_ | fail) | (show OkOps _ _ _ (Oper.mk _ (Op.pick _ _ _) _ _ _ (_) :: _) _ _; first | refine s_e envOk rfl rfl rfl (step3_pickT rfl rfl (by first | rfl | assumption) rfl) ?_ | refine s_e envOk rfl rfl rfl (step3_pickF rfl rfl (by first | rfl | assumption) rfl) ?_ | fail) | (show OkOps _ _ _ (Oper.mk _ (Op.indexAddr _ _ _) _ _ _ (_) :: _) _ _; first | refine s_e envOk rfl rfl rfl (step3_idx rfl rfl rfl rfl rfl (by first | omega | ((try simp only [decide_eq_true_eq, decide_eq_false_iff_not, Bool.not_eq_true', Bool.not_true, Bool.not_false, List.length_map, List.length_set, bne_iff_ne, ne_eq, beq_iff_eq, bne_eq_false_iff_eq, beq_eq_false_iff_ne] at *); omega)) (at_map (by first | omega | ((try simp only [decide_eq_true_eq, decide_eq_false_iff_not, Bool.not_eq_true', Bool.not_true, Bool.not_false, List.length_map, List.length_set, bne_iff_ne, ne_eq, beq_iff_eq, bne_eq_false_iff_eq, beq_eq_false_iff_ne] at *); omega)))) ?_ | fail) | (show OkOps _ _ _ (Oper.mk _ (Op.call _) _ _ _ (_) :: _) _ _; first | refine s_callF rfl rfl rfl rfl rfl rfl rfl rfl (c142 _) rfl ?_ | fail) | (show OkOps _ _ _ (Oper.mk _ (Op.alloc _) _ _ _ (_) :: _) _ _; first | refine s_alloc tabOk 0 rfl rfl rfl rfl rfl ?_ | fail) | refine s_store envOk rfl rfl rfl ?_ | refine s_lookMet envOk rfl rfl rfl rfl rfl rfl rfl rfl rfl rfl rfl rfl ?_ | refine s_updMet envOk rfl rfl rfl rfl rfl rfl rfl rfl rfl rfl rfl (by assumption) ?_ | fail) | (show OkC _ _ _ _ _; first | refine ok_seq ?_ | refine ok_region ?_ | refine ok_block ?_ | refine ok_skip ?_ | refine ok_ret ?_ | refine ok_exit ?_ | refine ok_condT rfl ?_ | refine ok_cond rfl (fun h => ?_) (fun h => ?_) | refine s_loopM 4 rfl [(1, _), (15, _), (16, _)] (subL_cons rfl (subL_cons rfl (subL_cons rfl subL_nil))) (fun (p : Nat × List (List UInt8)) => [(17, .one (.d (.int .i64 (p.1 : Int))))]) (fun (p : Nat × List (List UInt8)) => [(1000000, .map false false (encMet p.2))]) (fun (p : Nat × List (List UInt8)) => p.1 ≤ ds.length ∧ dimsGo p.2 (ds.drop p.1) = 0 ∧ p.2 = (ds.take p.1).map Dim.name) (fun (p : Nat × List (List UInt8)) => ds.length - p.1) (0, []) (subL_cons rfl subL_nil) (by first | exact subL_nil | exact (subL_cons rfl subL_nil) | exact (subL_cons rfl (subL_cons rfl subL_nil)) | exact (subL_cons rfl (subL_cons rfl (subL_cons rfl subL_nil))) | exact (subL_cons rfl (subL_cons rfl (subL_cons rfl (subL_cons rfl subL_nil)))) | exact (subL_cons rfl (subL_cons rfl (subL_cons rfl (subL_cons rfl (subL_cons rfl subL_nil))))) | exact (subL_cons rfl (subL_cons rfl (subL_cons rfl (subL_cons rfl (subL_cons rfl (subL_cons rfl subL_nil)))))) | exact (subL_cons rfl (subL_cons rfl (subL_cons rfl (subL_cons rfl (subL_cons rfl (subL_cons rfl (subL_cons rfl subL_nil))))))) | exact (subL_cons rfl (subL_cons rfl (subL_cons rfl (subL_cons rfl (subL_cons rfl (subL_cons rfl (subL_cons rfl (subL_cons rfl subL_nil))))))))) ?_ (fun p ⟨hk, hs, hm⟩ => ?_) | fail) | (show thenQ _ _ _ _; first | refine then_n ?_ | refine then_r ?_ | refine then_x ?_ | fail) | (show blockQ _ _ _ _; first | refine block_n ?_ | refine block_r ?_ | refine block_x rfl ?_ | fail) | (show Exists _; first | refine Exists.intro ((p.1 + 1, p.2 ++ [(at_ ds p.1).name])) ⟨?_, ?_, (by first | exact subL_nil | exact (subL_cons rfl subL_nil) | exact (subL_cons rfl (subL_cons rfl subL_nil)) | exact (subL_cons rfl (subL_cons rfl (subL_cons rfl subL_nil))) | exact (subL_cons rfl (subL_cons rfl (subL_cons rfl (subL_cons rfl subL_nil)))) | exact (subL_cons rfl (subL_cons rfl (subL_cons rfl (subL_cons rfl (subL_cons rfl subL_nil))))) | exact (subL_cons rfl (subL_cons rfl (subL_cons rfl (subL_cons rfl (subL_cons rfl (subL_cons rfl subL_nil)))))) | exact (subL_cons rfl (subL_cons rfl (subL_cons rfl (subL_cons rfl (subL_cons rfl (subL_cons rfl (subL_cons rfl subL_nil))))))) | exact (subL_cons rfl (subL_cons rfl (subL_cons rfl (subL_cons rfl (subL_cons rfl (subL_cons rfl (subL_cons rfl (subL_cons rfl subL_nil))))))))), (subL_cons rfl subL_nil), (subL_cons rfl (subL_cons rfl (subL_cons rfl subL_nil)))⟩ | fail) | fail)
  all_goals (try (((simp_all [dimsF, dimsGo, boundsF, at_take, at_drop, List.drop_eq_nil_of_le]) <;> first | omega | (rw [Bool.eq_iff_iff]; simp; omega) | grind); done))
  · have hl : ds.length ≤ p.1 := by simpa using h
    have hp : p.2 = ds.map Dim.name := by rw [hm, List.take_of_length_le hl]
    rw [hp]
    exact ret_leafS (.inl rfl) rfl rfl rfl (subL_cons rfl subL_nil)
end Go.Proofs.YtpejdgkaapnekaaGreat
namespace Go.Proofs.YtpejdgkaapnekaaGreat
open Go Go.Abs
attribute [local irreducible] OkOps OkC DRun thenQ blockQ RetQ
set_option maxRecDepth 10000
theorem c108a (ds : List Dim) (ats : List Attr) (hne : dimsF ds ≠ 0) : CallA Tryz.prog 108 [.one (.d (encDims ds)), .one (.d (encAttrs ats))] [] (.one (.d (.int .i64 (schemaF ds ats)))) [] := by
  refine enter tabOk Tryz.func108 rfl (by decide +kernel) rfl fun hok w0 σ0 φ0 M => ?_
  clear hok
  repeat' (first | (show OkOps _ _ _ _ _ _; first | refine okops_nil ?_ | refine s_plain tabOk rfl rfl rfl rfl rfl ?_ | refine s_new envOk 0 rfl rfl rfl rfl rfl rfl ?_ | fail) | (show OkC _ _ _ _ _; first | refine ok_seq ?_ | refine ok_region ?_ | fail) | (show thenQ _ _ _ _; first | refine then_n ?_ | fail) | fail)
  refine s_callM 16 [(1000000, 0)] (rav' := .one (.d (.int .i64 (dimsF ds)))) (c190a ds hne) rfl rfl rfl rfl rfl rfl ⟨⟨0, rfl, rfl⟩, trivial⟩ trivial rfl rfl rfl rfl ?_
  repeat' (first | (show OkOps _ _ _ _ _ _; first | refine okops_nil ?_ | refine s_plain tabOk rfl rfl rfl rfl rfl ?_ | (show OkOps _ _ _ (Oper.mk _ (_) _ _ _ (some _) :: _) _ _; first | refine s_guard rfl rfl (by first | assumption | rfl) ?_ | refine s_out rfl rfl (by first | assumption | rfl) rfl rfl ?_ | refine s_split rfl rfl rfl rfl (fun h => ?_) (fun h => ?_) | fail) | (show OkOps _ _ _ (Oper.mk _ (Op.pick _ _ _) _ _ _ (_) :: _) _ _; first | refine s_e envOk rfl rfl rfl (step3_pickT rfl rfl (by first | rfl | assumption) rfl) ?_ | refine s_e envOk rfl rfl rfl (step3_pickF rfl rfl (by first | rfl | assumption) rfl) ?_ | fail) | fail) | (show OkC _ _ _ _ _; first | refine ok_seq ?_ | refine ok_region ?_ | refine ok_block ?_ | refine ok_skip ?_ | refine ok_ret ?_ | refine ok_condT rfl ?_ | refine ok_cond rfl (fun h => ?_) (fun h => ?_) | fail) | (show thenQ _ _ _ _; first | refine then_n ?_ | refine then_r ?_ | fail) | (show RetQ _ _ _ _ _ _; first | refine ret_leaf (.inl rfl) rfl rfl ?_ | fail) | fail)
  all_goals (try (((simp_all [schemaF, at_drop, List.drop_eq_nil_of_le]) <;> first | omega | (rw [Bool.eq_iff_iff]; simp; omega) | grind); done))
theorem c108b (ds : List Dim) (ats : List Attr) (he : dimsF ds = 0) : CallA Tryz.prog 108 [.one (.d (encDims ds)), .one (.d (encAttrs ats))] [] (.one (.d (.int .i64 (schemaF ds ats)))) [] := by
  refine enter tabOk Tryz.func108 rfl (by decide +kernel) rfl fun hok w0 σ0 φ0 M => ?_
  have h1 := hok.2.1.sl.1; clear hok; simp only [List.length_map] at h1
  repeat' (first | (show OkOps _ _ _ _ _ _; first | refine okops_nil ?_ | refine s_plain tabOk rfl rfl rfl rfl rfl ?_ | refine s_new envOk 0 rfl rfl rfl rfl rfl rfl ?_ | fail) | (show OkC _ _ _ _ _; first | refine ok_seq ?_ | refine ok_region ?_ | fail) | (show thenQ _ _ _ _; first | refine then_n ?_ | fail) | fail)
  refine s_callM 16 [(1000000, 0)] (rav' := .one (.d (.int .i64 0))) (c190b ds he) rfl rfl rfl rfl rfl rfl ⟨⟨0, rfl, rfl⟩, trivial⟩ ⟨fun i e h1 h2 => ?_, trivial⟩ rfl rfl rfl rfl ?_
  · have h1' : some 0 = some i := h1
    cases h1'
    have h2' : some (AObj.map false false (encMet [])) = some e := h2
    cases h2'
    exact ⟨rfl, rfl⟩
  repeat' (first | (show OkOps _ _ _ _ _ _; first | refine okops_nil ?_ | refine s_plain tabOk rfl rfl rfl rfl rfl ?_ | (show OkOps _ _ _ (Oper.mk _ (_) _ _ _ (some _) :: _) _ _; first | refine s_guard rfl rfl (by first | assumption | rfl) ?_ | refine s_out rfl rfl (by first | assumption | rfl) rfl rfl ?_ | refine s_split rfl rfl rfl rfl (fun h => ?_) (fun h => ?_) | fail) | (show OkOps _ _ _ (Oper.mk _ (Op.binOp .add _ _ _ _) _ _ _ (_) :: _) _ _; first | refine s_e envOk rfl rfl rfl (step3_add rfl rfl rfl rfl (wrap64 (by omega) (by omega))) ?_ | fail) | (show OkOps _ _ _ (Oper.mk _ (Op.pick _ _ _) _ _ _ (_) :: _) _ _; first | refine s_e envOk rfl rfl rfl (step3_pickT rfl rfl (by first | rfl | assumption) rfl) ?_ | refine s_e envOk rfl rfl rfl (step3_pickF rfl rfl (by first | rfl | assumption) rfl) ?_ | fail) | (show OkOps _ _ _ (Oper.mk _ (Op.indexAddr _ _ _) _ _ _ (_) :: _) _ _; first | refine s_e envOk rfl rfl rfl (step3_idx rfl rfl rfl rfl rfl (by first | omega | ((try simp only [decide_eq_true_eq, decide_eq_false_iff_not, Bool.not_eq_true', Bool.not_true, Bool.not_false, List.length_map, List.length_set, bne_iff_ne, ne_eq, beq_iff_eq, bne_eq_false_iff_eq, beq_eq_false_iff_ne] at *); omega)) (at_map (by first | omega | ((try simp only [decide_eq_true_eq, decide_eq_false_iff_not, Bool.not_eq_true', Bool.not_true, Bool.not_false, List.length_map, List.length_set, bne_iff_ne, ne_eq, beq_iff_eq, bne_eq_false_iff_eq, beq_eq_false_iff_ne] at *); omega)))) ?_ | fail) | (show OkOps _ _ _ (Oper.mk _ (Op.call _) _ _ _ (_) :: _) _ _; first | refine s_callF rfl rfl rfl rfl rfl rfl rfl rfl (c142 _) rfl ?_ | fail) | (show OkOps _ _ _ (Oper.mk _ (Op.alloc _) _ _ _ (_) :: _) _ _; first | refine s_alloc tabOk 1 rfl rfl rfl rfl rfl ?_ | fail) | refine s_store envOk rfl rfl rfl ?_ | refine s_lookMet envOk rfl rfl rfl rfl rfl rfl rfl rfl rfl rfl rfl rfl ?_ | refine s_updMet envOk rfl rfl rfl rfl rfl rfl rfl rfl rfl rfl rfl (by assumption) ?_ | fail) | (show OkC _ _ _ _ _; first | refine ok_seq ?_ | refine ok_region ?_ | refine ok_block ?_ | refine ok_skip ?_ | refine ok_ret ?_ | refine ok_exit ?_ | refine ok_condT rfl ?_ | refine ok_condF rfl ?_ | refine ok_cond rfl (fun h => ?_) (fun h => ?_) | refine s_loopM 8 rfl [(5, _), (24, _), (25, _)] (subL_cons rfl (subL_cons rfl (subL_cons rfl subL_nil))) (fun (p : Nat × List (List UInt8)) => [(26, .one (.d (.int .i64 (p.1 : Int))))]) (fun (p : Nat × List (List UInt8)) => [(0, .map false false (encMet p.2))]) (fun (p : Nat × List (List UInt8)) => p.1 ≤ ats.length ∧ dimsF ds = 0 ∧ (1 : Int) ≤ ats.length ∧ (ats.length : Int) ≤ 6 ∧ schemaF ds ats = attrsGo p.2 (ats.drop p.1)) (fun (p : Nat × List (List UInt8)) => ats.length - p.1) (0, ds.map Dim.name) (subL_cons rfl subL_nil) (by first | exact subL_nil | exact (subL_cons rfl subL_nil) | exact (subL_cons rfl (subL_cons rfl subL_nil)) | exact (subL_cons rfl (subL_cons rfl (subL_cons rfl subL_nil))) | exact (subL_cons rfl (subL_cons rfl (subL_cons rfl (subL_cons rfl subL_nil)))) | exact (subL_cons rfl (subL_cons rfl (subL_cons rfl (subL_cons rfl (subL_cons rfl subL_nil))))) | exact (subL_cons rfl (subL_cons rfl (subL_cons rfl (subL_cons rfl (subL_cons rfl (subL_cons rfl subL_nil)))))) | exact (subL_cons rfl (subL_cons rfl (subL_cons rfl (subL_cons rfl (subL_cons rfl (subL_cons rfl (subL_cons rfl subL_nil))))))) | exact (subL_cons rfl (subL_cons rfl (subL_cons rfl (subL_cons rfl (subL_cons rfl (subL_cons rfl (subL_cons rfl (subL_cons rfl subL_nil))))))))) ?_ (fun p ⟨hk, hd, hq, hq2, hs⟩ => ?_) | fail) | (show thenQ _ _ _ _; first | refine then_n ?_ | refine then_r ?_ | refine then_x ?_ | fail) | (show blockQ _ _ _ _; first | refine block_n ?_ | refine block_r ?_ | refine block_x rfl ?_ | fail) | (show RetQ _ _ _ _ _ _; first | refine ret_leaf (.inl rfl) rfl rfl ?_ | fail) | (show Exists _; first | refine Exists.intro ((p.1 + 1, p.2 ++ [(at_ ats p.1).name])) ⟨?_, ?_, (by first | exact subL_nil | exact (subL_cons rfl subL_nil) | exact (subL_cons rfl (subL_cons rfl subL_nil)) | exact (subL_cons rfl (subL_cons rfl (subL_cons rfl subL_nil))) | exact (subL_cons rfl (subL_cons rfl (subL_cons rfl (subL_cons rfl subL_nil)))) | exact (subL_cons rfl (subL_cons rfl (subL_cons rfl (subL_cons rfl (subL_cons rfl subL_nil))))) | exact (subL_cons rfl (subL_cons rfl (subL_cons rfl (subL_cons rfl (subL_cons rfl (subL_cons rfl subL_nil)))))) | exact (subL_cons rfl (subL_cons rfl (subL_cons rfl (subL_cons rfl (subL_cons rfl (subL_cons rfl (subL_cons rfl subL_nil))))))) | exact (subL_cons rfl (subL_cons rfl (subL_cons rfl (subL_cons rfl (subL_cons rfl (subL_cons rfl (subL_cons rfl (subL_cons rfl subL_nil))))))))), (subL_cons rfl subL_nil), (subL_cons rfl (subL_cons rfl (subL_cons rfl subL_nil)))⟩ | fail) | fail)
  all_goals (try (((simp_all [schemaF, attrsGo, at_drop, List.drop_eq_nil_of_le]) <;> first | omega | (rw [Bool.eq_iff_iff]; simp; omega) | grind); done))
theorem c108 (ds : List Dim) (ats : List Attr) : CallA Tryz.prog 108 [.one (.d (encDims ds)), .one (.d (encAttrs ats))] [] (.one (.d (.int .i64 (schemaF ds ats)))) [] := by
  by_cases h : dimsF ds = 0
  · exact c108b ds ats h
  · exact c108a ds ats h
end Go.Proofs.YtpejdgkaapnekaaGreat
namespace Go.Proofs.YtpejdgkaapnekaaGreat
open Go Go.Abs
attribute [local irreducible] OkOps OkC DRun thenQ blockQ RetQ
set_option maxRecDepth 10000
theorem c59 (ds : List Dim) (ats : List Attr) (cs : List Cell) : CallA Tryz.prog 59 [.agg [.d (encDims ds), .d (encAttrs ats), .d (encCells cs)]] [] (.one (.d (.int .i64 (checkF ds ats cs)))) [] := by
  refine enter tabOk Tryz.func59 rfl (by decide +kernel) rfl fun hok w0 σ0 φ0 M => ?_
  have h1 := (OkD.sl (hok.1 (.d (encCells cs)) (by simp))).1; clear hok; simp only [List.length_map] at h1
  repeat' (first | (show OkOps _ _ _ _ _ _; first | refine okops_nil ?_ | refine s_plain tabOk rfl rfl rfl rfl rfl ?_ | (show OkOps _ _ _ (Oper.mk _ (Op.binOp .add _ _ _ _) _ _ _ (_) :: _) _ _; first | refine s_e envOk rfl rfl rfl (step3_add rfl rfl rfl rfl (wrap64 (by omega) (by omega))) ?_ | fail) | (show OkOps _ _ _ (Oper.mk _ (Op.indexAddr _ _ _) _ _ _ (_) :: _) _ _; first | refine s_e envOk rfl rfl rfl (step3_idx rfl rfl rfl rfl rfl (by first | omega | ((try simp only [decide_eq_true_eq, decide_eq_false_iff_not, Bool.not_eq_true', Bool.not_true, Bool.not_false, List.length_map, List.length_set, bne_iff_ne, ne_eq, beq_iff_eq, bne_eq_false_iff_eq, beq_eq_false_iff_ne] at *); omega)) (at_map (by first | omega | ((try simp only [decide_eq_true_eq, decide_eq_false_iff_not, Bool.not_eq_true', Bool.not_true, Bool.not_false, List.length_map, List.length_set, bne_iff_ne, ne_eq, beq_iff_eq, bne_eq_false_iff_eq, beq_eq_false_iff_ne] at *); omega)))) ?_ | fail) | (show OkOps _ _ _ (Oper.mk _ (Op.call _) _ _ _ (_) :: _) _ _; first | refine s_callF rfl rfl rfl rfl rfl rfl rfl rfl (c108 _ _) rfl ?_ | refine s_callF rfl rfl rfl rfl rfl rfl rfl rfl (c161 _ _ _ _) rfl ?_ | fail) | (show OkOps _ _ _ (Oper.mk _ (Op.box _ _) _ _ _ (_) :: _) _ _; first | refine s_box 0 rfl rfl rfl rfl rfl rfl ?_ | fail) | (show OkOps _ _ _ (Oper.mk _ (Op.alloc _) _ _ _ (_) :: _) _ _; first | refine s_alloc tabOk 1 rfl rfl rfl rfl rfl ?_ | fail) | refine s_store envOk rfl rfl rfl ?_ | fail) | (show OkC _ _ _ _ _; first | refine ok_seq ?_ | refine ok_region ?_ | refine ok_block ?_ | refine ok_skip ?_ | refine ok_ret ?_ | refine ok_exit ?_ | refine ok_cond rfl (fun h => ?_) (fun h => ?_) | refine ok_regionD progOk.mo ?_ | refine s_loop 7 rfl [(1, _), (20, _), (21, _)] (subL_cons rfl (subL_cons rfl (subL_cons rfl subL_nil))) (fun (k : Nat) => [(22, .one (.d (.int .i64 k)))]) (fun (k : Nat) => k ≤ cs.length ∧ schemaF ds ats = 0 ∧ (cs.length : Int) ≤ 4096 ∧ checkF ds ats cs = cellsGo ds ats (pv cs k) (cs.drop k)) (fun (k : Nat) => cs.length - k) 0 (subL_cons rfl subL_nil) ?_ (fun k ⟨hk, hsc, hq, hs⟩ => ?_) | fail) | (show thenQ _ _ _ _; first | refine then_n ?_ | refine then_r ?_ | refine then_x ?_ | fail) | (show blockQ _ _ _ _; first | refine block_n ?_ | refine block_r ?_ | refine block_x rfl ?_ | fail) | (show RetQ _ _ _ _ _ _; first | refine ret_leaf (.inl rfl) rfl rfl ?_ | fail) | (show DRun _ _ _ _ _ _ _ _; first | refine d_nil (by kernel_rfl) ?_ | refine d_e envOk rfl rfl rfl (step3_plain rfl rfl) ?_ | (show DRun _ _ _ _ (Oper.mk _ (Op.binOp .sub _ _ _ _) _ _ _ (_) :: _) _ _ _; first | refine d_e envOk rfl rfl rfl (step3_sub rfl rfl rfl rfl (wrap64 (by omega) (by omega))) ?_ | fail) | (show DRun _ _ _ _ (Oper.mk _ (Op.indexAddr _ _ _) _ _ _ (_) :: _) _ _ _; first | refine d_e envOk rfl rfl rfl (step3_idx rfl rfl rfl rfl rfl (by first | omega | ((try simp only [decide_eq_true_eq, decide_eq_false_iff_not, Bool.not_eq_true', Bool.not_true, Bool.not_false, List.length_map, List.length_set, bne_iff_ne, ne_eq, beq_iff_eq, bne_eq_false_iff_eq, beq_eq_false_iff_ne] at *); omega)) (at_map (by first | omega | ((try simp only [decide_eq_true_eq, decide_eq_false_iff_not, Bool.not_eq_true', Bool.not_true, Bool.not_false, List.length_map, List.length_set, bne_iff_ne, ne_eq, beq_iff_eq, bne_eq_false_iff_eq, beq_eq_false_iff_ne] at *); omega)))) ?_ | fail) | (show DRun _ _ _ _ (Oper.mk _ (Op.call _) _ _ _ (_) :: _) _ _ _; first | refine d_l rfl rfl (loc_callF' rfl rfl rfl rfl rfl rfl (c35 _ _) rfl) ?_ | fail) | fail) | (show Exists _; first | refine Exists.intro (k + 1) ⟨?_, ?_, (by first | exact subL_nil | exact (subL_cons rfl subL_nil) | exact (subL_cons rfl (subL_cons rfl subL_nil)) | exact (subL_cons rfl (subL_cons rfl (subL_cons rfl subL_nil))) | exact (subL_cons rfl (subL_cons rfl (subL_cons rfl (subL_cons rfl subL_nil)))) | exact (subL_cons rfl (subL_cons rfl (subL_cons rfl (subL_cons rfl (subL_cons rfl subL_nil))))) | exact (subL_cons rfl (subL_cons rfl (subL_cons rfl (subL_cons rfl (subL_cons rfl (subL_cons rfl subL_nil)))))) | exact (subL_cons rfl (subL_cons rfl (subL_cons rfl (subL_cons rfl (subL_cons rfl (subL_cons rfl (subL_cons rfl subL_nil))))))) | exact (subL_cons rfl (subL_cons rfl (subL_cons rfl (subL_cons rfl (subL_cons rfl (subL_cons rfl (subL_cons rfl (subL_cons rfl subL_nil))))))))), (subL_cons rfl subL_nil), (subL_cons rfl (subL_cons rfl (subL_cons rfl subL_nil)))⟩ | fail) | fail)
  all_goals (try (((simp_all [checkF, cellsGo, pv_zero, pv_pos, pv_succ, cmpF_pos, at_drop, List.drop_eq_nil_of_le]) <;> first | omega | (rw [Bool.eq_iff_iff]; simp; omega) | grind); done))
  · rename_i hlt
    have hk' : k < cs.length := by simpa using hlt
    have hb : cellF ds ats (at_ cs k).at' (at_ cs k).vals ≠ 0 := by simpa using h
    rw [hs, at_drop hk', cellsGo_bad hb]; simp
  · rename_i hlt hc
    have hk' : k < cs.length := by simpa using hlt
    have hk0 : k = 0 := by simpa using h
    have hb : cellF ds ats (at_ cs k).at' (at_ cs k).vals = 0 := by simpa using hc
    refine ⟨by omega, hsc, hq, ?_⟩
    rw [hs, at_drop hk', pv_succ]
    subst hk0
    simp [cellsGo, hb, pv_zero]
end Go.Proofs.YtpejdgkaapnekaaGreat
namespace Go.Proofs.YtpejdgkaapnekaaGreat
open Go Go.Abs
attribute [local irreducible] OkOps OkC DRun thenQ blockQ RetQ
set_option maxRecDepth 10000
def sameGo {α : Type} (p : α → α → Bool) : List α → List α → Bool
  | x :: a, y :: b => if p x y then sameGo p a b else false
  | _, _ => true
def sameF {α : Type} (p : α → α → Bool) (a b : List α) : Bool := if (a.length : Int) ≠ b.length then false else sameGo p a b
def eqVal (x y : Val) : Bool := eqDs (encVal x) (encVal y)
def eqDim (x y : Dim) : Bool := eqDs (encDim x) (encDim y)
def eqAttr (x y : Attr) : Bool := eqDs (encAttr x) (encAttr y)
def eqCell (x y : Cell) : Bool := sameF (fun x y => x == y) x.at' y.at' && sameF eqVal x.vals y.vals
end Go.Proofs.YtpejdgkaapnekaaGreat
namespace Go.Proofs.YtpejdgkaapnekaaGreat
open Go Go.Abs
theorem at_ext {α : Type} [Inhabited α] : ∀ {l m : List α}, l.length = m.length → (∀ i, i < l.length → at_ l i = at_ m i) → l = m
  | [], [], _, _ => rfl
  | x :: l, y :: m, h, he => by
    have h0 : x = y := he 0 (by simp)
    rw [h0, at_ext (l := l) (m := m) (by simpa using h) fun i hi => he (i + 1) (by simpa using hi)]
  | [], _ :: _, h, _ => by simp at h
  | _ :: _, [], h, _ => by simp at h
theorem at_set {α : Type} [Inhabited α] {l : List α} {k i : Nat} {x : α} (h : i < l.length) : at_ (l.set k x) i = if i = k then x else at_ l i := by
  simp only [at_, List.getD_eq_getElem?_getD, List.getElem?_set]
  by_cases e : k = i
  · subst e; simp [h]
  · rw [if_neg e, if_neg (fun h => e h.symm)]
theorem at_ofmem {α : Type} [Inhabited α] {l : List α} {x : α} (h : x ∈ l) : ∃ i, i < l.length ∧ at_ l i = x := by
  obtain ⟨i, hi⟩ := List.getElem?_of_mem h
  have hl := (List.getElem?_eq_some_iff.1 hi).1
  exact ⟨i, hl, by rw [at_get hl] at hi; exact Option.some.inj hi⟩
theorem at_zip {α β γ : Type} [Inhabited α] [Inhabited β] [Inhabited γ] {f : α → β → γ} {l : List α} {m : List β} {i : Nat} (h : i < l.length) (h' : i < m.length) : at_ (l.zipWith f m) i = f (at_ l i) (at_ m i) := by
  simp [at_, List.getD_eq_getElem?_getD, List.getElem?_zipWith, h, h']
theorem Dim.ext {a b : Dim} (h1 : a.name = b.name) (h2 : a.lo = b.lo) (h3 : a.hi = b.hi) : a = b := by cases a; cases b; simp_all
structure Arr where
  dims : List Dim
  attrs : List Attr
  cells : List Cell
  deriving Inhabited
def encArr (a : Arr) : List D := [encDims a.dims, encAttrs a.attrs, encCells a.cells]
def encArrs (l : List Arr) : D := .sl 3 72 (l.map encArr)
def aggA (a : Arr) : AV := .agg [.d (encDims a.dims), .d (encAttrs a.attrs), .d (encCells a.cells)]
theorem sameGo_all {α : Type} [Inhabited α] {p : α → α → Bool} : ∀ {a b : List α}, a.length = b.length → (sameGo p a b = true ↔ ∀ i, i < a.length → p (at_ a i) (at_ b i) = true)
  | [], [], _ => by simp [sameGo]
  | x :: a, y :: b, h => by
    have ih := sameGo_all (p := p) (a := a) (b := b) (by simpa using h)
    simp only [sameGo]
    constructor
    · intro h1 i hi
      split at h1
      · rename_i h2
        cases i with
        | zero => exact h2
        | succ i => exact ih.1 h1 i (by simpa using hi)
      · cases h1
    · intro h1
      have h0 : p x y = true := h1 0 (by simp)
      rw [if_pos h0]
      exact ih.2 fun i hi => h1 (i + 1) (by simpa using hi)
  | [], _ :: _, h => by simp at h
  | _ :: _, [], h => by simp at h
theorem sameF_all {α : Type} [Inhabited α] {p : α → α → Bool} {a b : List α} : sameF p a b = true ↔ a.length = b.length ∧ ∀ i, i < a.length → p (at_ a i) (at_ b i) = true := by
  unfold sameF
  by_cases h : a.length = b.length
  · rw [if_neg (by omega), sameGo_all h]
    exact Iff.intro (fun h1 => And.intro h h1) (fun h1 => h1.2)
  · rw [if_pos (by omega)]
    exact Iff.intro (fun h1 => by cases h1) (fun h1 => absurd h1.1 h)
theorem sameF_eq {α : Type} [Inhabited α] {p : α → α → Bool} (hp : ∀ x y, p x y = true ↔ x = y) {a b : List α} : sameF p a b = true ↔ a = b := by
  rw [sameF_all]
  constructor
  · rintro ⟨h1, h2⟩
    exact at_ext h1 fun i hi => (hp _ _).1 (h2 i hi)
  · rintro rfl
    exact ⟨rfl, fun i hi => (hp _ _).2 rfl⟩
theorem eqInt_iff (x y : Int) : (x == y) = true ↔ x = y := by simp
theorem eqDim_iff (x y : Dim) : eqDim x y = true ↔ x = y := by
  cases x; cases y
  simp [eqDim, encDim, eqDs, eqD]
theorem eqAttr_iff (x y : Attr) : eqAttr x y = true ↔ x = y := by
  cases x; cases y
  simp [eqAttr, encAttr, eqDs, eqD]
theorem eqVal_iff (x y : Val) : eqVal x y = true ↔ x = y := by
  cases x; cases y
  simp [eqVal, encVal, eqDs, eqD]
theorem eqCell_iff (x y : Cell) : eqCell x y = true ↔ x = y := by
  cases x; cases y
  simp [eqCell, sameF_eq eqInt_iff, sameF_eq eqVal_iff]
def resF (ds : List Dim) (ats : List Attr) (cs : List Cell) : Option Arr × Int := if 4096 < (cs.length : Int) then (none, 9) else (some ⟨ds, ats, sortF cs⟩, 0)
def dimX (ds : List Dim) (name : List UInt8) : Int := idxGo (fun a : Dim => a.name == name) ds 0
def alikeF (a b : List Dim) : Bool := sameF (fun x y => x.name == y.name) a b
theorem idxGo_at {α : Type} [Inhabited α] {p : α → Bool} : ∀ {l : List α} {j : Nat}, ¬ idxGo p l j < 0 → ∃ k : Nat, idxGo p l j = ((j + k : Nat) : Int) ∧ k < l.length ∧ p (at_ l k) = true ∧ ∀ i, i < k → p (at_ l i) = false
  | [], j, h => by simp [idxGo] at h
  | x :: l, j, h => by
    simp only [idxGo] at h ⊢
    by_cases hp : p x = true
    · rw [if_pos hp] at h ⊢
      exact ⟨0, by simp, by simp, hp, fun i hi => by omega⟩
    · rw [if_neg hp] at h ⊢
      obtain ⟨k, h1, h2, h3, h4⟩ := idxGo_at h
      refine ⟨k + 1, by rw [h1]; omega, by simpa using h2, h3, fun i hi => ?_⟩
      cases i with
      | zero => exact Bool.eq_false_iff.2 hp
      | succ i => exact h4 i (by omega)
theorem dimX_at {ds : List Dim} {name : List UInt8} (h : ¬ dimX ds name < 0) : ∃ k : Nat, dimX ds name = (k : Int) ∧ k < ds.length ∧ (at_ ds k).name = name ∧ ∀ i, i < k → (at_ ds i).name ≠ name := by
  obtain ⟨k, h1, h2, h3, h4⟩ := idxGo_at h
  refine ⟨k, by unfold dimX; rw [h1]; simp, h2, by simpa using h3, fun i hi => by simpa using h4 i hi⟩
theorem names_nd {ds : List Dim} (h : (ds.map Dim.name).Nodup) {i j : Nat} (hi : i < ds.length) (hj : j < ds.length) (he : (at_ ds i).name = (at_ ds j).name) : i = j := by
  have h1 : at_ (ds.map Dim.name) i = at_ (ds.map Dim.name) j := by rw [at_mapN hi, at_mapN hj, he]
  have e1 := at_get (l := ds.map Dim.name) (i := i) (by simpa using hi)
  have e2 := at_get (l := ds.map Dim.name) (i := j) (by simpa using hj)
  rw [h1, ← e2] at e1
  exact (List.getElem?_inj (by simpa using hi) h).1 e1
section
variable {a : Arr}
theorem OkA.dims (h : OkA a.dims a.attrs a.cells) : 1 ≤ a.dims.length ∧ a.dims.length ≤ 4 ∧ (∀ i, i < a.dims.length → (-1073741824 ≤ (at_ a.dims i).lo ∧ (at_ a.dims i).lo ≤ 1073741824 ∧ (at_ a.dims i).lo ≤ (at_ a.dims i).hi ∧ (at_ a.dims i).hi ≤ 1073741825) ∧ nameF (at_ a.dims i).name = true) ∧ (a.dims.map Dim.name).Nodup := by
  obtain ⟨h1, h2, h3, h4⟩ := dimsF_ok (schemaF_ok h.sch).1
  exact ⟨h1, h2, fun i hi => ⟨boundsF_ok.1 (h3 _ (at_mem hi)).1, (h3 _ (at_mem hi)).2⟩, h4⟩
end
end Go.Proofs.YtpejdgkaapnekaaGreat
namespace Go.Proofs.YtpejdgkaapnekaaGreat
open Go Go.Abs
attribute [local irreducible] OkOps OkC DRun thenQ blockQ RetQ
set_option maxRecDepth 10000
inductive Scalar where
  | mk (op : Int) (name : List UInt8) (val : Val) (args : List Scalar)
  deriving Inhabited
def Scalar.op : Scalar → Int | .mk o _ _ _ => o
def Scalar.name : Scalar → List UInt8 | .mk _ n _ _ => n
def Scalar.val : Scalar → Val | .mk _ _ v _ => v
def Scalar.args : Scalar → List Scalar | .mk _ _ _ a => a
theorem Scalar.args_lt : ∀ {s x : Scalar}, x ∈ s.args → SizeOf.sizeOf x < SizeOf.sizeOf s
  | .mk o n v a, x, h => by
    have := List.sizeOf_lt_of_mem (show x ∈ a from h)
    simp; omega
theorem Scalar.ind {Q : Scalar → Prop} (h : ∀ s : Scalar, (∀ x ∈ s.args, Q x) → Q s) (s : Scalar) : Q s :=
  h s fun x hx => have := Scalar.args_lt hx; Scalar.ind h x
termination_by SizeOf.sizeOf s
mutual
def encS : Scalar → List D
  | .mk o n v a => [.int .i64 o, .str n, .int .i64 v.kind, .int .i64 v.num, .int .i64 v.den, .str v.str, .sl 7 88 (encSs a)]
def encSs : List Scalar → List (List D)
  | [] => []
  | s :: r => encS s :: encSs r
end
end Go.Proofs.YtpejdgkaapnekaaGreat
namespace Go.Proofs.YtpejdgkaapnekaaGreat
open Go Go.Abs
open Go.ChangeShapes Go.WideShapes Go.ChangeAt Go.RowKit
section
variable {H : Type} {en : TypeId × Value → H} {W : World}
theorem bulk_one (d : DataW H) : 1 ≤ Rows.uptoBulk d := by
  cases d with
  | lit l => cases l <;> simp [Rows.uptoBulk]
  | _ => simp [Rows.uptoBulk]
theorem bulk_mem {d : DataW H} : ∀ {l : List (DataW H)}, d ∈ l → Rows.uptoBulk d ≤ Rows.uptoBulkAll l
  | [], h => by simp at h
  | x :: r, h => by
    simp only [Rows.uptoBulkAll]
    rcases List.mem_cons.1 h with rfl | h
    · omega
    · have := bulk_mem h; omega
theorem bulk_len : ∀ (l : List (DataW H)), l.length ≤ Rows.uptoBulkAll l
  | [] => by simp [Rows.uptoBulkAll]
  | x :: r => by have := bulk_one x; have := bulk_len r; simp only [Rows.uptoBulkAll, List.length_cons]; omega
def sg (W : World) : Sig := fun b => match W.heap[b]? with | some (.cells cs _ _) => some cs | _ => none
theorem sg_some {b : Nat} {cs : Array Value} (h : sg W b = some cs) : ∃ t f, W.heap[b]? = some (.cells cs t f) := by
  unfold sg at h
  split at h
  · rename_i c t f hh; cases h; exact ⟨t, f, hh⟩
  · cases h
theorem sg_inv (φ : Pl) : HInv (sg W) φ [] W := ⟨fun b cs h => sg_some h, fun i e h => by simp [Abs.look] at h, fun i i' e e' p p' h => by simp [Abs.look] at h⟩
def Rd (en : TypeId × Value → H) (W : World) (N : Nat) (t : TypeId) {α : Type} (f : α → List D) (Q : α → Prop) : Prop :=
  ∀ (fuel : Nat) (cs : List Value) (x : DataW H × List MemPlace), DataW.trod en Tryz.prog W 0 (fun _ => true) true fuel t cs = some x → Rows.uptoBulk x.1 ≤ N → ∃ a : α, Q a ∧ All2 (Rep (sg W)) (f a) cs
def yes {α : Type} (_ : α) : Prop := True
theorem Rd.mono {N M : Nat} {t : TypeId} {α : Type} {f : α → List D} {Q : α → Prop} (h : Rd en W N t f Q) (hm : M ≤ N) : Rd en W M t f Q := fun fuel cs x hx hb => h fuel cs x hx (by omega)
theorem rd_int {N : Nat} {t : TypeId} (ht : Tryz.prog.underlying t = some (.int .i64)) : Rd en W N t (fun n : Int => [.int .i64 n]) yes := by
  intro fuel cs x h _
  obtain ⟨n, rfl, _, hw⟩ := DataW.trod_int ht h
  have hw' := bounds_i64 hw
  refine ⟨n, trivial, .int ?_, trivial⟩
  simp only [inR, IntKind.min, IntKind.max, IntKind.signed, IntKind.bits, if_true]
  omega
theorem rd_str {N : Nat} {t : TypeId} (hN : N ≤ 1048576) (ht : Tryz.prog.underlying t = some .string) : Rd en W N t (fun s : List UInt8 => [.str s]) yes := by
  intro fuel cs x h hb
  obtain ⟨s, rfl, rfl, _⟩ := DataW.trod_string ht h
  simp only [Rows.uptoBulk] at hb
  have := Rep.str (σ := sg W) (s := s.data.toList) (by omega)
  refine ⟨s.data.toList, trivial, ?_, trivial⟩
  simpa using this
def few_ {α : Type} (N : Nat) (Q : α → Prop) (l : List α) : Prop := l.length ≤ N ∧ ∀ x ∈ l, Q x
theorem rd_slice {N k b : Nat} {t e : TypeId} {α : Type} [Inhabited α] {f : α → List D} {Q : α → Prop} (hN : N ≤ 1048575) (hb : b ≤ 1000) (hk : 0 < k) (ht : Tryz.prog.underlying t = some (.slice e)) (hc : Tryz.prog.cellsOf e = k) (he : Rd en W N e f Q) : Rd en W (N + 1) t (fun l : List α => [.sl k b (l.map f)]) (few_ N Q) := by
  intro fuel cs x h hbk
  rcases Deep.open_slice ht h with ⟨rfl, rfl⟩ | ⟨a, len, cap, m, n, Dd, Pl, rfl, _, hl, _, hm, rfl, hel⟩
  · refine ⟨[], ⟨by simp, by simp⟩, ?_, trivial⟩
    exact .sl (fun _ _ => undef) (by simp) (by simp) (by simp) (by simp) (by simp) (by simp)
  · simp only [if_true] at hm
    subst hm
    rw [hc] at hel
    simp only [Rows.uptoBulk] at hbk
    have hlen : len ≤ N := by
      have := bulk_len ((List.range len).map Dd)
      simp only [List.length_map, List.length_range] at this
      omega
    have hpart : ∀ i, i < len → Rows.uptoBulk (Dd i) ≤ N := by
      intro i hi
      have := bulk_mem (d := Dd i) (l := (List.range len).map Dd) (List.mem_map.2 ⟨i, List.mem_range.2 hi, rfl⟩)
      omega
    obtain ⟨g, hg⟩ := Deep.choose_lt (n := len) (p := fun i (y : α) => Q y ∧ ∃ cs', W.cells? 0 (a.add (i * k)) k = some cs' ∧ All2 (Rep (sg W)) (f y) cs') (fun i hi => by
      obtain ⟨cs', h1, h2⟩ := hel i (by omega)
      obtain ⟨y, hq, hy⟩ := he _ _ _ h2 (hpart i hi)
      exact ⟨y, hq, cs', h1, hy⟩)
    have hcell : ∀ i, i < len → ∀ j, j < k → ∃ v, W.cell? ((a.add (i * k)).add j) = some v ∧ ∀ d, (f (g i))[j]? = some d → Rep (sg W) d v := by
      intro i hi j hj
      obtain ⟨_, cs', h1, h2⟩ := hg i hi
      obtain ⟨_, h3, h4⟩ := World.cells?_some h1
      have h5 : cs'[j]? = some (cs'[j]'(by omega)) := List.getElem?_eq_getElem (by omega)
      refine ⟨_, (h4 j hj).trans h5, fun d hd => ?_⟩
      obtain ⟨v, hv, hr⟩ := h2.get hd
      rw [h5] at hv; cases hv; exact hr
    have hfl : ∀ i, i < len → (f (g i)).length = k := by
      intro i hi
      obtain ⟨_, cs', h1, h2⟩ := hg i hi
      rw [h2.length]; exact (World.cells?_some h1).2.1
    have hadd : ∀ i j, i < len → j < k → a.spot = none → ((a.add (i * k)).add j) = ⟨a.block, a.off + i * k + j, none⟩ := by
      intro i j _ _ hs
      obtain ⟨B, o, sp⟩ := a
      simp only at hs
      subst hs
      by_cases h1 : i * k = 0 <;> by_cases h2 : j = 0 <;> simp [Addr.add, h1, h2]
    have hA : 0 < len → ∃ cells : Array Value, a.spot = none ∧ sg W a.block = some cells := by
      intro h0
      obtain ⟨v, hv, _⟩ := hcell 0 h0 0 hk
      have e0 : ((a.add (0 * k)).add 0) = a := by simp [Addr.add]
      rw [e0] at hv
      unfold World.cell? at hv
      unfold sg
      split at hv
      · rename_i c t2 f2 hh
        rw [hh]
        split at hv
        · cases hv
        · rename_i hs
          exact ⟨c, by simpa using hs, rfl⟩
      · cases hv
    refine ⟨(List.range len).map g, ⟨by simpa using hlen, fun y hy => ?_⟩, ?_, trivial⟩
    · obtain ⟨i, hi, rfl⟩ := List.mem_map.1 hy
      exact (hg i (List.mem_range.1 hi)).1
    have hll : (((List.range len).map g).map f).length = len := by simp
    have key : Rep (sg W) (.sl k b (((List.range len).map g).map f)) (.slice (some a) (((List.range len).map g).map f).length m) := by
      refine .sl (fun i j => (W.cell? ((a.add (i * k)).add j)).getD undef) (by rw [hll]; exact hl) (by rw [hll]; omega) (by
        rw [hll]
        have : len * b ≤ 1048576 * 1000 := Nat.mul_le_mul (by omega) hb
        omega) (fun x hx => ?_) (fun h0 => ?_) (fun i j x d hx hd => ?_)
      · simp only [List.mem_map, List.mem_range] at hx
        obtain ⟨y, ⟨i, hi, rfl⟩, rfl⟩ := hx
        exact hfl i hi
      · rw [hll] at h0
        obtain ⟨cells, hs, hsg⟩ := hA h0
        refine ⟨a.block, a.off, cells, ?_, hsg, fun i j hi hj => ?_⟩
        · obtain ⟨B, o, sp⟩ := a; simp only at hs; subst hs; rfl
        · rw [hll] at hi
          obtain ⟨v, hv, _⟩ := hcell i hi j hj
          rw [hv]
          rw [hadd i j hi hj hs] at hv
          obtain ⟨t2, f2, hh⟩ := sg_some hsg
          simp only [World.cell?, hh] at hv
          simpa using hv
      · simp only [List.getElem?_map, Option.map_eq_some_iff] at hx
        obtain ⟨y, ⟨i', hi', rfl⟩, rfl⟩ := hx
        have hi : i < len := by
          have := (List.getElem?_eq_some_iff.1 hi').1
          simpa using this
        have hii : i' = i := by simpa [List.getElem?_range hi] using hi'.symm
        subst hii
        have hj : j < k := by rw [← hfl i' hi]; exact (List.getElem?_eq_some_iff.1 hd).1
        obtain ⟨v, hv, hr⟩ := hcell i' hi j hj
        rw [hv]
        exact hr d hd
    rw [hll] at key
    exact key
theorem all2_app {R : D → Value → Prop} {a b : List D} {cs : List Value} {o n m : Nat} (h1 : All2 R a ((cs.drop o).take n)) (h2 : All2 R b ((cs.drop (o + n)).take m)) : All2 R (a ++ b) ((cs.drop o).take (n + m)) := by
  rw [List.take_add, List.drop_drop]
  exact h1.append h2
theorem rd_field {N : Nat} {t u : TypeId} {fs : Array Field} {fuel : Nat} {cs : List Value} {x : DataW H × List MemPlace} (ht : Tryz.prog.underlying t = some (.struct fs)) (h : DataW.trod en Tryz.prog W 0 (fun _ => true) true fuel t cs = some x) (hb : Rows.uptoBulk x.1 ≤ N + 1)
    (i : Nat) {fd : Field} (hf : fs[i]? = some fd) {α : Type} {f : α → List D} {Q : α → Prop} (hr : Rd en W N fd.type f Q) {c : Nat} (hc : Tryz.prog.cellsOf fd.type = c) : ∃ a, Q a ∧ All2 (Rep (sg W)) (f a) ((cs.drop fd.offset).take c) := by
  subst hc
  obtain ⟨xs, n, _, rfl, _, hl, hx⟩ := DataW.trod_struct ht h
  have h2 := hx i fd hf
  have hi : i < xs.length := by rw [hl]; exact (Array.getElem?_eq_some_iff.1 hf).1
  rw [List.getElem?_eq_getElem hi] at h2
  refine hr _ _ _ h2 ?_
  have := bulk_mem (d := (xs[i]).1) (l := xs.map (·.1)) (List.mem_map.2 ⟨_, List.getElem_mem hi, rfl⟩)
  simp only [Rows.uptoBulk] at hb
  omega
theorem cellsL {t : TypeId} {fs : Array Field} {fuel : Nat} {cs : List Value} {x : DataW H × List MemPlace} (ht : Tryz.prog.underlying t = some (.struct fs)) (h : DataW.trod en Tryz.prog W 0 (fun _ => true) true fuel t cs = some x) : cs.length = Tryz.prog.cellsOf t := by
  obtain ⟨_, _, _, _, hl, _⟩ := DataW.trod_struct ht h
  exact hl
theorem cells3 : Tryz.prog.cellsOf 3 = 1 := by kernel_rfl
theorem cells2 : Tryz.prog.cellsOf 2 = 1 := by kernel_rfl
theorem cells9 : Tryz.prog.cellsOf 9 = 1 := by kernel_rfl
theorem cells28 : Tryz.prog.cellsOf 28 = 4 := by kernel_rfl
theorem cells82 : Tryz.prog.cellsOf 82 = 2 := by kernel_rfl
theorem cells53 : Tryz.prog.cellsOf 53 = 3 := by kernel_rfl
theorem cells22 : Tryz.prog.cellsOf 22 = 1 := by kernel_rfl
theorem cells23 : Tryz.prog.cellsOf 23 = 1 := by kernel_rfl
theorem cells24 : Tryz.prog.cellsOf 24 = 1 := by kernel_rfl
theorem cells26 : Tryz.prog.cellsOf 26 = 3 := by kernel_rfl
theorem whole {R : D → Value → Prop} {a : List D} {cs : List Value} {n : Nat} (h : All2 R a ((cs.drop 0).take n)) (hl : cs.length = n) : All2 R a cs := by
  rw [List.drop_zero, List.take_of_length_le (by omega)] at h; exact h
theorem rd_val {N : Nat} (hN : N ≤ 1048575) : Rd en W (N + 1) 28 (fun v : Val => [.int .i64 v.kind, .int .i64 v.num, .int .i64 v.den, .str v.str]) yes := by
  intro fuel cs x h hb
  obtain ⟨k, _, hk⟩ := rd_field (u := 0) Tryz.underlying28 h hb 0 rfl (rd_int Tryz.underlying3) cells3
  obtain ⟨n, _, hn⟩ := rd_field (u := 0) Tryz.underlying28 h hb 1 rfl (rd_int Tryz.underlying2) cells2
  obtain ⟨d, _, hd⟩ := rd_field (u := 0) Tryz.underlying28 h hb 2 rfl (rd_int Tryz.underlying2) cells2
  obtain ⟨s, _, hs⟩ := rd_field (u := 0) Tryz.underlying28 h hb 3 rfl (rd_str (by omega) Tryz.underlying9) cells9
  exact ⟨⟨k, n, d, s⟩, trivial, whole (all2_app (all2_app (all2_app hk hn) hd) hs) ((cellsL Tryz.underlying28 h).trans cells28)⟩
theorem rd_dim {N : Nat} (hN : N ≤ 1048575) : Rd en W (N + 1) 53 encDim yes := by
  intro fuel cs x h hb
  obtain ⟨s, _, hs⟩ := rd_field (u := 0) Tryz.underlying53 h hb 0 rfl (rd_str (by omega) Tryz.underlying9) cells9
  obtain ⟨k, _, hk⟩ := rd_field (u := 0) Tryz.underlying53 h hb 1 rfl (rd_int Tryz.underlying3) cells3
  obtain ⟨n, _, hn⟩ := rd_field (u := 0) Tryz.underlying53 h hb 2 rfl (rd_int Tryz.underlying3) cells3
  exact ⟨⟨s, k, n⟩, trivial, whole (all2_app (all2_app hs hk) hn) ((cellsL Tryz.underlying53 h).trans cells53)⟩
theorem rd_attr {N : Nat} (hN : N ≤ 1048575) : Rd en W (N + 1) 82 encAttr yes := by
  intro fuel cs x h hb
  obtain ⟨s, _, hs⟩ := rd_field (u := 0) Tryz.underlying82 h hb 0 rfl (rd_str (by omega) Tryz.underlying9) cells9
  obtain ⟨k, _, hk⟩ := rd_field (u := 0) Tryz.underlying82 h hb 1 rfl (rd_int Tryz.underlying3) cells3
  exact ⟨⟨s, k⟩, trivial, whole (all2_app hs hk) ((cellsL Tryz.underlying82 h).trans cells82)⟩
theorem cells37 : Tryz.prog.cellsOf 37 = 1 := by kernel_rfl
theorem cells54 : Tryz.prog.cellsOf 54 = 1 := by kernel_rfl
theorem cells56 : Tryz.prog.cellsOf 56 = 2 := by kernel_rfl
def fewC (N : Nat) (c : Cell) : Prop := c.at'.length ≤ N ∧ c.vals.length ≤ N
theorem rd_cell {N : Nat} (hN : N ≤ 1048573) : Rd en W (N + 3) 56 encCell (fewC (N + 1)) := by
  intro fuel cs x h hb
  obtain ⟨a, qa, ha⟩ := rd_field (u := 0) Tryz.underlying56 h hb 0 rfl (rd_slice (f := encInt) (N := N + 1) (k := 1) (b := 8) (by omega) (by omega) (by omega) Tryz.underlying37 cells3 (rd_int Tryz.underlying3)) cells37
  obtain ⟨v, qv, hv⟩ := rd_field (u := 0) Tryz.underlying56 h hb 1 rfl (rd_slice (f := encVal) (N := N + 1) (k := 4) (b := 40) (by omega) (by omega) (by omega) Tryz.underlying54 cells28 (rd_val (by omega))) cells54
  exact ⟨⟨a, v⟩, ⟨qa.1, qv.1⟩, whole (all2_app ha hv) ((cellsL Tryz.underlying56 h).trans cells56)⟩
def fewA (N : Nat) (a : Arr) : Prop := few_ N yes a.dims ∧ few_ N yes a.attrs ∧ few_ N (fewC N) a.cells
theorem rd_arr {N : Nat} (hN : N ≤ 1048571) : Rd en W (N + 5) 26 encArr (fewA (N + 3)) := by
  intro fuel cs x h hb
  obtain ⟨d, qd, hd⟩ := rd_field (u := 0) Tryz.underlying26 h hb 0 rfl (rd_slice (f := encDim) (N := N + 3) (k := 3) (b := 32) (by omega) (by omega) (by omega) Tryz.underlying22 cells53 (rd_dim (by omega))) cells22
  obtain ⟨a, qa, ha⟩ := rd_field (u := 0) Tryz.underlying26 h hb 1 rfl (rd_slice (f := encAttr) (N := N + 3) (k := 2) (b := 24) (by omega) (by omega) (by omega) Tryz.underlying23 cells82 (rd_attr (by omega))) cells23
  obtain ⟨c, qc, hc⟩ := rd_field (u := 0) Tryz.underlying26 h hb 2 rfl (rd_slice (f := encCell) (N := N + 3) (k := 2) (b := 48) (by omega) (by omega) (by omega) Tryz.underlying24 cells56 (rd_cell (by omega))) cells24
  exact ⟨⟨d, a, c⟩, ⟨qd, qa, qc.1, fun x hx => by have := qc.2 x hx; unfold fewC at *; omega⟩, whole (all2_app (all2_app hd ha) hc) ((cellsL Tryz.underlying26 h).trans cells26)⟩
theorem okWide_agg {P : Program} {t : TypeId} {fs : Array Field} {r : Reach} {base : Nat} {v : Value} (ht : P.underlying t = some (.struct fs)) (h : Value.okWide P W r base t v) : ∃ cs : List Value, v = .agg cs.toArray := by
  unfold Value.okWide at h
  rw [ht] at h
  obtain ⟨cs, rfl, _⟩ := h
  exact ⟨cs.toList, by simp⟩
theorem carryAll {W' : World} : ∀ {ts : List TypeId} {vs : List Value} {ds : List (DataW H)} {ps : List MemPlace}, DataW.TrodAll en Tryz.prog W 0 (fun _ => true) true ts vs ds ps → (∀ p ∈ ps, W.sameAt W' p) → DataW.TrodAll en Tryz.prog W' 0 (fun _ => true) true ts vs ds ps
  | [], [], [], _, h, _ => h
  | _ :: _, _ :: _, _ :: _, _, ⟨p, q, ⟨n, h1⟩, h2, e⟩, hs => ⟨p, q, ⟨n, DataW.trod_carry n _ _ _ h1 fun x hx => hs x (by rw [e]; exact List.mem_append_left _ hx)⟩, carryAll h2 fun x hx => hs x (by rw [e]; exact List.mem_append_right _ hx), e⟩
theorem own : ownKnob Tryz.prog.godebug = none := by kernel_rfl
theorem kids : Kids Tryz.prog (· < Tryz.prog.types.size) := kids_rows (by kernel_rfl) (by kernel_rfl)
set_option maxRecDepth 100000 in
theorem full : ∀ t e, t < Tryz.prog.types.size → Tryz.prog.underlying t = some (.slice e) → 0 < Tryz.prog.cellsOf e := slices_full_of Tryz.prog (by kernel_rfl)
theorem keptBlock {W' : World} (h : Kept (MOf (fun _ => none) []) W W') : ∀ b, b < W.heap.size → W'.heap[b]? = W.heap[b]? := fun b hb => h.block b hb (by rintro ⟨id, e, p, h1, _⟩; simp [Abs.look] at h1)
theorem keptAll {W' : World} (h : Kept (MOf (fun _ => none) []) W W') (may : MemPlace → Prop) : W.keptBut W' may :=
  ⟨h.os, h.output, fun i hi => by rw [keptBlock h i hi]; exact (World.keptBut_refl W may).2.2 i hi⟩
theorem keptSame {W' : World} (h : Kept (MOf (fun _ => none) []) W W') {p : MemPlace} (hp : p.block < W.heap.size) : W.sameAt W' p := by
  have hb := keptBlock h p.block hp
  cases p with
  | cell b off => show W'.cell? ⟨b, off, none⟩ = W.cell? ⟨b, off, none⟩; unfold World.cell?; rw [show W'.heap[b]? = W.heap[b]? from hb]
  | map b => exact hb
theorem all2_d {σ : Sig} {φ : Pl} {sto : Sto} : ∀ {ds : List D} {vs : List Value}, All2 (Rep σ) ds vs → All2 (RepC σ φ sto) (ds.map .d) vs
  | [], [], _ => trivial
  | d :: r, v :: vs, h => ⟨.d h.1, all2_d h.2⟩
  | [], _ :: _, h => h.elim
  | _ :: _, [], h => h.elim
theorem tsz : Nat.blt 300 Tryz.prog.types.size = true := by kernel_rfl
theorem few {t : Nat} (h : t ≤ 300) : t < Tryz.prog.types.size := by have := Nat.blt_eq.mp tsz; omega
theorem shutBool {W' : World} {base : Nat} {sp : Nat → Bool} {held : Bool} (b : Bool) : DataW.Trod en Tryz.prog W' base sp held 4 (.bool b) (.lit (.bool b)) [] := ⟨1, by simp [DataW.trod, Value.cells, Tryz.underlying4]⟩
end
end Go.Proofs.YtpejdgkaapnekaaGreat
namespace Go.Proofs.YtpejdgkaapnekaaGreat
open Go Go.Abs
def movI (k : Nat) (d : Int) (x : List Int) : List Int := x.set k (at_ x k + d)
def shiftC (k : Nat) (d : Int) (c : Cell) : Cell := ⟨movI k d c.at', c.vals⟩
theorem cmpF_mov : ∀ {k : Nat} {d : Int} {x y : List Int}, k < x.length → x.length = y.length → cmpF (movI k d x) (movI k d y) = cmpF x y
  | _, d, [], _, h, _ => by simp at h
  | _, d, _ :: _, [], _, h => by simp at h
  | 0, d, a :: x, b :: y, _, _ => by
    show cmpF ((a + d) :: x) ((b + d) :: y) = _
    simp only [cmpF]
    by_cases h1 : a < b
    · rw [if_pos h1, if_pos (by omega)]
    · rw [if_neg h1, if_neg (by omega)]
      by_cases h2 : b < a
      · rw [if_pos h2, if_pos (by omega)]
      · rw [if_neg h2, if_neg (by omega)]
  | k + 1, d, a :: x, b :: y, h, h' => by
    have ih := cmpF_mov (k := k) (d := d) (x := x) (y := y) (by simpa using h) (by simpa using h')
    show cmpF (a :: movI k d x) (b :: movI k d y) = _
    simp only [cmpF, ih]
theorem mov_len {k : Nat} {d : Int} {x : List Int} : (movI k d x).length = x.length := by simp [movI]
theorem at_mov {k : Nat} {d : Int} {x : List Int} {i : Nat} (h : i < x.length) : at_ (movI k d x) i = if i = k then at_ x k + d else at_ x i := at_set h
def cutD (d : Dim) (b : Int × Int) : Dim := ⟨d.name, max d.lo b.1, min d.hi b.2⟩
def cutDs (ds : List Dim) (lo hi : List Int) : List Dim := ds.zipWith cutD (lo.zip hi)
def okD (d : Dim) : Bool := !decide (lastF d.hi < d.lo)
def subF (a : Arr) (lo hi : List Int) : Option Arr × Int :=
  if checkF a.dims a.attrs a.cells ≠ 0 then (none, 2)
  else if (lo.length : Int) ≠ a.dims.length ∨ (hi.length : Int) ≠ a.dims.length then (none, 13)
  else if !(cutDs a.dims lo hi).all okD then (none, 3)
  else resF (cutDs a.dims lo hi) a.attrs (a.cells.filter fun c => withinL (cutDs a.dims lo hi) c.at')
def byF (a b : Arr) (k : Nat) : Int := (at_ a.dims k).hi - (at_ b.dims k).lo + 1
def catDim (a b : Arr) (k : Nat) : Dim := ⟨(at_ b.dims k).name, (at_ a.dims k).lo, (at_ b.dims k).hi + byF a b k⟩
structure Cat (a b : Arr) (name : List UInt8) (k : Nat) : Prop where
  oka : OkA a.dims a.attrs a.cells
  okb : OkA b.dims b.attrs b.cells
  hk : k < a.dims.length
  nm : (at_ a.dims k).name = name
  bef : ∀ i, i < k → (at_ a.dims i).name ≠ name
  len : a.dims.length = b.dims.length
  nms : ∀ i, i < a.dims.length → (at_ a.dims i).name = (at_ b.dims i).name
  oth : ∀ i, i < a.dims.length → i ≠ k → at_ a.dims i = at_ b.dims i
  ha : (at_ a.dims k).hi ≤ 1073741824
  hb : (at_ b.dims k).hi ≤ 1073741824
  att : a.attrs = b.attrs
  hc : (catDim a b k).hi ≤ 1073741824
section
variable {a b : Arr} {name : List UInt8} {k : Nat}
def catA (a b : Arr) (k : Nat) : Arr := ⟨a.dims.set k (catDim a b k), a.attrs, sortF (a.cells ++ b.cells.map (shiftC k (byF a b k)))⟩
theorem lastF_le {h : Int} (hh : h ≤ 1073741824) : lastF h = h := by unfold lastF; omega
theorem Cat.bounds (h : Cat a b name k) : (at_ a.dims k).lo ≤ (at_ a.dims k).hi ∧ (at_ b.dims k).lo ≤ (at_ b.dims k).hi ∧ -1073741824 ≤ (at_ a.dims k).lo ∧ -1073741824 ≤ (at_ b.dims k).lo := by
  have h1 := (h.oka.dims.2.2.1 k h.hk).1
  have h2 := (h.okb.dims.2.2.1 k (by rw [← h.len]; exact h.hk)).1
  omega
theorem Cat.acell (h : Cat a b name k) {c : Cell} (hc : c ∈ a.cells) : c.at'.length = a.dims.length ∧ c.vals.length = a.attrs.length ∧ valsGo a.attrs c.vals = 0 ∧ ∀ i, i < a.dims.length → (at_ a.dims i).lo ≤ at_ c.at' i ∧ at_ c.at' i ≤ lastF (at_ a.dims i).hi := by
  obtain ⟨h1, h2, h3, h4⟩ := cellF_ok.1 (h.oka.cel c hc)
  exact ⟨h1, h2, h4, (withinL_iff h1).1 h3⟩
theorem Cat.bcell (h : Cat a b name k) {c : Cell} (hc : c ∈ b.cells) : c.at'.length = a.dims.length ∧ c.vals.length = a.attrs.length ∧ valsGo a.attrs c.vals = 0 ∧ ∀ i, i < a.dims.length → (at_ b.dims i).lo ≤ at_ c.at' i ∧ at_ c.at' i ≤ lastF (at_ b.dims i).hi := by
  obtain ⟨h1, h2, h3, h4⟩ := cellF_ok.1 (h.okb.cel c hc)
  rw [h.att, h.len]
  exact ⟨h1, h2, h4, (withinL_iff h1).1 h3⟩
theorem Cat.moved (h : Cat a b name k) {c : Cell} (hc : c ∈ b.cells) {i : Nat} (hi : i < a.dims.length) : at_ (shiftC k (byF a b k) c).at' i = if i = k then at_ c.at' k + byF a b k else at_ c.at' i :=
  at_mov (by rw [(h.bcell hc).1]; exact hi)
theorem Cat.far (h : Cat a b name k) {c : Cell} (hc : c ∈ b.cells) : (at_ a.dims k).hi + 1 ≤ at_ (shiftC k (byF a b k) c).at' k ∧ at_ (shiftC k (byF a b k) c).at' k ≤ (catDim a b k).hi := by
  rw [h.moved hc h.hk, if_pos rfl]
  have h1 := (h.bcell hc).2.2.2 k h.hk
  rw [lastF_le h.hb] at h1
  unfold byF catDim byF at *
  dsimp only
  omega
theorem Cat.near (h : Cat a b name k) {c : Cell} (hc : c ∈ a.cells) : at_ c.at' k ≤ (at_ a.dims k).hi := by
  have h1 := (h.acell hc).2.2.2 k h.hk
  rw [lastF_le h.ha] at h1
  exact h1.2
theorem Cat.bsrt (h : Cat a b name k) : (b.cells.map (shiftC k (byF a b k))).Pairwise ltC := by
  rw [List.pairwise_map]
  refine List.Pairwise.imp_of_mem (fun {x y} hx hy hxy => ?_) h.okb.srt
  have h1 := (h.bcell hx).1
  have h2 := (h.bcell hy).1
  unfold ltC at hxy ⊢
  show cmpF (movI k _ x.at') (movI k _ y.at') < 0
  rw [cmpF_mov (by rw [h1]; exact h.hk) (by rw [h1, h2])]
  exact hxy
theorem Cat.diff (h : Cat a b name k) : (a.cells ++ b.cells.map (shiftC k (byF a b k))).Pairwise diffC := by
  refine List.pairwise_append.2 ⟨diff_of_sorted h.oka.srt, diff_of_sorted h.bsrt, fun x hx y hy e => ?_⟩
  obtain ⟨c, hc, rfl⟩ := List.mem_map.1 hy
  have h1 := h.near hx
  have h2 := (h.far hc).1
  rw [e] at h1
  omega
theorem Cat.cdim (h : Cat a b name k) {i : Nat} (hi : i < a.dims.length) : at_ (catA a b k).dims i = if i = k then catDim a b k else at_ a.dims i := at_set hi
theorem dimsGo_mk : ∀ {ds : List Dim} {met : List (List UInt8)}, (∀ d ∈ ds, boundsF d.lo d.hi = true ∧ nameF d.name = true ∧ d.name ∉ met) → (ds.map Dim.name).Nodup → dimsGo met ds = 0
  | [], met, _, _ => rfl
  | d :: r, met, h, hn => by
    obtain ⟨h1, h2, h3⟩ := h d List.mem_cons_self
    rw [List.map_cons, List.nodup_cons] at hn
    simp only [dimsGo, h1, h2]
    rw [if_neg (by simp [h3]), if_neg (by simp)]
    refine dimsGo_mk (fun x hx => ?_) hn.2
    obtain ⟨j1, j2, j3⟩ := h x (List.mem_cons_of_mem _ hx)
    refine ⟨j1, j2, fun hm => ?_⟩
    rcases List.mem_append.1 hm with hm | hm
    · exact j3 hm
    · have e : x.name = d.name := by simpa using hm
      exact hn.1 (List.mem_map.2 ⟨x, hx, e⟩)
theorem schemaF_mk {ds : List Dim} {ats : List Attr} (h1 : 1 ≤ ds.length) (h2 : ds.length ≤ 4) (h3 : ∀ d ∈ ds, boundsF d.lo d.hi = true ∧ nameF d.name = true) (h4 : (ds.map Dim.name).Nodup) (h5 : 1 ≤ ats.length) (h6 : ats.length ≤ 6) (h7 : attrsGo (ds.map Dim.name) ats = 0) : schemaF ds ats = 0 := by
  have hd : dimsF ds = 0 := by
    unfold dimsF
    rw [if_neg (by omega)]
    exact dimsGo_mk (fun d hd => ⟨(h3 d hd).1, (h3 d hd).2, by simp⟩) h4
  unfold schemaF
  rw [if_neg (by simp [hd]), if_neg (by omega)]
  exact h7
theorem Cat.cnames (h : Cat a b name k) : (catA a b k).dims.map Dim.name = a.dims.map Dim.name := by
  refine at_ext (by simp [catA]) fun i hi => ?_
  have hi' : i < a.dims.length := by simpa [catA] using hi
  rw [at_mapN (by simpa [catA] using hi), at_mapN hi', h.cdim hi']
  split
  · rename_i e; subst e; exact (h.nms i hi').symm
  · rfl
theorem Cat.okc (h : Cat a b name k) (hl : a.cells.length + b.cells.length ≤ 4096) : OkA (catA a b k).dims (catA a b k).attrs (catA a b k).cells := by
  obtain ⟨d1, d2, d3, d4⟩ := h.oka.dims
  obtain ⟨s1, s2, s3, s4⟩ := schemaF_ok h.oka.sch
  have hcl : (catA a b k).dims.length = a.dims.length := by simp [catA]
  have hbn := h.bounds
  refine ⟨schemaF_mk (by omega) (by omega) (fun d hd => ?_) (by rw [h.cnames]; exact d4) s2 s3 (by rw [h.cnames]; exact s4), ?_, sortF_sorted h.diff, fun c hc => ?_⟩
  · obtain ⟨i, hi, rfl⟩ := at_ofmem hd
    rw [hcl] at hi
    have hh := h.hc
    obtain ⟨e1, e2⟩ := d3 i hi
    rw [h.cdim hi]
    split
    · rename_i e; subst e
      refine ⟨boundsF_ok.2 ?_, ?_⟩
      · unfold catDim byF at *; dsimp only at *; omega
      · show nameF (at_ b.dims i).name = true
        rw [← h.nms i hi]; exact e2
    · exact ⟨boundsF_ok.2 e1, e2⟩
  · show (sortF _).length ≤ 4096
    rw [sortF_length, List.length_append, List.length_map]; exact hl
  · have hc' := (sortF_perm _).mem_iff.1 hc
    rcases List.mem_append.1 hc' with hc' | hc'
    · obtain ⟨e1, e2, e3, e4⟩ := h.acell hc'
      refine cellF_ok.2 ⟨by rw [hcl]; exact e1, e2, (withinL_iff (by rw [hcl]; exact e1)).2 fun i hi => ?_, e3⟩
      rw [hcl] at hi
      rw [h.cdim hi]
      have e5 := e4 i hi
      split
      · rename_i e; subst e
        rw [lastF_le h.ha] at e5
        rw [lastF_le h.hc]
        unfold catDim byF; dsimp only; omega
      · exact e5
    · obtain ⟨c0, hc0, rfl⟩ := List.mem_map.1 hc'
      obtain ⟨e1, e2, e3, e4⟩ := h.bcell hc0
      have hlen : (shiftC k (byF a b k) c0).at'.length = a.dims.length := by rw [← e1]; exact mov_len
      refine cellF_ok.2 ⟨by rw [hcl]; exact hlen, e2, (withinL_iff (by rw [hcl]; exact hlen)).2 fun i hi => ?_, e3⟩
      rw [hcl] at hi
      rw [h.cdim hi]
      split
      · rename_i e; subst e
        have hf := h.far hc0
        rw [lastF_le h.hc]
        refine ⟨?_, hf.2⟩
        show (at_ a.dims i).lo ≤ _
        omega
      · rename_i e
        rw [h.moved hc0 hi, if_neg e, h.oth i hi e]
        exact e4 i hi
theorem Cat.first (h : Cat a b name k) (hl : a.cells.length + b.cells.length ≤ 4096) (h2 : a.cells.length ≤ 4096) :
    subF (catA a b k) ((catA a b k).dims.map Dim.lo) (((catA a b k).dims.map Dim.hi).set k (at_ a.dims k).hi) = (some a, 0) := by
  have hcl : (catA a b k).dims.length = a.dims.length := by simp [catA]
  obtain ⟨d1, d2, d3, d4⟩ := h.oka.dims
  have hbn := h.bounds
  have hcut : cutDs (catA a b k).dims ((catA a b k).dims.map Dim.lo) (((catA a b k).dims.map Dim.hi).set k (at_ a.dims k).hi) = a.dims := by
    refine at_ext (by simp [cutDs, hcl]) fun i hi => ?_
    have hi' : i < a.dims.length := by simp [cutDs, hcl] at hi; exact hi
    have hi2 : i < (catA a b k).dims.length := by rw [hcl]; exact hi'
    unfold cutDs
    rw [at_zip hi2 (by simp [hcl, hi']), List.zip, at_zip (by simp [hcl, hi']) (by simp [hcl, hi']), at_mapN hi2, at_set (by simp [hcl, hi']), at_mapN hi2, h.cdim hi']
    unfold cutD
    by_cases e : i = k
    · subst e
      rw [if_pos rfl, if_pos rfl]
      refine Dim.ext ?_ ?_ ?_
      · exact (h.nms i hi').symm
      · show max (at_ a.dims i).lo (at_ a.dims i).lo = _; omega
      · show min ((at_ b.dims i).hi + byF a b i) (at_ a.dims i).hi = _; unfold byF; omega
    · rw [if_neg e, if_neg e]
      refine Dim.ext rfl ?_ ?_
      · show max _ _ = _; omega
      · show min _ _ = _; omega
  unfold subF
  rw [if_neg (by rw [okA_check (h.okc hl)]; simp), if_neg (by simp), hcut, if_neg ?_]
  · have hf : (catA a b k).cells.filter (fun c => withinL a.dims c.at') = a.cells := by
      refine sortF_filter _ h.diff h.oka.srt ?_
      rw [List.filter_append, List.filter_eq_self.2 fun c hc => (withinL_iff (h.acell hc).1).2 (h.acell hc).2.2.2, List.filter_eq_nil_iff.2, List.append_nil]
      · intro c hc hw
        obtain ⟨c0, hc0, rfl⟩ := List.mem_map.1 hc
        have hlen : (shiftC k (byF a b k) c0).at'.length = a.dims.length := by rw [← (h.bcell hc0).1]; exact mov_len
        have h3 := (withinL_iff hlen).1 hw k h.hk
        have h4 := (h.far hc0).1
        rw [lastF_le h.ha] at h3
        omega
    rw [hf]
    unfold resF
    rw [if_neg (by omega), sortF_id h.oka.srt]
    rfl
  · simp only [Bool.not_eq_true', Bool.not_eq_false, List.all_eq_true, okD, decide_eq_false_iff_not]
    intro d hd
    obtain ⟨i, hi, rfl⟩ := at_ofmem hd
    have := (d3 i hi).1
    unfold lastF; omega
end
end Go.Proofs.YtpejdgkaapnekaaGreat
namespace Go.Proofs.YtpejdgkaapnekaaGreat
open Go Go.Abs
attribute [local irreducible] OkOps OkC DRun thenQ blockQ RetQ
set_option maxRecDepth 10000
end Go.Proofs.YtpejdgkaapnekaaGreat
namespace Go.Proofs.YtpejdgkaapnekaaGreat
open Go Go.Abs
attribute [local irreducible] OkOps OkC DRun thenQ blockQ RetQ
set_option maxRecDepth 10000
def chkA (a : Arr) : Int := checkF a.dims a.attrs a.cells
theorem c180 (a : Arr) : CallA Tryz.prog 180 [aggA a] [] (.one (.d (.bool (chkA a != 0)))) [] := by
  unfold aggA
  refine enter tabOk Tryz.func180 rfl (by decide +kernel) rfl fun hok w0 σ0 φ0 M => ?_
  clear hok
  repeat' (first | (show OkOps _ _ _ _ _ _; first | refine okops_nil ?_ | refine s_plain tabOk rfl rfl rfl rfl rfl ?_ | (show OkOps _ _ _ (Oper.mk _ (Op.call _) _ _ _ (_) :: _) _ _; first | refine s_callF rfl rfl rfl rfl rfl rfl rfl rfl (c59 _ _ _) rfl ?_ | fail) | (show OkOps _ _ _ (Oper.mk _ (Op.box _ _) _ _ _ (_) :: _) _ _; first | refine s_box 0 rfl rfl rfl rfl rfl rfl ?_ | fail) | fail) | (show OkC _ _ _ _ _; first | refine ok_seq ?_ | refine ok_region ?_ | refine ok_ret ?_ | fail) | (show thenQ _ _ _ _; first | refine then_n ?_ | fail) | (show RetQ _ _ _ _ _ _; first | refine ret_leaf (.inl rfl) rfl rfl ?_ | fail) | fail)
  all_goals rfl
theorem c31 (a : Arr) (m : Int) : CallA Tryz.prog 31 [aggA a, .one (.d (.int .i64 m))] [] (.one (.d (.bool (decide (m < (a.cells.length : Int)) || chkA a != 0)))) [] := by
  unfold aggA
  refine enter tabOk Tryz.func31 rfl (by decide +kernel) rfl fun hok w0 σ0 φ0 M => ?_
  have h1 := (OkD.sl (hok.1 (.d (encCells a.cells)) (by simp))).1; clear hok; simp only [List.length_map] at h1
  repeat' (first | (show OkOps _ _ _ _ _ _; first | refine okops_nil ?_ | refine s_plain tabOk rfl rfl rfl rfl rfl ?_ | (show OkOps _ _ _ (Oper.mk _ (_) _ _ _ (some _) :: _) _ _; first | refine s_guard rfl rfl (by first | assumption | rfl) ?_ | refine s_out rfl rfl (by first | assumption | rfl) rfl rfl ?_ | refine s_split rfl rfl rfl rfl (fun h => ?_) (fun h => ?_) | fail) | (show OkOps _ _ _ (Oper.mk _ (Op.pick _ _ _) _ _ _ (_) :: _) _ _; first | refine s_e envOk rfl rfl rfl (step3_pickT rfl rfl (by first | rfl | assumption) rfl) ?_ | refine s_e envOk rfl rfl rfl (step3_pickF rfl rfl (by first | rfl | assumption) rfl) ?_ | fail) | (show OkOps _ _ _ (Oper.mk _ (Op.call _) _ _ _ (_) :: _) _ _; first | refine s_callF rfl rfl rfl rfl rfl rfl rfl rfl (c59 _ _ _) rfl ?_ | fail) | (show OkOps _ _ _ (Oper.mk _ (Op.box _ _) _ _ _ (_) :: _) _ _; first | refine s_box 0 rfl rfl rfl rfl rfl rfl ?_ | fail) | fail) | (show OkC _ _ _ _ _; first | refine ok_seq ?_ | refine ok_region ?_ | refine ok_ret ?_ | fail) | (show thenQ _ _ _ _; first | refine then_n ?_ | fail) | (show RetQ _ _ _ _ _ _; first | refine ret_leaf (.inl rfl) rfl rfl ?_ | fail) | fail)
  all_goals (try (((simp_all [chkA, at_drop, List.drop_eq_nil_of_le]) <;> first | omega | (rw [Bool.eq_iff_iff]; simp; omega) | grind); done))
theorem c230 (l : List Arr) : CallA Tryz.prog 230 [.one (.d (encArrs l)), .one (.d (.fn 180 []))] [] (.one (.d (.int .i64 (idxGo (fun a => chkA a != 0) l 0)))) [] := by
  refine enter tabOk Tryz.func230 rfl (by decide +kernel) rfl fun hok w0 σ0 φ0 M => ?_
  have h1 := hok.1.sl; clear hok; simp only [List.length_map] at h1; replace h1 := h1.1
  repeat' (first | (show OkOps _ _ _ _ _ _; first | refine okops_nil ?_ | refine s_plain tabOk rfl rfl rfl rfl rfl ?_ | (show OkOps _ _ _ (Oper.mk _ (Op.binOp .add _ _ _ _) _ _ _ (_) :: _) _ _; first | refine s_e envOk rfl rfl rfl (step3_add rfl rfl rfl rfl (wrap64 (by omega) (by omega))) ?_ | fail) | (show OkOps _ _ _ (Oper.mk _ (Op.indexAddr _ _ _) _ _ _ (_) :: _) _ _; first | refine s_e envOk rfl rfl rfl (step3_idx rfl rfl rfl rfl rfl (by first | omega | ((try simp only [decide_eq_true_eq, decide_eq_false_iff_not, Bool.not_eq_true', Bool.not_true, Bool.not_false, List.length_map, List.length_set, bne_iff_ne, ne_eq, beq_iff_eq, bne_eq_false_iff_eq, beq_eq_false_iff_ne] at *); omega)) (at_map (by first | omega | ((try simp only [decide_eq_true_eq, decide_eq_false_iff_not, Bool.not_eq_true', Bool.not_true, Bool.not_false, List.length_map, List.length_set, bne_iff_ne, ne_eq, beq_iff_eq, bne_eq_false_iff_eq, beq_eq_false_iff_ne] at *); omega)))) ?_ | fail) | (show OkOps _ _ _ (Oper.mk _ (Op.call _) _ _ _ (_) :: _) _ _; first | refine s_callF rfl rfl rfl rfl rfl rfl rfl rfl (c180 _) rfl ?_ | fail) | fail) | (show OkC _ _ _ _ _; first | refine ok_seq ?_ | refine ok_region ?_ | refine ok_block ?_ | refine ok_skip ?_ | refine ok_ret ?_ | refine ok_exit ?_ | refine ok_cond rfl (fun h => ?_) (fun h => ?_) | refine s_loop 2 rfl [(0, _), (1, _), (7, _)] (subL_cons rfl (subL_cons rfl (subL_cons rfl subL_nil))) (fun (k : Nat) => [(8, .one (.d (.int .i64 k)))]) (fun (k : Nat) => k ≤ l.length ∧ idxGo (fun a => chkA a != 0) l 0 = idxGo (fun a => chkA a != 0) (l.drop k) k) (fun (k : Nat) => l.length - k) 0 (subL_cons rfl subL_nil) ?_ (fun k ⟨hk, hs⟩ => ?_) | fail) | (show thenQ _ _ _ _; first | refine then_n ?_ | refine then_r ?_ | refine then_x ?_ | fail) | (show blockQ _ _ _ _; first | refine block_n ?_ | refine block_r ?_ | refine block_x rfl ?_ | fail) | (show RetQ _ _ _ _ _ _; first | refine ret_leaf (.inl rfl) rfl rfl ?_ | fail) | (show Exists _; first | refine Exists.intro (k + 1) ⟨?_, ?_, (by first | exact subL_nil | exact (subL_cons rfl subL_nil) | exact (subL_cons rfl (subL_cons rfl subL_nil)) | exact (subL_cons rfl (subL_cons rfl (subL_cons rfl subL_nil))) | exact (subL_cons rfl (subL_cons rfl (subL_cons rfl (subL_cons rfl subL_nil)))) | exact (subL_cons rfl (subL_cons rfl (subL_cons rfl (subL_cons rfl (subL_cons rfl subL_nil))))) | exact (subL_cons rfl (subL_cons rfl (subL_cons rfl (subL_cons rfl (subL_cons rfl (subL_cons rfl subL_nil)))))) | exact (subL_cons rfl (subL_cons rfl (subL_cons rfl (subL_cons rfl (subL_cons rfl (subL_cons rfl (subL_cons rfl subL_nil))))))) | exact (subL_cons rfl (subL_cons rfl (subL_cons rfl (subL_cons rfl (subL_cons rfl (subL_cons rfl (subL_cons rfl (subL_cons rfl subL_nil))))))))), (subL_cons rfl subL_nil), (subL_cons rfl (subL_cons rfl (subL_cons rfl subL_nil)))⟩ | fail) | fail)
  all_goals (try (((simp_all [idxGo, at_drop, List.drop_eq_nil_of_le]) <;> first | omega | (rw [Bool.eq_iff_iff]; simp; omega) | grind); done))
theorem c179 (l : List Arr) : CallA Tryz.prog 179 [.one (.d (encArrs l)), .one (.d (.fn 180 []))] [] (.one (.d (.bool (!decide (idxGo (fun a => chkA a != 0) l 0 < 0))))) [] := by
  refine enter tabOk Tryz.func179 rfl (by decide +kernel) rfl fun hok w0 σ0 φ0 M => ?_
  clear hok
  repeat' (first | (show OkOps _ _ _ _ _ _; first | refine okops_nil ?_ | refine s_plain tabOk rfl rfl rfl rfl rfl ?_ | (show OkOps _ _ _ (Oper.mk _ (Op.call _) _ _ _ (_) :: _) _ _; first | refine s_callF rfl rfl rfl rfl rfl rfl rfl rfl (c230 _) rfl ?_ | fail) | fail) | (show OkC _ _ _ _ _; first | refine ok_seq ?_ | refine ok_region ?_ | refine ok_ret ?_ | fail) | (show thenQ _ _ _ _; first | refine then_n ?_ | fail) | (show RetQ _ _ _ _ _ _; first | refine ret_leaf (.inl rfl) rfl rfl ?_ | fail) | fail)
  all_goals (try (((simp_all [at_drop, List.drop_eq_nil_of_le]) <;> first | omega | (rw [Bool.eq_iff_iff]; simp; omega) | grind); done))
def validF (l : List Arr) : Bool := l.all fun a => chkA a == 0
theorem idx_valid' : ∀ (l : List Arr) (j : Nat), idxGo (fun a => chkA a != 0) l j < 0 ↔ validF l = true
  | [], j => by simp [idxGo, validF]
  | a :: l, j => by
    have ih := idx_valid' l (j + 1)
    simp only [idxGo, validF, List.all_cons, Bool.and_eq_true]
    by_cases h : chkA a = 0
    · rw [if_neg (by simp [h])]
      rw [ih]
      simp [h, validF]
    · rw [if_pos (by simp [h])]
      constructor
      · intro h1; omega
      · intro h1; simp [h] at h1
theorem idx_valid (l : List Arr) (j : Nat) : decide (idxGo (fun a => chkA a != 0) l j < 0) = validF l := by
  rw [Bool.eq_iff_iff, decide_eq_true_eq, idx_valid']
theorem c96 (l : List Arr) : CallA Tryz.prog 96 [.one (.d (encArrs l))] [] (.one (.d (.bool (validF l)))) [] := by
  refine enter tabOk Tryz.func96 rfl (by decide +kernel) rfl fun hok w0 σ0 φ0 M => ?_
  clear hok
  repeat' (first | (show OkOps _ _ _ _ _ _; first | refine okops_nil ?_ | refine s_plain tabOk rfl rfl rfl rfl rfl ?_ | (show OkOps _ _ _ (Oper.mk _ (Op.call _) _ _ _ (_) :: _) _ _; first | refine s_callF rfl rfl rfl rfl rfl rfl rfl rfl (c179 _) rfl ?_ | fail) | fail) | (show OkC _ _ _ _ _; first | refine ok_seq ?_ | refine ok_region ?_ | refine ok_ret ?_ | fail) | (show thenQ _ _ _ _; first | refine then_n ?_ | fail) | (show RetQ _ _ _ _ _ _; first | refine ret_leaf (.inl rfl) rfl rfl ?_ | fail) | fail)
  all_goals (try (((simp_all [idx_valid, at_drop, List.drop_eq_nil_of_le]) <;> first | omega | (rw [Bool.eq_iff_iff]; simp; omega) | grind); done))
theorem c197 (x y : Dim) : CallA Tryz.prog 197 [.agg [.d (.str x.name), .d (.int .i64 x.lo), .d (.int .i64 x.hi)], .agg [.d (.str y.name), .d (.int .i64 y.lo), .d (.int .i64 y.hi)]] [] (.one (.d (.bool (x.name == y.name)))) [] := by
  refine enter tabOk Tryz.func197 rfl (by decide +kernel) rfl fun hok w0 σ0 φ0 M => ?_
  clear hok
  repeat' (first | (show OkOps _ _ _ _ _ _; first | refine okops_nil ?_ | refine s_plain tabOk rfl rfl rfl rfl rfl ?_ | (show OkOps _ _ _ (Oper.mk _ (Op.box _ _) _ _ _ (_) :: _) _ _; first | refine s_box 0 rfl rfl rfl rfl rfl rfl ?_ | refine s_box 1 rfl rfl rfl rfl rfl rfl ?_ | fail) | fail) | (show OkC _ _ _ _ _; first | refine ok_seq ?_ | refine ok_region ?_ | refine ok_ret ?_ | fail) | (show thenQ _ _ _ _; first | refine then_n ?_ | fail) | (show RetQ _ _ _ _ _ _; first | refine ret_leaf (.inl rfl) rfl rfl ?_ | fail) | fail)
  all_goals (try (((simp_all [at_drop, List.drop_eq_nil_of_le]) <;> first | omega | (rw [Bool.eq_iff_iff]; simp; omega) | grind); done))
theorem c196 (a b : List Dim) : CallA Tryz.prog 196 [.one (.d (encDims a)), .one (.d (encDims b)), .one (.d (.fn 197 []))] [] (.one (.d (.bool (alikeF a b)))) [] := by
  refine enter tabOk Tryz.func196 rfl (by decide +kernel) rfl fun hok w0 σ0 φ0 M => ?_
  have h1 := hok.1.sl; have h2 := hok.2.1.sl; clear hok; simp only [List.length_map] at h1 h2; replace h1 := h1.1; replace h2 := h2.1
  repeat' (first | (show OkOps _ _ _ _ _ _; first | refine okops_nil ?_ | refine s_plain tabOk rfl rfl rfl rfl rfl ?_ | (show OkOps _ _ _ (Oper.mk _ (Op.binOp .add _ _ _ _) _ _ _ (_) :: _) _ _; first | refine s_e envOk rfl rfl rfl (step3_add rfl rfl rfl rfl (wrap64 (by omega) (by omega))) ?_ | fail) | (show OkOps _ _ _ (Oper.mk _ (Op.indexAddr _ _ _) _ _ _ (_) :: _) _ _; first | refine s_e envOk rfl rfl rfl (step3_idx rfl rfl rfl rfl rfl (by first | omega | ((try simp only [decide_eq_true_eq, decide_eq_false_iff_not, Bool.not_eq_true', Bool.not_true, Bool.not_false, List.length_map, List.length_set, bne_iff_ne, ne_eq, beq_iff_eq, bne_eq_false_iff_eq, beq_eq_false_iff_ne] at *); omega)) (at_map (by first | omega | ((try simp only [decide_eq_true_eq, decide_eq_false_iff_not, Bool.not_eq_true', Bool.not_true, Bool.not_false, List.length_map, List.length_set, bne_iff_ne, ne_eq, beq_iff_eq, bne_eq_false_iff_eq, beq_eq_false_iff_ne] at *); omega)))) ?_ | fail) | (show OkOps _ _ _ (Oper.mk _ (Op.call _) _ _ _ (_) :: _) _ _; first | refine s_callF rfl rfl rfl rfl rfl rfl rfl rfl (c197 _ _) rfl ?_ | fail) | (show OkOps _ _ _ (Oper.mk _ (Op.alloc _) _ _ _ (_) :: _) _ _; first | refine s_alloc tabOk 0 rfl rfl rfl rfl rfl ?_ | refine s_alloc tabOk 1 rfl rfl rfl rfl rfl ?_ | fail) | refine s_store envOk rfl rfl rfl ?_ | fail) | (show OkC _ _ _ _ _; first | refine ok_seq ?_ | refine ok_region ?_ | refine ok_block ?_ | refine ok_skip ?_ | refine ok_ret ?_ | refine ok_exit ?_ | refine ok_cond rfl (fun h => ?_) (fun h => ?_) | refine s_loop 4 rfl [(1, _), (2, _), (15, _), (16, _)] (subL_cons rfl (subL_cons rfl (subL_cons rfl (subL_cons rfl subL_nil)))) (fun (k : Nat) => [(17, .one (.d (.int .i64 k)))]) (fun (k : Nat) => k ≤ a.length ∧ a.length = b.length ∧ alikeF a b = sameGo (fun x y => x.name == y.name) (a.drop k) (b.drop k)) (fun (k : Nat) => a.length - k) 0 (subL_cons rfl subL_nil) ?_ (fun k ⟨hk, hq, hs⟩ => ?_) | fail) | (show thenQ _ _ _ _; first | refine then_n ?_ | refine then_r ?_ | refine then_x ?_ | fail) | (show blockQ _ _ _ _; first | refine block_n ?_ | refine block_r ?_ | refine block_x rfl ?_ | fail) | (show RetQ _ _ _ _ _ _; first | refine ret_leaf (.inl rfl) rfl rfl ?_ | fail) | (show Exists _; first | refine Exists.intro (k + 1) ⟨?_, ?_, (by first | exact subL_nil | exact (subL_cons rfl subL_nil) | exact (subL_cons rfl (subL_cons rfl subL_nil)) | exact (subL_cons rfl (subL_cons rfl (subL_cons rfl subL_nil))) | exact (subL_cons rfl (subL_cons rfl (subL_cons rfl (subL_cons rfl subL_nil)))) | exact (subL_cons rfl (subL_cons rfl (subL_cons rfl (subL_cons rfl (subL_cons rfl subL_nil))))) | exact (subL_cons rfl (subL_cons rfl (subL_cons rfl (subL_cons rfl (subL_cons rfl (subL_cons rfl subL_nil)))))) | exact (subL_cons rfl (subL_cons rfl (subL_cons rfl (subL_cons rfl (subL_cons rfl (subL_cons rfl (subL_cons rfl subL_nil))))))) | exact (subL_cons rfl (subL_cons rfl (subL_cons rfl (subL_cons rfl (subL_cons rfl (subL_cons rfl (subL_cons rfl (subL_cons rfl subL_nil))))))))), (subL_cons rfl subL_nil), (subL_cons rfl (subL_cons rfl (subL_cons rfl (subL_cons rfl subL_nil))))⟩ | fail) | fail)
  all_goals (try (((simp_all [alikeF, sameF, sameGo, at_drop, List.drop_eq_nil_of_le]) <;> first | omega | (rw [Bool.eq_iff_iff]; simp; omega) | grind); done))
theorem c127 (a b : List Dim) : CallA Tryz.prog 127 [.one (.d (encDims a)), .one (.d (encDims b))] [] (.one (.d (.bool (alikeF a b)))) [] := by
  refine enter tabOk Tryz.func127 rfl (by decide +kernel) rfl fun hok w0 σ0 φ0 M => ?_
  clear hok
  repeat' (first | (show OkOps _ _ _ _ _ _; first | refine okops_nil ?_ | refine s_plain tabOk rfl rfl rfl rfl rfl ?_ | (show OkOps _ _ _ (Oper.mk _ (Op.call _) _ _ _ (_) :: _) _ _; first | refine s_callF rfl rfl rfl rfl rfl rfl rfl rfl (c196 _ _) rfl ?_ | fail) | fail) | (show OkC _ _ _ _ _; first | refine ok_seq ?_ | refine ok_region ?_ | refine ok_ret ?_ | fail) | (show thenQ _ _ _ _; first | refine then_n ?_ | fail) | (show RetQ _ _ _ _ _ _; first | refine ret_leaf (.inl rfl) rfl rfl ?_ | fail) | fail)
  all_goals (try (((simp_all [at_drop, List.drop_eq_nil_of_le]) <;> first | omega | (rw [Bool.eq_iff_iff]; simp; omega) | grind); done))
theorem c120 (a b : List Dim) : CallA Tryz.prog 120 [.one (.d (encDims a)), .one (.d (encDims b))] [] (.one (.d (.bool (sameF eqDim a b)))) [] := by
  refine enter tabOk Tryz.func120 rfl (by decide +kernel) rfl fun hok w0 σ0 φ0 M => ?_
  have h1 := hok.1.sl; have h2 := hok.2.1.sl; clear hok; simp only [List.length_map] at h1 h2; replace h1 := h1.1; replace h2 := h2.1
  repeat' (first | (show OkOps _ _ _ _ _ _; first | refine okops_nil ?_ | refine s_plain tabOk rfl rfl rfl rfl rfl ?_ | (show OkOps _ _ _ (Oper.mk _ (Op.binOp .add _ _ _ _) _ _ _ (_) :: _) _ _; first | refine s_e envOk rfl rfl rfl (step3_add rfl rfl rfl rfl (wrap64 (by omega) (by omega))) ?_ | fail) | fail) | (show OkC _ _ _ _ _; first | refine ok_seq ?_ | refine ok_region ?_ | refine ok_block ?_ | refine ok_skip ?_ | refine ok_ret ?_ | refine ok_exit ?_ | refine ok_cond rfl (fun h => ?_) (fun h => ?_) | refine ok_regionD progOk.mo ?_ | refine s_loop 4 rfl [(0, _), (1, _), (12, _)] (subL_cons rfl (subL_cons rfl (subL_cons rfl subL_nil))) (fun (k : Nat) => [(13, .one (.d (.int .i64 k)))]) (fun (k : Nat) => k ≤ a.length ∧ a.length = b.length ∧ sameF eqDim a b = sameGo eqDim (a.drop k) (b.drop k)) (fun (k : Nat) => a.length - k) 0 (subL_cons rfl subL_nil) ?_ (fun k ⟨hk, hq, hs⟩ => ?_) | fail) | (show thenQ _ _ _ _; first | refine then_n ?_ | refine then_r ?_ | refine then_x ?_ | fail) | (show blockQ _ _ _ _; first | refine block_n ?_ | refine block_r ?_ | refine block_x rfl ?_ | fail) | (show RetQ _ _ _ _ _ _; first | refine ret_leaf (.inl rfl) rfl rfl ?_ | fail) | (show DRun _ _ _ _ _ _ _ _; first | refine d_nil (by kernel_rfl) ?_ | refine d_e envOk rfl rfl rfl (step3_plain rfl rfl) ?_ | (show DRun _ _ _ _ (Oper.mk _ (Op.indexAddr _ _ _) _ _ _ (_) :: _) _ _ _; first | refine d_e envOk rfl rfl rfl (step3_idx rfl rfl rfl rfl rfl (by first | omega | ((try simp only [decide_eq_true_eq, decide_eq_false_iff_not, Bool.not_eq_true', Bool.not_true, Bool.not_false, List.length_map, List.length_set, bne_iff_ne, ne_eq, beq_iff_eq, bne_eq_false_iff_eq, beq_eq_false_iff_ne] at *); omega)) (at_map (by first | omega | ((try simp only [decide_eq_true_eq, decide_eq_false_iff_not, Bool.not_eq_true', Bool.not_true, Bool.not_false, List.length_map, List.length_set, bne_iff_ne, ne_eq, beq_iff_eq, bne_eq_false_iff_eq, beq_eq_false_iff_ne] at *); omega)))) ?_ | fail) | refine d_e envOk rfl rfl rfl rfl ?_ | fail) | (show Exists _; first | refine Exists.intro (k + 1) ⟨?_, ?_, (by first | exact subL_nil | exact (subL_cons rfl subL_nil) | exact (subL_cons rfl (subL_cons rfl subL_nil)) | exact (subL_cons rfl (subL_cons rfl (subL_cons rfl subL_nil))) | exact (subL_cons rfl (subL_cons rfl (subL_cons rfl (subL_cons rfl subL_nil)))) | exact (subL_cons rfl (subL_cons rfl (subL_cons rfl (subL_cons rfl (subL_cons rfl subL_nil))))) | exact (subL_cons rfl (subL_cons rfl (subL_cons rfl (subL_cons rfl (subL_cons rfl (subL_cons rfl subL_nil)))))) | exact (subL_cons rfl (subL_cons rfl (subL_cons rfl (subL_cons rfl (subL_cons rfl (subL_cons rfl (subL_cons rfl subL_nil))))))) | exact (subL_cons rfl (subL_cons rfl (subL_cons rfl (subL_cons rfl (subL_cons rfl (subL_cons rfl (subL_cons rfl (subL_cons rfl subL_nil))))))))), (subL_cons rfl subL_nil), (subL_cons rfl (subL_cons rfl (subL_cons rfl subL_nil)))⟩ | fail) | fail)
  all_goals (try (((simp_all [sameF, sameGo, eqDim, encDim, eqDs, eqD, at_drop, List.drop_eq_nil_of_le]) <;> first | omega | (rw [Bool.eq_iff_iff]; simp; omega) | grind); done))
theorem c121 (a b : List Attr) : CallA Tryz.prog 121 [.one (.d (encAttrs a)), .one (.d (encAttrs b))] [] (.one (.d (.bool (sameF eqAttr a b)))) [] := by
  refine enter tabOk Tryz.func121 rfl (by decide +kernel) rfl fun hok w0 σ0 φ0 M => ?_
  have h1 := hok.1.sl; have h2 := hok.2.1.sl; clear hok; simp only [List.length_map] at h1 h2; replace h1 := h1.1; replace h2 := h2.1
  repeat' (first | (show OkOps _ _ _ _ _ _; first | refine okops_nil ?_ | refine s_plain tabOk rfl rfl rfl rfl rfl ?_ | (show OkOps _ _ _ (Oper.mk _ (Op.binOp .add _ _ _ _) _ _ _ (_) :: _) _ _; first | refine s_e envOk rfl rfl rfl (step3_add rfl rfl rfl rfl (wrap64 (by omega) (by omega))) ?_ | fail) | fail) | (show OkC _ _ _ _ _; first | refine ok_seq ?_ | refine ok_region ?_ | refine ok_block ?_ | refine ok_skip ?_ | refine ok_ret ?_ | refine ok_exit ?_ | refine ok_cond rfl (fun h => ?_) (fun h => ?_) | refine ok_regionD progOk.mo ?_ | refine s_loop 4 rfl [(0, _), (1, _), (12, _)] (subL_cons rfl (subL_cons rfl (subL_cons rfl subL_nil))) (fun (k : Nat) => [(13, .one (.d (.int .i64 k)))]) (fun (k : Nat) => k ≤ a.length ∧ a.length = b.length ∧ sameF eqAttr a b = sameGo eqAttr (a.drop k) (b.drop k)) (fun (k : Nat) => a.length - k) 0 (subL_cons rfl subL_nil) ?_ (fun k ⟨hk, hq, hs⟩ => ?_) | fail) | (show thenQ _ _ _ _; first | refine then_n ?_ | refine then_r ?_ | refine then_x ?_ | fail) | (show blockQ _ _ _ _; first | refine block_n ?_ | refine block_r ?_ | refine block_x rfl ?_ | fail) | (show RetQ _ _ _ _ _ _; first | refine ret_leaf (.inl rfl) rfl rfl ?_ | fail) | (show DRun _ _ _ _ _ _ _ _; first | refine d_nil (by kernel_rfl) ?_ | refine d_e envOk rfl rfl rfl (step3_plain rfl rfl) ?_ | (show DRun _ _ _ _ (Oper.mk _ (Op.indexAddr _ _ _) _ _ _ (_) :: _) _ _ _; first | refine d_e envOk rfl rfl rfl (step3_idx rfl rfl rfl rfl rfl (by first | omega | ((try simp only [decide_eq_true_eq, decide_eq_false_iff_not, Bool.not_eq_true', Bool.not_true, Bool.not_false, List.length_map, List.length_set, bne_iff_ne, ne_eq, beq_iff_eq, bne_eq_false_iff_eq, beq_eq_false_iff_ne] at *); omega)) (at_map (by first | omega | ((try simp only [decide_eq_true_eq, decide_eq_false_iff_not, Bool.not_eq_true', Bool.not_true, Bool.not_false, List.length_map, List.length_set, bne_iff_ne, ne_eq, beq_iff_eq, bne_eq_false_iff_eq, beq_eq_false_iff_ne] at *); omega)))) ?_ | fail) | refine d_e envOk rfl rfl rfl rfl ?_ | fail) | (show Exists _; first | refine Exists.intro (k + 1) ⟨?_, ?_, (by first | exact subL_nil | exact (subL_cons rfl subL_nil) | exact (subL_cons rfl (subL_cons rfl subL_nil)) | exact (subL_cons rfl (subL_cons rfl (subL_cons rfl subL_nil))) | exact (subL_cons rfl (subL_cons rfl (subL_cons rfl (subL_cons rfl subL_nil)))) | exact (subL_cons rfl (subL_cons rfl (subL_cons rfl (subL_cons rfl (subL_cons rfl subL_nil))))) | exact (subL_cons rfl (subL_cons rfl (subL_cons rfl (subL_cons rfl (subL_cons rfl (subL_cons rfl subL_nil)))))) | exact (subL_cons rfl (subL_cons rfl (subL_cons rfl (subL_cons rfl (subL_cons rfl (subL_cons rfl (subL_cons rfl subL_nil))))))) | exact (subL_cons rfl (subL_cons rfl (subL_cons rfl (subL_cons rfl (subL_cons rfl (subL_cons rfl (subL_cons rfl (subL_cons rfl subL_nil))))))))), (subL_cons rfl subL_nil), (subL_cons rfl (subL_cons rfl (subL_cons rfl subL_nil)))⟩ | fail) | fail)
  all_goals (try (((simp_all [sameF, sameGo, eqAttr, encAttr, eqDs, eqD, at_drop, List.drop_eq_nil_of_le]) <;> first | omega | (rw [Bool.eq_iff_iff]; simp; omega) | grind); done))
theorem c124 (a b : List Int) : CallA Tryz.prog 124 [.one (.d (encInts a)), .one (.d (encInts b))] [] (.one (.d (.bool (sameF (fun x y => x == y) a b)))) [] := by
  refine enter tabOk Tryz.func124 rfl (by decide +kernel) rfl fun hok w0 σ0 φ0 M => ?_
  have h1 := hok.1.sl; have h2 := hok.2.1.sl; clear hok; simp only [List.length_map] at h1 h2; replace h1 := h1.1; replace h2 := h2.1
  repeat' (first | (show OkOps _ _ _ _ _ _; first | refine okops_nil ?_ | refine s_plain tabOk rfl rfl rfl rfl rfl ?_ | (show OkOps _ _ _ (Oper.mk _ (Op.binOp .add _ _ _ _) _ _ _ (_) :: _) _ _; first | refine s_e envOk rfl rfl rfl (step3_add rfl rfl rfl rfl (wrap64 (by omega) (by omega))) ?_ | fail) | fail) | (show OkC _ _ _ _ _; first | refine ok_seq ?_ | refine ok_region ?_ | refine ok_block ?_ | refine ok_skip ?_ | refine ok_ret ?_ | refine ok_exit ?_ | refine ok_cond rfl (fun h => ?_) (fun h => ?_) | refine ok_regionD progOk.mo ?_ | refine s_loop 4 rfl [(0, _), (1, _), (12, _)] (subL_cons rfl (subL_cons rfl (subL_cons rfl subL_nil))) (fun (k : Nat) => [(13, .one (.d (.int .i64 k)))]) (fun (k : Nat) => k ≤ a.length ∧ a.length = b.length ∧ sameF (fun x y => x == y) a b = sameGo (fun x y => x == y) (a.drop k) (b.drop k)) (fun (k : Nat) => a.length - k) 0 (subL_cons rfl subL_nil) ?_ (fun k ⟨hk, hq, hs⟩ => ?_) | fail) | (show thenQ _ _ _ _; first | refine then_n ?_ | refine then_r ?_ | refine then_x ?_ | fail) | (show blockQ _ _ _ _; first | refine block_n ?_ | refine block_r ?_ | refine block_x rfl ?_ | fail) | (show RetQ _ _ _ _ _ _; first | refine ret_leaf (.inl rfl) rfl rfl ?_ | fail) | (show DRun _ _ _ _ _ _ _ _; first | refine d_nil (by kernel_rfl) ?_ | refine d_e envOk rfl rfl rfl (step3_plain rfl rfl) ?_ | (show DRun _ _ _ _ (Oper.mk _ (Op.indexAddr _ _ _) _ _ _ (_) :: _) _ _ _; first | refine d_e envOk rfl rfl rfl (step3_idx rfl rfl rfl rfl rfl (by first | omega | ((try simp only [decide_eq_true_eq, decide_eq_false_iff_not, Bool.not_eq_true', Bool.not_true, Bool.not_false, List.length_map, List.length_set, bne_iff_ne, ne_eq, beq_iff_eq, bne_eq_false_iff_eq, beq_eq_false_iff_ne] at *); omega)) (at_map (by first | omega | ((try simp only [decide_eq_true_eq, decide_eq_false_iff_not, Bool.not_eq_true', Bool.not_true, Bool.not_false, List.length_map, List.length_set, bne_iff_ne, ne_eq, beq_iff_eq, bne_eq_false_iff_eq, beq_eq_false_iff_ne] at *); omega)))) ?_ | fail) | fail) | (show Exists _; first | refine Exists.intro (k + 1) ⟨?_, ?_, (by first | exact subL_nil | exact (subL_cons rfl subL_nil) | exact (subL_cons rfl (subL_cons rfl subL_nil)) | exact (subL_cons rfl (subL_cons rfl (subL_cons rfl subL_nil))) | exact (subL_cons rfl (subL_cons rfl (subL_cons rfl (subL_cons rfl subL_nil)))) | exact (subL_cons rfl (subL_cons rfl (subL_cons rfl (subL_cons rfl (subL_cons rfl subL_nil))))) | exact (subL_cons rfl (subL_cons rfl (subL_cons rfl (subL_cons rfl (subL_cons rfl (subL_cons rfl subL_nil)))))) | exact (subL_cons rfl (subL_cons rfl (subL_cons rfl (subL_cons rfl (subL_cons rfl (subL_cons rfl (subL_cons rfl subL_nil))))))) | exact (subL_cons rfl (subL_cons rfl (subL_cons rfl (subL_cons rfl (subL_cons rfl (subL_cons rfl (subL_cons rfl (subL_cons rfl subL_nil))))))))), (subL_cons rfl subL_nil), (subL_cons rfl (subL_cons rfl (subL_cons rfl subL_nil)))⟩ | fail) | fail)
  all_goals (try (((simp_all [sameF, sameGo, at_drop, List.drop_eq_nil_of_le]) <;> first | omega | (rw [Bool.eq_iff_iff]; simp; omega) | grind); done))
theorem c125 (a b : List Val) : CallA Tryz.prog 125 [.one (.d (encVals a)), .one (.d (encVals b))] [] (.one (.d (.bool (sameF eqVal a b)))) [] := by
  refine enter tabOk Tryz.func125 rfl (by decide +kernel) rfl fun hok w0 σ0 φ0 M => ?_
  have h1 := hok.1.sl; have h2 := hok.2.1.sl; clear hok; simp only [List.length_map] at h1 h2; replace h1 := h1.1; replace h2 := h2.1
  repeat' (first | (show OkOps _ _ _ _ _ _; first | refine okops_nil ?_ | refine s_plain tabOk rfl rfl rfl rfl rfl ?_ | (show OkOps _ _ _ (Oper.mk _ (Op.binOp .add _ _ _ _) _ _ _ (_) :: _) _ _; first | refine s_e envOk rfl rfl rfl (step3_add rfl rfl rfl rfl (wrap64 (by omega) (by omega))) ?_ | fail) | fail) | (show OkC _ _ _ _ _; first | refine ok_seq ?_ | refine ok_region ?_ | refine ok_block ?_ | refine ok_skip ?_ | refine ok_ret ?_ | refine ok_exit ?_ | refine ok_cond rfl (fun h => ?_) (fun h => ?_) | refine ok_regionD progOk.mo ?_ | refine s_loop 4 rfl [(0, _), (1, _), (12, _)] (subL_cons rfl (subL_cons rfl (subL_cons rfl subL_nil))) (fun (k : Nat) => [(13, .one (.d (.int .i64 k)))]) (fun (k : Nat) => k ≤ a.length ∧ a.length = b.length ∧ sameF eqVal a b = sameGo eqVal (a.drop k) (b.drop k)) (fun (k : Nat) => a.length - k) 0 (subL_cons rfl subL_nil) ?_ (fun k ⟨hk, hq, hs⟩ => ?_) | fail) | (show thenQ _ _ _ _; first | refine then_n ?_ | refine then_r ?_ | refine then_x ?_ | fail) | (show blockQ _ _ _ _; first | refine block_n ?_ | refine block_r ?_ | refine block_x rfl ?_ | fail) | (show RetQ _ _ _ _ _ _; first | refine ret_leaf (.inl rfl) rfl rfl ?_ | fail) | (show DRun _ _ _ _ _ _ _ _; first | refine d_nil (by kernel_rfl) ?_ | refine d_e envOk rfl rfl rfl (step3_plain rfl rfl) ?_ | (show DRun _ _ _ _ (Oper.mk _ (Op.indexAddr _ _ _) _ _ _ (_) :: _) _ _ _; first | refine d_e envOk rfl rfl rfl (step3_idx rfl rfl rfl rfl rfl (by first | omega | ((try simp only [decide_eq_true_eq, decide_eq_false_iff_not, Bool.not_eq_true', Bool.not_true, Bool.not_false, List.length_map, List.length_set, bne_iff_ne, ne_eq, beq_iff_eq, bne_eq_false_iff_eq, beq_eq_false_iff_ne] at *); omega)) (at_map (by first | omega | ((try simp only [decide_eq_true_eq, decide_eq_false_iff_not, Bool.not_eq_true', Bool.not_true, Bool.not_false, List.length_map, List.length_set, bne_iff_ne, ne_eq, beq_iff_eq, bne_eq_false_iff_eq, beq_eq_false_iff_ne] at *); omega)))) ?_ | fail) | refine d_e envOk rfl rfl rfl rfl ?_ | fail) | (show Exists _; first | refine Exists.intro (k + 1) ⟨?_, ?_, (by first | exact subL_nil | exact (subL_cons rfl subL_nil) | exact (subL_cons rfl (subL_cons rfl subL_nil)) | exact (subL_cons rfl (subL_cons rfl (subL_cons rfl subL_nil))) | exact (subL_cons rfl (subL_cons rfl (subL_cons rfl (subL_cons rfl subL_nil)))) | exact (subL_cons rfl (subL_cons rfl (subL_cons rfl (subL_cons rfl (subL_cons rfl subL_nil))))) | exact (subL_cons rfl (subL_cons rfl (subL_cons rfl (subL_cons rfl (subL_cons rfl (subL_cons rfl subL_nil)))))) | exact (subL_cons rfl (subL_cons rfl (subL_cons rfl (subL_cons rfl (subL_cons rfl (subL_cons rfl (subL_cons rfl subL_nil))))))) | exact (subL_cons rfl (subL_cons rfl (subL_cons rfl (subL_cons rfl (subL_cons rfl (subL_cons rfl (subL_cons rfl (subL_cons rfl subL_nil))))))))), (subL_cons rfl subL_nil), (subL_cons rfl (subL_cons rfl (subL_cons rfl subL_nil)))⟩ | fail) | fail)
  all_goals (try (((simp_all [sameF, sameGo, eqVal, encVal, eqDs, eqD, at_drop, List.drop_eq_nil_of_le]) <;> first | omega | (rw [Bool.eq_iff_iff]; simp; omega) | grind); done))
theorem c123 (x y : Cell) : CallA Tryz.prog 123 [.agg [.d (encInts x.at'), .d (encVals x.vals)], .agg [.d (encInts y.at'), .d (encVals y.vals)]] [] (.one (.d (.bool (eqCell x y)))) [] := by
  refine enter tabOk Tryz.func123 rfl (by decide +kernel) rfl fun hok w0 σ0 φ0 M => ?_
  clear hok
  repeat' (first | (show OkOps _ _ _ _ _ _; first | refine okops_nil ?_ | refine s_plain tabOk rfl rfl rfl rfl rfl ?_ | (show OkOps _ _ _ (Oper.mk _ (_) _ _ _ (some _) :: _) _ _; first | refine s_guard rfl rfl (by first | assumption | rfl) ?_ | refine s_out rfl rfl (by first | assumption | rfl) rfl rfl ?_ | refine s_split rfl rfl rfl rfl (fun h => ?_) (fun h => ?_) | fail) | (show OkOps _ _ _ (Oper.mk _ (Op.pick _ _ _) _ _ _ (_) :: _) _ _; first | refine s_e envOk rfl rfl rfl (step3_pickT rfl rfl (by first | rfl | assumption) rfl) ?_ | refine s_e envOk rfl rfl rfl (step3_pickF rfl rfl (by first | rfl | assumption) rfl) ?_ | fail) | (show OkOps _ _ _ (Oper.mk _ (Op.call _) _ _ _ (_) :: _) _ _; first | refine s_callF rfl rfl rfl rfl rfl rfl rfl rfl (c124 _ _) rfl ?_ | refine s_callF rfl rfl rfl rfl rfl rfl rfl rfl (c125 _ _) rfl ?_ | fail) | (show OkOps _ _ _ (Oper.mk _ (Op.box _ _) _ _ _ (_) :: _) _ _; first | refine s_box 0 rfl rfl rfl rfl rfl rfl ?_ | refine s_box 1 rfl rfl rfl rfl rfl rfl ?_ | fail) | fail) | (show OkC _ _ _ _ _; first | refine ok_seq ?_ | refine ok_region ?_ | refine ok_ret ?_ | fail) | (show thenQ _ _ _ _; first | refine then_n ?_ | fail) | (show RetQ _ _ _ _ _ _; first | refine ret_leaf (.inl rfl) rfl rfl ?_ | fail) | fail)
  all_goals (try (((simp_all [eqCell, at_drop, List.drop_eq_nil_of_le]) <;> first | omega | (rw [Bool.eq_iff_iff]; simp; omega) | grind); done))
theorem c122 (a b : List Cell) : CallA Tryz.prog 122 [.one (.d (encCells a)), .one (.d (encCells b)), .one (.d (.fn 123 []))] [] (.one (.d (.bool (sameF eqCell a b)))) [] := by
  refine enter tabOk Tryz.func122 rfl (by decide +kernel) rfl fun hok w0 σ0 φ0 M => ?_
  have h1 := hok.1.sl; have h2 := hok.2.1.sl; clear hok; simp only [List.length_map] at h1 h2; replace h1 := h1.1; replace h2 := h2.1
  repeat' (first | (show OkOps _ _ _ _ _ _; first | refine okops_nil ?_ | refine s_plain tabOk rfl rfl rfl rfl rfl ?_ | (show OkOps _ _ _ (Oper.mk _ (Op.binOp .add _ _ _ _) _ _ _ (_) :: _) _ _; first | refine s_e envOk rfl rfl rfl (step3_add rfl rfl rfl rfl (wrap64 (by omega) (by omega))) ?_ | fail) | (show OkOps _ _ _ (Oper.mk _ (Op.indexAddr _ _ _) _ _ _ (_) :: _) _ _; first | refine s_e envOk rfl rfl rfl (step3_idx rfl rfl rfl rfl rfl (by first | omega | ((try simp only [decide_eq_true_eq, decide_eq_false_iff_not, Bool.not_eq_true', Bool.not_true, Bool.not_false, List.length_map, List.length_set, bne_iff_ne, ne_eq, beq_iff_eq, bne_eq_false_iff_eq, beq_eq_false_iff_ne] at *); omega)) (at_map (by first | omega | ((try simp only [decide_eq_true_eq, decide_eq_false_iff_not, Bool.not_eq_true', Bool.not_true, Bool.not_false, List.length_map, List.length_set, bne_iff_ne, ne_eq, beq_iff_eq, bne_eq_false_iff_eq, beq_eq_false_iff_ne] at *); omega)))) ?_ | fail) | (show OkOps _ _ _ (Oper.mk _ (Op.call _) _ _ _ (_) :: _) _ _; first | refine s_callF rfl rfl rfl rfl rfl rfl rfl rfl (c123 _ _) rfl ?_ | fail) | (show OkOps _ _ _ (Oper.mk _ (Op.alloc _) _ _ _ (_) :: _) _ _; first | refine s_alloc tabOk 0 rfl rfl rfl rfl rfl ?_ | refine s_alloc tabOk 1 rfl rfl rfl rfl rfl ?_ | fail) | refine s_store envOk rfl rfl rfl ?_ | fail) | (show OkC _ _ _ _ _; first | refine ok_seq ?_ | refine ok_region ?_ | refine ok_block ?_ | refine ok_skip ?_ | refine ok_ret ?_ | refine ok_exit ?_ | refine ok_cond rfl (fun h => ?_) (fun h => ?_) | refine s_loop 4 rfl [(1, _), (2, _), (15, _), (16, _)] (subL_cons rfl (subL_cons rfl (subL_cons rfl (subL_cons rfl subL_nil)))) (fun (k : Nat) => [(17, .one (.d (.int .i64 k)))]) (fun (k : Nat) => k ≤ a.length ∧ a.length = b.length ∧ sameF eqCell a b = sameGo eqCell (a.drop k) (b.drop k)) (fun (k : Nat) => a.length - k) 0 (subL_cons rfl subL_nil) ?_ (fun k ⟨hk, hq, hs⟩ => ?_) | fail) | (show thenQ _ _ _ _; first | refine then_n ?_ | refine then_r ?_ | refine then_x ?_ | fail) | (show blockQ _ _ _ _; first | refine block_n ?_ | refine block_r ?_ | refine block_x rfl ?_ | fail) | (show RetQ _ _ _ _ _ _; first | refine ret_leaf (.inl rfl) rfl rfl ?_ | fail) | (show Exists _; first | refine Exists.intro (k + 1) ⟨?_, ?_, (by first | exact subL_nil | exact (subL_cons rfl subL_nil) | exact (subL_cons rfl (subL_cons rfl subL_nil)) | exact (subL_cons rfl (subL_cons rfl (subL_cons rfl subL_nil))) | exact (subL_cons rfl (subL_cons rfl (subL_cons rfl (subL_cons rfl subL_nil)))) | exact (subL_cons rfl (subL_cons rfl (subL_cons rfl (subL_cons rfl (subL_cons rfl subL_nil))))) | exact (subL_cons rfl (subL_cons rfl (subL_cons rfl (subL_cons rfl (subL_cons rfl (subL_cons rfl subL_nil)))))) | exact (subL_cons rfl (subL_cons rfl (subL_cons rfl (subL_cons rfl (subL_cons rfl (subL_cons rfl (subL_cons rfl subL_nil))))))) | exact (subL_cons rfl (subL_cons rfl (subL_cons rfl (subL_cons rfl (subL_cons rfl (subL_cons rfl (subL_cons rfl (subL_cons rfl subL_nil))))))))), (subL_cons rfl subL_nil), (subL_cons rfl (subL_cons rfl (subL_cons rfl (subL_cons rfl subL_nil))))⟩ | fail) | fail)
  all_goals (try (((simp_all [sameF, sameGo, at_drop, List.drop_eq_nil_of_le]) <;> first | omega | (rw [Bool.eq_iff_iff]; simp; omega) | grind); done))
def spSame (a b : Arr) : Bool := chkA a == 0 && (chkA b == 0 && (sameF eqDim a.dims b.dims && (sameF eqAttr a.attrs b.attrs && sameF eqCell a.cells b.cells)))
theorem c32 (a b : Arr) : CallA Tryz.prog 32 [aggA a, aggA b] [] (.one (.d (.bool (spSame a b)))) [] := by
  unfold aggA
  refine enter tabOk Tryz.func32 rfl (by decide +kernel) rfl fun hok w0 σ0 φ0 M => ?_
  clear hok
  repeat' (first | (show OkOps _ _ _ _ _ _; first | refine okops_nil ?_ | refine s_plain tabOk rfl rfl rfl rfl rfl ?_ | (show OkOps _ _ _ (Oper.mk _ (_) _ _ _ (some _) :: _) _ _; first | refine s_guard rfl rfl (by first | assumption | rfl) ?_ | refine s_out rfl rfl (by first | assumption | rfl) rfl rfl ?_ | refine s_split rfl rfl rfl rfl (fun h => ?_) (fun h => ?_) | fail) | (show OkOps _ _ _ (Oper.mk _ (Op.pick _ _ _) _ _ _ (_) :: _) _ _; first | refine s_e envOk rfl rfl rfl (step3_pickT rfl rfl (by first | rfl | assumption) rfl) ?_ | refine s_e envOk rfl rfl rfl (step3_pickF rfl rfl (by first | rfl | assumption) rfl) ?_ | fail) | (show OkOps _ _ _ (Oper.mk _ (Op.call _) _ _ _ (_) :: _) _ _; first | refine s_callF rfl rfl rfl rfl rfl rfl rfl rfl (c59 _ _ _) rfl ?_ | refine s_callF rfl rfl rfl rfl rfl rfl rfl rfl (c120 _ _) rfl ?_ | refine s_callF rfl rfl rfl rfl rfl rfl rfl rfl (c121 _ _) rfl ?_ | refine s_callF rfl rfl rfl rfl rfl rfl rfl rfl (c122 _ _) rfl ?_ | fail) | (show OkOps _ _ _ (Oper.mk _ (Op.box _ _) _ _ _ (_) :: _) _ _; first | refine s_box 0 rfl rfl rfl rfl rfl rfl ?_ | refine s_box 1 rfl rfl rfl rfl rfl rfl ?_ | fail) | fail) | (show OkC _ _ _ _ _; first | refine ok_seq ?_ | refine ok_region ?_ | refine ok_skip ?_ | refine ok_ret ?_ | refine ok_condT rfl ?_ | refine ok_cond rfl (fun h => ?_) (fun h => ?_) | fail) | (show thenQ _ _ _ _; first | refine then_n ?_ | refine then_r ?_ | fail) | (show RetQ _ _ _ _ _ _; first | refine ret_leaf (.inl rfl) rfl rfl ?_ | fail) | fail)
  all_goals (try (((simp_all [spSame, chkA, at_drop, List.drop_eq_nil_of_le]) <;> first | omega | (rw [Bool.eq_iff_iff]; simp; omega) | grind); done))
end Go.Proofs.YtpejdgkaapnekaaGreat
namespace Go.Proofs.YtpejdgkaapnekaaGreat
open Go Go.Abs
def hullD (d e : Dim) : Dim := ⟨d.name, min d.lo e.lo, max d.hi e.hi⟩
def hullDs (a b : List Dim) : List Dim := a.zipWith hullD b
def newC (l : List Cell) (c : Cell) : Bool := !(l.any fun x => x.at' == c.at')
def mrgF (a b : Arr) : Option Arr × Int :=
  if chkA a ≠ 0 ∨ chkA b ≠ 0 then (none, 2)
  else if !alikeF a.dims b.dims then (none, 13)
  else if !sameF eqAttr a.attrs b.attrs then (none, 12)
  else resF (hullDs a.dims b.dims) a.attrs (a.cells ++ b.cells.filter (newC a.cells))
def mrgA (a b : Arr) : Arr := ⟨hullDs a.dims b.dims, a.attrs, sortF (a.cells ++ b.cells.filter (newC a.cells))⟩
def hasC (l : List Cell) (t : List Int) : Prop := ∃ y ∈ l, y.at' = t
theorem newC_iff {l : List Cell} {c : Cell} : newC l c = true ↔ ¬ hasC l c.at' := by
  simp [newC, hasC]
theorem sorted_mem_eq : ∀ {l m : List Cell}, l.Pairwise ltC → m.Pairwise ltC → (∀ x, x ∈ l ↔ x ∈ m) → l = m
  | [], [], _, _, _ => rfl
  | [], y :: m, _, _, h => by have := (h y).2 List.mem_cons_self; simp at this
  | x :: l, [], _, _, h => by have := (h x).1 List.mem_cons_self; simp at this
  | x :: l, y :: m, h1, h2, h => by
    have h1' := List.pairwise_cons.1 h1
    have h2' := List.pairwise_cons.1 h2
    have hxy : x = y := by
      rcases List.mem_cons.1 ((h x).1 List.mem_cons_self) with e | hx
      · exact e
      rcases List.mem_cons.1 ((h y).2 List.mem_cons_self) with e | hy
      · exact e.symm
      exact (ltC_irrefl (ltC_trans (h1'.1 y hy) (h2'.1 x hx))).elim
    subst hxy
    rw [sorted_mem_eq h1'.2 h2'.2 fun z => ?_]
    constructor
    · intro hz
      rcases List.mem_cons.1 ((h z).1 (List.mem_cons_of_mem _ hz)) with e | hz'
      · subst e; exact (ltC_irrefl (h1'.1 _ hz)).elim
      · exact hz'
    · intro hz
      rcases List.mem_cons.1 ((h z).2 (List.mem_cons_of_mem _ hz)) with e | hz'
      · subst e; exact (ltC_irrefl (h2'.1 _ hz)).elim
      · exact hz'
theorem alike_iff {a b : List Dim} : alikeF a b = true ↔ a.map Dim.name = b.map Dim.name := by
  unfold alikeF
  rw [sameF_all]
  constructor
  · rintro ⟨h1, h2⟩
    refine at_ext (by simpa using h1) fun i hi => ?_
    have hi' : i < a.length := by simpa using hi
    rw [at_mapN hi', at_mapN (by omega)]
    simpa using h2 i hi'
  · intro h
    have hl : a.length = b.length := by simpa using congrArg List.length h
    refine ⟨hl, fun i hi => ?_⟩
    have := congrArg (fun l => at_ l i) h
    simp only [at_mapN hi, at_mapN (l := b) (i := i) (by omega)] at this
    simpa using this
structure Mrg (a b : Arr) : Prop where
  oka : OkA a.dims a.attrs a.cells
  okb : OkA b.dims b.attrs b.cells
  names : a.dims.map Dim.name = b.dims.map Dim.name
  attrs : a.attrs = b.attrs
section
variable {a b c : Arr}
theorem hull_len (h : Mrg a b) : (hullDs a.dims b.dims).length = a.dims.length := by
  have : a.dims.length = b.dims.length := by simpa using congrArg List.length h.names
  simp [hullDs]; omega
theorem Mrg.len (h : Mrg a b) : a.dims.length = b.dims.length := by simpa using congrArg List.length h.names
theorem hull_at (h : Mrg a b) {i : Nat} (hi : i < a.dims.length) : at_ (hullDs a.dims b.dims) i = hullD (at_ a.dims i) (at_ b.dims i) := at_zip hi (by rw [← h.len]; exact hi)
theorem hull_names (h : Mrg a b) : (hullDs a.dims b.dims).map Dim.name = a.dims.map Dim.name := by
  refine at_ext (by simp [hull_len h]) fun i hi => ?_
  have hi' : i < a.dims.length := by simpa [hull_len h] using hi
  rw [at_mapN (by rw [hull_len h]; exact hi'), at_mapN hi', hull_at h hi']
  rfl
theorem mrg_mem {x : Cell} : x ∈ (mrgA a b).cells ↔ x ∈ a.cells ∨ (x ∈ b.cells ∧ ¬ hasC a.cells x.at') := by
  show x ∈ sortF _ ↔ _
  rw [(sortF_perm _).mem_iff, List.mem_append, List.mem_filter, newC_iff]
theorem mrg_has {t : List Int} : hasC (mrgA a b).cells t ↔ hasC a.cells t ∨ hasC b.cells t := by
  constructor
  · rintro ⟨y, hy, rfl⟩
    rcases mrg_mem.1 hy with h | ⟨h, _⟩
    · exact .inl ⟨y, h, rfl⟩
    · exact .inr ⟨y, h, rfl⟩
  · intro h
    by_cases ha : hasC a.cells t
    · obtain ⟨y, hy, he⟩ := ha
      exact ⟨y, mrg_mem.2 (.inl hy), he⟩
    · rcases h with h | ⟨y, hy, rfl⟩
      · exact absurd h ha
      · exact ⟨y, mrg_mem.2 (.inr ⟨hy, ha⟩), rfl⟩
theorem mrg_diff (h : Mrg a b) : (a.cells ++ b.cells.filter (newC a.cells)).Pairwise diffC := by
  refine List.pairwise_append.2 ⟨diff_of_sorted h.oka.srt, (diff_of_sorted h.okb.srt).filter _, fun x hx y hy e => ?_⟩
  exact newC_iff.1 (List.mem_filter.1 hy).2 ⟨x, hx, e⟩
theorem mrg_sorted (h : Mrg a b) : (mrgA a b).cells.Pairwise ltC := sortF_sorted (mrg_diff h)
theorem mrg_len : (mrgA a b).cells.length ≤ a.cells.length + b.cells.length := by
  show (sortF _).length ≤ _
  rw [sortF_length, List.length_append]
  have := List.length_filter_le (newC a.cells) b.cells
  omega
theorem cell_hull (h : Mrg a b) {x : Cell} {ds : List Dim} (hl : ds.length = a.dims.length) (hx : cellF ds a.attrs x.at' x.vals = 0)
    (hd : ∀ i, i < a.dims.length → (hullD (at_ a.dims i) (at_ b.dims i)).lo ≤ (at_ ds i).lo ∧ (at_ ds i).hi ≤ (hullD (at_ a.dims i) (at_ b.dims i)).hi) : cellF (hullDs a.dims b.dims) a.attrs x.at' x.vals = 0 := by
  obtain ⟨h1, h2, h3, h4⟩ := cellF_ok.1 hx
  refine cellF_ok.2 ⟨by rw [hull_len h]; omega, h2, ?_, h4⟩
  rw [withinL_iff h1] at h3
  rw [withinL_iff (by rw [hull_len h]; omega)]
  intro i hi
  rw [hull_len h] at hi
  rw [hull_at h hi]
  have e1 := h3 i (by omega)
  have e2 := hd i hi
  unfold lastF at *
  omega
theorem mrg_ok (h : Mrg a b) (hn : (mrgA a b).cells.length ≤ 4096) : OkA (mrgA a b).dims (mrgA a b).attrs (mrgA a b).cells := by
  obtain ⟨a1, a2, a3, a4⟩ := h.oka.dims
  obtain ⟨b1, b2, b3, b4⟩ := h.okb.dims
  have hs := schemaF_ok h.oka.sch
  refine ⟨?_, hn, mrg_sorted h, fun x hx => ?_⟩
  · refine schemaF_mk (by show _ ≤ (hullDs _ _).length; rw [hull_len h]; exact a1) (by show (hullDs _ _).length ≤ _; rw [hull_len h]; exact a2) (fun d hd => ?_) (by show ((hullDs _ _).map _).Nodup; rw [hull_names h]; exact a4) hs.2.1 hs.2.2.1 (by show attrsGo ((hullDs _ _).map _) _ = 0; rw [hull_names h]; exact hs.2.2.2)
    obtain ⟨i, hi, rfl⟩ := at_ofmem hd
    have hi' : i < a.dims.length := by rw [← hull_len h]; exact hi
    show boundsF (at_ (hullDs a.dims b.dims) i).lo (at_ (hullDs a.dims b.dims) i).hi = true ∧ nameF (at_ (hullDs a.dims b.dims) i).name = true
    rw [hull_at h hi']
    obtain ⟨e1, e2⟩ := a3 i hi'
    obtain ⟨e3, _⟩ := b3 i (by rw [← h.len]; exact hi')
    refine ⟨boundsF_ok.2 ?_, e2⟩
    simp only [hullD]
    omega
  · show cellF (hullDs a.dims b.dims) a.attrs _ _ = 0
    rcases mrg_mem.1 hx with hx | ⟨hx, _⟩
    · exact cell_hull h rfl (h.oka.cel x hx) fun i hi => by simp only [hullD]; omega
    · refine cell_hull h h.len.symm (by rw [h.attrs]; exact h.okb.cel x hx) fun i hi => by simp only [hullD]; omega
theorem mrgF_ok (h : Mrg a b) (hn : a.cells.length + b.cells.length ≤ 4096) : mrgF a b = (some (mrgA a b), 0) := by
  unfold mrgF
  rw [if_neg (by unfold chkA; rw [okA_check h.oka, okA_check h.okb]; simp), if_neg (by rw [alike_iff.2 h.names]; simp), if_neg (by rw [(sameF_eq eqAttr_iff).2 h.attrs]; simp)]
  unfold resF
  have h1 := mrg_len (a := a) (b := b)
  refine (if_neg ?_).trans rfl
  have : (mrgA a b).cells.length = (a.cells ++ b.cells.filter (newC a.cells)).length := sortF_length _
  omega
theorem mrgF_no (hc : chkA a = 0) (hb : chkA b = 0) (h : ¬ Mrg a b) : ∃ e, mrgF a b = (none, e) ∧ e ≠ 0 := by
  unfold mrgF
  rw [if_neg (by rw [hc, hb]; simp)]
  by_cases h1 : alikeF a.dims b.dims = true
  · by_cases h2 : sameF eqAttr a.attrs b.attrs = true
    · exact absurd ⟨okA hc, okA hb, alike_iff.1 h1, (sameF_eq eqAttr_iff).1 h2⟩ h
    · exact ⟨12, by rw [if_neg (by simp [h1]), if_pos (by simpa using h2)], by decide⟩
  · exact ⟨13, by rw [if_pos (by simpa using h1)], by decide⟩
theorem Mrg.symm (h : Mrg a b) : Mrg b a := ⟨h.okb, h.oka, h.names.symm, h.attrs.symm⟩
theorem Mrg.left (h : Mrg a b) (h' : Mrg b c) (hn : a.cells.length + b.cells.length ≤ 4096) : Mrg (mrgA a b) c :=
  ⟨mrg_ok h (Nat.le_trans mrg_len hn), h'.okb, (hull_names h).trans (h.names.trans h'.names), h.attrs.trans h'.attrs⟩
theorem Mrg.right (h : Mrg a b) (h' : Mrg b c) (hn : b.cells.length + c.cells.length ≤ 4096) : Mrg a (mrgA b c) :=
  ⟨h.oka, mrg_ok h' (Nat.le_trans mrg_len hn), h.names.trans (hull_names h').symm, h.attrs⟩
theorem hull_self {l : List Dim} : hullDs l l = l := by
  refine at_ext (by simp [hullDs]) fun i hi => ?_
  have hi' : i < l.length := by simpa [hullDs] using hi
  unfold hullDs
  rw [at_zip hi' hi']
  exact Dim.ext rfl (by simp only [hullD]; omega) (by simp only [hullD]; omega)
theorem Arr.ext {x y : Arr} (h1 : x.dims = y.dims) (h2 : x.attrs = y.attrs) (h3 : x.cells = y.cells) : x = y := by cases x; cases y; simp_all
theorem mrg_self (h : OkA a.dims a.attrs a.cells) : mrgA a a = a := by
  refine Arr.ext hull_self rfl (sorted_mem_eq (mrg_sorted ⟨h, h, rfl, rfl⟩) h.srt fun x => ?_)
  rw [mrg_mem]
  constructor
  · rintro (hx | ⟨hx, _⟩) <;> exact hx
  · exact .inl
theorem mrg_assoc (h : Mrg a b) (h' : Mrg b c) (hn : a.cells.length + b.cells.length ≤ 4096) (hm : b.cells.length + c.cells.length ≤ 4096) : mrgA (mrgA a b) c = mrgA a (mrgA b c) := by
  have hl := Mrg.left h h' hn
  have hr := Mrg.right h h' hm
  refine Arr.ext ?_ rfl (sorted_mem_eq (mrg_sorted hl) (mrg_sorted hr) fun x => ?_)
  · show hullDs (hullDs a.dims b.dims) c.dims = hullDs a.dims (hullDs b.dims c.dims)
    have e1 := hull_len h
    have e2 := hull_len h'
    have e3 := h.len
    have e4 := h'.len
    refine at_ext (by simp [hullDs] <;> omega) fun i hi => ?_
    have hi' : i < a.dims.length := by
      have : i < (hullDs (hullDs a.dims b.dims) c.dims).length := hi
      simp only [hullDs, List.length_zipWith] at this
      omega
    unfold hullDs
    rw [at_zip (by simp; omega) (by omega), at_zip hi' (by omega), at_zip hi' (by simp; omega), at_zip (by omega) (by omega)]
    exact Dim.ext rfl (by simp only [hullD]; omega) (by simp only [hullD]; omega)
  · rw [mrg_mem, mrg_mem, mrg_mem, mrg_mem, mrg_has]
    constructor
    · rintro ((h1 | ⟨h1, h2⟩) | ⟨h1, h2⟩)
      · exact .inl h1
      · exact .inr ⟨.inl h1, h2⟩
      · exact .inr ⟨.inr ⟨h1, fun hb => h2 (.inr hb)⟩, fun ha => h2 (.inl ha)⟩
    · rintro (h1 | ⟨h1 | ⟨h1, h2⟩, h3⟩)
      · exact .inl (.inl h1)
      · exact .inl (.inr ⟨h1, h3⟩)
      · exact .inr ⟨h1, fun hb => hb.elim h3 h2⟩
theorem mrg_comm (h : Mrg a b) (hd : ∀ x ∈ b.cells, ¬ hasC a.cells x.at') : mrgA a b = mrgA b a := by
  refine Arr.ext ?_ h.attrs (sorted_mem_eq (mrg_sorted h) (mrg_sorted h.symm) fun x => ?_)
  · have e3 := h.len
    refine at_ext (by show (hullDs _ _).length = (hullDs _ _).length; rw [hull_len h, hull_len h.symm, e3]) fun i hi => ?_
    have hi' : i < a.dims.length := by rw [← hull_len h]; exact hi
    show at_ (hullDs a.dims b.dims) i = at_ (hullDs b.dims a.dims) i
    rw [hull_at h hi', hull_at h.symm (by omega)]
    have hnm : (at_ a.dims i).name = (at_ b.dims i).name := by
      have := congrArg (fun l => at_ l i) h.names
      simpa only [at_mapN hi', at_mapN (l := b.dims) (i := i) (by omega)] using this
    exact Dim.ext hnm (by simp only [hullD]; omega) (by simp only [hullD]; omega)
  · rw [mrg_mem, mrg_mem]
    constructor
    · rintro (h1 | ⟨h1, h2⟩)
      · refine .inr ⟨h1, fun ⟨y, hy, he⟩ => hd y hy ⟨x, h1, he.symm⟩⟩
      · exact .inl h1
    · rintro (h1 | ⟨h1, h2⟩)
      · exact .inr ⟨h1, hd x h1⟩
      · exact .inl h1
end
end Go.Proofs.YtpejdgkaapnekaaGreat
namespace Go.Abs
open Go
variable {P : Program} {c : Ctx} {σ σ' : Sig} {φ φ' : Pl} {w w' : World}
variable {V : Env} {T : Tab} {w0 : World} {σ0 : Sig} {φ0 : Pl} {M : Nat → Prop} {n : Nat} {rd : Option Nat} {mk : List Deferred} {ops : Array Oper} {o : Oper} {rest : List Oper} {fr : List (Nat × AV)} {sto : Sto} {K : St → Prop} {st st0 : St} {acc : List Tr}
theorem s_append (hT : TabOk P T) {d : Nat} {t t2 e e2 k b k2 b2 k' b' id m : Nat} {z z2 : List D} {x y : Operand} {v : AV} {xs ys zs : List (List D)}
    (ho : o.op = .call { callee := .builtin .append, args := #[x, y], argTypes := #[t, t2] }) (hg : o.guard = none) (hdst : o.dst = some d) (hd : Nat.blt d n = true) (ht : sliceTy T t = some (e, k, b, z)) (ht2 : sliceTy T t2 = some (e2, k2, b2, z2))
    (hlt : (Nat.blt id 1000000 || Nat.ble 2000000 id) = true) (hx : ev ⟨fr, sto⟩ x = some (.one (.own id m))) (hl : look sto id = some (.row k' b' xs)) (hkb : (Nat.beq k k' && Nat.beq b b') = true) (hy : ev ⟨fr, sto⟩ y = some v) (hs : srcOf ⟨fr, sto⟩ k v = some ys) (hzs : zs = xs.take m ++ ys)
    (hm : m ≤ 100000000) (hys : ys.length ≤ 100000) (hb : b ≤ 100)
    (h : OkOps P ⟨w0, σ0, φ0, M, n, rd, mk⟩ ops rest ⟨(d, .one (.own id (m + ys.length))) :: purFr id fr, setS id (.row k b zs) (purSto id sto)⟩ K) : OkOps P ⟨w0, σ0, φ0, M, n, rd, mk⟩ ops (o :: rest) ⟨fr, sto⟩ K := by
  have h47 : (m + ys.length) * b ≤ 2 ^ 47 := Nat.le_trans (Nat.mul_le_mul (show m + ys.length ≤ 200000000 by omega) hb) (by omega)
  exact okops_append hT ho hg (by rw [hdst]; exact hd) ht ht2 hlt hx hl hkb hy hs hzs (by omega) h47 (by rw [hdst]; exact h)
theorem imp_subS {s' : Sto} (h : SubL sto s') : Imp c ⟨fr, sto⟩ ⟨fr, s'⟩ := fun a w σ φ hr => ⟨σ, φ, hr.dropTo fun i e hi => h.look hi⟩
theorem s_callFS (dl : List Nat) {d : Nat} {fop : Operand} {args : Array Operand} {ats : Array TypeId} {f : FuncId} {caps : List D} {avs avs' : List AV} {rav : AV} {rsto : Sto} {os : List (Nat × AObj)}
    (ho : o.op = .call { callee := .value fop, args := args, argTypes := ats }) (hg : o.guard = none) (hdst : o.dst = some d) (hd : Nat.blt d n = true) (hos : objsL sto dl = some os) (hf : evS os ⟨fr, sto⟩ fop = some (.one (.d (.fn f caps))))
    (ha : evLS os ⟨fr, sto⟩ args.toList = some avs) (hD : avsD avs = true) (hap : (avs ++ caps.map fun x => .one (.d x)) = avs') (hC : CallA P f avs' [] rav rsto) (hfl : flatV rav = true)
    (h : OkOps P ⟨w0, σ0, φ0, M, n, rd, mk⟩ ops rest ⟨(d, rav) :: fr, sto⟩ K) : OkOps P ⟨w0, σ0, φ0, M, n, rd, mk⟩ ops (o :: rest) ⟨fr, sto⟩ K := by
  subst hap
  obtain ⟨ss, h1, h2⟩ := sealL_objs (st := ⟨fr, sto⟩) hos
  exact okops_callF ho hg (by rw [hdst]; exact hd) (imp_sealL h1) (by rw [h2]; exact hf) (by rw [evL_evLS h2]; exact ha) hD hC hfl (by rw [hdst]; exact h)
end Go.Abs
namespace Go.Abs
open Go
variable {P : Program} {c : Ctx} {T : Tab}
theorem okops_isNilS (hT : TabOk P T) {ops : Array Oper} {o : Oper} {rest : List Oper} {st : St} {K : St → Prop} {op : BinOp} {t ty : TypeId} {x y : Operand} {e : Bool} {k b : Nat} {xs : List (List D)}
    (ho : o.op = .binOp op t x y ty) (hop : isEql op = some e) (hg : o.guard = none) (hd : dstOk c.n o.dst = true) (ht : (isSliceT T t && isNilA (ev st y)) = true) (hx : ev st x = some (.one (.d (.sl k b xs))))
    (h : ∀ r : Bool, (r = true → xs = []) → OkOps P c ops rest ⟨putO o.dst (.one (.d (.bool (r == e)))) st.fr, st.sto⟩ K) : OkOps P c ops (o :: rest) st K :=
  okops_run hg fun a w σ φ hr => by
    rw [Bool.and_eq_true] at ht
    obtain ⟨el, hu⟩ := isSliceT_ok hT ht.1
    have hr1 : ∃ A n cap, a.eval x = .slice A n cap ∧ (A.isNone = true → xs = []) := by
      have h1 := RepC.d_inv (ev_rep hr hx)
      generalize a.eval x = u at h1
      cases h1 with
      | sl vs hc h48 hb hk hA hh =>
        refine ⟨_, _, _, rfl, fun hn => ?_⟩
        cases xs with
        | nil => rfl
        | cons z zs =>
          obtain ⟨B, o, cells, rfl, _⟩ := hA (by simp)
          simp at hn
    obtain ⟨A, n, cap, hx, hA⟩ := hr1
    have hy : a.eval y = .slice none 0 0 := by
      have h2 := ht.2
      unfold isNilA at h2
      split at h2
      · rename_i hy
        have h1 := RepC.d_inv (ev_rep hr hy)
        generalize a.eval y = u at h1
        cases h1; rfl
      · cases h2
    refine ⟨.bool (A.isNone == e), w, _, σ, φ, ?_, hr.put (v := .one (.d (.bool (A.isNone == e)))) hd (RepC.d .bool), h _ hA⟩
    cases op <;> simp only [isEql, Option.some.injEq, reduceCtorEq] at hop <;> subst hop
    · simp [execOp, ho, hx, hy, eqGuard_quiet, Lib.run_eql_slice_nil _ _ _ _ _ _ _ _ hu]
    · simp [execOp, ho, hx, hy, eqGuard_quiet, run_neq_slice_nil_any _ _ _ _ _ _ _ _ hu]
variable {w0 : World} {σ0 : Sig} {φ0 : Pl} {fr : List (Nat × AV)} {sto : Sto}
theorem imp_adoptJ (i j0 id : Nat) {k b : Nat} {cs : List AC} (hl : look sto i = some (.box cs)) (hc : cs[j0]? = some (.d .nil)) (hlt : (Nat.blt id 1000000 && (!frMen id fr && !stoMen id sto && !hasK sto id)) = true) : Imp c ⟨fr, sto⟩ ⟨fr, (id, .row k b []) :: setS i (.box (cs.set j0 (.own id 0))) sto⟩ := by
  simp only [Bool.and_eq_true, Bool.not_eq_true', Nat.blt_eq] at hlt
  obtain ⟨h1, ⟨h2, h3⟩, h4⟩ := hlt
  intro a w σ φ hr
  have hn := hr.nilRow (id := id) (k := k) (b := b) (by simpa using h1) h2 h3
  have hne : id ≠ i := by rintro rfl; simp [hasK, hl] at h4
  have hE : Ext (fun _ => False) (updP φ id none) (updP φ id none) ((id, .row k b []) :: sto) ((id, .row k b []) :: setS i (.box (cs.set j0 (.own id 0))) sto) := by
    intro j _
    cases hj : look ((id, AObj.row k b []) :: setS i (.box (cs.set j0 (.own id 0))) sto) j with
    | none => exact .inl rfl
    | some e =>
      refine .inr ?_
      rcases look_cons hj with ⟨rfl, rfl⟩ | ⟨hne2, hj2⟩
      · exact ⟨_, look_self, rfl, _, rfl, compat.refl _⟩
      · rw [look_setS] at hj2
        rcases look_cons hj2 with ⟨rfl, rfl⟩ | ⟨_, hj3⟩
        · exact ⟨.box cs, by rw [look_ne hne2]; exact hl, rfl, .box (cs.set j0 (.own id 0)), rfl, trivial⟩
        · exact ⟨_, by rw [look_ne hne2]; exact hj3, rfl, _, rfl, compat.refl _⟩
  have hold : ∀ {j e}, look ((id, AObj.row k b []) :: setS i (.box (cs.set j0 (.own id 0))) sto) j = some e → (j = i ∧ e = .box (cs.set j0 (.own id 0))) ∨ look ((id, AObj.row k b []) :: sto) j = some e := by
    intro j e hj
    rcases look_cons hj with ⟨rfl, rfl⟩ | ⟨hne2, hj2⟩
    · exact .inr look_self
    · rw [look_setS] at hj2
      rcases look_cons hj2 with ⟨rfl, rfl⟩ | ⟨_, hj3⟩
      · exact .inl ⟨rfl, rfl⟩
      · exact .inr (by rw [look_ne hne2]; exact hj3)
  have hi : look ((id, AObj.row k b []) :: sto) i = some (.box cs) := by rw [look_ne (fun e => hne e.symm)]; exact hl
  refine ⟨σ, _, hn.le, hn.fresh, ⟨hn.inv.sig, fun j e hj => ?_, fun j j' e e' p p' hj hj' hne2 hp hp' => ?_⟩, fun j e p hj hp => ?_, fun s v hv => ?_, hn.defers, hn.size, hn.fra, hn.pin⟩
  · rcases hold hj with ⟨rfl, rfl⟩ | hj2
    · obtain ⟨B, cc, vs, t, h5, h6, h7, h8⟩ := hn.inv.obj _ _ hi
      refine ⟨B, cc, vs, t, h5, h6, All2.of_get (by rw [List.length_set]; exact h7.length) fun m x u hx hu => ?_, h8⟩
      by_cases hm : j0 = m
      · subst hm
        have hlt : j0 < cs.length := (List.getElem?_eq_some_iff.1 hc).1
        rw [List.getElem?_set_self hlt] at hx
        cases hx
        obtain ⟨u', hu', hr9⟩ := h7.get hc
        rw [hu] at hu'; cases hu'
        replace hr9 := RepC.d_inv hr9
        cases hr9
        exact .ownNil look_self updP_self
      · rw [List.getElem?_set_ne hm] at hx
        obtain ⟨u', hu', hr9⟩ := h7.get hx
        rw [hu] at hu'; cases hu'
        exact hr9.ext (Sig.le_refl _) hE fun j hj => hj.elim
    · exact (hn.inv.obj _ _ hj2).ext (X := fun _ => False) (Sig.le_refl _) hE (fun j hj => hj.elim) rfl fun _ _ _ => ⟨rfl, rfl⟩
  · have h5 : ∀ {j e}, look ((id, AObj.row k b []) :: setS i (.box (cs.set j0 (.own id 0))) sto) j = some e → ∃ e0, look ((id, AObj.row k b []) :: sto) j = some e0 := by
      intro j e hj
      rcases hold hj with ⟨rfl, rfl⟩ | hj2
      · exact ⟨_, hi⟩
      · exact ⟨_, hj2⟩
    obtain ⟨_, h6⟩ := h5 hj
    obtain ⟨_, h7⟩ := h5 hj'
    exact hn.inv.inj _ _ _ _ _ _ h6 h7 hne2 hp hp'
  · rcases hold hj with ⟨rfl, rfl⟩ | hj2
    · exact hn.mine _ _ _ hi hp
    · exact hn.mine _ _ _ hj2 hp
  · obtain ⟨u, hu, hru⟩ := hn.slot s v hv
    exact ⟨u, hu, hru.ext (Sig.le_refl _) hE fun j hj => hj.elim⟩
theorem step3_append {V : Env} {st : St} {o : Oper} {id i n k b k' b' : Nat} {t t2 : TypeId} {x y : Operand} {v : AV} {xs ys : List (List D)} {e : TypeId} {z : List D} {q : TypeId × Nat × Nat × List D}
    (ho : o.op = .call { callee := .builtin .append, args := ⟨[x, y]⟩, argTypes := ⟨[t, t2]⟩ }) (ht : sliceTy V.T t = some (e, k, b, z)) (ht2 : sliceTy V.T t2 = some q) (hx : ev st x = some (.one (.own i n))) (hl : look st.sto i = some (.row k' b' xs))
    (hkb : (Nat.beq k k' && Nat.beq b b') = true) (hy : ev st y = some v) (hs : srcOf st k v = some ys) (h1 : n + ys.length ≤ 1000000000) (h2 : (n + ys.length) * b ≤ 100000000000) :
    step3 V st o id = some ⟨.one (.own id (n + ys.length)), [(id, some (.row k b (xs.take n ++ ys))), (i, none)], [id]⟩ := by
  obtain ⟨q1, q2, q3, q4⟩ := q
  have e1 : Nat.ble (n + ys.length) 1000000000 = true := by simpa using h1
  have e2 : Nat.ble ((n + ys.length) * b) 100000000000 = true := by simpa using h2
  simp only [step3, stepE, valF, ho, otherE, appV, hx, hy, ht, ht2, hl, hs, hkb, e1, e2, cond_true, Bool.and_self, builtinF, List.map_cons, List.map_nil]
end Go.Abs
namespace Go.Proofs.YtpejdgkaapnekaaGreat
open Go Go.Abs
attribute [local irreducible] OkOps OkC DRun thenQ blockQ RetQ
set_option maxRecDepth 10000
theorem c129 (l : List Int) : CallA Tryz.prog 129 [.one (.d (encInts l))] [] (.one (.d (encInts l))) [] := by
  refine enter tabOk Tryz.func129 rfl (by decide +kernel) rfl fun hok w0 σ0 φ0 M => ?_
  have h1 := hok.1.sl; clear hok; simp only [List.length_map] at h1
  repeat' (first | (show OkOps _ _ _ _ _ _; first | (show OkOps _ _ _ (Oper.mk _ (Op.binOp .eql _ _ _ _) _ _ _ (_) :: _) _ _; first | refine okops_isNilS tabOk rfl rfl rfl rfl rfl rfl (fun r hr => ?_) | fail) | (show OkOps _ _ _ (Oper.mk _ (Op.call _) _ _ _ (_) :: _) _ _; first | refine okops_append tabOk rfl rfl rfl rfl rfl (id := 0) rfl rfl rfl rfl rfl rfl rfl (by simp only [List.length_map, Nat.zero_add]; omega) (by simp only [List.length_map, Nat.zero_add]; omega) ?_ | fail) | refine okops_nil ?_ | refine s_plain tabOk rfl rfl rfl rfl rfl ?_ | refine s_new envOk 0 rfl rfl rfl rfl rfl rfl ?_ | fail) | (show OkC _ _ _ _ _; first | refine okc_imp (imp_sealL (dl := [0]) rfl) (ok_ret ?_) | refine okc_imp (imp_nil (s := 2) (k := 1) (b := 8) rfl) (ok_ret ?_) | refine ok_seq ?_ | refine ok_region ?_ | refine ok_skip ?_ | refine ok_cond rfl (fun h => ?_) (fun h => ?_) | fail) | (show thenQ _ _ _ _; first | refine then_n ?_ | refine then_r ?_ | fail) | (show RetQ _ _ _ _ _ _; first | refine ret_leaf (.inl rfl) rfl rfl ?_ | fail) | fail)
  · have e := hr (by simpa using h)
    simp only [encInts, e]
  · simp only [sealC, encInts, List.length_map, Nat.zero_add, List.take_nil, List.nil_append]
    exact congrArg (fun x => AV.one (AC.d (D.sl _ _ x))) (List.take_of_length_le (by simp))
theorem c144 (l : List Val) : CallA Tryz.prog 144 [.one (.d (encVals l))] [] (.one (.d (encVals l))) [] := by
  refine enter tabOk Tryz.func144 rfl (by decide +kernel) rfl fun hok w0 σ0 φ0 M => ?_
  have h1 := hok.1.sl; clear hok; simp only [List.length_map] at h1
  repeat' (first | (show OkOps _ _ _ _ _ _; first | (show OkOps _ _ _ (Oper.mk _ (Op.binOp .eql _ _ _ _) _ _ _ (_) :: _) _ _; first | refine okops_isNilS tabOk rfl rfl rfl rfl rfl rfl (fun r hr => ?_) | fail) | (show OkOps _ _ _ (Oper.mk _ (Op.call _) _ _ _ (_) :: _) _ _; first | refine okops_append tabOk rfl rfl rfl rfl rfl (id := 0) rfl rfl rfl rfl rfl rfl rfl (by simp only [List.length_map, Nat.zero_add]; omega) (by simp only [List.length_map, Nat.zero_add]; omega) ?_ | fail) | refine okops_nil ?_ | refine s_plain tabOk rfl rfl rfl rfl rfl ?_ | refine s_new envOk 0 rfl rfl rfl rfl rfl rfl ?_ | fail) | (show OkC _ _ _ _ _; first | refine okc_imp (imp_sealL (dl := [0]) rfl) (ok_ret ?_) | refine okc_imp (imp_nil (s := 2) (k := 4) (b := 40) rfl) (ok_ret ?_) | refine ok_seq ?_ | refine ok_region ?_ | refine ok_skip ?_ | refine ok_cond rfl (fun h => ?_) (fun h => ?_) | fail) | (show thenQ _ _ _ _; first | refine then_n ?_ | refine then_r ?_ | fail) | (show RetQ _ _ _ _ _ _; first | refine ret_leaf (.inl rfl) rfl rfl ?_ | fail) | fail)
  · have e := hr (by simpa using h)
    simp only [encVals, e]
  · simp only [sealC, encVals, List.length_map, Nat.zero_add, List.take_nil, List.nil_append]
    exact congrArg (fun x => AV.one (AC.d (D.sl _ _ x))) (List.take_of_length_le (by simp))
theorem c97 (l : List Dim) : CallA Tryz.prog 97 [.one (.d (encDims l))] [] (.one (.d (encDims l))) [] := by
  refine enter tabOk Tryz.func97 rfl (by decide +kernel) rfl fun hok w0 σ0 φ0 M => ?_
  have h1 := hok.1.sl; clear hok; simp only [List.length_map] at h1
  repeat' (first | (show OkOps _ _ _ _ _ _; first | (show OkOps _ _ _ (Oper.mk _ (Op.binOp .eql _ _ _ _) _ _ _ (_) :: _) _ _; first | refine okops_isNilS tabOk rfl rfl rfl rfl rfl rfl (fun r hr => ?_) | fail) | (show OkOps _ _ _ (Oper.mk _ (Op.call _) _ _ _ (_) :: _) _ _; first | refine okops_append tabOk rfl rfl rfl rfl rfl (id := 0) rfl rfl rfl rfl rfl rfl rfl (by simp only [List.length_map, Nat.zero_add]; omega) (by simp only [List.length_map, Nat.zero_add]; omega) ?_ | fail) | refine okops_nil ?_ | refine s_plain tabOk rfl rfl rfl rfl rfl ?_ | refine s_new envOk 0 rfl rfl rfl rfl rfl rfl ?_ | fail) | (show OkC _ _ _ _ _; first | refine okc_imp (imp_sealL (dl := [0]) rfl) (ok_ret ?_) | refine okc_imp (imp_nil (s := 2) (k := 3) (b := 32) rfl) (ok_ret ?_) | refine ok_seq ?_ | refine ok_region ?_ | refine ok_skip ?_ | refine ok_cond rfl (fun h => ?_) (fun h => ?_) | fail) | (show thenQ _ _ _ _; first | refine then_n ?_ | refine then_r ?_ | fail) | (show RetQ _ _ _ _ _ _; first | refine ret_leaf (.inl rfl) rfl rfl ?_ | fail) | fail)
  · have e := hr (by simpa using h)
    simp only [encDims, e]
  · simp only [sealC, encDims, List.length_map, Nat.zero_add, List.take_nil, List.nil_append]
    exact congrArg (fun x => AV.one (AC.d (D.sl _ _ x))) (List.take_of_length_le (by simp))
theorem c145 (l : List Attr) : CallA Tryz.prog 145 [.one (.d (encAttrs l))] [] (.one (.d (encAttrs l))) [] := by
  refine enter tabOk Tryz.func145 rfl (by decide +kernel) rfl fun hok w0 σ0 φ0 M => ?_
  have h1 := hok.1.sl; clear hok; simp only [List.length_map] at h1
  repeat' (first | (show OkOps _ _ _ _ _ _; first | (show OkOps _ _ _ (Oper.mk _ (Op.binOp .eql _ _ _ _) _ _ _ (_) :: _) _ _; first | refine okops_isNilS tabOk rfl rfl rfl rfl rfl rfl (fun r hr => ?_) | fail) | (show OkOps _ _ _ (Oper.mk _ (Op.call _) _ _ _ (_) :: _) _ _; first | refine okops_append tabOk rfl rfl rfl rfl rfl (id := 0) rfl rfl rfl rfl rfl rfl rfl (by simp only [List.length_map, Nat.zero_add]; omega) (by simp only [List.length_map, Nat.zero_add]; omega) ?_ | fail) | refine okops_nil ?_ | refine s_plain tabOk rfl rfl rfl rfl rfl ?_ | refine s_new envOk 0 rfl rfl rfl rfl rfl rfl ?_ | fail) | (show OkC _ _ _ _ _; first | refine okc_imp (imp_sealL (dl := [0]) rfl) (ok_ret ?_) | refine okc_imp (imp_nil (s := 2) (k := 2) (b := 24) rfl) (ok_ret ?_) | refine ok_seq ?_ | refine ok_region ?_ | refine ok_skip ?_ | refine ok_cond rfl (fun h => ?_) (fun h => ?_) | fail) | (show thenQ _ _ _ _; first | refine then_n ?_ | refine then_r ?_ | fail) | (show RetQ _ _ _ _ _ _; first | refine ret_leaf (.inl rfl) rfl rfl ?_ | fail) | fail)
  · have e := hr (by simpa using h)
    simp only [encAttrs, e]
  · simp only [sealC, encAttrs, List.length_map, Nat.zero_add, List.take_nil, List.nil_append]
    exact congrArg (fun x => AV.one (AC.d (D.sl _ _ x))) (List.take_of_length_le (by simp))
end Go.Proofs.YtpejdgkaapnekaaGreat
