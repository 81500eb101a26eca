import Derived.LoopNIn
import Derived.Laws.RangeAny
import Derived.Test.YtpejdgkaapnekaaGreatRows
import Derived.Deep.Slices
import Derived.Deep.DeepHandedRow
import Derived.ReadAgain
import Derived.MapPlaces
import Derived.WalkKit
import Derived.ProofKit
import Derived.OpenShut
import Derived.JoinedCond
import Derived.Shelf.SlSortCmp.WholeK
import Derived.Shelf.SlSortCmp.NoneTotal
import Derived.Test.YtpejdgkaapnekaaGreatPb
import Derived.Test.YtpejdgkaapnekaaGreatP2
import Derived.Test.YtpejdgkaapnekaaGreatTab
set_option linter.unusedVariables false
set_option linter.unusedSimpArgs false
namespace Go.Proofs.YtpejdgkaapnekaaGreat
open Go Go.Abs
attribute [local irreducible] OkOps OkC DRun thenQ blockQ RetQ
set_option maxRecDepth 10000
def letterF (c : Nat) : Bool := decide (97 ≤ c) && decide (c ≤ 122)
def furtherF (c : Nat) : Bool := letterF c || (decide (48 ≤ c) && decide (c ≤ 57)) || decide (c = 95)
def nameF (s : List UInt8) : Bool := decide (1 ≤ s.length) && decide (s.length ≤ 12) && letterF (at_ s 0).toNat && s.all (fun c => furtherF c.toNat)
end Go.Proofs.YtpejdgkaapnekaaGreat
namespace Go.Proofs.YtpejdgkaapnekaaGreat
open Go Go.Abs
attribute [local irreducible] OkOps OkC DRun thenQ blockQ RetQ
set_option maxRecDepth 10000
structure Dim where
  name : List UInt8
  lo : Int
  hi : Int
  deriving Inhabited
structure Attr where
  name : List UInt8
  type : Int
  deriving Inhabited
def encDim (d : Dim) : List D := [.str d.name, .int .i64 d.lo, .int .i64 d.hi]
def encDims (l : List Dim) : D := .sl 3 32 (l.map encDim)
def encAttr (a : Attr) : List D := [.str a.name, .int .i64 a.type]
def encAttrs (l : List Attr) : D := .sl 2 24 (l.map encAttr)
def encInt (n : Int) : List D := [.int .i64 n]
def encInts (l : List Int) : D := .sl 1 8 (l.map encInt)
def lastF (hi : Int) : Int := min hi 1073741824
theorem c247 (nm : List UInt8) (lo hi : Int) : CallA Tryz.prog 247 [.agg [.d (.str nm), .d (.int .i64 lo), .d (.int .i64 hi)]] [] (.one (.d (.int .i64 (lastF hi)))) [] := by
  refine enter tabOk Tryz.func247 rfl (by decide +kernel) rfl fun hok w0 σ0 φ0 M => ?_
  repeat' (first | (show OkOps _ _ _ _ _ _; first | refine okops_nil ?_ | refine s_plain tabOk rfl rfl rfl rfl rfl ?_ | (show OkOps _ _ _ (Oper.mk _ (Op.box _ _) _ _ _ (_) :: _) _ _; first | refine s_box 0 rfl rfl rfl rfl rfl rfl ?_ | fail) | fail) | (show OkC _ _ _ _ _; first | refine ok_seq ?_ | refine ok_region ?_ | refine ok_ret ?_ | fail) | (show thenQ _ _ _ _; first | refine then_n ?_ | fail) | (show RetQ _ _ _ _ _ _; first | refine ret_leaf (.inl rfl) rfl rfl ?_ | fail) | fail)
  all_goals (try (((simp_all [lastF, at_drop, List.drop_eq_nil_of_le]) <;> first | omega | (rw [Bool.eq_iff_iff]; simp; omega) | grind); done))
def boundsF (lo hi : Int) : Bool := decide (-1073741824 ≤ lo) && decide (lo ≤ 1073741824) && decide (lo ≤ hi) && decide (hi ≤ 1073741825)
def withinL : List Dim → List Int → Bool
  | d :: ds, x :: xs => decide (d.lo ≤ x) && decide (x ≤ lastF d.hi) && withinL ds xs
  | _, _ => true
def ofF (ds : List Dim) (at' : List Int) : Bool := decide (at'.length = ds.length) && withinL ds at'
def dimsGo : List (List UInt8) → List Dim → Int
  | _, [] => 0
  | met, d :: r => if !nameF d.name || met.contains d.name then 11 else if !boundsF d.lo d.hi then 3 else dimsGo (met ++ [d.name]) r
def dimsF (ds : List Dim) : Int := if (ds.length : Int) < 1 ∨ 4 < (ds.length : Int) then 13 else dimsGo [] ds
def attrsGo : List (List UInt8) → List Attr → Int
  | _, [] => 0
  | met, a :: r => if !nameF a.name || met.contains a.name then 11 else if a.type < 1 ∨ 4 < a.type then 12 else attrsGo (met ++ [a.name]) r
def schemaF (ds : List Dim) (ats : List Attr) : Int := if dimsF ds ≠ 0 then dimsF ds else if (ats.length : Int) < 1 ∨ 6 < (ats.length : Int) then 9 else attrsGo (ds.map Dim.name) ats
end Go.Proofs.YtpejdgkaapnekaaGreat
namespace Go.Proofs.YtpejdgkaapnekaaGreat
open Go Go.Abs
attribute [local irreducible] OkOps OkC DRun thenQ blockQ RetQ
set_option maxRecDepth 10000
structure Val where
  kind : Int
  num : Int
  den : Int
  str : List UInt8
  deriving Inhabited
def encVal (v : Val) : List D := [.int .i64 v.kind, .int .i64 v.num, .int .i64 v.den, .str v.str]
def encVals (l : List Val) : D := .sl 4 40 (l.map encVal)
def plainF (d : Int) (s : List UInt8) : Bool := d == 0 && s == []
theorem c279 (k n d : Int) (s : List UInt8) : CallA Tryz.prog 279 [.agg [.d (.int .i64 k), .d (.int .i64 n), .d (.int .i64 d), .d (.str s)]] [] (.one (.d (.bool (plainF d s)))) [] := by
  refine enter tabOk Tryz.func279 rfl (by decide +kernel) rfl fun hok w0 σ0 φ0 M => ?_
  repeat' (first | (show OkOps _ _ _ _ _ _; first | refine okops_nil ?_ | refine s_plain tabOk rfl rfl rfl rfl rfl ?_ | (show OkOps _ _ _ (Oper.mk _ (_) _ _ _ (some _) :: _) _ _; first | refine s_guard rfl rfl (by first | assumption | rfl) ?_ | refine s_out rfl rfl (by first | assumption | rfl) rfl rfl ?_ | refine s_split rfl rfl rfl rfl (fun h => ?_) (fun h => ?_) | fail) | (show OkOps _ _ _ (Oper.mk _ (Op.pick _ _ _) _ _ _ (_) :: _) _ _; first | refine s_e envOk rfl rfl rfl (step3_pickT rfl rfl (by first | rfl | assumption) rfl) ?_ | refine s_e envOk rfl rfl rfl (step3_pickF rfl rfl (by first | rfl | assumption) rfl) ?_ | fail) | (show OkOps _ _ _ (Oper.mk _ (Op.box _ _) _ _ _ (_) :: _) _ _; first | refine s_box 0 rfl rfl rfl rfl rfl rfl ?_ | fail) | fail) | (show OkC _ _ _ _ _; first | refine ok_seq ?_ | refine ok_region ?_ | refine ok_ret ?_ | fail) | (show thenQ _ _ _ _; first | refine then_n ?_ | fail) | (show RetQ _ _ _ _ _ _; first | refine ret_leaf (.inl rfl) rfl rfl ?_ | fail) | fail)
  all_goals (try (((simp_all [plainF, at_drop, List.drop_eq_nil_of_le]) <;> first | omega | (rw [Bool.eq_iff_iff]; simp; omega) | grind); done))
theorem c280 (a b : Nat) : CallA Tryz.prog 280 [.one (.d (.int .i64 a)), .one (.d (.int .i64 b))] [] (.one (.d (.int .i64 (Nat.gcd a b)))) [] := by
  refine enter tabOk Tryz.func280 rfl (by decide +kernel) rfl fun hok w0 σ0 φ0 M => ?_
  repeat' (first | (show OkOps _ _ _ _ _ _; first | refine okops_nil ?_ | refine s_plain tabOk rfl rfl rfl rfl rfl ?_ | fail) | (show OkC _ _ _ _ _; first | refine ok_seq ?_ | refine ok_region ?_ | refine ok_block ?_ | refine ok_skip ?_ | refine ok_ret ?_ | refine ok_exit ?_ | refine ok_cond rfl (fun h => ?_) (fun h => ?_) | refine ok_regionD progOk.mo ?_ | refine s_loop 1 rfl [] subL_nil (fun (p : Nat × Nat) => [(0, .one (.d (.int .i64 (p.1 : Int)))), (1, .one (.d (.int .i64 (p.2 : Int))))]) (fun (p : Nat × Nat) => Nat.gcd p.1 p.2 = Nat.gcd a b) (fun (p : Nat × Nat) => p.2) (a, b) (subL_cons rfl (subL_cons rfl subL_nil)) ?_ (fun p hg => ?_) | fail) | (show thenQ _ _ _ _; first | refine then_n ?_ | refine then_x ?_ | fail) | (show blockQ _ _ _ _; first | refine block_n ?_ | refine block_x rfl ?_ | fail) | (show RetQ _ _ _ _ _ _; first | refine ret_leaf (.inl rfl) rfl rfl ?_ | fail) | (show DRun _ _ _ _ _ _ _ _; first | refine d_nil (by kernel_rfl) ?_ | refine d_e envOk rfl rfl rfl (step3_plain rfl rfl) ?_ | (show DRun _ _ _ _ (Oper.mk _ (Op.binOp .rem _ _ _ _) _ _ _ (_) :: _) _ _ _; first | refine d_e envOk rfl rfl rfl (step3_rem rfl rfl rfl rfl (by first | omega | ((try simp only [decide_eq_true_eq, decide_eq_false_iff_not, Bool.not_eq_true', Bool.not_true, Bool.not_false, List.length_map, List.length_set, bne_iff_ne, ne_eq, beq_iff_eq, bne_eq_false_iff_eq, beq_eq_false_iff_ne] at *); omega))) ?_ | fail) | fail) | (show Exists _; first | refine Exists.intro ((p.2, p.1 % p.2)) ⟨?_, ?_, (by first | exact subL_nil | exact (subL_cons rfl subL_nil) | exact (subL_cons rfl (subL_cons rfl subL_nil)) | exact (subL_cons rfl (subL_cons rfl (subL_cons rfl subL_nil))) | exact (subL_cons rfl (subL_cons rfl (subL_cons rfl (subL_cons rfl subL_nil)))) | exact (subL_cons rfl (subL_cons rfl (subL_cons rfl (subL_cons rfl (subL_cons rfl subL_nil))))) | exact (subL_cons rfl (subL_cons rfl (subL_cons rfl (subL_cons rfl (subL_cons rfl (subL_cons rfl subL_nil)))))) | exact (subL_cons rfl (subL_cons rfl (subL_cons rfl (subL_cons rfl (subL_cons rfl (subL_cons rfl (subL_cons rfl subL_nil))))))) | exact (subL_cons rfl (subL_cons rfl (subL_cons rfl (subL_cons rfl (subL_cons rfl (subL_cons rfl (subL_cons rfl (subL_cons rfl subL_nil))))))))), (subL_cons rfl (subL_cons rfl subL_nil)), subL_nil⟩ | fail) | fail)
  all_goals (try (((simp_all [at_drop, List.drop_eq_nil_of_le]) <;> first | omega | (rw [Bool.eq_iff_iff]; simp; omega) | grind); done))
  · have h' : p.2 ≠ 0 := by simpa using h
    show Nat.gcd p.2 (p.1 % p.2) = _
    rw [Nat.gcd_comm, ← Nat.gcd_rec, Nat.gcd_comm]; exact hg
  · have h' : p.2 ≠ 0 := by simpa using h
    exact Nat.mod_lt _ (by omega)
end Go.Proofs.YtpejdgkaapnekaaGreat
namespace Go.Proofs.YtpejdgkaapnekaaGreat
open Go Go.Abs
attribute [local irreducible] OkOps OkC DRun thenQ blockQ RetQ
set_option maxRecDepth 10000
theorem c204 (ds : List Dim) (at' : List Int) : CallA Tryz.prog 204 [.one (.d (encDims ds)), .one (.d (encInts at'))] [] (.one (.d (.bool (ofF ds at')))) [] := by
  refine enter tabOk Tryz.func204 rfl (by decide +kernel) rfl fun hok w0 σ0 φ0 M => ?_
  have h1 := hok.1.sl; have h2 := hok.2.1.sl; clear hok; simp only [List.length_map] at h1 h2; replace h1 := h1.1; replace h2 := h2.1
  repeat' (first | (show OkOps _ _ _ _ _ _; first | refine okops_nil ?_ | refine s_plain tabOk rfl rfl rfl rfl rfl ?_ | (show OkOps _ _ _ (Oper.mk _ (_) _ _ _ (some _) :: _) _ _; first | refine s_guard rfl rfl (by first | assumption | rfl) ?_ | refine s_out rfl rfl (by first | assumption | rfl) rfl rfl ?_ | refine s_split rfl rfl rfl rfl (fun h => ?_) (fun h => ?_) | fail) | (show OkOps _ _ _ (Oper.mk _ (Op.binOp .add _ _ _ _) _ _ _ (_) :: _) _ _; first | refine s_e envOk rfl rfl rfl (step3_add rfl rfl rfl rfl (wrap64 (by omega) (by omega))) ?_ | fail) | (show OkOps _ _ _ (Oper.mk _ (Op.pick _ _ _) _ _ _ (_) :: _) _ _; first | refine s_e envOk rfl rfl rfl (step3_pickT rfl rfl (by first | rfl | assumption) rfl) ?_ | refine s_e envOk rfl rfl rfl (step3_pickF rfl rfl (by first | rfl | assumption) rfl) ?_ | fail) | (show OkOps _ _ _ (Oper.mk _ (Op.indexAddr _ _ _) _ _ _ (_) :: _) _ _; first | refine s_e envOk rfl rfl rfl (step3_idx rfl rfl rfl rfl rfl (by first | omega | ((try simp only [decide_eq_true_eq, decide_eq_false_iff_not, Bool.not_eq_true', Bool.not_true, Bool.not_false, List.length_map, List.length_set, bne_iff_ne, ne_eq, beq_iff_eq, bne_eq_false_iff_eq, beq_eq_false_iff_ne] at *); omega)) (at_map (by first | omega | ((try simp only [decide_eq_true_eq, decide_eq_false_iff_not, Bool.not_eq_true', Bool.not_true, Bool.not_false, List.length_map, List.length_set, bne_iff_ne, ne_eq, beq_iff_eq, bne_eq_false_iff_eq, beq_eq_false_iff_ne] at *); omega)))) ?_ | fail) | (show OkOps _ _ _ (Oper.mk _ (Op.call _) _ _ _ (_) :: _) _ _; first | refine s_callF rfl rfl rfl rfl rfl rfl rfl rfl (c247 _ _ _) rfl ?_ | fail) | fail) | (show OkC _ _ _ _ _; first | refine ok_seq ?_ | refine ok_region ?_ | refine ok_block ?_ | refine ok_skip ?_ | refine ok_ret ?_ | refine ok_exit ?_ | refine ok_condT rfl ?_ | refine ok_cond rfl (fun h => ?_) (fun h => ?_) | refine s_loop 4 rfl [(0, _), (12, _), (13, _)] (subL_cons rfl (subL_cons rfl (subL_cons rfl subL_nil))) (fun (k : Nat) => [(14, .one (.d (.int .i64 k)))]) (fun (k : Nat) => k ≤ ds.length ∧ at'.length = ds.length ∧ withinL ds at' = withinL (ds.drop k) (at'.drop k)) (fun (k : Nat) => ds.length - k) 0 (subL_cons rfl subL_nil) ?_ (fun k ⟨hk, hq, hs⟩ => ?_) | fail) | (show thenQ _ _ _ _; first | refine then_n ?_ | refine then_r ?_ | refine then_x ?_ | fail) | (show blockQ _ _ _ _; first | refine block_n ?_ | refine block_r ?_ | refine block_x rfl ?_ | fail) | (show RetQ _ _ _ _ _ _; first | refine ret_leaf (.inl rfl) rfl rfl ?_ | fail) | (show Exists _; first | refine Exists.intro (k + 1) ⟨?_, ?_, (by first | exact subL_nil | exact (subL_cons rfl subL_nil) | exact (subL_cons rfl (subL_cons rfl subL_nil)) | exact (subL_cons rfl (subL_cons rfl (subL_cons rfl subL_nil))) | exact (subL_cons rfl (subL_cons rfl (subL_cons rfl (subL_cons rfl subL_nil)))) | exact (subL_cons rfl (subL_cons rfl (subL_cons rfl (subL_cons rfl (subL_cons rfl subL_nil))))) | exact (subL_cons rfl (subL_cons rfl (subL_cons rfl (subL_cons rfl (subL_cons rfl (subL_cons rfl subL_nil)))))) | exact (subL_cons rfl (subL_cons rfl (subL_cons rfl (subL_cons rfl (subL_cons rfl (subL_cons rfl (subL_cons rfl subL_nil))))))) | exact (subL_cons rfl (subL_cons rfl (subL_cons rfl (subL_cons rfl (subL_cons rfl (subL_cons rfl (subL_cons rfl (subL_cons rfl subL_nil))))))))), (subL_cons rfl subL_nil), (subL_cons rfl (subL_cons rfl (subL_cons rfl subL_nil)))⟩ | fail) | fail)
  all_goals (try (((simp_all [ofF, withinL, at_drop, List.drop_eq_nil_of_le]) <;> first | omega | (rw [Bool.eq_iff_iff]; simp; omega) | grind); done))
def cmpF : List Int → List Int → Int
  | [], [] => 0
  | [], _ :: _ => -1
  | _ :: _, [] => 1
  | x :: xs, y :: ys => if x < y then -1 else if y < x then 1 else cmpF xs ys
theorem cmpF_nil {b : List Int} : cmpF [] b = if b = [] then 0 else -1 := by cases b <;> simp [cmpF]
theorem cmpF_nil' {a : List Int} : cmpF a [] = if a = [] then 0 else 1 := by cases a <;> simp [cmpF]
theorem c246 (x : Int) : CallA Tryz.prog 246 [.one (.d (.int .i64 x))] [] (.one (.d (.bool false))) [] := by
  refine enter tabOk Tryz.func246 rfl (by decide +kernel) rfl fun hok w0 σ0 φ0 M => ?_
  repeat' (first | (show OkOps _ _ _ _ _ _; first | refine okops_nil ?_ | refine s_plain tabOk rfl rfl rfl rfl rfl ?_ | fail) | (show OkC _ _ _ _ _; first | refine ok_seq ?_ | refine ok_region ?_ | refine ok_ret ?_ | fail) | (show thenQ _ _ _ _; first | refine then_n ?_ | fail) | (show RetQ _ _ _ _ _ _; first | refine ret_leaf (.inl rfl) rfl rfl ?_ | fail) | fail)
  all_goals (try (((simp_all [at_drop, List.drop_eq_nil_of_le]) <;> first | omega | (rw [Bool.eq_iff_iff]; simp; omega) | grind); done))
theorem c198 (x y : Int) : CallA Tryz.prog 198 [.one (.d (.int .i64 x)), .one (.d (.int .i64 y))] [] (.one (.d (.int .i64 (if x < y then -1 else if y < x then 1 else 0)))) [] := by
  refine enter tabOk Tryz.func198 rfl (by decide +kernel) rfl fun hok w0 σ0 φ0 M => ?_
  repeat' (first | (show OkOps _ _ _ _ _ _; first | refine okops_nil ?_ | refine s_plain tabOk rfl rfl rfl rfl rfl ?_ | (show OkOps _ _ _ (Oper.mk _ (Op.call _) _ _ _ (_) :: _) _ _; first | refine s_callF rfl rfl rfl rfl rfl rfl rfl rfl (c246 _) rfl ?_ | fail) | fail) | (show OkC _ _ _ _ _; first | refine ok_seq ?_ | refine ok_region ?_ | refine ok_skip ?_ | refine ok_ret ?_ | refine ok_condF rfl ?_ | refine ok_cond rfl (fun h => ?_) (fun h => ?_) | fail) | (show thenQ _ _ _ _; first | refine then_n ?_ | refine then_r ?_ | fail) | (show RetQ _ _ _ _ _ _; first | refine ret_leaf (.inl rfl) rfl rfl ?_ | fail) | fail)
  all_goals (try (((simp_all [at_drop, List.drop_eq_nil_of_le]) <;> first | omega | (rw [Bool.eq_iff_iff]; simp; omega) | grind); done))
theorem c130 (a b : List Int) : CallA Tryz.prog 130 [.one (.d (encInts a)), .one (.d (encInts b))] [] (.one (.d (.int .i64 (cmpF a b)))) [] := by
  refine enter tabOk Tryz.func130 rfl (by decide +kernel) rfl fun hok w0 σ0 φ0 M => ?_
  have h1 := hok.1.sl; have h2 := hok.2.1.sl; clear hok; simp only [List.length_map] at h1 h2; replace h1 := h1.1; replace h2 := h2.1
  repeat' (first | (show OkOps _ _ _ _ _ _; first | refine okops_nil ?_ | refine s_plain tabOk rfl rfl rfl rfl rfl ?_ | (show OkOps _ _ _ (Oper.mk _ (Op.binOp .add _ _ _ _) _ _ _ (_) :: _) _ _; first | refine s_e envOk rfl rfl rfl (step3_add rfl rfl rfl rfl (wrap64 (by omega) (by omega))) ?_ | fail) | (show OkOps _ _ _ (Oper.mk _ (Op.indexAddr _ _ _) _ _ _ (_) :: _) _ _; first | refine s_e envOk rfl rfl rfl (step3_idx rfl rfl rfl rfl rfl (by first | omega | ((try simp only [decide_eq_true_eq, decide_eq_false_iff_not, Bool.not_eq_true', Bool.not_true, Bool.not_false, List.length_map, List.length_set, bne_iff_ne, ne_eq, beq_iff_eq, bne_eq_false_iff_eq, beq_eq_false_iff_ne] at *); omega)) (at_map (by first | omega | ((try simp only [decide_eq_true_eq, decide_eq_false_iff_not, Bool.not_eq_true', Bool.not_true, Bool.not_false, List.length_map, List.length_set, bne_iff_ne, ne_eq, beq_iff_eq, bne_eq_false_iff_eq, beq_eq_false_iff_ne] at *); omega)))) ?_ | fail) | (show OkOps _ _ _ (Oper.mk _ (Op.call _) _ _ _ (_) :: _) _ _; first | refine s_callF rfl rfl rfl rfl rfl rfl rfl rfl (c198 _ _) rfl ?_ | fail) | fail) | (show OkC _ _ _ _ _; first | refine ok_seq ?_ | refine ok_region ?_ | refine ok_block ?_ | refine ok_skip ?_ | refine ok_ret ?_ | refine ok_exit ?_ | refine ok_cond rfl (fun h => ?_) (fun h => ?_) | refine s_loop 2 rfl [(0, _), (1, _), (9, _), (10, _)] (subL_cons rfl (subL_cons rfl (subL_cons rfl (subL_cons rfl subL_nil)))) (fun (k : Nat) => [(11, .one (.d (.int .i64 k)))]) (fun (k : Nat) => k ≤ a.length ∧ k ≤ b.length ∧ cmpF a b = cmpF (a.drop k) (b.drop k)) (fun (k : Nat) => a.length - k) 0 (subL_cons rfl subL_nil) ?_ (fun k ⟨hk, hq, hs⟩ => ?_) | fail) | (show thenQ _ _ _ _; first | refine then_n ?_ | refine then_r ?_ | refine then_x ?_ | fail) | (show blockQ _ _ _ _; first | refine block_n ?_ | refine block_r ?_ | refine block_x rfl ?_ | fail) | (show RetQ _ _ _ _ _ _; first | refine ret_leaf (.inl rfl) rfl rfl ?_ | fail) | (show Exists _; first | refine Exists.intro (k + 1) ⟨?_, ?_, (by first | exact subL_nil | exact (subL_cons rfl subL_nil) | exact (subL_cons rfl (subL_cons rfl subL_nil)) | exact (subL_cons rfl (subL_cons rfl (subL_cons rfl subL_nil))) | exact (subL_cons rfl (subL_cons rfl (subL_cons rfl (subL_cons rfl subL_nil)))) | exact (subL_cons rfl (subL_cons rfl (subL_cons rfl (subL_cons rfl (subL_cons rfl subL_nil))))) | exact (subL_cons rfl (subL_cons rfl (subL_cons rfl (subL_cons rfl (subL_cons rfl (subL_cons rfl subL_nil)))))) | exact (subL_cons rfl (subL_cons rfl (subL_cons rfl (subL_cons rfl (subL_cons rfl (subL_cons rfl (subL_cons rfl subL_nil))))))) | exact (subL_cons rfl (subL_cons rfl (subL_cons rfl (subL_cons rfl (subL_cons rfl (subL_cons rfl (subL_cons rfl (subL_cons rfl subL_nil))))))))), (subL_cons rfl subL_nil), (subL_cons rfl (subL_cons rfl (subL_cons rfl (subL_cons rfl subL_nil))))⟩ | fail) | fail)
  all_goals (try (((simp_all [cmpF, cmpF_nil, cmpF_nil', at_drop, List.drop_eq_nil_of_le]) <;> first | omega | (rw [Bool.eq_iff_iff]; simp; omega) | grind); done))
theorem c35 (a b : List Int) : CallA Tryz.prog 35 [.one (.d (encInts a)), .one (.d (encInts b))] [] (.one (.d (.int .i64 (cmpF a b)))) [] := by
  refine enter tabOk Tryz.func35 rfl (by decide +kernel) rfl fun hok w0 σ0 φ0 M => ?_
  repeat' (first | (show OkOps _ _ _ _ _ _; first | refine okops_nil ?_ | refine s_plain tabOk rfl rfl rfl rfl rfl ?_ | (show OkOps _ _ _ (Oper.mk _ (Op.call _) _ _ _ (_) :: _) _ _; first | refine s_callF rfl rfl rfl rfl rfl rfl rfl rfl (c130 _ _) rfl ?_ | fail) | fail) | (show OkC _ _ _ _ _; first | refine ok_seq ?_ | refine ok_region ?_ | refine ok_ret ?_ | fail) | (show thenQ _ _ _ _; first | refine then_n ?_ | fail) | (show RetQ _ _ _ _ _ _; first | refine ret_leaf (.inl rfl) rfl rfl ?_ | fail) | fail)
  all_goals (try (((simp_all [at_drop, List.drop_eq_nil_of_le]) <;> first | omega | (rw [Bool.eq_iff_iff]; simp; omega) | grind); done))
def idxGo {α : Type} (p : α → Bool) : List α → Nat → Int
  | [], _ => -1
  | x :: r, k => if p x then k else idxGo p r (k + 1)
end Go.Proofs.YtpejdgkaapnekaaGreat
namespace Go.Proofs.YtpejdgkaapnekaaGreat
open Go Go.Abs
theorem cmpF_refl : ∀ a : List Int, cmpF a a = 0
  | [] => rfl
  | x :: a => by simp only [cmpF, if_neg (Int.lt_irrefl x)]; exact cmpF_refl a
theorem cmpF_swap : ∀ a b : List Int, cmpF b a = - cmpF a b
  | [], [] => rfl
  | [], _ :: _ => rfl
  | _ :: _, [] => rfl
  | x :: a, y :: b => by
    simp only [cmpF]
    by_cases h1 : x < y
    · rw [if_pos h1, if_neg (by omega), if_pos h1]; rfl
    · by_cases h2 : y < x
      · rw [if_pos h2, if_neg h1, if_pos h2]
      · rw [if_neg h1, if_neg h2, if_neg h1, if_neg h2]; exact cmpF_swap a b
theorem cmpF_le_trans : ∀ a b c : List Int, cmpF a b ≤ 0 → cmpF b c ≤ 0 → cmpF a c ≤ 0 ∧ (cmpF a c = 0 → cmpF a b = 0 ∧ cmpF b c = 0)
  | [], [], [], _, _ => by simp [cmpF]
  | [], [], _ :: _, _, _ => by simp [cmpF]
  | [], _ :: _, [], _, h => by simp [cmpF] at h
  | [], _ :: _, _ :: _, _, _ => by simp [cmpF]
  | _ :: _, [], _, h, _ => by simp [cmpF] at h
  | _ :: _, _ :: _, [], _, h => by simp [cmpF] at h
  | x :: a, y :: b, z :: c, h1, h2 => by
    have ih := cmpF_le_trans a b c
    simp only [cmpF] at h1 h2 ⊢
    split at h1 <;> split at h2 <;> (try split at h1) <;> (try split at h2) <;> (try omega)
    all_goals first
      | (rw [if_pos (by omega)]; omega)
      | (have := ih h1 h2
         simp only [if_neg (show ¬ x < y by omega), if_neg (show ¬ y < x by omega), if_neg (show ¬ y < z by omega), if_neg (show ¬ z < y by omega), if_neg (show ¬ x < z by omega), if_neg (show ¬ z < x by omega)]
         exact this)
theorem cmpF_eq : ∀ a b : List Int, cmpF a b = 0 → a = b
  | [], [], _ => rfl
  | [], _ :: _, h => by simp [cmpF] at h
  | _ :: _, [], h => by simp [cmpF] at h
  | x :: a, y :: b, h => by
    simp only [cmpF] at h
    split at h
    · omega
    · split at h
      · omega
      · rw [cmpF_eq a b h, show x = y by omega]
end Go.Proofs.YtpejdgkaapnekaaGreat
namespace Go.Proofs.YtpejdgkaapnekaaGreat
open Go Go.Abs
attribute [local irreducible] OkOps OkC DRun thenQ blockQ RetQ
set_option maxRecDepth 10000
def okByte (c : UInt8) : Bool := decide (32 ≤ c.toNat) && decide (c.toNat ≤ 126)
def rightF (k n d : Int) (s : List UInt8) : Bool :=
  if k = 0 then plainF d s && (decide (1 ≤ n) && decide (n ≤ 255))
  else if k = 1 then plainF d s && (n == 0 || n == 1)
  else if k = 2 then s == [] && (decide (1 ≤ d) && (decide (d ≤ 1099511627776) && (decide (-1099511627776 ≤ n) && (decide (n ≤ 1099511627776) && ((Nat.gcd n.natAbs d.toNat : Nat) : Int) == 1))))
  else if k = 3 then n == 0 && (d == 0 && (decide ((s.length : Int) ≤ 16) && s.all okByte))
  else false
def fitsF (k n d : Int) (s : List UInt8) (t : Int) : Bool :=
  rightF k n d s && (decide (1 ≤ t) && (decide (t ≤ 4) && (if k = 0 then true else if k = 1 then t == 1 else if k = 2 then t == 3 || t == 2 && d == 1 else t == 4)))
theorem c281 (c : Int) : CallA Tryz.prog 281 [.one (.d (.int .i32 c))] [] (.one (.d (.bool (decide (c < 32) || decide (126 < c))))) [] := by
  refine enter tabOk Tryz.func281 rfl (by decide +kernel) rfl fun hok w0 σ0 φ0 M => ?_
  repeat' (first | (show OkOps _ _ _ _ _ _; first | refine okops_nil ?_ | refine s_plain tabOk rfl rfl rfl rfl rfl ?_ | (show OkOps _ _ _ (Oper.mk _ (_) _ _ _ (some _) :: _) _ _; first | refine s_guard rfl rfl (by first | assumption | rfl) ?_ | refine s_out rfl rfl (by first | assumption | rfl) rfl rfl ?_ | refine s_split rfl rfl rfl rfl (fun h => ?_) (fun h => ?_) | fail) | (show OkOps _ _ _ (Oper.mk _ (Op.pick _ _ _) _ _ _ (_) :: _) _ _; first | refine s_e envOk rfl rfl rfl (step3_pickT rfl rfl (by first | rfl | assumption) rfl) ?_ | refine s_e envOk rfl rfl rfl (step3_pickF rfl rfl (by first | rfl | assumption) rfl) ?_ | fail) | fail) | (show OkC _ _ _ _ _; first | refine ok_seq ?_ | refine ok_region ?_ | refine ok_ret ?_ | fail) | (show thenQ _ _ _ _; first | refine then_n ?_ | fail) | (show RetQ _ _ _ _ _ _; first | refine ret_leaf (.inl rfl) rfl rfl ?_ | fail) | fail)
  all_goals (try (((simp_all [at_drop, List.drop_eq_nil_of_le]) <;> first | omega | (rw [Bool.eq_iff_iff]; simp; omega) | grind); done))
end Go.Proofs.YtpejdgkaapnekaaGreat
namespace Go.Abs
open Go
variable {P : Program} {V : Env} {T : Tab} {c : Ctx} {w0 : World} {σ0 : Sig} {φ0 : Pl} {M : Nat → Prop} {n : Nat} {rd : Option Nat} {mk : List Deferred} {ops : Array Oper} {o : Oper} {rest : List Oper} {fr : List (Nat × AV)} {sto : Sto} {K : St → Prop} {st st0 : St}
def encMet (met : List (List UInt8)) : List (List D × List D) := met.map fun nm => ([.str nm], [.bool true])
theorem findK_met {s : List UInt8} : ∀ {met : List (List UInt8)} {i : Nat}, (met.contains s = true → ∃ j, findK [.str s] (encMet met) i = some (j, [.bool true])) ∧ (met.contains s = false → findK [.str s] (encMet met) i = none)
  | [], i => by simp [encMet, findK]
  | x :: r, i => by
    have ih := findK_met (s := s) (met := r) (i := i + 1)
    simp only [encMet, List.map_cons, findK, eqDs, eqD, Bool.and_true, List.contains_cons] at ih ⊢
    cases hb : (s == x) with
    | true => simp
    | false => simpa [hb] using ih
theorem updK_met {s : List UInt8} : ∀ {met : List (List UInt8)}, met.contains s = false → updK [.str s] [.bool true] (encMet met) = encMet (met ++ [s])
  | [], _ => rfl
  | x :: r, h => by
    simp only [List.contains_cons, Bool.or_eq_false_iff] at h
    have ih := updK_met (s := s) (met := r) h.2
    simp only [encMet, List.map_cons, updK, eqDs, eqD, Bool.and_true, List.cons_append, h.1, cond_false] at ih ⊢
    rw [ih]
theorem fitsAll_met : ∀ {met : List (List UInt8)}, fitsAll [.str] (encMet met) = true
  | [] => rfl
  | x :: r => by
    have ih := fitsAll_met (met := r)
    simp only [encMet, List.map_cons, fitsAll, fitsB, fitB, Bool.and_true, Bool.true_and] at ih ⊢
    exact ih
theorem s_lookMet (hV : EnvOk P V) {d t id : Nat} {m : MTy} {x y : Operand} {s : List UInt8} {met : List (List UInt8)} (ho : o.op = .lookup t x y false) (hg : o.guard = none) (hdst : o.dst = some d) (hd : Nat.blt d n = true)
    (hm : look V.M t = some m) (hms : m.ks = [.str]) (hk : m.kg = false) (hv : m.vg = false) (hz : m.z = [.bool false])
    (hx : ev ⟨fr, sto⟩ x = some (.one (.mapr id))) (hl : look sto id = some (.map false false (encMet met))) (hy : ev ⟨fr, sto⟩ y = some (.one (.d (.str s))))
    (h : OkOps P ⟨w0, σ0, φ0, M, n, rd, mk⟩ ops rest ⟨(d, .one (.d (.bool (met.contains s)))) :: fr, sto⟩ K) : OkOps P ⟨w0, σ0, φ0, M, n, rd, mk⟩ ops (o :: rest) ⟨fr, sto⟩ K := by
  refine okops_lookup (hV.M t m hm) ho hg (by rw [hdst]; exact hd) hx (es := encMet met) (by rw [hl, hk, hv]) hy (kd := [.str s]) (by rw [hk]; rfl) (by rw [hms]; rfl) (by rw [hms]; exact fitsAll_met) (v := .one (.d (.bool (met.contains s)))) ?_ (by rw [hdst]; exact h)
  cases hb : met.contains s with
  | true =>
    obtain ⟨j, hj⟩ := (findK_met (i := 0)).1 hb
    simp only [lookF, hj, hv, outA]; rfl
  | false =>
    simp only [lookF, (findK_met (i := 0)).2 hb, hv, hz, outA]; rfl
theorem s_updMet (hV : EnvOk P V) {t id : Nat} {m : MTy} {x y z : Operand} {s : List UInt8} {met : List (List UInt8)} (ho : o.op = .mapUpdate t x y z) (hg : o.guard = none) (hdst : o.dst = none)
    (hm : look V.M t = some m) (hms : m.ks = [.str]) (hk : m.kg = false) (hv : m.vg = false)
    (hx : ev ⟨fr, sto⟩ x = some (.one (.mapr id))) (hl : look sto id = some (.map false false (encMet met))) (hy : ev ⟨fr, sto⟩ y = some (.one (.d (.str s)))) (hz : ev ⟨fr, sto⟩ z = some (.one (.d (.bool true)))) (hnot : met.contains s = false)
    (h : OkOps P ⟨w0, σ0, φ0, M, n, rd, mk⟩ ops rest ⟨fr, setS id (.map false false (encMet (met ++ [s]))) sto⟩ K) : OkOps P ⟨w0, σ0, φ0, M, n, rd, mk⟩ ops (o :: rest) ⟨fr, sto⟩ K := by
  refine okops_mapUpdate (hV.M t m hm) ho hg hdst hx (es := encMet met) (by rw [hl, hk, hv]) hy (kd := [.str s]) (by rw [hk]; rfl) (by rw [hms]; rfl) (by rw [hms]; exact fitsAll_met) hz (vd := [.bool true]) (by rw [hv]; rfl) ?_
  rw [updK_met hnot, hk, hv]
  exact h
theorem s_callM (k : Nat) (ρ : List (Nat × Nat)) {d : Nat} {fop : Operand} {args : Array Operand} {ats : Array TypeId} {f : FuncId} {cargs : List AV} {cs rs : Sto} {rav rav' : AV} {sto' : Sto} (hC : CallA P f cargs cs rav rs)
    (ho : o.op = .call { callee := .value fop, args := args, argTypes := ats }) (hg : o.guard = none) (hdst : o.dst = some d) (hd : Nat.blt d n = true) (hf : ev ⟨fr, sto⟩ fop = some (.one (.d (.fn f []))))
    (ha : evL ⟨fr, sto⟩ args.toList = some (renL (rn k ρ) cargs)) (hpass : Pass ⟨fr, sto⟩ (rn k ρ) ρ cs) (hcomp : CompatL ⟨fr, sto⟩ (rn k ρ) ρ rs)
    (hk : (bigK ρ && injK ρ && allIn cs ρ && keysNd ρ && keysOk ρ rs && avsIn cs (cargs ++ []) && stoIn cs cs && avIn rs rav && stoIn rs rs && Nat.ble (k + 16) 1000000) = true) (hfresh : freshRB k ⟨fr, sto⟩ = true)
    (hr : renV (rn k ρ) rav = rav') (hs : putR (rn k ρ) (delL ρ sto) rs = sto')
    (h : OkOps P ⟨w0, σ0, φ0, M, n, rd, mk⟩ ops rest ⟨(d, rav') :: fr, sto'⟩ K) : OkOps P ⟨w0, σ0, φ0, M, n, rd, mk⟩ ops (o :: rest) ⟨fr, sto⟩ K := by
  subst hr; subst hs
  exact okops_callM k ρ ho hg (by rw [hdst]; exact hd) hf ha (caps := []) (by simpa using hC) hpass hcomp hk (freshRB_ok hfresh) (by rw [hdst]; exact h)
theorem s_loopM {α : Type} {body : Code} {Q : Exit → St → Prop} (rg : Nat) (hrg : firstReg body = rg) (kept : List (Nat × AV)) (hk : SubL fr kept) (L : α → List (Nat × AV)) (S : α → Sto) (Inv : α → Prop) (μ : α → Nat) (x0 : α) (hL : SubL fr (L x0)) (hS : SubL sto (S x0)) (h0 : Inv x0)
    (hround : ∀ x, Inv x → OkC P c body ⟨L x ++ kept, S x⟩ (thenQ (fun st' => ∃ y, Inv y ∧ μ y < μ x ∧ SubL st'.sto (S y) ∧ SubL st'.fr (L y) ∧ SubL st'.fr kept) Q)) : OkC P c (.loop body) ⟨fr, sto⟩ Q := by
  have hap : ∀ {f a b : List (Nat × AV)}, SubL f a → SubL f b → SubL f (a ++ b) := by
    intro f a b h1 h2
    induction a with
    | nil => exact h2
    | cons p r ih => exact ⟨h1.1, ih h1.2⟩
  have hdr : ∀ {f : List (Nat × AV)} {s s' : Sto}, SubL s s' → Imp c ⟨f, s⟩ ⟨f, s'⟩ := fun h a w σ φ hr => ⟨σ, φ, hr.dropTo fun i e hi => h.look hi⟩
  refine okc_imp (st' := ⟨L x0 ++ kept, S x0⟩) (Imp.trans (imp_subL (hap hL hk)) (hdr hS)) ?_
  refine ok_loop (fun n st => ∃ x, Inv x ∧ n = μ x ∧ st = ⟨L x ++ kept, S x⟩) (μ x0) ⟨x0, h0, rfl, rfl⟩ ?_
  rintro n st ⟨x, hx, rfl, rfl⟩
  refine ok_mono (hround x hx) fun e st h => ?_
  cases e with
  | normal =>
    obtain ⟨y, hy, hlt, hs, h1, h2⟩ := h
    obtain ⟨f, s⟩ := st
    simp only at hs h1 h2
    exact ⟨μ y, _, hlt, ⟨y, hy, rfl, rfl⟩, Imp.trans (imp_subL (hap h1 h2)) (hdr hs)⟩
  | _ => exact h
theorem step3_remE {t ty : TypeId} {x y : Operand} {k k' : IntKind} {a b : Int} (ho : o.op = .binOp .rem t x y ty)
    (hx : ev st x = some (.one (.d (.int k a)))) (hy : ev st y = some (.one (.d (.int k' b)))) (hk : kEq k k' = true) (ha : 0 ≤ a) (h0 : 0 < b) : step3 V st o 0 = some ⟨.one (.d (.int k (a % b))), [], []⟩ := by
  rw [← Int.tmod_eq_emod_of_nonneg ha]
  exact step3_rem ho hx hy hk (by omega)
theorem step3_quoE {t ty : TypeId} {x y : Operand} {k k' : IntKind} {a b : Int} (ho : o.op = .binOp .quo t x y ty)
    (hx : ev st x = some (.one (.d (.int k a)))) (hy : ev st y = some (.one (.d (.int k' b)))) (hk : kEq k k' = true) (ha : 0 ≤ a) (h0 : 0 < b) (hz : k.wrap (a / b) = a / b) : step3 V st o 0 = some ⟨.one (.d (.int k (a / b))), [], []⟩ := by
  refine step3_quo ho hx hy hk (by omega) ?_
  rw [Int.tdiv_eq_ediv_of_nonneg ha]
  exact hz
theorem imp_sealL {dl : List Nat} {ss : St} (h : sealL st dl = some ss) : Imp c st ss := fun a w σ φ hr => by
  obtain ⟨σs, _, h3, _⟩ := Rel.sealL h hr
  exact ⟨σs, φ, h3⟩
theorem s_callD (k : Nat) {d : Nat} {fop : Operand} {args : Array Operand} {ats : Array TypeId} {f : FuncId} {caps : List D} {avs avs' : List AV} {rav rav' : AV}
    (ho : o.op = .call { callee := .value fop, args := args, argTypes := ats }) (hg : o.guard = none) (hdst : o.dst = some d) (hd : Nat.blt d n = true) (hf : ev ⟨fr, sto⟩ fop = some (.one (.d (.fn f caps))))
    (ha : evL ⟨fr, sto⟩ args.toList = some avs) (hD : avsD avs = true) (hap : (avs ++ caps.map fun x => .one (.d x)) = avs') (hC : CallA P f avs' [] rav [])
    (hk : (keysOk [] [] && Nat.ble (k + 16) 1000000 && avIn [] rav && stoIn [] []) = true) (hfresh : freshRB k ⟨fr, sto⟩ = true) (hr : renV (rn k []) rav = rav')
    (h : OkOps P ⟨w0, σ0, φ0, M, n, rd, mk⟩ ops rest ⟨(d, rav') :: fr, sto⟩ K) : OkOps P ⟨w0, σ0, φ0, M, n, rd, mk⟩ ops (o :: rest) ⟨fr, sto⟩ K := by
  subst hap; subst hr
  exact okops_call k ho hg (by rw [hdst]; exact hd) hf ha hD hC hk (freshRB_ok hfresh) (by rw [hdst]; exact h)
theorem d_callD (k : Nat) {ops : Array Oper} {acc : List Tr} {d : Nat} {fop : Operand} {args : Array Operand} {ats : Array TypeId} {f : FuncId} {caps : List D} {avs avs' : List AV} {rav rav' : AV}
    (ho : o.op = .call { callee := .value fop, args := args, argTypes := ats }) (hg : o.guard = none) (hdst : o.dst = some d) (hd : Nat.blt d c.n = true) (hf : ev ⟨fr, sto⟩ fop = some (.one (.d (.fn f caps))))
    (ha : evL ⟨fr, sto⟩ args.toList = some avs) (hD : avsD avs = true) (hap : (avs ++ caps.map fun x => .one (.d x)) = avs') (hC : CallA P f avs' [] rav [])
    (hk : (keysOk [] [] && Nat.ble (k + 16) 1000000 && avIn [] rav && stoIn [] []) = true) (hr : renV (rn k []) rav = rav')
    (h : DRun P c ops st0 rest ⟨(d, rav') :: fr, sto⟩ (callTr k [] [] rav [] :: acc) K) : DRun P c ops st0 (o :: rest) ⟨fr, sto⟩ acc K := by
  subst hap; subst hr
  refine d_run hg (loc_callD k ho (by rw [hdst]; exact hd) hf ha hD hC hk) ?_
  rw [hdst]; exact h
theorem s_new (hV : EnvOk P V) (id : Nat) {d : Nat} {v : AV} {wr : List (Nat × Option AObj)} {nw : List Nat} (hg : o.guard = none) (hdst : o.dst = some d) (hd : Nat.blt d n = true) (h : step3 V ⟨fr, sto⟩ o id = some ⟨v, wr, nw⟩) (hid : Nat.blt (id + 1) 1000000 = true) (hf : freshLB ⟨fr, sto⟩ nw = true)
    (hk : OkOps P ⟨w0, σ0, φ0, M, n, rd, mk⟩ ops rest ⟨(d, v) :: fr, appW wr sto⟩ K) : OkOps P ⟨w0, σ0, φ0, M, n, rd, mk⟩ ops (o :: rest) ⟨fr, sto⟩ K := by
  have := step3_ok (c := ⟨w0, σ0, φ0, M, n, rd, mk⟩) hV (o := o) (by rw [hdst]; exact hd) h hid (freshLB_ok hf) ops rest K (by rw [hdst]; exact hk)
  rwa [unguard hg] at this
theorem ret_leafS {T : Tab} {rs : List ResultVar} {rav rav' : AV} {rsto : Sto} {e : Exit} {st : St} {l : List (Bool × List AC)} (he : e = .ret ∨ e = .normal) (hl : resL T st rs = some l) (hr : resAV l = some rav') (h : rav' = rav) (hs : SubL st.sto rsto) : RetQ T rs rav rsto e st :=
  ⟨he, l, hl, by rw [hr, h], hs⟩
end Go.Abs
namespace Go.Abs
open Go
variable {P : Program} {V : Env} {T : Tab} {c : Ctx} {w0 : World} {σ0 : Sig} {φ0 : Pl} {M : Nat → Prop} {n : Nat} {rd : Option Nat} {mk : List Deferred} {ops : Array Oper} {o : Oper} {rest : List Oper} {fr : List (Nat × AV)} {sto : Sto} {K : St → Prop} {st st0 : St} {acc : List Tr}
variable {σ σ' : Sig} {φ φ' : Pl} {w w' : World}
def acClean : AC → Bool
  | .own i _ | .sub i _ _ | .ref i _ | .rref i _ _ | .yl i | .mapr i | .bsl i _ _ => Nat.ble i 1000000
  | _ => true
def acsClean : List AC → Bool
  | [] => true
  | x :: r => acClean x && acsClean r
def tsClean : List (Bool × List AC) → Bool
  | [] => true
  | t :: r => acsClean t.2 && tsClean r
def avClean : AV → Bool
  | .one x => acClean x
  | .agg cs => acsClean cs
  | .tup ts => tsClean ts
  | .any => true
def frClean : List (Nat × AV) → Bool
  | [] => true
  | p :: r => avClean p.2 && frClean r
def stoClean : Sto → Bool
  | [] => true
  | p :: r => (match p.2 with | .box cs => acsClean cs | .loop _ fr _ _ => frClean fr | _ => true) && stoClean r
theorem acClean_men {x : AC} (h : acClean x = true) : ∀ i, 1000000 < i → x.men i = false := by
  intro i hi
  have key : ∀ {j : Nat}, Nat.ble j 1000000 = true → Nat.beq j i = false := by
    intro j hj
    have := Nat.le_of_ble_eq_true hj
    cases hb : Nat.beq j i with
    | false => rfl
    | true => have := Nat.eq_of_beq_eq_true hb; omega
  cases x <;> first | rfl | exact key h
theorem acsClean_men : ∀ {l : List AC}, acsClean l = true → ∀ i, 1000000 < i → acsMen i l = false
  | [], _, _, _ => rfl
  | x :: r, h, i, hi => by
    simp only [acsClean, Bool.and_eq_true] at h
    simp only [acsMen, acClean_men h.1 i hi, acsClean_men h.2 i hi, Bool.or_self]
theorem tsClean_men : ∀ {l : List (Bool × List AC)}, tsClean l = true → ∀ i, 1000000 < i → tsMen i l = false
  | [], _, _, _ => rfl
  | x :: r, h, i, hi => by
    simp only [tsClean, Bool.and_eq_true] at h
    simp only [tsMen, acsClean_men h.1 i hi, tsClean_men h.2 i hi, Bool.or_self]
theorem avClean_men {x : AV} (h : avClean x = true) : ∀ i, 1000000 < i → x.men i = false := by
  intro i hi
  cases x with
  | one x => exact acClean_men h i hi
  | agg cs => exact acsClean_men h i hi
  | tup ts => exact tsClean_men h i hi
  | any => rfl
theorem frClean_look : ∀ {l : List (Nat × AV)}, frClean l = true → ∀ {s : Nat} {v : AV}, look l s = some v → avClean v = true
  | [], _, _, _, h => by simp [look] at h
  | (t, x) :: r, h, s, v, hl => by
    simp only [frClean, Bool.and_eq_true] at h
    rcases look_cons hl with ⟨_, rfl⟩ | ⟨_, hl⟩
    · exact h.1
    · exact frClean_look h.2 hl
theorem frClean_men : ∀ {l : List (Nat × AV)}, frClean l = true → ∀ i, 1000000 < i → frMen i l = false
  | [], _, _, _ => rfl
  | x :: r, h, i, hi => by
    simp only [frClean, Bool.and_eq_true] at h
    simp only [frMen, avClean_men h.1 i hi, frClean_men h.2 i hi, Bool.or_self]
theorem stoClean_men : ∀ {l : Sto}, stoClean l = true → ∀ {j : Nat} {e : AObj}, look l j = some e → ∀ i, 1000000 < i → e.men i = false
  | [], _, _, _, h, _, _ => by simp [look] at h
  | (t, x) :: r, h, j, e, hl, i, hi => by
    simp only [stoClean, Bool.and_eq_true] at h
    rcases look_cons hl with ⟨_, rfl⟩ | ⟨_, hl⟩
    · have h1 := h.1
      cases e with
      | box cs => exact acsClean_men h1 i hi
      | loop li fr s q => exact frClean_men h1 i hi
      | _ => rfl
    · exact stoClean_men h.2 hl i hi
theorem look_append {α : Type} : ∀ {a b : List (Nat × α)} {i : Nat}, look (a ++ b) i = match look a i with | some v => some v | none => look b i
  | [], _, _ => rfl
  | (j, x) :: r, b, i => by
    simp only [List.cons_append, look]
    cases Nat.beq j i with
    | true => rfl
    | false => simp only [cond_false]; exact look_append
def bigS (s : Sto) : Prop := ∀ i e, look s i = some e → 1000000 ≤ i
theorem look_small {o1 s : Sto} (hs : bigS s) {i : Nat} (hi : i < 1000000) : look (o1 ++ s) i = look o1 i := by
  rw [look_append]
  cases hl : look o1 i with
  | some v => rfl
  | none =>
    simp only
    cases hl' : look s i with
    | none => rfl
    | some e => have := hs _ _ hl'; omega
theorem look_big {o1 s : Sto} (ho : keysLt 1000000 o1 = true) {i : Nat} (hi : 1000000 ≤ i) : look (o1 ++ s) i = look s i := by
  rw [look_append]
  cases hl : look o1 i with
  | none => rfl
  | some e => have := keysLt_look ho hl; omega
theorem RepC.mv {x : AC} {v : Value} {s s2 : Sto} (h : ∀ i, x.men i = true → look s2 i = look s i ∧ φ' i = φ i) (hr : RepC σ φ s x v) : RepC σ φ' s2 x v := by
  have hk : ∀ i, x.men i = true → hasK s2 i = hasK s i := fun i hi => by unfold hasK; rw [(h i hi).1]
  cases hr with
  | d h1 => exact .d h1
  | junk h1 => exact .junk h1
  | dead hx h1 =>
    refine .dead ?_ h1
    cases x <;> simp only [acIn] at hx ⊢ <;> first | exact hx | (rw [hk _ (Nat.beq_refl _)]; exact hx)
  | ownNil hl hp => have := h _ (Nat.beq_refl _); exact .ownNil (this.1.trans hl) (this.2.trans hp)
  | own hl hn hp => have := h _ (Nat.beq_refl _); exact .own (this.1.trans hl) hn (this.2.trans hp)
  | sub hl hn hc hA =>
    have := h _ (Nat.beq_refl _)
    refine .sub (this.1.trans hl) hn hc fun h0 => ?_
    obtain ⟨B, cap, h1, h2⟩ := hA h0
    exact ⟨B, cap, this.2.trans h1, h2⟩
  | ref hl hp => have := h _ (Nat.beq_refl _); exact .ref (this.1.trans hl) (this.2.trans hp)
  | rref hl hp => have := h _ (Nat.beq_refl _); exact .rref (this.1.trans hl) (this.2.trans hp)
  | yl hl hp => have := h _ (Nat.beq_refl _); exact .yl (this.1.trans hl) (this.2.trans hp)
  | mapr hl hp => have := h _ (Nat.beq_refl _); exact .mapr (this.1.trans hl) (this.2.trans hp)
  | bsl hl hp => have := h _ (Nat.beq_refl _); exact .bsl (this.1.trans hl) (this.2.trans hp)
theorem acIn_men {x : AC} {s : Sto} (h : acIn s x = true) : ∀ i, x.men i = true → hasK s i = true := by
  intro i hi
  cases x <;> simp only [AC.men, Bool.false_eq_true] at hi <;> (have := Nat.eq_of_beq_eq_true hi; subst this; exact h)
theorem acsIn_men : ∀ {l : List AC} {s : Sto}, acsIn s l = true → ∀ i, acsMen i l = true → hasK s i = true
  | [], _, _, _, h => by simp [acsMen] at h
  | x :: r, s, h, i, hi => by
    simp only [acsIn, Bool.and_eq_true] at h
    simp only [acsMen, Bool.or_eq_true] at hi
    rcases hi with hi | hi
    · exact acIn_men h.1 i hi
    · exact acsIn_men h.2 i hi
theorem tsIn_men : ∀ {l : List (Bool × List AC)} {s : Sto}, tsIn s l = true → ∀ i, tsMen i l = true → hasK s i = true
  | [], _, _, _, h => by simp [tsMen] at h
  | x :: r, s, h, i, hi => by
    simp only [tsIn, Bool.and_eq_true] at h
    simp only [tsMen, Bool.or_eq_true] at hi
    rcases hi with hi | hi
    · exact acsIn_men h.1 i hi
    · exact tsIn_men h.2 i hi
theorem avIn_men {x : AV} {s : Sto} (h : avIn s x = true) : ∀ i, x.men i = true → hasK s i = true := by
  intro i hi
  cases x with
  | one x => exact acIn_men h i hi
  | agg cs => exact acsIn_men h i hi
  | tup ts => exact tsIn_men h i hi
  | any => simp [AV.men] at hi
theorem frIn_men : ∀ {l : List (Nat × AV)} {s : Sto}, frIn s l = true → ∀ i, frMen i l = true → hasK s i = true
  | [], _, _, _, h => by simp [frMen] at h
  | x :: r, s, h, i, hi => by
    simp only [frIn, Bool.and_eq_true] at h
    simp only [frMen, Bool.or_eq_true] at hi
    rcases hi with hi | hi
    · exact avIn_men h.1 i hi
    · exact frIn_men h.2 i hi
theorem acs_mv {s s2 : Sto} : ∀ {l : List AC} {vs : List Value}, (∀ i, acsMen i l = true → look s2 i = look s i ∧ φ' i = φ i) → All2 (RepC σ φ s) l vs → All2 (RepC σ φ' s2) l vs
  | [], [], _, _ => trivial
  | x :: r, v :: vs, h, ha => ⟨RepC.mv (fun i hi => h i (by simp [acsMen, hi])) ha.1, acs_mv (fun i hi => h i (by simp [acsMen, hi])) ha.2⟩
  | [], _ :: _, _, ha => ha.elim
  | _ :: _, [], _, ha => ha.elim
theorem repT_mv {s s2 : Sto} {t : Bool × List AC} {v : Value} (h : ∀ i, acsMen i t.2 = true → look s2 i = look s i ∧ φ' i = φ i) (hr : RepT σ φ s t v) : RepT σ φ' s2 t v := by
  obtain ⟨b, cs⟩ := t
  cases b with
  | true => obtain ⟨vs, rfl, h1⟩ := hr; exact ⟨vs, rfl, acs_mv h h1⟩
  | false => exact acs_mv h hr
theorem ts_mv {s s2 : Sto} : ∀ {l : List (Bool × List AC)} {vs : List Value}, (∀ i, tsMen i l = true → look s2 i = look s i ∧ φ' i = φ i) → All2 (RepT σ φ s) l vs → All2 (RepT σ φ' s2) l vs
  | [], [], _, _ => trivial
  | x :: r, v :: vs, h, ha => ⟨repT_mv (fun i hi => h i (by simp [tsMen, hi])) ha.1, ts_mv (fun i hi => h i (by simp [tsMen, hi])) ha.2⟩
  | [], _ :: _, _, ha => ha.elim
  | _ :: _, [], _, ha => ha.elim
theorem RepV.mv {x : AV} {v : Value} {s s2 : Sto} (h : ∀ i, x.men i = true → look s2 i = look s i ∧ φ' i = φ i) (hr : RepV σ φ s x v) : RepV σ φ' s2 x v := by
  cases x with
  | one x => exact RepC.mv h hr
  | agg cs => obtain ⟨vs, rfl, h1⟩ := hr; exact ⟨vs, rfl, acs_mv h h1⟩
  | tup ts => obtain ⟨vs, rfl, h1⟩ := hr; exact ⟨vs, rfl, ts_mv h h1⟩
  | any => trivial
theorem aoIn_men {e : AObj} {s : Sto} (h : aoIn s e = true) : ∀ i, e.men i = true → hasK s i = true := by
  intro i hi
  cases e with
  | box cs => exact acsIn_men h i hi
  | loop li fr st p => exact frIn_men h i hi
  | _ => simp [AObj.men] at hi
theorem look_frMen : ∀ {fr : List (Nat × AV)} {s : Nat} {v : AV} {i : Nat}, look fr s = some v → v.men i = true → frMen i fr = true
    | [], _, _, _, h, _ => by simp [look] at h
    | (t, x) :: r, s, v, i, h, hi => by
      rcases look_cons h with ⟨_, rfl⟩ | ⟨_, h⟩
      · simp [frMen, hi]
      · simp only [frMen, look_frMen h hi, Bool.or_true]
theorem ObjRep.mv {id : Nat} {e : AObj} {s s2 : Sto} (h : ∀ i, e.men i = true → look s2 i = look s i ∧ φ' i = φ i) (hφ : φ' id = φ id) (hr : ObjRep σ φ s w id e) : ObjRep σ φ' s2 w id e := by
  cases e with
  | box cs =>
    obtain ⟨B, c, vs, t, h1, h2, h3, h4⟩ := hr
    exact ⟨B, c, vs, t, hφ.trans h1, h2, acs_mv h h3, h4⟩
  | row k b xs =>
    rcases hr with ⟨h1, h2⟩ | ⟨B, cap, arr, t, vs, h1, h2⟩
    · exact .inl ⟨h1, hφ.trans h2⟩
    · exact .inr ⟨B, cap, arr, t, vs, hφ.trans h1, h2⟩
  | map kg vg es =>
    obtain ⟨B, c, ents, h1, h2⟩ := hr
    exact ⟨B, c, ents, hφ.trans h1, h2⟩
  | loop li fr st p =>
    obtain ⟨B, c, r, h1, h2, h3, h4, h5⟩ := hr
    refine ⟨B, c, r, hφ.trans h1, h2, h3, fun s v hv => ?_, h5⟩
    obtain ⟨u, hu, hru⟩ := h4 s v hv
    refine ⟨u, hu, RepV.mv (fun i hi => h i ?_) hru⟩
    exact look_frMen hv hi
theorem HInv.pinned {o1 s : Sto} (ho : keysLt 1000000 o1 = true) (hs : bigS s) (hin : stoIn s s = true) (h : HInv σ φ (o1 ++ s) w) : HInv σ φ s w := by
  have hl : ∀ {i : Nat}, hasK s i = true → look s i = look (o1 ++ s) i := fun {i} hi => by
    obtain ⟨e, he⟩ := hasK_look hi
    rw [look_big ho (hs _ _ he)]
  refine ⟨h.sig, fun i e hi => ?_, fun i i' e e' p p' hi hi' => ?_⟩
  · refine ObjRep.mv (fun j hj => ⟨hl (aoIn_men (stoIn_look hin hi) j hj), rfl⟩) rfl (h.obj i e ?_)
    rw [look_big ho (hs _ _ hi)]; exact hi
  · exact h.inj _ _ _ _ _ _ (by rw [look_big ho (hs _ _ hi)]; exact hi) (by rw [look_big ho (hs _ _ hi')]; exact hi')
def isLoop (s : Sto) : Prop := ∃ li fr st p, look s 1000000 = some (.loop li fr st p)
theorem Rel.callW {o1 s s' : Sto} {a : Act} {rav : AV} {v : Value} {dst : Option Nat} (hr : Rel c ⟨fr, o1 ++ s⟩ a w σ φ) (hd : dstOk c.n dst = true) (ho : (keysLt 1000000 o1 && stoClean o1 && frClean fr) = true) (hs : bigS s) (hs' : bigS s') (hin' : stoIn s' s' = true)
    (hlp : isLoop s) (hlp' : isLoop s') (hfl : flatV rav = true) (hret : RetP rav s' w σ φ (MOf φ s) v w' σ' φ') : Rel c ⟨putO dst rav fr, o1 ++ s'⟩ (a.put dst v) w' σ' (fun i => if 1000000 ≤ i then φ' i else φ i) := by
  simp only [Bool.and_eq_true] at ho
  obtain ⟨⟨ho, hoc⟩, hfc⟩ := ho
  have hpin : ∀ i, 1000000 ≤ i → (fun i => if 1000000 ≤ i then φ' i else φ i) i = φ' i := fun i hi => by simp [hi]
  have hsm : ∀ i : Nat, i < 1000000 → (fun i => if 1000000 ≤ i then φ' i else φ i) i = φ i := by
    intro i hi
    have h9 : ¬ 1000000 ≤ i := by omega
    simp [h9]
  have hpn : φ' 1000000 = φ 1000000 := hret.pin 1000000 ⟨Nat.le_refl _, by omega⟩
  generalize hφ : (fun i => if 1000000 ≤ i then φ' i else φ i) = φn at hpin hsm ⊢
  have hold : ∀ {i e}, look s i = some e → look (o1 ++ s) i = some e := fun {i e} hi => by rw [look_big ho (hs _ _ hi)]; exact hi
  have hownl : ∀ {i e}, look o1 i = some e → look (o1 ++ s) i = some e := fun {i e} hi => by rw [look_small hs (keysLt_look ho hi)]; exact hi
  have hM : ∀ b, MOf φ s b → ∃ i e p, look (o1 ++ s) i = some e ∧ 1000000 ≤ i ∧ φ i = some p ∧ p.1 = b := by
    rintro b ⟨i, e, p, h1, h2, h3⟩
    exact ⟨i, e, p, hold h1, hs _ _ h1, h2, h3⟩
  have hsplit : ∀ {i e}, look (o1 ++ s') i = some e → (i < 1000000 ∧ look o1 i = some e) ∨ (1000000 ≤ i ∧ look s' i = some e) := by
    intro i e hi
    rcases Nat.lt_or_ge i 1000000 with h | h
    · exact .inl ⟨h, by rwa [look_small hs' h] at hi⟩
    · exact .inr ⟨h, by rwa [look_big ho h] at hi⟩
  obtain ⟨li, lf, ls, lp, hL⟩ := hlp
  obtain ⟨li', lf', ls', lp', hL'⟩ := hlp'
  have hE : Ext (fun i => 1000000 < i) φ φn (o1 ++ s) (o1 ++ s') := by
    intro i hi
    rcases Nat.lt_or_ge i 1000000 with h | h
    · rw [look_small hs' h, look_small hs h]
      cases hl : look o1 i with
      | none => exact .inl rfl
      | some e => exact .inr ⟨e, rfl, hsm i h, e, rfl, compat.refl _⟩
    · have : i = 1000000 := by omega
      subst this
      exact .inr ⟨.loop li lf ls lp, hold hL, (hpin _ (Nat.le_refl _)).trans hpn, .loop li' lf' ls' lp', by rw [look_big ho (Nat.le_refl _)]; exact hL', trivial⟩
  have hnot : ∀ {i e p}, look o1 i = some e → φ i = some p → ¬ MOf φ s p.1 := by
    intro i e p hi hp hm
    obtain ⟨j, e', q, h1, h2, h3, h4⟩ := hM _ hm
    exact hr.inv.inj _ _ _ _ _ _ (hownl hi) h1 (by have := keysLt_look ho hi; omega) hp h3 h4.symm
  have hinv : HInv σ' φn (o1 ++ s') w' := by
    refine ⟨hret.inv.sig, fun i e hi => ?_, fun i i' e e' p p' hi hi' hne hp hp' => ?_⟩
    · rcases hsplit hi with ⟨h1, h2⟩ | ⟨h1, h2⟩
      · have hob := hr.inv.obj _ _ (hownl h2)
        refine hob.ext hret.le hE (fun j hj => stoClean_men hoc h2 j hj) (hsm i h1) fun B cc hB => ?_
        have hlt := hob.lt hB
        have hn := hnot h2 hB
        refine ⟨hret.kept.block B hlt hn, ?_⟩
        have hn0 : σ B = none := by
          cases e with
          | box cs => obtain ⟨_, _, _, _, q1, _, _, q4⟩ := hob; rw [hB] at q1; cases q1; exact q4
          | row k b xs =>
            rcases hob with ⟨_, q⟩ | ⟨_, _, _, _, _, q1, _, _, _, _, _, _, _, _, q4⟩
            · rw [hB] at q; cases q
            · rw [hB] at q1; cases q1; exact q4
          | map kg vg es => obtain ⟨_, _, _, q1, _, _, q4⟩ := hob; rw [hB] at q1; cases q1; exact q4
          | loop li fr st p => obtain ⟨_, _, _, q1, _, _, _, q4⟩ := hob; rw [hB] at q1; cases q1; exact q4
        rw [hn0]
        cases hσ : σ' B with
        | none => rfl
        | some x =>
          rcases hret.fresh B (by rw [hσ]; simp) with q | q | q
          · exact absurd hn0 q
          · exact absurd hlt (by simp only at q ⊢; omega)
          · exact absurd q hn
      · refine ObjRep.mv (s := s') (fun j hj => ?_) (hpin i h1) (hret.inv.obj _ _ h2)
        obtain ⟨e2, he2⟩ := hasK_look (aoIn_men (stoIn_look hin' h2) j hj)
        have hj2 := hs' _ _ he2
        exact ⟨look_big ho hj2, hpin j hj2⟩
    · rcases hsplit hi with ⟨h1, h2⟩ | ⟨h1, h2⟩ <;> rcases hsplit hi' with ⟨h3, h4⟩ | ⟨h3, h4⟩
      · rw [hsm i h1] at hp; rw [hsm i' h3] at hp'; exact hr.inv.inj _ _ _ _ _ _ (hownl h2) (hownl h4) hne hp hp'
      · rw [hsm i h1] at hp; rw [hpin i' h3] at hp'
        rcases hret.mine _ _ _ h4 hp' with q | q
        · have := (hr.inv.obj _ _ (hownl h2)).lt hp; omega
        · intro e0; exact hnot h2 hp (e0 ▸ q)
      · rw [hpin i h1] at hp; rw [hsm i' h3] at hp'
        rcases hret.mine _ _ _ h2 hp with q | q
        · have := (hr.inv.obj _ _ (hownl h4)).lt hp'; omega
        · intro e0; exact hnot h4 hp' (e0 ▸ q)
      · rw [hpin i h1] at hp; rw [hpin i' h3] at hp'; exact hret.inv.inj _ _ _ _ _ _ h2 h4 hne hp hp'
  have hMc : ∀ {b}, MOf φ s b → c.w0.heap.size ≤ b ∨ c.M b := by
    intro b hb
    obtain ⟨j, e', q, h1, h2, h3, rfl⟩ := hM _ hb
    exact hr.mine _ _ _ h1 h3
  refine hr.putTo (st' := ⟨fr, o1 ++ s'⟩) hd (Sig.le_trans hr.le hret.le) (fun b hb => ?_) hinv (fun i e p hi hp => ?_) ⟨hret.kept.os.trans hr.fra.os, hret.kept.tape.trans hr.fra.tape, hret.kept.output.trans hr.fra.output, Nat.le_trans hr.fra.size hret.kept.size, Nat.le_trans hr.fra.drawn hret.kept.drawn, fun b hb hM' => ?_⟩ (fun i hi => (hpin i hi.1).trans ((hret.pin i hi).trans (hr.pin i hi)))
    (fun _ => flatV_rep hfl hret.rep) (fun t x _ hx => ⟨x, hx, fun z hz => ?_⟩)
  · rcases hret.fresh b hb with q | q | q
    · exact hr.fresh b q
    · exact .inr (.inl (Nat.le_trans hr.fra.size q))
    · exact .inr (hMc q)
  · rcases hsplit hi with ⟨h1, h2⟩ | ⟨h1, h2⟩
    · rw [hsm i h1] at hp; exact hr.mine _ _ _ (hownl h2) hp
    · rw [hpin i h1] at hp
      rcases hret.mine _ _ _ h2 hp with q | q
      · exact .inl (Nat.le_trans hr.fra.size q)
      · exact hMc q
  · rw [hret.kept.block b (Nat.lt_of_lt_of_le hb hr.fra.size) (fun hm => ?_)]
    · exact hr.fra.block b hb hM'
    · rcases hMc hm with q | q
      · omega
      · exact hM' q
  · exact RepV.ext hret.le hE (fun i hi => avClean_men (frClean_look hfc hx) i hi) hz
theorem repL_pinned {o1 s : Sto} (ho : keysLt 1000000 o1 = true) (hs : bigS s) : ∀ {avs : List AV} {vs : List Value}, avsIn s avs = true → All2 (RepV σ φ (o1 ++ s)) avs vs → All2 (RepV σ φ s) avs vs
  | [], [], _, _ => trivial
  | x :: r, v :: vs, h, ha => by
    simp only [avsIn, Bool.and_eq_true] at h
    refine ⟨RepV.mv (fun i hi => ⟨?_, rfl⟩) ha.1, repL_pinned ho hs h.2 ha.2⟩
    obtain ⟨e, he⟩ := hasK_look (avIn_men h.1 i hi)
    rw [look_big ho (hs _ _ he)]
  | [], _ :: _, _, ha => ha.elim
  | _ :: _, [], _, ha => ha.elim
theorem s_yieldW (o1 : Sto) {d : Nat} {s s' : Sto} {fop : Operand} {args : Array Operand} {ats : Array TypeId} {avs : List AV} {rav : AV} (hY : YieldA P 1000000 avs s rav s') (hs : bigS s) (hs' : bigS s') (hin : stoIn s s = true) (hin' : stoIn s' s' = true) (hlp : isLoop s) (hlp' : isLoop s')
    (hsto : sto = o1 ++ s) (hrd : rd = none) (ho : o.op = .call { callee := .value fop, args := args, argTypes := ats }) (hg : o.guard = none) (hdst : o.dst = some d) (hd : Nat.blt d n = true) (hf : ev ⟨fr, sto⟩ fop = some (.one (.yl 1000000)))
    (ha : evL ⟨fr, sto⟩ args.toList = some avs) (hai : avsIn s avs = true) (hk : (keysLt 1000000 o1 && stoClean o1 && frClean fr) = true) (hfl : flatV rav = true)
    (h : OkOps P ⟨w0, σ0, φ0, M, n, rd, mk⟩ ops rest ⟨(d, rav) :: fr, o1 ++ s'⟩ K) : OkOps P ⟨w0, σ0, φ0, M, n, rd, mk⟩ ops (o :: rest) ⟨fr, sto⟩ K := by
  subst hsto
  intro a w σ φ Q hr hQ
  have hk' := hk
  simp only [Bool.and_eq_true] at hk'
  have hfr : RepC σ φ (o1 ++ s) (.yl 1000000) (a.eval fop) := ev_rep hr hf
  generalize hfe : a.eval fop = fv at hfr
  obtain ⟨li, lf, ls, lp, hL⟩ := hlp
  have hl0 : look (o1 ++ s) 1000000 = some (.loop li lf ls lp) := by rw [look_big hk'.1.1 (Nat.le_refl _)]; exact hL
  cases hfr with
  | dead hxx _ => simp [acIn, hasK, hl0] at hxx
  | yl hl hp =>
    rename_i B cap li2 fr2 s2 p2
    obtain ⟨fn, tmps, assign, body, hy, hR⟩ := hY.run w σ φ _ B cap (HInv.pinned hk'.1.1 hs hin hr.inv) hp (repL_pinned hk'.1.1 hs hai (evL_rep hr ha))
    refine wpListIn_plain hg fun K' hK => ⟨fun f _ => fnc_fn _ f, ?_⟩
    rw [semAt_run (by simp) (run_yield ho hfe hy), Oper.uponIn_round, fnc_none (c := ⟨w0, σ0, φ0, M, n, rd, mk⟩) hrd]
    refine ⟨fun h => by simp [Fence.wide] at h, hR.mono fun e w' he => ?_⟩
    obtain ⟨v, σ', φ', rfl, hret⟩ := he
    refine hK _ _ (h _ _ σ' (fun i => if 1000000 ≤ i then φ' i else φ i) _ ?_ hQ)
    have := hr.callW (dst := o.dst) (by rw [hdst]; exact hd) hk hs hs' hin' ⟨li, lf, ls, lp, hL⟩ hlp' hfl hret
    rw [hdst] at this ⊢; exact this
end Go.Abs
namespace Go.Abs
open Go
variable {P : Program} {V : Env} {T : Tab} {c : Ctx} {w0 : World} {σ0 : Sig} {φ0 : Pl} {M : Nat → Prop} {n : Nat} {rd : Option Nat} {mk : List Deferred} {ops : Array Oper} {o : Oper} {rest : List Oper} {fr : List (Nat × AV)} {sto : Sto} {K : St → Prop} {st st0 : St} {acc : List Tr}
theorem d_new (hV : EnvOk P V) (id : Nat) {d : Nat} {v : AV} {wr : List (Nat × Option AObj)} {nw : List Nat} (hg : o.guard = none) (hdst : o.dst = some d) (hd : Nat.blt d c.n = true) (h : step3 V ⟨fr, sto⟩ o id = some ⟨v, wr, nw⟩) (hid : Nat.blt (id + 1) 1000000 = true) (hf : freshLB ⟨fr, sto⟩ nw = true)
    (k : DRun P c ops st0 rest ⟨(d, v) :: fr, appW wr sto⟩ (⟨v, wr, riOf ⟨fr, sto⟩ o.op, nw⟩ :: acc) K) : DRun P c ops st0 (o :: rest) ⟨fr, sto⟩ acc K :=
  d_run hg (loc_step3 hV (by rw [hdst]; exact hd) h hid) (by rw [hdst]; exact k)
theorem d_store (hV : EnvOk P V) {v : AV} {wr : List (Nat × Option AObj)} (hg : o.guard = none) (hdst : o.dst = none) (h : step3 V ⟨fr, sto⟩ o 0 = some ⟨v, wr, []⟩)
    (k : DRun P c ops st0 rest ⟨fr, appW wr sto⟩ (⟨v, wr, riOf ⟨fr, sto⟩ o.op, []⟩ :: acc) K) : DRun P c ops st0 (o :: rest) ⟨fr, sto⟩ acc K :=
  d_run hg (loc_step3 hV (by rw [hdst]; rfl) h rfl) (by rw [hdst]; exact k)
def OkR (P : Program) (c : Ctx) (bl : Nat) (g : Operand) (ps : Array Nat) (assign body rest : Code) (st : St) (Q : Exit → St → Prop) : Prop :=
  ∀ (a : Act) (w : World) (σ : Sig) (φ : Pl), Rel c st a w σ φ → (Code.block bl (.rangeFunc g ps assign body)).wpIn (fnc c) 0 P
    (Exit.then (rest.wpIn (fnc c) 0 P fun e a' w' => ∃ st' σ' φ', Q e st' ∧ RelE c e st' a' w' σ' φ') fun e a' w' => ∃ st' σ' φ', Q e st' ∧ RelE c e st' a' w' σ' φ') a w
def normQ (R : St → Prop) (e : Exit) (st : St) : Prop := e = .normal ∧ R st
theorem norm_n {R : St → Prop} (h : R st) : normQ R .normal st := ⟨rfl, h⟩
def retQ (Q : Exit → St → Prop) (e : Exit) (st : St) : Prop := e = .ret ∧ Q .ret st
theorem retq_n {Q : Exit → St → Prop} (h : Q .ret st) : retQ Q .ret st := ⟨rfl, h⟩
theorem ok_stopR2 {bl : Nat} {g : Operand} {ps : Array Nat} {x assign body rest : Code} {Q : Exit → St → Prop} (h : OkC P c x st (normQ fun st1 => OkR P c bl g ps assign body rest st1 Q)) : OkC P c (.seq (.seq x (.block bl (.rangeFunc g ps assign body))) rest) st Q := by
  intro a w σ φ hr
  refine wpIn_seq (wpIn_seq (wpIn_mono (h a w σ φ hr) ?_))
  rintro e a1 w1 ⟨st1, σ1, φ1, ⟨rfl, hR⟩, hre⟩
  exact hR a1 w1 σ1 φ1 (hre.rel (by simp))
theorem ok_rangeS {g : Operand} {ps : Array Nat} {assign body rest : Code} {bl : Nat} {Q : Exit → St → Prop} {f : FuncId} {caps : List D} {os : List (Nat × AObj)} {rav : AV} {liR : LI} {frR : List (Nat × AV)} {s' : LoopState} {p' : Option Code} {rs : Sto} (ids : List Nat) (idl : Nat)
    (hrd : c.rd = none) (hmk : c.mks = []) (hg : ev st g = some (.one (.d (.fn f caps)))) (hos : objsM st.sto ids = some os)
    (hC : CallA P f ((.one (.yl 1000000)) :: caps.map fun x => .one (.d x)) ((1000000, .loop ⟨c.n, ps, assign, body⟩ (renFr (inv 1000000 (idl :: ids)) (liveFr ids st.fr [])) .ready none) :: csOf (inv 1000000 (idl :: ids)) os) rav ((1000000, .loop liR frR s' p') :: rs))
    (hb : rangeB st ids idl ⟨c.n, ps, assign, body⟩ os caps rav 1000000 liR frR s' p' rs = true)
    (h1 : p' = none → ∀ c1, Good c c1 → OkC P c1 rest ⟨st.fr, afterLoop (idl + 1) (rhoOf 1000000 (idl :: ids)) rs st.sto⟩ (retQ Q))
    (h2 : p' = some .ret → Q .ret ⟨st.fr, afterLoop (idl + 1) (rhoOf 1000000 (idl :: ids)) rs st.sto⟩) : OkR P c bl g ps assign body rest st Q := by
  intro a w σ φ hr
  unfold rangeB at hb
  simp only [Bool.and_eq_true, Bool.not_eq_true'] at hb
  obtain ⟨⟨⟨⟨⟨⟨⟨⟨hj, hall⟩, hni⟩, hcm⟩, hk⟩, hi⟩, hfr⟩, hbu⟩, hp⟩ := hb
  have hren : renFr (rn (idl + 1) (rhoOf 1000000 (idl :: ids))) (renFr (inv 1000000 (idl :: ids)) (liveFr ids st.fr [])) = liveFr ids st.fr [] :=
    renFr_inv fun i hi => rn_inv (by simp only [memL, Bool.or_eq_true]; exact .inr (liveFr_ids i hi))
  have hne : ∀ i ∈ ids, i ≠ idl := by
    intro i hmem e
    rw [e] at hmem
    rw [memL_iff.2 hmem] at hni; cases hni
  have e : renFr (rn (idl + 1) ((1000000, idl) :: rhoOf 1000001 ids)) (renFr (inv 1000000 (idl :: ids)) (liveFr ids st.fr [])) = liveFr ids st.fr [] := hren
  have hX := ok_rangeX (P := P) (c := c) (st := st) (g := g) (ps := ps) (assign := assign) (body := body) (k := idl + 1) (idl := idl) (ρ := rhoOf 1000001 ids) hrd hmk hg hC (fun s v hv => by rw [e] at hv; exact (liveFr_look hv).2)
    (objsM_pass (s := (idl, _) :: st.sto) ((objsM_cong (s := st.sto) fun i hi => look_ne (hne i hi)).trans hos) hall)
    (compatLB_ok (s := (idl, .loop ⟨c.n, ps, assign, body⟩ (liveFr ids st.fr []) .ready none) :: st.sto) (fun j i _ => by
      show look ((idl, AObj.loop _ _ _ _) :: st.sto) i = _
      rw [e]) hcm) hk (by
      rw [e]
      simp only [Bool.and_eq_true, Bool.not_eq_true']
      exact hi) (fun i h1 h2 => freshLB_ok hfr i (rng_mem.2 ⟨h1, h2⟩)) (by rintro rfl; cases hbu) (by
      unfold pOk at hp
      split at hp
      · exact .inl rfl
      · exact .inr rfl
      · cases hp) a w σ φ hr
  refine wpIn_block (wpIn_mono hX ?_)
  rintro x a' w' (⟨hp0, rfl, c1, σ', φ', hg1, hr1⟩ | ⟨hp0, rfl, σ', φ', hr1⟩)
  · have hc := h1 hp0 c1 hg1 a' w' σ' φ' hr1
    have hf : fnc c1 = fnc c := by rw [fnc_none hg1.2.1, fnc_none hrd]
    rw [hf] at hc
    refine wpIn_mono hc ?_
    rintro x a2 w2 ⟨s2, σ2, φ2, ⟨rfl, hq⟩, hre⟩
    refine ⟨s2, σ2, φ2, hq, ?_⟩
    rcases hre with h5 | ⟨_, r, _, _, _, h5⟩
    · exact hg1.2.2.2 _ _ _ _ _ h5
    · exact absurd h5.defers.symm hg1.2.2.1
  · exact ⟨_, σ', φ', h2 hp0, hr1⟩
structure FamW {α : Type} (E : α → Sto) : Prop where
  big : ∀ a, bigS (E a)
  ins : ∀ a, stoIn (E a) (E a) = true
  lp : ∀ a, isLoop (E a)
  nd : ∀ a, nodupL (keysL (E a)) = true
theorem subL_of {α : Type} {l : List (Nat × α)} : ∀ {t : List (Nat × α)}, (∀ q ∈ t, look l q.1 = some q.2) → SubL l t
  | [], _ => trivial
  | (i, x) :: t, h => ⟨h _ List.mem_cons_self, subL_of fun q hq => h q (List.mem_cons_of_mem _ hq)⟩
theorem mem_keys : ∀ {s : Sto} {q : Nat × AObj}, q ∈ s → memL q.1 (keysL s) = true
  | p :: r, q, h => by
    obtain ⟨i, x⟩ := p
    rcases List.mem_cons.1 h with rfl | h
    · simp [keysL, memL]
    · simp [keysL, memL, mem_keys h]
theorem look_nd : ∀ {s : Sto}, nodupL (keysL s) = true → ∀ q ∈ s, look s q.1 = some q.2
  | (i, x) :: r, h, q, hq => by
    simp only [keysL, nodupL, Bool.and_eq_true, Bool.not_eq_true'] at h
    rcases List.mem_cons.1 hq with rfl | hq
    · simp [look]
    · have hm := mem_keys hq
      have hne : Nat.beq i q.1 = false := by
        cases hb : Nat.beq i q.1 with
        | false => rfl
        | true =>
          have := Nat.eq_of_beq_eq_true hb
          subst this
          rw [h.1] at hm; cases hm
      simp only [look, hne, cond_false]
      exact look_nd h.2 q hq
theorem subL_big {o1 s : Sto} (ho : keysLt 1000000 o1 = true) (hs : bigS s) (hn : nodupL (keysL s) = true) : SubL (o1 ++ s) s :=
  subL_of fun q hq => by
    have h := look_nd hn q hq
    rw [look_big ho (hs _ _ h)]; exact h
theorem s_loopW {α β : Type} {E : α → Sto} (hE : FamW E) (g : β → α) {body : Code} {Q : Exit → St → Prop} (o1 : Sto) (kept : List (Nat × AV)) (hk : SubL fr kept) (L : β → List (Nat × AV)) (Inv : β → Prop) (μ : β → Nat) (x0 : β) (hsto : sto = o1 ++ E (g x0)) (ho : keysLt 1000000 o1 = true) (hL : SubL fr (L x0)) (h0 : Inv x0)
    (hround : ∀ x, Inv x → OkC P c body ⟨L x ++ kept, o1 ++ E (g x)⟩ (thenQ (fun st' => ∃ y o2, Inv y ∧ μ y < μ x ∧ st'.sto = o2 ++ E (g y) ∧ keysLt 1000000 o2 = true ∧ SubL o2 o1 ∧ SubL st'.fr (L y) ∧ SubL st'.fr kept) Q)) : OkC P c (.loop body) ⟨fr, sto⟩ Q := by
  subst hsto
  have hap : ∀ {f a b : List (Nat × AV)}, SubL f a → SubL f b → SubL f (a ++ b) := by
    intro f a b h1 h2
    induction a with
    | nil => exact h2
    | cons p r ih => exact ⟨h1.1, ih h1.2⟩
  have hdr : ∀ {f : List (Nat × AV)} {o2 s : Sto}, bigS s → keysLt 1000000 o2 = true → SubL o2 o1 → Imp c ⟨f, o2 ++ s⟩ ⟨f, o1 ++ s⟩ := fun hs h2 h a w σ φ hr => ⟨σ, φ, hr.dropTo fun i e hi => by
    show look (_ ++ _) i = some e
    rcases Nat.lt_or_ge i 1000000 with h3 | h3
    · rw [look_small hs h3] at hi ⊢; exact h.look hi
    · rw [look_big ho h3] at hi; rw [look_big h2 h3]; exact hi⟩
  refine okc_imp (st' := ⟨L x0 ++ kept, o1 ++ E (g x0)⟩) (imp_subL (hap hL hk)) ?_
  refine ok_loop (fun n st => ∃ x, Inv x ∧ n = μ x ∧ st = ⟨L x ++ kept, o1 ++ E (g x)⟩) (μ x0) ⟨x0, h0, rfl, rfl⟩ ?_
  rintro n st ⟨x, hx, rfl, rfl⟩
  refine ok_mono (hround x hx) fun e st h => ?_
  cases e with
  | normal =>
    obtain ⟨y, o2, hy, hlt, hs, h4, h5, h1, h2⟩ := h
    obtain ⟨f, s⟩ := st
    simp only at hs h1 h2
    subst hs
    exact ⟨μ y, _, hlt, ⟨y, hy, rfl, rfl⟩, Imp.trans (imp_subL (hap h1 h2)) (hdr (hE.big (g y)) h4 h5)⟩
  | _ => exact h
def fitG (r : Nat → Nat) : List Nat → Bool
  | [] => true
  | i :: l => (!(Nat.ble 1000000 (r i) && Nat.blt (r i) 2000000) || Nat.beq (r i) i) && fitG r l
theorem fitG_ok {r : Nat → Nat} : ∀ {l : List Nat}, fitG r l = true → ∀ {i : Nat}, i ∈ l → Pin (r i) → r i = i
  | j :: l, h, i, hi, hb => by
    simp only [fitG, Bool.and_eq_true, Bool.or_eq_true, Bool.not_eq_true'] at h
    rcases List.mem_cons.1 hi with rfl | hi
    · rcases h.1 with h1 | h1
      · rw [Nat.ble_eq.mpr hb.1, Nat.blt_eq.mpr hb.2] at h1; cases h1
      · exact Nat.eq_of_beq_eq_true h1
    · exact fitG_ok h.2 hi hb
theorem imp_ren (r : Nat → Nat) (hk : (nodupL (keysL sto) && nodupL (mapN r (keysL sto)) && fitG r (keysL sto) && stoIn sto sto && frIn sto fr) = true) : Imp c ⟨fr, sto⟩ ⟨renFr r fr, renS r sto⟩ := by
  intro a w σ φ hr
  simp only [Bool.and_eq_true] at hk
  obtain ⟨⟨⟨⟨h1, h2⟩, h3⟩, h4⟩, h5⟩ := hk
  classical
  let φ' : Pl := fun t => if h : ∃ i, i ∈ keysL sto ∧ r i = t then φ h.choose else φ t
  have hφ : ∀ {i : Nat}, i ∈ keysL sto → φ' (r i) = φ i := by
    intro i hi
    have hex : ∃ j, j ∈ keysL sto ∧ r j = r i := ⟨i, hi, rfl⟩
    show (if h : ∃ j, j ∈ keysL sto ∧ r j = r i then φ h.choose else φ (r i)) = φ i
    rw [dif_pos hex]
    have := hex.choose_spec
    rw [nodup_inj h2 this.1 hi this.2]
  have hR : ∀ j o, look sto j = some o → look (renS r sto) (r j) = some (renO r o) ∧ φ' (r j) = φ j := fun j o hj => ⟨renS_look h2 hj, hφ (look_key hj)⟩
  refine ⟨σ, φ', hr.le, hr.fresh, ⟨hr.inv.sig, fun t e ht => ?_, fun t t' e e' p p' ht ht' hne hp hp' => ?_⟩, fun t e p ht hp => ?_, fun s v hv => ?_, hr.defers, hr.size, hr.fra, fun t ht => ?_⟩
  · obtain ⟨i, o, rfl, hi, rfl⟩ := look_renS h1 ht
    exact reObj hR hi (stoIn_look h4 hi) (hr.inv.obj _ _ hi)
  · obtain ⟨i, o, rfl, hi, rfl⟩ := look_renS h1 ht
    obtain ⟨i', o', rfl, hi', rfl⟩ := look_renS h1 ht'
    rw [(hR _ _ hi).2] at hp
    rw [(hR _ _ hi').2] at hp'
    exact hr.inv.inj _ _ _ _ _ _ hi hi' (fun e => hne (by rw [e])) hp hp'
  · obtain ⟨i, o, rfl, hi, rfl⟩ := look_renS h1 ht
    rw [(hR _ _ hi).2] at hp
    exact hr.mine _ _ _ hi hp
  · rw [look_renFr] at hv
    cases hl : look fr s with
    | none => rw [hl] at hv; cases hv
    | some v0 =>
      rw [hl] at hv; cases hv
      obtain ⟨u, hu, hru⟩ := hr.slot s v0 hl
      exact ⟨u, hu, reV hR (frIn_look h5 hl) hru⟩
  · show (if h : ∃ j, j ∈ keysL sto ∧ r j = t then φ h.choose else φ t) = _
    split
    · rename_i hex
      have hs := hex.choose_spec
      have := fitG_ok h3 hs.1 (by rw [hs.2]; exact ht)
      rw [hs.2] at this
      rw [← this]; exact hr.pin t ht
    · exact hr.pin t ht
theorem ret_leafW {rs : List ResultVar} {rav rav' : AV} {rsto s : Sto} {e : Exit} {l : List (Bool × List AC)} (o1 : Sto) (he : e = .ret ∨ e = .normal) (hsto : sto = o1 ++ s) (hl : resL T ⟨fr, sto⟩ rs = some l) (hr : resAV l = some rav') (h : rav' = rav ∧ s = rsto) (ho : keysLt 1000000 o1 = true) (hs : bigS s) (hn : nodupL (keysL s) = true) : RetQ T rs rav rsto e ⟨fr, sto⟩ := by
  obtain ⟨h1, rfl⟩ := h
  subst hsto
  exact ⟨he, l, hl, by rw [hr, h1], subL_big ho hs hn⟩
def AssignQ (P : Program) (id : Nat) (c : Ctx) (body : Code) (rav : AV) (rsto : Sto) (e : Exit) (st : St) : Prop :=
  e = .normal ∧ ∃ li1 fr1, look st.sto id = some (.loop li1 fr1 .ready none) ∧ OkC P c body ⟨st.fr, setS id (.loop li1 fr1 .busy none) st.sto⟩ (RoundQ id rav rsto)
theorem assign_n {id : Nat} {body : Code} {rav : AV} {rsto : Sto} {li1 : LI} {fr1 : List (Nat × AV)} (hl : look st.sto id = some (.loop li1 fr1 .ready none)) (h : OkC P c body ⟨st.fr, setS id (.loop li1 fr1 .busy none) st.sto⟩ (RoundQ id rav rsto)) : AssignQ P id c body rav rsto .normal st := ⟨rfl, _, _, hl, h⟩
theorem round_n {id : Nat} {rav : AV} {rsto : Sto} {li : LI} {fr1 : List (Nat × AV)} {p : Option Code} (hl : look st.sto id = some (.loop li fr1 .busy p)) (hr : rav = .one (.d (.bool true))) (hs : SubL (setS id (.loop li fr1 .ready none) st.sto) rsto) : RoundQ id rav rsto .normal st :=
  ⟨li, fr1, p, hl, .inl ⟨rfl, hr, hs⟩⟩
theorem yieldA_ok {id : Nat} {li : LI} {fr : List (Nat × AV)} {args : List AV} {sto : Sto} {rav : AV} {rsto : Sto} (hid : Pin id) (hl : look sto id = some (.loop li fr .ready none))
    (hps : (allBlt li.n li.params.toList && Nat.beq li.params.toList.length args.length) = true)
    (h : ∀ (w0 : World) (σ0 : Sig) (φ0 : Pl) (M : Nat → Prop) (B : Nat), OkC P ⟨w0, σ0, φ0, M, li.n, some B, []⟩ li.assign ⟨roundFr li.params.toList args fr, sto⟩ (AssignQ P id ⟨w0, σ0, φ0, M, li.n, some B, []⟩ li.body rav rsto)) : YieldA P id args sto rav rsto := yieldA_of_ok hid hl hps h
end Go.Abs
namespace Go.Abs
open Go
variable {P : Program} {V : Env} {T : Tab} {c : Ctx} {st st0 : St} {σ σ' : Sig} {φ φ' : Pl} {w w' : World}
theorem wl_run {ops : Array Oper} {o : Oper} {rest : List Oper} {a : Act} {Q : Exit → Act → World → Prop} {u : Value} (hg : o.guard = none) (hrun : (execOp a.eval o).run P w = .ok (.value u) w') (h : wpListIn (fnc c) 0 P ops Q rest (a.put o.dst u) w') : wpListIn (fnc c) 0 P ops Q (o :: rest) a w := by
  refine wpListIn_plain hg fun K' hK => ⟨fun f _ => fnc_fn c f, ?_⟩
  rw [semAt_run (by simp) hrun]
  exact hK _ _ h
theorem run_next_over {s : ByteArray} {pos r : Nat} {ty : TypeId} (hh : w.heap[r]? = some (.stringIter s pos)) (h : ¬ pos < s.size) : (Instr.next (.pointer (some ⟨r, 0, none⟩)) true ty).run P w = .ok (.tuple #[.bool false]) w := by
  simp [Instr.next, getObj, Sem.run, hh, Result.andThen, h]
theorem run_next_more {s : ByteArray} {pos r : Nat} {ty : TypeId} (hh : w.heap[r]? = some (.stringIter s pos)) (h : pos < s.size) : (Instr.next (.pointer (some ⟨r, 0, none⟩)) true ty).run P w =
    .ok (.tuple #[.bool true, .int .i64 pos, .int .i32 (Utf8.decode s pos).1]) { w with heap := w.heap.setIfInBounds r (.stringIter s (pos + (Utf8.decode s pos).2)) } := by
  simp [Instr.next, getObj, setObj, Sem.run, hh, Result.andThen, h, goInt]
theorem decode_wide (s : ByteArray) (pos : Nat) (h : pos < s.size) : 1 ≤ (Utf8.decode s pos).2 := by
  by_cases ha : (s[pos]'h).toNat < 128
  · rw [decode_ascii s pos h ha]; exact Nat.le_refl _
  · exact (decode_high s pos h (by omega)).2
theorem Rel.iter {fr : List (Nat × AV)} {a : Act} {r : Nat} {s : ByteArray} {p q : Nat} (hr : Rel c ⟨fr, []⟩ a w σ φ) (hh : w.heap[r]? = some (.stringIter s p)) (hn : c.w0.heap.size ≤ r) :
    Rel c ⟨fr, []⟩ a { w with heap := w.heap.setIfInBounds r (.stringIter s q) } σ φ := by
  refine ⟨hr.le, hr.fresh, ⟨fun b cs hb => ?_, fun i e hi => by simp [look] at hi, fun i i' e e' p p' hi => by simp [look] at hi⟩, fun i e p hi => by simp [look] at hi, hr.slot, hr.defers, hr.size, ⟨hr.fra.os, hr.fra.tape, hr.fra.output, ?_, hr.fra.drawn, fun b hb hm => ?_⟩, hr.pin⟩
  · obtain ⟨t, f, h1⟩ := hr.inv.sig b cs hb
    refine ⟨t, f, ?_⟩
    have hne : r ≠ b := by rintro rfl; rw [hh] at h1; cases h1
    simp only [Array.getElem?_setIfInBounds_ne hne]; exact h1
  · simp only [Array.size_setIfInBounds]; exact hr.fra.size
  · have hne : r ≠ b := by omega
    simp only [Array.getElem?_setIfInBounds_ne hne]; exact hr.fra.block b hb hm
def runeOf (s : List UInt8) (k : Nat) : Int := ((Utf8.decode ⟨s.toArray⟩ k).1 : Nat)
def widthOf (s : List UInt8) (k : Nat) : Nat := (Utf8.decode ⟨s.toArray⟩ k).2
theorem rune_ascii {s : List UInt8} {k : Nat} {b : UInt8} (h : s[k]? = some b) (hb : b.toNat < 128) : runeOf s k = b.toNat ∧ widthOf s k = 1 := by
  obtain ⟨hl, he⟩ := List.getElem?_eq_some_iff.1 h
  have hk : k < (⟨s.toArray⟩ : ByteArray).size := by simpa [ByteArray.size] using hl
  have hg : (⟨s.toArray⟩ : ByteArray)[k]'hk = b := by
    show s.toArray[k]'(by simpa using hl) = b
    simpa using he
  have := decode_ascii ⟨s.toArray⟩ k hk (by rw [hg]; exact hb)
  unfold runeOf widthOf
  rw [this, hg]
  exact ⟨rfl, rfl⟩
theorem rune_high {s : List UInt8} {k : Nat} {b : UInt8} (h : s[k]? = some b) (hb : ¬ b.toNat < 128) : 128 ≤ runeOf s k := by
  obtain ⟨hl, he⟩ := List.getElem?_eq_some_iff.1 h
  have hk : k < (⟨s.toArray⟩ : ByteArray).size := by simpa [ByteArray.size] using hl
  have hg : (⟨s.toArray⟩ : ByteArray)[k]'hk = b := by
    show s.toArray[k]'(by simpa using hl) = b
    simpa using he
  have := (decode_high ⟨s.toArray⟩ k hk (by rw [hg]; omega)).1
  unfold runeOf; omega
theorem subL_skip {α : Type} {d : Nat} {v : α} {l : List (Nat × α)} : ∀ {kept : List (Nat × α)}, look kept d = none → SubL l kept → SubL ((d, v) :: l) kept
  | [], _, _ => trivial
  | (t, x) :: r, h, hs => by
    simp only [look] at h
    cases hb : Nat.beq t d with
    | true => rw [hb] at h; simp at h
    | false =>
      rw [hb] at h
      simp only [cond_false] at h
      refine ⟨?_, subL_skip h hs.2⟩
      have : Nat.beq d t = false := by
        cases hc : Nat.beq d t with
        | false => rfl
        | true => have := Nat.eq_of_beq_eq_true hc; subst this; rw [Nat.beq_refl] at hb; cases hb
      simp only [look, this, cond_false]
      exact hs.1
theorem RelE.back {fr : List (Nat × AV)} {st' : St} {a a' : Act} {e : Exit} (hmk : c.mks = []) (hr : Rel c ⟨fr, []⟩ a w σ φ) (h : RelE ⟨w, σ, φ, MOf φ [], c.n, c.rd, []⟩ e st' a' w' σ' φ') : RelE c e st' a' w' σ' φ' := by
  rcases h with h | ⟨he, r, h1, h2, h3, h4⟩
  · have hb := Rel.back (rd := c.rd) (mk := []) hr h
    have hd : a'.defers = [] := h.defers
    have : ({ a' with defers := c.mks } : Act) = a' := by rw [hmk, ← hd]
    rw [this] at hb
    exact .inl hb
  · have hb := Rel.back (rd := c.rd) (mk := []) hr h4
    rw [hmk] at hb
    exact .inr ⟨he, r, h1, h2, Nat.le_trans hr.fra.size h3, hb⟩
def strQ (bl : Nat) (Q : Exit → St → Prop) (I : Prop) (kept : List (Nat × AV)) (e : Exit) (st : St) : Prop := (e = .normal ∧ I ∧ SubL st.fr kept) ∨ (e ≠ .normal ∧ blockQ bl Q e st)
def overQ (bl : Nat) (Q : Exit → St → Prop) (e : Exit) (st : St) : Prop := e ≠ .normal ∧ blockQ bl Q e st
theorem strQ_n {bl : Nat} {Q : Exit → St → Prop} {I : Prop} {kept : List (Nat × AV)} (h : I) (hs : SubL st.fr kept) : strQ bl Q I kept .normal st := .inl ⟨rfl, h, hs⟩
theorem strQ_x {bl : Nat} {Q : Exit → St → Prop} {I : Prop} {kept : List (Nat × AV)} {e : Exit} (he : e ≠ .normal) (h : blockQ bl Q e st) : strQ bl Q I kept e st := .inr ⟨he, h⟩
theorem overQ_x {bl : Nat} {Q : Exit → St → Prop} {e : Exit} (he : e ≠ .normal) (h : blockQ bl Q e st) : overQ bl Q e st := ⟨he, h⟩
theorem ok_rangeStr {id1 id2 bl : Nat} {o0 o1 o2 : Oper} {l2 : List Oper} {body2 : Code} {fr kept : List (Nat × AV)} {Q : Exit → St → Prop} {d0 d1 d2 : Nat} {t : TypeId} {x0 : Operand} {s : List UInt8}
    (hmk : c.mks = []) (h0 : o0.op = .move x0) (hg0 : o0.guard = none) (hd0 : o0.dst = some d0) (hb0 : Nat.blt d0 c.n = true) (hx : ev ⟨fr, []⟩ x0 = some (.one (.d (.str s))))
    (h1 : o1.op = .range t (.tmp d0)) (hg1 : o1.guard = none) (hd1 : o1.dst = some d1) (hb1 : Nat.blt d1 c.n = true) (ht : P.underlying t = some .string)
    (h2 : o2.op = .next (.tmp d1) true) (hg2 : o2.guard = none) (hd2 : o2.dst = some d2) (hb2 : Nat.blt d2 c.n = true) (hne : Nat.beq d0 d1 = false)
    (hk : SubL fr kept) (hkd : look kept d0 = none) (hkd1 : look kept d1 = none) (hkd2 : look kept d2 = none) (Inv : Nat → Prop) (hi : Inv 0)
    (hmore : ∀ k, Inv k → k < s.length → ∀ (c2 : Ctx), c2.n = c.n → c2.rd = c.rd → c2.mks = [] → ∀ raw, OkOps P c2 (o2 :: l2).toArray l2 ⟨(d2, .tup [(false, [.d (.bool true)]), (false, [.d (.int .i64 k)]), (false, [.d (.int .i32 (runeOf s k))])]) :: (d1, .one (.d (.raw raw))) :: kept, []⟩
      (fun st' => OkC P c2 body2 st' (strQ bl Q (Inv (k + widthOf s k)) ((d1, .one (.d (.raw raw))) :: kept))))
    (hover : ∀ k, Inv k → s.length ≤ k → ∀ (c2 : Ctx), c2.n = c.n → c2.rd = c.rd → c2.mks = [] → ∀ raw, OkOps P c2 (o2 :: l2).toArray l2 ⟨(d2, .tup [(false, [.d (.bool false)])]) :: (d1, .one (.d (.raw raw))) :: kept, []⟩
      (fun st' => OkC P c2 body2 st' (overQ bl Q))) :
    OkC P c (.seq (.region id1 ⟨[o0, o1]⟩ false) (.block bl (.loop (.seq (.region id2 ⟨o2 :: l2⟩ false) body2)))) ⟨fr, []⟩ Q := by
  intro a w σ φ hr
  refine wpIn_seq (wpIn_region_list ?_)
  have hs := ev_rep hr hx
  replace hs := RepC.d_inv hs
  generalize hv : a.eval x0 = v at hs
  cases hs with
  | str hlen =>
  have hrun0 : (execOp a.eval o0).run P w = .ok (.value (.string ⟨s.toArray⟩)) w := by
    rw [← hv]; simp [execOp, h0]
  refine wl_run hg0 hrun0 ?_
  have hr1 : Rel c ⟨(d0, .one (.d (.str s))) :: fr, []⟩ (a.put o0.dst (.string ⟨s.toArray⟩)) w σ φ := by
    have := hr.putTo (dst := o0.dst) (v := .one (.d (.str s))) (u := .string ⟨s.toArray⟩) (st' := ⟨fr, []⟩) (by rw [hd0]; exact hb0) hr.le hr.fresh hr.inv hr.mine hr.fra hr.pin (fun _ => RepC.d (.str hlen)) (fun s x _ hx => ⟨x, hx, fun z hz => hz⟩)
    rw [hd0] at this ⊢; exact this
  generalize ha1 : a.put o0.dst (.string ⟨s.toArray⟩) = a1 at hr1
  have hv1 : a1.eval (.tmp d0) = .string ⟨s.toArray⟩ := by
    have h3 := ev_rep hr1 (x := .tmp d0) (v := .one (.d (.str s))) (by simp [ev, look])
    replace h3 := RepC.d_inv h3
    generalize a1.eval (.tmp d0) = v1 at h3
    cases h3; rfl
  let ptr : Value := .pointer (some ⟨w.heap.size, 0, none⟩)
  have hrun1 : (execOp a1.eval o1).run P w = .ok (.value ptr) (w.alloc (.stringIter ⟨s.toArray⟩ 0)) := by
    have h4 := run_range_string (P := P) w t ⟨s.toArray⟩ ht
    simp only [execOp, h1, hv1]
    simp only [Sem.run_bind, h4, Result.andThen_ok, Sem.run_pure]
    rfl
  refine wl_run hg1 hrun1 (wpListIn_nil ?_)
  have hrA := hr1.alien (.stringIter ⟨s.toArray⟩ 0)
  have hr2 : Rel c ⟨(d1, .one (.d (.raw ptr))) :: (d0, .one (.d (.str s))) :: fr, []⟩ (a1.put o1.dst ptr) (w.alloc (.stringIter ⟨s.toArray⟩ 0)) σ φ := by
    have := hrA.putTo (dst := o1.dst) (v := .one (.d (.raw ptr))) (u := ptr) (st' := ⟨(d0, .one (.d (.str s))) :: fr, []⟩) (by rw [hd1]; exact hb1) hrA.le hrA.fresh hrA.inv hrA.mine hrA.fra hrA.pin (fun _ => RepC.d (.raw rfl)) (fun s x _ hx => ⟨x, hx, fun z hz => hz⟩)
    rw [hd1] at this ⊢; exact this
  generalize a1.put o1.dst ptr = a2 at hr2
  have hold : c.w0.heap.size ≤ w.heap.size := hr.fra.size
  let r := w.heap.size
  have hr3 : Rel c ⟨(d1, .one (.d (.raw ptr))) :: kept, []⟩ a2 (w.alloc (.stringIter ⟨s.toArray⟩ 0)) σ φ :=
    ⟨hr2.le, hr2.fresh, hr2.inv, hr2.mine, fun s v hv => hr2.slot s v (SubL.look (l' := (d1, .one (.d (.raw ptr))) :: kept) ⟨by simp [look], subL_skip hkd1 (subL_skip hkd hk)⟩ hv), hr2.defers, hr2.size, hr2.fra, hr2.pin⟩
  refine wpIn_block (wpIn_loop (fun a w => ∃ k σ φ, Inv k ∧ Rel c ⟨(d1, .one (.d (.raw ptr))) :: kept, []⟩ a w σ φ ∧ w.heap[r]? = some (.stringIter ⟨s.toArray⟩ k)) (fun _ w => match w.heap[r]? with | some (.stringIter _ p) => s.length - p | _ => 0)
    ⟨0, σ, φ, hi, hr3, alloc_heap_new _ _⟩ ?_)
  clear hr3 hr2 hrA hr1 hrun1 hrun0 hv1 ha1 a1 a2
  rintro a w1 ⟨k, σ1, φ1, hI, hr4, hh⟩
  refine wpIn_seq (wpIn_region_list ?_)
  have hp : a.eval (.tmp d1) = ptr := by
    have h3 := ev_rep hr4 (x := .tmp d1) (v := .one (.d (.raw ptr))) (by simp [ev, look])
    replace h3 := RepC.d_inv h3
    generalize a.eval (.tmp d1) = v1 at h3
    cases h3; rfl
  have hsz : (⟨s.toArray⟩ : ByteArray).size = s.length := by simp [ByteArray.size]
  have fin : ∀ {w2 : World} {st2 : St} {a2 : Act} (hr5 : Rel c ⟨st2.fr, []⟩ a2 w2 σ1 φ1) (hst : st2.sto = []) {R : St → Prop} {K : Exit → St → Prop} (_ : ∀ st', R st' → OkC P ⟨w2, σ1, φ1, MOf φ1 [], c.n, c.rd, []⟩ body2 st' K)
      (_ : OkOps P ⟨w2, σ1, φ1, MOf φ1 [], c.n, c.rd, []⟩ (o2 :: l2).toArray l2 st2 R) {Z : Exit → Act → World → Prop}
      (_ : ∀ e a5 w5 st5 σ5 φ5, K e st5 → RelE ⟨w2, σ1, φ1, MOf φ1 [], c.n, c.rd, []⟩ e st5 a5 w5 σ5 φ5 → Z e a5 w5), wpListIn (fnc c) 0 P (o2 :: l2).toArray (Exit.then (body2.wpIn (fnc c) 0 P Z) Z) l2 a2 w2 := by
    intro w2 st2 a2 hr5 hst R K hR hO Z hZ
    have hd0 : a2.defers = [] := hr5.defers.trans hmk
    have hd : ({ a2 with defers := [] } : Act) = a2 := by rw [← hd0]
    have hr6 := hr5.anew [] c.rd
    rw [hd] at hr6
    obtain ⟨f2, s2⟩ := st2
    simp only at hst hr6
    subst hst
    refine hO a2 w2 σ1 φ1 _ hr6 fun a4 w4 σ4 φ4 st4 hK hr7 => ?_
    exact wpIn_mono (hR st4 hK a4 w4 σ4 φ4 hr7) fun e a5 w5 ⟨st5, σ5, φ5, hq, hre⟩ => hZ e a5 w5 st5 σ5 φ5 hq hre
  have leave : ∀ {e : Exit} {a5 : Act} {w5 : World} {st5 : St} {σ5 : Sig} {φ5 : Pl}, blockQ bl Q e st5 → RelE c e st5 a5 w5 σ5 φ5 → e ≠ .normal → Exit.inBlock bl (fun e a' w' => ∃ st' σ' φ', Q e st' ∧ RelE c e st' a' w' σ' φ') e a5 w5 := by
    intro e a5 w5 st5 σ5 φ5 hq hre hne
    cases e with
    | normal => exact absurd rfl hne
    | exit i =>
      simp only [blockQ] at hq
      cases hb : Nat.beq i bl with
      | true =>
        have hi := Nat.eq_of_beq_eq_true hb
        rw [hb] at hq
        simp only [Exit.inBlock]
        rw [if_pos hi]
        exact ⟨st5, σ5, φ5, hq, .inl (hre.rel (by simp))⟩
      | false =>
        have hi : i ≠ bl := by rintro rfl; rw [Nat.beq_refl] at hb; cases hb
        rw [hb] at hq
        simp only [Exit.inBlock]
        rw [if_neg hi]
        exact ⟨st5, σ5, φ5, hq, hre⟩
    | _ => exact ⟨st5, σ5, φ5, hq, hre⟩
  by_cases hlt : k < s.length
  · have hrun2 := run_next_more (P := P) (ty := o2.type) hh (by rw [hsz]; exact hlt)
    have hrun : (execOp a.eval o2).run P w1 = .ok (.value (.tuple #[.bool true, .int .i64 k, .int .i32 (Utf8.decode ⟨s.toArray⟩ k).1])) { w1 with heap := w1.heap.setIfInBounds r (.stringIter ⟨s.toArray⟩ (k + (Utf8.decode ⟨s.toArray⟩ k).2)) } := by
      simp only [execOp, h2, hp]
      simp only [Sem.run_bind, ptr]
      rw [show (⟨w.heap.size, 0, none⟩ : Addr) = ⟨r, 0, none⟩ from rfl, hrun2]
      rfl
    refine wl_run hg2 hrun ?_
    have hri := hr4.iter (q := k + (Utf8.decode ⟨s.toArray⟩ k).2) hh hold
    have hrl := decode_le ⟨s.toArray⟩ k
    have hr5 := hri.putTo (dst := o2.dst) (v := .tup [(false, [.d (.bool true)]), (false, [.d (.int .i64 k)]), (false, [.d (.int .i32 (runeOf s k))])]) (u := .tuple #[.bool true, .int .i64 k, .int .i32 (Utf8.decode ⟨s.toArray⟩ k).1]) (st' := ⟨(d1, .one (.d (.raw ptr))) :: kept, []⟩) (by rw [hd2]; exact hb2) hri.le hri.fresh hri.inv hri.mine hri.fra hri.pin
      (fun _ => ⟨[_, _, _], rfl, ⟨⟨.d .bool, trivial⟩, ⟨⟨.d (.int (by
        simp only [inR, IntKind.min, IntKind.max, IntKind.signed, IntKind.bits, if_true]; omega)), trivial⟩, ⟨⟨.d (.int (by
        simp only [inR, runeOf, IntKind.min, IntKind.max, IntKind.signed, IntKind.bits, if_true]; omega)), trivial⟩, trivial⟩⟩⟩⟩) (fun s x _ hx => ⟨x, hx, fun z hz => hz⟩)
    rw [hd2] at hr5 ⊢
    refine fin (st2 := ⟨_, []⟩) hr5 rfl (fun st' h => h) (hmore k hI hlt ⟨_, σ1, φ1, MOf φ1 [], c.n, c.rd, []⟩ rfl rfl rfl ptr) ?_
    rintro e a5 w5 st5 σ5 φ5 hq hre
    have hbk := RelE.back hmk hri hre
    rcases hq with ⟨rfl, hI', hsub⟩ | ⟨hne', hq⟩
    · have h6 := hbk.rel (by simp)
      have h7 := hre.rel (by simp)
      have hlt1 : r < w1.heap.size := (Array.getElem?_eq_some_iff.1 hh).1
      have h8 : w5.heap[r]? = some (.stringIter ⟨s.toArray⟩ (k + widthOf s k)) := by
        rw [h7.fra.block r (by simp only [Array.size_setIfInBounds]; exact hlt1) (by rintro ⟨id, e, p, h, _⟩; simp [look] at h)]
        simp [hlt1, widthOf]
      have h9 := h6.dropTo (s' := []) (by simp [look])
      refine ⟨⟨_, σ5, φ5, hI', ⟨h9.le, h9.fresh, h9.inv, h9.mine, fun s v hv => h9.slot s v (hsub.look hv), h9.defers, h9.size, h9.fra, h9.pin⟩, h8⟩, ?_⟩
      · simp only [h8, hh]
        have := decode_wide ⟨s.toArray⟩ k (by rw [hsz]; exact hlt)
        simp only [widthOf]
        omega
    · have := leave hq hbk hne'
      cases e <;> first | exact absurd rfl hne' | exact this
  · have hrun2 := run_next_over (P := P) (ty := o2.type) hh (by rw [hsz]; exact hlt)
    have hrun : (execOp a.eval o2).run P w1 = .ok (.value (.tuple #[.bool false])) w1 := by
      simp only [execOp, h2, hp]
      simp only [Sem.run_bind, ptr]
      rw [show (⟨w.heap.size, 0, none⟩ : Addr) = ⟨r, 0, none⟩ from rfl, hrun2]
      rfl
    refine wl_run hg2 hrun ?_
    have hr5 := hr4.putTo (dst := o2.dst) (v := .tup [(false, [.d (.bool false)])]) (u := .tuple #[.bool false]) (st' := ⟨(d1, .one (.d (.raw ptr))) :: kept, []⟩) (by rw [hd2]; exact hb2) hr4.le hr4.fresh hr4.inv hr4.mine hr4.fra hr4.pin
      (fun _ => ⟨[_], rfl, ⟨⟨.d .bool, trivial⟩, trivial⟩⟩) (fun s x _ hx => ⟨x, hx, fun z hz => hz⟩)
    rw [hd2] at hr5 ⊢
    refine fin (st2 := ⟨_, []⟩) hr5 rfl (fun st' h => h) (hover k hI (by omega) ⟨_, σ1, φ1, MOf φ1 [], c.n, c.rd, []⟩ rfl rfl rfl ptr) ?_
    rintro e a5 w5 st5 σ5 φ5 ⟨hne', hq⟩ hre
    have := leave hq (RelE.back hmk hr4 hre) hne'
    cases e <;> first | exact absurd rfl hne' | exact this
end Go.Abs
namespace Go.Proofs.YtpejdgkaapnekaaGreat
open Go Go.Abs
attribute [local irreducible] OkOps OkC DRun thenQ blockQ RetQ strQ overQ
set_option maxRecDepth 10000
theorem under9 : Tryz.prog.underlying 9 = some .string := by kernel_rfl
theorem odd_byte {s : List UInt8} {k : Nat} (h : k < s.length) : (decide (runeOf s k < 32) || decide (126 < runeOf s k)) = !okByte (at_ s k) := by
  have hb := at_get h
  by_cases ha : (at_ s k).toNat < 128
  · rw [(rune_ascii hb ha).1, Bool.eq_iff_iff]
    simp [okByte]
    omega
  · have := rune_high hb ha
    rw [Bool.eq_iff_iff]
    simp [okByte]
    omega
theorem ok_width {s : List UInt8} {k : Nat} (h : k < s.length) (hb : okByte (at_ s k) = true) : widthOf s k = 1 := by
  simp [okByte] at hb
  exact (rune_ascii (at_get h) (by omega)).2
theorem c341 (s : List UInt8) : CallA Tryz.prog 341 [.one (.d (.str s)), .one (.d (.fn 281 [])), .one (.d (.bool true))] [] (.one (.d (.int .i64 (idxGo (fun c => !okByte c) s 0)))) [] := by
  refine enter tabOk Tryz.func341 rfl (by decide +kernel) rfl fun hok w0 σ0 φ0 M => ?_
  have hl := hok.1.str; clear hok
  repeat' (first | (show OkOps _ _ _ _ _ _; first | refine okops_nil ?_ | refine s_plain tabOk rfl rfl rfl rfl rfl ?_ | fail) | (show OkC _ _ _ _ _; first | refine ok_rangeStr (kept := [(1, _), (2, _)]) rfl rfl rfl rfl rfl rfl rfl rfl rfl rfl under9 rfl rfl rfl rfl rfl (subL_cons rfl (subL_cons rfl subL_nil)) rfl rfl rfl (fun k => k ≤ s.length ∧ idxGo (fun c => !okByte c) s 0 = idxGo (fun c => !okByte c) (s.drop k) k) ⟨Nat.zero_le _, rfl⟩ ?_ ?_ | refine ok_seq ?_ | refine ok_region ?_ | fail) | (show thenQ _ _ _ _; first | refine then_n ?_ | fail) | fail)
  · rintro k ⟨hk, hi⟩ hlt ⟨w1, σ1, φ1, M1, n1, rd1, mk1⟩ hn hrd hmk raw
    dsimp only at hn hrd hmk
    subst hn hrd hmk
    repeat' (first | (show OkOps _ _ _ _ _ _; first | refine okops_nil ?_ | refine s_plain tabOk rfl rfl rfl rfl rfl ?_ | (show OkOps _ _ _ (Oper.mk _ (Op.call _) _ _ _ (_) :: _) _ _; first | refine s_callF rfl rfl rfl rfl rfl rfl rfl rfl (c281 _) rfl ?_ | fail) | fail) | (show OkC _ _ _ _ _; first | refine ok_seq ?_ | refine ok_region ?_ | refine ok_block ?_ | refine ok_skip ?_ | refine ok_ret ?_ | refine ok_condT rfl ?_ | refine ok_cond rfl (fun h => ?_) (fun h => ?_) | fail) | (show thenQ _ _ _ _; first | refine then_n ?_ | refine then_r ?_ | fail) | (show blockQ _ _ _ _; first | refine block_n ?_ | refine block_r ?_ | fail) | (show RetQ _ _ _ _ _ _; first | refine ret_leaf (.inl rfl) rfl rfl ?_ | fail) | (show strQ _ _ _ _ _ _; first | refine strQ_n ?_ (by first | exact subL_nil | exact (subL_cons rfl subL_nil) | exact (subL_cons rfl (subL_cons rfl subL_nil)) | exact (subL_cons rfl (subL_cons rfl (subL_cons rfl subL_nil))) | exact (subL_cons rfl (subL_cons rfl (subL_cons rfl (subL_cons rfl subL_nil)))) | exact (subL_cons rfl (subL_cons rfl (subL_cons rfl (subL_cons rfl (subL_cons rfl subL_nil))))) | exact (subL_cons rfl (subL_cons rfl (subL_cons rfl (subL_cons rfl (subL_cons rfl (subL_cons rfl subL_nil)))))) | exact (subL_cons rfl (subL_cons rfl (subL_cons rfl (subL_cons rfl (subL_cons rfl (subL_cons rfl (subL_cons rfl subL_nil)))))))) | refine strQ_x (by simp) ?_ | fail) | fail)
    · rw [odd_byte hlt] at h
      rw [hi, at_drop hlt]
      simp at h
      simp [idxGo, h]
    · rw [odd_byte hlt] at h
      have hb : okByte (at_ s k) = true := by simpa using h
      rw [ok_width hlt hb]
      refine ⟨by omega, ?_⟩
      rw [hi, at_drop hlt]
      simp [idxGo, hb]
  · rintro k ⟨hk, hi⟩ hge ⟨w1, σ1, φ1, M1, n1, rd1, mk1⟩ hn hrd hmk raw
    dsimp only at hn hrd hmk
    subst hn hrd hmk
    repeat' (first | (show OkOps _ _ _ _ _ _; first | refine okops_nil ?_ | refine s_plain tabOk rfl rfl rfl rfl rfl ?_ | fail) | (show OkC _ _ _ _ _; first | refine ok_seq ?_ | refine ok_region ?_ | refine ok_ret ?_ | refine ok_exit ?_ | refine ok_condF rfl ?_ | fail) | (show thenQ _ _ _ _; first | refine then_n ?_ | refine then_x ?_ | fail) | (show blockQ _ _ _ _; first | refine block_x rfl ?_ | fail) | (show RetQ _ _ _ _ _ _; first | refine ret_leaf (.inl rfl) rfl rfl ?_ | fail) | (show overQ _ _ _ _; first | refine overQ_x (by simp) ?_ | fail) | fail)
    rw [hi, List.drop_eq_nil_of_le hge]
    rfl
theorem c282 (s : List UInt8) : CallA Tryz.prog 282 [.one (.d (.str s)), .one (.d (.fn 281 []))] [] (.one (.d (.int .i64 (idxGo (fun c => !okByte c) s 0)))) [] := by
  refine enter tabOk Tryz.func282 rfl (by decide +kernel) rfl fun hok w0 σ0 φ0 M => ?_
  clear hok
  repeat' (first | (show OkOps _ _ _ _ _ _; first | refine okops_nil ?_ | refine s_plain tabOk rfl rfl rfl rfl rfl ?_ | (show OkOps _ _ _ (Oper.mk _ (Op.call _) _ _ _ (_) :: _) _ _; first | refine s_callF rfl rfl rfl rfl rfl rfl rfl rfl (c341 _) rfl ?_ | fail) | fail) | (show OkC _ _ _ _ _; first | refine ok_seq ?_ | refine ok_region ?_ | refine ok_ret ?_ | fail) | (show thenQ _ _ _ _; first | refine then_n ?_ | fail) | (show RetQ _ _ _ _ _ _; first | refine ret_leaf (.inl rfl) rfl rfl ?_ | fail) | fail)
  all_goals rfl
end Go.Proofs.YtpejdgkaapnekaaGreat
namespace Go.Proofs.YtpejdgkaapnekaaGreat
open Go Go.Abs
attribute [local irreducible] OkOps OkC DRun thenQ blockQ RetQ
set_option maxRecDepth 10000
theorem c280' (a b : Int) (ha : 0 ≤ a) (hb : 0 ≤ b) : CallA Tryz.prog 280 [.one (.d (.int .i64 a)), .one (.d (.int .i64 b))] [] (.one (.d (.int .i64 ((Nat.gcd a.toNat b.toNat : Nat) : Int)))) [] := by
  have := c280 a.toNat b.toNat
  rwa [Int.toNat_of_nonneg ha, Int.toNat_of_nonneg hb] at this
theorem idx_all {s : List UInt8} : ∀ (k : Nat), (decide (idxGo (fun c => !okByte c) s k < 0)) = s.all okByte := by
  induction s with
  | nil => intro k; simp [idxGo]
  | cons c r ih =>
    intro k
    simp only [idxGo, List.all_cons, ← ih (k + 1)]
    rw [Bool.eq_iff_iff]
    by_cases hc : okByte c = true <;> simp [hc]
theorem c233 (k n d : Int) (s : List UInt8) : CallA Tryz.prog 233 [.agg [.d (.int .i64 k), .d (.int .i64 n), .d (.int .i64 d), .d (.str s)]] [] (.one (.d (.bool (rightF k n d s)))) [] := by
  refine enter tabOk Tryz.func233 rfl (by decide +kernel) rfl fun hok w0 σ0 φ0 M => ?_
  have h1 := (hok.1 (.d (.int .i64 n)) (by simp)); replace h1 := OkD.i64 h1; clear hok
  repeat' (first | (show OkOps _ _ _ _ _ _; first | refine okops_nil ?_ | refine s_plain tabOk rfl rfl rfl rfl rfl ?_ | (show OkOps _ _ _ (Oper.mk _ (_) _ _ _ (some _) :: _) _ _; first | refine s_guard rfl rfl (by first | assumption | rfl) ?_ | refine s_out rfl rfl (by first | assumption | rfl) rfl rfl ?_ | refine s_outN rfl rfl rfl rfl ?_ | refine s_split rfl rfl rfl rfl (fun h => ?_) (fun h => ?_) | fail) | (show OkOps _ _ _ (Oper.mk _ (Op.unOp .neg _ _) _ _ _ (_) :: _) _ _; first | refine s_e envOk rfl rfl rfl (step3_neg rfl rfl (wrap64 (by first | omega | ((try simp only [decide_eq_true_eq, decide_eq_false_iff_not, Bool.not_eq_true', Bool.not_true, Bool.not_false, List.length_map, List.length_set, bne_iff_ne, ne_eq, beq_iff_eq, bne_eq_false_iff_eq, beq_eq_false_iff_ne] at *); omega)) (by first | omega | ((try simp only [decide_eq_true_eq, decide_eq_false_iff_not, Bool.not_eq_true', Bool.not_true, Bool.not_false, List.length_map, List.length_set, bne_iff_ne, ne_eq, beq_iff_eq, bne_eq_false_iff_eq, beq_eq_false_iff_ne] at *); omega)))) ?_ | fail) | (show OkOps _ _ _ (Oper.mk _ (Op.pick _ _ _) _ _ _ (_) :: _) _ _; first | refine s_e envOk rfl rfl rfl (step3_pickT rfl rfl (by first | rfl | assumption) rfl) ?_ | refine s_e envOk rfl rfl rfl (step3_pickF rfl rfl (by first | rfl | assumption) rfl) ?_ | fail) | (show OkOps _ _ _ (Oper.mk _ (Op.call _) _ _ _ (_) :: _) _ _; first | refine s_callF rfl rfl rfl rfl rfl rfl rfl rfl (c279 _ _ _ _) rfl ?_ | refine s_callF rfl rfl rfl rfl rfl rfl rfl rfl (c280' _ _ (by first | omega | ((try simp only [decide_eq_true_eq, decide_eq_false_iff_not, Bool.not_eq_true', Bool.not_true, Bool.not_false, List.length_map, List.length_set, bne_iff_ne, ne_eq, beq_iff_eq, bne_eq_false_iff_eq, beq_eq_false_iff_ne] at *); omega)) (by first | omega | ((try simp only [decide_eq_true_eq, decide_eq_false_iff_not, Bool.not_eq_true', Bool.not_true, Bool.not_false, List.length_map, List.length_set, bne_iff_ne, ne_eq, beq_iff_eq, bne_eq_false_iff_eq, beq_eq_false_iff_ne] at *); omega))) rfl ?_ | refine s_callF rfl rfl rfl rfl rfl rfl rfl rfl (c282 _) rfl ?_ | fail) | (show OkOps _ _ _ (Oper.mk _ (Op.box _ _) _ _ _ (_) :: _) _ _; first | refine s_box 0 rfl rfl rfl rfl rfl rfl ?_ | fail) | fail) | (show OkC _ _ _ _ _; first | refine ok_seq ?_ | refine ok_region ?_ | refine ok_block ?_ | refine ok_skip ?_ | refine ok_ret ?_ | refine ok_cond rfl (fun h => ?_) (fun h => ?_) | fail) | (show thenQ _ _ _ _; first | refine then_n ?_ | refine then_r ?_ | fail) | (show blockQ _ _ _ _; first | refine block_n ?_ | refine block_r ?_ | fail) | (show RetQ _ _ _ _ _ _; first | refine ret_leaf (.inl rfl) rfl rfl ?_ | fail) | fail)
  all_goals (try (((simp_all [rightF, ← idx_all 0, at_drop, List.drop_eq_nil_of_le]) <;> first | omega | (rw [Bool.eq_iff_iff]; simp; omega) | grind); done))
end Go.Proofs.YtpejdgkaapnekaaGreat
namespace Go.Proofs.YtpejdgkaapnekaaGreat
open Go Go.Abs
attribute [local irreducible] OkOps OkC DRun thenQ blockQ RetQ
set_option maxRecDepth 10000
theorem c215 (k n d : Int) (s : List UInt8) (t : Int) : CallA Tryz.prog 215 [.agg [.d (.int .i64 k), .d (.int .i64 n), .d (.int .i64 d), .d (.str s)], .one (.d (.int .i64 t))] [] (.one (.d (.bool (fitsF k n d s t)))) [] := by
  refine enter tabOk Tryz.func215 rfl (by decide +kernel) rfl fun hok w0 σ0 φ0 M => ?_
  clear hok
  repeat' (first | (show OkOps _ _ _ _ _ _; first | refine okops_nil ?_ | refine s_plain tabOk rfl rfl rfl rfl rfl ?_ | (show OkOps _ _ _ (Oper.mk _ (_) _ _ _ (some _) :: _) _ _; first | refine s_guard rfl rfl (by first | assumption | rfl) ?_ | refine s_out rfl rfl (by first | assumption | rfl) rfl rfl ?_ | refine s_outN rfl rfl rfl rfl ?_ | refine s_split rfl rfl rfl rfl (fun h => ?_) (fun h => ?_) | fail) | (show OkOps _ _ _ (Oper.mk _ (Op.pick _ _ _) _ _ _ (_) :: _) _ _; first | refine s_e envOk rfl rfl rfl (step3_pickT rfl rfl (by first | rfl | assumption) rfl) ?_ | refine s_e envOk rfl rfl rfl (step3_pickF rfl rfl (by first | rfl | assumption) rfl) ?_ | fail) | (show OkOps _ _ _ (Oper.mk _ (Op.call _) _ _ _ (_) :: _) _ _; first | refine s_callF rfl rfl rfl rfl rfl rfl rfl rfl (c233 _ _ _ _) rfl ?_ | fail) | (show OkOps _ _ _ (Oper.mk _ (Op.box _ _) _ _ _ (_) :: _) _ _; first | refine s_box 0 rfl rfl rfl rfl rfl rfl ?_ | fail) | fail) | (show OkC _ _ _ _ _; first | refine ok_seq ?_ | refine ok_region ?_ | refine ok_block ?_ | refine ok_skip ?_ | refine ok_ret ?_ | refine ok_condT rfl ?_ | refine ok_cond rfl (fun h => ?_) (fun h => ?_) | fail) | (show thenQ _ _ _ _; first | refine then_n ?_ | refine then_r ?_ | fail) | (show blockQ _ _ _ _; first | refine block_n ?_ | refine block_r ?_ | fail) | (show RetQ _ _ _ _ _ _; first | refine ret_leaf (.inl rfl) rfl rfl ?_ | fail) | fail)
  all_goals (try (((simp_all [fitsF, at_drop, List.drop_eq_nil_of_le]) <;> first | omega | (rw [Bool.eq_iff_iff]; simp; omega) | grind); done))
  all_goals (by_cases hk : k = 0 <;> simp_all [fitsF, rightF])
  all_goals omega
end Go.Proofs.YtpejdgkaapnekaaGreat
namespace Go.Proofs.YtpejdgkaapnekaaGreat
open Go Go.Abs
attribute [local irreducible] OkOps OkC DRun thenQ blockQ RetQ
set_option maxRecDepth 10000
structure Cell where
  at' : List Int
  vals : List Val
  deriving Inhabited
def encCell (c : Cell) : List D := [encInts c.at', encVals c.vals]
def encCells (l : List Cell) : D := .sl 2 48 (l.map encCell)
def valsGo : List Attr → List Val → Int
  | a :: ats, v :: vs => if !fitsF v.kind v.num v.den v.str a.type then 12 else valsGo ats vs
  | _, _ => 0
def cellF (ds : List Dim) (ats : List Attr) (at' : List Int) (vs : List Val) : Int :=
  if (at'.length : Int) ≠ ds.length ∨ (vs.length : Int) ≠ ats.length then 13 else if !ofF ds at' then 3 else valsGo ats vs
theorem c161 (ds : List Dim) (ats : List Attr) (at' : List Int) (vs : List Val) : CallA Tryz.prog 161 [.one (.d (encDims ds)), .one (.d (encAttrs ats)), .agg [.d (encInts at'), .d (encVals vs)]] [] (.one (.d (.int .i64 (cellF ds ats at' vs)))) [] := by
  refine enter tabOk Tryz.func161 rfl (by decide +kernel) rfl fun hok w0 σ0 φ0 M => ?_
  have h1 := hok.1.sl.1; have h2 := hok.2.1.sl.1; have h3 := OkD.sl (hok.2.2.1 (.d (encInts at')) (by simp)); have h4 := OkD.sl (hok.2.2.1 (.d (encVals vs)) (by simp)); clear hok
  replace h3 := h3.1; replace h4 := h4.1; simp only [List.length_map] at h1 h2 h3 h4
  repeat' (first | (show OkOps _ _ _ _ _ _; first | refine okops_nil ?_ | refine s_plain tabOk rfl rfl rfl rfl rfl ?_ | (show OkOps _ _ _ (Oper.mk _ (_) _ _ _ (some _) :: _) _ _; first | refine s_guard rfl rfl (by first | assumption | rfl) ?_ | refine s_out rfl rfl (by first | assumption | rfl) rfl rfl ?_ | refine s_split rfl rfl rfl rfl (fun h => ?_) (fun h => ?_) | fail) | (show OkOps _ _ _ (Oper.mk _ (Op.binOp .add _ _ _ _) _ _ _ (_) :: _) _ _; first | refine s_e envOk rfl rfl rfl (step3_add rfl rfl rfl rfl (wrap64 (by omega) (by omega))) ?_ | fail) | (show OkOps _ _ _ (Oper.mk _ (Op.pick _ _ _) _ _ _ (_) :: _) _ _; first | refine s_e envOk rfl rfl rfl (step3_pickT rfl rfl (by first | rfl | assumption) rfl) ?_ | refine s_e envOk rfl rfl rfl (step3_pickF rfl rfl (by first | rfl | assumption) rfl) ?_ | fail) | (show OkOps _ _ _ (Oper.mk _ (Op.indexAddr _ _ _) _ _ _ (_) :: _) _ _; first | refine s_e envOk rfl rfl rfl (step3_idx rfl rfl rfl rfl rfl (by first | omega | ((try simp only [decide_eq_true_eq, decide_eq_false_iff_not, Bool.not_eq_true', Bool.not_true, Bool.not_false, List.length_map, List.length_set, bne_iff_ne, ne_eq, beq_iff_eq, bne_eq_false_iff_eq, beq_eq_false_iff_ne] at *); omega)) (at_map (by first | omega | ((try simp only [decide_eq_true_eq, decide_eq_false_iff_not, Bool.not_eq_true', Bool.not_true, Bool.not_false, List.length_map, List.length_set, bne_iff_ne, ne_eq, beq_iff_eq, bne_eq_false_iff_eq, beq_eq_false_iff_ne] at *); omega)))) ?_ | fail) | (show OkOps _ _ _ (Oper.mk _ (Op.call _) _ _ _ (_) :: _) _ _; first | refine s_callF rfl rfl rfl rfl rfl rfl rfl rfl (c204 _ _) rfl ?_ | fail) | (show OkOps _ _ _ (Oper.mk _ (Op.box _ _) _ _ _ (_) :: _) _ _; first | refine s_box 0 rfl rfl rfl rfl rfl rfl ?_ | fail) | (show OkOps _ _ _ (Oper.mk _ (Op.alloc _) _ _ _ (_) :: _) _ _; first | refine s_alloc tabOk 1 rfl rfl rfl rfl rfl ?_ | fail) | refine s_store envOk rfl rfl rfl ?_ | fail) | (show OkC _ _ _ _ _; first | refine ok_seq ?_ | refine ok_region ?_ | refine ok_block ?_ | refine ok_skip ?_ | refine ok_ret ?_ | refine ok_exit ?_ | refine ok_condT rfl ?_ | refine ok_cond rfl (fun h => ?_) (fun h => ?_) | refine ok_regionD progOk.mo ?_ | refine s_loop 6 rfl [(1, _), (29, _), (30, _)] (subL_cons rfl (subL_cons rfl (subL_cons rfl subL_nil))) (fun (k : Nat) => [(31, .one (.d (.int .i64 k)))]) (fun (k : Nat) => k ≤ vs.length ∧ at'.length = ds.length ∧ vs.length = ats.length ∧ ofF ds at' = true ∧ cellF ds ats at' vs = valsGo (ats.drop k) (vs.drop k)) (fun (k : Nat) => vs.length - k) 0 (subL_cons rfl subL_nil) ?_ (fun k ⟨hk, hq, hq2, hof, hs⟩ => ?_) | fail) | (show thenQ _ _ _ _; first | refine then_n ?_ | refine then_r ?_ | refine then_x ?_ | fail) | (show blockQ _ _ _ _; first | refine block_n ?_ | refine block_r ?_ | refine block_x rfl ?_ | fail) | (show RetQ _ _ _ _ _ _; first | refine ret_leaf (.inl rfl) rfl rfl ?_ | fail) | (show DRun _ _ _ _ _ _ _ _; first | refine d_nil (by kernel_rfl) ?_ | refine d_e envOk rfl rfl rfl (step3_plain rfl rfl) ?_ | (show DRun _ _ _ _ (Oper.mk _ (Op.indexAddr _ _ _) _ _ _ (_) :: _) _ _ _; first | refine d_e envOk rfl rfl rfl (step3_idx rfl rfl rfl rfl rfl (by first | omega | ((try simp only [decide_eq_true_eq, decide_eq_false_iff_not, Bool.not_eq_true', Bool.not_true, Bool.not_false, List.length_map, List.length_set, bne_iff_ne, ne_eq, beq_iff_eq, bne_eq_false_iff_eq, beq_eq_false_iff_ne] at *); omega)) (at_map (by first | omega | ((try simp only [decide_eq_true_eq, decide_eq_false_iff_not, Bool.not_eq_true', Bool.not_true, Bool.not_false, List.length_map, List.length_set, bne_iff_ne, ne_eq, beq_iff_eq, bne_eq_false_iff_eq, beq_eq_false_iff_ne] at *); omega)))) ?_ | fail) | (show DRun _ _ _ _ (Oper.mk _ (Op.call _) _ _ _ (_) :: _) _ _ _; first | refine d_l rfl rfl (loc_callF' rfl rfl rfl rfl rfl rfl (c215 _ _ _ _ _) rfl) ?_ | fail) | fail) | (show Exists _; first | refine Exists.intro (k + 1) ⟨?_, ?_, (by first | exact subL_nil | exact (subL_cons rfl subL_nil) | exact (subL_cons rfl (subL_cons rfl subL_nil)) | exact (subL_cons rfl (subL_cons rfl (subL_cons rfl subL_nil))) | exact (subL_cons rfl (subL_cons rfl (subL_cons rfl (subL_cons rfl subL_nil)))) | exact (subL_cons rfl (subL_cons rfl (subL_cons rfl (subL_cons rfl (subL_cons rfl subL_nil))))) | exact (subL_cons rfl (subL_cons rfl (subL_cons rfl (subL_cons rfl (subL_cons rfl (subL_cons rfl subL_nil)))))) | exact (subL_cons rfl (subL_cons rfl (subL_cons rfl (subL_cons rfl (subL_cons rfl (subL_cons rfl (subL_cons rfl subL_nil))))))) | exact (subL_cons rfl (subL_cons rfl (subL_cons rfl (subL_cons rfl (subL_cons rfl (subL_cons rfl (subL_cons rfl (subL_cons rfl subL_nil))))))))), (subL_cons rfl subL_nil), (subL_cons rfl (subL_cons rfl (subL_cons rfl subL_nil)))⟩ | fail) | fail)
  all_goals (try (((simp_all [cellF, valsGo, at_drop, List.drop_eq_nil_of_le]) <;> first | omega | (rw [Bool.eq_iff_iff]; simp; omega) | grind); done))
end Go.Proofs.YtpejdgkaapnekaaGreat
namespace Go.Proofs.YtpejdgkaapnekaaGreat
open Go Go.Abs
attribute [local irreducible] OkOps OkC DRun thenQ blockQ RetQ
set_option maxRecDepth 10000
def cellsGo (ds : List Dim) (ats : List Attr) : Option (List Int) → List Cell → Int
  | _, [] => 0
  | none, c :: r => if cellF ds ats c.at' c.vals ≠ 0 then cellF ds ats c.at' c.vals else cellsGo ds ats (some c.at') r
  | some p, c :: r => if cellF ds ats c.at' c.vals ≠ 0 then cellF ds ats c.at' c.vals else if cmpF p c.at' = 0 then 5 else if 0 < cmpF p c.at' then 2 else cellsGo ds ats (some c.at') r
def checkF (ds : List Dim) (ats : List Attr) (cs : List Cell) : Int := if schemaF ds ats ≠ 0 then schemaF ds ats else if 4096 < (cs.length : Int) then 9 else cellsGo ds ats none cs
def pv (cs : List Cell) (k : Nat) : Option (List Int) := if k = 0 then none else some (at_ cs ((k : Int) - 1).toNat).at'
theorem pv_zero {cs : List Cell} : pv cs 0 = none := rfl
theorem pv_pos {cs : List Cell} {k : Nat} (h : ¬ k = 0) : pv cs k = some (at_ cs ((k : Int) - 1).toNat).at' := by simp [pv, h]
theorem pv_succ {cs : List Cell} {k : Nat} : pv cs (k + 1) = some (at_ cs k).at' := by
  have : (((k + 1 : Nat) : Int) - 1).toNat = k := by omega
  rw [pv_pos (by omega), this]
theorem cellsGo_bad {ds : List Dim} {ats : List Attr} {p : Option (List Int)} {c : Cell} {r : List Cell} (h : cellF ds ats c.at' c.vals ≠ 0) : cellsGo ds ats p (c :: r) = cellF ds ats c.at' c.vals := by cases p <;> simp [cellsGo, h]
theorem cmpF_range : ∀ {a b : List Int}, cmpF a b = 0 ∨ cmpF a b = 1 ∨ cmpF a b = -1
  | [], [] => by simp [cmpF]
  | [], _ :: _ => by simp [cmpF]
  | _ :: _, [] => by simp [cmpF]
  | x :: xs, y :: ys => by
    simp only [cmpF]
    split
    · simp
    · split
      · simp
      · exact cmpF_range
theorem cmpF_pos {a b : List Int} : 0 < cmpF a b ↔ cmpF a b = 1 := by
  rcases cmpF_range (a := a) (b := b) with h | h | h <;> simp [h]
end Go.Proofs.YtpejdgkaapnekaaGreat
namespace Go.Proofs.YtpejdgkaapnekaaGreat
open Go Go.Abs
def ltC (x y : Cell) : Prop := cmpF x.at' y.at' < 0
def leC (x y : Cell) : Bool := decide (cmpF x.at' y.at' ≤ 0)
def diffC (x y : Cell) : Prop := x.at' ≠ y.at'
def sortF (cs : List Cell) : List Cell := cs.mergeSort leC
theorem sortF_perm (cs : List Cell) : (sortF cs).Perm cs := List.mergeSort_perm cs leC
theorem ltC_trans {x y z : Cell} (h1 : ltC x y) (h2 : ltC y z) : ltC x z := by
  unfold ltC at *
  have h := cmpF_le_trans x.at' y.at' z.at' (by omega) (by omega)
  have := h.2
  by_cases h0 : cmpF x.at' z.at' = 0
  · have := this h0; omega
  · omega
theorem ltC_irrefl {x : Cell} (h : ltC x x) : False := by
  unfold ltC at h; rw [cmpF_refl] at h; omega
theorem ltC_diff {x y : Cell} (h : ltC x y) : diffC x y := fun e => by
  unfold ltC at h; rw [e, cmpF_refl] at h; omega
theorem lt_of_le_diff {x y : Cell} (h : ¬ cmpF y.at' x.at' < 0) (hd : diffC x y) : ltC x y := by
  have h1 := cmpF_swap x.at' y.at'
  unfold ltC
  by_cases h0 : cmpF x.at' y.at' = 0
  · exact absurd (cmpF_eq _ _ h0) hd
  · omega
theorem diffC_symm : ∀ {x y : Cell}, diffC x y → diffC y x := fun h e => h e.symm
theorem sorted_uniq : ∀ {l m : List Cell}, l.Perm m → l.Pairwise ltC → m.Pairwise ltC → l = m
  | [], m, hp, _, _ => (List.nil_perm.1 hp).symm ▸ rfl
  | x :: l, [], hp, _, _ => by have := hp.length_eq; simp at this
  | x :: l, y :: m, hp, h1, h2 => by
    rw [List.pairwise_cons] at h1 h2
    have hxy : x = y := by
      have hx : x ∈ y :: m := hp.mem_iff.1 List.mem_cons_self
      have hy : y ∈ x :: l := hp.mem_iff.2 List.mem_cons_self
      rcases List.mem_cons.1 hx with e | hx
      · exact e
      · rcases List.mem_cons.1 hy with e | hy
        · exact e.symm
        · exact (ltC_irrefl (ltC_trans (h1.1 y hy) (h2.1 x hx))).elim
    subst hxy
    rw [sorted_uniq (hp.cons_inv) h1.2 h2.2]
theorem diff_of_sorted {l : List Cell} (h : l.Pairwise ltC) : l.Pairwise diffC := h.imp ltC_diff
theorem perm_diff {l m : List Cell} (hp : l.Perm m) (h : m.Pairwise diffC) : l.Pairwise diffC := (hp.pairwise_iff (fun h => diffC_symm h)).2 h
theorem sortF_sorted {cs : List Cell} (h : cs.Pairwise diffC) : (sortF cs).Pairwise ltC := by
  have h1 : (sortF cs).Pairwise fun a b => leC a b = true := List.pairwise_mergeSort (le := leC) (fun a b c h1 h2 => by
    simp only [leC, decide_eq_true_eq] at *
    exact (cmpF_le_trans _ _ _ h1 h2).1) (fun a b => by
    have := cmpF_swap a.at' b.at'
    simp only [leC, Bool.or_eq_true, decide_eq_true_eq]; omega) cs
  have h2 := perm_diff (sortF_perm cs) h
  refine (h1.and h2).imp fun {a b} h => ?_
  have hl : cmpF a.at' b.at' ≤ 0 := by simpa [leC] using h.1
  refine lt_of_le_diff ?_ h.2
  have := cmpF_swap a.at' b.at'
  omega
theorem sort_uniq {cs : List Cell} (h : cs.Pairwise diffC) : ∀ l : List Cell, l.Perm cs → l.Pairwise (fun x y => ¬ cmpF y.at' x.at' < 0) → l = sortF cs := fun l hp hs =>
  sorted_uniq (hp.trans (sortF_perm cs).symm) ((hs.and (perm_diff hp h)).imp fun {a b} h => lt_of_le_diff h.1 h.2) (sortF_sorted h)
theorem sortF_id {cs : List Cell} (h : cs.Pairwise ltC) : sortF cs = cs := sorted_uniq (sortF_perm cs) (sortF_sorted (diff_of_sorted h)) h
theorem sortF_length (cs : List Cell) : (sortF cs).length = cs.length := (sortF_perm cs).length_eq
theorem sortF_filter {cs ds : List Cell} (p : Cell → Bool) (h : cs.Pairwise diffC) (hd : ds.Pairwise ltC) (he : (cs.filter p).Perm ds) : (sortF cs).filter p = ds :=
  sorted_uniq (((sortF_perm cs).filter p).trans he) ((sortF_sorted h).filter p) hd
theorem cellsGo_some {ds : List Dim} {ats : List Attr} : ∀ {cs : List Cell} {p : List Int}, cellsGo ds ats (some p) cs = 0 → (∀ c ∈ cs, cmpF p c.at' < 0) ∧ cs.Pairwise ltC ∧ ∀ c ∈ cs, cellF ds ats c.at' c.vals = 0
  | [], p, _ => ⟨by simp, .nil, by simp⟩
  | c :: r, p, h => by
    simp only [cellsGo] at h
    split at h
    · rename_i h1; exact absurd h h1
    split at h
    · omega
    split at h
    · omega
    rename_i h1 h2 h3
    have hlt : cmpF p c.at' < 0 := by omega
    obtain ⟨i1, i2, i3⟩ := cellsGo_some h
    refine ⟨fun x hx => ?_, List.pairwise_cons.2 ⟨i1, i2⟩, fun x hx => ?_⟩
    · rcases List.mem_cons.1 hx with rfl | hx
      · exact hlt
      · exact ltC_trans (x := ⟨p, []⟩) (y := c) hlt (i1 x hx)
    · rcases List.mem_cons.1 hx with rfl | hx
      · simpa using h1
      · exact i3 x hx
theorem cellsGo_none {ds : List Dim} {ats : List Attr} {cs : List Cell} (h : cellsGo ds ats none cs = 0) : cs.Pairwise ltC ∧ ∀ c ∈ cs, cellF ds ats c.at' c.vals = 0 := by
  cases cs with
  | nil => exact ⟨.nil, by simp⟩
  | cons c r =>
    simp only [cellsGo] at h
    split at h
    · rename_i h1; exact absurd h h1
    rename_i h1
    obtain ⟨i1, i2, i3⟩ := cellsGo_some h
    refine ⟨List.pairwise_cons.2 ⟨i1, i2⟩, fun x hx => ?_⟩
    rcases List.mem_cons.1 hx with rfl | hx
    · simpa using h1
    · exact i3 x hx
structure OkA (ds : List Dim) (ats : List Attr) (cs : List Cell) : Prop where
  sch : schemaF ds ats = 0
  few : cs.length ≤ 4096
  srt : cs.Pairwise ltC
  cel : ∀ c ∈ cs, cellF ds ats c.at' c.vals = 0
theorem okA {ds : List Dim} {ats : List Attr} {cs : List Cell} (h : checkF ds ats cs = 0) : OkA ds ats cs := by
  unfold checkF at h
  split at h
  · rename_i h1; exact absurd h h1
  split at h
  · omega
  rename_i h1 h2
  obtain ⟨h3, h4⟩ := cellsGo_none h
  exact ⟨by simpa using h1, by omega, h3, h4⟩
theorem ok_cellsGo {ds : List Dim} {ats : List Attr} : ∀ {cs : List Cell} {p : Option (List Int)}, (∀ q, p = some q → ∀ c ∈ cs, cmpF q c.at' < 0) → cs.Pairwise ltC → (∀ c ∈ cs, cellF ds ats c.at' c.vals = 0) → cellsGo ds ats p cs = 0
  | [], p, _, _, _ => by cases p <;> rfl
  | c :: r, p, h1, h2, h3 => by
    rw [List.pairwise_cons] at h2
    have h4 := h3 c List.mem_cons_self
    have ih : cellsGo ds ats (some c.at') r = 0 := ok_cellsGo (fun q e x hx => by cases e; exact h2.1 x hx) h2.2 (fun x hx => h3 x (List.mem_cons_of_mem _ hx))
    cases p with
    | none => simp only [cellsGo, h4, ne_eq, not_true_eq_false, if_false, ih]
    | some q =>
      have h5 := h1 q rfl c List.mem_cons_self
      simp only [cellsGo, h4, ne_eq, not_true_eq_false, if_false, ih]
      rw [if_neg (by omega), if_neg (by omega)]
theorem okA_check {ds : List Dim} {ats : List Attr} {cs : List Cell} (h : OkA ds ats cs) : checkF ds ats cs = 0 := by
  unfold checkF
  rw [if_neg (by simp [h.sch]), if_neg (by have := h.few; omega)]
  exact ok_cellsGo (fun q e => by cases e) h.srt h.cel
theorem schemaF_ok {ds : List Dim} {ats : List Attr} (h : schemaF ds ats = 0) : dimsF ds = 0 ∧ 1 ≤ ats.length ∧ ats.length ≤ 6 ∧ attrsGo (ds.map Dim.name) ats = 0 := by
  unfold schemaF at h
  split at h
  · rename_i h1; exact absurd h h1
  split at h
  · omega
  rename_i h1 h2
  exact ⟨by simpa using h1, by omega, by omega, h⟩
theorem dimsGo_ok : ∀ {ds : List Dim} {met : List (List UInt8)}, dimsGo met ds = 0 → (∀ d ∈ ds, boundsF d.lo d.hi = true ∧ nameF d.name = true ∧ d.name ∉ met) ∧ (ds.map Dim.name).Nodup
  | [], met, _ => ⟨by simp, by simp⟩
  | d :: r, met, h => by
    simp only [dimsGo] at h
    split at h
    · omega
    split at h
    · omega
    rename_i h1 h2
    obtain ⟨i1, i2⟩ := dimsGo_ok h
    simp only [Bool.or_eq_true, Bool.not_eq_true', not_or, Bool.not_eq_false, Bool.not_eq_true, List.contains_eq_mem, decide_eq_true_eq, decide_eq_false_iff_not] at h1
    refine ⟨fun x hx => ?_, ?_⟩
    · rcases List.mem_cons.1 hx with rfl | hx
      · exact ⟨by simpa using h2, h1.1, h1.2⟩
      · obtain ⟨j1, j2, j3⟩ := i1 x hx
        exact ⟨j1, j2, fun hm => j3 (List.mem_append.2 (.inl hm))⟩
    · rw [List.map_cons, List.nodup_cons]
      refine ⟨fun hm => ?_, i2⟩
      obtain ⟨x, hx, he⟩ := List.mem_map.1 hm
      exact (i1 x hx).2.2 (by rw [he]; simp)
theorem dimsF_ok {ds : List Dim} (h : dimsF ds = 0) : 1 ≤ ds.length ∧ ds.length ≤ 4 ∧ (∀ d ∈ ds, boundsF d.lo d.hi = true ∧ nameF d.name = true) ∧ (ds.map Dim.name).Nodup := by
  unfold dimsF at h
  split at h
  · omega
  rename_i h1
  obtain ⟨h2, h3⟩ := dimsGo_ok h
  exact ⟨by omega, by omega, fun d hd => ⟨(h2 d hd).1, (h2 d hd).2.1⟩, h3⟩
theorem boundsF_ok {lo hi : Int} : boundsF lo hi = true ↔ -1073741824 ≤ lo ∧ lo ≤ 1073741824 ∧ lo ≤ hi ∧ hi ≤ 1073741825 := by
  simp only [boundsF, Bool.and_eq_true, decide_eq_true_eq]; omega
theorem cellF_ok {ds : List Dim} {ats : List Attr} {at' : List Int} {vs : List Val} : cellF ds ats at' vs = 0 ↔ at'.length = ds.length ∧ vs.length = ats.length ∧ withinL ds at' = true ∧ valsGo ats vs = 0 := by
  unfold cellF
  constructor
  · intro h
    split at h
    · omega
    rename_i h1
    have e1 : at'.length = ds.length := by omega
    split at h
    · omega
    rename_i h2
    refine ⟨e1, by omega, ?_, h⟩
    simpa [ofF, e1] using h2
  · rintro ⟨h1, h2, h3, h4⟩
    rw [if_neg (by omega), if_neg (by simp [ofF, h1, h3])]
    exact h4
theorem withinL_iff : ∀ {ds : List Dim} {xs : List Int}, xs.length = ds.length → (withinL ds xs = true ↔ ∀ i, i < ds.length → (at_ ds i).lo ≤ at_ xs i ∧ at_ xs i ≤ lastF (at_ ds i).hi)
  | [], [], _ => by simp [withinL]
  | d :: ds, x :: xs, h => by
    have ih := withinL_iff (ds := ds) (xs := xs) (by simpa using h)
    simp only [withinL, Bool.and_eq_true, decide_eq_true_eq, ih]
    constructor
    · rintro ⟨⟨h1, h2⟩, h3⟩ i hi
      cases i with
      | zero => exact ⟨h1, h2⟩
      | succ i => exact h3 i (by simpa using hi)
    · intro h4
      exact ⟨⟨(h4 0 (by simp)).1, (h4 0 (by simp)).2⟩, fun i hi => h4 (i + 1) (by simpa using hi)⟩
  | [], _ :: _, h => by simp at h
  | _ :: _, [], h => by simp at h
end Go.Proofs.YtpejdgkaapnekaaGreat
namespace Go.Proofs.YtpejdgkaapnekaaGreat
open Go Go.Abs
attribute [local irreducible] OkOps OkC DRun thenQ blockQ RetQ
set_option maxRecDepth 10000
theorem nameF_iff {s : List UInt8} : nameF s = true ↔ (1 ≤ s.length ∧ s.length ≤ 12) ∧ letterF (at_ s 0).toNat = true ∧ ∀ j, j < s.length → furtherF (at_ s j).toNat = true := by
  simp only [nameF, Bool.and_eq_true, decide_eq_true_eq, List.all_eq_true, and_assoc]
  refine and_congr_right fun _ => and_congr_right fun _ => and_congr_right fun _ => ⟨fun h j hj => h _ (at_mem hj), fun h x hx => ?_⟩
  obtain ⟨j, hj⟩ := List.getElem?_of_mem hx
  have hl := (List.getElem?_eq_some_iff.1 hj).1
  rw [at_get hl] at hj
  rw [← Option.some.inj hj]; exact h j hl
theorem c142 (s : List UInt8) : CallA Tryz.prog 142 [.one (.d (.str s))] [] (.one (.d (.bool (nameF s)))) [] := by
  refine enter tabOk Tryz.func142 rfl (by decide +kernel) rfl fun hok w0 σ0 φ0 M => ?_
  have h1 := hok.1.str; clear hok
  repeat' (first | (show OkOps _ _ _ _ _ _; first | refine okops_nil ?_ | refine s_plain tabOk rfl rfl rfl rfl rfl ?_ | (show OkOps _ _ _ (Oper.mk _ (_) _ _ _ (some _) :: _) _ _; first | refine s_guard rfl rfl (by first | assumption | rfl) ?_ | refine s_out rfl rfl (by first | assumption | rfl) rfl rfl ?_ | refine s_outN rfl rfl rfl rfl ?_ | refine s_split rfl rfl rfl rfl (fun h => ?_) (fun h => ?_) | fail) | (show OkOps _ _ _ (Oper.mk _ (Op.convert _ _ _) _ _ _ (_) :: _) _ _; first | refine s_bytes tabOk rfl rfl rfl rfl rfl rfl (by first | omega | ((try simp only [decide_eq_true_eq, decide_eq_false_iff_not, Bool.not_eq_true', Bool.not_true, Bool.not_false, List.length_map, List.length_set, bne_iff_ne, ne_eq, beq_iff_eq, bne_eq_false_iff_eq, beq_eq_false_iff_ne] at *); omega)) ?_ | fail) | (show OkOps _ _ _ (Oper.mk _ (Op.binOp .add _ _ _ _) _ _ _ (_) :: _) _ _; first | refine s_e envOk rfl rfl rfl (step3_add rfl rfl rfl rfl (wrap64 (by omega) (by omega))) ?_ | fail) | (show OkOps _ _ _ (Oper.mk _ (Op.pick _ _ _) _ _ _ (_) :: _) _ _; first | refine s_e envOk rfl rfl rfl (step3_pickT rfl rfl (by first | rfl | assumption) rfl) ?_ | refine s_e envOk rfl rfl rfl (step3_pickF rfl rfl (by first | rfl | assumption) rfl) ?_ | fail) | (show OkOps _ _ _ (Oper.mk _ (Op.indexAddr _ _ _) _ _ _ (_) :: _) _ _; first | refine s_e envOk rfl rfl rfl (step3_idx rfl rfl rfl rfl rfl (by first | omega | ((try simp only [decide_eq_true_eq, decide_eq_false_iff_not, Bool.not_eq_true', Bool.not_true, Bool.not_false, List.length_map, List.length_set, bne_iff_ne, ne_eq, beq_iff_eq, bne_eq_false_iff_eq, beq_eq_false_iff_ne] at *); omega)) (at_map (by first | omega | ((try simp only [decide_eq_true_eq, decide_eq_false_iff_not, Bool.not_eq_true', Bool.not_true, Bool.not_false, List.length_map, List.length_set, bne_iff_ne, ne_eq, beq_iff_eq, bne_eq_false_iff_eq, beq_eq_false_iff_ne] at *); omega)))) ?_ | fail) | fail) | (show OkC _ _ _ _ _; first | refine ok_seq ?_ | refine ok_region ?_ | refine ok_block ?_ | refine ok_skip ?_ | refine ok_ret ?_ | refine ok_exit ?_ | refine ok_condT rfl ?_ | refine ok_condF rfl ?_ | refine ok_cond rfl (fun h => ?_) (fun h => ?_) | refine s_loop 4 rfl [(15, _), (16, _)] (subL_cons rfl (subL_cons rfl subL_nil)) (fun (k : Nat) => [(17, .one (.d (.int .i64 k)))]) (fun (k : Nat) => k ≤ s.length ∧ 1 ≤ s.length ∧ s.length ≤ 12 ∧ (0 < k → letterF (at_ s 0).toNat = true) ∧ (∀ j, j < k → furtherF (at_ s j).toNat = true)) (fun (k : Nat) => s.length - k) 0 (subL_cons rfl subL_nil) ?_ (fun k ⟨hk, hq, hq2, hf, hs⟩ => ?_) | fail) | (show thenQ _ _ _ _; first | refine then_n ?_ | refine then_r ?_ | refine then_x ?_ | fail) | (show blockQ _ _ _ _; first | refine block_n ?_ | refine block_r ?_ | refine block_x rfl ?_ | fail) | (show RetQ _ _ _ _ _ _; first | refine ret_leaf (.inl rfl) rfl rfl ?_ | fail) | (show Exists _; first | refine Exists.intro (k + 1) ⟨?_, ?_, (by first | exact subL_nil | exact (subL_cons rfl subL_nil) | exact (subL_cons rfl (subL_cons rfl subL_nil)) | exact (subL_cons rfl (subL_cons rfl (subL_cons rfl subL_nil))) | exact (subL_cons rfl (subL_cons rfl (subL_cons rfl (subL_cons rfl subL_nil)))) | exact (subL_cons rfl (subL_cons rfl (subL_cons rfl (subL_cons rfl (subL_cons rfl subL_nil))))) | exact (subL_cons rfl (subL_cons rfl (subL_cons rfl (subL_cons rfl (subL_cons rfl (subL_cons rfl subL_nil)))))) | exact (subL_cons rfl (subL_cons rfl (subL_cons rfl (subL_cons rfl (subL_cons rfl (subL_cons rfl (subL_cons rfl subL_nil))))))) | exact (subL_cons rfl (subL_cons rfl (subL_cons rfl (subL_cons rfl (subL_cons rfl (subL_cons rfl (subL_cons rfl (subL_cons rfl subL_nil))))))))), (subL_cons rfl subL_nil), (subL_cons rfl (subL_cons rfl subL_nil))⟩ | fail) | fail)
  all_goals (try simp only [decide_eq_true_eq, decide_eq_false_iff_not, Bool.not_eq_true', Bool.not_eq_false', Bool.not_true, Bool.not_false, List.length_map, bne_iff_ne, ne_eq, beq_iff_eq, bne_eq_false_iff_eq, beq_eq_false_iff_ne, Int.toNat_natCast] at *)
  all_goals first
    | omega
    | (refine ⟨by omega, by omega, by omega, ?_, ?_⟩
       · intro hk0
         by_cases h0 : 0 < k
         · exact hf h0
         · have hk0' : k = 0 := by omega
           subst hk0'
           simp only [letterF, Bool.and_eq_true, decide_eq_true_eq]; omega
       · intro j hj
         rcases Nat.lt_or_ge j k with hjk | hjk
         · exact hs j hjk
         · have hje : j = k := by omega
           subst hje
           simp only [furtherF, letterF, Bool.or_eq_true, Bool.and_eq_true, decide_eq_true_eq]; omega)
    | (congr 3; symm; rw [Bool.eq_false_iff, ne_eq, nameF_iff]; rintro ⟨hlen, h0, hj⟩
       first
         | omega
         | (have hjk := hj k (by omega)
            simp only [furtherF, letterF, Bool.or_eq_true, Bool.and_eq_true, decide_eq_true_eq] at hjk h0
            by_cases hk0 : k = 0
            · subst hk0; omega
            · omega))
    | (congr 3; symm; rw [nameF_iff]; exact ⟨⟨hq, hq2⟩, hf (by omega), fun j hj => hs j (by omega)⟩)
    | (refine ⟨by omega, by omega, by omega, fun h => by omega, fun j hj => by omega⟩)
end Go.Proofs.YtpejdgkaapnekaaGreat
namespace Go.Proofs.YtpejdgkaapnekaaGreat
open Go Go.Abs
attribute [local irreducible] OkOps OkC DRun thenQ blockQ RetQ
set_option maxRecDepth 10000
theorem c190a (ds : List Dim) (hne : dimsF ds ≠ 0) : CallA Tryz.prog 190 [.one (.d (encDims ds)), .one (.mapr 1000000)] [(1000000, .map false false (encMet []))] (.one (.d (.int .i64 (dimsF ds)))) [] := by
  refine enter tabOk Tryz.func190 rfl (by decide +kernel) rfl fun hok w0 σ0 φ0 M => ?_
  have h1 := hok.1.sl.1; clear hok; simp only [List.length_map] at h1
  repeat' (first | (show OkOps _ _ _ _ _ _; first | refine okops_nil ?_ | refine s_plain tabOk rfl rfl rfl rfl rfl ?_ | (show OkOps _ _ _ (Oper.mk _ (_) _ _ _ (some _) :: _) _ _; first | refine s_guard rfl rfl (by first | assumption | rfl) ?_ | refine s_out rfl rfl (by first | assumption | rfl) rfl rfl ?_ | refine s_split rfl rfl rfl rfl (fun h => ?_) (fun h => ?_) | fail) | (show OkOps _ _ _ (Oper.mk _ (Op.binOp .add _ _ _ _) _ _ _ (_) :: _) _ _; first | refine s_e envOk rfl rfl rfl (step3_add rfl rfl rfl rfl (wrap64 (by omega) (by omega))) ?_ | fail) | (show OkOps _ _ _ (Oper.mk _ (Op.pick _ _ _) _ _ _ (_) :: _) _ _; first | refine s_e envOk rfl rfl rfl (step3_pickT rfl rfl (by first | rfl | assumption) rfl) ?_ | refine s_e envOk rfl rfl rfl (step3_pickF rfl rfl (by first | rfl | assumption) rfl) ?_ | fail) | (show OkOps _ _ _ (Oper.mk _ (Op.indexAddr _ _ _) _ _ _ (_) :: _) _ _; first | refine s_e envOk rfl rfl rfl (step3_idx rfl rfl rfl rfl rfl (by first | omega | ((try simp only [decide_eq_true_eq, decide_eq_false_iff_not, Bool.not_eq_true', Bool.not_true, Bool.not_false, List.length_map, List.length_set, bne_iff_ne, ne_eq, beq_iff_eq, bne_eq_false_iff_eq, beq_eq_false_iff_ne] at *); omega)) (at_map (by first | omega | ((try simp only [decide_eq_true_eq, decide_eq_false_iff_not, Bool.not_eq_true', Bool.not_true, Bool.not_false, List.length_map, List.length_set, bne_iff_ne, ne_eq, beq_iff_eq, bne_eq_false_iff_eq, beq_eq_false_iff_ne] at *); omega)))) ?_ | fail) | (show OkOps _ _ _ (Oper.mk _ (Op.call _) _ _ _ (_) :: _) _ _; first | refine s_callF rfl rfl rfl rfl rfl rfl rfl rfl (c142 _) rfl ?_ | fail) | (show OkOps _ _ _ (Oper.mk _ (Op.alloc _) _ _ _ (_) :: _) _ _; first | refine s_alloc tabOk 0 rfl rfl rfl rfl rfl ?_ | fail) | refine s_store envOk rfl rfl rfl ?_ | refine s_lookMet envOk rfl rfl rfl rfl rfl rfl rfl rfl rfl rfl rfl rfl ?_ | refine s_updMet envOk rfl rfl rfl rfl rfl rfl rfl rfl rfl rfl rfl (by assumption) ?_ | fail) | (show OkC _ _ _ _ _; first | refine ok_seq ?_ | refine ok_region ?_ | refine ok_block ?_ | refine ok_skip ?_ | refine ok_ret ?_ | refine ok_exit ?_ | refine ok_condT rfl ?_ | refine ok_cond rfl (fun h => ?_) (fun h => ?_) | refine s_loopM 4 rfl [(1, _), (15, _), (16, _)] (subL_cons rfl (subL_cons rfl (subL_cons rfl subL_nil))) (fun (p : Nat × List (List UInt8)) => [(17, .one (.d (.int .i64 (p.1 : Int))))]) (fun (p : Nat × List (List UInt8)) => [(1000000, .map false false (encMet p.2))]) (fun (p : Nat × List (List UInt8)) => p.1 ≤ ds.length ∧ (1 : Int) ≤ ds.length ∧ (ds.length : Int) ≤ 4 ∧ dimsF ds = dimsGo p.2 (ds.drop p.1)) (fun (p : Nat × List (List UInt8)) => ds.length - p.1) (0, []) (subL_cons rfl subL_nil) (by first | exact subL_nil | exact (subL_cons rfl subL_nil) | exact (subL_cons rfl (subL_cons rfl subL_nil)) | exact (subL_cons rfl (subL_cons rfl (subL_cons rfl subL_nil))) | exact (subL_cons rfl (subL_cons rfl (subL_cons rfl (subL_cons rfl subL_nil)))) | exact (subL_cons rfl (subL_cons rfl (subL_cons rfl (subL_cons rfl (subL_cons rfl subL_nil))))) | exact (subL_cons rfl (subL_cons rfl (subL_cons rfl (subL_cons rfl (subL_cons rfl (subL_cons rfl subL_nil)))))) | exact (subL_cons rfl (subL_cons rfl (subL_cons rfl (subL_cons rfl (subL_cons rfl (subL_cons rfl (subL_cons rfl subL_nil))))))) | exact (subL_cons rfl (subL_cons rfl (subL_cons rfl (subL_cons rfl (subL_cons rfl (subL_cons rfl (subL_cons rfl (subL_cons rfl subL_nil))))))))) ?_ (fun p ⟨hk, hq, hq2, hs⟩ => ?_) | fail) | (show thenQ _ _ _ _; first | refine then_n ?_ | refine then_r ?_ | refine then_x ?_ | fail) | (show blockQ _ _ _ _; first | refine block_n ?_ | refine block_r ?_ | refine block_x rfl ?_ | fail) | (show RetQ _ _ _ _ _ _; first | refine ret_leaf (.inl rfl) rfl rfl ?_ | fail) | (show Exists _; first | refine Exists.intro ((p.1 + 1, p.2 ++ [(at_ ds p.1).name])) ⟨?_, ?_, (by first | exact subL_nil | exact (subL_cons rfl subL_nil) | exact (subL_cons rfl (subL_cons rfl subL_nil)) | exact (subL_cons rfl (subL_cons rfl (subL_cons rfl subL_nil))) | exact (subL_cons rfl (subL_cons rfl (subL_cons rfl (subL_cons rfl subL_nil)))) | exact (subL_cons rfl (subL_cons rfl (subL_cons rfl (subL_cons rfl (subL_cons rfl subL_nil))))) | exact (subL_cons rfl (subL_cons rfl (subL_cons rfl (subL_cons rfl (subL_cons rfl (subL_cons rfl subL_nil)))))) | exact (subL_cons rfl (subL_cons rfl (subL_cons rfl (subL_cons rfl (subL_cons rfl (subL_cons rfl (subL_cons rfl subL_nil))))))) | exact (subL_cons rfl (subL_cons rfl (subL_cons rfl (subL_cons rfl (subL_cons rfl (subL_cons rfl (subL_cons rfl (subL_cons rfl subL_nil))))))))), (subL_cons rfl subL_nil), (subL_cons rfl (subL_cons rfl (subL_cons rfl subL_nil)))⟩ | fail) | fail)
  all_goals (try (((simp_all [dimsF, dimsGo, boundsF, at_drop, List.drop_eq_nil_of_le]) <;> first | omega | (rw [Bool.eq_iff_iff]; simp; omega) | grind); done))
theorem c190b (ds : List Dim) (he : dimsF ds = 0) : CallA Tryz.prog 190 [.one (.d (encDims ds)), .one (.mapr 1000000)] [(1000000, .map false false (encMet []))] (.one (.d (.int .i64 0))) [(1000000, .map false false (encMet (ds.map Dim.name)))] := by
  refine enter tabOk Tryz.func190 rfl (by decide +kernel) rfl fun hok w0 σ0 φ0 M => ?_
  have h1 := hok.1.sl.1; clear hok; simp only [List.length_map] at h1
  repeat' (first | (show OkOps _ _ _ _ _ _; first | refine okops_nil ?_ | refine s_plain tabOk rfl rfl rfl rfl rfl ?_ | (show OkOps _ _ _ (Oper.mk _ (_) _ _ _ (some _) :: _) _ _; first | refine s_guard rfl rfl (by first | assumption | rfl) ?_ | refine s_out rfl rfl (by first | assumption | rfl) rfl rfl ?_ | refine s_split rfl rfl rfl rfl (fun h => ?_) (fun h => ?_) | fail) | (show OkOps _ _ _ (Oper.mk _ (Op.binOp .add _ _ _ _) _ _ _ (_) :: _) _ _; first | refine s_e envOk rfl rfl rfl (step3_add rfl rfl rfl rfl (wrap64 (by omega) (by omega))) ?_ | fail) | (show OkOps _ _ _ (Oper.mk _ (Op.pick _ _ _) _ _ _ (_) :: _) _ _; first | refine s_e envOk rfl rfl rfl (step3_pickT rfl rfl (by first | rfl | assumption) rfl) ?_ | refine s_e envOk rfl rfl rfl (step3_pickF rfl rfl (by first | rfl | assumption) rfl) ?_ | fail) | (show OkOps _ _ _ (Oper.mk _ (Op.indexAddr _ _ _) _ _ _ (_) :: _) _ _; first | refine s_e envOk rfl rfl rfl (step3_idx rfl rfl rfl rfl rfl (by first | omega | ((try simp only [decide_eq_true_eq, decide_eq_false_iff_not, Bool.not_eq_true', Bool.not_true, Bool.not_false, List.length_map, List.length_set, bne_iff_ne, ne_eq, beq_iff_eq, bne_eq_false_iff_eq, beq_eq_false_iff_ne] at *); omega)) (at_map (by first | omega | ((try simp only [decide_eq_true_eq, decide_eq_false_iff_not, Bool.not_eq_true', Bool.not_true, Bool.not_false, List.length_map, List.length_set, bne_iff_ne, ne_eq, beq_iff_eq, bne_eq_false_iff_eq, beq_eq_false_iff_ne] at *); omega)))) ?_ | fail) | (show OkOps _ _ _ (Oper.mk _ (Op.call _) _ _ _ (_) :: _) _ _; first | refine s_callF rfl rfl rfl rfl rfl rfl rfl rfl (c142 _) rfl ?_ | fail) | (show OkOps _ _ _ (Oper.mk _ (Op.alloc _) _ _ _ (_) :: _) _ _; first | refine s_alloc tabOk 0 rfl rfl rfl rfl rfl ?_ | fail) | refine s_store envOk rfl rfl rfl ?_ | refine s_lookMet envOk rfl rfl rfl rfl rfl rfl rfl rfl rfl rfl rfl rfl ?_ | refine s_updMet envOk rfl rfl rfl rfl rfl rfl rfl rfl rfl rfl rfl (by assumption) ?_ | fail) | (show OkC _ _ _ _ _; first | refine ok_seq ?_ | refine ok_region ?_ | refine ok_block ?_ | refine ok_skip ?_ | refine ok_ret ?_ | refine ok_exit ?_ | refine ok_condT rfl ?_ | refine ok_cond rfl (fun h => ?_) (fun h => ?_) | refine s_loopM 4 rfl [(1, _), (15, _), (16, _)] (subL_cons rfl (subL_cons rfl (subL_cons rfl subL_nil))) (fun (p : Nat × List (List UInt8)) => [(17, .one (.d (.int .i64 (p.1 : Int))))]) (fun (p : Nat × List (List UInt8)) => [(1000000, .map false false (encMet p.2))]) (fun (p : Nat × List (List UInt8)) => p.1 ≤ ds.length ∧ dimsGo p.2 (ds.drop p.1) = 0 ∧ p.2 = (ds.take p.1).map Dim.name) (fun (p : Nat × List (List UInt8)) => ds.length - p.1) (0, []) (subL_cons rfl subL_nil) (by first | exact subL_nil | exact (subL_cons rfl subL_nil) | exact (subL_cons rfl (subL_cons rfl subL_nil)) | exact (subL_cons rfl (subL_cons rfl (subL_cons rfl subL_nil))) | exact (subL_cons rfl (subL_cons rfl (subL_cons rfl (subL_cons rfl subL_nil)))) | exact (subL_cons rfl (subL_cons rfl (subL_cons rfl (subL_cons rfl (subL_cons rfl subL_nil))))) | exact (subL_cons rfl (subL_cons rfl (subL_cons rfl (subL_cons rfl (subL_cons rfl (subL_cons rfl subL_nil)))))) | exact (subL_cons rfl (subL_cons rfl (subL_cons rfl (subL_cons rfl (subL_cons rfl (subL_cons rfl (subL_cons rfl subL_nil))))))) | exact (subL_cons rfl (subL_cons rfl (subL_cons rfl (subL_cons rfl (subL_cons rfl (subL_cons rfl (subL_cons rfl (subL_cons rfl subL_nil))))))))) ?_ (fun p ⟨hk, hs, hm⟩ => ?_) | fail) | (show thenQ _ _ _ _; first | refine then_n ?_ | refine then_r ?_ | refine then_x ?_ | fail) | (show blockQ _ _ _ _; first | refine block_n ?_ | refine block_r ?_ | refine block_x rfl ?_ | fail) | (show Exists _; first | refine Exists.intro ((p.1 + 1, p.2 ++ [(at_ ds p.1).name])) ⟨?_, ?_, (by first | exact subL_nil | exact (subL_cons rfl subL_nil) | exact (subL_cons rfl (subL_cons rfl subL_nil)) | exact (subL_cons rfl (subL_cons rfl (subL_cons rfl subL_nil))) | exact (subL_cons rfl (subL_cons rfl (subL_cons rfl (subL_cons rfl subL_nil)))) | exact (subL_cons rfl (subL_cons rfl (subL_cons rfl (subL_cons rfl (subL_cons rfl subL_nil))))) | exact (subL_cons rfl (subL_cons rfl (subL_cons rfl (subL_cons rfl (subL_cons rfl (subL_cons rfl subL_nil)))))) | exact (subL_cons rfl (subL_cons rfl (subL_cons rfl (subL_cons rfl (subL_cons rfl (subL_cons rfl (subL_cons rfl subL_nil))))))) | exact (subL_cons rfl (subL_cons rfl (subL_cons rfl (subL_cons rfl (subL_cons rfl (subL_cons rfl (subL_cons rfl (subL_cons rfl subL_nil))))))))), (subL_cons rfl subL_nil), (subL_cons rfl (subL_cons rfl (subL_cons rfl subL_nil)))⟩ | fail) | fail)
  all_goals (try (((simp_all [dimsF, dimsGo, boundsF, at_take, at_drop, List.drop_eq_nil_of_le]) <;> first | omega | (rw [Bool.eq_iff_iff]; simp; omega) | grind); done))
  · have hl : ds.length ≤ p.1 := by simpa using h
    have hp : p.2 = ds.map Dim.name := by rw [hm, List.take_of_length_le hl]
    rw [hp]
    exact ret_leafS (.inl rfl) rfl rfl rfl (subL_cons rfl subL_nil)
end Go.Proofs.YtpejdgkaapnekaaGreat
namespace Go.Proofs.YtpejdgkaapnekaaGreat
open Go Go.Abs
attribute [local irreducible] OkOps OkC DRun thenQ blockQ RetQ
set_option maxRecDepth 10000
theorem c108a (ds : List Dim) (ats : List Attr) (hne : dimsF ds ≠ 0) : CallA Tryz.prog 108 [.one (.d (encDims ds)), .one (.d (encAttrs ats))] [] (.one (.d (.int .i64 (schemaF ds ats)))) [] := by
  refine enter tabOk Tryz.func108 rfl (by decide +kernel) rfl fun hok w0 σ0 φ0 M => ?_
  clear hok
  repeat' (first | (show OkOps _ _ _ _ _ _; first | refine okops_nil ?_ | refine s_plain tabOk rfl rfl rfl rfl rfl ?_ | refine s_new envOk 0 rfl rfl rfl rfl rfl rfl ?_ | fail) | (show OkC _ _ _ _ _; first | refine ok_seq ?_ | refine ok_region ?_ | fail) | (show thenQ _ _ _ _; first | refine then_n ?_ | fail) | fail)
  refine s_callM 16 [(1000000, 0)] (rav' := .one (.d (.int .i64 (dimsF ds)))) (c190a ds hne) rfl rfl rfl rfl rfl rfl ⟨⟨0, rfl, rfl⟩, trivial⟩ trivial rfl rfl rfl rfl ?_
  repeat' (first | (show OkOps _ _ _ _ _ _; first | refine okops_nil ?_ | refine s_plain tabOk rfl rfl rfl rfl rfl ?_ | (show OkOps _ _ _ (Oper.mk _ (_) _ _ _ (some _) :: _) _ _; first | refine s_guard rfl rfl (by first | assumption | rfl) ?_ | refine s_out rfl rfl (by first | assumption | rfl) rfl rfl ?_ | refine s_split rfl rfl rfl rfl (fun h => ?_) (fun h => ?_) | fail) | (show OkOps _ _ _ (Oper.mk _ (Op.pick _ _ _) _ _ _ (_) :: _) _ _; first | refine s_e envOk rfl rfl rfl (step3_pickT rfl rfl (by first | rfl | assumption) rfl) ?_ | refine s_e envOk rfl rfl rfl (step3_pickF rfl rfl (by first | rfl | assumption) rfl) ?_ | fail) | fail) | (show OkC _ _ _ _ _; first | refine ok_seq ?_ | refine ok_region ?_ | refine ok_block ?_ | refine ok_skip ?_ | refine ok_ret ?_ | refine ok_condT rfl ?_ | refine ok_cond rfl (fun h => ?_) (fun h => ?_) | fail) | (show thenQ _ _ _ _; first | refine then_n ?_ | refine then_r ?_ | fail) | (show RetQ _ _ _ _ _ _; first | refine ret_leaf (.inl rfl) rfl rfl ?_ | fail) | fail)
  all_goals (try (((simp_all [schemaF, at_drop, List.drop_eq_nil_of_le]) <;> first | omega | (rw [Bool.eq_iff_iff]; simp; omega) | grind); done))
theorem c108b (ds : List Dim) (ats : List Attr) (he : dimsF ds = 0) : CallA Tryz.prog 108 [.one (.d (encDims ds)), .one (.d (encAttrs ats))] [] (.one (.d (.int .i64 (schemaF ds ats)))) [] := by
  refine enter tabOk Tryz.func108 rfl (by decide +kernel) rfl fun hok w0 σ0 φ0 M => ?_
  have h1 := hok.2.1.sl.1; clear hok; simp only [List.length_map] at h1
  repeat' (first | (show OkOps _ _ _ _ _ _; first | refine okops_nil ?_ | refine s_plain tabOk rfl rfl rfl rfl rfl ?_ | refine s_new envOk 0 rfl rfl rfl rfl rfl rfl ?_ | fail) | (show OkC _ _ _ _ _; first | refine ok_seq ?_ | refine ok_region ?_ | fail) | (show thenQ _ _ _ _; first | refine then_n ?_ | fail) | fail)
  refine s_callM 16 [(1000000, 0)] (rav' := .one (.d (.int .i64 0))) (c190b ds he) rfl rfl rfl rfl rfl rfl ⟨⟨0, rfl, rfl⟩, trivial⟩ ⟨fun i e h1 h2 => ?_, trivial⟩ rfl rfl rfl rfl ?_
  · have h1' : some 0 = some i := h1
    cases h1'
    have h2' : some (AObj.map false false (encMet [])) = some e := h2
    cases h2'
    exact ⟨rfl, rfl⟩
  repeat' (first | (show OkOps _ _ _ _ _ _; first | refine okops_nil ?_ | refine s_plain tabOk rfl rfl rfl rfl rfl ?_ | (show OkOps _ _ _ (Oper.mk _ (_) _ _ _ (some _) :: _) _ _; first | refine s_guard rfl rfl (by first | assumption | rfl) ?_ | refine s_out rfl rfl (by first | assumption | rfl) rfl rfl ?_ | refine s_split rfl rfl rfl rfl (fun h => ?_) (fun h => ?_) | fail) | (show OkOps _ _ _ (Oper.mk _ (Op.binOp .add _ _ _ _) _ _ _ (_) :: _) _ _; first | refine s_e envOk rfl rfl rfl (step3_add rfl rfl rfl rfl (wrap64 (by omega) (by omega))) ?_ | fail) | (show OkOps _ _ _ (Oper.mk _ (Op.pick _ _ _) _ _ _ (_) :: _) _ _; first | refine s_e envOk rfl rfl rfl (step3_pickT rfl rfl (by first | rfl | assumption) rfl) ?_ | refine s_e envOk rfl rfl rfl (step3_pickF rfl rfl (by first | rfl | assumption) rfl) ?_ | fail) | (show OkOps _ _ _ (Oper.mk _ (Op.indexAddr _ _ _) _ _ _ (_) :: _) _ _; first | refine s_e envOk rfl rfl rfl (step3_idx rfl rfl rfl rfl rfl (by first | omega | ((try simp only [decide_eq_true_eq, decide_eq_false_iff_not, Bool.not_eq_true', Bool.not_true, Bool.not_false, List.length_map, List.length_set, bne_iff_ne, ne_eq, beq_iff_eq, bne_eq_false_iff_eq, beq_eq_false_iff_ne] at *); omega)) (at_map (by first | omega | ((try simp only [decide_eq_true_eq, decide_eq_false_iff_not, Bool.not_eq_true', Bool.not_true, Bool.not_false, List.length_map, List.length_set, bne_iff_ne, ne_eq, beq_iff_eq, bne_eq_false_iff_eq, beq_eq_false_iff_ne] at *); omega)))) ?_ | fail) | (show OkOps _ _ _ (Oper.mk _ (Op.call _) _ _ _ (_) :: _) _ _; first | refine s_callF rfl rfl rfl rfl rfl rfl rfl rfl (c142 _) rfl ?_ | fail) | (show OkOps _ _ _ (Oper.mk _ (Op.alloc _) _ _ _ (_) :: _) _ _; first | refine s_alloc tabOk 1 rfl rfl rfl rfl rfl ?_ | fail) | refine s_store envOk rfl rfl rfl ?_ | refine s_lookMet envOk rfl rfl rfl rfl rfl rfl rfl rfl rfl rfl rfl rfl ?_ | refine s_updMet envOk rfl rfl rfl rfl rfl rfl rfl rfl rfl rfl rfl (by assumption) ?_ | fail) | (show OkC _ _ _ _ _; first | refine ok_seq ?_ | refine ok_region ?_ | refine ok_block ?_ | refine ok_skip ?_ | refine ok_ret ?_ | refine ok_exit ?_ | refine ok_condT rfl ?_ | refine ok_condF rfl ?_ | refine ok_cond rfl (fun h => ?_) (fun h => ?_) | refine s_loopM 8 rfl [(5, _), (24, _), (25, _)] (subL_cons rfl (subL_cons rfl (subL_cons rfl subL_nil))) (fun (p : Nat × List (List UInt8)) => [(26, .one (.d (.int .i64 (p.1 : Int))))]) (fun (p : Nat × List (List UInt8)) => [(0, .map false false (encMet p.2))]) (fun (p : Nat × List (List UInt8)) => p.1 ≤ ats.length ∧ dimsF ds = 0 ∧ (1 : Int) ≤ ats.length ∧ (ats.length : Int) ≤ 6 ∧ schemaF ds ats = attrsGo p.2 (ats.drop p.1)) (fun (p : Nat × List (List UInt8)) => ats.length - p.1) (0, ds.map Dim.name) (subL_cons rfl subL_nil) (by first | exact subL_nil | exact (subL_cons rfl subL_nil) | exact (subL_cons rfl (subL_cons rfl subL_nil)) | exact (subL_cons rfl (subL_cons rfl (subL_cons rfl subL_nil))) | exact (subL_cons rfl (subL_cons rfl (subL_cons rfl (subL_cons rfl subL_nil)))) | exact (subL_cons rfl (subL_cons rfl (subL_cons rfl (subL_cons rfl (subL_cons rfl subL_nil))))) | exact (subL_cons rfl (subL_cons rfl (subL_cons rfl (subL_cons rfl (subL_cons rfl (subL_cons rfl subL_nil)))))) | exact (subL_cons rfl (subL_cons rfl (subL_cons rfl (subL_cons rfl (subL_cons rfl (subL_cons rfl (subL_cons rfl subL_nil))))))) | exact (subL_cons rfl (subL_cons rfl (subL_cons rfl (subL_cons rfl (subL_cons rfl (subL_cons rfl (subL_cons rfl (subL_cons rfl subL_nil))))))))) ?_ (fun p ⟨hk, hd, hq, hq2, hs⟩ => ?_) | fail) | (show thenQ _ _ _ _; first | refine then_n ?_ | refine then_r ?_ | refine then_x ?_ | fail) | (show blockQ _ _ _ _; first | refine block_n ?_ | refine block_r ?_ | refine block_x rfl ?_ | fail) | (show RetQ _ _ _ _ _ _; first | refine ret_leaf (.inl rfl) rfl rfl ?_ | fail) | (show Exists _; first | refine Exists.intro ((p.1 + 1, p.2 ++ [(at_ ats p.1).name])) ⟨?_, ?_, (by first | exact subL_nil | exact (subL_cons rfl subL_nil) | exact (subL_cons rfl (subL_cons rfl subL_nil)) | exact (subL_cons rfl (subL_cons rfl (subL_cons rfl subL_nil))) | exact (subL_cons rfl (subL_cons rfl (subL_cons rfl (subL_cons rfl subL_nil)))) | exact (subL_cons rfl (subL_cons rfl (subL_cons rfl (subL_cons rfl (subL_cons rfl subL_nil))))) | exact (subL_cons rfl (subL_cons rfl (subL_cons rfl (subL_cons rfl (subL_cons rfl (subL_cons rfl subL_nil)))))) | exact (subL_cons rfl (subL_cons rfl (subL_cons rfl (subL_cons rfl (subL_cons rfl (subL_cons rfl (subL_cons rfl subL_nil))))))) | exact (subL_cons rfl (subL_cons rfl (subL_cons rfl (subL_cons rfl (subL_cons rfl (subL_cons rfl (subL_cons rfl (subL_cons rfl subL_nil))))))))), (subL_cons rfl subL_nil), (subL_cons rfl (subL_cons rfl (subL_cons rfl subL_nil)))⟩ | fail) | fail)
  all_goals (try (((simp_all [schemaF, attrsGo, at_drop, List.drop_eq_nil_of_le]) <;> first | omega | (rw [Bool.eq_iff_iff]; simp; omega) | grind); done))
theorem c108 (ds : List Dim) (ats : List Attr) : CallA Tryz.prog 108 [.one (.d (encDims ds)), .one (.d (encAttrs ats))] [] (.one (.d (.int .i64 (schemaF ds ats)))) [] := by
  by_cases h : dimsF ds = 0
  · exact c108b ds ats h
  · exact c108a ds ats h
end Go.Proofs.YtpejdgkaapnekaaGreat
namespace Go.Proofs.YtpejdgkaapnekaaGreat
open Go Go.Abs
attribute [local irreducible] OkOps OkC DRun thenQ blockQ RetQ
set_option maxRecDepth 10000
theorem c59 (ds : List Dim) (ats : List Attr) (cs : List Cell) : CallA Tryz.prog 59 [.agg [.d (encDims ds), .d (encAttrs ats), .d (encCells cs)]] [] (.one (.d (.int .i64 (checkF ds ats cs)))) [] := by
  refine enter tabOk Tryz.func59 rfl (by decide +kernel) rfl fun hok w0 σ0 φ0 M => ?_
  have h1 := (OkD.sl (hok.1 (.d (encCells cs)) (by simp))).1; clear hok; simp only [List.length_map] at h1
  repeat' (first | (show OkOps _ _ _ _ _ _; first | refine okops_nil ?_ | refine s_plain tabOk rfl rfl rfl rfl rfl ?_ | (show OkOps _ _ _ (Oper.mk _ (Op.binOp .add _ _ _ _) _ _ _ (_) :: _) _ _; first | refine s_e envOk rfl rfl rfl (step3_add rfl rfl rfl rfl (wrap64 (by omega) (by omega))) ?_ | fail) | (show OkOps _ _ _ (Oper.mk _ (Op.indexAddr _ _ _) _ _ _ (_) :: _) _ _; first | refine s_e envOk rfl rfl rfl (step3_idx rfl rfl rfl rfl rfl (by first | omega | ((try simp only [decide_eq_true_eq, decide_eq_false_iff_not, Bool.not_eq_true', Bool.not_true, Bool.not_false, List.length_map, List.length_set, bne_iff_ne, ne_eq, beq_iff_eq, bne_eq_false_iff_eq, beq_eq_false_iff_ne] at *); omega)) (at_map (by first | omega | ((try simp only [decide_eq_true_eq, decide_eq_false_iff_not, Bool.not_eq_true', Bool.not_true, Bool.not_false, List.length_map, List.length_set, bne_iff_ne, ne_eq, beq_iff_eq, bne_eq_false_iff_eq, beq_eq_false_iff_ne] at *); omega)))) ?_ | fail) | (show OkOps _ _ _ (Oper.mk _ (Op.call _) _ _ _ (_) :: _) _ _; first | refine s_callF rfl rfl rfl rfl rfl rfl rfl rfl (c108 _ _) rfl ?_ | refine s_callF rfl rfl rfl rfl rfl rfl rfl rfl (c161 _ _ _ _) rfl ?_ | fail) | (show OkOps _ _ _ (Oper.mk _ (Op.box _ _) _ _ _ (_) :: _) _ _; first | refine s_box 0 rfl rfl rfl rfl rfl rfl ?_ | fail) | (show OkOps _ _ _ (Oper.mk _ (Op.alloc _) _ _ _ (_) :: _) _ _; first | refine s_alloc tabOk 1 rfl rfl rfl rfl rfl ?_ | fail) | refine s_store envOk rfl rfl rfl ?_ | fail) | (show OkC _ _ _ _ _; first | refine ok_seq ?_ | refine ok_region ?_ | refine ok_block ?_ | refine ok_skip ?_ | refine ok_ret ?_ | refine ok_exit ?_ | refine ok_cond rfl (fun h => ?_) (fun h => ?_) | refine ok_regionD progOk.mo ?_ | refine s_loop 7 rfl [(1, _), (20, _), (21, _)] (subL_cons rfl (subL_cons rfl (subL_cons rfl subL_nil))) (fun (k : Nat) => [(22, .one (.d (.int .i64 k)))]) (fun (k : Nat) => k ≤ cs.length ∧ schemaF ds ats = 0 ∧ (cs.length : Int) ≤ 4096 ∧ checkF ds ats cs = cellsGo ds ats (pv cs k) (cs.drop k)) (fun (k : Nat) => cs.length - k) 0 (subL_cons rfl subL_nil) ?_ (fun k ⟨hk, hsc, hq, hs⟩ => ?_) | fail) | (show thenQ _ _ _ _; first | refine then_n ?_ | refine then_r ?_ | refine then_x ?_ | fail) | (show blockQ _ _ _ _; first | refine block_n ?_ | refine block_r ?_ | refine block_x rfl ?_ | fail) | (show RetQ _ _ _ _ _ _; first | refine ret_leaf (.inl rfl) rfl rfl ?_ | fail) | (show DRun _ _ _ _ _ _ _ _; first | refine d_nil (by kernel_rfl) ?_ | refine d_e envOk rfl rfl rfl (step3_plain rfl rfl) ?_ | (show DRun _ _ _ _ (Oper.mk _ (Op.binOp .sub _ _ _ _) _ _ _ (_) :: _) _ _ _; first | refine d_e envOk rfl rfl rfl (step3_sub rfl rfl rfl rfl (wrap64 (by omega) (by omega))) ?_ | fail) | (show DRun _ _ _ _ (Oper.mk _ (Op.indexAddr _ _ _) _ _ _ (_) :: _) _ _ _; first | refine d_e envOk rfl rfl rfl (step3_idx rfl rfl rfl rfl rfl (by first | omega | ((try simp only [decide_eq_true_eq, decide_eq_false_iff_not, Bool.not_eq_true', Bool.not_true, Bool.not_false, List.length_map, List.length_set, bne_iff_ne, ne_eq, beq_iff_eq, bne_eq_false_iff_eq, beq_eq_false_iff_ne] at *); omega)) (at_map (by first | omega | ((try simp only [decide_eq_true_eq, decide_eq_false_iff_not, Bool.not_eq_true', Bool.not_true, Bool.not_false, List.length_map, List.length_set, bne_iff_ne, ne_eq, beq_iff_eq, bne_eq_false_iff_eq, beq_eq_false_iff_ne] at *); omega)))) ?_ | fail) | (show DRun _ _ _ _ (Oper.mk _ (Op.call _) _ _ _ (_) :: _) _ _ _; first | refine d_l rfl rfl (loc_callF' rfl rfl rfl rfl rfl rfl (c35 _ _) rfl) ?_ | fail) | fail) | (show Exists _; first | refine Exists.intro (k + 1) ⟨?_, ?_, (by first | exact subL_nil | exact (subL_cons rfl subL_nil) | exact (subL_cons rfl (subL_cons rfl subL_nil)) | exact (subL_cons rfl (subL_cons rfl (subL_cons rfl subL_nil))) | exact (subL_cons rfl (subL_cons rfl (subL_cons rfl (subL_cons rfl subL_nil)))) | exact (subL_cons rfl (subL_cons rfl (subL_cons rfl (subL_cons rfl (subL_cons rfl subL_nil))))) | exact (subL_cons rfl (subL_cons rfl (subL_cons rfl (subL_cons rfl (subL_cons rfl (subL_cons rfl subL_nil)))))) | exact (subL_cons rfl (subL_cons rfl (subL_cons rfl (subL_cons rfl (subL_cons rfl (subL_cons rfl (subL_cons rfl subL_nil))))))) | exact (subL_cons rfl (subL_cons rfl (subL_cons rfl (subL_cons rfl (subL_cons rfl (subL_cons rfl (subL_cons rfl (subL_cons rfl subL_nil))))))))), (subL_cons rfl subL_nil), (subL_cons rfl (subL_cons rfl (subL_cons rfl subL_nil)))⟩ | fail) | fail)
  all_goals (try (((simp_all [checkF, cellsGo, pv_zero, pv_pos, pv_succ, cmpF_pos, at_drop, List.drop_eq_nil_of_le]) <;> first | omega | (rw [Bool.eq_iff_iff]; simp; omega) | grind); done))
  · rename_i hlt
    have hk' : k < cs.length := by simpa using hlt
    have hb : cellF ds ats (at_ cs k).at' (at_ cs k).vals ≠ 0 := by simpa using h
    rw [hs, at_drop hk', cellsGo_bad hb]; simp
  · rename_i hlt hc
    have hk' : k < cs.length := by simpa using hlt
    have hk0 : k = 0 := by simpa using h
    have hb : cellF ds ats (at_ cs k).at' (at_ cs k).vals = 0 := by simpa using hc
    refine ⟨by omega, hsc, hq, ?_⟩
    rw [hs, at_drop hk', pv_succ]
    subst hk0
    simp [cellsGo, hb, pv_zero]
end Go.Proofs.YtpejdgkaapnekaaGreat
namespace Go.Proofs.YtpejdgkaapnekaaGreat
open Go Go.Abs
attribute [local irreducible] OkOps OkC DRun thenQ blockQ RetQ
set_option maxRecDepth 10000
def sameGo {α : Type} (p : α → α → Bool) : List α → List α → Bool
  | x :: a, y :: b => if p x y then sameGo p a b else false
  | _, _ => true
def sameF {α : Type} (p : α → α → Bool) (a b : List α) : Bool := if (a.length : Int) ≠ b.length then false else sameGo p a b
def eqVal (x y : Val) : Bool := eqDs (encVal x) (encVal y)
def eqDim (x y : Dim) : Bool := eqDs (encDim x) (encDim y)
def eqAttr (x y : Attr) : Bool := eqDs (encAttr x) (encAttr y)
def eqCell (x y : Cell) : Bool := sameF (fun x y => x == y) x.at' y.at' && sameF eqVal x.vals y.vals
end Go.Proofs.YtpejdgkaapnekaaGreat
namespace Go.Proofs.YtpejdgkaapnekaaGreat
open Go Go.Abs
theorem at_ext {α : Type} [Inhabited α] : ∀ {l m : List α}, l.length = m.length → (∀ i, i < l.length → at_ l i = at_ m i) → l = m
  | [], [], _, _ => rfl
  | x :: l, y :: m, h, he => by
    have h0 : x = y := he 0 (by simp)
    rw [h0, at_ext (l := l) (m := m) (by simpa using h) fun i hi => he (i + 1) (by simpa using hi)]
  | [], _ :: _, h, _ => by simp at h
  | _ :: _, [], h, _ => by simp at h
theorem at_set {α : Type} [Inhabited α] {l : List α} {k i : Nat} {x : α} (h : i < l.length) : at_ (l.set k x) i = if i = k then x else at_ l i := by
  simp only [at_, List.getD_eq_getElem?_getD, List.getElem?_set]
  by_cases e : k = i
  · subst e; simp [h]
  · rw [if_neg e, if_neg (fun h => e h.symm)]
theorem at_ofmem {α : Type} [Inhabited α] {l : List α} {x : α} (h : x ∈ l) : ∃ i, i < l.length ∧ at_ l i = x := by
  obtain ⟨i, hi⟩ := List.getElem?_of_mem h
  have hl := (List.getElem?_eq_some_iff.1 hi).1
  exact ⟨i, hl, by rw [at_get hl] at hi; exact Option.some.inj hi⟩
theorem at_zip {α β γ : Type} [Inhabited α] [Inhabited β] [Inhabited γ] {f : α → β → γ} {l : List α} {m : List β} {i : Nat} (h : i < l.length) (h' : i < m.length) : at_ (l.zipWith f m) i = f (at_ l i) (at_ m i) := by
  simp [at_, List.getD_eq_getElem?_getD, List.getElem?_zipWith, h, h']
theorem Dim.ext {a b : Dim} (h1 : a.name = b.name) (h2 : a.lo = b.lo) (h3 : a.hi = b.hi) : a = b := by cases a; cases b; simp_all
structure Arr where
  dims : List Dim
  attrs : List Attr
  cells : List Cell
  deriving Inhabited
def encArr (a : Arr) : List D := [encDims a.dims, encAttrs a.attrs, encCells a.cells]
def encArrs (l : List Arr) : D := .sl 3 72 (l.map encArr)
def aggA (a : Arr) : AV := .agg [.d (encDims a.dims), .d (encAttrs a.attrs), .d (encCells a.cells)]
theorem sameGo_all {α : Type} [Inhabited α] {p : α → α → Bool} : ∀ {a b : List α}, a.length = b.length → (sameGo p a b = true ↔ ∀ i, i < a.length → p (at_ a i) (at_ b i) = true)
  | [], [], _ => by simp [sameGo]
  | x :: a, y :: b, h => by
    have ih := sameGo_all (p := p) (a := a) (b := b) (by simpa using h)
    simp only [sameGo]
    constructor
    · intro h1 i hi
      split at h1
      · rename_i h2
        cases i with
        | zero => exact h2
        | succ i => exact ih.1 h1 i (by simpa using hi)
      · cases h1
    · intro h1
      have h0 : p x y = true := h1 0 (by simp)
      rw [if_pos h0]
      exact ih.2 fun i hi => h1 (i + 1) (by simpa using hi)
  | [], _ :: _, h => by simp at h
  | _ :: _, [], h => by simp at h
theorem sameF_all {α : Type} [Inhabited α] {p : α → α → Bool} {a b : List α} : sameF p a b = true ↔ a.length = b.length ∧ ∀ i, i < a.length → p (at_ a i) (at_ b i) = true := by
  unfold sameF
  by_cases h : a.length = b.length
  · rw [if_neg (by omega), sameGo_all h]
    exact Iff.intro (fun h1 => And.intro h h1) (fun h1 => h1.2)
  · rw [if_pos (by omega)]
    exact Iff.intro (fun h1 => by cases h1) (fun h1 => absurd h1.1 h)
theorem sameF_eq {α : Type} [Inhabited α] {p : α → α → Bool} (hp : ∀ x y, p x y = true ↔ x = y) {a b : List α} : sameF p a b = true ↔ a = b := by
  rw [sameF_all]
  constructor
  · rintro ⟨h1, h2⟩
    exact at_ext h1 fun i hi => (hp _ _).1 (h2 i hi)
  · rintro rfl
    exact ⟨rfl, fun i hi => (hp _ _).2 rfl⟩
theorem eqInt_iff (x y : Int) : (x == y) = true ↔ x = y := by simp
theorem eqDim_iff (x y : Dim) : eqDim x y = true ↔ x = y := by
  cases x; cases y
  simp [eqDim, encDim, eqDs, eqD]
theorem eqAttr_iff (x y : Attr) : eqAttr x y = true ↔ x = y := by
  cases x; cases y
  simp [eqAttr, encAttr, eqDs, eqD]
theorem eqVal_iff (x y : Val) : eqVal x y = true ↔ x = y := by
  cases x; cases y
  simp [eqVal, encVal, eqDs, eqD]
theorem eqCell_iff (x y : Cell) : eqCell x y = true ↔ x = y := by
  cases x; cases y
  simp [eqCell, sameF_eq eqInt_iff, sameF_eq eqVal_iff]
def resF (ds : List Dim) (ats : List Attr) (cs : List Cell) : Option Arr × Int := if 4096 < (cs.length : Int) then (none, 9) else (some ⟨ds, ats, sortF cs⟩, 0)
def dimX (ds : List Dim) (name : List UInt8) : Int := idxGo (fun a : Dim => a.name == name) ds 0
theorem idxGo_at {α : Type} [Inhabited α] {p : α → Bool} : ∀ {l : List α} {j : Nat}, ¬ idxGo p l j < 0 → ∃ k : Nat, idxGo p l j = ((j + k : Nat) : Int) ∧ k < l.length ∧ p (at_ l k) = true ∧ ∀ i, i < k → p (at_ l i) = false
  | [], j, h => by simp [idxGo] at h
  | x :: l, j, h => by
    simp only [idxGo] at h ⊢
    by_cases hp : p x = true
    · rw [if_pos hp] at h ⊢
      exact ⟨0, by simp, by simp, hp, fun i hi => by omega⟩
    · rw [if_neg hp] at h ⊢
      obtain ⟨k, h1, h2, h3, h4⟩ := idxGo_at h
      refine ⟨k + 1, by rw [h1]; omega, by simpa using h2, h3, fun i hi => ?_⟩
      cases i with
      | zero => exact Bool.eq_false_iff.2 hp
      | succ i => exact h4 i (by omega)
theorem dimX_at {ds : List Dim} {name : List UInt8} (h : ¬ dimX ds name < 0) : ∃ k : Nat, dimX ds name = (k : Int) ∧ k < ds.length ∧ (at_ ds k).name = name ∧ ∀ i, i < k → (at_ ds i).name ≠ name := by
  obtain ⟨k, h1, h2, h3, h4⟩ := idxGo_at h
  refine ⟨k, by unfold dimX; rw [h1]; simp, h2, by simpa using h3, fun i hi => by simpa using h4 i hi⟩
theorem names_nd {ds : List Dim} (h : (ds.map Dim.name).Nodup) {i j : Nat} (hi : i < ds.length) (hj : j < ds.length) (he : (at_ ds i).name = (at_ ds j).name) : i = j := by
  have h1 : at_ (ds.map Dim.name) i = at_ (ds.map Dim.name) j := by rw [at_mapN hi, at_mapN hj, he]
  have e1 := at_get (l := ds.map Dim.name) (i := i) (by simpa using hi)
  have e2 := at_get (l := ds.map Dim.name) (i := j) (by simpa using hj)
  rw [h1, ← e2] at e1
  exact (List.getElem?_inj (by simpa using hi) h).1 e1
section
variable {a : Arr}
theorem OkA.dims (h : OkA a.dims a.attrs a.cells) : 1 ≤ a.dims.length ∧ a.dims.length ≤ 4 ∧ (∀ i, i < a.dims.length → (-1073741824 ≤ (at_ a.dims i).lo ∧ (at_ a.dims i).lo ≤ 1073741824 ∧ (at_ a.dims i).lo ≤ (at_ a.dims i).hi ∧ (at_ a.dims i).hi ≤ 1073741825) ∧ nameF (at_ a.dims i).name = true) ∧ (a.dims.map Dim.name).Nodup := by
  obtain ⟨h1, h2, h3, h4⟩ := dimsF_ok (schemaF_ok h.sch).1
  exact ⟨h1, h2, fun i hi => ⟨boundsF_ok.1 (h3 _ (at_mem hi)).1, (h3 _ (at_mem hi)).2⟩, h4⟩
end
end Go.Proofs.YtpejdgkaapnekaaGreat
namespace Go.Proofs.YtpejdgkaapnekaaGreat
open Go Go.Abs
attribute [local irreducible] OkOps OkC DRun thenQ blockQ RetQ
set_option maxRecDepth 10000
inductive Scalar where
  | mk (op : Int) (name : List UInt8) (val : Val) (args : List Scalar)
  deriving Inhabited
def Scalar.op : Scalar → Int | .mk o _ _ _ => o
def Scalar.name : Scalar → List UInt8 | .mk _ n _ _ => n
def Scalar.val : Scalar → Val | .mk _ _ v _ => v
def Scalar.args : Scalar → List Scalar | .mk _ _ _ a => a
theorem Scalar.args_lt : ∀ {s x : Scalar}, x ∈ s.args → SizeOf.sizeOf x < SizeOf.sizeOf s
  | .mk o n v a, x, h => by
    have := List.sizeOf_lt_of_mem (show x ∈ a from h)
    simp; omega
theorem Scalar.ind {Q : Scalar → Prop} (h : ∀ s : Scalar, (∀ x ∈ s.args, Q x) → Q s) (s : Scalar) : Q s :=
  h s fun x hx => have := Scalar.args_lt hx; Scalar.ind h x
termination_by SizeOf.sizeOf s
mutual
def encS : Scalar → List D
  | .mk o n v a => [.int .i64 o, .str n, .int .i64 v.kind, .int .i64 v.num, .int .i64 v.den, .str v.str, .sl 7 88 (encSs a)]
def encSs : List Scalar → List (List D)
  | [] => []
  | s :: r => encS s :: encSs r
end
end Go.Proofs.YtpejdgkaapnekaaGreat
namespace Go.Proofs.YtpejdgkaapnekaaGreat
open Go Go.Abs
open Go.ChangeShapes Go.WideShapes Go.ChangeAt Go.RowKit
section
variable {H : Type} {en : TypeId × Value → H} {W : World}
theorem bulk_one (d : DataW H) : 1 ≤ Rows.uptoBulk d := by
  cases d with
  | lit l => cases l <;> simp [Rows.uptoBulk]
  | _ => simp [Rows.uptoBulk]
theorem bulk_mem {d : DataW H} : ∀ {l : List (DataW H)}, d ∈ l → Rows.uptoBulk d ≤ Rows.uptoBulkAll l
  | [], h => by simp at h
  | x :: r, h => by
    simp only [Rows.uptoBulkAll]
    rcases List.mem_cons.1 h with rfl | h
    · omega
    · have := bulk_mem h; omega
theorem bulk_len : ∀ (l : List (DataW H)), l.length ≤ Rows.uptoBulkAll l
  | [] => by simp [Rows.uptoBulkAll]
  | x :: r => by have := bulk_one x; have := bulk_len r; simp only [Rows.uptoBulkAll, List.length_cons]; omega
def sg (W : World) : Sig := fun b => match W.heap[b]? with | some (.cells cs _ _) => some cs | _ => none
theorem sg_some {b : Nat} {cs : Array Value} (h : sg W b = some cs) : ∃ t f, W.heap[b]? = some (.cells cs t f) := by
  unfold sg at h
  split at h
  · rename_i c t f hh; cases h; exact ⟨t, f, hh⟩
  · cases h
theorem sg_inv (φ : Pl) : HInv (sg W) φ [] W := ⟨fun b cs h => sg_some h, fun i e h => by simp [Abs.look] at h, fun i i' e e' p p' h => by simp [Abs.look] at h⟩
def Rd (en : TypeId × Value → H) (W : World) (N : Nat) (t : TypeId) {α : Type} (f : α → List D) (Q : α → Prop) : Prop :=
  ∀ (fuel : Nat) (cs : List Value) (x : DataW H × List MemPlace), DataW.trod en Tryz.prog W 0 (fun _ => true) true fuel t cs = some x → Rows.uptoBulk x.1 ≤ N → ∃ a : α, Q a ∧ All2 (Rep (sg W)) (f a) cs
def yes {α : Type} (_ : α) : Prop := True
theorem Rd.mono {N M : Nat} {t : TypeId} {α : Type} {f : α → List D} {Q : α → Prop} (h : Rd en W N t f Q) (hm : M ≤ N) : Rd en W M t f Q := fun fuel cs x hx hb => h fuel cs x hx (by omega)
theorem rd_int {N : Nat} {t : TypeId} (ht : Tryz.prog.underlying t = some (.int .i64)) : Rd en W N t (fun n : Int => [.int .i64 n]) yes := by
  intro fuel cs x h _
  obtain ⟨n, rfl, _, hw⟩ := DataW.trod_int ht h
  have hw' := bounds_i64 hw
  refine ⟨n, trivial, .int ?_, trivial⟩
  simp only [inR, IntKind.min, IntKind.max, IntKind.signed, IntKind.bits, if_true]
  omega
theorem rd_str {N : Nat} {t : TypeId} (hN : N ≤ 1048576) (ht : Tryz.prog.underlying t = some .string) : Rd en W N t (fun s : List UInt8 => [.str s]) yes := by
  intro fuel cs x h hb
  obtain ⟨s, rfl, rfl, _⟩ := DataW.trod_string ht h
  simp only [Rows.uptoBulk] at hb
  have := Rep.str (σ := sg W) (s := s.data.toList) (by omega)
  refine ⟨s.data.toList, trivial, ?_, trivial⟩
  simpa using this
def few_ {α : Type} (N : Nat) (Q : α → Prop) (l : List α) : Prop := l.length ≤ N ∧ ∀ x ∈ l, Q x
theorem rd_slice {N k b : Nat} {t e : TypeId} {α : Type} [Inhabited α] {f : α → List D} {Q : α → Prop} (hN : N ≤ 1048575) (hb : b ≤ 1000) (hk : 0 < k) (ht : Tryz.prog.underlying t = some (.slice e)) (hc : Tryz.prog.cellsOf e = k) (he : Rd en W N e f Q) : Rd en W (N + 1) t (fun l : List α => [.sl k b (l.map f)]) (few_ N Q) := by
  intro fuel cs x h hbk
  rcases Deep.open_slice ht h with ⟨rfl, rfl⟩ | ⟨a, len, cap, m, n, Dd, Pl, rfl, _, hl, _, hm, rfl, hel⟩
  · refine ⟨[], ⟨by simp, by simp⟩, ?_, trivial⟩
    exact .sl (fun _ _ => undef) (by simp) (by simp) (by simp) (by simp) (by simp) (by simp)
  · simp only [if_true] at hm
    subst hm
    rw [hc] at hel
    simp only [Rows.uptoBulk] at hbk
    have hlen : len ≤ N := by
      have := bulk_len ((List.range len).map Dd)
      simp only [List.length_map, List.length_range] at this
      omega
    have hpart : ∀ i, i < len → Rows.uptoBulk (Dd i) ≤ N := by
      intro i hi
      have := bulk_mem (d := Dd i) (l := (List.range len).map Dd) (List.mem_map.2 ⟨i, List.mem_range.2 hi, rfl⟩)
      omega
    obtain ⟨g, hg⟩ := Deep.choose_lt (n := len) (p := fun i (y : α) => Q y ∧ ∃ cs', W.cells? 0 (a.add (i * k)) k = some cs' ∧ All2 (Rep (sg W)) (f y) cs') (fun i hi => by
      obtain ⟨cs', h1, h2⟩ := hel i (by omega)
      obtain ⟨y, hq, hy⟩ := he _ _ _ h2 (hpart i hi)
      exact ⟨y, hq, cs', h1, hy⟩)
    have hcell : ∀ i, i < len → ∀ j, j < k → ∃ v, W.cell? ((a.add (i * k)).add j) = some v ∧ ∀ d, (f (g i))[j]? = some d → Rep (sg W) d v := by
      intro i hi j hj
      obtain ⟨_, cs', h1, h2⟩ := hg i hi
      obtain ⟨_, h3, h4⟩ := World.cells?_some h1
      have h5 : cs'[j]? = some (cs'[j]'(by omega)) := List.getElem?_eq_getElem (by omega)
      refine ⟨_, (h4 j hj).trans h5, fun d hd => ?_⟩
      obtain ⟨v, hv, hr⟩ := h2.get hd
      rw [h5] at hv; cases hv; exact hr
    have hfl : ∀ i, i < len → (f (g i)).length = k := by
      intro i hi
      obtain ⟨_, cs', h1, h2⟩ := hg i hi
      rw [h2.length]; exact (World.cells?_some h1).2.1
    have hadd : ∀ i j, i < len → j < k → a.spot = none → ((a.add (i * k)).add j) = ⟨a.block, a.off + i * k + j, none⟩ := by
      intro i j _ _ hs
      obtain ⟨B, o, sp⟩ := a
      simp only at hs
      subst hs
      by_cases h1 : i * k = 0 <;> by_cases h2 : j = 0 <;> simp [Addr.add, h1, h2]
    have hA : 0 < len → ∃ cells : Array Value, a.spot = none ∧ sg W a.block = some cells := by
      intro h0
      obtain ⟨v, hv, _⟩ := hcell 0 h0 0 hk
      have e0 : ((a.add (0 * k)).add 0) = a := by simp [Addr.add]
      rw [e0] at hv
      unfold World.cell? at hv
      unfold sg
      split at hv
      · rename_i c t2 f2 hh
        rw [hh]
        split at hv
        · cases hv
        · rename_i hs
          exact ⟨c, by simpa using hs, rfl⟩
      · cases hv
    refine ⟨(List.range len).map g, ⟨by simpa using hlen, fun y hy => ?_⟩, ?_, trivial⟩
    · obtain ⟨i, hi, rfl⟩ := List.mem_map.1 hy
      exact (hg i (List.mem_range.1 hi)).1
    have hll : (((List.range len).map g).map f).length = len := by simp
    have key : Rep (sg W) (.sl k b (((List.range len).map g).map f)) (.slice (some a) (((List.range len).map g).map f).length m) := by
      refine .sl (fun i j => (W.cell? ((a.add (i * k)).add j)).getD undef) (by rw [hll]; exact hl) (by rw [hll]; omega) (by
        rw [hll]
        have : len * b ≤ 1048576 * 1000 := Nat.mul_le_mul (by omega) hb
        omega) (fun x hx => ?_) (fun h0 => ?_) (fun i j x d hx hd => ?_)
      · simp only [List.mem_map, List.mem_range] at hx
        obtain ⟨y, ⟨i, hi, rfl⟩, rfl⟩ := hx
        exact hfl i hi
      · rw [hll] at h0
        obtain ⟨cells, hs, hsg⟩ := hA h0
        refine ⟨a.block, a.off, cells, ?_, hsg, fun i j hi hj => ?_⟩
        · obtain ⟨B, o, sp⟩ := a; simp only at hs; subst hs; rfl
        · rw [hll] at hi
          obtain ⟨v, hv, _⟩ := hcell i hi j hj
          rw [hv]
          rw [hadd i j hi hj hs] at hv
          obtain ⟨t2, f2, hh⟩ := sg_some hsg
          simp only [World.cell?, hh] at hv
          simpa using hv
      · simp only [List.getElem?_map, Option.map_eq_some_iff] at hx
        obtain ⟨y, ⟨i', hi', rfl⟩, rfl⟩ := hx
        have hi : i < len := by
          have := (List.getElem?_eq_some_iff.1 hi').1
          simpa using this
        have hii : i' = i := by simpa [List.getElem?_range hi] using hi'.symm
        subst hii
        have hj : j < k := by rw [← hfl i' hi]; exact (List.getElem?_eq_some_iff.1 hd).1
        obtain ⟨v, hv, hr⟩ := hcell i' hi j hj
        rw [hv]
        exact hr d hd
    rw [hll] at key
    exact key
theorem all2_app {R : D → Value → Prop} {a b : List D} {cs : List Value} {o n m : Nat} (h1 : All2 R a ((cs.drop o).take n)) (h2 : All2 R b ((cs.drop (o + n)).take m)) : All2 R (a ++ b) ((cs.drop o).take (n + m)) := by
  rw [List.take_add, List.drop_drop]
  exact h1.append h2
theorem rd_field {N : Nat} {t u : TypeId} {fs : Array Field} {fuel : Nat} {cs : List Value} {x : DataW H × List MemPlace} (ht : Tryz.prog.underlying t = some (.struct fs)) (h : DataW.trod en Tryz.prog W 0 (fun _ => true) true fuel t cs = some x) (hb : Rows.uptoBulk x.1 ≤ N + 1)
    (i : Nat) {fd : Field} (hf : fs[i]? = some fd) {α : Type} {f : α → List D} {Q : α → Prop} (hr : Rd en W N fd.type f Q) {c : Nat} (hc : Tryz.prog.cellsOf fd.type = c) : ∃ a, Q a ∧ All2 (Rep (sg W)) (f a) ((cs.drop fd.offset).take c) := by
  subst hc
  obtain ⟨xs, n, _, rfl, _, hl, hx⟩ := DataW.trod_struct ht h
  have h2 := hx i fd hf
  have hi : i < xs.length := by rw [hl]; exact (Array.getElem?_eq_some_iff.1 hf).1
  rw [List.getElem?_eq_getElem hi] at h2
  refine hr _ _ _ h2 ?_
  have := bulk_mem (d := (xs[i]).1) (l := xs.map (·.1)) (List.mem_map.2 ⟨_, List.getElem_mem hi, rfl⟩)
  simp only [Rows.uptoBulk] at hb
  omega
theorem cellsL {t : TypeId} {fs : Array Field} {fuel : Nat} {cs : List Value} {x : DataW H × List MemPlace} (ht : Tryz.prog.underlying t = some (.struct fs)) (h : DataW.trod en Tryz.prog W 0 (fun _ => true) true fuel t cs = some x) : cs.length = Tryz.prog.cellsOf t := by
  obtain ⟨_, _, _, _, hl, _⟩ := DataW.trod_struct ht h
  exact hl
theorem cells3 : Tryz.prog.cellsOf 3 = 1 := by kernel_rfl
theorem cells2 : Tryz.prog.cellsOf 2 = 1 := by kernel_rfl
theorem cells9 : Tryz.prog.cellsOf 9 = 1 := by kernel_rfl
theorem cells28 : Tryz.prog.cellsOf 28 = 4 := by kernel_rfl
theorem cells82 : Tryz.prog.cellsOf 82 = 2 := by kernel_rfl
theorem cells53 : Tryz.prog.cellsOf 53 = 3 := by kernel_rfl
theorem cells22 : Tryz.prog.cellsOf 22 = 1 := by kernel_rfl
theorem cells23 : Tryz.prog.cellsOf 23 = 1 := by kernel_rfl
theorem cells24 : Tryz.prog.cellsOf 24 = 1 := by kernel_rfl
theorem cells26 : Tryz.prog.cellsOf 26 = 3 := by kernel_rfl
theorem whole {R : D → Value → Prop} {a : List D} {cs : List Value} {n : Nat} (h : All2 R a ((cs.drop 0).take n)) (hl : cs.length = n) : All2 R a cs := by
  rw [List.drop_zero, List.take_of_length_le (by omega)] at h; exact h
theorem rd_val {N : Nat} (hN : N ≤ 1048575) : Rd en W (N + 1) 28 (fun v : Val => [.int .i64 v.kind, .int .i64 v.num, .int .i64 v.den, .str v.str]) yes := by
  intro fuel cs x h hb
  obtain ⟨k, _, hk⟩ := rd_field (u := 0) Tryz.underlying28 h hb 0 rfl (rd_int Tryz.underlying3) cells3
  obtain ⟨n, _, hn⟩ := rd_field (u := 0) Tryz.underlying28 h hb 1 rfl (rd_int Tryz.underlying2) cells2
  obtain ⟨d, _, hd⟩ := rd_field (u := 0) Tryz.underlying28 h hb 2 rfl (rd_int Tryz.underlying2) cells2
  obtain ⟨s, _, hs⟩ := rd_field (u := 0) Tryz.underlying28 h hb 3 rfl (rd_str (by omega) Tryz.underlying9) cells9
  exact ⟨⟨k, n, d, s⟩, trivial, whole (all2_app (all2_app (all2_app hk hn) hd) hs) ((cellsL Tryz.underlying28 h).trans cells28)⟩
theorem rd_dim {N : Nat} (hN : N ≤ 1048575) : Rd en W (N + 1) 53 encDim yes := by
  intro fuel cs x h hb
  obtain ⟨s, _, hs⟩ := rd_field (u := 0) Tryz.underlying53 h hb 0 rfl (rd_str (by omega) Tryz.underlying9) cells9
  obtain ⟨k, _, hk⟩ := rd_field (u := 0) Tryz.underlying53 h hb 1 rfl (rd_int Tryz.underlying3) cells3
  obtain ⟨n, _, hn⟩ := rd_field (u := 0) Tryz.underlying53 h hb 2 rfl (rd_int Tryz.underlying3) cells3
  exact ⟨⟨s, k, n⟩, trivial, whole (all2_app (all2_app hs hk) hn) ((cellsL Tryz.underlying53 h).trans cells53)⟩
theorem rd_attr {N : Nat} (hN : N ≤ 1048575) : Rd en W (N + 1) 82 encAttr yes := by
  intro fuel cs x h hb
  obtain ⟨s, _, hs⟩ := rd_field (u := 0) Tryz.underlying82 h hb 0 rfl (rd_str (by omega) Tryz.underlying9) cells9
  obtain ⟨k, _, hk⟩ := rd_field (u := 0) Tryz.underlying82 h hb 1 rfl (rd_int Tryz.underlying3) cells3
  exact ⟨⟨s, k⟩, trivial, whole (all2_app hs hk) ((cellsL Tryz.underlying82 h).trans cells82)⟩
theorem cells37 : Tryz.prog.cellsOf 37 = 1 := by kernel_rfl
theorem cells54 : Tryz.prog.cellsOf 54 = 1 := by kernel_rfl
theorem cells56 : Tryz.prog.cellsOf 56 = 2 := by kernel_rfl
def fewC (N : Nat) (c : Cell) : Prop := c.at'.length ≤ N ∧ c.vals.length ≤ N
theorem rd_cell {N : Nat} (hN : N ≤ 1048573) : Rd en W (N + 3) 56 encCell (fewC (N + 1)) := by
  intro fuel cs x h hb
  obtain ⟨a, qa, ha⟩ := rd_field (u := 0) Tryz.underlying56 h hb 0 rfl (rd_slice (f := encInt) (N := N + 1) (k := 1) (b := 8) (by omega) (by omega) (by omega) Tryz.underlying37 cells3 (rd_int Tryz.underlying3)) cells37
  obtain ⟨v, qv, hv⟩ := rd_field (u := 0) Tryz.underlying56 h hb 1 rfl (rd_slice (f := encVal) (N := N + 1) (k := 4) (b := 40) (by omega) (by omega) (by omega) Tryz.underlying54 cells28 (rd_val (by omega))) cells54
  exact ⟨⟨a, v⟩, ⟨qa.1, qv.1⟩, whole (all2_app ha hv) ((cellsL Tryz.underlying56 h).trans cells56)⟩
def fewA (N : Nat) (a : Arr) : Prop := few_ N yes a.dims ∧ few_ N yes a.attrs ∧ few_ N (fewC N) a.cells
theorem rd_arr {N : Nat} (hN : N ≤ 1048571) : Rd en W (N + 5) 26 encArr (fewA (N + 3)) := by
  intro fuel cs x h hb
  obtain ⟨d, qd, hd⟩ := rd_field (u := 0) Tryz.underlying26 h hb 0 rfl (rd_slice (f := encDim) (N := N + 3) (k := 3) (b := 32) (by omega) (by omega) (by omega) Tryz.underlying22 cells53 (rd_dim (by omega))) cells22
  obtain ⟨a, qa, ha⟩ := rd_field (u := 0) Tryz.underlying26 h hb 1 rfl (rd_slice (f := encAttr) (N := N + 3) (k := 2) (b := 24) (by omega) (by omega) (by omega) Tryz.underlying23 cells82 (rd_attr (by omega))) cells23
  obtain ⟨c, qc, hc⟩ := rd_field (u := 0) Tryz.underlying26 h hb 2 rfl (rd_slice (f := encCell) (N := N + 3) (k := 2) (b := 48) (by omega) (by omega) (by omega) Tryz.underlying24 cells56 (rd_cell (by omega))) cells24
  exact ⟨⟨d, a, c⟩, ⟨qd, qa, qc.1, fun x hx => by have := qc.2 x hx; unfold fewC at *; omega⟩, whole (all2_app (all2_app hd ha) hc) ((cellsL Tryz.underlying26 h).trans cells26)⟩
theorem okWide_agg {P : Program} {t : TypeId} {fs : Array Field} {r : Reach} {base : Nat} {v : Value} (ht : P.underlying t = some (.struct fs)) (h : Value.okWide P W r base t v) : ∃ cs : List Value, v = .agg cs.toArray := by
  unfold Value.okWide at h
  rw [ht] at h
  obtain ⟨cs, rfl, _⟩ := h
  exact ⟨cs.toList, by simp⟩
theorem carryAll {W' : World} : ∀ {ts : List TypeId} {vs : List Value} {ds : List (DataW H)} {ps : List MemPlace}, DataW.TrodAll en Tryz.prog W 0 (fun _ => true) true ts vs ds ps → (∀ p ∈ ps, W.sameAt W' p) → DataW.TrodAll en Tryz.prog W' 0 (fun _ => true) true ts vs ds ps
  | [], [], [], _, h, _ => h
  | _ :: _, _ :: _, _ :: _, _, ⟨p, q, ⟨n, h1⟩, h2, e⟩, hs => ⟨p, q, ⟨n, DataW.trod_carry n _ _ _ h1 fun x hx => hs x (by rw [e]; exact List.mem_append_left _ hx)⟩, carryAll h2 fun x hx => hs x (by rw [e]; exact List.mem_append_right _ hx), e⟩
theorem own : ownKnob Tryz.prog.godebug = none := by kernel_rfl
theorem kids : Kids Tryz.prog (· < Tryz.prog.types.size) := kids_rows (by kernel_rfl) (by kernel_rfl)
set_option maxRecDepth 100000 in
theorem full : ∀ t e, t < Tryz.prog.types.size → Tryz.prog.underlying t = some (.slice e) → 0 < Tryz.prog.cellsOf e := slices_full_of Tryz.prog (by kernel_rfl)
theorem keptBlock {W' : World} (h : Kept (MOf (fun _ => none) []) W W') : ∀ b, b < W.heap.size → W'.heap[b]? = W.heap[b]? := fun b hb => h.block b hb (by rintro ⟨id, e, p, h1, _⟩; simp [Abs.look] at h1)
theorem keptAll {W' : World} (h : Kept (MOf (fun _ => none) []) W W') (may : MemPlace → Prop) : W.keptBut W' may :=
  ⟨h.os, h.output, fun i hi => by rw [keptBlock h i hi]; exact (World.keptBut_refl W may).2.2 i hi⟩
theorem keptSame {W' : World} (h : Kept (MOf (fun _ => none) []) W W') {p : MemPlace} (hp : p.block < W.heap.size) : W.sameAt W' p := by
  have hb := keptBlock h p.block hp
  cases p with
  | cell b off => show W'.cell? ⟨b, off, none⟩ = W.cell? ⟨b, off, none⟩; unfold World.cell?; rw [show W'.heap[b]? = W.heap[b]? from hb]
  | map b => exact hb
theorem all2_d {σ : Sig} {φ : Pl} {sto : Sto} : ∀ {ds : List D} {vs : List Value}, All2 (Rep σ) ds vs → All2 (RepC σ φ sto) (ds.map .d) vs
  | [], [], _ => trivial
  | d :: r, v :: vs, h => ⟨.d h.1, all2_d h.2⟩
  | [], _ :: _, h => h.elim
  | _ :: _, [], h => h.elim
theorem tsz : Nat.blt 300 Tryz.prog.types.size = true := by kernel_rfl
theorem few {t : Nat} (h : t ≤ 300) : t < Tryz.prog.types.size := by have := Nat.blt_eq.mp tsz; omega
theorem shutBool {W' : World} {base : Nat} {sp : Nat → Bool} {held : Bool} (b : Bool) : DataW.Trod en Tryz.prog W' base sp held 4 (.bool b) (.lit (.bool b)) [] := ⟨1, by simp [DataW.trod, Value.cells, Tryz.underlying4]⟩
end
end Go.Proofs.YtpejdgkaapnekaaGreat
namespace Go.Abs
open Go
variable {P : Program} {c : Ctx} {σ σ' : Sig} {φ φ' : Pl} {w w' : World}
theorem HInv.ren {S : Sto} (r : Nat → Nat) (h : HInv σ φ S w) (hk : (nodupL (keysL S) && nodupL (mapN r (keysL S)) && fitG r (keysL S) && stoIn S S) = true) :
    ∃ φ', HInv σ φ' (renS r S) w ∧ (∀ j o, look S j = some o → look (renS r S) (r j) = some (renO r o) ∧ φ' (r j) = φ j) ∧ (∀ t e, look (renS r S) t = some e → ∃ j o, t = r j ∧ look S j = some o ∧ e = renO r o) ∧ ∀ t, Pin t → φ' t = φ t := by
  simp only [Bool.and_eq_true] at hk
  obtain ⟨⟨⟨h1, h2⟩, h3⟩, h4⟩ := hk
  classical
  let φ' : Pl := fun t => if h : ∃ i, i ∈ keysL S ∧ r i = t then φ h.choose else φ t
  have hφ : ∀ {i : Nat}, i ∈ keysL S → φ' (r i) = φ i := by
    intro i hi
    have hex : ∃ j, j ∈ keysL S ∧ r j = r i := ⟨i, hi, rfl⟩
    show (if h : ∃ j, j ∈ keysL S ∧ r j = r i then φ h.choose else φ (r i)) = φ i
    rw [dif_pos hex]
    have := hex.choose_spec
    rw [nodup_inj h2 this.1 hi this.2]
  have hR : ∀ j o, look S j = some o → look (renS r S) (r j) = some (renO r o) ∧ φ' (r j) = φ j := fun j o hj => ⟨renS_look h2 hj, hφ (look_key hj)⟩
  refine ⟨φ', ⟨h.sig, fun t e ht => ?_, fun t t' e e' p p' ht ht' hne hp hp' => ?_⟩, hR, fun t e ht => look_renS h1 ht, fun t ht => ?_⟩
  · obtain ⟨i, o, rfl, hi, rfl⟩ := look_renS h1 ht
    exact reObj hR hi (stoIn_look h4 hi) (h.obj _ _ hi)
  · obtain ⟨i, o, rfl, hi, rfl⟩ := look_renS h1 ht
    obtain ⟨i', o', rfl, hi', rfl⟩ := look_renS h1 ht'
    rw [(hR _ _ hi).2] at hp
    rw [(hR _ _ hi').2] at hp'
    exact h.inj _ _ _ _ _ _ hi hi' (fun e => hne (by rw [e])) hp hp'
  · show (if h : ∃ j, j ∈ keysL S ∧ r j = t then φ h.choose else φ t) = _
    split
    · rename_i hex
      have hs := hex.choose_spec
      have := fitG_ok h3 hs.1 (by rw [hs.2]; exact ht)
      rw [hs.2] at this
      rw [← this]
    · rfl
theorem repL_ren {S : Sto} {r : Nat → Nat} (hR : ∀ j o, look S j = some o → look (renS r S) (r j) = some (renO r o) ∧ φ' (r j) = φ j) : ∀ {avs : List AV} {vs : List Value}, avsIn S avs = true → All2 (RepV σ φ S) avs vs → All2 (RepV σ φ' (renS r S)) (renL r avs) vs
  | [], [], _, _ => trivial
  | x :: l, v :: vs, h, ha => by
    simp only [avsIn, Bool.and_eq_true] at h
    exact ⟨reV hR h.1 ha.1, repL_ren hR h.2 ha.2⟩
  | [], _ :: _, _, ha => ha.elim
  | _ :: _, [], _, ha => ha.elim
theorem callA_ren {f : FuncId} {avs avs0 : List AV} {s s0 s' s1 : Sto} {rav : AV} (q q' : Nat → Nat) (hC : CallA P f avs s rav s') (hs : renS q s0 = s) (ha : renL q avs0 = avs) (hs' : renS q' s' = s1) (hai : avsIn s0 avs0 = true) (hfl : flatV rav = true)
    (hk : (nodupL (keysL s0) && nodupL (mapN q (keysL s0)) && fitG q (keysL s0) && stoIn s0 s0) = true) (hk' : (nodupL (keysL s') && nodupL (mapN q' (keysL s')) && fitG q' (keysL s') && stoIn s' s') = true) : CallA P f avs0 s0 rav s1 := by
  subst hs; subst ha; subst hs'
  refine ⟨hC.fn, fun w σ φ vs hinv hargs => ?_⟩
  obtain ⟨φ1, h1, hR, hL, hp⟩ := hinv.ren q hk
  refine (hC.run w σ φ1 vs h1 (repL_ren hR hai hargs)).mono ?_
  rintro e w' ⟨v, σ', φ', rfl, hret⟩
  obtain ⟨φ2, h2, hR2, hL2, hp2⟩ := hret.inv.ren q' hk'
  have hM : ∀ b, MOf φ1 (renS q s0) b → MOf φ s0 b := by
    rintro b ⟨t, e, p, h3, h4, h5⟩
    obtain ⟨j, o, rfl, h6, rfl⟩ := hL t e h3
    rw [(hR _ _ h6).2] at h4
    exact ⟨j, o, p, h6, h4, h5⟩
  refine ⟨v, σ', φ2, rfl, hret.le, fun b hb => ?_, h2, flatV_rep hfl hret.rep, fun i e p hi hpi => ?_, fun t ht => (hp2 t ht).trans ((hret.pin t ht).trans (hp t ht)), ⟨hret.kept.os, hret.kept.tape, hret.kept.output, hret.kept.size, hret.kept.drawn, fun b hb hm => hret.kept.block b hb fun h => hm (hM b h)⟩⟩
  · rcases hret.fresh b hb with h | h | h
    · exact .inl h
    · exact .inr (.inl h)
    · exact .inr (.inr (hM b h))
  · obtain ⟨j, o, rfl, h6, rfl⟩ := hL2 i e hi
    rw [(hR2 _ _ h6).2] at hpi
    rcases hret.mine _ _ _ h6 hpi with h | h
    · exact .inl h
    · exact .inr (hM _ h)
variable {V : Env} {T : Tab} {w0 : World} {σ0 : Sig} {φ0 : Pl} {M : Nat → Prop} {n : Nat} {rd : Option Nat} {mk : List Deferred} {ops : Array Oper} {o : Oper} {rest : List Oper} {fr : List (Nat × AV)} {sto : Sto} {K : St → Prop} {st st0 : St} {acc : List Tr}
theorem s_append (hT : TabOk P T) {d : Nat} {t t2 e e2 k b k2 b2 k' b' id m : Nat} {z z2 : List D} {x y : Operand} {v : AV} {xs ys zs : List (List D)}
    (ho : o.op = .call { callee := .builtin .append, args := #[x, y], argTypes := #[t, t2] }) (hg : o.guard = none) (hdst : o.dst = some d) (hd : Nat.blt d n = true) (ht : sliceTy T t = some (e, k, b, z)) (ht2 : sliceTy T t2 = some (e2, k2, b2, z2))
    (hlt : (Nat.blt id 1000000 || Nat.ble 2000000 id) = true) (hx : ev ⟨fr, sto⟩ x = some (.one (.own id m))) (hl : look sto id = some (.row k' b' xs)) (hkb : (Nat.beq k k' && Nat.beq b b') = true) (hy : ev ⟨fr, sto⟩ y = some v) (hs : srcOf ⟨fr, sto⟩ k v = some ys) (hzs : zs = xs.take m ++ ys)
    (hm : m ≤ 100000000) (hys : ys.length ≤ 100000) (hb : b ≤ 100)
    (h : OkOps P ⟨w0, σ0, φ0, M, n, rd, mk⟩ ops rest ⟨(d, .one (.own id (m + ys.length))) :: purFr id fr, setS id (.row k b zs) (purSto id sto)⟩ K) : OkOps P ⟨w0, σ0, φ0, M, n, rd, mk⟩ ops (o :: rest) ⟨fr, sto⟩ K := by
  have h47 : (m + ys.length) * b ≤ 2 ^ 47 := Nat.le_trans (Nat.mul_le_mul (show m + ys.length ≤ 200000000 by omega) hb) (by omega)
  exact okops_append hT ho hg (by rw [hdst]; exact hd) ht ht2 hlt hx hl hkb hy hs hzs (by omega) h47 (by rw [hdst]; exact h)
theorem imp_subS {s' : Sto} (h : SubL sto s') : Imp c ⟨fr, sto⟩ ⟨fr, s'⟩ := fun a w σ φ hr => ⟨σ, φ, hr.dropTo fun i e hi => h.look hi⟩
theorem s_callFS (dl : List Nat) {d : Nat} {fop : Operand} {args : Array Operand} {ats : Array TypeId} {f : FuncId} {caps : List D} {avs avs' : List AV} {rav : AV} {rsto : Sto} {os : List (Nat × AObj)}
    (ho : o.op = .call { callee := .value fop, args := args, argTypes := ats }) (hg : o.guard = none) (hdst : o.dst = some d) (hd : Nat.blt d n = true) (hos : objsL sto dl = some os) (hf : evS os ⟨fr, sto⟩ fop = some (.one (.d (.fn f caps))))
    (ha : evLS os ⟨fr, sto⟩ args.toList = some avs) (hD : avsD avs = true) (hap : (avs ++ caps.map fun x => .one (.d x)) = avs') (hC : CallA P f avs' [] rav rsto) (hfl : flatV rav = true)
    (h : OkOps P ⟨w0, σ0, φ0, M, n, rd, mk⟩ ops rest ⟨(d, rav) :: fr, sto⟩ K) : OkOps P ⟨w0, σ0, φ0, M, n, rd, mk⟩ ops (o :: rest) ⟨fr, sto⟩ K := by
  subst hap
  obtain ⟨ss, h1, h2⟩ := sealL_objs (st := ⟨fr, sto⟩) hos
  exact okops_callF ho hg (by rw [hdst]; exact hd) (imp_sealL h1) (by rw [h2]; exact hf) (by rw [evL_evLS h2]; exact ha) hD hC hfl (by rw [hdst]; exact h)
end Go.Abs
namespace Go.Abs
open Go
variable {P : Program} {c : Ctx} {T : Tab}
theorem okops_isNilS (hT : TabOk P T) {ops : Array Oper} {o : Oper} {rest : List Oper} {st : St} {K : St → Prop} {op : BinOp} {t ty : TypeId} {x y : Operand} {e : Bool} {k b : Nat} {xs : List (List D)}
    (ho : o.op = .binOp op t x y ty) (hop : isEql op = some e) (hg : o.guard = none) (hd : dstOk c.n o.dst = true) (ht : (isSliceT T t && isNilA (ev st y)) = true) (hx : ev st x = some (.one (.d (.sl k b xs))))
    (h : ∀ r : Bool, (r = true → xs = []) → OkOps P c ops rest ⟨putO o.dst (.one (.d (.bool (r == e)))) st.fr, st.sto⟩ K) : OkOps P c ops (o :: rest) st K :=
  okops_run hg fun a w σ φ hr => by
    rw [Bool.and_eq_true] at ht
    obtain ⟨el, hu⟩ := isSliceT_ok hT ht.1
    have hr1 : ∃ A n cap, a.eval x = .slice A n cap ∧ (A.isNone = true → xs = []) := by
      have h1 := RepC.d_inv (ev_rep hr hx)
      generalize a.eval x = u at h1
      cases h1 with
      | sl vs hc h48 hb hk hA hh =>
        refine ⟨_, _, _, rfl, fun hn => ?_⟩
        cases xs with
        | nil => rfl
        | cons z zs =>
          obtain ⟨B, o, cells, rfl, _⟩ := hA (by simp)
          simp at hn
    obtain ⟨A, n, cap, hx, hA⟩ := hr1
    have hy : a.eval y = .slice none 0 0 := by
      have h2 := ht.2
      unfold isNilA at h2
      split at h2
      · rename_i hy
        have h1 := RepC.d_inv (ev_rep hr hy)
        generalize a.eval y = u at h1
        cases h1; rfl
      · cases h2
    refine ⟨.bool (A.isNone == e), w, _, σ, φ, ?_, hr.put (v := .one (.d (.bool (A.isNone == e)))) hd (RepC.d .bool), h _ hA⟩
    cases op <;> simp only [isEql, Option.some.injEq, reduceCtorEq] at hop <;> subst hop
    · simp [execOp, ho, hx, hy, eqGuard_quiet, Lib.run_eql_slice_nil _ _ _ _ _ _ _ _ hu]
    · simp [execOp, ho, hx, hy, eqGuard_quiet, run_neq_slice_nil_any _ _ _ _ _ _ _ _ hu]
variable {w0 : World} {σ0 : Sig} {φ0 : Pl} {fr : List (Nat × AV)} {sto : Sto}
theorem imp_adoptJ (i j0 id : Nat) {k b : Nat} {cs : List AC} (hl : look sto i = some (.box cs)) (hc : cs[j0]? = some (.d .nil)) (hlt : (Nat.blt id 1000000 && (!frMen id fr && !stoMen id sto && !hasK sto id)) = true) : Imp c ⟨fr, sto⟩ ⟨fr, (id, .row k b []) :: setS i (.box (cs.set j0 (.own id 0))) sto⟩ := by
  simp only [Bool.and_eq_true, Bool.not_eq_true', Nat.blt_eq] at hlt
  obtain ⟨h1, ⟨h2, h3⟩, h4⟩ := hlt
  intro a w σ φ hr
  have hn := hr.nilRow (id := id) (k := k) (b := b) (by simpa using h1) h2 h3
  have hne : id ≠ i := by rintro rfl; simp [hasK, hl] at h4
  have hE : Ext (fun _ => False) (updP φ id none) (updP φ id none) ((id, .row k b []) :: sto) ((id, .row k b []) :: setS i (.box (cs.set j0 (.own id 0))) sto) := by
    intro j _
    cases hj : look ((id, AObj.row k b []) :: setS i (.box (cs.set j0 (.own id 0))) sto) j with
    | none => exact .inl rfl
    | some e =>
      refine .inr ?_
      rcases look_cons hj with ⟨rfl, rfl⟩ | ⟨hne2, hj2⟩
      · exact ⟨_, look_self, rfl, _, rfl, compat.refl _⟩
      · rw [look_setS] at hj2
        rcases look_cons hj2 with ⟨rfl, rfl⟩ | ⟨_, hj3⟩
        · exact ⟨.box cs, by rw [look_ne hne2]; exact hl, rfl, .box (cs.set j0 (.own id 0)), rfl, trivial⟩
        · exact ⟨_, by rw [look_ne hne2]; exact hj3, rfl, _, rfl, compat.refl _⟩
  have hold : ∀ {j e}, look ((id, AObj.row k b []) :: setS i (.box (cs.set j0 (.own id 0))) sto) j = some e → (j = i ∧ e = .box (cs.set j0 (.own id 0))) ∨ look ((id, AObj.row k b []) :: sto) j = some e := by
    intro j e hj
    rcases look_cons hj with ⟨rfl, rfl⟩ | ⟨hne2, hj2⟩
    · exact .inr look_self
    · rw [look_setS] at hj2
      rcases look_cons hj2 with ⟨rfl, rfl⟩ | ⟨_, hj3⟩
      · exact .inl ⟨rfl, rfl⟩
      · exact .inr (by rw [look_ne hne2]; exact hj3)
  have hi : look ((id, AObj.row k b []) :: sto) i = some (.box cs) := by rw [look_ne (fun e => hne e.symm)]; exact hl
  refine ⟨σ, _, hn.le, hn.fresh, ⟨hn.inv.sig, fun j e hj => ?_, fun j j' e e' p p' hj hj' hne2 hp hp' => ?_⟩, fun j e p hj hp => ?_, fun s v hv => ?_, hn.defers, hn.size, hn.fra, hn.pin⟩
  · rcases hold hj with ⟨rfl, rfl⟩ | hj2
    · obtain ⟨B, cc, vs, t, h5, h6, h7, h8⟩ := hn.inv.obj _ _ hi
      refine ⟨B, cc, vs, t, h5, h6, All2.of_get (by rw [List.length_set]; exact h7.length) fun m x u hx hu => ?_, h8⟩
      by_cases hm : j0 = m
      · subst hm
        have hlt : j0 < cs.length := (List.getElem?_eq_some_iff.1 hc).1
        rw [List.getElem?_set_self hlt] at hx
        cases hx
        obtain ⟨u', hu', hr9⟩ := h7.get hc
        rw [hu] at hu'; cases hu'
        replace hr9 := RepC.d_inv hr9
        cases hr9
        exact .ownNil look_self updP_self
      · rw [List.getElem?_set_ne hm] at hx
        obtain ⟨u', hu', hr9⟩ := h7.get hx
        rw [hu] at hu'; cases hu'
        exact hr9.ext (Sig.le_refl _) hE fun j hj => hj.elim
    · exact (hn.inv.obj _ _ hj2).ext (X := fun _ => False) (Sig.le_refl _) hE (fun j hj => hj.elim) rfl fun _ _ _ => ⟨rfl, rfl⟩
  · have h5 : ∀ {j e}, look ((id, AObj.row k b []) :: setS i (.box (cs.set j0 (.own id 0))) sto) j = some e → ∃ e0, look ((id, AObj.row k b []) :: sto) j = some e0 := by
      intro j e hj
      rcases hold hj with ⟨rfl, rfl⟩ | hj2
      · exact ⟨_, hi⟩
      · exact ⟨_, hj2⟩
    obtain ⟨_, h6⟩ := h5 hj
    obtain ⟨_, h7⟩ := h5 hj'
    exact hn.inv.inj _ _ _ _ _ _ h6 h7 hne2 hp hp'
  · rcases hold hj with ⟨rfl, rfl⟩ | hj2
    · exact hn.mine _ _ _ hi hp
    · exact hn.mine _ _ _ hj2 hp
  · obtain ⟨u, hu, hru⟩ := hn.slot s v hv
    exact ⟨u, hu, hru.ext (Sig.le_refl _) hE fun j hj => hj.elim⟩
theorem step3_append {V : Env} {st : St} {o : Oper} {id i n k b k' b' : Nat} {t t2 : TypeId} {x y : Operand} {v : AV} {xs ys : List (List D)} {e : TypeId} {z : List D} {q : TypeId × Nat × Nat × List D}
    (ho : o.op = .call { callee := .builtin .append, args := ⟨[x, y]⟩, argTypes := ⟨[t, t2]⟩ }) (ht : sliceTy V.T t = some (e, k, b, z)) (ht2 : sliceTy V.T t2 = some q) (hx : ev st x = some (.one (.own i n))) (hl : look st.sto i = some (.row k' b' xs))
    (hkb : (Nat.beq k k' && Nat.beq b b') = true) (hy : ev st y = some v) (hs : srcOf st k v = some ys) (h1 : n + ys.length ≤ 1000000000) (h2 : (n + ys.length) * b ≤ 100000000000) :
    step3 V st o id = some ⟨.one (.own id (n + ys.length)), [(id, some (.row k b (xs.take n ++ ys))), (i, none)], [id]⟩ := by
  obtain ⟨q1, q2, q3, q4⟩ := q
  have e1 : Nat.ble (n + ys.length) 1000000000 = true := by simpa using h1
  have e2 : Nat.ble ((n + ys.length) * b) 100000000000 = true := by simpa using h2
  simp only [step3, stepE, valF, ho, otherE, appV, hx, hy, ht, ht2, hl, hs, hkb, e1, e2, cond_true, Bool.and_self, builtinF, List.map_cons, List.map_nil]
end Go.Abs
namespace Go.Proofs.YtpejdgkaapnekaaGreat
open Go Go.Abs
attribute [local irreducible] OkOps OkC DRun thenQ blockQ RetQ
set_option maxRecDepth 10000
theorem c129 (l : List Int) : CallA Tryz.prog 129 [.one (.d (encInts l))] [] (.one (.d (encInts l))) [] := by
  refine enter tabOk Tryz.func129 rfl (by decide +kernel) rfl fun hok w0 σ0 φ0 M => ?_
  have h1 := hok.1.sl; clear hok; simp only [List.length_map] at h1
  repeat' (first | (show OkOps _ _ _ _ _ _; first | (show OkOps _ _ _ (Oper.mk _ (Op.binOp .eql _ _ _ _) _ _ _ (_) :: _) _ _; first | refine okops_isNilS tabOk rfl rfl rfl rfl rfl rfl (fun r hr => ?_) | fail) | (show OkOps _ _ _ (Oper.mk _ (Op.call _) _ _ _ (_) :: _) _ _; first | refine okops_append tabOk rfl rfl rfl rfl rfl (id := 0) rfl rfl rfl rfl rfl rfl rfl (by simp only [List.length_map, Nat.zero_add]; omega) (by simp only [List.length_map, Nat.zero_add]; omega) ?_ | fail) | refine okops_nil ?_ | refine s_plain tabOk rfl rfl rfl rfl rfl ?_ | refine s_new envOk 0 rfl rfl rfl rfl rfl rfl ?_ | fail) | (show OkC _ _ _ _ _; first | refine okc_imp (imp_sealL (dl := [0]) rfl) (ok_ret ?_) | refine okc_imp (imp_nil (s := 2) (k := 1) (b := 8) rfl) (ok_ret ?_) | refine ok_seq ?_ | refine ok_region ?_ | refine ok_skip ?_ | refine ok_cond rfl (fun h => ?_) (fun h => ?_) | fail) | (show thenQ _ _ _ _; first | refine then_n ?_ | refine then_r ?_ | fail) | (show RetQ _ _ _ _ _ _; first | refine ret_leaf (.inl rfl) rfl rfl ?_ | fail) | fail)
  · have e := hr (by simpa using h)
    simp only [encInts, e]
  · simp only [sealC, encInts, List.length_map, Nat.zero_add, List.take_nil, List.nil_append]
    exact congrArg (fun x => AV.one (AC.d (D.sl _ _ x))) (List.take_of_length_le (by simp))
theorem c144 (l : List Val) : CallA Tryz.prog 144 [.one (.d (encVals l))] [] (.one (.d (encVals l))) [] := by
  refine enter tabOk Tryz.func144 rfl (by decide +kernel) rfl fun hok w0 σ0 φ0 M => ?_
  have h1 := hok.1.sl; clear hok; simp only [List.length_map] at h1
  repeat' (first | (show OkOps _ _ _ _ _ _; first | (show OkOps _ _ _ (Oper.mk _ (Op.binOp .eql _ _ _ _) _ _ _ (_) :: _) _ _; first | refine okops_isNilS tabOk rfl rfl rfl rfl rfl rfl (fun r hr => ?_) | fail) | (show OkOps _ _ _ (Oper.mk _ (Op.call _) _ _ _ (_) :: _) _ _; first | refine okops_append tabOk rfl rfl rfl rfl rfl (id := 0) rfl rfl rfl rfl rfl rfl rfl (by simp only [List.length_map, Nat.zero_add]; omega) (by simp only [List.length_map, Nat.zero_add]; omega) ?_ | fail) | refine okops_nil ?_ | refine s_plain tabOk rfl rfl rfl rfl rfl ?_ | refine s_new envOk 0 rfl rfl rfl rfl rfl rfl ?_ | fail) | (show OkC _ _ _ _ _; first | refine okc_imp (imp_sealL (dl := [0]) rfl) (ok_ret ?_) | refine okc_imp (imp_nil (s := 2) (k := 4) (b := 40) rfl) (ok_ret ?_) | refine ok_seq ?_ | refine ok_region ?_ | refine ok_skip ?_ | refine ok_cond rfl (fun h => ?_) (fun h => ?_) | fail) | (show thenQ _ _ _ _; first | refine then_n ?_ | refine then_r ?_ | fail) | (show RetQ _ _ _ _ _ _; first | refine ret_leaf (.inl rfl) rfl rfl ?_ | fail) | fail)
  · have e := hr (by simpa using h)
    simp only [encVals, e]
  · simp only [sealC, encVals, List.length_map, Nat.zero_add, List.take_nil, List.nil_append]
    exact congrArg (fun x => AV.one (AC.d (D.sl _ _ x))) (List.take_of_length_le (by simp))
theorem c97 (l : List Dim) : CallA Tryz.prog 97 [.one (.d (encDims l))] [] (.one (.d (encDims l))) [] := by
  refine enter tabOk Tryz.func97 rfl (by decide +kernel) rfl fun hok w0 σ0 φ0 M => ?_
  have h1 := hok.1.sl; clear hok; simp only [List.length_map] at h1
  repeat' (first | (show OkOps _ _ _ _ _ _; first | (show OkOps _ _ _ (Oper.mk _ (Op.binOp .eql _ _ _ _) _ _ _ (_) :: _) _ _; first | refine okops_isNilS tabOk rfl rfl rfl rfl rfl rfl (fun r hr => ?_) | fail) | (show OkOps _ _ _ (Oper.mk _ (Op.call _) _ _ _ (_) :: _) _ _; first | refine okops_append tabOk rfl rfl rfl rfl rfl (id := 0) rfl rfl rfl rfl rfl rfl rfl (by simp only [List.length_map, Nat.zero_add]; omega) (by simp only [List.length_map, Nat.zero_add]; omega) ?_ | fail) | refine okops_nil ?_ | refine s_plain tabOk rfl rfl rfl rfl rfl ?_ | refine s_new envOk 0 rfl rfl rfl rfl rfl rfl ?_ | fail) | (show OkC _ _ _ _ _; first | refine okc_imp (imp_sealL (dl := [0]) rfl) (ok_ret ?_) | refine okc_imp (imp_nil (s := 2) (k := 3) (b := 32) rfl) (ok_ret ?_) | refine ok_seq ?_ | refine ok_region ?_ | refine ok_skip ?_ | refine ok_cond rfl (fun h => ?_) (fun h => ?_) | fail) | (show thenQ _ _ _ _; first | refine then_n ?_ | refine then_r ?_ | fail) | (show RetQ _ _ _ _ _ _; first | refine ret_leaf (.inl rfl) rfl rfl ?_ | fail) | fail)
  · have e := hr (by simpa using h)
    simp only [encDims, e]
  · simp only [sealC, encDims, List.length_map, Nat.zero_add, List.take_nil, List.nil_append]
    exact congrArg (fun x => AV.one (AC.d (D.sl _ _ x))) (List.take_of_length_le (by simp))
theorem c145 (l : List Attr) : CallA Tryz.prog 145 [.one (.d (encAttrs l))] [] (.one (.d (encAttrs l))) [] := by
  refine enter tabOk Tryz.func145 rfl (by decide +kernel) rfl fun hok w0 σ0 φ0 M => ?_
  have h1 := hok.1.sl; clear hok; simp only [List.length_map] at h1
  repeat' (first | (show OkOps _ _ _ _ _ _; first | (show OkOps _ _ _ (Oper.mk _ (Op.binOp .eql _ _ _ _) _ _ _ (_) :: _) _ _; first | refine okops_isNilS tabOk rfl rfl rfl rfl rfl rfl (fun r hr => ?_) | fail) | (show OkOps _ _ _ (Oper.mk _ (Op.call _) _ _ _ (_) :: _) _ _; first | refine okops_append tabOk rfl rfl rfl rfl rfl (id := 0) rfl rfl rfl rfl rfl rfl rfl (by simp only [List.length_map, Nat.zero_add]; omega) (by simp only [List.length_map, Nat.zero_add]; omega) ?_ | fail) | refine okops_nil ?_ | refine s_plain tabOk rfl rfl rfl rfl rfl ?_ | refine s_new envOk 0 rfl rfl rfl rfl rfl rfl ?_ | fail) | (show OkC _ _ _ _ _; first | refine okc_imp (imp_sealL (dl := [0]) rfl) (ok_ret ?_) | refine okc_imp (imp_nil (s := 2) (k := 2) (b := 24) rfl) (ok_ret ?_) | refine ok_seq ?_ | refine ok_region ?_ | refine ok_skip ?_ | refine ok_cond rfl (fun h => ?_) (fun h => ?_) | fail) | (show thenQ _ _ _ _; first | refine then_n ?_ | refine then_r ?_ | fail) | (show RetQ _ _ _ _ _ _; first | refine ret_leaf (.inl rfl) rfl rfl ?_ | fail) | fail)
  · have e := hr (by simpa using h)
    simp only [encAttrs, e]
  · simp only [sealC, encAttrs, List.length_map, Nat.zero_add, List.take_nil, List.nil_append]
    exact congrArg (fun x => AV.one (AC.d (D.sl _ _ x))) (List.take_of_length_le (by simp))
end Go.Proofs.YtpejdgkaapnekaaGreat
namespace Go.Abs
open Go Go.Shelf Go.RowKit Go.Lib Go.Sort Go.Proofs
variable {P : Program} {σ : Sig} {φ : Pl} {w : World}
theorem all2_d {σ : Sig} {φ : Pl} {sto : Sto} : ∀ {ds : List D} {vs : List Value}, All2 (Rep σ) ds vs → All2 (RepC σ φ sto) (ds.map AC.d) vs
  | [], [], _ => trivial
  | _ :: _, _ :: _, h => ⟨.d h.1, all2_d h.2⟩
  | [], _ :: _, h => h.elim
  | _ :: _, [], h => h.elim
theorem all2_oneCell : ∀ {ds : List D} {vs : List Value}, All2 (Rep σ) ds vs → ∀ v ∈ vs, v.oneCell = true
  | [], [], _, v, hv => by simp at hv
  | _ :: _, _ :: _, h, v, hv => by
    rcases List.mem_cons.1 hv with rfl | hv
    · exact h.1.oneCell
    · exact all2_oneCell h.2 v hv
  | [], _ :: _, h, _, _ => h.elim
  | _ :: _, [], h, _, _ => h.elim
theorem kept_grow {M : Nat → Prop} {w w' : World} (h : Kept M w w') (hM : ∀ b, ¬ M b) : ∃ q os, w' = grow (w.drewN q) os := by
  refine ⟨w'.drawn - w.drawn, w'.heap.extract w.heap.size w'.heap.size, ?_⟩
  have hh : w'.heap = w.heap ++ w'.heap.extract w.heap.size w'.heap.size := by
    refine Array.ext_getElem? fun i => ?_
    by_cases hi : i < w.heap.size
    · rw [Array.getElem?_append_left hi]; exact h.block i hi (hM i)
    · rw [Array.getElem?_append_right (by omega), Array.getElem?_extract]
      have := h.size
      by_cases hi2 : i < w'.heap.size
      · rw [if_pos (by omega)]; congr 1; omega
      · rw [if_neg (by omega)]; exact Array.getElem?_eq_none (by omega)
  have h1 := h.os; have h2 := h.tape; have h3 := h.output; have h4 := h.drawn
  cases w; cases w'
  simp only [grow, World.drewN] at *
  subst h1 h2 h3
  congr 1
  omega
theorem heap_putRow_other {enc : Value → Value} {w : World} {B off b : Nat} {d : Array Value} (h : b ≠ B) : (putRow enc w B off d).heap[b]? = w.heap[b]? := by
  simp only [putRow, mapBlock, Array.getElem?_modify, if_neg (Ne.symm h)]
theorem heap_sort_other {α : Type} [Inhabited α] {enc : α → List Value} {k : Nat} {w : World} {B off m b : Nat} {d : Array α} {os : Array Obj} (hb : b < w.heap.size) (h : b ≠ B) :
    (sortWorldK enc k w B off m d os).heap[b]? = w.heap[b]? := by
  unfold sortWorldK grow putRowK
  show ((putRow id (Sort.ahead w m) B off (flatK enc k d)).heap ++ os)[b]? = _
  rw [Array.getElem?_append_left (by rw [Go.Sort.size_putRow]; exact hb), heap_putRow_other h]
  rfl
theorem heap_sort_row {α : Type} [Inhabited α] {enc : α → List Value} {k : Nat} {w : World} {B off m : Nat} {d : Array α} {os : Array Obj} {arr : Array Value} {t : TypeId} {fr : Nat × Nat} (h : w.heap[B]? = some (.cells arr t fr)) :
    (sortWorldK enc k w B off m d os).heap[B]? = some (.cells (putCells id off (flatK enc k d) arr) t fr) := by
  unfold sortWorldK grow putRowK
  show ((putRow id (Sort.ahead w m) B off (flatK enc k d)).heap ++ os)[B]? = _
  have hB := (Array.getElem?_eq_some_iff.1 h).1
  rw [Array.getElem?_append_left (by rw [Go.Sort.size_putRow]; exact hB)]
  simp only [putRow, mapBlock, Array.getElem?_modify, if_true]
  show (w.heap[B]?).map _ = _
  rw [h]; rfl
theorem size_sort {α : Type} [Inhabited α] {enc : α → List Value} {k : Nat} {w : World} {B off m : Nat} {d : Array α} {os : Array Obj} :
    w.heap.size ≤ (sortWorldK enc k w B off m d os).heap.size := by
  unfold sortWorldK grow putRowK
  show w.heap.size ≤ ((putRow id (Sort.ahead w m) B off (flatK enc k d)).heap ++ os).size
  rw [Array.size_append, Go.Sort.size_putRow]
  exact Nat.le_add_right _ _
section
variable {C : Type}
abbrev El (σ : Sig) (k : Nat) (encC : C → List D) := { p : C × List Value // p.2.length = k ∧ All2 (Rep σ) (encC p.1) p.2 }
set_option maxHeartbeats 1000000 in
theorem callA_sort {ρ : Ren} (L : SlLaysF0.n6 P ρ) (k b : Nat) (hk0 : 0 < k) (aE : ∀ w, (isAgg (ρ.t 24)).run P w = .ok true w) (zE : ∀ w, (Go.sizeOf (ρ.t 24)).run P w = .ok k w)
    (encC : C → List D) (hk : ∀ x, (encC x).length = k) (cf : C → C → Int) (h1 : ∀ x, ¬ cf x x < 0) (h2 : ∀ x y z, cf x y < 0 → cf y z < 0 → cf x z < 0) (h3 : ∀ x y z, ¬ cf x y < 0 → ¬ cf y z < 0 → ¬ cf x z < 0)
    (g : Nat) (hg : ∀ x y, CallA P g [.agg ((encC x).map .d), .agg ((encC y).map .d)] [] (.one (.d (.int .i64 (cf x y)))) [])
    (eg : ∀ args w, (callFunc g args).run P w = .ok (.enter g args) w)
    (hfn : ∃ fn, P.funcs[ρ.f 6]? = some fn ∧ (fn.name == "runtime.NumGoroutine") = false ∧ fn.body.isSome = true)
    (id : Nat) (cs ss : List C) (hu : ∀ l : List C, l.Perm cs → l.Pairwise (fun x y => ¬ cf y x < 0) → l = ss) :
    CallA P (ρ.f 6) [.one (.own id cs.length), .one (.d (.fn g []))] [(id, .row k b (cs.map encC))] (.tup []) [(id, .row k b (ss.map encC))] := by
  refine ⟨hfn, fun w σ φ vs hI hA => ?_⟩
  match vs, hA with
  | [v0, v1], hA =>
  obtain ⟨hv0, hv1, _⟩ := hA
  have ev1 : v1 = .func (.func g) #[] #[] := by
    have hv1 : RepC σ φ _ (.d (.fn g [])) v1 := hv1
    cases hv1.d_inv with
    | fn ws hl _ =>
      have : ws = [] := List.eq_nil_of_length_eq_zero (by simpa using hl)
      subst this; rfl
  subst ev1
  have hlook : look [(id, AObj.row k b (cs.map encC))] id = some (.row k b (cs.map encC)) := by simp [look]
  have hobj := hI.obj id _ hlook
  by_cases hn : cs = []
  · subst hn
    have hss : ss = [] := (hu [] (List.Perm.refl _) .nil).symm
    subst hss
    have ev0 : ∃ p c, v0 = .slice p 0 c := by
      have hv0 : RepC σ φ _ (.own id 0) v0 := hv0
      cases hv0 with
      | ownNil => exact ⟨_, _, rfl⟩
      | own => exact ⟨_, _, rfl⟩
      | dead hx => simp [acIn, hasK, look] at hx
    obtain ⟨p, c, rfl⟩ := ev0
    refine (AnyF.slices_SortFunc_none L p c _ w).mono ?_
    rintro e w' ⟨rfl, rfl⟩
    exact ⟨_, σ, φ, rfl, Sig.le_refl _, fun b hb => .inl hb, hI, ⟨[], rfl, trivial⟩, fun i e p h1 h2 => .inr ⟨i, e, p, h1, h2, rfl⟩, fun _ _ => rfl, ⟨rfl, rfl, rfl, Nat.le_refl _, Nat.le_refl _, fun _ _ _ => rfl⟩⟩
  · have hn0 : 0 < cs.length := List.length_pos_iff.2 hn
    have hv0 : RepC σ φ _ (.own id cs.length) v0 := hv0
    obtain ⟨B, cap0, rfl, hφ⟩ : ∃ B cap, v0 = .slice (some ⟨B, 0, none⟩) cs.length cap ∧ φ id = some (B, cap) := by
      revert hv0; generalize cs.length = m at hn0 ⊢; intro hv0
      cases hv0 with
      | ownNil => omega
      | own _ _ hp => exact ⟨_, _, rfl, hp⟩
      | dead hx => simp [acIn, hasK, look] at hx
    rcases hobj with ⟨he, _⟩ | ⟨B', cap, arr, t, vf, hφ', hheap, hsz, hle, h48, hb47, hlen, hcell, hrep, hσ⟩
    · simp at he; exact absurd he hn
    rw [hφ] at hφ'; cases hφ'
    simp only [List.length_map] at hle h48 hb47 hcell
    have hB : B < w.heap.size := (Array.getElem?_eq_some_iff.1 hheap).1
    have hel : ∀ i (hi : i < cs.length), ((List.range k).map (vf i)).length = k ∧ All2 (Rep σ) (encC cs[i]) ((List.range k).map (vf i)) := by
      intro i hi
      refine ⟨by simp, All2.of_get (by simp [hk]) fun j x v hx hv => ?_⟩
      have hj : j < k := by have := (List.getElem?_eq_some_iff.1 hx).1; rwa [hk] at this
      have hv' : v = vf i j := by
        rw [List.getElem?_map, List.getElem?_range hj] at hv; simpa using hv.symm
      subst hv'
      exact hrep i j _ _ (by rw [List.getElem?_map, List.getElem?_eq_getElem hi]; rfl) hx
    let mk : (i : Nat) → i < cs.length → El σ k encC := fun i hi => ⟨(cs[i], (List.range k).map (vf i)), hel i hi⟩
    haveI : Inhabited (El σ k encC) := ⟨mk 0 hn0⟩
    let d : Array (El σ k encC) := Array.ofFn (n := cs.length) fun i => mk i.1 i.2
    have hds : d.size = cs.length := by simp [d]
    have hdg : ∀ i (hi : i < cs.length), d[i]! = mk i hi := by
      intro i hi; rw [getElem!_pos d i (by omega)]; simp [d]
    have hdl : d.toList.map (fun x => x.1.1) = cs := by
      refine List.ext_getElem (by simp [hds]) fun i h4 h5 => ?_
      simp [d, mk]
    let enc : El σ k encC → List Value := fun x => x.1.2
    let cf' : El σ k encC → El σ k encC → Int := fun x y => cf x.1.1 y.1.1
    have hO : SWO (ltOf cf') :=
      ⟨fun x => by simpa [ltOf, cf'] using h1 x.1.1, fun x y z => by simpa [ltOf, cf'] using h2 x.1.1 y.1.1 z.1.1, fun x y z => by simpa [ltOf, cf'] using h3 x.1.1 y.1.1 z.1.1⟩
    have hHK : HoldsK enc k w B 0 d := by
      intro j hj
      rw [size_flatK, hds] at hj
      have hj1 : j / k < cs.length := Nat.div_lt_of_lt_mul (by rwa [Nat.mul_comm] at hj)
      have hj2 : j % k < k := Nat.mod_lt _ hk0
      have hc := hcell (j / k) (j % k) hj1 hj2
      rw [Nat.div_add_mod' j k] at hc
      rw [get_flatK enc k d j (by rw [hds]; exact hj), hdg _ hj1]
      have e : (enc (mk (j / k) hj1))[j % k]! = vf (j / k) (j % k) := by
        rw [getElem!_pos _ _ (by simp [enc, mk]; exact hj2)]; simp [enc, mk]
      rw [e]
      refine ⟨?_, ?_⟩
      · simp only [World.cell?, hheap, Nat.zero_add]
        simpa using hc
      · simp [World.frozen?, hheap]
    have hsig : ∀ (m : Nat) (os : Array Obj) (dk : Array (El σ k encC)), HInv σ φ [] (sortWorldK enc k w B 0 m dk os) := by
      intro m os dk
      refine ⟨fun b cs' hb => ?_, fun i e h => by simp [look] at h, fun i i' e e' p p' h => by simp [look] at h⟩
      obtain ⟨t', f', hh⟩ := hI.sig b cs' hb
      refine ⟨t', f', ?_⟩
      rw [heap_sort_other (Array.getElem?_eq_some_iff.1 hh).1 (by rintro rfl; rw [hσ] at hb; cases hb)]
      exact hh
    have hcmp : CmpLays P g #[] enc k cf' B 0 d.size w := by
      intro m os dk _ x y
      have hr := (hg x.1.1 y.1.1).run (sortWorldK enc k w B 0 m dk os) σ φ [.agg (enc x).toArray, .agg (enc y).toArray] (hsig m os dk) ⟨⟨_, rfl, all2_d x.2.2⟩, ⟨_, rfl, all2_d y.2.2⟩, trivial⟩
      refine Calls.mono hr ?_
      rintro e w' ⟨v, σ', φ', rfl, hret⟩
      obtain ⟨q, os', hq⟩ := kept_grow hret.kept (fun b hb => by obtain ⟨i, e, p, h, _⟩ := hb; simp [look] at h)
      have hv : v = .int .i64 (cf x.1.1 y.1.1) := by
        have h : RepC σ' φ' [] (.d (.int .i64 (cf x.1.1 y.1.1))) v := hret.rep
        cases h.d_inv; rfl
      exact ⟨by rw [hv], q, os', hq⟩
    have hS := AnyQ.slices_SortFunc L k aE zE enc (fun x => x.2.1) (fun x v hv => oneCell_of (all2_oneCell x.2.2 v hv)) cf' hO g #[] B 0 cap0 d w eg hcmp hHK hB (by omega)
    rw [hds] at hS
    refine Calls.mono hS ?_
    rintro e w' ⟨rfl, d', n', os, hperm, hsorted, rfl⟩
    have hd's : d'.size = cs.length := hperm.1.trans hds
    have hpl : d'.toList.Perm d.toList := by
      have h := hperm.2.2
      have e1 : d'.extract 0 cs.length = d' := by rw [← hd's]; simp
      have e2 : d.extract 0 cs.length = d := by rw [← hds]; simp
      rwa [e1, e2] at h
    have hl : d'.toList.map (fun x => x.1.1) = ss := by
      refine hu _ (hdl ▸ hpl.map _) ?_
      rw [List.pairwise_map, List.pairwise_iff_getElem]
      intro i j hi hj hij
      have h := hsorted i j (Nat.zero_le _) hij (by simpa [hd's] using hj)
      simp only [Array.length_toList] at hi hj
      rw [getElem!_pos d' i hi, getElem!_pos d' j hj] at h
      simpa [ltOf, cf'] using h
    have hssl : ss.length = cs.length := by rw [← hl]; simp [hd's]
    have hget : ∀ i (hi : i < cs.length) (x : C), ss[i]? = some x → d'[i]!.1.1 = x := by
      intro i hi x hx
      rw [← hl, List.getElem?_map, Array.getElem?_toList, Array.getElem?_eq_getElem (by omega)] at hx
      rw [getElem!_pos d' i (by omega)]
      simpa using hx
    have hmine : MOf φ [(id, AObj.row k b (cs.map encC))] B := ⟨id, _, _, hlook, hφ, rfl⟩
    refine ⟨_, σ, φ, rfl, Sig.le_refl _, fun b hb => .inl hb, ⟨fun b cs' hb => ?_, fun i e hi => ?_, fun i i' e e' p p' hi hi' hne => ?_⟩, ⟨[], rfl, trivial⟩, fun i e p hi hp => .inr ?_, fun _ _ => rfl, ⟨rfl, rfl, rfl, size_sort, Nat.le_add_right _ _, fun b hb hM => heap_sort_other hb (by rintro rfl; exact hM hmine)⟩⟩
    · obtain ⟨t', f', hh⟩ := hI.sig b cs' hb
      refine ⟨t', f', ?_⟩
      rw [heap_sort_other (Array.getElem?_eq_some_iff.1 hh).1 (by rintro rfl; rw [hσ] at hb; cases hb)]
      exact hh
    · rcases look_cons hi with ⟨rfl, rfl⟩ | ⟨_, hi⟩
      · refine .inr ⟨B, cap0, putCells _root_.id 0 (flatK enc k d') arr, t, fun i j => (enc d'[i]!)[j]!, hφ, heap_sort_row hheap, by simp [putCells, hsz], by simpa [hssl] using hle, by simpa [hssl] using h48, by simpa [hssl] using hb47, fun x hx => ?_, fun i j hi hj => ?_, fun i j x dd hx hdd => ?_, hσ⟩
        · obtain ⟨c, _, rfl⟩ := List.mem_map.1 hx; exact hk c
        · simp only [List.length_map, hssl] at hi
          have hlt : i * k + j < cs.length * k := by
            have := Nat.mul_le_mul_right k (show i + 1 ≤ cs.length from hi); rw [Nat.add_mul, Nat.one_mul] at this; omega
          have hc := hcell i j hi hj
          simp only [putCells, Array.getElem?_mapIdx, hc, Option.map_some, size_flatK, hd's, Nat.zero_le, true_and, Nat.zero_add, hlt, if_true, Nat.sub_zero]
          rw [get_flatK enc k d' _ (by rw [hd's]; exact hlt)]
          have e1 : (i * k + j) / k = i := (blk_iff k i _ hk0).1 ⟨by omega, by omega⟩
          have e2 : (i * k + j) % k = j := by rw [Nat.mod_eq_sub_div_mul, e1]; omega
          rw [e1, e2]; rfl
        · rw [List.getElem?_map] at hx
          cases hs : ss[i]? with
          | none => rw [hs] at hx; simp at hx
          | some c =>
            rw [hs] at hx; simp at hx; subst hx
            have hi : i < cs.length := by rw [← hssl]; exact (List.getElem?_eq_some_iff.1 hs).1
            have e1 := hget i hi c hs
            have ha := (d'[i]!).2.2
            rw [e1] at ha
            obtain ⟨v, hv, hr⟩ := ha.get hdd
            have : (enc d'[i]!)[j]! = v := by
              have hv2 := (List.getElem?_eq_some_iff.1 hv)
              exact (getElem!_pos (enc d'[i]!) j hv2.1).trans hv2.2
            show Rep σ dd ((enc d'[i]!)[j]!)
            rw [this]; exact hr
      · simp [look] at hi
    · rcases look_cons hi with ⟨rfl, _⟩ | ⟨_, hi⟩
      · rcases look_cons hi' with ⟨rfl, _⟩ | ⟨_, hi'⟩
        · exact absurd rfl hne
        · simp [look] at hi'
      · simp [look] at hi
    · rcases look_cons hi with ⟨rfl, _⟩ | ⟨_, hi⟩
      · rw [hφ] at hp; cases hp; exact hmine
      · simp [look] at hi
end
end Go.Abs
namespace Go.Proofs.YtpejdgkaapnekaaGreat
open Go Go.Proofs Go.Shelf
def sortC_ren : Go.Shelf.Ren := ⟨fun | 6 => 181 | 15 => 219 | 14 => 231 | 28 => 261 | 29 => 262 | 20 => 271 | 21 => 272 | 22 => 273 | 23 => 274 | 24 => 275 | 25 => 276 | 26 => 277 | 27 => 278 | 46 => 338 | 47 => 295 | 48 => 296 | 49 => 339 | 50 => 340 | 57 => 368 | n => n, fun | 22 => 24 | 24 => 56 | 25 => 172 | 3 => 3 | 39 => 192 | 0 => 0 | 53 => 251 | 55 => 253 | 4 => 4 | 46 => 244 | 45 => 243 | 50 => 119 | 5 => 5 | 9 => 9 | 66 => 278 | 70 => 282 | 76 => 302 | 77 => 303 | n => n, fun | n => n⟩
theorem sortC : Go.Proofs.SlLaysF0.n6 Tryz.prog sortC_ren := {
  mixed := by kernel_rfl
  f6 := ⟨Tryz.f181.name, by decide, Tryz.func181.trans (congrArg some (by kernel_rfl))⟩
  f14 := ⟨Tryz.f231.name, by decide, Tryz.func231.trans (congrArg some (by kernel_rfl))⟩
  f15 := Tryz.func219.trans (congrArg some (by kernel_rfl))
  f20 := ⟨Tryz.f271.name, by decide, Tryz.func271.trans (congrArg some (by kernel_rfl))⟩
  f21 := ⟨Tryz.f272.name, by decide, Tryz.func272.trans (congrArg some (by kernel_rfl))⟩
  f22 := ⟨Tryz.f273.name, by decide, Tryz.func273.trans (congrArg some (by kernel_rfl))⟩
  f23 := ⟨Tryz.f274.name, by decide, Tryz.func274.trans (congrArg some (by kernel_rfl))⟩
  f24 := ⟨Tryz.f275.name, by decide, Tryz.func275.trans (congrArg some (by kernel_rfl))⟩
  f25 := ⟨Tryz.f276.name, by decide, Tryz.func276.trans (congrArg some (by kernel_rfl))⟩
  f26 := ⟨Tryz.f277.name, by decide, Tryz.func277.trans (congrArg some (by kernel_rfl))⟩
  f27 := ⟨Tryz.f278.name, by decide, Tryz.func278.trans (congrArg some (by kernel_rfl))⟩
  f28 := Tryz.func261.trans (congrArg some (by kernel_rfl))
  f29 := Tryz.func262.trans (congrArg some (by kernel_rfl))
  f46 := ⟨Tryz.f338.name, by decide, Tryz.func338.trans (congrArg some (by kernel_rfl))⟩
  f47 := Tryz.func295.trans (congrArg some (by kernel_rfl))
  f48 := Tryz.func296.trans (congrArg some (by kernel_rfl))
  f49 := ⟨Tryz.f339.name, by decide, Tryz.func339.trans (congrArg some (by kernel_rfl))⟩
  f50 := ⟨Tryz.f340.name, by decide, Tryz.func340.trans (congrArg some (by kernel_rfl))⟩
  f57 := ⟨Tryz.f368.name, by decide, Tryz.func368.trans (congrArg some (by kernel_rfl))⟩
  t0 := Tryz.underlying0
  a0 := Tryz.isAgg0
  z0 := Tryz.sizeOf0
  v0 := Tryz.zeroValue0
  t3 := Tryz.underlying3
  a3 := Tryz.isAgg3
  z3 := Tryz.sizeOf3
  v3 := Tryz.zeroValue3
  t4 := Tryz.underlying4
  a4 := Tryz.isAgg4
  z4 := Tryz.sizeOf4
  v4 := Tryz.zeroValue4
  t5 := Tryz.underlying5
  a5 := Tryz.isAgg5
  z5 := Tryz.sizeOf5
  v5 := Tryz.zeroValue5
  t9 := Tryz.underlying9
  a9 := Tryz.isAgg9
  z9 := Tryz.sizeOf9
  v9 := Tryz.zeroValue9
  t22 := Tryz.underlying24
  a22 := Tryz.isAgg24
  z22 := Tryz.sizeOf24
  v22 := Tryz.zeroValue24
  t25 := Tryz.underlying172
  a25 := Tryz.isAgg172
  z25 := Tryz.sizeOf172
  v25 := Tryz.zeroValue172
  t39 := Tryz.underlying192
  a39 := Tryz.isAgg192
  z39 := Tryz.sizeOf192
  v39 := Tryz.zeroValue192
  t45 := Tryz.underlying243
  a45 := Tryz.isAgg243
  z45 := Tryz.sizeOf243
  v45 := Tryz.zeroValue243
  t46 := Tryz.underlying244
  a46 := Tryz.isAgg244
  z46 := Tryz.sizeOf244
  v46 := Tryz.zeroValue244
  t50 := Tryz.underlying119
  a50 := Tryz.isAgg119
  z50 := Tryz.sizeOf119
  v50 := Tryz.zeroValue119
  t53 := Tryz.underlying251
  a53 := Tryz.isAgg251
  z53 := Tryz.sizeOf251
  v53 := Tryz.zeroValue251
  t55 := Tryz.underlying253
  a55 := Tryz.isAgg253
  z55 := Tryz.sizeOf253
  v55 := Tryz.zeroValue253
  t66 := Tryz.underlying278
  a66 := Tryz.isAgg278
  z66 := Tryz.sizeOf278
  v66 := Tryz.zeroValue278
  t70 := Tryz.underlying282
  a70 := Tryz.isAgg282
  z70 := Tryz.sizeOf282
  v70 := Tryz.zeroValue282
  t76 := Tryz.underlying302
  a76 := Tryz.isAgg302
  z76 := Tryz.sizeOf302
  v76 := Tryz.zeroValue302
  t77 := Tryz.underlying303
  a77 := Tryz.isAgg303
  z77 := Tryz.sizeOf303
  v77 := Tryz.zeroValue303 }
end Go.Proofs.YtpejdgkaapnekaaGreat
namespace Go.Proofs.YtpejdgkaapnekaaGreat
open Go Go.Abs
attribute [local irreducible] OkOps OkC DRun thenQ blockQ RetQ
set_option maxRecDepth 10000
def cellC (x : Cell) : AV := .agg ((encCell x).map .d)
theorem c182 (x y : Cell) : CallA Tryz.prog 182 [cellC x, cellC y] [] (.one (.d (.int .i64 (cmpF x.at' y.at')))) [] := by
  unfold cellC encCell
  simp only [List.map_cons, List.map_nil]
  refine enter tabOk Tryz.func182 rfl (by decide +kernel) rfl fun hok w0 σ0 φ0 M => ?_
  clear hok
  repeat' (first | (show OkOps _ _ _ _ _ _; first | refine okops_nil ?_ | refine s_plain tabOk rfl rfl rfl rfl rfl ?_ | (show OkOps _ _ _ (Oper.mk _ (Op.call _) _ _ _ (_) :: _) _ _; first | refine s_callF rfl rfl rfl rfl rfl rfl rfl rfl (c35 _ _) rfl ?_ | fail) | (show OkOps _ _ _ (Oper.mk _ (Op.box _ _) _ _ _ (_) :: _) _ _; first | refine s_box 0 rfl rfl rfl rfl rfl rfl ?_ | refine s_box 1 rfl rfl rfl rfl rfl rfl ?_ | fail) | fail) | (show OkC _ _ _ _ _; first | refine ok_seq ?_ | refine ok_region ?_ | refine ok_ret ?_ | fail) | (show thenQ _ _ _ _; first | refine then_n ?_ | fail) | (show RetQ _ _ _ _ _ _; first | refine ret_leaf (.inl rfl) rfl rfl ?_ | fail) | fail)
  all_goals (try (((simp_all [at_drop, List.drop_eq_nil_of_le]) <;> first | omega | (rw [Bool.eq_iff_iff]; simp; omega) | grind); done))
theorem c181 (id : Nat) (cs ss : List Cell) (hu : ∀ l : List Cell, l.Perm cs → l.Pairwise (fun x y => ¬ cmpF y.at' x.at' < 0) → l = ss) :
    CallA Tryz.prog 181 [.one (.own id cs.length), .one (.d (.fn 182 []))] [(id, .row 2 48 (cs.map encCell))] (.tup []) [(id, .row 2 48 (ss.map encCell))] := by
  refine callA_sort sortC 2 48 (by omega) Tryz.isAgg56 Tryz.sizeOf56 encCell (fun _ => rfl) (fun x y => cmpF x.at' y.at') (fun x => by rw [cmpF_refl]; omega) (fun x y z h1 h2 => ?_) (fun x y z h1 h2 => ?_) 182 c182
    (enters_of Tryz.func182 (by kernel_rfl) rfl) ⟨Tryz.f181, Tryz.func181, by kernel_rfl, by kernel_rfl⟩ id cs ss hu
  · have := cmpF_le_trans x.at' y.at' z.at' (by omega) (by omega)
    omega
  · have h3 := cmpF_swap x.at' y.at'
    have h4 := cmpF_swap y.at' z.at'
    have h5 := cmpF_swap x.at' z.at'
    have := cmpF_le_trans z.at' y.at' x.at' (by omega) (by omega)
    omega
end Go.Proofs.YtpejdgkaapnekaaGreat
namespace Go.Abs
open Go
variable {P : Program} {c : Ctx} {fr : List (Nat × AV)} {sto : Sto}
def nmA (b : Bool × Bool) : Nat := bif b.1 then 11 else 10
def qN (i : Nat) : Nat := bif Nat.beq i 11 then 10 else bif Nat.beq i 13 then 12 else i
theorem subL_app {α : Type} {f a b : List (Nat × α)} (h1 : SubL f a) (h2 : SubL f b) : SubL f (a ++ b) := by
  induction a with
  | nil => exact h2
  | cons p r ih => exact ⟨h1.1, ih h1.2⟩
theorem imp_sub {f f' : List (Nat × AV)} {s s' : Sto} (hf : SubL f f') (hs : SubL s s') : Imp c ⟨f, s⟩ ⟨f', s'⟩ := Imp.trans (imp_subL hf) (imp_subS hs)
theorem s_loopN {α : Type} {body : Code} {Q : Exit → St → Prop} (rg : Nat) (hrg : firstReg body = rg) {fr1 : List (Nat × AV)} {sto1 : Sto} (ha : Imp c ⟨fr, sto⟩ ⟨fr1, sto1⟩) (kept : List (Nat × AV)) (hk : SubL fr1 kept) (L : Bool × Bool → α → List (Nat × AV)) (S : Bool × Bool → α → Sto) (Inv : α → Prop) (μ : α → Nat) (x0 : α)
    (hL : SubL fr1 (L (false, false) x0)) (hS : SubL sto1 (S (false, false) x0)) (hq : ∀ b y, Imp c ⟨L b y ++ kept, S b y⟩ ⟨L (false, false) y ++ kept, S (false, false) y⟩) (h0 : Inv x0)
    (hround : ∀ x, Inv x → OkC P c body ⟨L (false, false) x ++ kept, S (false, false) x⟩ (thenQ (fun st' => ∃ y b, Inv y ∧ μ y < μ x ∧ SubL st'.sto (S b y) ∧ SubL st'.fr (L b y) ∧ SubL st'.fr kept) Q)) : OkC P c (.loop body) ⟨fr, sto⟩ Q := by
  refine okc_imp (st' := ⟨L (false, false) x0 ++ kept, S (false, false) x0⟩) (Imp.trans ha (imp_sub (subL_app hL hk) hS)) ?_
  refine ok_loop (fun n st => ∃ x, Inv x ∧ n = μ x ∧ st = ⟨L (false, false) x ++ kept, S (false, false) x⟩) (μ x0) ⟨x0, h0, rfl, rfl⟩ ?_
  rintro n st ⟨x, hx, rfl, rfl⟩
  refine ok_mono (hround x hx) fun e st h => ?_
  cases e with
  | normal =>
    obtain ⟨y, b, hy, hlt, hs, h1, h2⟩ := h
    obtain ⟨f, s⟩ := st
    simp only at hs h1 h2
    exact ⟨μ y, _, hlt, ⟨y, hy, rfl, rfl⟩, Imp.trans (imp_sub (subL_app h1 h2) hs) (hq b y)⟩
  | _ => exact h
section
variable {w0 : World} {σ0 : Sig} {φ0 : Pl} {M : Nat → Prop} {n : Nat} {rd : Option Nat} {mk : List Deferred} {ops : Array Oper} {o : Oper} {rest : List Oper} {K : St → Prop} {st0 : St} {acc : List Tr}
theorem s_callG (k : Nat) (dl : List Nat) {ss : St} {d : Nat} {fop : Operand} {args : Array Operand} {ats : Array TypeId} {f : FuncId} {caps : List D} {avs avs' : List AV} {rav rav' : AV}
    (ho : o.op = .call { callee := .value fop, args := args, argTypes := ats }) (hg : o.guard = none) (hdst : o.dst = some d) (hd : Nat.blt d n = true) (hss : sealL ⟨fr, sto⟩ dl = some ss) (hf : ev ss fop = some (.one (.d (.fn f caps))))
    (ha : evL ss args.toList = some avs) (hD : avsD avs = true) (hap : (avs ++ caps.map fun x => .one (.d x)) = avs') (hC : CallA P f avs' [] rav [])
    (hk : (keysOk [] [] && Nat.ble (k + 16) 1000000 && avIn [] rav && stoIn [] []) = true) (hfresh : freshRB k ⟨fr, delN dl sto⟩ = true) (hr : renV (rn k []) rav = rav')
    (h : OkOps P ⟨w0, σ0, φ0, M, n, rd, mk⟩ ops rest ⟨(d, rav') :: fr, delN dl sto⟩ K) : OkOps P ⟨w0, σ0, φ0, M, n, rd, mk⟩ ops (o :: rest) ⟨fr, sto⟩ K := by
  subst hap; subst hr
  exact okops_callX k dl ho hg (by rw [hdst]; exact hd) hss hf ha hD hC hk (freshRB_ok hfresh) (by rw [hdst]; exact h)
theorem d_callG (k : Nat) (dl : List Nat) {os : List (Nat × AObj)} {d : Nat} {fop : Operand} {args : Array Operand} {ats : Array TypeId} {f : FuncId} {caps : List D} {avs avs' : List AV} {rav rav' : AV}
    (ho : o.op = .call { callee := .value fop, args := args, argTypes := ats }) (hg : o.guard = none) (hdst : o.dst = some d) (hd : Nat.blt d c.n = true) (hos : objsL sto dl = some os) (hf : evS os ⟨fr, sto⟩ fop = some (.one (.d (.fn f caps))))
    (ha : evLS os ⟨fr, sto⟩ args.toList = some avs) (hD : avsD avs = true) (hap : (avs ++ caps.map fun x => .one (.d x)) = avs') (hC : CallA P f avs' [] rav [])
    (hk : (keysOk [] [] && Nat.ble (k + 16) 1000000 && avIn [] rav && stoIn [] []) = true) (hr : renV (rn k []) rav = rav')
    (h : DRun P c ops st0 rest ⟨(d, rav') :: fr, appW (delW dl) sto⟩ (callTr k dl dl rav [] :: acc) K) : DRun P c ops st0 (o :: rest) ⟨fr, sto⟩ acc K := by
  subst hap; subst hr
  refine d_run hg (loc_callX k dl ho (by rw [hdst]; exact hd) hos hf ha hD hC hk) ?_
  rw [hdst]; exact h
end
theorem step3_appendB {V : Env} {st : St} {o : Oper} {id i n k b k' b' : Nat} {t t2 : TypeId} {x y : Operand} {v : AV} {xs ys : List (List D)} {e : TypeId} {z : List D} {q : TypeId × Nat × Nat × List D}
    (ho : o.op = .call { callee := .builtin .append, args := ⟨[x, y]⟩, argTypes := ⟨[t, t2]⟩ }) (ht : sliceTy V.T t = some (e, k, b, z)) (ht2 : sliceTy V.T t2 = some q) (hx : ev st x = some (.one (.own i n))) (hl : look st.sto i = some (.row k' b' xs))
    (hkb : (Nat.beq k k' && Nat.beq b b') = true) (hy : ev st y = some v) (hs : srcOf st k v = some ys) (hn : n ≤ 100000000) (hys : ys.length ≤ 10000000) (hb : b ≤ 100) :
    step3 V st o id = some ⟨.one (.own id (n + ys.length)), [(id, some (.row k b (xs.take n ++ ys))), (i, none)], [id]⟩ :=
  step3_append ho ht ht2 hx hl hkb hy hs (by omega) (Nat.le_trans (Nat.mul_le_mul (show n + ys.length ≤ 110000000 by omega) hb) (by omega))
end Go.Abs
namespace Go.Proofs.YtpejdgkaapnekaaGreat
open Go Go.Abs
attribute [local irreducible] OkOps OkC DRun thenQ blockQ RetQ
set_option maxRecDepth 10000
theorem c139 (nm : List UInt8) (lo hi : Int) : CallA Tryz.prog 139 [.agg [.d (.str nm), .d (.int .i64 lo), .d (.int .i64 hi)]] [] (.one (.d (.str nm))) [] := by
  refine enter tabOk Tryz.func139 rfl (by decide +kernel) rfl fun hok w0 σ0 φ0 M => ?_
  repeat' (first | (show OkOps _ _ _ _ _ _; first | refine okops_nil ?_ | refine s_plain tabOk rfl rfl rfl rfl rfl ?_ | (show OkOps _ _ _ (Oper.mk _ (Op.box _ _) _ _ _ (_) :: _) _ _; first | refine s_box 0 rfl rfl rfl rfl rfl rfl ?_ | fail) | fail) | (show OkC _ _ _ _ _; first | refine ok_seq ?_ | refine ok_region ?_ | refine ok_ret ?_ | fail) | (show thenQ _ _ _ _; first | refine then_n ?_ | fail) | (show RetQ _ _ _ _ _ _; first | refine ret_leaf (.inl rfl) rfl rfl ?_ | fail) | fail)
  all_goals (try (((simp_all [at_drop, List.drop_eq_nil_of_le]) <;> first | omega | (rw [Bool.eq_iff_iff]; simp; omega) | grind); done))
theorem c151 (nm : List UInt8) (t : Int) : CallA Tryz.prog 151 [.agg [.d (.str nm), .d (.int .i64 t)]] [] (.one (.d (.str nm))) [] := by
  refine enter tabOk Tryz.func151 rfl (by decide +kernel) rfl fun hok w0 σ0 φ0 M => ?_
  repeat' (first | (show OkOps _ _ _ _ _ _; first | refine okops_nil ?_ | refine s_plain tabOk rfl rfl rfl rfl rfl ?_ | (show OkOps _ _ _ (Oper.mk _ (Op.box _ _) _ _ _ (_) :: _) _ _; first | refine s_box 0 rfl rfl rfl rfl rfl rfl ?_ | fail) | fail) | (show OkC _ _ _ _ _; first | refine ok_seq ?_ | refine ok_region ?_ | refine ok_ret ?_ | fail) | (show thenQ _ _ _ _; first | refine then_n ?_ | fail) | (show RetQ _ _ _ _ _ _; first | refine ret_leaf (.inl rfl) rfl rfl ?_ | fail) | fail)
  all_goals (try (((simp_all [at_drop, List.drop_eq_nil_of_le]) <;> first | omega | (rw [Bool.eq_iff_iff]; simp; omega) | grind); done))
theorem c245 (nm name : List UInt8) (lo hi : Int) : CallA Tryz.prog 245 [.agg [.d (.str nm), .d (.int .i64 lo), .d (.int .i64 hi)], .one (.d (.ptr [.fn 139 []])), .one (.d (.ptr [.str name]))] [] (.one (.d (.bool (nm == name)))) [] := by
  refine enter tabOk Tryz.func245 rfl (by decide +kernel) rfl fun hok w0 σ0 φ0 M => ?_
  repeat' (first | (show OkOps _ _ _ _ _ _; first | refine okops_nil ?_ | refine s_plain tabOk rfl rfl rfl rfl rfl ?_ | (show OkOps _ _ _ (Oper.mk _ (Op.box _ _) _ _ _ (_) :: _) _ _; first | refine s_box 0 rfl rfl rfl rfl rfl rfl ?_ | fail) | fail) | (show OkC _ _ _ _ _; first | refine ok_seq ?_ | refine ok_region ?_ | refine ok_ret ?_ | refine ok_regionD progOk.mo ?_ | fail) | (show thenQ _ _ _ _; first | refine then_n ?_ | fail) | (show RetQ _ _ _ _ _ _; first | refine ret_leaf (.inl rfl) rfl rfl ?_ | fail) | (show DRun _ _ _ _ _ _ _ _; first | refine d_nil (by kernel_rfl) ?_ | refine d_e envOk rfl rfl rfl (step3_plain rfl rfl) ?_ | (show DRun _ _ _ _ (Oper.mk _ (Op.call _) _ _ _ (_) :: _) _ _ _; first | refine d_l rfl rfl (loc_callF' rfl rfl rfl rfl rfl rfl (c139 _ _ _) rfl) ?_ | fail) | fail) | fail)
  all_goals (try (((simp_all [at_drop, List.drop_eq_nil_of_le]) <;> first | omega | (rw [Bool.eq_iff_iff]; simp; omega) | grind); done))
theorem c251 (nm name : List UInt8) (t : Int) : CallA Tryz.prog 251 [.agg [.d (.str nm), .d (.int .i64 t)], .one (.d (.ptr [.fn 151 []])), .one (.d (.ptr [.str name]))] [] (.one (.d (.bool (nm == name)))) [] := by
  refine enter tabOk Tryz.func251 rfl (by decide +kernel) rfl fun hok w0 σ0 φ0 M => ?_
  repeat' (first | (show OkOps _ _ _ _ _ _; first | refine okops_nil ?_ | refine s_plain tabOk rfl rfl rfl rfl rfl ?_ | (show OkOps _ _ _ (Oper.mk _ (Op.box _ _) _ _ _ (_) :: _) _ _; first | refine s_box 0 rfl rfl rfl rfl rfl rfl ?_ | fail) | fail) | (show OkC _ _ _ _ _; first | refine ok_seq ?_ | refine ok_region ?_ | refine ok_ret ?_ | refine ok_regionD progOk.mo ?_ | fail) | (show thenQ _ _ _ _; first | refine then_n ?_ | fail) | (show RetQ _ _ _ _ _ _; first | refine ret_leaf (.inl rfl) rfl rfl ?_ | fail) | (show DRun _ _ _ _ _ _ _ _; first | refine d_nil (by kernel_rfl) ?_ | refine d_e envOk rfl rfl rfl (step3_plain rfl rfl) ?_ | (show DRun _ _ _ _ (Oper.mk _ (Op.call _) _ _ _ (_) :: _) _ _ _; first | refine d_l rfl rfl (loc_callF' rfl rfl rfl rfl rfl rfl (c151 _ _) rfl) ?_ | fail) | fail) | fail)
  all_goals (try (((simp_all [at_drop, List.drop_eq_nil_of_le]) <;> first | omega | (rw [Bool.eq_iff_iff]; simp; omega) | grind); done))
theorem c244 (f : FuncId) (caps : List D) (p : Dim → Bool) (hp : ∀ d : Dim, CallA Tryz.prog f ([.agg [.d (.str d.name), .d (.int .i64 d.lo), .d (.int .i64 d.hi)]] ++ caps.map fun x => .one (.d x)) [] (.one (.d (.bool (p d)))) []) (l : List Dim) :
    CallA Tryz.prog 244 [.one (.d (encDims l)), .one (.d (.fn f caps))] [] (.one (.d (.int .i64 (idxGo p l 0)))) [] := by
  refine enter tabOk Tryz.func244 rfl (by decide +kernel) rfl fun hok w0 σ0 φ0 M => ?_
  have h1 := hok.1.sl; clear hok; simp only [List.length_map] at h1; replace h1 := h1.1
  repeat' (first | (show OkOps _ _ _ _ _ _; first | refine okops_nil ?_ | refine s_plain tabOk rfl rfl rfl rfl rfl ?_ | (show OkOps _ _ _ (Oper.mk _ (Op.binOp .add _ _ _ _) _ _ _ (_) :: _) _ _; first | refine s_e envOk rfl rfl rfl (step3_add rfl rfl rfl rfl (wrap64 (by omega) (by omega))) ?_ | fail) | (show OkOps _ _ _ (Oper.mk _ (Op.indexAddr _ _ _) _ _ _ (_) :: _) _ _; first | refine s_e envOk rfl rfl rfl (step3_idx rfl rfl rfl rfl rfl (by first | omega | ((try simp only [decide_eq_true_eq, decide_eq_false_iff_not, Bool.not_eq_true', Bool.not_true, Bool.not_false, List.length_map, List.length_set, bne_iff_ne, ne_eq, beq_iff_eq, bne_eq_false_iff_eq, beq_eq_false_iff_ne] at *); omega)) (at_map (by first | omega | ((try simp only [decide_eq_true_eq, decide_eq_false_iff_not, Bool.not_eq_true', Bool.not_true, Bool.not_false, List.length_map, List.length_set, bne_iff_ne, ne_eq, beq_iff_eq, bne_eq_false_iff_eq, beq_eq_false_iff_ne] at *); omega)))) ?_ | fail) | (show OkOps _ _ _ (Oper.mk _ (Op.call _) _ _ _ (_) :: _) _ _; first | refine s_callF rfl rfl rfl rfl rfl rfl rfl rfl (hp _) rfl ?_ | fail) | fail) | (show OkC _ _ _ _ _; first | refine ok_seq ?_ | refine ok_region ?_ | refine ok_block ?_ | refine ok_skip ?_ | refine ok_ret ?_ | refine ok_exit ?_ | refine ok_cond rfl (fun h => ?_) (fun h => ?_) | refine s_loop 2 rfl [(0, _), (1, _), (7, _)] (subL_cons rfl (subL_cons rfl (subL_cons rfl subL_nil))) (fun (k : Nat) => [(8, .one (.d (.int .i64 k)))]) (fun (k : Nat) => k ≤ l.length ∧ idxGo p l 0 = idxGo p (l.drop k) k) (fun (k : Nat) => l.length - k) 0 (subL_cons rfl subL_nil) ?_ (fun k ⟨hk, hs⟩ => ?_) | fail) | (show thenQ _ _ _ _; first | refine then_n ?_ | refine then_r ?_ | refine then_x ?_ | fail) | (show blockQ _ _ _ _; first | refine block_n ?_ | refine block_r ?_ | refine block_x rfl ?_ | fail) | (show RetQ _ _ _ _ _ _; first | refine ret_leaf (.inl rfl) rfl rfl ?_ | fail) | (show Exists _; first | refine Exists.intro (k + 1) ⟨?_, ?_, (by first | exact subL_nil | exact (subL_cons rfl subL_nil) | exact (subL_cons rfl (subL_cons rfl subL_nil)) | exact (subL_cons rfl (subL_cons rfl (subL_cons rfl subL_nil))) | exact (subL_cons rfl (subL_cons rfl (subL_cons rfl (subL_cons rfl subL_nil)))) | exact (subL_cons rfl (subL_cons rfl (subL_cons rfl (subL_cons rfl (subL_cons rfl subL_nil))))) | exact (subL_cons rfl (subL_cons rfl (subL_cons rfl (subL_cons rfl (subL_cons rfl (subL_cons rfl subL_nil)))))) | exact (subL_cons rfl (subL_cons rfl (subL_cons rfl (subL_cons rfl (subL_cons rfl (subL_cons rfl (subL_cons rfl subL_nil))))))) | exact (subL_cons rfl (subL_cons rfl (subL_cons rfl (subL_cons rfl (subL_cons rfl (subL_cons rfl (subL_cons rfl (subL_cons rfl subL_nil))))))))), (subL_cons rfl subL_nil), (subL_cons rfl (subL_cons rfl (subL_cons rfl subL_nil)))⟩ | fail) | fail)
  all_goals (try (((simp_all [idxGo, at_drop, List.drop_eq_nil_of_le]) <;> first | omega | (rw [Bool.eq_iff_iff]; simp; omega) | grind); done))
theorem c250 (f : FuncId) (caps : List D) (p : Attr → Bool) (hp : ∀ d : Attr, CallA Tryz.prog f ([.agg [.d (.str d.name), .d (.int .i64 d.type)]] ++ caps.map fun x => .one (.d x)) [] (.one (.d (.bool (p d)))) []) (l : List Attr) :
    CallA Tryz.prog 250 [.one (.d (encAttrs l)), .one (.d (.fn f caps))] [] (.one (.d (.int .i64 (idxGo p l 0)))) [] := by
  refine enter tabOk Tryz.func250 rfl (by decide +kernel) rfl fun hok w0 σ0 φ0 M => ?_
  have h1 := hok.1.sl; clear hok; simp only [List.length_map] at h1; replace h1 := h1.1
  repeat' (first | (show OkOps _ _ _ _ _ _; first | refine okops_nil ?_ | refine s_plain tabOk rfl rfl rfl rfl rfl ?_ | (show OkOps _ _ _ (Oper.mk _ (Op.binOp .add _ _ _ _) _ _ _ (_) :: _) _ _; first | refine s_e envOk rfl rfl rfl (step3_add rfl rfl rfl rfl (wrap64 (by omega) (by omega))) ?_ | fail) | (show OkOps _ _ _ (Oper.mk _ (Op.indexAddr _ _ _) _ _ _ (_) :: _) _ _; first | refine s_e envOk rfl rfl rfl (step3_idx rfl rfl rfl rfl rfl (by first | omega | ((try simp only [decide_eq_true_eq, decide_eq_false_iff_not, Bool.not_eq_true', Bool.not_true, Bool.not_false, List.length_map, List.length_set, bne_iff_ne, ne_eq, beq_iff_eq, bne_eq_false_iff_eq, beq_eq_false_iff_ne] at *); omega)) (at_map (by first | omega | ((try simp only [decide_eq_true_eq, decide_eq_false_iff_not, Bool.not_eq_true', Bool.not_true, Bool.not_false, List.length_map, List.length_set, bne_iff_ne, ne_eq, beq_iff_eq, bne_eq_false_iff_eq, beq_eq_false_iff_ne] at *); omega)))) ?_ | fail) | (show OkOps _ _ _ (Oper.mk _ (Op.call _) _ _ _ (_) :: _) _ _; first | refine s_callF rfl rfl rfl rfl rfl rfl rfl rfl (hp _) rfl ?_ | fail) | fail) | (show OkC _ _ _ _ _; first | refine ok_seq ?_ | refine ok_region ?_ | refine ok_block ?_ | refine ok_skip ?_ | refine ok_ret ?_ | refine ok_exit ?_ | refine ok_cond rfl (fun h => ?_) (fun h => ?_) | refine s_loop 2 rfl [(0, _), (1, _), (7, _)] (subL_cons rfl (subL_cons rfl (subL_cons rfl subL_nil))) (fun (k : Nat) => [(8, .one (.d (.int .i64 k)))]) (fun (k : Nat) => k ≤ l.length ∧ idxGo p l 0 = idxGo p (l.drop k) k) (fun (k : Nat) => l.length - k) 0 (subL_cons rfl subL_nil) ?_ (fun k ⟨hk, hs⟩ => ?_) | fail) | (show thenQ _ _ _ _; first | refine then_n ?_ | refine then_r ?_ | refine then_x ?_ | fail) | (show blockQ _ _ _ _; first | refine block_n ?_ | refine block_r ?_ | refine block_x rfl ?_ | fail) | (show RetQ _ _ _ _ _ _; first | refine ret_leaf (.inl rfl) rfl rfl ?_ | fail) | (show Exists _; first | refine Exists.intro (k + 1) ⟨?_, ?_, (by first | exact subL_nil | exact (subL_cons rfl subL_nil) | exact (subL_cons rfl (subL_cons rfl subL_nil)) | exact (subL_cons rfl (subL_cons rfl (subL_cons rfl subL_nil))) | exact (subL_cons rfl (subL_cons rfl (subL_cons rfl (subL_cons rfl subL_nil)))) | exact (subL_cons rfl (subL_cons rfl (subL_cons rfl (subL_cons rfl (subL_cons rfl subL_nil))))) | exact (subL_cons rfl (subL_cons rfl (subL_cons rfl (subL_cons rfl (subL_cons rfl (subL_cons rfl subL_nil)))))) | exact (subL_cons rfl (subL_cons rfl (subL_cons rfl (subL_cons rfl (subL_cons rfl (subL_cons rfl (subL_cons rfl subL_nil))))))) | exact (subL_cons rfl (subL_cons rfl (subL_cons rfl (subL_cons rfl (subL_cons rfl (subL_cons rfl (subL_cons rfl (subL_cons rfl subL_nil))))))))), (subL_cons rfl subL_nil), (subL_cons rfl (subL_cons rfl (subL_cons rfl subL_nil)))⟩ | fail) | fail)
  all_goals (try (((simp_all [idxGo, at_drop, List.drop_eq_nil_of_le]) <;> first | omega | (rw [Bool.eq_iff_iff]; simp; omega) | grind); done))
theorem c195 (l : List Dim) (name : List UInt8) : CallA Tryz.prog 195 [.one (.d (encDims l)), .one (.d (.str name)), .one (.d (.fn 139 []))] [] (.one (.d (.int .i64 (idxGo (fun a : Dim => a.name == name) l 0)))) [] := by
  refine enter tabOk Tryz.func195 rfl (by decide +kernel) rfl fun hok w0 σ0 φ0 M => ?_
  repeat' (first | (show OkOps _ _ _ _ _ _; first | refine okops_nil ?_ | refine s_plain tabOk rfl rfl rfl rfl rfl ?_ | (show OkOps _ _ _ (Oper.mk _ (Op.call _) _ _ _ (_) :: _) _ _; first | refine s_callF rfl rfl rfl rfl rfl rfl rfl rfl (c244 _ _ _ (fun d => c245 _ name _ _) _) rfl ?_ | fail) | (show OkOps _ _ _ (Oper.mk _ (Op.box _ _) _ _ _ (_) :: _) _ _; first | refine s_box 0 rfl rfl rfl rfl rfl rfl ?_ | refine s_box 1 rfl rfl rfl rfl rfl rfl ?_ | fail) | refine s_mkF envOk rfl rfl rfl rfl rfl ?_ | fail) | (show OkC _ _ _ _ _; first | refine ok_seq ?_ | refine ok_region ?_ | refine ok_ret ?_ | fail) | (show thenQ _ _ _ _; first | refine then_n ?_ | fail) | (show RetQ _ _ _ _ _ _; first | refine ret_leaf (.inl rfl) rfl rfl ?_ | fail) | fail)
  all_goals (try (((simp_all [at_drop, List.drop_eq_nil_of_le]) <;> first | omega | (rw [Bool.eq_iff_iff]; simp; omega) | grind); done))
theorem c207 (l : List Attr) (name : List UInt8) : CallA Tryz.prog 207 [.one (.d (encAttrs l)), .one (.d (.str name)), .one (.d (.fn 151 []))] [] (.one (.d (.int .i64 (idxGo (fun a : Attr => a.name == name) l 0)))) [] := by
  refine enter tabOk Tryz.func207 rfl (by decide +kernel) rfl fun hok w0 σ0 φ0 M => ?_
  repeat' (first | (show OkOps _ _ _ _ _ _; first | refine okops_nil ?_ | refine s_plain tabOk rfl rfl rfl rfl rfl ?_ | (show OkOps _ _ _ (Oper.mk _ (Op.call _) _ _ _ (_) :: _) _ _; first | refine s_callF rfl rfl rfl rfl rfl rfl rfl rfl (c250 _ _ _ (fun d => c251 _ name _) _) rfl ?_ | fail) | (show OkOps _ _ _ (Oper.mk _ (Op.box _ _) _ _ _ (_) :: _) _ _; first | refine s_box 0 rfl rfl rfl rfl rfl rfl ?_ | refine s_box 1 rfl rfl rfl rfl rfl rfl ?_ | fail) | refine s_mkF envOk rfl rfl rfl rfl rfl ?_ | fail) | (show OkC _ _ _ _ _; first | refine ok_seq ?_ | refine ok_region ?_ | refine ok_ret ?_ | fail) | (show thenQ _ _ _ _; first | refine then_n ?_ | fail) | (show RetQ _ _ _ _ _ _; first | refine ret_leaf (.inl rfl) rfl rfl ?_ | fail) | fail)
  all_goals (try (((simp_all [at_drop, List.drop_eq_nil_of_le]) <;> first | omega | (rw [Bool.eq_iff_iff]; simp; omega) | grind); done))
theorem c126 (ds : List Dim) (ats : List Attr) (cs : D) (name : List UInt8) : CallA Tryz.prog 126 [.agg [.d (encDims ds), .d (encAttrs ats), .d cs], .one (.d (.str name))] [] (.one (.d (.int .i64 (idxGo (fun a : Dim => a.name == name) ds 0)))) [] := by
  refine enter tabOk Tryz.func126 rfl (by decide +kernel) rfl fun hok w0 σ0 φ0 M => ?_
  repeat' (first | (show OkOps _ _ _ _ _ _; first | refine okops_nil ?_ | refine s_plain tabOk rfl rfl rfl rfl rfl ?_ | (show OkOps _ _ _ (Oper.mk _ (Op.call _) _ _ _ (_) :: _) _ _; first | refine s_callF rfl rfl rfl rfl rfl rfl rfl rfl (c195 _ _) rfl ?_ | fail) | (show OkOps _ _ _ (Oper.mk _ (Op.box _ _) _ _ _ (_) :: _) _ _; first | refine s_box 0 rfl rfl rfl rfl rfl rfl ?_ | fail) | fail) | (show OkC _ _ _ _ _; first | refine ok_seq ?_ | refine ok_region ?_ | refine ok_ret ?_ | fail) | (show thenQ _ _ _ _; first | refine then_n ?_ | fail) | (show RetQ _ _ _ _ _ _; first | refine ret_leaf (.inl rfl) rfl rfl ?_ | fail) | fail)
  all_goals (try (((simp_all [at_drop, List.drop_eq_nil_of_le]) <;> first | omega | (rw [Bool.eq_iff_iff]; simp; omega) | grind); done))
theorem c148 (ds : List Dim) (ats : List Attr) (cs : D) (name : List UInt8) : CallA Tryz.prog 148 [.agg [.d (encDims ds), .d (encAttrs ats), .d cs], .one (.d (.str name))] [] (.one (.d (.int .i64 (idxGo (fun a : Attr => a.name == name) ats 0)))) [] := by
  refine enter tabOk Tryz.func148 rfl (by decide +kernel) rfl fun hok w0 σ0 φ0 M => ?_
  repeat' (first | (show OkOps _ _ _ _ _ _; first | refine okops_nil ?_ | refine s_plain tabOk rfl rfl rfl rfl rfl ?_ | (show OkOps _ _ _ (Oper.mk _ (Op.call _) _ _ _ (_) :: _) _ _; first | refine s_callF rfl rfl rfl rfl rfl rfl rfl rfl (c207 _ _) rfl ?_ | fail) | (show OkOps _ _ _ (Oper.mk _ (Op.box _ _) _ _ _ (_) :: _) _ _; first | refine s_box 0 rfl rfl rfl rfl rfl rfl ?_ | fail) | fail) | (show OkC _ _ _ _ _; first | refine ok_seq ?_ | refine ok_region ?_ | refine ok_ret ?_ | fail) | (show thenQ _ _ _ _; first | refine then_n ?_ | fail) | (show RetQ _ _ _ _ _ _; first | refine ret_leaf (.inl rfl) rfl rfl ?_ | fail) | fail)
  all_goals (try (((simp_all [at_drop, List.drop_eq_nil_of_le]) <;> first | omega | (rw [Bool.eq_iff_iff]; simp; omega) | grind); done))
end Go.Proofs.YtpejdgkaapnekaaGreat
