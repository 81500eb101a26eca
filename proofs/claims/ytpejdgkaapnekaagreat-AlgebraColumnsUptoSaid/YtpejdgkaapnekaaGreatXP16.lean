import Derived.Test.YtpejdgkaapnekaaGreatXP15
set_option linter.unusedVariables false
set_option linter.unusedSimpArgs false
set_option maxHeartbeats 1000000
namespace Go.Proofs.YtpejdgkaapnekaaGreat
open Go Go.Abs
attribute [local irreducible] ae OkC ar aA av aN
set_option maxRecDepth 10000
def cF(op : Int)(a b c : Int) : Int :=
 if (op = 4∧a = 1)∨op = 7 then 1
 else if op = 5∧du a = true then a
 else if (op = 6∧du a = true)∨op = 8 then 2
 else if 9≤op∧op≤11∧du a = true∧du b = true then cv a b
 else if op = 12∧du a = true∧du b = true then 3
 else if 13≤op∧op≤18∧cv a b≠0 then 1
 else if (op = 19∨op = 20)∧a = 1∧b = 1 then 1
 else if op = 21 then cv a b
 else if op = 22∧a = 1 then cv b c
 else 0
theorem pJ{op : Int}(h : 4≤op∧op≤22) : op = 4∨op = 5∨op = 6∨op = 7∨op = 8∨op = 9∨op = 10∨op = 11∨op = 12∨op = 13∨op = 14∨op = 15∨op = 16∨op = 17∨op = 18∨op = 19∨op = 20∨op = 21∨op = 22:=by omega
set_option maxHeartbeats 4000000 in
theorem QQ(op : Int)(l : List Int)(hop : 4≤op∧op≤22)(hl : (l.length : Int) = dC op) :
  CallA Tryz.prog 229 [.one (.d (.int .i64 op)),.one (.d (aM l))] [] (.one (.d (.int .i64 (cF op (at_ l 0) (at_ l 1) (at_ l 2))))) []:=by
 rcases pJ hop with rfl | rfl | rfl | rfl | rfl | rfl | rfl | rfl | rfl | rfl | rfl | rfl | rfl | rfl | rfl | rfl | rfl | rfl | rfl
 all_goals
  simp [dC] at hl
  refine enter af Tryz.func229 rfl (by decide +kernel) rfl fun hok w0 σ0 φ0 M=>?_
  clear hok hop
  repeat' (first|(refine h1H ?_; (refine h0H ?_; refine aa J J J J J J J J (Mk _) J ?_))|(refine h3H ?_; (refine h2H ?_; refine d_l J J (aB J J J J J J (Sh _ _) J) ?_))|refine wG ?_|(refine h1H ?_; (refine h5H ?_; refine aJ J J J J (fun h=>?_) (fun h=>?_)))|(refine h4H ?_; refine ah J (fun h=>?_) (fun h=>?_)))
  all_goals (try (((simp_all [cF,ao,List.drop_eq_nil_of_le]) <;> exact wL); done))
theorem Hj(t : Int) : CallA Tryz.prog 301 [.one (.d (.int .i64 t))] [] (.one (.d (.bool (du t)))) []:=by
 refine enter af Tryz.func301 rfl (by decide +kernel) rfl fun hok w0 σ0 φ0 M=>?_
 clear hok
 repeat' (first|refine wG ?_|(refine h1H ?_; (refine h5H ?_; refine aJ J J J J (fun h=>?_) (fun h=>?_))))
 all_goals (try (((simp_all [du,ao,List.drop_eq_nil_of_le]) <;> exact wL); done))
theorem K5(l : D)(t : Int) : CallA Tryz.prog 357 [.one (.d l),.one (.d (.ptr [.int .i64 t]))] [] (.one (.d (.int .i64 t))) []:=by
 refine enter af Tryz.func357 rfl (by decide +kernel) rfl fun hok w0 σ0 φ0 M=>?_
 clear hok
 repeat' (first|refine wG ?_)
 all_goals (try (((simp_all [ao,List.drop_eq_nil_of_le]) <;> exact wL); done))
theorem PB(l : List Int)(hl : 1≤l.length) : CallA Tryz.prog 303 [.one (.d (aM l))] [] (.one (.d (.int .i64 (if at_ l 0 = 1 then 1 else 0)))) []:=by
 refine enter af Tryz.func303 rfl (by decide +kernel) rfl fun hok w0 σ0 φ0 M=>?_
 clear hok
 repeat' (first|refine wG ?_|(refine h4H ?_; refine ah J (fun h=>?_) (fun h=>?_)))
 all_goals (try (((simp_all [ao,List.drop_eq_nil_of_le]) <;> exact wL); done))
theorem zi(l : List Int)(hl : 2≤l.length) : CallA Tryz.prog 307 [.one (.d (aM l))] [] (.one (.d (.int .i64 (cv (at_ l ((l.length : Int) - 2).toNat) (at_ l ((l.length : Int) - 1).toNat))))) []:=by
 refine enter af Tryz.func307 rfl (by decide +kernel) rfl fun hok w0 σ0 φ0 M=>?_
 have h1:=hok.1.sl.1; clear hok; simp only [List.length_map] at h1
 repeat' (first|(refine h1H ?_; (refine h0H ?_; refine aa J J J J J J J J (Hj _) J ?_))|refine wG ?_|(refine h1H ?_; (refine h5H ?_; refine aJ J J J J (fun h=>?_) (fun h=>?_)))|(refine h4H ?_; refine ah J (fun h=>?_) (fun h=>?_)))
 all_goals (try (((simp_all [cv,ao,List.drop_eq_nil_of_le]) <;> exact wL); done))
theorem K6(l : List Int)(hl : 1≤l.length) : CallA Tryz.prog 300 [.one (.d (aM l))] [] (.one (.d (.int .i64 (if du (at_ l 0) then at_ l 0 else 0)))) []:=by
 refine enter af Tryz.func300 rfl (by decide +kernel) rfl fun hok w0 σ0 φ0 M=>?_
 clear hok
 repeat' (first|(refine h1H ?_; (refine h0H ?_; refine aa J J J J J J J J (Hj _) J ?_))|refine wG ?_|(refine h4H ?_; refine ah J (fun h=>?_) (fun h=>?_)))
 all_goals (try (((simp_all [ao,List.drop_eq_nil_of_le]) <;> exact wL); done))
theorem Du(l : List Int)(hl : 2≤l.length) : CallA Tryz.prog 305 [.one (.d (aM l))] [] (.one (.d (.int .i64 (if du (at_ l 0) then cv (at_ l ((l.length : Int) - 2).toNat) (at_ l ((l.length : Int) - 1).toNat) else 0)))) []:=by
 refine enter af Tryz.func305 rfl (by decide +kernel) rfl fun hok w0 σ0 φ0 M=>?_
 clear hok
 repeat' (first|(refine h1H ?_; (refine h0H ?_; first|refine aa J J J J J J J J (Hj _) J ?_|refine aa J J J J J J J J (zi _ (by omega)) J ?_))|refine wG ?_|(refine h4H ?_; refine ah J (fun h=>?_) (fun h=>?_)))
 all_goals (try (((simp_all [ao,List.drop_eq_nil_of_le]) <;> exact wL); done))
theorem PC(l : List Int)(hl : 2≤l.length) : CallA Tryz.prog 306 [.one (.d (aM l))] [] (.one (.d (.int .i64 (if at_ l 0 = 1 then cv (at_ l ((l.length : Int) - 2).toNat) (at_ l ((l.length : Int) - 1).toNat) else 0)))) []:=by
 refine enter af Tryz.func306 rfl (by decide +kernel) rfl fun hok w0 σ0 φ0 M=>?_
 clear hok
 repeat' (first|(refine h1H ?_; (refine h0H ?_; refine aa J J J J J J J J (zi _ (by omega)) J ?_))|refine wG ?_|(refine h4H ?_; refine ah J (fun h=>?_) (fun h=>?_)))
 all_goals (try (((simp_all [ao,List.drop_eq_nil_of_le]) <;> exact wL); done))
theorem PD(l : List Int)(hl : 2≤l.length) : CallA Tryz.prog 304 [.one (.d (aM l))] [] (.one (.d (.int .i64 (if (if du (at_ l 0) then cv (at_ l ((l.length : Int) - 2).toNat) (at_ l ((l.length : Int) - 1).toNat) else 0) = 0 then 0 else 3)))) []:=by
 refine enter af Tryz.func304 rfl (by decide +kernel) rfl fun hok w0 σ0 φ0 M=>?_
 clear hok
 repeat' (first|(refine h1H ?_; (refine h0H ?_; refine aa J J J J J J J J (Du _ (by omega)) J ?_))|refine wG ?_|(refine h4H ?_; refine ah J (fun h=>?_) (fun h=>?_)))
 all_goals (try (((simp_all [ao,List.drop_eq_nil_of_le]) <;> exact wL); done))
theorem vI(l : List Int)(hl : 2≤l.length) : CallA Tryz.prog 363 [.one (.d (aM l))] [] (.one (.d (.int .i64 (if cv (at_ l ((l.length : Int) - 2).toNat) (at_ l ((l.length : Int) - 1).toNat) = 0 then 0 else 1)))) []:=by
 refine enter af Tryz.func363 rfl (by decide +kernel) rfl fun hok w0 σ0 φ0 M=>?_
 clear hok
 repeat' (first|(refine h1H ?_; (refine h0H ?_; refine aa J J J J J J J J (zi _ (by omega)) J ?_))|refine wG ?_|(refine h4H ?_; refine ah J (fun h=>?_) (fun h=>?_)))
 all_goals (try (((simp_all [ao,List.drop_eq_nil_of_le]) <;> exact wL); done))
theorem Jm{l : List Int}(h : OkD (aM l)){i : Nat}(hi : i < l.length) : -9223372036854775808≤at_ l i∧at_ l i≤9223372036854775807 :=
 OkD.i64 ((h.sl.2.2 (bJ (at_ l i)) (List.mem_map_of_mem (bT hi))).2 (.int .i64 (at_ l i)) (by simp [bJ]))
theorem K7(l : List Int)(hl : 2≤l.length) : CallA Tryz.prog 366 [.one (.d (aM l))] [] (.one (.d (.int .i64 (if at_ l 0 = 1 then cv (at_ l ((l.length : Int) - 2).toNat) (at_ l ((l.length : Int) - 1).toNat) else 0)))) []:=by
 refine enter af Tryz.func366 rfl (by decide +kernel) rfl fun hok w0 σ0 φ0 M=>?_
 have hs : -9223372036854775808≤cv (at_ l ((l.length : Int) - 2).toNat) (at_ l ((l.length : Int) - 1).toNat)∧cv (at_ l ((l.length : Int) - 2).toNat) (at_ l ((l.length : Int) - 1).toNat)≤9223372036854775807:=by
  have:=Jm hok.1 (i:=((l.length : Int) - 2).toNat) (by omega)
  unfold cv; split
  ·exact this
  ·split <;> omega
 clear hok
 repeat' (first|(refine h1H ?_; (refine h0H ?_; refine aa J J J J J J J J (zi _ (by omega)) J ?_))|refine wG ?_|(refine h4H ?_; refine ah J (fun h=>?_) (fun h=>?_)))
 all_goals (try (((simp_all [ao,List.drop_eq_nil_of_le]) <;> exact wL); done))
theorem PE(l : List Int)(hl : 1≤l.length) : CallA Tryz.prog 302 [.one (.d (aM l)),.one (.d (.ptr [.fn 300 []]))] [] (.one (.d (.int .i64 (min (if du (at_ l 0) then at_ l 0 else 0) 2)))) []:=by
 refine enter af Tryz.func302 rfl (by decide +kernel) rfl fun hok w0 σ0 φ0 M=>?_
 clear hok
 repeat' (first|(refine h1H ?_; (refine h0H ?_; refine aa J J J J J J J J (K6 l hl) J ?_))|refine wG ?_)
 all_goals (try (((simp_all [ao,List.drop_eq_nil_of_le]) <;> exact wL); done))
end Go.Proofs.YtpejdgkaapnekaaGreat
