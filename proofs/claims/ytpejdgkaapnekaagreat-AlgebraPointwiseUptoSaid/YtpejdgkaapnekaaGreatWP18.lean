import Derived.Test.YtpejdgkaapnekaaGreatWP17
set_option linter.unusedVariables false
set_option linter.unusedSimpArgs false
set_option linter.unnecessarySimpa false
set_option maxHeartbeats 1000000
namespace Go.Proofs.YtpejdgkaapnekaaGreat
open Go Go.Abs
attribute [local irreducible] aa OkC aj av al aB
set_option maxRecDepth 10000
theorem Nv(op : Int) : CallA Tryz.prog 228 [.one (.d (.int .i64 op))] [] (.one (.d (.int .i64 (dQ op)))) []:=by
 refine enter af Tryz.func228 rfl (by decide +kernel) rfl fun hok w0 σ0 φ0 M=>?_
 clear hok
 repeat' (first|refine wG ?_|(refine h1H ?_; (refine h4H ?_; refine aG J J J J (fun h=>?_) (fun h=>?_)))|(refine h5H ?_; refine ai J (fun h=>?_) (fun h=>?_)))
 all_goals (try (((simp_all [dQ,ak,List.drop_eq_nil_of_le]) <;> exact wL); done))
def bu(t : Int) : Bool:=t == 2 || t == 3
theorem Jr(t : Int) : CallA Tryz.prog 269 [.one (.d (.int .i64 t))] [] (.one (.d (.bool (bu t)))) []:=by
 refine enter af Tryz.func269 rfl (by decide +kernel) rfl fun hok w0 σ0 φ0 M=>?_
 clear hok
 repeat' (first|refine wG ?_|(refine h1H ?_; (refine h4H ?_; refine aG J J J J (fun h=>?_) (fun h=>?_))))
 all_goals (try (((simp_all [bu,ak,List.drop_eq_nil_of_le]) <;> exact wL); done))
def bd(a b : Int) : Int:=if a = b then a else if bu a && bu b then 3 else 0
theorem OG(a b : Int) : CallA Tryz.prog 270 [.one (.d (.int .i64 a)),.one (.d (.int .i64 b))] [] (.one (.d (.int .i64 (bd a b)))) []:=by
 refine enter af Tryz.func270 rfl (by decide +kernel) rfl fun hok w0 σ0 φ0 M=>?_
 clear hok
 repeat' (first|(refine h1H ?_; (refine h0H ?_; refine ab J J J J J J J J (Jr _) J ?_))|refine wG ?_|(refine h1H ?_; (refine h4H ?_; refine aG J J J J (fun h=>?_) (fun h=>?_)))|(refine h5H ?_; refine ai J (fun h=>?_) (fun h=>?_)))
 all_goals (try (((simp_all [bd,ak,List.drop_eq_nil_of_le]) <;> exact wL); done))
def aQ(op : Int)(a b c : Int) : Int :=
 if (op = 4∧a = 1)∨op = 7 then 1
 else if op = 5∧bu a = true then a
 else if (op = 6∧bu a = true)∨op = 8 then 2
 else if 9≤op∧op≤11∧bu a = true∧bu b = true then bd a b
 else if op = 12∧bu a = true∧bu b = true then 3
 else if 13≤op∧op≤18∧bd a b≠0 then 1
 else if (op = 19∨op = 20)∧a = 1∧b = 1 then 1
 else if op = 21 then bd a b
 else if op = 22∧a = 1 then bd b c
 else 0
theorem sh{op : Int}(h : 4≤op∧op≤22) : op = 4∨op = 5∨op = 6∨op = 7∨op = 8∨op = 9∨op = 10∨op = 11∨op = 12∨op = 13∨op = 14∨op = 15∨op = 16∨op = 17∨op = 18∨op = 19∨op = 20∨op = 21∨op = 22:=by omega
set_option maxHeartbeats 4000000 in
theorem Nw(op : Int)(l : List Int)(hop : 4≤op∧op≤22)(hl : (l.length : Int) = dQ op) :
  CallA Tryz.prog 229 [.one (.d (.int .i64 op)),.one (.d (aq l))] [] (.one (.d (.int .i64 (aQ op (at_ l 0) (at_ l 1) (at_ l 2))))) []:=by
 rcases sh hop with rfl | rfl | rfl | rfl | rfl | rfl | rfl | rfl | rfl | rfl | rfl | rfl | rfl | rfl | rfl | rfl | rfl | rfl | rfl
 all_goals
  simp [dQ] at hl
  refine enter af Tryz.func229 rfl (by decide +kernel) rfl fun hok w0 σ0 φ0 M=>?_
  clear hok hop
  repeat' (first|(refine h1H ?_; (refine h0H ?_; refine ab J J J J J J J J (Jr _) J ?_))|(refine h3H ?_; (refine h2H ?_; refine d_l J J (bo J J J J J J (OG _ _) J) ?_))|refine wG ?_|(refine h1H ?_; (refine h4H ?_; refine aG J J J J (fun h=>?_) (fun h=>?_)))|(refine h5H ?_; refine ai J (fun h=>?_) (fun h=>?_)))
  all_goals (try (((simp_all [aQ,ak,List.drop_eq_nil_of_le]) <;> exact wL); done))
theorem Ff(t : Int) : CallA Tryz.prog 301 [.one (.d (.int .i64 t))] [] (.one (.d (.bool (bu t)))) []:=by
 refine enter af Tryz.func301 rfl (by decide +kernel) rfl fun hok w0 σ0 φ0 M=>?_
 clear hok
 repeat' (first|refine wG ?_|(refine h1H ?_; (refine h4H ?_; refine aG J J J J (fun h=>?_) (fun h=>?_))))
 all_goals (try (((simp_all [bu,ak,List.drop_eq_nil_of_le]) <;> exact wL); done))
theorem IC(l : D)(t : Int) : CallA Tryz.prog 357 [.one (.d l),.one (.d (.ptr [.int .i64 t]))] [] (.one (.d (.int .i64 t))) []:=by
 refine enter af Tryz.func357 rfl (by decide +kernel) rfl fun hok w0 σ0 φ0 M=>?_
 clear hok
 repeat' (first|refine wG ?_)
 all_goals (try (((simp_all [ak,List.drop_eq_nil_of_le]) <;> exact wL); done))
theorem LZ(l : List Int)(hl : 1≤l.length) : CallA Tryz.prog 303 [.one (.d (aq l))] [] (.one (.d (.int .i64 (if at_ l 0 = 1 then 1 else 0)))) []:=by
 refine enter af Tryz.func303 rfl (by decide +kernel) rfl fun hok w0 σ0 φ0 M=>?_
 clear hok
 repeat' (first|refine wG ?_|(refine h5H ?_; refine ai J (fun h=>?_) (fun h=>?_)))
 all_goals (try (((simp_all [ak,List.drop_eq_nil_of_le]) <;> exact wL); done))
theorem xG(l : List Int)(hl : 2≤l.length) : CallA Tryz.prog 307 [.one (.d (aq l))] [] (.one (.d (.int .i64 (bd (at_ l ((l.length : Int) - 2).toNat) (at_ l ((l.length : Int) - 1).toNat))))) []:=by
 refine enter af Tryz.func307 rfl (by decide +kernel) rfl fun hok w0 σ0 φ0 M=>?_
 have h1:=hok.1.sl.1; clear hok; simp only [List.length_map] at h1
 repeat' (first|(refine h1H ?_; (refine h0H ?_; refine ab J J J J J J J J (Ff _) J ?_))|refine wG ?_|(refine h1H ?_; (refine h4H ?_; refine aG J J J J (fun h=>?_) (fun h=>?_)))|(refine h5H ?_; refine ai J (fun h=>?_) (fun h=>?_)))
 all_goals (try (((simp_all [bd,ak,List.drop_eq_nil_of_le]) <;> exact wL); done))
theorem ID(l : List Int)(hl : 1≤l.length) : CallA Tryz.prog 300 [.one (.d (aq l))] [] (.one (.d (.int .i64 (if bu (at_ l 0) then at_ l 0 else 0)))) []:=by
 refine enter af Tryz.func300 rfl (by decide +kernel) rfl fun hok w0 σ0 φ0 M=>?_
 clear hok
 repeat' (first|(refine h1H ?_; (refine h0H ?_; refine ab J J J J J J J J (Ff _) J ?_))|refine wG ?_|(refine h5H ?_; refine ai J (fun h=>?_) (fun h=>?_)))
 all_goals (try (((simp_all [ak,List.drop_eq_nil_of_le]) <;> exact wL); done))
theorem BF(l : List Int)(hl : 2≤l.length) : CallA Tryz.prog 305 [.one (.d (aq l))] [] (.one (.d (.int .i64 (if bu (at_ l 0) then bd (at_ l ((l.length : Int) - 2).toNat) (at_ l ((l.length : Int) - 1).toNat) else 0)))) []:=by
 refine enter af Tryz.func305 rfl (by decide +kernel) rfl fun hok w0 σ0 φ0 M=>?_
 clear hok
 repeat' (first|(refine h1H ?_; (refine h0H ?_; first|refine ab J J J J J J J J (Ff _) J ?_|refine ab J J J J J J J J (xG _ (by omega)) J ?_))|refine wG ?_|(refine h5H ?_; refine ai J (fun h=>?_) (fun h=>?_)))
 all_goals (try (((simp_all [ak,List.drop_eq_nil_of_le]) <;> exact wL); done))
theorem Ma(l : List Int)(hl : 2≤l.length) : CallA Tryz.prog 306 [.one (.d (aq l))] [] (.one (.d (.int .i64 (if at_ l 0 = 1 then bd (at_ l ((l.length : Int) - 2).toNat) (at_ l ((l.length : Int) - 1).toNat) else 0)))) []:=by
 refine enter af Tryz.func306 rfl (by decide +kernel) rfl fun hok w0 σ0 φ0 M=>?_
 clear hok
 repeat' (first|(refine h1H ?_; (refine h0H ?_; refine ab J J J J J J J J (xG _ (by omega)) J ?_))|refine wG ?_|(refine h5H ?_; refine ai J (fun h=>?_) (fun h=>?_)))
 all_goals (try (((simp_all [ak,List.drop_eq_nil_of_le]) <;> exact wL); done))
theorem Mb(l : List Int)(hl : 2≤l.length) : CallA Tryz.prog 304 [.one (.d (aq l))] [] (.one (.d (.int .i64 (if (if bu (at_ l 0) then bd (at_ l ((l.length : Int) - 2).toNat) (at_ l ((l.length : Int) - 1).toNat) else 0) = 0 then 0 else 3)))) []:=by
 refine enter af Tryz.func304 rfl (by decide +kernel) rfl fun hok w0 σ0 φ0 M=>?_
 clear hok
 repeat' (first|(refine h1H ?_; (refine h0H ?_; refine ab J J J J J J J J (BF _ (by omega)) J ?_))|refine wG ?_|(refine h5H ?_; refine ai J (fun h=>?_) (fun h=>?_)))
 all_goals (try (((simp_all [ak,List.drop_eq_nil_of_le]) <;> exact wL); done))
theorem ud(l : List Int)(hl : 2≤l.length) : CallA Tryz.prog 363 [.one (.d (aq l))] [] (.one (.d (.int .i64 (if bd (at_ l ((l.length : Int) - 2).toNat) (at_ l ((l.length : Int) - 1).toNat) = 0 then 0 else 1)))) []:=by
 refine enter af Tryz.func363 rfl (by decide +kernel) rfl fun hok w0 σ0 φ0 M=>?_
 clear hok
 repeat' (first|(refine h1H ?_; (refine h0H ?_; refine ab J J J J J J J J (xG _ (by omega)) J ?_))|refine wG ?_|(refine h5H ?_; refine ai J (fun h=>?_) (fun h=>?_)))
 all_goals (try (((simp_all [ak,List.drop_eq_nil_of_le]) <;> exact wL); done))
theorem Hb{l : List Int}(h : OkD (aq l)){i : Nat}(hi : i < l.length) : -9223372036854775808≤at_ l i∧at_ l i≤9223372036854775807 :=
 OkD.i64 ((h.sl.2.2 (b0 (at_ l i)) (List.mem_map_of_mem (b9 hi))).2 (.int .i64 (at_ l i)) (by simp [b0]))
theorem IE(l : List Int)(hl : 2≤l.length) : CallA Tryz.prog 366 [.one (.d (aq l))] [] (.one (.d (.int .i64 (if at_ l 0 = 1 then bd (at_ l ((l.length : Int) - 2).toNat) (at_ l ((l.length : Int) - 1).toNat) else 0)))) []:=by
 refine enter af Tryz.func366 rfl (by decide +kernel) rfl fun hok w0 σ0 φ0 M=>?_
 have hs : -9223372036854775808≤bd (at_ l ((l.length : Int) - 2).toNat) (at_ l ((l.length : Int) - 1).toNat)∧bd (at_ l ((l.length : Int) - 2).toNat) (at_ l ((l.length : Int) - 1).toNat)≤9223372036854775807:=by
  have:=Hb hok.1 (i:=((l.length : Int) - 2).toNat) (by omega)
  unfold bd; split
  ·exact this
  ·split <;> omega
 clear hok
 repeat' (first|(refine h1H ?_; (refine h0H ?_; refine ab J J J J J J J J (xG _ (by omega)) J ?_))|refine wG ?_|(refine h5H ?_; refine ai J (fun h=>?_) (fun h=>?_)))
 all_goals (try (((simp_all [ak,List.drop_eq_nil_of_le]) <;> exact wL); done))
theorem Mc(l : List Int)(hl : 1≤l.length) : CallA Tryz.prog 302 [.one (.d (aq l)),.one (.d (.ptr [.fn 300 []]))] [] (.one (.d (.int .i64 (min (if bu (at_ l 0) then at_ l 0 else 0) 2)))) []:=by
 refine enter af Tryz.func302 rfl (by decide +kernel) rfl fun hok w0 σ0 φ0 M=>?_
 clear hok
 repeat' (first|(refine h1H ?_; (refine h0H ?_; refine ab J J J J J J J J (ID l hl) J ?_))|refine wG ?_)
 all_goals (try (((simp_all [ak,List.drop_eq_nil_of_le]) <;> exact wL); done))
end Go.Proofs.YtpejdgkaapnekaaGreat
