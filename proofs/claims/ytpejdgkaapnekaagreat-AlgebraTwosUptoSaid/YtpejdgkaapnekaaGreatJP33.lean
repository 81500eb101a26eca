import Derived.Test.YtpejdgkaapnekaaGreatJP22
import Derived.Test.YtpejdgkaapnekaaGreatJP24
import Derived.Test.YtpejdgkaapnekaaGreatJP21
import Derived.Test.YtpejdgkaapnekaaGreatJKZ
import Derived.Test.YtpejdgkaapnekaaGreatJP16
import Derived.Test.YtpejdgkaapnekaaGreatJP17
set_option linter.unusedVariables false
set_option linter.unusedSimpArgs false
set_option maxHeartbeats 1000000
namespace Go.Proofs.YtpejdgkaapnekaaGreat
open Go Go.Abs
attribute [local irreducible] aa OkC aq aC ax aS
set_option maxRecDepth 10000
def yU : Option Arr→D
 | none=>.nil
 | some a=>aj a.dims
def vB : Option Arr→D
 | none=>.nil
 | some a=>ai a.attrs
def vC : Option Arr→D
 | none=>.nil
 | some a=>ak a.cells
theorem kT{P : Program}{f : FuncId}{args : List AV}{r : Option Arr×Int}(h : CallA P f args [] (er r) []) : CallA P f args [] (.tup [(true,[.d (yU r.1),.d (vB r.1),.d (vC r.1)]),(false,[.d (.int .i64 r.2)])]) []:=by
 rcases r with ⟨_ | a,e⟩
 ·exact h
 ·exact h
theorem yV(r : Option Arr×Int) : CallA Tryz.prog 25 [.agg [.d (yU r.1),.d (vB r.1),.d (vC r.1)],.one (.d (.int .i64 r.2)),.agg [.d (yU r.1),.d (vB r.1),.d (vC r.1)],.one (.d (.int .i64 r.2))] [] (.one (.d (.bool true))) []:=by
 rcases r with ⟨_ | y,e⟩
 ·exact Gl e
 ·have h:=c25 (y.dims,y.attrs,y.cells) (y.dims,y.attrs,y.cells) e e
  rw [mz,show (e == e && true) = true by simp] at h
  exact h
theorem c19 : CallA Tryz.prog 19 [] [] (.one (.d (.bool true))) []:=Hj
set_option maxHeartbeats 8000000 in
theorem c15(a b : Arr)(n : List UInt8)(hs : nh a)(hsb : nh b) : CallA Tryz.prog 15 [aO a,aO b,.one (.d (.str n))] [] (.one (.d (.bool true))) []:=by
 by_cases hx : 200 < a.cells.length
 ·have hb1 : decide ((200 : Int) < ((a.cells.map af).length : Int)) = true:=by simp; omega
  unfold aO
  refine enter ag Tryz.func15 rfl (by decide +kernel) rfl fun hok w0 σ0 φ0 M=>?_
  clear hok
  repeat' (first|(refine h1H ?_; (refine h0H ?_; refine ab J J J J J J J J (c19) J ?_))|refine wG ?_)
  all_goals first
   | rfl
   | trace_state
 have hb1 : decide ((200 : Int) < ((a.cells.map af).length : Int)) = false:=by simp; omega
 by_cases hy : 200 < b.cells.length
 ·have hb2 : decide ((200 : Int) < ((b.cells.map af).length : Int)) = true:=by simp; omega
  unfold aO
  refine enter ag Tryz.func15 rfl (by decide +kernel) rfl fun hok w0 σ0 φ0 M=>?_
  clear hok
  repeat' (first|(refine h1H ?_; (refine h0H ?_; refine ab J J J J J J J J (c19) J ?_))|refine wG ?_)
  all_goals first
   | rfl
   | trace_state
 have hb2 : decide ((200 : Int) < ((b.cells.map af).length : Int)) = false:=by simp; omega
 have hf : a.cells.length + b.cells.length≤4096:=by omega
 unfold aO
 refine enter ag Tryz.func15 rfl (by decide +kernel) rfl fun hok w0 σ0 φ0 M=>?_
 clear hok
 repeat' (first|(refine h1H ?_; (refine h0H ?_; first|refine ab J J J J J J J J (c19) J ?_|refine ab J J J J J J J J (yV (dR a b n)) J ?_|refine ab J J J J J J J J (yV (c8 a b)) J ?_|refine ab J J J J J J J J (yV (cB a b)) J ?_|refine ab J J J J J J J J (yV (eU a b)) J ?_|refine ab J J J J J J J J (D5 a) J ?_|refine ab J J J J J J J J (D5 b) J ?_|refine bh 16 J J J J J J J J (kT (c34 a b n hf)) J J J ?_|refine bh 16 J J J J J J J J (kT (c53 a b n hf)) J J J ?_|refine bh 16 J J J J J J J J (kT (c54 a b)) J J J ?_|refine bh 16 J J J J J J J J (kT (c55 a b)) J J J ?_|refine bh 16 J J J J J J J J (kT (c56 a b)) J J J ?_|refine bh 16 J J J J J J J J (kT (c57 a b)) J J J ?_|refine bh 16 J J J J J J J J (kT (c47 a b hf)) J J J ?_|refine bh 16 J J J J J J J J (kT (c58 a b hf)) J J J ?_))|(refine h3H ?_; (refine h2H ?_; first|refine di 16 J J J J J J J J (c22 a hs) J J ?_|refine di 16 J J J J J J J J (c22 b hsb) J J ?_))|refine wG ?_)
 all_goals first
  | rfl
  | trace_state
end Go.Proofs.YtpejdgkaapnekaaGreat
namespace Go.Proofs.YtpejdgkaapnekaaGreat
open Go Go.Abs
open Go.ChangeShapes Go.WideShapes Go.ChangeAt Go.RowKit
set_option maxRecDepth 100000 in
theorem tb(H : Type)(en : TypeId×Value→H)(W : World)(base : Nat)(args : Array Value)(ds gs : List (DataW H))(before : List MemPlace)
  (hval : ∀ (j : Nat) t v,Tryz.f15.params[j]? = some t→args[j]? = some v→Value.okWide Tryz.prog W .any base t v)
  (hW : DataW.Whole en Tryz.prog Tryz.f15.params.toList Rows.algebraTwosSpec.vars false W args.toList ds gs before) (hk : Rows.uptoSmall H (ds ++ gs) = true) :
  Calls Tryz.prog 15 args W fun e W'=>∃ v,e = .returned v∧Rows.algebraTwosSpec.post en Tryz.prog Tryz.f15 false true false false W args v W':=by
 have hW':=hW
 obtain ⟨p,q,hA0,hV,rfl,hfz,hnd⟩:=hW
 have hA : DataW.TrodAll en Tryz.prog W 0 (fun _=>true) true Tryz.f15.params.toList args.toList ds p:=hA0
 rw [Tryz.params15] at hA hval
 obtain ⟨v0,vs0,d0,ds0,p0,q0,hargs,rfl,rfl,h0,r0⟩:=trodAll_cons hA
 obtain ⟨v1,vs1,d1,ds1,p1,q1,rfl,rfl,rfl,h1,r1⟩:=trodAll_cons r0
 obtain ⟨v2,vs2,d2,ds2,p2,q2,rfl,rfl,rfl,h2,r2⟩:=trodAll_cons r1
 obtain ⟨rfl,rfl,rfl⟩:=trodAll_nil r2
 obtain rfl : args = #[v0,v1,v2]:=by cases args; simp_all
 obtain ⟨rfl,rfl⟩:=trodVars_none hV
 obtain ⟨cs0,rfl⟩:=qi Tryz.underlying26 (hval 0 26 v0 rfl rfl)
 obtain ⟨cs1,rfl⟩:=qi Tryz.underlying26 (hval 1 26 v1 rfl rfl)
 obtain ⟨s2,rfl⟩:=okWide_string Tryz.underlying9 (hval 2 9 v2 rfl rfl)
 have hbk : (Rows.uptoBulk d0 + (Rows.uptoBulk d1 + (Rows.uptoBulk d2)))≤1048576:=by
  simpa [Rows.uptoSmall,Rows.uptoBulkAll] using hk
 obtain ⟨f0,h0⟩:=h0
 obtain ⟨f1,h1⟩:=h1
 obtain ⟨f2,h2⟩:=h2
 obtain ⟨a0,hl0,ha0⟩:=zG (N:=1048571) (by omega) f0 _ _ h0 (by show Rows.uptoBulk d0≤_; omega)
 obtain ⟨a1,hl1,ha1⟩:=zG (N:=1048571) (by omega) f1 _ _ h1 (by show Rows.uptoBulk d1≤_; omega)
 obtain ⟨a2,hl2,ha2⟩:=qj (N:=1048576) (by omega) Tryz.underlying9 f2 _ _ h2 (by show Rows.uptoBulk d2≤_; omega)
 refine ((c15 a0 a1 a2 (sj hl0) (sj hl1)).run W (sg W) (fun _=>none) [.agg cs0.toArray,.agg cs1.toArray,.string s2] (DX _) ⟨⟨cs0,rfl,jX ha0⟩,⟨cs1,rfl,jX ha1⟩,RepC.d ha2.1,trivial⟩).mono fun e W' ⟨v,σ',φ',he,hret⟩=>?_
 subst he
 have hv : v = .bool true:=by
  have h2:=RepC.d_inv hret.rep
  cases h2; rfl
 subst hv
 have hsame : ∀ p∈p0 ++ (p1 ++ (p2 ++ [])),W.sameAt W' p:=fun p hp=>Bn hret.kept (hW'.lt p (by simpa using hp))
 have hAk:=uf hA0 hsame
 exact ⟨_,rfl,_,_,_,[],_,[],hW',trodAll_mk1 (Bo true),DataW.TrodAll.respare FI FJ (by
   rw [Tryz.params15]
   intro t ht
   have ht' : t = 26∨t = 26∨t = 9:=by simpa using ht
   rcases ht' with rfl | rfl | rfl <;> exact few (by omega)) hAk (fun p hp=>by
    have:=hW'.lt p (by simpa using hp)
    simpa using this),rfl,CT hret.kept _,fun h=>by cases h⟩
end Go.Proofs.YtpejdgkaapnekaaGreat
