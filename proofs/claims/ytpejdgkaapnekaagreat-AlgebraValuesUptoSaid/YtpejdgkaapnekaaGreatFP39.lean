import Derived.Test.YtpejdgkaapnekaaGreatFP38
import Derived.Test.YtpejdgkaapnekaaGreatFP17
import Derived.Test.YtpejdgkaapnekaaGreatFP35
set_option linter.unusedVariables false
set_option linter.unusedSimpArgs false
set_option linter.unnecessarySimpa false
set_option maxHeartbeats 1000000
namespace Go.Proofs.YtpejdgkaapnekaaGreat
open Go Go.Abs
attribute [local irreducible] ao OkC aU bg aV bA
set_option maxRecDepth 10000
theorem wC{ds : List Dim}{ats : List Attr}{at' : List Int}{vs : List Val} : ∀ {l : List Scalar} {k : Nat},k < l.length→at_ (gB ds ats at' vs l) k = js ds ats at' vs (at_ l k)
 | [],k,h=>by simp at h
 | x::r,0,h=>rfl
 | x::r,k + 1,h=>wC (l:=r) (k:=k) (by simpa using h)
theorem BS{s x z : Scalar}(hx : x∈s.args)(hz : z∈bB x) : z∈bB s:=by
 rw [dX,List.mem_append]
 refine .inl ?_
 have : ∀ {r : List Scalar},x∈r→z∈bt r:=by
  intro r
  induction r with
  | nil=>intro h; simp at h
  | cons y r ihr =>
    intro h
    simp only [bt,List.mem_append]
    rcases List.mem_cons.1 h with rfl | h
    ·exact .inl hz
    ·exact .inr (ihr h)
 exact this hx
theorem Il(op : Int)(l : List Val)(xs : List (List D))(hx : xs = l.map aj)(hop : 4≤op∧op≤22)(hl : (l.length : Int) = dN op) : CallA Tryz.prog 187 [.one (.d (.int .i64 op)),.one (.d (.sl 4 40 xs))] [] (cV (doF op l)) []:=by
 subst hx; exact J0 op l hop hl
theorem Fh{l : List Val}{n : Nat}{r : List (List D)}(hr : r = (l.take n).map aj)(hn : n≤l.length)(h : l.length≤n) : r.take n = l.map aj:=by
 have e : n = l.length:=by omega
 subst e
 rw [hr,List.take_length,List.take_of_length_le (by simp)]
set_option maxHeartbeats 4000000 in
theorem J2(ds : List Dim)(ats : List Attr)(cs : D)(s : Scalar)(at' : List Int)(vs : List Val)(hat : at'.length = ds.length)(hvs : vs.length = ats.length) : dq s = true→(∀ z∈bB s,oS ds ats z)→CallA Tryz.prog 103 [.agg [.d (bZ ds),.d (bT ats),.d cs],du s,.agg [.d (bI at'),.d (bf vs)]] [] (bD (js ds ats at' vs s)) []:=by
 induction s using Scalar.ind with
 | h s ih =>
   intro hp hn
   rw [fU,Bool.and_eq_true] at hp
   have hps:=f6 hp.2
   have hns : oS ds ats s:=hn s (by rw [dX]; simp)
   rw [tp]
   refine enter ab Tryz.func103 rfl (by decide +kernel) rfl fun hok w0 σ0 φ0 M=>?_
   have hsa : s.args.length < 281474976710656:=by
    have:=(OkD.sl (hok.2.1 (.d (dn s.args)) (by simp))).1; simpa [dn] using this
   clear hok
   by_cases h1 : s.op = 1
   ·have hb1 : (s.op == 1) = true:=by simp [h1]
    rw [if_pos h1]
    repeat' (first|(refine h6H ?_; first|refine ac ?_|refine ah ab J J J J J ?_|(refine bC ?_; first|refine aM 0 J J J J J J ?_|refine aM 1 J J J J J J ?_|refine aM 2 J J J J J J ?_)|(refine h5H ?_; refine ax ab 3 J J J J J ?_)|refine aI aa J J J ?_)|(refine h7H ?_; first|refine al ?_|refine ae ?_|refine ay ?_|refine am ?_|refine bv J (by assumption) ?_)|refine ak ?_|refine aC ?_|refine aP ?_|refine ai (.inl J) J J ?_)
    all_goals first | rfl | skip
   have hb1 : (s.op == 1) = false:=by simp [h1]
   rw [if_neg h1]
   by_cases h2 : s.op = 2
   ·have hb2 : (s.op == 2) = true:=by simp [h2]
    rw [if_pos h2]
    obtain ⟨hr1,hr2⟩:=fx (p:=fun a : Attr=>a.name == s.name) (l:=ats) (k:=0) (hns.1 h2)
    repeat' (first|(refine h6H ?_; first|refine ac ?_|refine ah ab J J J J J ?_|(refine bC ?_; first|refine aM 0 J J J J J J ?_|refine aM 1 J J J J J J ?_|refine aM 2 J J J J J J ?_)|(refine h5H ?_; refine ax ab 3 J J J J J ?_))|(refine h7H ?_; first|refine al ?_|refine ae ?_|refine ay ?_|refine am ?_|refine bv J (by assumption) ?_|refine aZ J (by assumption) ?_|refine aR progOk.mo ?_)|(refine bP ?_; first|refine bG (by kernel_rfl) ?_|refine d_e aa J J J (aK J J) ?_|(refine h8H ?_; refine d_e aa J J J (ar J J J J J (by omega) (aJ (by omega))) ?_)|(refine h9H ?_; refine d_l J J (bj J J J J J J (C9 _ _) J) ?_)|refine ca aa J J J ?_)|refine ak ?_|refine aC ?_|refine aP ?_|refine ai (.inl J) J J ?_)
    all_goals first | rfl | skip
   have hb2 : (s.op == 2) = false:=by simp [h2]
   rw [if_neg h2]
   by_cases h3 : s.op = 3
   ·have hb3 : (s.op == 3) = true:=by simp [h3]
    rw [if_pos h3]
    obtain ⟨hr1,hr2⟩:=fx (p:=fun a : Dim=>a.name == s.name) (l:=ds) (k:=0) (hns.2 h3)
    repeat' (first|(refine h6H ?_; first|refine ac ?_|refine ah ab J J J J J ?_|(refine bC ?_; first|refine aM 0 J J J J J J ?_|refine aM 1 J J J J J J ?_|refine aM 2 J J J J J J ?_)|(refine h5H ?_; refine ax ab 3 J J J J J ?_))|(refine h7H ?_; first|refine al ?_|refine ae ?_|refine ay ?_|refine am ?_|refine bv J (by assumption) ?_|refine aZ J (by assumption) ?_|refine aR progOk.mo ?_)|(refine bP ?_; first|refine bG (by kernel_rfl) ?_|refine d_e aa J J J (aK J J) ?_|(refine h8H ?_; refine d_e aa J J J (ar J J J J J (by omega) (aJ (by omega))) ?_)|(refine h9H ?_; refine d_l J J (bj J J J J J J (Dh _ _) J) ?_)|refine ca aa J J J ?_)|refine ak ?_|refine aC ?_|refine aP ?_|refine ai (.inl J) J J ?_)
    all_goals first | rfl | skip
   have hb3 : (s.op == 3) = false:=by simp [h3]
   rw [if_neg h3]
   obtain ⟨hop,hal⟩:=iW hp.1 h1 h2 h3
   have h3a : s.args.length≤3:=by
    have : dN s.op≤3:=by unfold dN; split <;> (try split) <;> (try split) <;> omega
    omega
   repeat' (first|(refine h6H ?_; first|(refine h4H ?_; refine dL 40 [10] J J J J J J J J J (Il s.op (gB ds ats at' vs s.args) _ (Fh hr (by rw [i5]; exact hk) (by rw [i5]; simpa using h)) hop (by rw [i5]; exact hal)) J J J ?_)|refine ac ?_|refine ah ab J J J J J ?_|(refine h1H ?_; refine s_e aa J J J (aL J J J J (aN (by omega) (by omega))) ?_)|(refine bC ?_; first|refine aM 0 J J J J J J ?_|refine aM 1 J J J J J J ?_|refine aM 2 J J J J J J ?_)|(refine h5H ?_; first|refine ax ab 3 J J J J J ?_|refine ax ab 4 J J J J J ?_)|refine aI aa J J J ?_)|(refine h7H ?_; first|refine al ?_|refine ae ?_|refine ay ?_|refine aw ?_|refine am ?_|refine aW ?_|refine aZ J (by assumption) ?_|refine aA J (fun h=>?_) (fun h=>?_)|refine aR progOk.mo ?_|refine sU 10 J (lF (s:=7) (id:=10) (k:=4) (b:=40) J J J J) [(3,_),(4,_),(5,_),(6,_)] (q4Q J J J J) (fun (bN : Bool×Bool) (p : Nat×List (List D))=>[(7,.one (.own (nmA bN) p.1)),(8,.one (.d (.int .i64 (p.1 : Int))))]) (fun (bN : Bool×Bool) (p : Nat×List (List D))=>[((nmA bN),.row 4 40 p.2),(0,.box [.d (bZ ds),.d (bT ats),.d cs]),(1,.box [.d (.int .i64 s.op),.d (.str s.name),.d (.int .i64 s.val.kind),.d (.int .i64 s.val.num),.d (.int .i64 s.val.den),.d (.str s.val.str),.d (dn s.args)]),(2,.box [.d (bI at'),.d (bf vs)]),(3,.box [.d (.int .i64 0),.d (.int .i64 0),.d (.int .i64 0),.d (.str [])])]) (fun (p : Nat×List (List D))=>p.1≤s.args.length∧p.2 = ((gB ds ats at' vs s.args).take p.1).map aj) (fun (p : Nat×List (List D))=>s.args.length - p.1) (0,[]) (q2Q J J) (by (repeat' first|exact ap|refine af J ?_); done) (fun b y=>by obtain ⟨b1,b2⟩:=b; cases b1 <;> cases b2 <;> first|exact Imp.refl _|exact sS qN (by kernel_rfl)) ?_ (fun p ⟨hk,hr⟩=>?_))|(refine bP ?_; first|(refine h9H ?_; refine j4 aa 11 J J J (kz (i:=10) J J J J J J J J (by first|omega|((try simp only [a0A,a1A,a5A,nI,nJ,oM,oN,oO,nC] at *); omega)) (by first|exact Nat.le_of_ble_eq_true rfl|omega|((try simp only [a0A,a1A,a5A,nI,nJ,oM,oN,oO,nC] at *); omega)) (Nat.le_of_ble_eq_true J)) J J ?_)|refine bG (by kernel_rfl) ?_|refine d_e aa J J J (aK J J) ?_|(refine h8H ?_; refine d_e aa J J J (ar J J J J J (by first|omega|((try simp only [a0A,a1A,a2A,a3A,a4A,a5A,a6A,a7A,a8A,a9A,au,av] at *); omega)) (jQ (by first|omega|((try simp only [a0A,a1A,a2A,a3A,a4A,a5A,a6A,a7A,a8A,a9A,au,av] at *); omega)))) ?_)|(refine h9H ?_; refine d_l J J (bj J J J J J J (ih (at_ s.args p.1) (ea (by first|omega|((try simp only [a0A,a1A,a2A,a3A,a4A,a5A,a6A,a7A,a8A,a9A,au,av] at *); omega))) (hps _ (ea (by first|omega|((try simp only [a0A,a1A,a2A,a3A,a4A,a5A,a6A,a7A,a8A,a9A,au,av] at *); omega)))) (fun z hz=>hn z (BS (ea (by first|omega|((try simp only [a0A,a1A,a2A,a3A,a4A,a5A,a6A,a7A,a8A,a9A,au,av] at *); omega))) hz))) J) ?_)|refine j4 aa 4 J J J J J J ?_)|(show Exists _; refine Exists.intro ((p.1 + 1,p.2.take p.1 ++ [aj (js ds ats at' vs (at_ s.args p.1))])) (Exists.intro (true,false) ⟨?_,?_,(by (repeat' first|exact ap|refine af J ?_); done),(q2Q J J),(q4Q J J J J)⟩))|refine ak ?_|refine bd ?_|refine aG ?_|refine aX J ?_|refine ai (.inl J) J J ?_)
   ·exact ⟨Nat.zero_le _,rfl⟩
   ·have hlt : p.1 < s.args.length:=by simpa using h
    refine ⟨hlt,?_⟩
    have this:=Fi aj (gB ds ats at' vs s.args) hr (by rw [i5]; exact hlt)
    rw [wC hlt] at this
    exact this
   ·have hlt : p.1 < s.args.length:=by simpa using h
    show s.args.length - (p.1 + 1) < s.args.length - p.1
    omega
   ·rfl
theorem EB(ds : List Dim)(ats : List Attr)(at' : List Int)(vs : List Val)(e : Int)(h : dd ds ats at' vs = e) : CallA Tryz.prog 131 [.one (.d (bZ ds)),.one (.d (bT ats)),.agg [.d (bI at'),.d (bf vs)]] [] (.one (.d (.int .i64 e))) []:=by
 subst h; exact Ga ds ats at' vs
theorem c39(ds : List Dim)(ats : List Attr)(cs : List Cell)(s : Scalar)(at' : List Int)(vs : List Val) : CallA Tryz.prog 39 [.agg [.d (bZ ds),.d (bT ats),.d (fu cs)],du s,.agg [.d (bI at'),.d (bf vs)]] [] (cV (rV ds ats cs s at' vs)) []:=by
 unfold rV
 refine enter ab Tryz.func39 rfl (by decide +kernel) rfl fun hok w0 σ0 φ0 M=>?_
 clear hok
 by_cases ht : (df ds ats cs s).2 = 0
 ·have hb1 : ((df ds ats cs s).2 != 0) = false:=by simp [ht]
  obtain ⟨hck,hp,hsz,hn⟩:=yO ht
  rw [if_neg (by simpa using ht)]
  obtain ⟨ce,hce⟩ : ∃ x,dd ds ats at' vs = x:=⟨_,rfl⟩
  rw [hce]
  by_cases hc : ce = 0
  ·have hb2 : (ce != 0) = false:=by simp [hc]
   have hl:=wD (hce.trans hc)
   rw [if_neg (by simpa using hc)]
   repeat' (first|(refine h6H ?_; first|refine ac ?_|refine ah ab J J J J J ?_|(refine h4H ?_; first|refine ag J J J J J J J J (c21 _ _ _ _) J ?_|refine ag J J J J J J J J (J2 _ _ _ _ _ _ hl.1 hl.2 hp hn) J ?_|refine ag J J J J J J J J (EB _ _ _ _ _ hce) J ?_)|(refine bC ?_; first|refine aM 0 J J J J J J ?_|refine aM 1 J J J J J J ?_|refine aM 2 J J J J J J ?_)|(refine h5H ?_; refine ax ab 3 J J J J J ?_)|refine aI aa J J J ?_)|(refine h7H ?_; first|refine al ?_|refine ae ?_|refine aw ?_|refine am ?_|refine aZ J (by assumption) ?_)|refine ak ?_|refine ai (.inl J) J J ?_)
   all_goals first | rfl | skip
  ·have hb2 : (ce != 0) = true:=by simp [hc]
   rw [if_pos hc]
   repeat' (first|(refine h6H ?_; first|refine ac ?_|refine ah ab J J J J J ?_|(refine h4H ?_; first|refine ag J J J J J J J J (c21 _ _ _ _) J ?_|refine ag J J J J J J J J (EB _ _ _ _ _ hce) J ?_)|(refine bC ?_; first|refine aM 0 J J J J J J ?_|refine aM 1 J J J J J J ?_|refine aM 2 J J J J J J ?_)|(refine h5H ?_; refine ax ab 3 J J J J J ?_)|refine aI aa J J J ?_)|(refine h7H ?_; first|refine al ?_|refine ae ?_|refine aw ?_|refine am ?_|refine bv J (by assumption) ?_|refine aZ J (by assumption) ?_)|refine ak ?_|refine aC ?_|refine ai (.inl J) J J ?_)
   all_goals first | rfl | skip
 ·have hb1 : ((df ds ats cs s).2 != 0) = true:=by simp [ht]
  rw [if_pos ht]
  repeat' (first|(refine h6H ?_; first|refine ac ?_|refine ah ab J J J J J ?_|(refine h4H ?_; refine ag J J J J J J J J (c21 _ _ _ _) J ?_)|(refine bC ?_; first|refine aM 0 J J J J J J ?_|refine aM 1 J J J J J J ?_|refine aM 2 J J J J J J ?_)|(refine h5H ?_; refine ax ab 3 J J J J J ?_)|refine aI aa J J J ?_)|(refine h7H ?_; first|refine al ?_|refine ae ?_|refine am ?_|refine bv J (by assumption) ?_)|refine ak ?_|refine aC ?_|refine ai (.inl J) J J ?_)
  all_goals first | rfl | skip
end Go.Proofs.YtpejdgkaapnekaaGreat
namespace Go.Proofs.YtpejdgkaapnekaaGreat
open Go Go.Abs
attribute [local irreducible] ao OkC aU bg aV bA
set_option maxRecDepth 10000
theorem c9(ds : List Dim)(ats : List Attr)(cs : List Cell)(s : Scalar)(at' : List Int)(vs : List Val) : CallA Tryz.prog 9 [.agg [.d (bZ ds),.d (bT ats),.d (fu cs)],du s,.agg [.d (bI at'),.d (bf vs)]] [] (.one (.d (.bool true))) []:=by
 refine enter ab Tryz.func9 rfl (by decide +kernel) rfl fun hok w0 σ0 φ0 M=>?_
 clear hok
 by_cases hm : (300 : Int) < cs.length
 ·have hb : decide ((300 : Int) < ((cs.map kU).length : Int)) = true:=by simpa using hm
  repeat' (first|(refine h6H ?_; first|refine ac ?_|refine ah ab J J J J J ?_|(refine h4H ?_; refine ag J J J J J J J J (c19) J ?_)|(refine bC ?_; first|refine aM 0 J J J J J J ?_|refine aM 1 J J J J J J ?_|refine aM 2 J J J J J J ?_))|(refine h7H ?_; first|refine al ?_|refine ae ?_|refine am ?_|refine bv J (by assumption) ?_)|refine ak ?_|refine aC ?_|refine ai (.inl J) J J ?_)
  all_goals first | rfl | (exfalso; revert h; simp [dt,eqD]) | skip
 have hb : decide ((300 : Int) < ((cs.map kU).length : Int)) = false:=by simpa using hm
 repeat' (first|(refine h6H ?_; first|refine ac ?_|refine ah ab J J J J J ?_|(refine h0H ?_; first|refine aT J J (by first|assumption|rfl) ?_|refine bH J J (by first|assumption|rfl) J J ?_|refine bn J J J J (fun h=>?_) (fun h=>?_))|(refine h2H ?_; first|refine s_e aa J J J (aF J J (by first|rfl|assumption) J) ?_|refine s_e aa J J J (az J J (by first|rfl|assumption) J) ?_)|(refine h4H ?_; first|refine ag J J J J J J J J (c19) J ?_|refine ag J J J J J J J J (c38 _ _ _ _ _ _) J ?_|refine ag J J J J J J J J (c39 _ _ _ _ _ _) J ?_)|(refine bC ?_; first|refine aM 0 J J J J J J ?_|refine aM 1 J J J J J J ?_|refine aM 2 J J J J J J ?_)|(refine h5H ?_; first|refine ax ab 3 J J J J J ?_|refine ax ab 4 J J J J J ?_)|refine aI aa J J J ?_|refine s_e aa J J J J ?_)|(refine h7H ?_; first|refine al ?_|refine ae ?_|refine aw ?_|refine am ?_|refine aZ J (by assumption) ?_)|refine ak ?_|refine ai (.inl J) J J ?_)
 all_goals first | rfl | (exfalso; revert h; simp [dt,eqD]) | skip
end Go.Proofs.YtpejdgkaapnekaaGreat

namespace Go.Proofs.YtpejdgkaapnekaaGreat
open Go Go.Abs
open Go.ChangeShapes Go.WideShapes Go.ChangeAt Go.RowKit
set_option maxRecDepth 100000 in
theorem sr(H : Type)(en : TypeId×Value→H)(W : World)(base : Nat)(args : Array Value)(ds gs : List (DataW H))(before : List MemPlace)
  (hval : ∀ (j : Nat) t v,Tryz.f9.params[j]? = some t→args[j]? = some v→Value.okWide Tryz.prog W .any base t v)
  (hW : DataW.Whole en Tryz.prog Tryz.f9.params.toList Rows.algebraValuesSpec.vars false W args.toList ds gs before) (hk : Rows.uptoSmall H (ds ++ gs) = true) :
  Calls Tryz.prog 9 args W fun e W'=>∃ v,e = .returned v∧Rows.algebraValuesSpec.post en Tryz.prog Tryz.f9 false true false false W args v W':=by
 have hW':=hW
 obtain ⟨p,q,hA0,hV,rfl,hfz,hnd⟩:=hW
 have hA : DataW.TrodAll en Tryz.prog W 0 (fun _=>true) true Tryz.f9.params.toList args.toList ds p:=hA0
 rw [Tryz.params9] at hA hval
 obtain ⟨v0,vs0,d0,ds0,p0,q0,hargs,rfl,rfl,h0,r0⟩:=trodAll_cons hA
 obtain ⟨v1,vs1,d1,ds1,p1,q1,rfl,rfl,rfl,h1,r1⟩:=trodAll_cons r0
 obtain ⟨v2,vs2,d2,ds2,p2,q2,rfl,rfl,rfl,h2,r2⟩:=trodAll_cons r1
 obtain ⟨rfl,rfl,rfl⟩:=trodAll_nil r2
 obtain rfl : args = #[v0,v1,v2]:=by cases args; simp_all
 obtain ⟨rfl,rfl⟩:=trodVars_none hV
 obtain ⟨cs0,rfl⟩:=nZ Tryz.underlying26 (hval 0 26 v0 rfl rfl)
 obtain ⟨cs1,rfl⟩:=nZ Tryz.underlying31 (hval 1 31 v1 rfl rfl)
 obtain ⟨cs2,rfl⟩:=nZ Tryz.underlying56 (hval 2 56 v2 rfl rfl)
 have hbk : (Rows.uptoBulk d0 + (Rows.uptoBulk d1 + (Rows.uptoBulk d2)))≤1048576:=by
  simpa [Rows.uptoSmall,Rows.uptoBulkAll] using hk
 obtain ⟨f0,h0⟩:=h0
 obtain ⟨f1,h1⟩:=h1
 obtain ⟨f2,h2⟩:=h2
 obtain ⟨a0,hl0,ha0⟩:=Hp (N:=1048571) (by omega) f0 _ _ h0 (by show Rows.uptoBulk d0≤_; omega)
 obtain ⟨a1,hl1,ha1⟩:=Ca 1048576 (by omega) f1 _ _ h1 (by show Rows.uptoBulk d1≤_; omega)
 rw [tB] at ha1
 obtain ⟨a2,hl2,ha2⟩:=zd (N:=1048573) (by omega) f2 _ _ h2 (by show Rows.uptoBulk d2≤_; omega)
 refine ((c9 a0.dims a0.attrs a0.cells a1 a2.at' a2.vals).run W (sg W) (fun _=>none) [.agg cs0.toArray,.agg cs1.toArray,.agg cs2.toArray] (Hn _) ⟨⟨cs0,rfl,mA ha0⟩,⟨cs1,rfl,mA ha1⟩,⟨cs2,rfl,mA ha2⟩,trivial⟩).mono fun e W' ⟨v,σ',φ',he,hret⟩=>?_
 subst he
 have hv : v = .bool true:=by
  have h2:=RepC.d_inv hret.rep
  cases h2; rfl
 subst hv
 have hsame : ∀ p∈p0 ++ (p1 ++ (p2 ++ [])),W.sameAt W' p:=fun p hp=>DP hret.kept (hW'.lt p (by simpa using hp))
 have hAk:=wZ hA0 hsame
 exact ⟨_,rfl,_,_,_,[],_,[],hW',trodAll_mk1 (DQ true),DataW.TrodAll.respare LH LJ (by
   rw [Tryz.params9]
   intro t ht
   have ht' : t = 26∨t = 31∨t = 56:=by simpa using ht
   rcases ht' with rfl | rfl | rfl <;> exact few (by omega)) hAk (fun p hp=>by
    have:=hW'.lt p (by simpa using hp)
    simpa using this),rfl,Fx hret.kept _,fun h=>by cases h⟩
end Go.Proofs.YtpejdgkaapnekaaGreat
