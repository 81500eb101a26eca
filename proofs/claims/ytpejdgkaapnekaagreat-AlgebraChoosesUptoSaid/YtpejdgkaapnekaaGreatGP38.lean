import Derived.Test.YtpejdgkaapnekaaGreatGP37
import Derived.Test.YtpejdgkaapnekaaGreatGP18
import Derived.Test.YtpejdgkaapnekaaGreatGP35
import Derived.Test.YtpejdgkaapnekaaGreatGP21
import Derived.Test.YtpejdgkaapnekaaGreatGP26
import Derived.Test.YtpejdgkaapnekaaGreatGP16
import Derived.Test.YtpejdgkaapnekaaGreatGP15
import Derived.Test.YtpejdgkaapnekaaGreatGP19
import Derived.Test.YtpejdgkaapnekaaGreatGP17
set_option linter.unusedVariables false
set_option linter.unusedSimpArgs false
set_option linter.unnecessarySimpa false
set_option maxHeartbeats 1000000
namespace Go.Proofs.YtpejdgkaapnekaaGreat
open Go Go.Abs
attribute [local irreducible] ac OkC ao ax ap aJ
set_option maxRecDepth 10000
theorem yn{ds : List Dim}{ats : List Attr}{at' : List Int}{vs : List Val} : ∀ {l : List Scalar} {k : Nat},k < l.length→at_ (gC ds ats at' vs l) k = dW ds ats at' vs (at_ l k)
 | [],k,h=>by simp at h
 | x::r,0,h=>rfl
 | x::r,k + 1,h=>yn (l:=r) (k:=k) (by simpa using h)
theorem Eb{s x z : Scalar}(hx : x∈s.args)(hz : z∈aS x) : z∈aS s:=by
 rw [dB,List.mem_append]
 refine .inl ?_
 have : ∀ {r : List Scalar},x∈r→z∈aO r:=by
  intro r
  induction r with
  | nil=>intro h; simp at h
  | cons y r ihr =>
    intro h
    simp only [aO,List.mem_append]
    rcases List.mem_cons.1 h with rfl | h
    ·exact .inl hz
    ·exact .inr (ihr h)
 exact this hx
theorem Lr(op : Int)(l : List Val)(xs : List (List D))(hx : xs = l.map ab)(hop : 4≤op∧op≤22)(hl : (l.length : Int) = dq op) : CallA Tryz.prog 187 [.one (.d (.int .i64 op)),.one (.d (.sl 4 40 xs))] [] (cI (doF op l)) []:=by
 subst hx; exact N3 op l hop hl
theorem HS{l : List Val}{n : Nat}{r : List (List D)}(hr : r = (l.take n).map ab)(hn : n≤l.length)(h : l.length≤n) : r.take n = l.map ab:=by
 have e : n = l.length:=by omega
 subst e
 rw [hr,List.take_length,List.take_of_length_le (by simp)]
set_option maxHeartbeats 4000000 in
theorem N5(ds : List Dim)(ats : List Attr)(cs : D)(s : Scalar)(at' : List Int)(vs : List Val)(hat : at'.length = ds.length)(hvs : vs.length = ats.length) : cW s = true→(∀ z∈aS s,pI ds ats z)→CallA Tryz.prog 103 [.agg [.d (aH ds),.d (aF ats),.d cs],cY s,.agg [.d (aL at'),.d (az vs)]] [] (aW (dW ds ats at' vs s)) []:=by
 induction s using Scalar.ind with
 | h s ih =>
   intro hp hn
   rw [eV,Bool.and_eq_true] at hp
   have hps:=fV hp.2
   have hns : pI ds ats s:=hn s (by rw [dB]; simp)
   rw [qH]
   refine enter ae Tryz.func103 rfl (by decide +kernel) rfl fun hok w0 σ0 φ0 M=>?_
   have hsa : s.args.length < 281474976710656:=by
    have:=(OkD.sl (hok.2.1 (.d (cu s.args)) (by simp))).1; simpa [cu] using this
   clear hok
   by_cases h1 : s.op = 1
   ·have hb1 : (s.op == 1) = true:=by simp [h1]
    rw [if_pos h1]
    repeat' (first|refine wG ?_)
    all_goals first | rfl | skip
   have hb1 : (s.op == 1) = false:=by simp [h1]
   rw [if_neg h1]
   by_cases h2 : s.op = 2
   ·have hb2 : (s.op == 2) = true:=by simp [h2]
    rw [if_pos h2]
    obtain ⟨hr1,hr2⟩:=fh (p:=fun a : Attr=>a.name == s.name) (l:=ats) (k:=0) (hns.1 h2)
    repeat' (first|(refine h3H ?_; (refine h2H ?_; refine d_l J J (aA J J J J J J (FG _ _) J) ?_))|refine wG ?_)
    all_goals first | rfl | skip
   have hb2 : (s.op == 2) = false:=by simp [h2]
   rw [if_neg h2]
   by_cases h3 : s.op = 3
   ·have hb3 : (s.op == 3) = true:=by simp [h3]
    rw [if_pos h3]
    obtain ⟨hr1,hr2⟩:=fh (p:=fun a : Dim=>a.name == s.name) (l:=ds) (k:=0) (hns.2 h3)
    repeat' (first|(refine h3H ?_; (refine h2H ?_; refine d_l J J (aA J J J J J J (FH _ _) J) ?_))|refine wG ?_)
    all_goals first | rfl | skip
   have hb3 : (s.op == 3) = false:=by simp [h3]
   rw [if_neg h3]
   obtain ⟨hop,hal⟩:=jl hp.1 h1 h2 h3
   have h3a : s.args.length≤3:=by
    have : dq s.op≤3:=by unfold dq; split <;> (try split) <;> (try split) <;> omega
    omega
   repeat' (first|(refine h1H ?_; (refine h0H ?_; refine cS 40 [10] J J J J J J J J J (Lr s.op (gC ds ats at' vs s.args) _ (HS hr (by rw [jp]; exact hk) (by rw [jp]; simpa using h)) hop (by rw [jp]; exact hal)) J J J ?_))|(refine h3H ?_; (refine h2H ?_; refine d_l J J (aA J J J J J J (ih (at_ s.args p.1) (bM wB) (hps _ (bM wB)) (fun z hz=>hn z (Eb (bM wB) hz))) J) ?_))|refine wG ?_|(refine h4H ?_; first|refine ag J (fun h=>?_) (fun h=>?_)|refine fy 10 J (ee (s:=7) (id:=10) (k:=4) (b:=40) J J J J) [(3,_),(4,_),(5,_),(6,_)] (q4Q J J J J) (fun (bN : Bool×Bool) (p : Nat×List (List D))=>[(7,.one (.own (nmA bN) p.1)),(8,.one (.d (.int .i64 (p.1 : Int))))]) (fun (bN : Bool×Bool) (p : Nat×List (List D))=>[((nmA bN),.row 4 40 p.2),(0,.box [.d (aH ds),.d (aF ats),.d cs]),(1,.box [.d (.int .i64 s.op),.d (.str s.name),.d (.int .i64 s.val.kind),.d (.int .i64 s.val.num),.d (.int .i64 s.val.den),.d (.str s.val.str),.d (cu s.args)]),(2,.box [.d (aL at'),.d (az vs)]),(3,.box [.d (.int .i64 0),.d (.int .i64 0),.d (.int .i64 0),.d (.str [])])]) (fun (p : Nat×List (List D))=>p.1≤s.args.length∧p.2 = ((gC ds ats at' vs s.args).take p.1).map ab) (fun (p : Nat×List (List D))=>s.args.length - p.1) (0,[]) (q2Q J J) wK (fun b y=>by obtain ⟨b1,b2⟩:=b; cases b1 <;> cases b2 <;> first|exact Imp.refl _|exact fz qN (by kernel_rfl)) ?_ (fun p ⟨hk,hr⟩=>?_))|(show Exists _; refine Exists.intro ((p.1 + 1,p.2.take p.1 ++ [ab (dW ds ats at' vs (at_ s.args p.1))])) (Exists.intro (true,false) ⟨?_,?_,wK,(q2Q J J),(q4Q J J J J)⟩)))
   ·exact ⟨Nat.zero_le _,rfl⟩
   ·have hlt : p.1 < s.args.length:=by simpa using h
    refine ⟨hlt,?_⟩
    have this:=HT ab (gC ds ats at' vs s.args) hr (by rw [jp]; exact hlt)
    rw [yn hlt] at this
    exact this
   ·have hlt : p.1 < s.args.length:=by simpa using h
    show s.args.length - (p.1 + 1) < s.args.length - p.1
    omega
   ·rfl
end Go.Proofs.YtpejdgkaapnekaaGreat
namespace Go.Proofs.YtpejdgkaapnekaaGreat
open Go Go.Abs
def dC(c : Cell) : List Cell→List Cell
 | []=>[c]
 | x::r=>if bc x.at' c.at' < 0 then x::dC c r else if bc x.at' c.at' = 0 then c::r else c::x::r
end Go.Proofs.YtpejdgkaapnekaaGreat
namespace Go.Proofs.YtpejdgkaapnekaaGreat
open Go Go.Abs
attribute [local irreducible] ac OkC ao ax ap aJ
set_option maxRecDepth 10000
def b7 : List Cell→List Cell→List Cell
 | [],b=>b
 | x::a,[]=>x::a
 | x::a,y::b=>if bc y.at' x.at' < 0 then y::b7 (x::a) b else x::b7 a (y::b)
 termination_by a b=>a.length + b.length
theorem merge_perm : ∀ {a b : List Cell},(b7 a b).Perm (a ++ b)
 | [],b=>by simp [b7]
 | x::a,[]=>by simp [b7]
 | x::a,y::b=>by
   rw [b7]
   split
   ·exact ((merge_perm (a:=x::a) (b:=b)).cons y).trans List.perm_middle.symm
   ·exact (merge_perm (a:=a) (b:=y::b)).cons x
 termination_by a b=>a.length + b.length
theorem vH{a b : List Cell}{z : Cell}(h : z∈b7 a b) : z∈a∨z∈b:=List.mem_append.1 (merge_perm.mem_iff.1 h)
theorem lX : ∀ {a b : List Cell},a.Pairwise ltC→b.Pairwise ltC→(∀ x∈a,∀ y∈b,b9 x y)→(b7 a b).Pairwise ltC
 | [],b,_,hb,_=>by rw [b7]; exact hb
 | x::a,[],ha,_,_=>by rw [b7]; exact ha
 | x::a,y::b,ha,hb,hd=>by
   rw [b7]
   have ha':=List.pairwise_cons.1 ha
   have hb':=List.pairwise_cons.1 hb
   split
   ·rename_i h
    refine List.pairwise_cons.2 ⟨fun z hz=>?_,lX ha hb'.2 fun u hu v hv=>hd u hu v (List.mem_cons_of_mem _ hv)⟩
    rcases vH hz with hz | hz
    ·rcases List.mem_cons.1 hz with rfl | hz
     ·exact h
     ·exact mD h (ha'.1 z hz)
    ·exact hb'.1 z hz
   ·rename_i h
    have hxy : ltC x y:=lg h (hd x List.mem_cons_self y List.mem_cons_self)
    refine List.pairwise_cons.2 ⟨fun z hz=>?_,lX ha'.2 hb fun u hu v hv=>hd u (List.mem_cons_of_mem _ hu) v hv⟩
    rcases vH hz with hz | hz
    ·exact ha'.1 z hz
    ·rcases List.mem_cons.1 hz with rfl | hz
     ·exact hxy
     ·exact mD hxy (hb'.1 z hz)
 termination_by a b=>a.length + b.length
theorem BE{l : List Cell}{n : Nat}(hd : l.Pairwise b9) : b7 (bE (l.take n)) (bE (l.drop n)) = bE l:=by
 have hd' : (l.take n ++ l.drop n).Pairwise b9:=by rw [List.take_append_drop]; exact hd
 obtain ⟨h1,h2,h3⟩:=List.pairwise_append.1 hd'
 refine iO ?_ (lX (dT h1) (dT h2) fun x hx y hy=>h3 x ((cG _).mem_iff.1 hx) y ((cG _).mem_iff.1 hy)) (dT hd)
 refine merge_perm.trans (((cG _).append (cG _)).trans ?_)
 rw [List.take_append_drop]
 exact (cG l).symm
theorem BF{l : List Cell}(h : l.length < 2) : bE l = l:=by
 match l,h with
 | [],_=>exact rZ (by simp)
 | [x],_=>exact rZ (by simp)
theorem Hy{la lb : List Cell}(ha : 0 < la.length)(hb : 0 < lb.length)(h : bc (at_ lb 0).at' (at_ la 0).at' < 0) : b7 la lb = at_ lb 0::b7 la (lb.drop 1):=by
 obtain ⟨x,la',rfl⟩:=List.exists_cons_of_length_pos ha
 obtain ⟨y,lb',rfl⟩:=List.exists_cons_of_length_pos hb
 rw [b7]; exact if_pos h
theorem Hz{la lb : List Cell}(ha : 0 < la.length)(hb : 0 < lb.length)(h : ¬ bc (at_ lb 0).at' (at_ la 0).at' < 0) : b7 la lb = at_ la 0::b7 (la.drop 1) lb:=by
 obtain ⟨x,la',rfl⟩:=List.exists_cons_of_length_pos ha
 obtain ⟨y,lb',rfl⟩:=List.exists_cons_of_length_pos hb
 rw [b7]; exact if_neg h
theorem HA{la lb : List Cell}(h : la.length = 0∨lb.length = 0) : b7 la lb = la ++ lb:=by
 rcases h with h | h
 ·rw [List.length_eq_zero_iff.1 h,b7]; rfl
 ·rw [List.length_eq_zero_iff.1 h]; cases la <;> simp [b7]
theorem xK{r : List (List D)}{lo : List Cell}{c : Cell}{n : Nat}(hr : r = lo.map av)(hn : n = r.length) : r.take n ++ [av c] = (lo ++ [c]).map av:=by
 subst hn; rw [List.take_length,hr,List.map_append]; rfl
theorem vI{ra rb r : List (List D)}{a b la lb lo : List Cell}{n : Nat}(h1 : ra = la.map av)(h2 : rb = lb.map av)(h3 : r = lo.map av)(h4 : n = r.length)(h5 : b7 a b = lo ++ b7 la lb)(h : la.length = 0∨lb.length = 0) :
  AV.one (dc 10 (.row 2 48 (List.take (n + ra.length) (List.take n r ++ ra) ++ rb)) (.own 10 (n + ra.length + rb.length))) = .one (.d (bg (b7 a b))):=by
 show AV.one (.d (.sl 2 48 (List.take (n + ra.length + rb.length) (List.take (n + ra.length) (List.take n r ++ ra) ++ rb)))) = _
 subst h4
 rw [List.take_length,← List.length_append,List.take_length,← List.length_append,List.take_length,h5,HA h,h1,h2,h3,bg,List.map_append,List.map_append,List.append_assoc]
theorem MX(a b : List Cell)(hl : a.length + b.length≤4096) : CallA Tryz.prog 232 [.one (.d (bg a)),.one (.d (bg b))] [] (.one (.d (bg (b7 a b)))) []:=by
 refine enter ae Tryz.func232 rfl (by decide +kernel) rfl fun hok w0 σ0 φ0 M=>?_
 clear hok
 repeat' (first|(refine h1H ?_; (refine xL ?_; first|refine s_e aq J J J (c3 J J J J J (Int.le_refl _) (dJ hp1 wB)) ?_|refine s_e aq J J J (c3 J J J J J (Int.le_refl _) (dJ hp2 wB)) ?_))|(refine h1H ?_; (refine MY ?_; refine s_e aq J J J (nC J J J J J (by omega) (by show 1≤_; simp at *; omega)) ?_))|(refine h4H ?_; refine bu (bR (dl:=[10]) J) (cv ?_))|(refine h3H ?_; (refine Fz ?_; first|refine d_e aq J J J (c3 J J J J J (Int.le_refl _) (dJ hp1 wB)) ?_|refine d_e aq J J J (c3 J J J J J (Int.le_refl _) (dJ hp2 wB)) ?_))|(refine h3H ?_; (refine h2H ?_; refine d_l J J (aA J J J J J J (I8 _ _) J) ?_))|refine wG ?_|(refine h1H ?_; (refine h5H ?_; refine aG J J J J (fun h=>?_) (fun h=>?_)))|(refine h4H ?_; first|refine ag J (fun h=>?_) (fun h=>?_)|refine fy 2 J (ee (s:=5) (id:=10) (k:=2) (b:=48) J J J J) [] aT (fun (bN : Bool×Bool) (p : List (List D)×List (List D)×Nat×List (List D)×List Cell×List Cell×List Cell)=>[(0,.one (.d (.sl 2 48 p.1))),(1,.one (.d (.sl 2 48 p.2.1))),(5,.one (.own 10 p.2.2.1))]) (fun (bN : Bool×Bool) (p : List (List D)×List (List D)×Nat×List (List D)×List Cell×List Cell×List Cell)=>[(10,.row 2 48 p.2.2.2.1)]) (fun (p : List (List D)×List (List D)×Nat×List (List D)×List Cell×List Cell×List Cell)=>p.1 = p.2.2.2.2.1.map av∧p.2.1 = p.2.2.2.2.2.1.map av∧p.2.2.2.1 = p.2.2.2.2.2.2.map av∧p.2.2.1 = p.2.2.2.1.length∧b7 a b = p.2.2.2.2.2.2 ++ b7 p.2.2.2.2.1 p.2.2.2.2.2.1∧p.2.2.1 + p.1.length + p.2.1.length = a.length + b.length) (fun (p : List (List D)×List (List D)×Nat×List (List D)×List Cell×List Cell×List Cell)=>p.1.length + p.2.1.length) (a.map av,b.map av,0,[],a,b,[]) (q3Q J J J) wK (fun b y=>by obtain ⟨b1,b2⟩:=b; cases b1 <;> cases b2 <;> first|exact Imp.refl _|exact fz qN (by kernel_rfl)) ?_ (fun p ⟨hp1,hp2,hp3,hp4,hp5,hp6⟩=>?_))|(show Exists _; first|refine Exists.intro ((p.1,p.2.1.drop 1,p.2.2.1 + 1,p.2.2.2.1.take p.2.2.1 ++ [av (at_ p.2.2.2.2.2.1 0)],p.2.2.2.2.1,p.2.2.2.2.2.1.drop 1,p.2.2.2.2.2.2 ++ [at_ p.2.2.2.2.2.1 0])) (Exists.intro (false,false) ⟨?_,?_,wK,(q3Q J J J),aT⟩)|refine Exists.intro ((p.1.drop 1,p.2.1,p.2.2.1 + 1,p.2.2.2.1.take p.2.2.1 ++ [av (at_ p.2.2.2.2.1 0)],p.2.2.2.2.1.drop 1,p.2.2.2.2.2.1,p.2.2.2.2.2.2 ++ [at_ p.2.2.2.2.1 0])) (Exists.intro (false,false) ⟨?_,?_,wK,(q3Q J J J),aT⟩)))
 ·exact ⟨rfl,rfl,rfl,rfl,(List.nil_append _).symm,by simp⟩
 all_goals (obtain ⟨ra,rb,n,r,la,lb,lo⟩:=p; dsimp only at *)
 ·have ha : 0 < la.length:=by have:=‹decide (0 < (ra.length : Int)) = true›; rw [hp1] at this; simpa using this
  have hb : 0 < lb.length:=by have:=‹decide (0 < (rb.length : Int)) = true›; rw [hp2] at this; simpa using this
  have hc:=Hy ha hb (of_decide_eq_true h)
  exact ⟨hp1,by rw [hp2,List.map_drop],xK hp3 hp4,by simp [hp4],by rw [hp5,hc,List.append_assoc]; rfl,by rw [List.length_drop]; have : rb.length = lb.length:=(by rw [hp2,List.length_map]); omega⟩
 ·have hb : 0 < rb.length:=by simpa using ‹decide (0 < (rb.length : Int)) = true›
  rw [List.length_drop]; omega
 ·have ha : 0 < la.length:=by have:=‹decide (0 < (ra.length : Int)) = true›; rw [hp1] at this; simpa using this
  have hb : 0 < lb.length:=by have:=‹decide (0 < (rb.length : Int)) = true›; rw [hp2] at this; simpa using this
  have hc:=Hz ha hb (of_decide_eq_false h)
  exact ⟨by rw [hp1,List.map_drop],hp2,xK hp3 hp4,by simp [hp4],by rw [hp5,hc,List.append_assoc]; rfl,by rw [List.length_drop]; have : ra.length = la.length:=(by rw [hp1,List.length_map]); omega⟩
 ·have hb : 0 < ra.length:=by simpa using ‹decide (0 < (ra.length : Int)) = true›
  rw [List.length_drop]; omega
 ·have hb : rb.length = 0:=by simpa using h
  exact vI hp1 hp2 hp3 hp4 hp5 (Or.inr (by rw [hp2,List.length_map] at hb; exact hb))
 ·have hb : ra.length = 0:=by simpa using h
  exact vI hp1 hp2 hp3 hp4 hp5 (Or.inl (by rw [hp1,List.length_map] at hb; exact hb))
theorem E8{l : List Cell}{h : Int}(hh : h.toNat = l.length / 2) : List.take h.toNat (List.map av l) = (l.take (l.length / 2)).map av:=by rw [hh,List.map_take]
theorem E9{l : List Cell}{h : Int}(hh : h.toNat = l.length / 2) : List.drop h.toNat (List.map av l) = (l.drop (l.length / 2)).map av:=by rw [hh,List.map_drop]
theorem r8{l : List Cell} : (bE l).length = l.length:=(cG l).length_eq
theorem Fa{k b n : Nat}{xs ys : List (List D)}(he : xs.take n = ys) : AV.one (dc 0 (.row k b xs) (.own 0 n)) = .one (.d (.sl k b ys)):=by subst he; rfl
theorem L9(n : Nat)(ih : ∀ (ys : List (List D)) (l : List Cell),ys = l.map av→l.length < n→l.Pairwise b9→l.length≤4096→CallA Tryz.prog 184 [.one (.d (.sl 2 48 ys))] [] (.one (.d (bg (bE l)))) [])
  (l : List Cell) (hn : l.length = n) (hd : l.Pairwise b9) (hl : l.length≤4096) : CallA Tryz.prog 184 [.one (.d (.sl 2 48 (l.map av)))] [] (.one (.d (bg (bE l)))) []:=by
 have hd1 : (l.take (l.length / 2)).Pairwise b9:=hd.sublist (List.take_sublist _ _)
 have hd2 : (l.drop (l.length / 2)).Pairwise b9:=hd.sublist (List.drop_sublist _ _)
 have e2 : ((((l.map av).length : Nat) : Int) / 2).toNat = l.length / 2:=by rw [List.length_map]; omega
 have hm1 : (l.take (l.length / 2)).length≤4096:=by rw [List.length_take]; omega
 have hm2 : (l.drop (l.length / 2)).length≤4096:=by rw [List.length_drop]; omega
 have hl3 : (bE (l.take (l.length / 2))).length + (bE (l.drop (l.length / 2))).length≤4096:=by rw [r8,r8,List.length_take,List.length_drop]; omega
 refine enter ae Tryz.func184 rfl (by decide +kernel) rfl fun hok w0 σ0 φ0 M=>?_
 clear hok
 rcases Nat.lt_or_ge l.length 2 with h2 | h2
 ·have hb : decide (((List.map av l).length : Int) < 2) = true:=by simp; omega
  repeat' (first|(refine h4H ?_; refine bu (bR (dl:=[0]) J) (cv ?_))|refine wG ?_)
  refine Fa ?_
  rw [BF h2,List.take_zero,List.nil_append,Nat.zero_add,List.take_length]
 ·have hb : decide (((List.map av l).length : Int) < 2) = false:=by simp; omega
  have hl1 : (l.take (l.length / 2)).length < n:=by rw [List.length_take]; omega
  have hl2 : (l.drop (l.length / 2)).length < n:=by rw [List.length_drop]; omega
  repeat' (first|(refine h1H ?_; (refine pE ?_; refine s_e aq J J J (ec J J J J (by omega) (by omega) (gf (by omega) (by omega))) ?_))|(refine h3H ?_; (refine NU ?_; refine d_e aq J J J (j7 J J J J J (by simp; omega) (by simp; omega)) ?_))|(refine h3H ?_; (refine NV ?_; refine d_e aq J J J (nC J J J J J (by simp; omega) (by simp; omega)) ?_))|(refine h3H ?_; (refine h2H ?_; first|refine bh 16 J J J J J J J J (ih _ (l.take (l.length / 2)) (E8 e2) hl1 hd1 hm1) J J ?_|refine bh 16 J J J J J J J J (ih _ (l.drop (l.length / 2)) (E9 e2) hl2 hd2 hm2) J J ?_|refine bh 16 J J J J J J J J (MX _ _ hl3) J J ?_))|refine wG ?_)
  rw [BE hd]; rfl
theorem Hl : ∀ (n : Nat) (ys : List (List D)) (l : List Cell),ys = l.map av→l.length < n→l.Pairwise b9→l.length≤4096→CallA Tryz.prog 184 [.one (.d (.sl 2 48 ys))] [] (.one (.d (bg (bE l)))) []
 | 0,_,_,_,h,_,_=>absurd h (Nat.not_lt_zero _)
 | n + 1,ys,l,hy,h,hd,hl=>by
   subst hy
   exact L9 l.length (fun ys' l' hy' h' hd' hl'=>Hl n ys' l' hy' (by omega) hd' hl') l rfl hd hl
theorem M5(l : List Cell)(hd : l.Pairwise b9)(hl : l.length≤4096) : CallA Tryz.prog 184 [.one (.d (bg l))] [] (.one (.d (bg (bE l)))) []:=Hl (l.length + 1) _ l rfl (Nat.lt_succ_self _) hd hl
def py(c : Cell) : Prop:=c.at'.length≤1048576∧c.vals.length≤1048576
theorem FA{ds : List Dim}{ats : List Attr}{l : List Cell}(h1 : ds.length≤1048576)(h2 : ats.length≤1048576)(h3 : ∀ c∈l,py c)(h4 : l.length≤4096) : tc ⟨ds,ats,bE l⟩:=by
 have hn : (bE l).length≤4096:=by rw [r8]; exact h4
 exact ⟨h1,h2,by show (bE l).length≤_; omega,fun k hk=>h3 _ ((cG l).mem_iff.1 (bM hk))⟩
theorem M4(ds : List Dim)(ats : List Attr)(l : List Cell)(hd : l.Pairwise b9)(h1 : ds.length≤1048576)(h2 : ats.length≤1048576)(h3 : ∀ c∈l,py c) : CallA Tryz.prog 101 [.one (.d (aH ds)),.one (.d (aF ats)),.one (.d (bg l))] [] (jV (fx ds ats l)) []:=by
 refine enter ae Tryz.func101 rfl (by decide +kernel) rfl fun hok w0 σ0 φ0 M=>?_
 clear hok
 by_cases h4 : 4096 < (l.length : Int)
 ·have hb : decide (4096 < ((l.map av).length : Int)) = true:=by simpa using h4
  simp only [fx,if_pos h4,jV]
  repeat' (first|refine wG ?_)
  all_goals rfl
 ·have hb : decide (4096 < ((l.map av).length : Int)) = false:=by simpa using h4
  have hl : l.length≤4096:=by omega
  have hsm:=FA h1 h2 h3 hl
  simp only [fx,if_neg h4,jV]
  repeat' (first|(refine h1H ?_; (refine h0H ?_; first|refine aw 16 J J J J J J J J (M5 _ hd hl) J J J ?_|refine aw 16 J J J J J J J J (c22 ⟨ds,ats,bE l⟩ hsm) J J J ?_))|refine wG ?_)
  all_goals rfl
end Go.Proofs.YtpejdgkaapnekaaGreat
namespace Go.Proofs.YtpejdgkaapnekaaGreat
open Go Go.Abs
attribute [local irreducible] ac OkC ao ax ap aJ
set_option maxRecDepth 10000
section
variable {src kept : List (Int×Bool)} {ds : List Dim} {rule : Int} {l l' r : List Cell} {c : Cell}
end
end Go.Proofs.YtpejdgkaapnekaaGreat
namespace Go.Proofs.YtpejdgkaapnekaaGreat
open Go Go.Abs
attribute [local irreducible] ac OkC ao ax ap aJ
set_option maxRecDepth 10000
def bV(v : Val) : Prop:=v.kind = 1→v.den = 0∧v.str = []
theorem sH{v : Val}(h : al v = true) : bV v:=fun hk=>by
 unfold al dm at h
 rw [hk] at h
 simp [lV] at h
 exact h.1
theorem fQ{v : Val}(h : ¬ v.kind = 1) : bV v:=fun hk=>absurd hk h
theorem sI{l : List Val}{i : Nat}(h : ¬ i < l.length) : (at_ l i).kind = 0:=by
 unfold at_
 rw [List.getD_eq_getElem?_getD,List.getElem?_eq_none (by omega)]; rfl
theorem CN{l : List Val}(h : l.all al = true)(i : Nat) : bV (at_ l i):=by
 by_cases hi : i < l.length
 ·exact sH (c7 h hi)
 ·exact fQ (by rw [sI hi]; decide)
theorem i9(b : Bool) : bV (ay b):=fun _=>⟨rfl,rfl⟩
theorem tY(n : Bool)(a b : Nat) : bV (vP n a b):=by
 unfold vP; split
 ·exact fQ (by show ¬ (2 : Int) = 1; decide)
 ·exact fQ (by show ¬ (0 : Int) = 1; decide)
theorem sJ{l : List Val}{v : Val}(h : bV v) : bV ((aD l).getD v):=by
 cases hf : aD l with
 | none=>exact h
 | some x =>
   have:=List.find?_some hf
   exact fQ (by show ¬ x.kind = 1; have h2 : x.kind = 0:=by simpa using this
                omega)
theorem Hi{op : Int}{l : List Val}(h : l.all al = true)(hk : kdF op l = true) : bV (rvF op l):=by
 have k2 : ∀ {n : Int} {d : Int} {t : List UInt8},bV ⟨2,n,d,t⟩:=fQ (by show ¬ (2 : Int) = 1; decide)
 unfold rvF
 by_cases g0 : op = 4
 ·rw [if_pos g0]
  exact i9 _
 rw [if_neg g0]
 by_cases g1 : op = 5
 ·rw [if_pos g1]
  have hk2 : l.all (fun v=>isV v 2) = true:=by
   unfold kdF at hk; rw [if_neg (by omega),if_pos (by omega)] at hk; exact hk
  have : ¬ (at_ l 0).kind = 1:=by
   by_cases hi : 0 < l.length
   ·have:=c7 hk2 hi
    unfold isV at this
    simp at this; omega
   ·rw [sI hi]; decide
  exact fQ this
 rw [if_neg g1]
 by_cases g2 : op = 6
 ·rw [if_pos g2]
  exact tY _ _ _
 rw [if_neg g2]
 by_cases g3 : op = 7
 ·rw [if_pos g3]
  exact i9 _
 rw [if_neg g3]
 by_cases g4 : op = 8
 ·rw [if_pos g4]
  exact k2
 rw [if_neg g4]
 by_cases g5 : op = 9
 ·rw [if_pos g5]
  exact tY _ _ _
 rw [if_neg g5]
 by_cases g6 : op = 10
 ·rw [if_pos g6]
  exact tY _ _ _
 rw [if_neg g6]
 by_cases g7 : op = 11
 ·rw [if_pos g7]
  exact tY _ _ _
 rw [if_neg g7]
 by_cases g8 : op = 12
 ·rw [if_pos g8]
  unfold CD
  split
  ·exact fQ (by show ¬ (0 : Int) = 1; decide)
  ·exact tY _ _ _
 rw [if_neg g8]
 by_cases g9 : op≤18
 ·rw [if_pos g9]
  exact i9 _
 rw [if_neg g9]
 by_cases g10 : op = 19
 ·rw [if_pos g10]
  unfold iH
  split
  ·exact i9 _
  ·exact sJ (i9 _)
 rw [if_neg g10]
 by_cases g11 : op = 20
 ·rw [if_pos g11]
  unfold iH
  split
  ·exact i9 _
  ·exact sJ (i9 _)
 rw [if_neg g11]
 by_cases g12 : op = 21
 ·rw [if_pos g12]
  split <;> exact CN h _
 rw [if_neg g12]
 split
 ·exact CN h _
 split <;> exact CN h _
theorem LT{op : Int}{l : List Val} : bV (doF op l).1:=by
 unfold doF doG
 split
 ·rename_i h
  split
  ·rename_i hk
   split
   ·exact Hi h hk
   ·exact sJ (Hi h hk)
  ·exact fQ (by show ¬ (0 : Int) = 1; decide)
 ·exact fQ (by show ¬ (0 : Int) = 1; decide)
theorem JX{ds : List Dim}{ats : List Attr}{at' : List Int}{vs : List Val}{s : Scalar}(hp : cL s = true)(hv : ∀ i,bV (at_ vs i)) : bV (dW ds ats at' vs s):=by
 rw [qH]
 split
 ·rename_i h1
  unfold cL at hp
  rw [if_pos h1] at hp
  exact sH (by unfold al; simp at hp; exact hp.1)
 split
 ·exact hv _
 split
 ·exact fQ (by show ¬ (2 : Int) = 1; decide)
 ·exact LT
theorem H1{ds : List Dim}{ats : List Attr}{at' : List Int}{vs : List Val}(h : cZ ds ats at' vs = 0)(i : Nat) : bV (at_ vs i):=by
 obtain ⟨_,hl,_,hv⟩:=cellF_ok.1 h
 by_cases hi : i < vs.length
 ·have:=(tC hl).1 hv i (by omega)
  unfold fj at this
  simp only [Bool.and_eq_true] at this
  exact sH this.1
 ·exact fQ (by rw [sI hi]; decide)
def okV(v : Val) : Bool:=cb [.int .i64 v.kind,.int .i64 v.num,.int .i64 v.den,.str v.str] [.int .i64 1,.int .i64 1,.int .i64 0,.str []]
theorem uQ{v : Val}(h : bV v) : okV v = (v.kind == 1 && v.num == 1):=by
 unfold okV
 simp only [cb,eqD]
 by_cases hk : v.kind = 1
 ·obtain ⟨h1,h2⟩:=h hk
  simp [hk,h1,h2]
 ·have e : (v.kind == 1) = false:=by simp [hk]
  simp [e]
def oP(a : Arr)(s : Scalar) : Option Arr×Int :=
 if (bT a.dims a.attrs a.cells s).2≠0 then (none,(bT a.dims a.attrs a.cells s).2) else if (bT a.dims a.attrs a.cells s).1≠1 then (none,12)
 else fx a.dims a.attrs (a.cells.filter fun c=>okV (dW a.dims a.attrs c.at' c.vals s))
abbrev i8(a : Arr)(s : Scalar)(l : List Cell) : List Cell:=l.filter fun c=>okV (dW a.dims a.attrs c.at' c.vals s)
theorem mc{p : Cell→Bool}{l : List Cell}{k : Nat}(h : k < l.length) : (l.take (k + 1)).filter p = (l.take k).filter p ++ if p (at_ l k) then [at_ l k] else []:=by
 rw [eO h,List.filter_append]
 congr 1
 by_cases hp : p (at_ l k) = true
 ·simp [hp]
 ·simp [hp]
set_option maxHeartbeats 4000000 in
theorem c26(a : Arr)(s : Scalar) : CallA Tryz.prog 26 [fX a,cY s] [] (jV (oP a s)) []:=by
 unfold fX oP
 refine enter ae Tryz.func26 rfl (by decide +kernel) rfl fun hok w0 σ0 φ0 M=>?_
 clear hok
 by_cases ht : (bT a.dims a.attrs a.cells s).2 = 0
 ·have hb1 : ((bT a.dims a.attrs a.cells s).2 != 0) = false:=by simp [ht]
  obtain ⟨hck,hp,hsz,hn⟩:=AH ht
  rw [if_neg (by simpa using ht)]
  by_cases h1 : (bT a.dims a.attrs a.cells s).1 = 1
  ·have hb2 : ((bT a.dims a.attrs a.cells s).1 != 1) = false:=by simp [h1]
   rw [if_neg (by simpa using h1)]
   have hA:=okA hck
   have hcl : ∀ i,i < a.cells.length→(at_ a.cells i).at'.length = a.dims.length∧(at_ a.cells i).vals.length = a.attrs.length:=fun i hi =>
    let h:=cellF_ok.1 (hA.cel _ (bM hi)); ⟨h.1,h.2.1⟩
   have hcn : a.cells.length≤4096:=hA.few
   have hdf : (i8 a s a.cells).Pairwise b9:=(cU hA.srt).filter _
   have hff : (i8 a s a.cells).length≤4096:=Nat.le_trans (List.length_filter_le _ _) hcn
   have er : fx a.dims a.attrs (i8 a s a.cells) = (some ⟨a.dims,a.attrs,bE (i8 a s a.cells)⟩,0):=by unfold fx; rw [if_neg (by omega)]
   rw [er]
   repeat' (first|(refine h1H ?_; (refine h0H ?_; first|refine cS 40 [10] J J J J J J J J J (I0 a.dims a.attrs (i8 a s a.cells) _ _ hdf hff J (by rw [List.take_of_length_le (by omega),hq3,List.take_of_length_le wB])) J J J ?_|refine aa J J J J J J J J (c20 _ _ _ _) J ?_|refine aa J J J J J J J J (QC _ _ _ _ _ _ hp hsz hn (hcl _ wB).1 (hcl _ wB).2) J ?_))|refine wG ?_|(refine h4H ?_; first|refine ag J (fun h=>?_) (fun h=>?_)|refine fy 8 J (ee (s:=8) (id:=10) (k:=2) (b:=48) J J J J) [(2,_),(3,_),(4,_),(27,_),(28,_)] (q5Q J J J J J) (fun (bN : Bool×Bool) (q : Nat×Nat×List (List D))=>[(8,.one (.own (nmA bN) q.2.1)),(29,.one (.d (.int .i64 (q.1 : Int))))]) (fun (bN : Bool×Bool) (q : Nat×Nat×List (List D))=>[((nmA bN),.row 2 48 q.2.2),(0,.box [.d (aH a.dims),.d (aF a.attrs),.d (bg a.cells)]),(1,.box [.d (.int .i64 s.op),.d (.str s.name),.d (.int .i64 s.val.kind),.d (.int .i64 s.val.num),.d (.int .i64 s.val.den),.d (.str s.val.str),.d (cu s.args)]),(2,.box [.d .nil,.d .nil,.d .nil])]) (fun (q : Nat×Nat×List (List D))=>q.1≤a.cells.length∧q.2.1 = q.2.2.length∧q.2.1≤q.1∧q.2.2 = (i8 a s (a.cells.take q.1)).map av) (fun (q : Nat×Nat×List (List D))=>a.cells.length - q.1) (0,0,[]) (q2Q J J) wK (fun b y=>by obtain ⟨b1,b2⟩:=b; cases b1 <;> cases b2 <;> first|exact Imp.refl _|exact fz qN (by kernel_rfl)) ?_ (fun q ⟨hq1,hq2,hq4,hq3⟩=>?_))|(show Exists _; first|refine Exists.intro ((q.1 + 1,q.2.1 + 1,q.2.2.take q.2.1 ++ [av (at_ a.cells q.1)])) (Exists.intro (false,false) ⟨?_,?_,wK,(q2Q J J),(q5Q J J J J J)⟩)|refine Exists.intro ((q.1 + 1,q.2)) (Exists.intro (false,false) ⟨?_,?_,wK,(q2Q J J),(q5Q J J J J J)⟩)))
   ·exact ⟨Nat.zero_le _,rfl,Nat.le_refl _,by simp [i8]⟩
   ·have hlt : q.1 < a.cells.length:=by simpa using ‹decide ((q.1 : Int) < ((a.cells.map av).length : Int)) = true›
    have hw : okV (dW a.dims a.attrs (at_ a.cells q.1).at' (at_ a.cells q.1).vals s) = true:=by simpa [okV] using h
    refine ⟨hlt,?_,Nat.succ_le_succ hq4,?_⟩
    ·show q.2.1 + 1 = (q.2.2.take q.2.1 ++ [_]).length
     rw [List.length_append,List.length_take]; simp [hq2]
    ·show q.2.2.take q.2.1 ++ [_] = _
     rw [List.take_of_length_le (by omega),hq3]
     show _ = List.map av (List.filter _ (List.take (q.1 + 1) a.cells))
     rw [mc hlt,if_pos hw,List.map_append]; rfl
   ·have hlt : q.1 < a.cells.length:=by simpa using ‹decide ((q.1 : Int) < ((a.cells.map av).length : Int)) = true›
    show a.cells.length - (q.1 + 1) < a.cells.length - q.1
    omega
   ·have hlt : q.1 < a.cells.length:=by simpa using ‹decide ((q.1 : Int) < ((a.cells.map av).length : Int)) = true›
    have hw : okV (dW a.dims a.attrs (at_ a.cells q.1).at' (at_ a.cells q.1).vals s) = false:=by simpa [okV] using h
    refine ⟨hlt,hq2,Nat.le_succ_of_le hq4,?_⟩
    show q.2.2 = List.map av (List.filter _ (List.take (q.1 + 1) a.cells))
    rw [mc hlt,if_neg (by simp [hw]),List.append_nil,hq3]
   ·have hlt : q.1 < a.cells.length:=by simpa using ‹decide ((q.1 : Int) < ((a.cells.map av).length : Int)) = true›
    show a.cells.length - (q.1 + 1) < a.cells.length - q.1
    omega
   all_goals first | rfl | skip
  ·have hb2 : ((bT a.dims a.attrs a.cells s).1 != 1) = true:=by simp [h1]
   rw [if_pos h1]
   repeat' (first|(refine h1H ?_; (refine h0H ?_; refine aa J J J J J J J J (c20 _ _ _ _) J ?_))|refine wG ?_)
   all_goals first | rfl | skip
 ·have hb1 : ((bT a.dims a.attrs a.cells s).2 != 0) = true:=by simp [ht]
  rw [if_pos ht]
  repeat' (first|(refine h1H ?_; (refine h0H ?_; refine aa J J J J J J J J (c20 _ _ _ _) J ?_))|refine wG ?_)
  all_goals first | rfl | skip
end Go.Proofs.YtpejdgkaapnekaaGreat
namespace Go.Proofs.YtpejdgkaapnekaaGreat
open Go Go.Abs
def nh(k : Nat)(d : Int)(x : List Int) : List Int:=x.set k (at_ x k + d)
def kU(k : Nat)(d : Int)(c : Cell) : Cell:=⟨nh k d c.at',c.vals⟩
theorem yJ : ∀ {k : Nat} {d : Int} {x y : List Int},k < x.length→x.length = y.length→bc (nh k d x) (nh k d y) = bc x y
 | _,d,[],_,h,_=>by simp at h
 | _,d,_::_,[],_,h=>by simp at h
 | 0,d,a::x,b::y,_,_=>by
   show bc ((a + d)::x) ((b + d)::y) = _
   simp only [bc]
   by_cases h1 : a < b
   ·rw [if_pos h1,if_pos (by omega)]
   ·rw [if_neg h1,if_neg (by omega)]
    by_cases h2 : b < a
    ·rw [if_pos h2,if_pos (by omega)]
    ·rw [if_neg h2,if_neg (by omega)]
 | k + 1,d,a::x,b::y,h,h'=>by
   have ih:=yJ (k:=k) (d:=d) (x:=x) (y:=y) (by simpa using h) (by simpa using h')
   show bc (a::nh k d x) (b::nh k d y) = _
   simp only [bc,ih]
theorem AX{k : Nat}{d : Int}{x : List Int} : (nh k d x).length = x.length:=by simp [nh]
theorem Kd{k : Nat}{d : Int}{x : List Int}{i : Nat}(h : i < x.length) : at_ (nh k d x) i = if i = k then at_ x k + d else at_ x i:=tE h
def md(d : Dim)(b : Int×Int) : Dim:=⟨d.name,max d.lo b.1,min d.hi b.2⟩
def bC(ds : List Dim)(lo hi : List Int) : List Dim:=ds.zipWith md (lo.zip hi)
def okD(d : Dim) : Bool:=!decide (dX d.hi < d.lo)
def eC(a : Arr)(lo hi : List Int) : Option Arr×Int :=
 if cE a.dims a.attrs a.cells≠0 then (none,2)
 else if (lo.length : Int)≠a.dims.length∨(hi.length : Int)≠a.dims.length then (none,13)
 else if !(bC a.dims lo hi).all okD then (none,3)
 else fx (bC a.dims lo hi) a.attrs (a.cells.filter fun c=>bo (bC a.dims lo hi) c.at')
def byF(a b : Arr)(k : Nat) : Int:=(at_ a.dims k).hi - (at_ b.dims k).lo + 1
def me(a b : Arr)(k : Nat) : Dim:=⟨(at_ b.dims k).name,(at_ a.dims k).lo,(at_ b.dims k).hi + byF a b k⟩
structure Cat (a b : Arr) (name : List UInt8) (k : Nat) : Prop where
 oka : OkA a.dims a.attrs a.cells
 okb : OkA b.dims b.attrs b.cells
 hk : k < a.dims.length
 nm : (at_ a.dims k).name = name
 bef : ∀ i,i < k→(at_ a.dims i).name≠name
 len : a.dims.length = b.dims.length
 nms : ∀ i,i < a.dims.length→(at_ a.dims i).name = (at_ b.dims i).name
 oth : ∀ i,i < a.dims.length→i≠k→at_ a.dims i = at_ b.dims i
 ha : (at_ a.dims k).hi≤1073741824
 hb : (at_ b.dims k).hi≤1073741824
 att : a.attrs = b.attrs
 hc : (me a b k).hi≤1073741824
section
variable {a b : Arr} {name : List UInt8} {k : Nat}
def fM(a b : Arr)(k : Nat) : Arr:=⟨a.dims.set k (me a b k),a.attrs,bE (a.cells ++ b.cells.map (kU k (byF a b k)))⟩
theorem kp{h : Int}(hh : h≤1073741824) : dX h = h:=by unfold dX; omega
theorem Cat.bounds(h : Cat a b name k) : (at_ a.dims k).lo≤(at_ a.dims k).hi∧(at_ b.dims k).lo≤(at_ b.dims k).hi∧-1073741824≤(at_ a.dims k).lo∧-1073741824≤(at_ b.dims k).lo:=by
 have h1:=(h.oka.dims.2.2.1 k h.hk).1
 have h2:=(h.okb.dims.2.2.1 k (by rw [← h.len]; exact h.hk)).1
 omega
theorem Cat.acell(h : Cat a b name k){c : Cell}(hc : c∈a.cells) : c.at'.length = a.dims.length∧c.vals.length = a.attrs.length∧f8 a.attrs c.vals = 0∧∀ i,i < a.dims.length→(at_ a.dims i).lo≤at_ c.at' i∧at_ c.at' i≤dX (at_ a.dims i).hi:=by
 obtain ⟨h1,h2,h3,h4⟩:=cellF_ok.1 (h.oka.cel c hc)
 exact ⟨h1,h2,h4,(dv h1).1 h3⟩
theorem Cat.bcell(h : Cat a b name k){c : Cell}(hc : c∈b.cells) : c.at'.length = a.dims.length∧c.vals.length = a.attrs.length∧f8 a.attrs c.vals = 0∧∀ i,i < a.dims.length→(at_ b.dims i).lo≤at_ c.at' i∧at_ c.at' i≤dX (at_ b.dims i).hi:=by
 obtain ⟨h1,h2,h3,h4⟩:=cellF_ok.1 (h.okb.cel c hc)
 rw [h.att,h.len]
 exact ⟨h1,h2,h4,(dv h1).1 h3⟩
theorem Cat.moved(h : Cat a b name k){c : Cell}(hc : c∈b.cells){i : Nat}(hi : i < a.dims.length) : at_ (kU k (byF a b k) c).at' i = if i = k then at_ c.at' k + byF a b k else at_ c.at' i :=
 Kd (by rw [(h.bcell hc).1]; exact hi)
theorem Cat.far(h : Cat a b name k){c : Cell}(hc : c∈b.cells) : (at_ a.dims k).hi + 1≤at_ (kU k (byF a b k) c).at' k∧at_ (kU k (byF a b k) c).at' k≤(me a b k).hi:=by
 rw [h.moved hc h.hk,if_pos rfl]
 have h1:=(h.bcell hc).2.2.2 k h.hk
 rw [kp h.hb] at h1
 unfold byF me byF at *
 dsimp only
 omega
theorem Cat.near(h : Cat a b name k){c : Cell}(hc : c∈a.cells) : at_ c.at' k≤(at_ a.dims k).hi:=by
 have h1:=(h.acell hc).2.2.2 k h.hk
 rw [kp h.ha] at h1
 exact h1.2
theorem Cat.bsrt(h : Cat a b name k) : (b.cells.map (kU k (byF a b k))).Pairwise ltC:=by
 rw [List.pairwise_map]
 refine List.Pairwise.imp_of_mem (fun {x y} hx hy hxy=>?_) h.okb.srt
 have h1:=(h.bcell hx).1
 have h2:=(h.bcell hy).1
 unfold ltC at hxy ⊢
 show bc (nh k _ x.at') (nh k _ y.at') < 0
 rw [yJ (by rw [h1]; exact h.hk) (by rw [h1,h2])]
 exact hxy
theorem Cat.diff(h : Cat a b name k) : (a.cells ++ b.cells.map (kU k (byF a b k))).Pairwise b9:=by
 refine List.pairwise_append.2 ⟨cU h.oka.srt,cU h.bsrt,fun x hx y hy e=>?_⟩
 obtain ⟨c,hc,rfl⟩:=List.mem_map.1 hy
 have h1:=h.near hx
 have h2:=(h.far hc).1
 rw [e] at h1
 omega
theorem Cat.cdim(h : Cat a b name k){i : Nat}(hi : i < a.dims.length) : at_ (fM a b k).dims i = if i = k then me a b k else at_ a.dims i:=tE hi
theorem we : ∀ {ds : List Dim} {met : List (List UInt8)},(∀ d∈ds,eo d.lo d.hi = true∧eJ d.name = true∧d.name ∉ met)→(ds.map Dim.name).Nodup→fJ met ds = 0
 | [],met,_,_=>rfl
 | d::r,met,h,hn=>by
   obtain ⟨h1,h2,h3⟩:=h d List.mem_cons_self
   rw [List.map_cons,List.nodup_cons] at hn
   simp only [fJ,h1,h2]
   rw [if_neg (by simp [h3]),if_neg (by simp)]
   refine we (fun x hx=>?_) hn.2
   obtain ⟨j1,j2,j3⟩:=h x (List.mem_cons_of_mem _ hx)
   refine ⟨j1,j2,fun hm=>?_⟩
   rcases List.mem_append.1 hm with hm | hm
   ·exact j3 hm
   ·have e : x.name = d.name:=by simpa using hm
    exact hn.1 (List.mem_map.2 ⟨x,hx,e⟩)
theorem tA{ds : List Dim}{ats : List Attr}(h1 : 1≤ds.length)(h2 : ds.length≤4)(h3 : ∀ d∈ds,eo d.lo d.hi = true∧eJ d.name = true)(h4 : (ds.map Dim.name).Nodup)(h5 : 1≤ats.length)(h6 : ats.length≤6)(h7 : eP (ds.map Dim.name) ats = 0) : cR ds ats = 0:=by
 have hd : dp ds = 0:=by
  unfold dp
  rw [if_neg (by omega)]
  exact we (fun d hd=>⟨(h3 d hd).1,(h3 d hd).2,by simp⟩) h4
 unfold cR
 rw [if_neg (by simp [hd]),if_neg (by omega)]
 exact h7
theorem Cat.cnames(h : Cat a b name k) : (fM a b k).dims.map Dim.name = a.dims.map Dim.name:=by
 refine gY (by simp [fM]) fun i hi=>?_
 have hi' : i < a.dims.length:=by simpa [fM] using hi
 rw [eQ (by simpa [fM] using hi),eQ hi',h.cdim hi']
 split
 ·rename_i e; subst e; exact (h.nms i hi').symm
 ·rfl
theorem Cat.okc(h : Cat a b name k)(hl : a.cells.length + b.cells.length≤4096) : OkA (fM a b k).dims (fM a b k).attrs (fM a b k).cells:=by
 obtain ⟨d1,d2,d3,d4⟩:=h.oka.dims
 obtain ⟨s1,s2,s3,s4⟩:=dQ h.oka.sch
 have hcl : (fM a b k).dims.length = a.dims.length:=by simp [fM]
 have hbn:=h.bounds
 refine ⟨tA (by omega) (by omega) (fun d hd=>?_) (by rw [h.cnames]; exact d4) s2 s3 (by rw [h.cnames]; exact s4),?_,dT h.diff,fun c hc=>?_⟩
 ·obtain ⟨i,hi,rfl⟩:=gZ hd
  rw [hcl] at hi
  have hh:=h.hc
  obtain ⟨e1,e2⟩:=d3 i hi
  rw [h.cdim hi]
  split
  ·rename_i e; subst e
   refine ⟨boundsF_ok.2 ?_,?_⟩
   ·unfold me byF at *; dsimp only at *; omega
   ·show eJ (at_ b.dims i).name = true
    rw [← h.nms i hi]; exact e2
  ·exact ⟨boundsF_ok.2 e1,e2⟩
 ·show (bE _).length≤4096
  rw [jt,List.length_append,List.length_map]; exact hl
 ·have hc':=(cG _).mem_iff.1 hc
  rcases List.mem_append.1 hc' with hc' | hc'
  ·obtain ⟨e1,e2,e3,e4⟩:=h.acell hc'
   refine cellF_ok.2 ⟨by rw [hcl]; exact e1,e2,(dv (by rw [hcl]; exact e1)).2 fun i hi=>?_,e3⟩
   rw [hcl] at hi
   rw [h.cdim hi]
   have e5:=e4 i hi
   split
   ·rename_i e; subst e
    rw [kp h.ha] at e5
    rw [kp h.hc]
    unfold me byF; dsimp only; omega
   ·exact e5
  ·obtain ⟨c0,hc0,rfl⟩:=List.mem_map.1 hc'
   obtain ⟨e1,e2,e3,e4⟩:=h.bcell hc0
   have hlen : (kU k (byF a b k) c0).at'.length = a.dims.length:=by rw [← e1]; exact AX
   refine cellF_ok.2 ⟨by rw [hcl]; exact hlen,e2,(dv (by rw [hcl]; exact hlen)).2 fun i hi=>?_,e3⟩
   rw [hcl] at hi
   rw [h.cdim hi]
   split
   ·rename_i e; subst e
    have hf:=h.far hc0
    rw [kp h.hc]
    refine ⟨?_,hf.2⟩
    show (at_ a.dims i).lo≤_
    omega
   ·rename_i e
    rw [h.moved hc0 hi,if_neg e,h.oth i hi e]
    exact e4 i hi
theorem Cat.first(h : Cat a b name k)(hl : a.cells.length + b.cells.length≤4096)(h2 : a.cells.length≤4096) :
  eC (fM a b k) ((fM a b k).dims.map Dim.lo) (((fM a b k).dims.map Dim.hi).set k (at_ a.dims k).hi) = (some a,0):=by
 have hcl : (fM a b k).dims.length = a.dims.length:=by simp [fM]
 obtain ⟨d1,d2,d3,d4⟩:=h.oka.dims
 have hbn:=h.bounds
 have hcut : bC (fM a b k).dims ((fM a b k).dims.map Dim.lo) (((fM a b k).dims.map Dim.hi).set k (at_ a.dims k).hi) = a.dims:=by
  refine gY (by simp [bC,hcl]) fun i hi=>?_
  have hi' : i < a.dims.length:=by simp [bC,hcl] at hi; exact hi
  have hi2 : i < (fM a b k).dims.length:=by rw [hcl]; exact hi'
  unfold bC
  rw [pM hi2 (by simp [hcl,hi']),List.zip,pM (by simp [hcl,hi']) (by simp [hcl,hi']),eQ hi2,tE (by simp [hcl,hi']),eQ hi2,h.cdim hi']
  unfold md
  by_cases e : i = k
  ·subst e
   rw [if_pos rfl,if_pos rfl]
   refine Dim.ext ?_ ?_ ?_
   ·exact (h.nms i hi').symm
   ·show max (at_ a.dims i).lo (at_ a.dims i).lo = _; omega
   ·show min ((at_ b.dims i).hi + byF a b i) (at_ a.dims i).hi = _; unfold byF; omega
  ·rw [if_neg e,if_neg e]
   refine Dim.ext rfl ?_ ?_
   ·show max _ _ = _; omega
   ·show min _ _ = _; omega
 unfold eC
 rw [if_neg (by rw [DY (h.okc hl)]; simp),if_neg (by simp),hcut,if_neg ?_]
 ·have hf : (fM a b k).cells.filter (fun c=>bo a.dims c.at') = a.cells:=by
   refine ya _ h.diff h.oka.srt ?_
   rw [List.filter_append,List.filter_eq_self.2 fun c hc=>(dv (h.acell hc).1).2 (h.acell hc).2.2.2,List.filter_eq_nil_iff.2,List.append_nil]
   ·intro c hc hw
    obtain ⟨c0,hc0,rfl⟩:=List.mem_map.1 hc
    have hlen : (kU k (byF a b k) c0).at'.length = a.dims.length:=by rw [← (h.bcell hc0).1]; exact AX
    have h3:=(dv hlen).1 hw k h.hk
    have h4:=(h.far hc0).1
    rw [kp h.ha] at h3
    omega
  rw [hf]
  unfold fx
  rw [if_neg (by omega),rZ h.oka.srt]
  rfl
 ·simp only [Bool.not_eq_true',Bool.not_eq_false,List.all_eq_true,okD,decide_eq_false_iff_not]
  intro d hd
  obtain ⟨i,hi,rfl⟩:=gZ hd
  have:=(d3 i hi).1
  unfold dX; omega
end
end Go.Proofs.YtpejdgkaapnekaaGreat
namespace Go.Proofs.YtpejdgkaapnekaaGreat
open Go Go.Abs
def oL(d e : Dim) : Dim:=⟨d.name,min d.lo e.lo,max d.hi e.hi⟩
def eW(a b : List Dim) : List Dim:=a.zipWith oL b
def yy(l : List Cell)(c : Cell) : Bool:=!(l.any fun x=>x.at' == c.at')
def oM(a b : Arr) : Arr:=⟨eW a.dims b.dims,a.attrs,bE (a.cells ++ b.cells.filter (yy a.cells))⟩
def Gc(l : List Cell)(t : List Int) : Prop:=∃ y∈l,y.at' = t
theorem newC_iff{l : List Cell}{c : Cell} : yy l c = true↔¬ Gc l c.at':=by
 simp [yy,Gc]
structure Mrg (a b : Arr) : Prop where
 oka : OkA a.dims a.attrs a.cells
 okb : OkA b.dims b.attrs b.cells
 names : a.dims.map Dim.name = b.dims.map Dim.name
 attrs : a.attrs = b.attrs
section
variable {a b c : Arr}
theorem fY(h : Mrg a b) : (eW a.dims b.dims).length = a.dims.length:=by
 have : a.dims.length = b.dims.length:=by simpa using congrArg List.length h.names
 simp [eW]; omega
theorem Mrg.len(h : Mrg a b) : a.dims.length = b.dims.length:=by simpa using congrArg List.length h.names
theorem uL(h : Mrg a b){i : Nat}(hi : i < a.dims.length) : at_ (eW a.dims b.dims) i = oL (at_ a.dims i) (at_ b.dims i):=pM hi (by rw [← h.len]; exact hi)
theorem lz(h : Mrg a b) : (eW a.dims b.dims).map Dim.name = a.dims.map Dim.name:=by
 refine gY (by simp [fY h]) fun i hi=>?_
 have hi' : i < a.dims.length:=by simpa [fY h] using hi
 rw [eQ (by rw [fY h]; exact hi'),eQ hi',uL h hi']
 rfl
theorem mrg_mem{x : Cell} : x∈(oM a b).cells↔x∈a.cells∨(x∈b.cells∧¬ Gc a.cells x.at'):=by
 show x∈bE _↔_
 rw [(cG _).mem_iff,List.mem_append,List.mem_filter,newC_iff]
theorem Gd(h : Mrg a b) : (a.cells ++ b.cells.filter (yy a.cells)).Pairwise b9:=by
 refine List.pairwise_append.2 ⟨cU h.oka.srt,(cU h.okb.srt).filter _,fun x hx y hy e=>?_⟩
 exact newC_iff.1 (List.mem_filter.1 hy).2 ⟨x,hx,e⟩
theorem B1(h : Mrg a b) : (oM a b).cells.Pairwise ltC:=dT (Gd h)
theorem AD : (oM a b).cells.length≤a.cells.length + b.cells.length:=by
 show (bE _).length≤_
 rw [jt,List.length_append]
 have:=List.length_filter_le (yy a.cells) b.cells
 omega
theorem wb(h : Mrg a b){x : Cell}{ds : List Dim}(hl : ds.length = a.dims.length)(hx : cZ ds a.attrs x.at' x.vals = 0)
  (hd : ∀ i,i < a.dims.length→(oL (at_ a.dims i) (at_ b.dims i)).lo≤(at_ ds i).lo∧(at_ ds i).hi≤(oL (at_ a.dims i) (at_ b.dims i)).hi) : cZ (eW a.dims b.dims) a.attrs x.at' x.vals = 0:=by
 obtain ⟨h1,h2,h3,h4⟩:=cellF_ok.1 hx
 refine cellF_ok.2 ⟨by rw [fY h]; omega,h2,?_,h4⟩
 rw [dv h1] at h3
 rw [dv (by rw [fY h]; omega)]
 intro i hi
 rw [fY h] at hi
 rw [uL h hi]
 have e1:=h3 i (by omega)
 have e2:=hd i hi
 unfold dX at *
 omega
theorem Eh(h : Mrg a b)(hn : (oM a b).cells.length≤4096) : OkA (oM a b).dims (oM a b).attrs (oM a b).cells:=by
 obtain ⟨a1,a2,a3,a4⟩:=h.oka.dims
 obtain ⟨b1,b2,b3,b4⟩:=h.okb.dims
 have hs:=dQ h.oka.sch
 refine ⟨?_,hn,B1 h,fun x hx=>?_⟩
 ·refine tA (by show _≤(eW _ _).length; rw [fY h]; exact a1) (by show (eW _ _).length≤_; rw [fY h]; exact a2) (fun d hd=>?_) (by show ((eW _ _).map _).Nodup; rw [lz h]; exact a4) hs.2.1 hs.2.2.1 (by show eP ((eW _ _).map _) _ = 0; rw [lz h]; exact hs.2.2.2)
  obtain ⟨i,hi,rfl⟩:=gZ hd
  have hi' : i < a.dims.length:=by rw [← fY h]; exact hi
  show eo (at_ (eW a.dims b.dims) i).lo (at_ (eW a.dims b.dims) i).hi = true∧eJ (at_ (eW a.dims b.dims) i).name = true
  rw [uL h hi']
  obtain ⟨e1,e2⟩:=a3 i hi'
  obtain ⟨e3,_⟩:=b3 i (by rw [← h.len]; exact hi')
  refine ⟨boundsF_ok.2 ?_,e2⟩
  simp only [oL]
  omega
 ·show cZ (eW a.dims b.dims) a.attrs _ _ = 0
  rcases mrg_mem.1 hx with hx | ⟨hx,_⟩
  ·exact wb h rfl (h.oka.cel x hx) fun i hi=>by simp only [oL]; omega
  ·refine wb h h.len.symm (by rw [h.attrs]; exact h.okb.cel x hx) fun i hi=>by simp only [oL]; omega
theorem Mrg.symm(h : Mrg a b) : Mrg b a:=⟨h.okb,h.oka,h.names.symm,h.attrs.symm⟩
theorem Mrg.left(h : Mrg a b)(h' : Mrg b c)(hn : a.cells.length + b.cells.length≤4096) : Mrg (oM a b) c :=
 ⟨Eh h (Nat.le_trans AD hn),h'.okb,(lz h).trans (h.names.trans h'.names),h.attrs.trans h'.attrs⟩
theorem Mrg.right(h : Mrg a b)(h' : Mrg b c)(hn : b.cells.length + c.cells.length≤4096) : Mrg a (oM b c) :=
 ⟨h.oka,Eh h' (Nat.le_trans AD hn),h.names.trans (lz h').symm,h.attrs⟩
theorem Arr.ext{x y : Arr}(h1 : x.dims = y.dims)(h2 : x.attrs = y.attrs)(h3 : x.cells = y.cells) : x = y:=by cases x; cases y; simp_all
end
end Go.Proofs.YtpejdgkaapnekaaGreat
namespace Go.Proofs.YtpejdgkaapnekaaGreat
open Go Go.Abs
def sy(d : Dim) : Int:=d.hi - d.lo + 1
def He : Int→List Dim→Int×Int
 | n,[]=>(n,0)
 | n,d::r=>if (4611686018427387904 : Int) / sy d < n then (0,14) else He (n * sy d) r
def Ok(ds : List Dim) : Int×Int:=if dp ds≠0 then (0,dp ds) else if ds.any (fun d=>d.hi == 1073741825) then (0,3) else He 1 ds
def qJ : List Dim→Int
 | []=>1
 | d::r=>sy d * qJ r
theorem AY{d : Dim}(h : eo d.lo d.hi = true) : 0 < sy d:=by
 have:=boundsF_ok.1 h
 unfold sy; omega
structure Resh (a : Arr) (es : List Dim) : Prop where
 oka : OkA a.dims a.attrs a.cells
 sch : cR es a.attrs = 0
 fin : ∀ i,i < a.dims.length→(at_ a.dims i).hi≤1073741824
 fin' : ∀ i,i < es.length→(at_ es i).hi≤1073741824
 same : qJ a.dims = qJ es
section
variable {a : Arr} {es : List Dim}
theorem Resh.ext(h : Resh a es) : (∀ d∈a.dims,0 < sy d)∧∀ d∈es,0 < sy d :=
 ⟨fun d hd=>AY ((l8 (dQ h.oka.sch).1).2.2.1 d hd).1,fun d hd=>AY ((l8 (dQ h.sch).1).2.2.1 d hd).1⟩
theorem Resh.cell(h : Resh a es){c : Cell}(hc : c∈a.cells) : c.at'.length = a.dims.length∧∀ i,i < a.dims.length→(at_ a.dims i).lo≤at_ c.at' i∧at_ c.at' i≤(at_ a.dims i).hi:=by
 obtain ⟨h1,h2,h3,h4⟩:=cellF_ok.1 (h.oka.cel c hc)
 rw [dv h1] at h3
 refine ⟨h1,fun i hi=>?_⟩
 have:=h3 i hi
 unfold dX at this
 omega
end
end Go.Proofs.YtpejdgkaapnekaaGreat
namespace Go.Proofs.YtpejdgkaapnekaaGreat
open Go Go.Abs
attribute [local irreducible] ac OkC ao ax ap aJ
set_option maxRecDepth 10000
structure Dok (ds : List Dim) : Prop where
 len : 1≤ds.length∧ds.length≤4
 bnd : ∀ i,i < ds.length→-1073741824≤(at_ ds i).lo∧(at_ ds i).lo≤1073741824∧(at_ ds i).lo≤(at_ ds i).hi∧(at_ ds i).hi≤1073741825
 ext : ∀ i,i < ds.length→1≤(at_ ds i).hi - (at_ ds i).lo + 1
structure Vok (ds : List Dim) : Prop where
 dok : Dok ds
 fin : ∀ i,i < ds.length→(at_ ds i).hi≤1073741824
 vol : (Ok ds).1 = qJ ds
 part : ∀ i,i < ds.length→qJ (ds.take i) * ((at_ ds i).hi - (at_ ds i).lo + 1)≤4611686018427387904
 all : qJ ds≤4611686018427387904
end Go.Proofs.YtpejdgkaapnekaaGreat
namespace Go.Proofs.YtpejdgkaapnekaaGreat
open Go Go.Abs
attribute [local irreducible] ac OkC ao ax ap aJ OkR qy cx ip ul
set_option maxRecDepth 10000
end Go.Proofs.YtpejdgkaapnekaaGreat
namespace Go.Proofs.YtpejdgkaapnekaaGreat
open Go Go.Abs
def iX{α : Type}[Inhabited α](l : List α)(ks : List Int) : List α:=ks.map fun k=>at_ l k.toNat
def Lq(ks : List Int)(c : Cell) : Cell:=⟨iX c.at' ks,c.vals⟩
theorem yk : ∀ {m : Nat} {l : List Nat},l.Nodup→(∀ x∈l,x < m)→l.length≤m
 | 0,l,_,h=>by
   cases l with
   | nil=>simp
   | cons x r=>exact absurd (h x List.mem_cons_self) (Nat.not_lt_zero _)
 | m + 1,l,hn,h=>by
   by_cases hm : m∈l
   ·have h1:=yk (m:=m) (l:=l.erase m) (hn.erase m) fun x hx=>by
     have h2:=(hn.mem_erase_iff).1 hx
     have:=h x h2.2
     omega
    rw [List.length_erase_of_mem hm] at h1
    omega
   ·have h1:=yk (m:=m) (l:=l) hn fun x hx=>by
     have:=h x hx
     have : x≠m:=fun e=>hm (e ▸ hx)
     omega
    omega
theorem JG{l : List Nat}{n : Nat}(hn : l.Nodup)(hl : l.length = n)(h : ∀ x∈l,x < n){i : Nat}(hi : i < n) : i∈l:=by
 by_cases hm : i∈l
 ·exact hm
 ·have h1:=yk (m:=n) (l:=i::l) (List.nodup_cons.2 ⟨hm,hn⟩) fun x hx=>by
   rcases List.mem_cons.1 hx with rfl | hx
   ·exact hi
   ·exact h x hx
  simp only [List.length_cons] at h1
  omega
structure Tran (a : Arr) (names : List (List UInt8)) : Prop where
 oka : OkA a.dims a.attrs a.cells
 len : names.length = a.dims.length
 all : ∀ n∈names,¬ gT a.dims n < 0
 nd : (names.map (gT a.dims)).Nodup
def ixs(ds : List Dim)(names : List (List UInt8)) : List Int:=names.map (gT ds)
def wZ(a : Arr)(names : List (List UInt8)) : Arr:=⟨iX a.dims (ixs a.dims names),a.attrs,bE (a.cells.map (Lq (ixs a.dims names)))⟩
theorem Ax{α : Type}[Inhabited α]{l : List α}{ks : List Int}{i : Nat}(h : i < ks.length) : at_ (iX l ks) i = at_ l (at_ ks i).toNat:=by
 unfold iX; rw [eQ h]
theorem ym{α : Type}[Inhabited α]{l : List α}{ks : List Int} : (iX l ks).length = ks.length:=by simp [iX]
theorem F2{ds : List Dim}(hn : (ds.map Dim.name).Nodup){j : Nat}(hj : j < ds.length){n : List UInt8}(h : (at_ ds j).name = n) : gT ds n = (j : Int):=by
 have h0 : ¬ gT ds n < 0:=fun hx=>by
  have:=lw hx _ (bM hj)
  simp [h] at this
 obtain ⟨k,h1,h2,h3,_⟩:=qB h0
 have:=F3 hn h2 hj (h3.trans h.symm)
 rw [h1,this]
section
variable {a : Arr} {names : List (List UInt8)}
theorem Tran.ix(h : Tran a names){i : Nat}(hi : i < names.length) : ∃ k : Nat,at_ (ixs a.dims names) i = (k : Int)∧k < a.dims.length∧(at_ a.dims k).name = at_ names i:=by
 obtain ⟨k,h1,h2,h3,_⟩:=qB (h.all _ (bM hi))
 exact ⟨k,by unfold ixs; rw [eQ hi,h1],h2,h3⟩
theorem kR : (ixs a.dims names).length = names.length:=by simp [ixs]
theorem Tran.nms(h : Tran a names) : (wZ a names).dims.map Dim.name = names:=by
 refine gY (by simp [wZ,iX,ixs]) fun i hi=>?_
 have hi' : i < names.length:=by simpa [wZ,iX,ixs] using hi
 obtain ⟨k,h1,h2,h3⟩:=h.ix hi'
 rw [eQ (by show i < (iX _ _).length; rw [ym,kR]; exact hi')]
 show (at_ (iX a.dims (ixs a.dims names)) i).name = _
 rw [Ax (by rw [kR]; exact hi'),h1]
 exact h3
theorem Tran.namesNd(h : Tran a names) : names.Nodup:=by
 have:=h.nd
 rw [List.Nodup,List.pairwise_map] at this
 exact this.imp fun hne e=>hne (by rw [e])
theorem Tran.onto(h : Tran a names){i : Nat}(hi : i < a.dims.length) : ∃ j,j < names.length∧at_ (ixs a.dims names) j = (i : Int):=by
 have hlt : ∀ x∈(ixs a.dims names).map Int.toNat,x < a.dims.length:=fun x hx=>by
  obtain ⟨y,hy,rfl⟩:=List.mem_map.1 hx
  obtain ⟨j,hj,rfl⟩:=gZ hy
  rw [kR] at hj
  obtain ⟨k,h1,h2,_⟩:=h.ix hj
  rw [h1]; simpa using h2
 have hnd : ((ixs a.dims names).map Int.toNat).Nodup:=by
  rw [List.Nodup,List.pairwise_map]
  refine List.Pairwise.imp_of_mem ?_ h.nd
  intro x y hx hy hne e
  apply hne
  obtain ⟨j,hj,rfl⟩:=gZ (l:=ixs a.dims names) hx
  obtain ⟨j',hj',rfl⟩:=gZ (l:=ixs a.dims names) hy
  rw [kR] at hj hj'
  obtain ⟨k,h1,_⟩:=h.ix hj
  obtain ⟨k',h1',_⟩:=h.ix hj'
  rw [h1,h1'] at e ⊢
  have e' : k = k':=by simpa using e
  rw [e']
 have:=JG hnd (by rw [List.length_map,kR]; exact h.len) hlt hi
 obtain ⟨y,hy,e⟩:=List.mem_map.1 this
 obtain ⟨j,hj,rfl⟩:=gZ hy
 rw [kR] at hj
 obtain ⟨k,h1,_⟩:=h.ix hj
 exact ⟨j,hj,by rw [h1] at e ⊢; simp at e; rw [e]⟩
theorem Tran.cell(h : Tran a names){c : Cell}(hc : c∈a.cells) : c.at'.length = a.dims.length:=(cellF_ok.1 (h.oka.cel c hc)).1
theorem Tran.old(h : Tran a names){i : Nat}(hi : i < a.dims.length) : ∃ j : Nat,j < names.length∧gT (wZ a names).dims (at_ a.dims i).name = (j : Int)∧at_ (ixs a.dims names) j = (i : Int):=by
 obtain ⟨j,hj,he⟩:=h.onto hi
 refine ⟨j,hj,F2 (by rw [h.nms]; exact h.namesNd) (by show j < (iX _ _).length; rw [ym,kR]; exact hj) ?_,he⟩
 show (at_ (iX a.dims (ixs a.dims names)) j).name = _
 rw [Ax (by rw [kR]; exact hj),he]
 rfl
end
end Go.Proofs.YtpejdgkaapnekaaGreat
namespace Go.Proofs.YtpejdgkaapnekaaGreat
open Go Go.Abs
def BL(a : Arr)(n m : List UInt8) : Arr :=
 if 0≤gT a.dims n then ⟨a.dims.set (gT a.dims n).toNat ⟨m,(at_ a.dims (gT a.dims n).toNat).lo,(at_ a.dims (gT a.dims n).toNat).hi⟩,a.attrs,a.cells⟩
 else ⟨a.dims,a.attrs.set (atX a.attrs n).toNat ⟨m,(at_ a.attrs (atX a.attrs n).toNat).type⟩,a.cells⟩
theorem attrsGo_iff : ∀ {ats : List Attr} {met : List (List UInt8)},eP met ats = 0↔(∀ x∈ats,eJ x.name = true∧x.name ∉ met∧1≤x.type∧x.type≤4)∧(ats.map Attr.name).Nodup
 | [],met=>by simp [eP]
 | x::r,met=>by
   have ih:=attrsGo_iff (ats:=r) (met:=met ++ [x.name])
   simp only [eP]
   constructor
   ·intro h
    split at h
    ·omega
    split at h
    ·omega
    rename_i h1 h2
    obtain ⟨i1,i2⟩:=ih.1 h
    simp only [Bool.or_eq_true,Bool.not_eq_true',not_or,Bool.not_eq_false,Bool.not_eq_true,List.contains_eq_mem,decide_eq_true_eq,decide_eq_false_iff_not] at h1
    refine ⟨fun y hy=>?_,?_⟩
    ·rcases List.mem_cons.1 hy with rfl | hy
     ·exact ⟨h1.1,h1.2,by omega,by omega⟩
     ·obtain ⟨j1,j2,j3,j4⟩:=i1 y hy
      exact ⟨j1,fun hm=>j2 (List.mem_append.2 (.inl hm)),j3,j4⟩
    ·rw [List.map_cons,List.nodup_cons]
     refine ⟨fun hm=>?_,i2⟩
     obtain ⟨y,hy,he⟩:=List.mem_map.1 hm
     exact (i1 y hy).2.1 (by rw [he]; simp)
   ·rintro ⟨h1,h2⟩
    rw [List.map_cons,List.nodup_cons] at h2
    obtain ⟨j1,j2,j3,j4⟩:=h1 x List.mem_cons_self
    rw [if_neg (by simp [j1,j2]),if_neg (by omega)]
    refine ih.2 ⟨fun y hy=>?_,h2.2⟩
    obtain ⟨k1,k2,k3,k4⟩:=h1 y (List.mem_cons_of_mem _ hy)
    refine ⟨k1,fun hm=>?_,k3,k4⟩
    rcases List.mem_append.1 hm with hm | hm
    ·exact k2 hm
    ·exact h2.1 (List.mem_map.2 ⟨y,hy,List.mem_singleton.1 hm⟩)
theorem DT{ats : List Attr}{n : List UInt8}(h : ¬ atX ats n < 0) : ∃ k : Nat,atX ats n = (k : Int)∧k < ats.length∧(at_ ats k).name = n:=by
 obtain ⟨k,h1,h2,h3,_⟩:=sb h
 exact ⟨k,by unfold atX; rw [h1]; simp,h2,by simpa using h3⟩
theorem dimX_mem{ds : List Dim}{n : List UInt8} : 0≤gT ds n↔n∈ds.map Dim.name:=by
 constructor
 ·intro h
  obtain ⟨k,_,h2,h3,_⟩:=qB (ds:=ds) (name:=n) (by omega)
  exact List.mem_map.2 ⟨_,bM h2,h3⟩
 ·intro h
  obtain ⟨d,hd,rfl⟩:=List.mem_map.1 h
  by_cases h0 : gT ds d.name < 0
  ·have:=lw h0 d hd
   simp at this
  ·omega
theorem atX_mem{ats : List Attr}{n : List UInt8} : 0≤atX ats n↔n∈ats.map Attr.name:=by
 constructor
 ·intro h
  obtain ⟨k,_,h2,h3⟩:=DT (ats:=ats) (n:=n) (by omega)
  exact List.mem_map.2 ⟨_,bM h2,h3⟩
 ·intro h
  obtain ⟨d,hd,rfl⟩:=List.mem_map.1 h
  by_cases h0 : atX ats d.name < 0
  ·have:=lw h0 d hd
   simp at this
  ·omega
structure Ren (a : Arr) (n m : List UInt8) : Prop where
 oka : OkA a.dims a.attrs a.cells
 has : n∈a.dims.map Dim.name∨n∈a.attrs.map Attr.name
 nm : eJ m = true
 new : m = n∨(m ∉ a.dims.map Dim.name∧m ∉ a.attrs.map Attr.name)
section
variable {a : Arr} {n m : List UInt8}
theorem Ren.nd(h : Ren a n m) : (a.dims.map Dim.name).Nodup∧(a.attrs.map Attr.name).Nodup∧∀ x,x∈a.attrs.map Attr.name→x ∉ a.dims.map Dim.name:=by
 have hs:=attrsGo_iff.1 (dQ h.oka.sch).2.2.2
 refine ⟨h.oka.dims.2.2.2,hs.2,fun x hx hd=>?_⟩
 obtain ⟨t,ht,rfl⟩:=List.mem_map.1 hx
 exact (hs.1 t ht).2.1 hd
theorem Ren.which(h : Ren a n m) : (∃ k : Nat,gT a.dims n = (k : Int)∧k < a.dims.length∧(at_ a.dims k).name = n∧BL a n m = ⟨a.dims.set k ⟨m,(at_ a.dims k).lo,(at_ a.dims k).hi⟩,a.attrs,a.cells⟩) ∨
  (n ∉ a.dims.map Dim.name∧∃ k : Nat,atX a.attrs n = (k : Int)∧k < a.attrs.length∧(at_ a.attrs k).name = n∧BL a n m = ⟨a.dims,a.attrs.set k ⟨m,(at_ a.attrs k).type⟩,a.cells⟩):=by
 by_cases h0 : 0≤gT a.dims n
 ·obtain ⟨k,h1,h2,h3,_⟩:=qB (ds:=a.dims) (name:=n) (by omega)
  refine .inl ⟨k,h1,h2,h3,?_⟩
  unfold BL
  rw [if_pos h0,h1]
  rfl
 ·have hd : n ∉ a.dims.map Dim.name:=fun hh=>h0 (dimX_mem.2 hh)
  have ha:=h.has.resolve_left hd
  have h4:=atX_mem.2 ha
  obtain ⟨k,h1,h2,h3⟩:=DT (ats:=a.attrs) (n:=n) (by omega)
  refine .inr ⟨hd,k,h1,h2,h3,?_⟩
  unfold BL
  rw [if_neg h0,h1]
  rfl
end
end Go.Proofs.YtpejdgkaapnekaaGreat
namespace Go.Proofs.YtpejdgkaapnekaaGreat
open Go Go.Abs
attribute [local irreducible] ac OkC ao ax ap aJ
set_option maxRecDepth 10000
theorem Hc(ds : List Dim)(ats : List Attr)(l : List Cell)(ys : List (List D))(hd : l.Pairwise b9)(h1 : ds.length≤1048576)(h2 : ats.length≤1048576)(h3 : ∀ c∈l,py c)(hl : l.length≤4096)(hy : ys = l.map av) : CallA Tryz.prog 101 [.one (.d (aH ds)),.one (.d (aF ats)),.one (.d (.sl 2 48 ys))] [] (.tup [(true,[.d (aH ds),.d (aF ats),.d (bg (bE l))]),(false,[.d (.int .i64 0)])]) []:=by
 subst hy
 have h:=M4 ds ats l hd h1 h2 h3
 unfold fx at h
 rw [if_neg (by omega)] at h
 exact h
end Go.Proofs.YtpejdgkaapnekaaGreat
