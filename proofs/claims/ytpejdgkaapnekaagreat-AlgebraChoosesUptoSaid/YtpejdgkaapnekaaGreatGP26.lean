import Derived.Test.YtpejdgkaapnekaaGreatGP25
import Derived.Test.YtpejdgkaapnekaaGreatGP21
import Derived.Test.YtpejdgkaapnekaaGreatGP18
import Derived.Test.YtpejdgkaapnekaaGreatGP17
import Derived.Test.YtpejdgkaapnekaaGreatGP16
set_option linter.unusedVariables false
set_option linter.unusedSimpArgs false
set_option linter.unnecessarySimpa false
set_option maxHeartbeats 1000000
namespace Go.Proofs.YtpejdgkaapnekaaGreat
open Go Go.Abs
attribute [local irreducible] ac OkC ao ax ap aJ OkR qy cx ip ul
set_option maxRecDepth 10000
def eZ(li : LI)(fr : List (Nat×AV))(A C : List D)(r : Nat)(l : List Val) : Sto :=
 [(1000000,.loop li fr .ready none),(1000001,.box (A.map .d)),(1000002,.box (C.map .d)),(1000003,.box [.own r l.length]),(r,.row 4 40 (l.map ab))]
theorem KN(li : LI)(fr : List (Nat×AV))(A C : List D)(hf : ∀ a,iF (eZ li fr A C 2000000 a) fr = true) : FamW (eZ li fr A C 2000000):=by
 refine ⟨fun a i e h=>?_,fun a=>?_,fun a=>⟨li,fr,.ready,none,rfl⟩,fun a=>rfl⟩
 ·unfold eZ at h
  rcases ah h with ⟨rfl,_⟩ | ⟨_,h⟩
  ·omega
  rcases ah h with ⟨rfl,_⟩ | ⟨_,h⟩
  ·omega
  rcases ah h with ⟨rfl,_⟩ | ⟨_,h⟩
  ·omega
  rcases ah h with ⟨rfl,_⟩ | ⟨_,h⟩
  ·omega
  rcases ah h with ⟨rfl,_⟩ | ⟨_,h⟩
  ·omega
  ·exact nomatch h
 ·show (iF (eZ li fr A C 2000000 a) fr && (dY (eZ li fr A C 2000000 a) (A.map .d) && (dY (eZ li fr A C 2000000 a) (C.map .d) && _))) = true
  rw [hf a,oH,oH]; rfl
theorem QQ{li : LI}{fr : List (Nat×AV)}{A C : List D}(ds : List Dim)(ats : List Attr)(at' : List Int)(vs : List Val)(a : List Val)(x : Scalar)
  (hps : (iM li.n li.params.toList && Nat.beq li.params.toList.length 1) = true)
  (h : ∀ (w0 : World) (σ0 : Sig) (φ0 : Pl) (M : Nat→Prop) (B : Nat),OkC Tryz.prog ⟨w0,σ0,φ0,M,li.n,some B,[]⟩ li.assign ⟨fE li.params.toList [cY x] fr,eZ li fr A C 2000000 a⟩
   (ip Tryz.prog 1000000 ⟨w0,σ0,φ0,M,li.n,some B,[]⟩ li.body (.one (.d (.bool (eE ds ats at' vs a x).1))) (eZ li fr A C 2000000 (eE ds ats at' vs a x).2))) :
  YieldA Tryz.prog 1000000 [cY x] (eZ li fr A C 2000000 a) (.one (.d (.bool (eE ds ats at' vs a x).1))) (eZ li fr A C 2000000 (eE ds ats at' vs a x).2) :=
 pp ⟨by omega,by omega⟩ rfl hps h
def QR(i : Nat) : Nat:=bif Nat.beq i 2000000 then 5 else i
def QS(i : Nat) : Nat:=bif Nat.beq i 1000004 then 2000000 else i
theorem vo{sto : Sto}{li : LI}{fr : List (Nat×AV)}{A C : List D}{l : List Val}{v : Val}{m : Nat}(hm : m≤l.length)(h1 : Abs.look sto 1000000 = some (.loop li fr .ready none))(h2 : Abs.look sto 1000001 = some (.box (A.map .d)))(h3 : Abs.look sto 1000002 = some (.box (C.map .d)))
  (h5 : Abs.look sto 1000003 = some (.box [.own 2000000 (m + 1)])) (h6 : Abs.look sto 2000000 = some (.row 4 40 ((l.map ab).take m ++ [ab v]))) : SubL sto (eZ li fr A C 2000000 (l.take m ++ [v])):=by
 refine ⟨h1,h2,h3,?_,?_,trivial⟩
 ·rw [h5]; simp [Nat.min_eq_left hm]
 ·rw [h6]; simp [List.map_take]
theorem Di{sto : Sto}{li : LI}{fr : List (Nat×AV)}{A C : List D}{l : List Val}{v : Val}(h1 : Abs.look sto 1000000 = some (.loop li fr .ready none))(h2 : Abs.look sto 1000001 = some (.box (A.map .d)))(h3 : Abs.look sto 1000002 = some (.box (C.map .d)))
  (h5 : Abs.look sto 1000003 = some (.box [.own 2000000 (l.length + 1)])) (h6 : Abs.look sto 2000000 = some (.row 4 40 ((l.map ab).take l.length ++ [ab v]))) : SubL sto (eZ li fr A C 2000000 (l ++ [v])):=by
 have:=vo (Nat.le_refl _) h1 h2 h3 h5 h6
 rwa [List.take_length] at this
set_option maxHeartbeats 4000000 in
theorem QC(ds : List Dim)(ats : List Attr)(cs : D)(s : Scalar)(at' : List Int)(vs : List Val)(hp : cW s = true)(hsz : (aS s).length≤64)(hn : ∀ z∈aS s,pI ds ats z)(hat : at'.length = ds.length)(hvs : vs.length = ats.length) :
  CallA Tryz.prog 102 [.agg [.d (aH ds),.d (aF ats),.d cs],cY s,.agg [.d (aL at'),.d (az vs)]] [] (aW (dW ds ats at' vs s)) []:=by
 obtain ⟨h0,hR⟩:=LJ (ds:=ds) (ats:=ats) (at':=at') (vs:=vs) s hp hn [] (by simp; omega)
 refine enter ae Tryz.func102 rfl (by decide +kernel) rfl fun hok w0 σ0 φ0 M=>?_
 clear hok
 repeat' (first|(refine h1H ?_; (refine h0H ?_; refine aw 16 J J J J J J J J (F4 _) J J J ?_))|refine wG ?_)
 have hC:=fun li fr hf hY=>F5 (eZ li fr [aH ds,aF ats,cs] [aL at',az vs] 2000000) (KN li fr _ _ hf) (eE ds ats at' vs) (tQ ds ats) hY s [] h0
 rw [hR] at hC
 refine AB (tv 4 5 (k:=4) (b:=40) rfl rfl) ?_
 refine pm (f:=216) (caps:=[.ptr (pJ s)]) (rav:=.tup []) [0,2,4,5] 10 rfl rfl rfl rfl (vY QS QR (hC _ _ (fun a=>?_) (fun a x hok=>?_)) rfl rfl rfl rfl rfl rfl rfl) rfl (fun h=>?_) (fun h=>?_)
 ·rfl
 ·obtain ⟨hnm,hpx,h64,hargs⟩:=hok
  refine QQ ds ats at' vs a x rfl fun w0 σ0 φ0 M B=>?_
  clear hC hR h0
  by_cases h1 : x.op = 1
  ·have e : eE ds ats at' vs a x = (true,a ++ [x.val]):=by simp [eE,h1]
   have hb1 : (x.op == 1) = true:=by simp [h1]
   rw [e]
   repeat' (first|(refine h1H ?_; (refine h0H ?_; refine d7 ae J J J J J J J J J J J J J (by show List.length a≤100000000; omega) (Nat.le_of_ble_eq_true J) (Nat.le_of_ble_eq_true J) ?_))|refine wG ?_|(show cx _ _ _ _ _; refine fD J ?_ ?_))
   ·rfl
   ·exact Di (by kernel_rfl) (by kernel_rfl) (by kernel_rfl) (by kernel_rfl) (by kernel_rfl)
  have hb1 : (x.op == 1) = false:=by simp [h1]
  by_cases h2 : x.op = 2
  ·have hb2 : (x.op == 2) = true:=by simp [h2]
   have e : eE ds ats at' vs a x = (true,a ++ [at_ vs (atI ats x.name).toNat]):=by simp [eE,h2]
   have hr0:=hnm.1 h2
   obtain ⟨hr1,hr2⟩:=fh (p:=fun a : Attr=>a.name == x.name) (l:=ats) (k:=0) hr0
   rw [e]
   repeat' (first|(refine h1H ?_; (refine h0H ?_; refine d7 ae J J J J J J J J J J J J J (by show List.length a≤100000000; omega) (Nat.le_of_ble_eq_true J) (Nat.le_of_ble_eq_true J) ?_))|(refine h3H ?_; (refine h2H ?_; refine d_l J J (aA J J J J J J (FP _ _ _ _) J) ?_))|refine wG ?_|(show cx _ _ _ _ _; refine fD J ?_ ?_))
   ·rfl
   ·exact Di (by kernel_rfl) (by kernel_rfl) (by kernel_rfl) (by kernel_rfl) (by kernel_rfl)
  have hb2 : (x.op == 2) = false:=by simp [h2]
  by_cases h3 : x.op = 3
  ·have hb3 : (x.op == 3) = true:=by simp [h3]
   have e : eE ds ats at' vs a x = (true,a ++ [⟨2,at_ at' (lj ds x.name).toNat,1,[]⟩]):=by simp [eE,h3]
   have hr0:=hnm.2 h3
   obtain ⟨hr1,hr2⟩:=fh (p:=fun a : Dim=>a.name == x.name) (l:=ds) (k:=0) hr0
   rw [e]
   repeat' (first|(refine h1H ?_; (refine h0H ?_; refine d7 ae J J J J J J J J J J J J J (by show List.length a≤100000000; omega) (Nat.le_of_ble_eq_true J) (Nat.le_of_ble_eq_true J) ?_))|(refine h3H ?_; (refine h2H ?_; first|refine d_l J J (aA J J J J J J (FO _ _ _ _) J) ?_|refine d_l J J (aA J J J J J J (N2 _) J) ?_))|refine wG ?_|(show cx _ _ _ _ _; refine fD J ?_ ?_))
   ·rfl
   ·exact Di (by kernel_rfl) (by kernel_rfl) (by kernel_rfl) (by kernel_rfl) (by kernel_rfl)
  have hb3 : (x.op == 3) = false:=by simp [h3]
  obtain ⟨hop,hlen⟩:=jl hpx h1 h2 h3
  have hal:=hargs hop.1
  obtain ⟨m,hm⟩ : ∃ m : Nat,a.length = m + x.args.length:=⟨a.length - x.args.length,by omega⟩
  have hml : a.length - x.args.length = m:=by omega
  have hsub : ((a.length : Int) - (x.args.length : Int)) = (m : Int):=by omega
  have hC:=QE x.op (a.drop m) hop (by simp; omega)
  have e : eE ds ats at' vs a x = (true,a.take m ++ [(doF x.op (a.drop m)).1]):=by
   simp only [eE]; rw [if_neg h1,if_neg h2,if_neg h3,hml]
  rw [e]
  repeat' (first|refine wG ?_)
  simp only [List.length_map]
  rw [hsub]
  rcases Nat.eq_zero_or_pos m with h0 | h0
  ·have hC' : CallA Tryz.prog 186 [.one (.d (.int .i64 x.op)),.one (.d (.sl 4 40 ((a.map ab).take a.length)))] [] (cI (doF x.op (a.drop m))) []:=by
    have e1 : az (a.drop m) = .sl 4 40 ((a.map ab).take a.length):=by rw [List.take_of_length_le (by simp)]; simp [az,h0]
    rw [e1] at hC; exact hC
   refine d_e aq rfl rfl rfl (nJ rfl rfl rfl (by rw [h0]; rfl) rfl rfl (by simp)) ?_
   refine qI [2000000] rfl rfl rfl rfl rfl rfl rfl rfl rfl hC' rfl ?_
   repeat' (first|refine wG ?_)
   refine s_e aq rfl rfl rfl (eM rfl rfl rfl rfl rfl rfl (by omega) (by show Int.toNat (m : Int)≤List.length a; omega) (by simp)) ?_
   repeat' (first|(refine h1H ?_; (refine h0H ?_; refine d7 ae J J J J J J J J J J J J J (by show Int.toNat (m : Int)≤100000000; omega) (Nat.le_of_ble_eq_true J) (Nat.le_of_ble_eq_true J) ?_))|refine wG ?_|(show cx _ _ _ _ _; refine fD J ?_ ?_))
   ·rfl
   ·exact vo (by omega) (by kernel_rfl) (by kernel_rfl) (by kernel_rfl) (by kernel_rfl) (by kernel_rfl)
  ·have hC' : CallA Tryz.prog 186 [.one (.d (.int .i64 x.op)),.one (.d (.sl 4 40 (((a.map ab).drop m).take (a.length - m))))] [] (cI (doF x.op (a.drop m))) []:=by
    have e1 : az (a.drop m) = .sl 4 40 (((a.map ab).drop m).take (a.length - m)):=by
     rw [List.take_of_length_le (by simp)]; simp [az,List.map_drop]
    rw [e1] at hC; exact hC
   refine d_e aq rfl rfl rfl (pg rfl rfl rfl rfl rfl rfl (by omega) (by show Int.toNat (m : Int)≤List.length a; omega) (by simp)) ?_
   refine qI [2000000] rfl rfl rfl rfl rfl rfl rfl rfl rfl hC' rfl ?_
   repeat' (first|refine wG ?_)
   refine s_e aq rfl rfl rfl (eM rfl rfl rfl rfl rfl rfl (by omega) (by show Int.toNat (m : Int)≤List.length a; omega) (by simp)) ?_
   repeat' (first|(refine h1H ?_; (refine h0H ?_; refine d7 ae J J J J J J J J J J J J J (by show Int.toNat (m : Int)≤100000000; omega) (Nat.le_of_ble_eq_true J) (Nat.le_of_ble_eq_true J) ?_))|refine wG ?_|(show cx _ _ _ _ _; refine fD J ?_ ?_))
   ·rfl
   ·exact vo (by omega) (by kernel_rfl) (by kernel_rfl) (by kernel_rfl) (by kernel_rfl) (by kernel_rfl)
 ·rintro ⟨w1,σ1,φ1,M1,n1,rd1,mk1⟩ ⟨hn1,hrd,_⟩
  dsimp only at hn1 hrd
  subst hn1 hrd
  clear hC hR h0
  refine bu (qA (f':=[(6,.one (.ref 3 0)),(7,.one (.ref 4 0))]) (s':=[(3,.box [.d (.int .i64 0),.d (.int .i64 0),.d (.int .i64 0),.d (.str [])]),(4,.box [.own 16 1]),(16,.row 4 40 [ab (dW ds ats at' vs s)])]) (ai (by kernel_rfl) (ai (by kernel_rfl) aT)) (ai (by kernel_rfl) (ai (by kernel_rfl) (ai (by kernel_rfl) aT)))) ?_
  repeat' (first|(refine h1H ?_; (refine I2 ?_; refine s_e aq J J J (db J J J J J J) ?_))|refine wG ?_)
  rfl
 ·exact absurd h (by simp [eZ])
end Go.Proofs.YtpejdgkaapnekaaGreat
namespace Go.Proofs.YtpejdgkaapnekaaGreat
open Go Go.Abs
attribute [local irreducible] ac OkC ao ax ap aJ
set_option maxRecDepth 10000
theorem tF : ∀ {l : List Scalar} {x : Scalar},x∈l→(aS x).length≤(aO l).length
 | [],x,h=>by simp at h
 | y::r,x,h=>by
   simp only [aO,List.length_append]
   rcases List.mem_cons.1 h with rfl | h
   ·omega
   ·have:=tF h; omega
def oS(l : List Int) : Sum Int (List Int)→Sum Int (List Int)
 | .inl e=>.inl e
 | .inr t=>.inr (l ++ t)
theorem Gh{l m : List Int} : ∀ {x : Sum Int (List Int)},oS (l ++ m) x = oS l (oS m x)
 | .inl _=>rfl
 | .inr t=>by simp [oS]
def Ex(o : Int) : Sum Int (List Int)→Int×Int
 | .inl e=>(0,e)
 | .inr l=>bB o l
theorem Gi{cst : Val→Int}{ds : List Dim}{ats : List Attr}{s : Scalar} : ce cst ds ats s = if s.op = 1 then (cst s.val,0) else if s.op = 2 then iR ats s.name else if s.op = 3 then kE ds s.name else Ex s.op (bX cst ds ats s.args):=by
 rw [kf]
 cases bX cst ds ats s.args <;> rfl
theorem PH{sto : Sto}{l : List Int}{t : Int}(h : Abs.look sto 5 = some (.row 1 8 ((l.map bD).take l.length ++ [[.int .i64 t]]))) : Abs.look sto 5 = some (.row 1 8 ((l ++ [t]).map bD)):=by
 rw [h,List.take_of_length_le (by simp)]; simp [bD]
theorem PI{fr : List (Nat×AV)}{l : List Int}{t : Int}(h : Abs.look fr 7 = some (.one (.own 5 (l.length + 1)))) : Abs.look fr 7 = some (.one (.own 5 (l ++ [t]).length)):=by
 rw [h]; simp
set_option maxHeartbeats 4000000 in
theorem c93(ds : List Dim)(ats : List Attr)(cs : D)(s : Scalar) : cW s = true→(aS s).length≤64→CallA Tryz.prog 93 [.agg [.d (aH ds),.d (aF ats),.d cs],cY s] [] (ie (ce gt ds ats s)) []:=by
 induction s using Scalar.ind with
 | h s ih =>
   intro hp hsz
   rw [eV,Bool.and_eq_true] at hp
   have hps:=fV hp.2
   rw [dB,List.length_append,List.length_cons,List.length_nil] at hsz
   have hlen:=lx (r:=s.args)
   have hsz2 : ∀ x∈s.args,(aS x).length≤64:=fun x hx=>by have:=tF hx; omega
   rw [Gi]
   refine enter ae Tryz.func93 rfl (by decide +kernel) rfl fun hok w0 σ0 φ0 M=>?_
   have hats : ats.length < 281474976710656:=by
    have:=(OkD.sl (hok.1 (.d (aF ats)) (by simp))).1; simpa using this
   clear hok
   by_cases h1 : s.op = 1
   ·have hb1 : (s.op == 1) = true:=by simp [h1]
    rw [if_pos h1]
    repeat' (first|refine wG ?_|(refine h4H ?_; refine ag J (fun h=>?_) (fun h=>?_)))
    all_goals simp_all [gt,ie]
   have hb1 : (s.op == 1) = false:=by simp [h1]
   rw [if_neg h1]
   by_cases h2 : s.op = 2
   ·have hb2 : (s.op == 2) = true:=by simp [h2]
    rw [if_pos h2]
    by_cases hi : atI ats s.name < 0
    ·have hd : decide (aV (fun a : Attr=>a.name == s.name) ats 0 < 0) = true:=by simpa [atI] using hi
     repeat' (first|(refine h1H ?_; (refine h0H ?_; refine aa J J J J J J J J (FG _ _) J ?_))|refine wG ?_)
     simp [iR,hi,ie]
    ·have hd : decide (aV (fun a : Attr=>a.name == s.name) ats 0 < 0) = false:=by simpa [atI] using hi
     obtain ⟨hr1,hr2⟩:=fh (p:=fun a : Attr=>a.name == s.name) (l:=ats) (k:=0) (by simpa [atI] using hi)
     repeat' (first|(refine h1H ?_; (refine h0H ?_; refine aa J J J J J J J J (FG _ _) J ?_))|refine wG ?_)
     simp [iR,hi,ie]
     rfl
   have hb2 : (s.op == 2) = false:=by simp [h2]
   rw [if_neg h2]
   by_cases h3 : s.op = 3
   ·have hb3 : (s.op == 3) = true:=by simp [h3]
    rw [if_pos h3]
    by_cases hi : lj ds s.name < 0
    ·have hd : decide (aV (fun a : Dim=>a.name == s.name) ds 0 < 0) = true:=by simpa [lj] using hi
     repeat' (first|(refine h1H ?_; (refine h0H ?_; refine aa J J J J J J J J (FH _ _) J ?_))|refine wG ?_)
     simp [kE,hi,ie]
    ·have hd : decide (aV (fun a : Dim=>a.name == s.name) ds 0 < 0) = false:=by simpa [lj] using hi
     repeat' (first|(refine h1H ?_; (refine h0H ?_; refine aa J J J J J J J J (FH _ _) J ?_))|refine wG ?_)
     simp [kE,hi,ie]
   have hb3 : (s.op == 3) = false:=by simp [h3]
   rw [if_neg h3]
   obtain ⟨hop,hal⟩:=jl hp.1 h1 h2 h3
   clear hats
   repeat' (first|refine wG ?_)
   refine bu (ee (s:=7) (id:=5) (k:=1) (b:=8) rfl rfl rfl rfl) ?_
   refine b0 21 rfl [(2,_),(3,_)] (q2Q rfl rfl) (fun (p : Nat×List Int)=>[(7,.one (.own 5 p.2.length)),(8,.one (.d (.int .i64 (p.1 : Int))))])
    (fun p=>[(0,.box [.d (aH ds),.d (aF ats),.d cs]),(1,.box [.d (.int .i64 s.op),.d (.str s.name),.d (.int .i64 s.val.kind),.d (.int .i64 s.val.num),.d (.int .i64 s.val.den),.d (.str s.val.str),.d (cu s.args)]),(5,.row 1 8 (p.2.map bD))])
    (fun p=>p.1≤s.args.length∧p.2.length = p.1∧bX gt ds ats s.args = oS p.2 (bX gt ds ats (s.args.drop p.1))) (fun p=>s.args.length - p.1) (0,[])
    (q2Q rfl rfl) (q3Q rfl rfl rfl) ?_ (fun p ⟨hk,hl,hs⟩=>?_)
   ·refine ⟨Nat.zero_le _,rfl,?_⟩
    show _ = oS [] (bX gt ds ats (s.args.drop 0))
    simp only [List.drop_zero]
    cases bX gt ds ats s.args <;> rfl
   ·by_cases hk' : p.1 < s.args.length
    ·have hd : decide ((p.1 : Int) < ((s.args.map oT).length : Int)) = true:=by simpa using hk'
     repeat' (first|(refine h1H ?_; (refine h0H ?_; refine d7 ae J J J J J J J J J J J J J (by show List.length p.2≤100000000; omega) (Nat.le_of_ble_eq_true J) (Nat.le_of_ble_eq_true J) ?_))|(refine h3H ?_; (refine h2H ?_; refine d_l J J (aA J J J J J J (ih (at_ s.args p.1) (bM (by omega)) (hps _ (bM (by omega))) (hsz2 _ (bM (by omega)))) J) ?_))|refine wG ?_|(refine h4H ?_; refine ag J (fun h=>?_) (fun h=>?_)))
     ·have hb : ¬ (ce gt ds ats (at_ s.args p.1)).2 = 0:=by simpa using h
      rw [hs,am hk']
      simp [bX,hb,oS,Ex,ie]
     have hb : (ce gt ds ats (at_ s.args p.1)).2 = 0:=by simpa using h
     refine ⟨(p.1 + 1,p.2 ++ [(ce gt ds ats (at_ s.args p.1)).1]),⟨by show p.1 + 1≤_; omega,by show (p.2 ++ [_]).length = _; simp [hl],?_⟩,by show s.args.length - (p.1 + 1) < s.args.length - p.1; omega,
      ai rfl (ai rfl ⟨PH (by kernel_rfl),trivial⟩),⟨PI (by kernel_rfl),ai rfl aT⟩,ai rfl (q1Q rfl)⟩
     show bX gt ds ats s.args = oS (p.2 ++ [_]) (bX gt ds ats (s.args.drop (p.1 + 1)))
     rw [hs,am hk',Gh]
     simp only [bX,hb,ne_eq,not_true_eq_false,if_false]
     cases bX gt ds ats (s.args.drop (p.1 + 1)) <;> rfl
    ·have hd : decide ((p.1 : Int) < ((s.args.map oT).length : Int)) = false:=by simpa using hk'
     replace hk' : p.1 = s.args.length:=by omega
     have hts : bX gt ds ats s.args = .inr p.2:=by
      rw [hs,hk',List.drop_length]; simp [bX,oS]
     have hC' : CallA Tryz.prog 178 [.one (.d (.int .i64 s.op)),.one (.d (.sl 1 8 ((p.2.map bD).take p.2.length)))] [] (ie (bB s.op p.2)) []:=by
      have:=OD s.op p.2 hop (by omega)
      have e1 : aL p.2 = .sl 1 8 ((p.2.map bD).take p.2.length):=by rw [List.take_of_length_le (by simp)]; rfl
      rw [e1] at this; exact this
     rw [hts]
     repeat' (first|refine wG ?_)
     refine kq [5] rfl rfl rfl rfl rfl rfl rfl rfl rfl hC' rfl ?_
     repeat' (first|refine wG ?_)
     all_goals rfl
theorem Mn(ds : List Dim)(ats : List Attr)(at' : List Int)(vs : List Val) : CallA Tryz.prog 131 [.one (.d (aH ds)),.one (.d (aF ats)),.agg [.d (aL at'),.d (az vs)]] [] (.one (.d (.int .i64 (cZ ds ats at' vs)))) []:=by
 refine enter ae Tryz.func131 rfl (by decide +kernel) rfl fun hok w0 σ0 φ0 M=>?_
 have h1:=hok.1.sl.1; have h2:=hok.2.1.sl.1; have h3:=OkD.sl (hok.2.2.1 (.d (aL at')) (by simp)); have h4:=OkD.sl (hok.2.2.1 (.d (az vs)) (by simp)); clear hok
 replace h3:=h3.1; replace h4:=h4.1; simp only [List.length_map] at h1 h2 h3 h4
 repeat' (first|(refine h1H ?_; (refine h0H ?_; refine aa J J J J J J J J (IW _ _) J ?_))|(refine h3H ?_; (refine h2H ?_; refine d_l J J (aA J J J J J J (Mo _ _ _ _ _) J) ?_))|refine wG ?_|(refine h1H ?_; (refine h5H ?_; refine aG J J J J (fun h=>?_) (fun h=>?_)))|(refine h4H ?_; first|refine ag J (fun h=>?_) (fun h=>?_)|refine aB 6 J [(1,_),(5,_)] (q2Q J J) (fun (k : Nat)=>[(7,.one (.d (.int .i64 k)))]) (fun (k : Nat)=>k≤ats.length∧at'.length = ds.length∧vs.length = ats.length∧ofF ds at' = true∧cZ ds ats at' vs = f8 (ats.drop k) (vs.drop k)) (fun (k : Nat)=>ats.length - k) 0 (q1Q J) ?_ (fun k ⟨hk,hq,hq2,hof,hs⟩=>?_))|(show Exists _; refine Exists.intro (k + 1) ⟨?_,?_,wK,(q1Q J),(q2Q J J)⟩))
 all_goals (try (((simp_all [cZ,f8,am,List.drop_eq_nil_of_le]) <;> exact wL); done))
theorem c89(ds : List Dim)(ats : List Attr)(cs : List Cell) : CallA Tryz.prog 89 [.agg [.d (aH ds),.d (aF ats),.d (bg cs)]] [] (.one (.d (.int .i64 (cE ds ats cs)))) []:=by
 refine enter ae Tryz.func89 rfl (by decide +kernel) rfl fun hok w0 σ0 φ0 M=>?_
 have h1:=(OkD.sl (hok.1 (.d (bg cs)) (by simp))).1; clear hok; simp only [List.length_map] at h1
 repeat' (first|(refine h1H ?_; (refine h0H ?_; refine aa J J J J J J J J (Oc _ _) J ?_))|(refine h3H ?_; (refine h2H ?_; first|refine d_l J J (aA J J J J J J (Mn _ _ _ _) J) ?_|refine d_l J J (aA J J J J J J (I8 _ _) J) ?_))|refine wG ?_|(refine h4H ?_; first|refine ag J (fun h=>?_) (fun h=>?_)|refine aB 7 J [(1,_)] (q1Q J) (fun (k : Nat)=>[(4,.one (.d (.int .i64 k)))]) (fun (k : Nat)=>k≤cs.length∧cR ds ats = 0∧(cs.length : Int)≤4096∧cE ds ats cs = cQ ds ats (pv cs k) (cs.drop k)) (fun (k : Nat)=>cs.length - k) 0 (q1Q J) ?_ (fun k ⟨hk,hsc,hq,hs⟩=>?_))|(show Exists _; refine Exists.intro (k + 1) ⟨?_,?_,wK,(q1Q J),(q1Q J)⟩))
 all_goals (try (((simp_all [cE,cQ,qu,xp,qw,xq,am,List.drop_eq_nil_of_le]) <;> exact wL); done))
 ·rename_i hlt
  have hk' : k < cs.length:=by simpa using hlt
  have hb : cZ ds ats (at_ cs k).at' (at_ cs k).vals≠0:=by simpa using h
  rw [hs,am hk',re hb]; simp
 ·rename_i hlt hc
  have hk' : k < cs.length:=by simpa using hlt
  have hk0 : k = 0:=by simpa using h
  have hb : cZ ds ats (at_ cs k).at' (at_ cs k).vals = 0:=by simpa using hc
  refine ⟨by omega,hsc,hq,?_⟩
  rw [hs,am hk',qw]
  subst hk0
  simp [cQ,hb,qu]
end Go.Proofs.YtpejdgkaapnekaaGreat
