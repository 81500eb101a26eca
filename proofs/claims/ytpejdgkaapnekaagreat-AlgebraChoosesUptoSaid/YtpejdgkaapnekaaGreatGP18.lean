import Derived.Test.YtpejdgkaapnekaaGreatGP17
import Derived.Test.YtpejdgkaapnekaaGreatGP15
import Derived.Test.YtpejdgkaapnekaaGreatGP16
set_option linter.unusedVariables false
set_option linter.unusedSimpArgs false
set_option linter.unnecessarySimpa false
set_option maxHeartbeats 1000000
namespace Go.Abs
open Go
variable {P : Program} {c : Ctx} {fr : List (Nat×AV)} {sto : Sto}
def nmA(b : Bool×Bool) : Nat:=bif b.1 then 11 else 10
def nmB(b : Bool×Bool) : Nat:=bif b.2 then 13 else 12
def qN(i : Nat) : Nat:=bif Nat.beq i 11 then 10 else bif Nat.beq i 13 then 12 else i
theorem xC{α : Type}{f a b : List (Nat×α)}(h1 : SubL f a)(h2 : SubL f b) : SubL f (a ++ b):=by
 induction a with
 | nil=>exact h2
 | cons p r ih=>exact ⟨h1.1,ih h1.2⟩
theorem qA{f f' : List (Nat×AV)}{s s' : Sto}(hf : SubL f f')(hs : SubL s s') : Imp c ⟨f,s⟩ ⟨f',s'⟩:=Imp.trans (i5 hf) (xD hs)
theorem fy{α : Type}{body : Code}{Q : Exit→St→Prop}(rg : Nat)(hrg : i7 body = rg){fr1 : List (Nat×AV)}{sto1 : Sto}(ha : Imp c ⟨fr,sto⟩ ⟨fr1,sto1⟩)(kept : List (Nat×AV))(hk : SubL fr1 kept)(L : Bool×Bool→α→List (Nat×AV))(S : Bool×Bool→α→Sto)(Inv : α→Prop)(μ : α→Nat)(x0 : α)
  (hL : SubL fr1 (L (false,false) x0)) (hS : SubL sto1 (S (false,false) x0)) (hq : ∀ b y,Imp c ⟨L b y ++ kept,S b y⟩ ⟨L (false,false) y ++ kept,S (false,false) y⟩) (h0 : Inv x0)
  (hround : ∀ x,Inv x→OkC P c body ⟨L (false,false) x ++ kept,S (false,false) x⟩ (ax (fun st'=>∃ y b,Inv y∧μ y < μ x∧SubL st'.sto (S b y)∧SubL st'.fr (L b y)∧SubL st'.fr kept) Q)) : OkC P c (.loop body) ⟨fr,sto⟩ Q:=by
 refine bu (st':=⟨L (false,false) x0 ++ kept,S (false,false) x0⟩) (Imp.trans ha (qA (xC hL hk) hS)) ?_
 refine ny (fun n st=>∃ x,Inv x∧n = μ x∧st = ⟨L (false,false) x ++ kept,S (false,false) x⟩) (μ x0) ⟨x0,h0,rfl,rfl⟩ ?_
 rintro n st ⟨x,hx,rfl,rfl⟩
 refine je (hround x hx) fun e st h=>?_
 cases e with
 | normal =>
   obtain ⟨y,b,hy,hlt,hs,h1,h2⟩:=h
   obtain ⟨f,s⟩:=st
   simp only at hs h1 h2
   exact ⟨μ y,_,hlt,⟨y,hy,rfl,rfl⟩,Imp.trans (qA (xC h1 h2) hs) (hq b y)⟩
 | _=>exact h
section
variable {w0 : World} {σ0 : Sig} {φ0 : Pl} {M : Nat→Prop} {n : Nat} {rd : Option Nat} {mk : List Deferred} {ops : Array Oper} {o : Oper} {rest : List Oper} {K : St→Prop} {st0 : St} {acc : List Tr}
theorem cS(k : Nat)(dl : List Nat){ss : St}{d : Nat}{fop : Operand}{args : Array Operand}{ats : Array TypeId}{f : FuncId}{caps : List D}{avs avs' : List AV}{rav rav' : AV}
  (ho : o.op = .call { callee:=.value fop,args:=args,argTypes:=ats }) (hg : o.guard = none) (hdst : o.dst = some d) (hd : Nat.blt d n = true) (hss : sealL ⟨fr,sto⟩ dl = some ss) (hf : ev ss fop = some (.one (.d (.fn f caps))))
  (ha : evL ss args.toList = some avs) (hD : cq avs = true) (hap : (avs ++ caps.map fun x=>.one (.d x)) = avs') (hC : CallA P f avs' [] rav [])
  (hk : (cw [] [] && Nat.ble (k + 16) 1000000 && cX [] rav && bd [] []) = true) (hfresh : lH k ⟨fr,dF dl sto⟩ = true) (hr : dr (rn k []) rav = rav')
  (h : ac P ⟨w0,σ0,φ0,M,n,rd,mk⟩ ops rest ⟨(d,rav')::fr,dF dl sto⟩ K) : ac P ⟨w0,σ0,φ0,M,n,rd,mk⟩ ops (o::rest) ⟨fr,sto⟩ K:=by
 subst hap; subst hr
 exact kC k dl ho hg (by rw [hdst]; exact hd) hss hf ha hD hC hk (oh hfresh) (by rw [hdst]; exact h)
theorem Am(k : Nat)(dl : List Nat){os : List (Nat×AObj)}{d : Nat}{fop : Operand}{args : Array Operand}{ats : Array TypeId}{f : FuncId}{caps : List D}{avs avs' : List AV}{rav rav' : AV}
  (ho : o.op = .call { callee:=.value fop,args:=args,argTypes:=ats }) (hg : o.guard = none) (hdst : o.dst = some d) (hd : Nat.blt d c.n = true) (hos : dx sto dl = some os) (hf : evS os ⟨fr,sto⟩ fop = some (.one (.d (.fn f caps))))
  (ha : jZ os ⟨fr,sto⟩ args.toList = some avs) (hD : cq avs = true) (hap : (avs ++ caps.map fun x=>.one (.d x)) = avs') (hC : CallA P f avs' [] rav [])
  (hk : (cw [] [] && Nat.ble (k + 16) 1000000 && cX [] rav && bd [] []) = true) (hr : dr (rn k []) rav = rav')
  (h : ao P c ops st0 rest ⟨(d,rav')::fr,cC (n8 dl) sto⟩ (lP k dl dl rav []::acc) K) : ao P c ops st0 (o::rest) ⟨fr,sto⟩ acc K:=by
 subst hap; subst hr
 refine mz hg (vA k dl ho (by rw [hdst]; exact hd) hos hf ha hD hC hk) ?_
 rw [hdst]; exact h
end
theorem ld{V : Env}{st : St}{o : Oper}{id i n k b k' b' : Nat}{t t2 : TypeId}{x y : Operand}{v : AV}{xs ys : List (List D)}{e : TypeId}{z : List D}{q : TypeId×Nat×Nat×List D}
  (ho : o.op = .call { callee:=.builtin .append,args:=⟨[x,y]⟩,argTypes:=⟨[t,t2]⟩ }) (ht : aR V.T t = some (e,k,b,z)) (ht2 : aR V.T t2 = some q) (hx : ev st x = some (.one (.own i n))) (hl : look st.sto i = some (.row k' b' xs))
  (hkb : (Nat.beq k k' && Nat.beq b b') = true) (hy : ev st y = some v) (hs : eI st k v = some ys) (hn : n≤100000000) (hys : ys.length≤10000000) (hb : b≤100) :
  aQ V st o id = some ⟨.one (.own id (n + ys.length)),[(id,some (.row k b (xs.take n ++ ys))),(i,none)],[id]⟩ :=
 lW ho ht ht2 hx hl hkb hy hs (by omega) (Nat.le_trans (Nat.mul_le_mul (show n + ys.length≤110000000 by omega) hb) (by omega))
end Go.Abs
namespace Go.Proofs.YtpejdgkaapnekaaGreat
open Go Go.Abs
attribute [local irreducible] ac OkC ao ax ap aJ
set_option maxRecDepth 10000
theorem NE(nm : List UInt8)(lo hi : Int) : CallA Tryz.prog 139 [.agg [.d (.str nm),.d (.int .i64 lo),.d (.int .i64 hi)]] [] (.one (.d (.str nm))) []:=by
 refine enter ae Tryz.func139 rfl (by decide +kernel) rfl fun hok w0 σ0 φ0 M=>?_
 repeat' (first|refine wG ?_)
 all_goals (try (((simp_all [am,List.drop_eq_nil_of_le]) <;> exact wL); done))
theorem NF(nm : List UInt8)(t : Int) : CallA Tryz.prog 151 [.agg [.d (.str nm),.d (.int .i64 t)]] [] (.one (.d (.str nm))) []:=by
 refine enter ae Tryz.func151 rfl (by decide +kernel) rfl fun hok w0 σ0 φ0 M=>?_
 repeat' (first|refine wG ?_)
 all_goals (try (((simp_all [am,List.drop_eq_nil_of_le]) <;> exact wL); done))
theorem NG(nm name : List UInt8)(lo hi : Int) : CallA Tryz.prog 245 [.agg [.d (.str nm),.d (.int .i64 lo),.d (.int .i64 hi)],.one (.d (.ptr [.fn 139 []])),.one (.d (.ptr [.str name]))] [] (.one (.d (.bool (nm == name)))) []:=by
 refine enter ae Tryz.func245 rfl (by decide +kernel) rfl fun hok w0 σ0 φ0 M=>?_
 repeat' (first|(refine h3H ?_; (refine h2H ?_; refine d_l J J (aA J J J J J J (NE _ _ _) J) ?_))|refine wG ?_)
 all_goals (try (((simp_all [am,List.drop_eq_nil_of_le]) <;> exact wL); done))
theorem NH(nm name : List UInt8)(t : Int) : CallA Tryz.prog 251 [.agg [.d (.str nm),.d (.int .i64 t)],.one (.d (.ptr [.fn 151 []])),.one (.d (.ptr [.str name]))] [] (.one (.d (.bool (nm == name)))) []:=by
 refine enter ae Tryz.func251 rfl (by decide +kernel) rfl fun hok w0 σ0 φ0 M=>?_
 repeat' (first|(refine h3H ?_; (refine h2H ?_; refine d_l J J (aA J J J J J J (NF _ _) J) ?_))|refine wG ?_)
 all_goals (try (((simp_all [am,List.drop_eq_nil_of_le]) <;> exact wL); done))
theorem NI(f : FuncId)(caps : List D)(p : Dim→Bool)(hp : ∀ d : Dim,CallA Tryz.prog f ([.agg [.d (.str d.name),.d (.int .i64 d.lo),.d (.int .i64 d.hi)]] ++ caps.map fun x=>.one (.d x)) [] (.one (.d (.bool (p d)))) [])(l : List Dim) :
  CallA Tryz.prog 244 [.one (.d (aH l)),.one (.d (.fn f caps))] [] (.one (.d (.int .i64 (aV p l 0)))) []:=by
 refine enter ae Tryz.func244 rfl (by decide +kernel) rfl fun hok w0 σ0 φ0 M=>?_
 have h1:=hok.1.sl; clear hok; simp only [List.length_map] at h1; replace h1:=h1.1
 repeat' (first|(refine h1H ?_; (refine h0H ?_; refine aa J J J J J J J J (hp _) J ?_))|refine wG ?_|(refine h4H ?_; first|refine ag J (fun h=>?_) (fun h=>?_)|refine aB 2 J [(0,_),(1,_),(7,_)] (q3Q J J J) (fun (k : Nat)=>[(8,.one (.d (.int .i64 k)))]) (fun (k : Nat)=>k≤l.length∧aV p l 0 = aV p (l.drop k) k) (fun (k : Nat)=>l.length - k) 0 (q1Q J) ?_ (fun k ⟨hk,hs⟩=>?_))|(show Exists _; refine Exists.intro (k + 1) ⟨?_,?_,wK,(q1Q J),(q3Q J J J)⟩))
 all_goals (try (((simp_all [aV,am,List.drop_eq_nil_of_le]) <;> exact wL); done))
theorem NJ(f : FuncId)(caps : List D)(p : Attr→Bool)(hp : ∀ d : Attr,CallA Tryz.prog f ([.agg [.d (.str d.name),.d (.int .i64 d.type)]] ++ caps.map fun x=>.one (.d x)) [] (.one (.d (.bool (p d)))) [])(l : List Attr) :
  CallA Tryz.prog 250 [.one (.d (aF l)),.one (.d (.fn f caps))] [] (.one (.d (.int .i64 (aV p l 0)))) []:=by
 refine enter ae Tryz.func250 rfl (by decide +kernel) rfl fun hok w0 σ0 φ0 M=>?_
 have h1:=hok.1.sl; clear hok; simp only [List.length_map] at h1; replace h1:=h1.1
 repeat' (first|(refine h1H ?_; (refine h0H ?_; refine aa J J J J J J J J (hp _) J ?_))|refine wG ?_|(refine h4H ?_; first|refine ag J (fun h=>?_) (fun h=>?_)|refine aB 2 J [(0,_),(1,_),(7,_)] (q3Q J J J) (fun (k : Nat)=>[(8,.one (.d (.int .i64 k)))]) (fun (k : Nat)=>k≤l.length∧aV p l 0 = aV p (l.drop k) k) (fun (k : Nat)=>l.length - k) 0 (q1Q J) ?_ (fun k ⟨hk,hs⟩=>?_))|(show Exists _; refine Exists.intro (k + 1) ⟨?_,?_,wK,(q1Q J),(q3Q J J J)⟩))
 all_goals (try (((simp_all [aV,am,List.drop_eq_nil_of_le]) <;> exact wL); done))
theorem NK(l : List Dim)(name : List UInt8) : CallA Tryz.prog 195 [.one (.d (aH l)),.one (.d (.str name)),.one (.d (.fn 139 []))] [] (.one (.d (.int .i64 (aV (fun a : Dim=>a.name == name) l 0)))) []:=by
 refine enter ae Tryz.func195 rfl (by decide +kernel) rfl fun hok w0 σ0 φ0 M=>?_
 repeat' (first|(refine h1H ?_; (refine h0H ?_; refine aa J J J J J J J J (NI _ _ _ (fun d=>NG _ name _ _) _) J ?_))|refine wG ?_)
 all_goals (try (((simp_all [am,List.drop_eq_nil_of_le]) <;> exact wL); done))
theorem NL(l : List Attr)(name : List UInt8) : CallA Tryz.prog 207 [.one (.d (aF l)),.one (.d (.str name)),.one (.d (.fn 151 []))] [] (.one (.d (.int .i64 (aV (fun a : Attr=>a.name == name) l 0)))) []:=by
 refine enter ae Tryz.func207 rfl (by decide +kernel) rfl fun hok w0 σ0 φ0 M=>?_
 repeat' (first|(refine h1H ?_; (refine h0H ?_; refine aa J J J J J J J J (NJ _ _ _ (fun d=>NH _ name _) _) J ?_))|refine wG ?_)
 all_goals (try (((simp_all [am,List.drop_eq_nil_of_le]) <;> exact wL); done))
theorem FO(ds : List Dim)(ats : List Attr)(cs : D)(name : List UInt8) : CallA Tryz.prog 126 [.agg [.d (aH ds),.d (aF ats),.d cs],.one (.d (.str name))] [] (.one (.d (.int .i64 (aV (fun a : Dim=>a.name == name) ds 0)))) []:=by
 refine enter ae Tryz.func126 rfl (by decide +kernel) rfl fun hok w0 σ0 φ0 M=>?_
 repeat' (first|(refine h1H ?_; (refine h0H ?_; refine aa J J J J J J J J (NK _ _) J ?_))|refine wG ?_)
 all_goals (try (((simp_all [am,List.drop_eq_nil_of_le]) <;> exact wL); done))
theorem FP(ds : List Dim)(ats : List Attr)(cs : D)(name : List UInt8) : CallA Tryz.prog 148 [.agg [.d (aH ds),.d (aF ats),.d cs],.one (.d (.str name))] [] (.one (.d (.int .i64 (aV (fun a : Attr=>a.name == name) ats 0)))) []:=by
 refine enter ae Tryz.func148 rfl (by decide +kernel) rfl fun hok w0 σ0 φ0 M=>?_
 repeat' (first|(refine h1H ?_; (refine h0H ?_; refine aa J J J J J J J J (NL _ _) J ?_))|refine wG ?_)
 all_goals (try (((simp_all [am,List.drop_eq_nil_of_le]) <;> exact wL); done))
def gX(a : Arr) : Int:=cE a.dims a.attrs a.cells
theorem NX(a : Arr) : CallA Tryz.prog 180 [fX a] [] (.one (.d (.bool (gX a != 0)))) []:=by
 unfold fX
 refine enter ae Tryz.func180 rfl (by decide +kernel) rfl fun hok w0 σ0 φ0 M=>?_
 clear hok
 repeat' (first|(refine h1H ?_; (refine h0H ?_; refine aa J J J J J J J J (c59 _ _ _) J ?_))|refine wG ?_)
 all_goals rfl
theorem NY(l : List Arr) : CallA Tryz.prog 230 [.one (.d (uF l)),.one (.d (.fn 180 []))] [] (.one (.d (.int .i64 (aV (fun a=>gX a != 0) l 0)))) []:=by
 refine enter ae Tryz.func230 rfl (by decide +kernel) rfl fun hok w0 σ0 φ0 M=>?_
 have h1:=hok.1.sl; clear hok; simp only [List.length_map] at h1; replace h1:=h1.1
 repeat' (first|(refine h1H ?_; (refine h0H ?_; refine aa J J J J J J J J (NX _) J ?_))|refine wG ?_|(refine h4H ?_; first|refine ag J (fun h=>?_) (fun h=>?_)|refine aB 2 J [(0,_),(1,_),(7,_)] (q3Q J J J) (fun (k : Nat)=>[(8,.one (.d (.int .i64 k)))]) (fun (k : Nat)=>k≤l.length∧aV (fun a=>gX a != 0) l 0 = aV (fun a=>gX a != 0) (l.drop k) k) (fun (k : Nat)=>l.length - k) 0 (q1Q J) ?_ (fun k ⟨hk,hs⟩=>?_))|(show Exists _; refine Exists.intro (k + 1) ⟨?_,?_,wK,(q1Q J),(q3Q J J J)⟩))
 all_goals (try (((simp_all [aV,am,List.drop_eq_nil_of_le]) <;> exact wL); done))
theorem NZ(l : List Arr) : CallA Tryz.prog 179 [.one (.d (uF l)),.one (.d (.fn 180 []))] [] (.one (.d (.bool (!decide (aV (fun a=>gX a != 0) l 0 < 0))))) []:=by
 refine enter ae Tryz.func179 rfl (by decide +kernel) rfl fun hok w0 σ0 φ0 M=>?_
 clear hok
 repeat' (first|(refine h1H ?_; (refine h0H ?_; refine aa J J J J J J J J (NY _) J ?_))|refine wG ?_)
 all_goals (try (((simp_all [am,List.drop_eq_nil_of_le]) <;> exact wL); done))
def iS(l : List Arr) : Bool:=l.all fun a=>gX a == 0
theorem tt : ∀ (l : List Arr) (j : Nat),aV (fun a=>gX a != 0) l j < 0↔iS l = true
 | [],j=>by simp [aV,iS]
 | a::l,j=>by
   have ih:=tt l (j + 1)
   simp only [aV,iS,List.all_cons,Bool.and_eq_true]
   by_cases h : gX a = 0
   ·rw [if_neg (by simp [h])]
    rw [ih]
    simp [h,iS]
   ·rw [if_pos (by simp [h])]
    constructor
    ·intro h1; omega
    ·intro h1; simp [h] at h1
theorem Ea(l : List Arr)(j : Nat) : decide (aV (fun a=>gX a != 0) l j < 0) = iS l:=by
 rw [Bool.eq_iff_iff,decide_eq_true_eq,tt]
theorem c96(l : List Arr) : CallA Tryz.prog 96 [.one (.d (uF l))] [] (.one (.d (.bool (iS l)))) []:=by
 refine enter ae Tryz.func96 rfl (by decide +kernel) rfl fun hok w0 σ0 φ0 M=>?_
 clear hok
 repeat' (first|(refine h1H ?_; (refine h0H ?_; refine aa J J J J J J J J (NZ _) J ?_))|refine wG ?_)
 all_goals (try (((simp_all [Ea,am,List.drop_eq_nil_of_le]) <;> exact wL); done))
theorem c98(ds : List Dim)(at' : List Int)(hl : at'.length = ds.length) : CallA Tryz.prog 98 [.one (.d (aH ds)),.one (.d (aL at'))] [] (.one (.d (.bool (bo ds at')))) []:=by
 refine enter ae Tryz.func98 rfl (by decide +kernel) rfl fun hok w0 σ0 φ0 M=>?_
 have h1:=hok.1.sl; have h2:=hok.2.1.sl; clear hok; simp only [List.length_map] at h1 h2; replace h1:=h1.1; replace h2:=h2.1
 repeat' (first|refine wG ?_|(refine h1H ?_; (refine h5H ?_; refine aG J J J J (fun h=>?_) (fun h=>?_)))|(refine h4H ?_; first|refine ag J (fun h=>?_) (fun h=>?_)|refine aB 2 J [(0,_),(7,_),(8,_)] (q3Q J J J) (fun (k : Nat)=>[(9,.one (.d (.int .i64 k)))]) (fun (k : Nat)=>k≤at'.length∧at'.length = ds.length∧bo ds at' = bo (ds.drop k) (at'.drop k)) (fun (k : Nat)=>ds.length - k) 0 (q1Q J) ?_ (fun k ⟨hk,hq,hs⟩=>?_))|(show Exists _; refine Exists.intro (k + 1) ⟨?_,?_,wK,(q1Q J),(q3Q J J J)⟩))
 all_goals (try (((simp_all [bo,dX,am,List.drop_eq_nil_of_le]) <;> exact wL); done))
theorem KU(id n : Nat)(cs : List Cell)(rows : List (List D))(hr : rows = cs.map av)(hn : n = cs.length)(hd : cs.Pairwise b9) :
  CallA Tryz.prog 181 [.one (.own id n),.one (.d (.fn 182 []))] [(id,.row 2 48 rows)] (.tup []) [(id,.row 2 48 ((bE cs).map av))]:=by
 subst hr; subst hn
 exact Mq id cs (bE cs) (Du hd)
theorem IZ{w0 : World}{σ0 : Sig}{φ0 : Pl}{M : Nat→Prop}{n : Nat}{rd : Option Nat}{mk : List Deferred}{ops : Array Oper}{o : Oper}{rest : List Oper}{fr : List (Nat×AV)}{sto : Sto}{K : St→Prop}{d m : Nat}{fop x y : Operand}{ats : Array TypeId}{rows : List (List D)}(id : Nat)(cs : List Cell)
  (ho : o.op = .call { callee:=.value fop,args:=⟨[x,y]⟩,argTypes:=ats }) (hg : o.guard = none) (hdst : o.dst = some d) (hdn : Nat.blt d n = true) (hf : ev ⟨fr,sto⟩ fop = some (.one (.d (.fn 181 [])))) (hx : ev ⟨fr,sto⟩ x = some (.one (.own id m))) (hy : ev ⟨fr,sto⟩ y = some (.one (.d (.fn 182 []))))
  (hl : Abs.look sto id = some (.row 2 48 rows)) (hr : rows = cs.map av) (hn : m = cs.length) (hd : cs.Pairwise b9) (hfr : lH 16 ⟨fr,sto⟩ = true)
  (h : ac Tryz.prog ⟨w0,σ0,φ0,M,n,rd,mk⟩ ops rest ⟨(d,.tup [])::fr,bH id (.row 2 48 ((bE cs).map av)) (del id sto)⟩ K) : ac Tryz.prog ⟨w0,σ0,φ0,M,n,rd,mk⟩ ops (o::rest) ⟨fr,sto⟩ K:=by
 refine jU 16 [(1000000,id)] (rav':=.tup []) (sto':=bH id (.row 2 48 ((bE cs).map av)) (del id sto)) (KU 1000000 m cs rows hr hn hd) ho hg hdst hdn hf ?_ ⟨⟨id,rfl,hl⟩,trivial⟩ ⟨fun i e h1 h2=>?_,trivial⟩ rfl hfr rfl rfl h
 ·show evL ⟨fr,sto⟩ [x,y] = _
  simp only [evL,hx,hy]
  rfl
 ·have e1 : some id = some i:=h1
  cases e1
  rw [hl] at h2
  cases h2
  refine ⟨rfl,rfl,?_⟩
  rw [hr,List.length_map,List.length_map,jt]
  exact Nat.le_refl _
theorem nZ{α β : Type}[Inhabited α](f : α→β)(l : List α){k : Nat}(h : k < l.length) : ((l.take k).map f).take k ++ [f (at_ l k)] = (l.take (k + 1)).map f:=by
 rw [List.take_succ_eq_append_getElem h,List.map_append,List.take_of_length_le (by simp; omega)]
 simp [at_,h]
def jV : Option Arr×Int→AV
 | (none,e)=>.tup [(true,[.d .nil,.d .nil,.d .nil]),(false,[.d (.int .i64 e)])]
 | (some a,e)=>.tup [(true,[.d (aH a.dims),.d (aF a.attrs),.d (bg a.cells)]),(false,[.d (.int .i64 e)])]
theorem Fk{α β : Type}(f : α→β){l : List α}{k : Nat}(h : l.length≤k) : (l.take k).map f = l.map f:=by rw [List.take_of_length_le h]
theorem c99(ds : List Dim)(ats : List Attr)(cs : List Cell)(hd : cs.Pairwise b9) : CallA Tryz.prog 99 [.one (.d (aH ds)),.one (.d (aF ats)),.one (.d (bg cs))] [] (jV (fx ds ats cs)) []:=by
 refine enter ae Tryz.func99 rfl (by decide +kernel) rfl fun hok w0 σ0 φ0 M=>?_
 have h1:=hok.2.2.1.sl; clear hok; simp only [List.length_map] at h1; replace h1:=h1.1
 by_cases h4 : 4096 < (cs.length : Int)
 ·have hb : decide (4096 < ((cs.map av).length : Int)) = true:=by simpa using h4
  simp only [fx,if_pos h4,jV]
  repeat' (first|refine wG ?_)
  all_goals rfl
 ·have hb : decide (4096 < ((cs.map av).length : Int)) = false:=by simpa using h4
  simp only [fx,if_neg h4,jV]
  repeat' (first|(refine h1H ?_; (refine h0H ?_; first|refine IZ 10 cs J J J J J J J J (hr.trans (Fk _ (by first|omega|(simp only [decide_eq_true_eq,decide_eq_false_iff_not,List.length_map] at *; omega)))) (by first|omega|(simp only [decide_eq_true_eq,decide_eq_false_iff_not,List.length_map] at *; omega)) hd J ?_|refine aw 16 J J J J J J J J (c97 _) J J J ?_|refine aw 16 J J J J J J J J (Mr _) J J J ?_))|(refine h4H ?_; refine bu (bR (dl:=[10]) J) (cv ?_))|(refine h3H ?_; (refine h2H ?_; first|refine bh 16 J J J J J J J J (Ms _) J J ?_|refine bh 16 J J J J J J J J (Mt _) J J ?_))|refine wG ?_|(refine h4H ?_; first|refine ag J (fun h=>?_) (fun h=>?_)|refine fy 5 J (sQ 1 2 10 (k:=2) (b:=48) J J (by kernel_rfl)) [(6,_),(8,_),(20,_),(21,_)] (q4Q J J J J) (fun (bN : Bool×Bool) (p : Nat×List (List D))=>[(22,.one (.d (.int .i64 (p.1 : Int))))]) (fun (bN : Bool×Bool) (p : Nat×List (List D))=>[(1,.box [.d (aH ds),.d (aF ats),.own (nmA bN) p.1]),((nmA bN),.row 2 48 p.2),(0,.box [.d .nil,.d .nil,.d .nil])]) (fun (p : Nat×List (List D))=>p.1≤cs.length∧p.2 = (cs.take p.1).map av) (fun (p : Nat×List (List D))=>cs.length - p.1) (0,[]) (q1Q J) wK (fun b y=>by obtain ⟨b1,b2⟩:=b; cases b1 <;> cases b2 <;> first|exact Imp.refl _|exact fz qN (by kernel_rfl)) ?_ (fun p ⟨hk,hr⟩=>?_))|(show Exists _; refine Exists.intro ((p.1 + 1,p.2.take p.1 ++ [av (at_ cs p.1)])) (Exists.intro (true,false) ⟨?_,?_,wK,(q1Q J),(q4Q J J J J)⟩)))
  ·exact ⟨Nat.zero_le _,rfl⟩
  ·have hlt : p.1 < cs.length:=by simpa using h
   exact ⟨hlt,by show p.2.take p.1 ++ _ = _; rw [hr]; exact nZ _ _ hlt⟩
  ·have hlt : p.1 < cs.length:=by simpa using h
   show cs.length - (p.1 + 1) < cs.length - p.1
   omega
  ·have hge : cs.length≤p.1:=by simpa using h
   show AV.tup [(true,[.d (aH ds),.d (aF ats),.d (.sl 2 48 (((bE cs).map av).take p.1))]),_] = _
   rw [List.take_of_length_le (by simp only [List.length_map,jt]; exact hge)]
   rfl
theorem Mu(l : List Dim)(hne : 0 < l.length) : CallA Tryz.prog 97 [.one (.d (aH l))] [] (.one (.own 0 l.length)) [(0,.row 3 32 (l.map bv))]:=by
 refine enter ae Tryz.func97 rfl (by decide +kernel) rfl fun hok w0 σ0 φ0 M=>?_
 have h1:=hok.1.sl; clear hok; simp only [List.length_map] at h1
 repeat' (first|(refine h1H ?_; (refine h6H ?_; refine gG ae J J J J J J (fun r hr=>?_)))|(refine h1H ?_; (refine h0H ?_; refine dS ae J J J J J (id:=0) J J J J J J J (by simp only [List.length_map,Nat.zero_add]; omega) (by simp only [List.length_map,Nat.zero_add]; omega) ?_))|refine wG ?_|(refine h4H ?_; refine ag J (fun h=>?_) (fun h=>?_)))
 ·have e:=hr (by simpa using h)
  simp only [List.map_eq_nil_iff] at e
  subst e; simp at hne
 ·simp
theorem Mv(ds : List Dim)(xs : List (List D))(at' : List Int)(hx : xs = ds.map bv)(hl : at'.length = ds.length) : CallA Tryz.prog 98 [.one (.d (.sl 3 32 xs)),.one (.d (aL at'))] [] (.one (.d (.bool (bo ds at')))) []:=by
 subst hx; exact c98 ds at' hl
theorem Mw(ds : List Dim)(ats : List Attr)(cs : List Cell)(xs ys : List (List D))(hd : cs.Pairwise b9)(hx : xs = ds.map bv)(hy : ys = cs.map av) : CallA Tryz.prog 99 [.one (.d (.sl 3 32 xs)),.one (.d (aF ats)),.one (.d (.sl 2 48 ys))] [] (jV (fx ds ats cs)) []:=by
 subst hx; subst hy; exact c99 ds ats cs hd
theorem I0(ds : List Dim)(ats : List Attr)(cs : List Cell)(xs ys : List (List D))(hd : cs.Pairwise b9)(hf : cs.length≤4096)(hx : xs = ds.map bv)(hy : ys = cs.map av) : CallA Tryz.prog 99 [.one (.d (.sl 3 32 xs)),.one (.d (aF ats)),.one (.d (.sl 2 48 ys))] [] (.tup [(true,[.d (aH ds),.d (aF ats),.d (bg (bE cs))]),(false,[.d (.int .i64 0)])]) []:=by
 have h:=Mw ds ats cs xs ys hd hx hy
 unfold fx at h
 rw [if_neg (by omega)] at h
 exact h
def tc(a : Arr) : Prop:=a.dims.length≤1048576∧a.attrs.length≤1048576∧a.cells.length≤1048576∧∀ k,k < a.cells.length→(at_ a.cells k).at'.length≤1048576∧(at_ a.cells k).vals.length≤1048576
theorem c22(a : Arr)(hs : tc a) : CallA Tryz.prog 22 [fX a] [] (fX a) []:=by
 have hcs:=hs.2.2.1
 unfold fX
 refine enter ae Tryz.func22 rfl (by decide +kernel) rfl fun hok w0 σ0 φ0 M=>?_
 clear hok
 repeat' (first|(refine h1H ?_; (refine h0H ?_; refine aw 16 J J J J J J J J (c94 _ _ hs.1 hs.2.1) J J J ?_))|(refine h4H ?_; refine bu (bR (dl:=[10]) J) (cv ?_))|(refine h3H ?_; (refine h2H ?_; refine bh 16 J J J J J J J J (c95 _ (hs.2.2.2 _ wB).1 (hs.2.2.2 _ wB).2) J J ?_))|refine wG ?_|(refine h4H ?_; first|refine ag J (fun h=>?_) (fun h=>?_)|refine fy 3 J (sQ 2 2 10 (k:=2) (b:=48) J J (by kernel_rfl)) [(1,_),(2,_),(3,_)] (q3Q J J J) (fun (bN : Bool×Bool) (p : Nat×List (List D))=>[(4,.one (.d (.int .i64 (p.1 : Int))))]) (fun (bN : Bool×Bool) (p : Nat×List (List D))=>[(2,.box [.d (aH a.dims),.d (aF a.attrs),.own (nmA bN) p.1]),((nmA bN),.row 2 48 p.2),(1,.box [.d .nil,.d .nil,.d .nil]),(0,.box [.d (aH a.dims),.d (aF a.attrs),.d (bg a.cells)])]) (fun (p : Nat×List (List D))=>p.1≤a.cells.length∧p.2 = (a.cells.take p.1).map av) (fun (p : Nat×List (List D))=>a.cells.length - p.1) (0,[]) (q1Q J) wK (fun b y=>by obtain ⟨b1,b2⟩:=b; cases b1 <;> cases b2 <;> first|exact Imp.refl _|exact fz qN (by kernel_rfl)) ?_ (fun p ⟨hk,hr⟩=>?_))|(show Exists _; refine Exists.intro ((p.1 + 1,p.2.take p.1 ++ [av (at_ a.cells p.1)])) (Exists.intro (true,false) ⟨?_,?_,wK,(q1Q J),(q3Q J J J)⟩)))
 ·exact ⟨Nat.zero_le _,rfl⟩
 ·have hlt : p.1 < a.cells.length:=by simpa using h
  exact ⟨hlt,by show p.2.take p.1 ++ _ = _; rw [hr]; exact nZ _ _ hlt⟩
 ·have hlt : p.1 < a.cells.length:=by simpa using h
  show a.cells.length - (p.1 + 1) < a.cells.length - p.1
  omega
 ·have hge : a.cells.length≤p.1:=by simpa using h
  show AV.agg [.d (aH a.dims),.d (aF a.attrs),.d (.sl 2 48 (p.2.take p.1))] = _
  rw [hr,List.take_of_length_le (by simp; omega),List.take_of_length_le hge]
  rfl
end Go.Proofs.YtpejdgkaapnekaaGreat
namespace Go.Proofs.YtpejdgkaapnekaaGreat
open Go Go.Abs
theorem Ee{a : Arr}(h : JS (1048571 + 3) a) : tc a:=by
 obtain ⟨h1,h2,h3,h4⟩:=h
 refine ⟨Nat.le_trans h1.1 (by omega),Nat.le_trans h2.1 (by omega),Nat.le_trans h3 (by omega),fun k hk=>?_⟩
 have:=h4 _ (bM hk)
 exact ⟨Nat.le_trans this.1 (by omega),Nat.le_trans this.2 (by omega)⟩
end Go.Proofs.YtpejdgkaapnekaaGreat
namespace Go.Proofs.YtpejdgkaapnekaaGreat
open Go Go.Abs
attribute [local irreducible] ac OkC ao ax ap aJ
set_option maxRecDepth 10000
theorem c90 : ∀ (m : Nat) (s : Scalar) (z : Int),z = m→m≤12→CallA Tryz.prog 90 [cY s,.one (.d (.int .i64 z))] [] (.one (.d (.int .i64 (cN m s)))) []
 | 0,s,z,hz,hm=>by
   subst hz
   refine enter ae Tryz.func90 rfl (by decide +kernel) rfl fun hok w0 σ0 φ0 M=>?_
   clear hok
   repeat' (first|refine wG ?_)
   all_goals (try (((simp_all [cN,am,List.drop_eq_nil_of_le]) <;> exact wL); done))
 | m + 1,s,z,hz,hm=>by
   have ih:=fun (s : Scalar) (z : Int) (hz : z = m)=>c90 m s z hz (by omega)
   refine enter ae Tryz.func90 rfl (by decide +kernel) rfl fun hok w0 σ0 φ0 M=>?_
   have h1:=(OkD.sl (hok.1 (.d (cu s.args)) (by simp))).1; clear hok; simp only [List.length_map] at h1
   have hf:=fun k=>oN (f:=cN m) (B:=m + 1) (fun x=>by have:=pR m x; omega) (s.args.take k) 0 (by omega) (by omega)
   repeat' (first|(refine h1H ?_; (refine h0H ?_; refine aa J J J J J J J J (ih _ _ (by omega)) J ?_))|refine wG ?_|(refine h4H ?_; first|refine ag J (fun h=>?_) (fun h=>?_)|refine aB 5 J [(1,_),(2,_)] (q2Q J J) (fun (p : Nat×Int)=>[(5,.one (.d (.int .i64 p.2))),(6,.one (.d (.int .i64 (p.1 : Int))))]) (fun (p : Nat×Int)=>p.1≤s.args.length∧p.2 = (s.args.take p.1).foldl (fun d x=>max d (cN m x)) 0) (fun (p : Nat×Int)=>s.args.length - p.1) (0,0) (q2Q J J) ?_ (fun p ⟨hk,hd⟩=>?_))|(show Exists _; refine Exists.intro ((p.1 + 1,max p.2 (cN m (at_ s.args p.1)))) ⟨?_,?_,wK,(q2Q J J),(q2Q J J)⟩))
   all_goals (try (((simp_all [cN,Ej,am,List.drop_eq_nil_of_le]) <;> exact wL); done))
   ·have hw:=hf p.1
    rw [← hd] at hw
    have hl : s.args.length≤p.1:=by simpa using h
    rw [gf (by omega) (by omega),hd,List.take_of_length_le hl]
    rfl
mutual
def c9 : Scalar→Int→Int
 | .mk _ _ _ a,most=>dn a 1 most
def dn : List Scalar→Int→Int→Int
 | [],n,_=>n
 | x::r,n,most=>if n≤most then dn r (n + c9 x (most - n)) most else n
end
theorem pS : ∀ {s : Scalar} {most : Int},c9 s most = dn s.args 1 most
 | .mk _ _ _ a,most=>by simp [c9,Scalar.args]
theorem ph{most : Int} : ∀ (l : List Scalar),(∀ x∈l,∀ m,0≤m→1≤c9 x m∧c9 x m≤m + 1)→∀ n,1≤n→n≤most + 1→1≤dn l n most∧dn l n most≤most + 1
 | [],_,n,h1,h2=>by simp [dn,h1,h2]
 | x::r,h,n,h1,h2=>by
   simp only [dn]
   split
   ·have:=h x (by simp) (most - n) (by omega)
    exact ph r (fun y hy=>h y (by simp [hy])) _ (by omega) (by omega)
   ·exact ⟨h1,h2⟩
theorem pT(s : Scalar) : ∀ m,0≤m→1≤c9 s m∧c9 s m≤m + 1:=by
 induction s using Scalar.ind with
 | h s ih =>
   intro m hm
   rw [pS]
   exact ph s.args ih 1 (by omega) (by omega)
theorem c91(s : Scalar) : ∀ (z : Int),0≤z→z≤64→CallA Tryz.prog 91 [cY s,.one (.d (.int .i64 z))] [] (.one (.d (.int .i64 (c9 s z)))) []:=by
 induction s using Scalar.ind with
 | h s ih =>
   intro z hz hz2
   refine enter ae Tryz.func91 rfl (by decide +kernel) rfl fun hok w0 σ0 φ0 M=>?_
   have h1:=(OkD.sl (hok.1 (.d (cu s.args)) (by simp))).1; clear hok; simp only [List.length_map] at h1
   repeat' (first|(refine h1H ?_; (refine h0H ?_; refine aa J J J J J J J J (ih _ (bM wB) _ wB wB) J ?_))|refine wG ?_|(refine h1H ?_; (refine h5H ?_; refine aG J J J J (fun h=>?_) (fun h=>?_)))|(refine h4H ?_; first|refine ag J (fun h=>?_) (fun h=>?_)|refine aB 3 J [(1,_),(2,_)] (q2Q J J) (fun (p : Nat×Int)=>[(5,.one (.d (.int .i64 p.2))),(6,.one (.d (.int .i64 (p.1 : Int))))]) (fun (p : Nat×Int)=>p.1≤s.args.length∧1≤p.2∧p.2≤z + 1∧c9 s z = dn (s.args.drop p.1) p.2 z) (fun (p : Nat×Int)=>s.args.length - p.1) (0,1) (q2Q J J) ?_ (fun p ⟨hk,hn,hn2,hs⟩=>?_))|(show Exists _; refine Exists.intro ((p.1 + 1,IntKind.i64.wrap (p.2 + c9 (at_ s.args p.1) (z - p.2)))) ⟨?_,?_,wK,(q2Q J J),(q2Q J J)⟩))
   all_goals (try (((simp_all [pS,dn,am,List.drop_eq_nil_of_le]) <;> exact wL); done))
   ·rename_i hlt
    have hk' : p.1 < s.args.length:=by simpa using hlt
    have hle : p.2≤z:=by simpa using h
    have hr:=pT (at_ s.args p.1) (z - p.2) (by omega)
    rw [gf (by omega) (by omega)]
    refine ⟨by show p.1 + 1≤_; omega,by show 1≤p.2 + _; omega,by show p.2 + _≤_; omega,?_⟩
    rw [hs,am hk']
    simp only [dn,hle,if_true]
theorem N7(f : FuncId)(caps : List D)(p : Scalar→Bool)(hp : ∀ d : Scalar,CallA Tryz.prog f ([cY d] ++ caps.map fun x=>.one (.d x)) [] (.one (.d (.bool (p d)))) [])(l : List Scalar) :
  CallA Tryz.prog 263 [.one (.d (cu l)),.one (.d (.fn f caps))] [] (.one (.d (.int .i64 (aV p l 0)))) []:=by
 refine enter ae Tryz.func263 rfl (by decide +kernel) rfl fun hok w0 σ0 φ0 M=>?_
 have h1:=hok.1.sl; clear hok; simp only [List.length_map] at h1; replace h1:=h1.1
 repeat' (first|(refine h1H ?_; (refine h0H ?_; refine aa J J J J J J J J (hp _) J ?_))|refine wG ?_|(refine h4H ?_; first|refine ag J (fun h=>?_) (fun h=>?_)|refine aB 2 J [(0,_),(1,_),(7,_)] (q3Q J J J) (fun (k : Nat)=>[(8,.one (.d (.int .i64 k)))]) (fun (k : Nat)=>k≤l.length∧aV p l 0 = aV p (l.drop k) k) (fun (k : Nat)=>l.length - k) 0 (q1Q J) ?_ (fun k ⟨hk,hs⟩=>?_))|(show Exists _; refine Exists.intro (k + 1) ⟨?_,?_,wK,(q1Q J),(q3Q J J J)⟩))
 all_goals (try (((simp_all [aV,am,List.drop_eq_nil_of_le]) <;> exact wL); done))
theorem AA{α : Type}{p : α→Bool} : ∀ {l : List α} {k : Nat},decide (0≤aV p l k) = l.any p
 | [],k=>by simp [aV]
 | x::r,k=>by
   have ih:=AA (p:=p) (l:=r) (k:=k + 1)
   simp only [aV,List.any_cons,← ih]
   by_cases hx : p x = true <;> simp [hx]
theorem N8(f : FuncId)(caps : List D)(p : Scalar→Bool)(hp : ∀ d : Scalar,CallA Tryz.prog f ([cY d] ++ caps.map fun x=>.one (.d x)) [] (.one (.d (.bool (p d)))) [])(l : List Scalar) :
  CallA Tryz.prog 222 [.one (.d (cu l)),.one (.d (.fn f caps))] [] (.one (.d (.bool (l.any p)))) []:=by
 refine enter ae Tryz.func222 rfl (by decide +kernel) rfl fun hok w0 σ0 φ0 M=>?_
 clear hok
 repeat' (first|(refine h1H ?_; (refine h0H ?_; refine aa J J J J J J J J (N7 f caps p hp _) J ?_))|refine wG ?_)
 all_goals (rw [← AA (k:=0)])
def iw : Nat→Scalar→Bool
 | 0,_=>true
 | m + 1,s=>s.args.any (iw m)
theorem N9(m : Nat)(hm : m≤12)(hd : ∀ s z,z = (m : Int)→CallA Tryz.prog 172 [cY s,.one (.d (.int .i64 z))] [] (.one (.d (.bool (iw m s)))) [])(s : Scalar)(y : Int)(hy : y = m + 1) :
  CallA Tryz.prog 223 [cY s,.one (.d (.ptr [.int .i64 y]))] [] (.one (.d (.bool (iw m s)))) []:=by
 refine enter ae Tryz.func223 rfl (by decide +kernel) rfl fun hok w0 σ0 φ0 M=>?_
 clear hok
 repeat' (first|(refine h1H ?_; (refine h0H ?_; refine aa J J J J J J J J (hd _ _ (by omega)) J ?_))|refine wG ?_)
 all_goals (try (((simp_all [am,List.drop_eq_nil_of_le]) <;> exact wL); done))
theorem JJ : ∀ (m : Nat) (s : Scalar) (z : Int),z = m→m≤12→CallA Tryz.prog 172 [cY s,.one (.d (.int .i64 z))] [] (.one (.d (.bool (iw m s)))) []
 | 0,s,z,hz,hm=>by
   subst hz
   refine enter ae Tryz.func172 rfl (by decide +kernel) rfl fun hok w0 σ0 φ0 M=>?_
   clear hok
   repeat' (first|refine wG ?_)
   all_goals (try (((simp_all [iw,am,List.drop_eq_nil_of_le]) <;> exact wL); done))
 | m + 1,s,z,hz,hm=>by
   have hz : z = m + 1:=by omega
   refine enter ae Tryz.func172 rfl (by decide +kernel) rfl fun hok w0 σ0 φ0 M=>?_
   clear hok
   repeat' (first|(refine h1H ?_; (refine h0H ?_; refine aa J J J J J J J J (N8 _ _ (iw m) (fun d=>N9 m (by omega) (fun s z hz=>JJ m s z hz (by omega)) d _ hz) _) J ?_))|refine wG ?_|(refine h1H ?_; (refine h5H ?_; refine aG J J J J (fun h=>?_) (fun h=>?_))))
   all_goals (try (((simp_all [iw,am,List.drop_eq_nil_of_le]) <;> exact wL); done))
def Kp(n : Int) : List D:=[.int .u32 n]
def c6(l : List Int) : D:=.sl 1 4 (l.map Kp)
def cr(z : Int) : List Int:=if z = 0 then [] else if z < 1000000000 then [z] else [z % 1000000000,z / 1000000000]
theorem FU(l : List Int)(i : Nat)(h : ∀ x∈l,0≤x∧x < 1000000000) : CallA Tryz.prog 342 [.one (.d (c6 l)),.one (.d (.int .i64 i))] [] (.one (.d (.int .u64 (at_ l i)))) []:=by
 refine enter ae Tryz.func342 rfl (by decide +kernel) rfl fun hok w0 σ0 φ0 M=>?_
 clear hok
 have hb : i < l.length→0≤at_ l i∧at_ l i < 1000000000:=fun hi=>h _ (bM hi)
 repeat' (first|refine wG ?_|(refine h4H ?_; refine ag J (fun h=>?_) (fun h=>?_)))
 ·have hi : i < l.length:=by simpa using h
  have:=hb hi
  show AV.one (.d (.int .u64 (IntKind.u64.wrap (at_ l i)))) = _
  rw [gl (by omega) (by omega)]
 ·have hi : l.length≤i:=by simpa using h
  simp [at_,List.getD_eq_getElem?_getD,hi]
theorem uA(z : Int)(h0 : 0≤z)(h1 : z < 1000000000000000000) : CallA Tryz.prog 268 [.one (.d (.int .u64 z))] [] (.one (.d (c6 (cr z)))) []:=by
 refine enter ae Tryz.func268 rfl (by decide +kernel) rfl fun hok w0 σ0 φ0 M=>?_
 clear hok
 repeat' (first|(refine h1H ?_; (refine uV ?_; refine s_e aq J J J (fZ J J J J (by omega) (by omega)) ?_))|(refine h1H ?_; (refine pE ?_; refine s_e aq J J J (ec J J J J (by omega) (by omega) (gl (by omega) (by omega))) ?_))|(refine h4H ?_; first|refine bu (bR (dl:=[3]) J) (cv ?_)|refine bu (bR (dl:=[1]) J) (cv ?_)|refine bu (j6 (s:=2) (k:=1) (b:=4) J) (cv ?_))|refine wG ?_|(refine h4H ?_; first|refine ag J (fun h=>?_) (fun h=>?_)|refine pK 2 J 3 ?_))
 all_goals (try simp only [decide_eq_true_eq,decide_eq_false_iff_not] at *)
 ·omega
 ·have e : cr z = [z % 1000000000,z / 1000000000 % 1000000000]:=by
   have : z / 1000000000 % 1000000000 = z / 1000000000:=by omega
   rw [this]; unfold cr; rw [if_neg (by omega),if_neg (by omega)]
  rw [e]; rfl
 ·have e : cr z = [z % 1000000000]:=by
   have : z % 1000000000 = z:=by omega
   rw [this]; unfold cr; rw [if_neg (by omega),if_pos (by omega)]
  rw [e]; rfl
 ·have e : cr z = []:=by unfold cr; rw [if_pos (by omega)]
  rw [e]; rfl
theorem fSx{z : Int}(h0 : 0≤z)(h1 : z < 1000000000000000000) : ∀ x∈cr z,0≤x∧x < 1000000000:=by
 intro x hx
 unfold cr at hx
 split at hx
 ·simp at hx
 ·split at hx
  ·simp at hx; omega
  ·simp at hx; omega
theorem As{z : Int}(h0 : 0≤z)(h1 : z < 1000000000000000000) : at_ (cr z) 0 + 1000000000 * at_ (cr z) 1 = z∧0≤at_ (cr z) 0∧at_ (cr z) 0 < 1000000000∧0≤at_ (cr z) 1∧at_ (cr z) 1 < 1000000000:=by
 unfold cr
 split
 ·rename_i h; subst h; exact ⟨rfl,by decide,by decide,by decide,by decide⟩
 ·split
  ·show z + 1000000000 * 0 = z∧0≤z∧z < 1000000000∧(0 : Int)≤0∧(0 : Int) < 1000000000
   omega
  ·show z % 1000000000 + 1000000000 * (z / 1000000000) = z∧0≤z % 1000000000∧z % 1000000000 < 1000000000∧0≤z / 1000000000∧z / 1000000000 < 1000000000
   omega
theorem se{z : Int} : (cr z).length≤2:=by
 unfold cr
 split
 ·simp
 ·split <;> simp
theorem FT{z : Int} : 0 < (cr z).length↔z≠0:=by
 unfold cr
 split
 ·simp_all
 ·split <;> simp_all
theorem Js(z : Int)(h0 : 0≤z)(h1 : z < 1000000000000000000) : CallA Tryz.prog 343 [.one (.d (c6 (cr z)))] [] (.one (.d (.int .u64 z))) []:=by
 refine enter ae Tryz.func343 rfl (by decide +kernel) rfl fun hok w0 σ0 φ0 M=>?_
 clear hok
 have hm:=fSx h0 h1
 obtain ⟨he,ha,hb,hc,hd⟩:=As h0 h1
 repeat' (first|(refine h1H ?_; (refine h0H ?_; first|refine aa J J J J J J J J (FU _ 0 hm) J ?_|refine aa J J J J J J J J (FU _ 1 hm) J ?_))|refine wG ?_)
 all_goals (rw [he])
theorem FV{n : Int}(h0 : -1099511627776≤n)(h : n < 0) : IntKind.u64.wrap (0 - IntKind.u64.wrap n) = -n:=by
 simp only [IntKind.wrap,IntKind.signed,IntKind.bits,Bool.false_and,Bool.false_eq_true,if_false]
 omega
theorem Jt(n : Int)(h0 : -1099511627776≤n)(h1 : n≤1099511627776) : CallA Tryz.prog 267 [.one (.d (.int .i64 n))] [] (.one (.d (c6 (cr (max n (-n)))))) []:=by
 refine enter ae Tryz.func267 rfl (by decide +kernel) rfl fun hok w0 σ0 φ0 M=>?_
 clear hok
 repeat' (first|refine wG ?_|(refine h4H ?_; refine ag J (fun h=>?_) (fun h=>?_)))
 ·have hn : n < 0:=by simpa using h
  rw [FV h0 hn]
  refine aw 16 rfl rfl rfl rfl rfl rfl rfl rfl (uA (-n) (by omega) (by omega)) rfl rfl (rav':=.one (.d (c6 (cr (-n))))) rfl ?_
  repeat' (first|refine wG ?_)
  rw [show max n (-n) = -n by omega]
 ·have hn : 0≤n:=by simpa using h
  refine aw 16 rfl rfl rfl rfl rfl rfl rfl rfl (uA n (by omega) (by omega)) rfl rfl (rav':=.one (.d (c6 (cr n)))) rfl ?_
  repeat' (first|refine wG ?_)
  rw [show max n (-n) = n by omega]
theorem Fg{x y : Int}(hx : 0≤x)(hx1 : x < 1000000000000000000)(hy : 0 < y) : 0≤x / y∧x / y < 1000000000000000000:=by
 refine ⟨Int.ediv_nonneg hx (by omega),?_⟩
 have h1:=Int.ediv_le_self y hx
 omega
theorem wE{x y : Int}(hx : 0≤x)(hx1 : x < 1000000000000000000)(hy : 0 < y) : 0≤x % y∧x % y < 1000000000000000000:=by
 refine ⟨Int.emod_nonneg x (by omega),?_⟩
 have:=ib hx hy
 omega
theorem Jw(x y : Int)(hx : 0≤x)(hx1 : x < 1000000000000000000)(hy : 0 < y)(hy1 : y < 1000000000000000000) : CallA Tryz.prog 287 [.one (.d (c6 (cr x))),.one (.d (c6 (cr y)))] [] (.tup [(false,[.d (c6 (cr (x / y)))]),(false,[.d (c6 (cr (x % y)))])]) []:=by
 refine enter ae Tryz.func287 rfl (by decide +kernel) rfl fun hok w0 σ0 φ0 M=>?_
 clear hok
 have hl1:=se (z:=x); have hl2:=se (z:=y)
 have hd:=Fg hx hx1 hy; have hm:=wE hx hx1 hy
 repeat' (first|(refine h1H ?_; (refine uV ?_; refine s_e aq J J J (fZ J J J J (by omega) (by omega)) ?_))|(refine h1H ?_; (refine pE ?_; refine s_e aq J J J (ec J J J J (by omega) (by omega) (gl (by omega) (by omega))) ?_))|(refine h1H ?_; (refine h0H ?_; first|refine aa J J J J J J J J (Js x (by omega) (by omega)) J ?_|refine aa J J J J J J J J (Js y (by omega) (by omega)) J ?_|refine aw 16 J J J J J J J J (uA (x / y) (by omega) (by omega)) J J J ?_|refine aw 16 J J J J J J J J (uA (x % y) (by omega) (by omega)) J J J ?_))|refine wG ?_|(refine h1H ?_; (refine h5H ?_; refine aG J J J J (fun h=>?_) (fun h=>?_)))|(refine h4H ?_; refine ag J (fun h=>?_) (fun h=>?_)))
 ·rfl
 ·exfalso; simp at h; omega
 ·exfalso; simp at h; omega
theorem wF{z : Int} : (cr z).length = 0↔z = 0:=by
 have:=FT (z:=z)
 omega
theorem Ow(x y : Int)(hx : 0≤x)(hx1 : x < 1000000000000000000)(hy : 0≤y)(hy1 : y < 1000000000000000000) : CallA Tryz.prog 266 [.one (.d (c6 (cr x))),.one (.d (c6 (cr y)))] [] (.one (.d (c6 (cr (Int.gcd x y))))) []:=by
 refine enter ae Tryz.func266 rfl (by decide +kernel) rfl fun hok w0 σ0 φ0 M=>?_
 clear hok
 repeat' (first|(refine h1H ?_; (refine h0H ?_; refine aw 16 J J J J J J J J (Jw p.1 p.2 wB wB wB wB) J J J ?_))|refine wG ?_|(refine h4H ?_; first|refine ag J (fun h=>?_) (fun h=>?_)|refine aB 1 J [] aT (fun (p : Int×Int)=>[(0,.one (.d (c6 (cr p.1)))),(1,.one (.d (c6 (cr p.2))))]) (fun (p : Int×Int)=>(0≤p.1∧p.1 < 1000000000000000000)∧(0≤p.2∧p.2 < 1000000000000000000)∧((cr p.2).length = 0↔p.2 = 0)∧Int.gcd p.1 p.2 = Int.gcd x y) (fun (p : Int×Int)=>p.2.toNat) (x,y) (q2Q J J) ?_ (fun p ⟨h1,h2,h3,h4⟩=>?_))|(show Exists _; refine Exists.intro ((p.2,p.1 % p.2)) ⟨?_,?_,wK,(q2Q J J),aT⟩))
 ·exact ⟨⟨hx,hx1⟩,⟨hy,hy1⟩,wF,rfl⟩
 ·have hp : p.2≠0:=by
   intro e
   have:=h3.2 e
   simp [this] at h
  refine ⟨h2,wE h1.1 h1.2 (by omega),wF,?_⟩
  show Int.gcd p.2 (p.1 % p.2) = _
  rw [← h4]
  obtain ⟨a,ha⟩:=Int.eq_ofNat_of_zero_le h1.1
  obtain ⟨b,hb⟩:=Int.eq_ofNat_of_zero_le h2.1
  rw [ha,hb]
  show Nat.gcd b (a % b) = Nat.gcd a b
  rw [Nat.gcd_comm,← Nat.gcd_rec,Nat.gcd_comm]
 ·have hp : p.2≠0:=by
   intro e
   have:=h3.2 e
   simp [this] at h
  have h5:=Int.emod_lt_of_pos p.1 (show 0 < p.2 by omega)
  have h6:=Int.emod_nonneg p.1 hp
  show (p.1 % p.2).toNat < p.2.toNat
  omega
 ·have hp : p.2 = 0:=h3.1 (by simpa using h)
  rw [hp] at h4
  have : ((Int.gcd p.1 0 : Nat) : Int) = p.1:=by
   rw [Int.gcd_zero_right]; omega
  rw [← h4,this]
def uI(l : List Int) : Int:=if (l.length : Int) < 1 then -1 else if 1 < (l.length : Int) then 1 else if at_ l 0 < 1 then -1 else if 1 < at_ l 0 then 1 else 0
theorem Od(l : List Int) : CallA Tryz.prog 265 [.one (.d (c6 l)),.one (.d (c6 [1]))] [] (.one (.d (.int .i64 (uI l)))) []:=by
 refine enter ae Tryz.func265 rfl (by decide +kernel) rfl fun hok w0 σ0 φ0 M=>?_
 have h1:=hok.1.sl.1; clear hok; simp only [List.length_map] at h1
 repeat' (first|refine wG ?_|(refine h4H ?_; first|refine ag J (fun h=>?_) (fun h=>?_)|refine pK 6 J 3 ?_))
 all_goals (try (((simp_all [uI,am,List.drop_eq_nil_of_le]) <;> exact wL); done))
 all_goals (try simp only [a0A,a1A,FE,a5A,yq,yr] at *)
 all_goals (have hl : l.length = 1:=by omega)
 all_goals (obtain ⟨a,rfl⟩:=List.length_eq_one_iff.1 hl)
 all_goals (simp [uI,at_] at *; try omega)
theorem yD{g : Int}(h0 : 0≤g) : (uI (cr g) == 0) = (g == 1):=by
 unfold cr
 split
 ·rename_i h; subst h; rfl
 ·split
  ·rename_i h1 h2
   simp [uI,at_]
   rw [Bool.eq_iff_iff]; simp
   split <;> (try split) <;> omega
  ·rename_i h1 h2
   have : (g == 1) = false:=by simp; omega
   rw [this]; simp [uI]
theorem Ek{n d : Int}(hd : 1≤d) : Int.gcd (max n (-n)) (max d (-d)) = Nat.gcd n.natAbs d.toNat:=by
 unfold Int.gcd
 congr 1 <;> omega
theorem H0 : CallA Tryz.prog 268 [.one (.d (.int .u64 1))] [] (.one (.d (c6 [1]))) []:=uA 1 (by omega) (by omega)
theorem BM(k' n d : Int)(s : List UInt8) : CallA Tryz.prog 227 [.agg [.d (.int .i64 k'),.d (.int .i64 n),.d (.int .i64 d),.d (.str s)]] [] (.one (.d (.int .i64 (if dm k' n d s then 0 else 2)))) []:=by
 refine enter ae Tryz.func227 rfl (by decide +kernel) rfl fun hok w0 σ0 φ0 M=>?_
 have hl:=(hok.1 (.d (.str s)) (by simp)); replace hl:=OkD.str hl; clear hok
 repeat' (first|(refine h3H ?_; (refine h2H ?_; first|refine d_l J J (aA J J J J J J (Od _) J) ?_|refine bh 16 J J J J J J J J (Jt _ wB wB) J J ?_|refine bh 16 J J J J J J J J (Ow _ _ wB wB wB wB) J J ?_|refine bh 16 J J J J J J J J (H0) J J ?_))|refine wG ?_|(refine h1H ?_; (refine h5H ?_; refine aG J J J J (fun h=>?_) (fun h=>?_)))|(refine h4H ?_; first|refine ag J (fun h=>?_) (fun h=>?_)|refine aB 12 J [(1,_)] (q1Q J) (fun (p : Nat×Bool)=>[(4,.one (.d (.int .i64 (p.1 : Int)))),(3,.one (.d (.bool p.2)))]) (fun (p : Nat×Bool)=>p.1≤s.length∧p.2 = ((n == 0 && (d == 0 && decide ((s.length : Int)≤16))) && (s.take p.1).all dG)) (fun (p : Nat×Bool)=>s.length - p.1) (0,_) (q2Q J J) ?_ (fun p ⟨hk,hp⟩=>?_))|(refine h3H ?_; (refine r7 ?_; refine j9 J J (fun h=>?_) (fun h=>?_)))|(show Exists _; refine Exists.intro ((p.1 + 1,_)) ⟨?_,?_,wK,(q2Q J J),(q1Q J)⟩))
 all_goals (try (((simp_all [dm,lV,eO,dG,am,List.drop_eq_nil_of_le]) <;> exact wL); done))
 ·rename_i a1 a2 a3 a4 a5 a6 a7 a8
  rw [Ek (by simpa using a4),yD (by omega)] at h
  simp_all [dm]
 ·rename_i a1 a2 a3 a4 a5 a6 a7 a8
  rw [Ek (by simpa using a4),yD (by omega)] at h
  simp_all [dm]
 ·refine ⟨Nat.zero_le _,?_⟩
  change decide ((s.length : Int)≤16) = _
  simp_all
 ·rename_i a1 a2 a3 a4 a5 a6 a7 a8
  have hk' : p.1 < s.length:=by simpa using a7
  refine ⟨by show p.1 + 1≤_; omega,?_⟩
  change decide (((at_ s p.1).toNat : Int)≤126) = (n == 0 && (d == 0 && decide ((s.length : Int)≤16)) && (List.take (p.1 + 1) s).all dG)
  rw [eO hk',List.all_append,← Bool.and_assoc,← hp,a8]
  have h2 : (32 : Int)≤((at_ s p.1).toNat : Int):=by simpa using h
  have h' : 32≤(at_ s p.1).toNat:=by omega
  simp [dG,h']
  try omega
theorem Mo(k n d : Int)(s : List UInt8)(t : Int) : CallA Tryz.prog 199 [.agg [.d (.int .i64 k),.d (.int .i64 n),.d (.int .i64 d),.d (.str s)],.one (.d (.int .i64 t))] [] (.one (.d (.bool (fj k n d s t)))) []:=by
 refine enter ae Tryz.func199 rfl (by decide +kernel) rfl fun hok w0 σ0 φ0 M=>?_
 clear hok
 repeat' (first|(refine h1H ?_; (refine h0H ?_; refine aa J J J J J J J J (BM _ _ _ _) J ?_))|refine wG ?_|(refine h1H ?_; (refine h5H ?_; refine aG J J J J (fun h=>?_) (fun h=>?_)))|(refine h4H ?_; refine ag J (fun h=>?_) (fun h=>?_)))
 all_goals (try (((simp_all [fj,am,List.drop_eq_nil_of_le]) <;> exact wL); done))
 all_goals (by_cases hk : k = 3 <;> simp_all [fj,dm])
def dq(op : Int) : Int:=if 4≤op∧op≤8 then 1 else if 9≤op∧op≤21 then 2 else if op = 22 then 3 else 0
def wU(v : Val) : Bool:=v.kind == 0 && (v.num == 0 && (v.den == 0 && v.str == []))
theorem ou{v : Val} : cb [.int .i64 v.kind,.int .i64 v.num,.int .i64 v.den,.str v.str] [.int .i64 0,.int .i64 0,.int .i64 0,.str []] = wU v:=by
 simp [cb,eqD,wU]
def cL(s : Scalar) : Bool :=
 if s.op = 1 then dm s.val.kind s.val.num s.val.den s.val.str && (!(s.val.kind == 0) && (s.name == [] && (s.args.length : Int) == 0))
 else if s.op = 2∨s.op = 3 then wU s.val && (s.args.length : Int) == 0
 else decide (0 < dq s.op) && (wU s.val && (s.name == [] && (s.args.length : Int) == dq s.op))
theorem Na(s : Scalar) : CallA Tryz.prog 177 [cY s] [] (.one (.d (.bool (cL s)))) []:=by
 refine enter ae Tryz.func177 rfl (by decide +kernel) rfl fun hok w0 σ0 φ0 M=>?_
 clear hok
 repeat' (first|(refine h1H ?_; (refine h0H ?_; refine aa J J J J J J J J (BM _ _ _ _) J ?_))|refine wG ?_|(refine h1H ?_; (refine h5H ?_; refine aG J J J J (fun h=>?_) (fun h=>?_)))|(refine h4H ?_; refine ag J (fun h=>?_) (fun h=>?_)))
 all_goals (try rw [ou] at *)
 all_goals (try (((simp_all [cL,dq,ou,am,List.drop_eq_nil_of_le]) <;> exact wL); done))
mutual
def cW : Scalar→Bool
 | .mk o n v a=>cL (.mk o n v a) && gV a
def gV : List Scalar→Bool
 | []=>true
 | x::r=>cW x && gV r
end
theorem eV : ∀ {s : Scalar},cW s = (cL s && gV s.args)
 | .mk _ _ _ _=>by simp [cW,Scalar.args]
theorem c92(s : Scalar) : CallA Tryz.prog 92 [cY s] [] (.one (.d (.bool (cW s)))) []:=by
 induction s using Scalar.ind with
 | h s ih =>
   refine enter ae Tryz.func92 rfl (by decide +kernel) rfl fun hok w0 σ0 φ0 M=>?_
   have h1:=(OkD.sl (hok.1 (.d (cu s.args)) (by simp))).1; clear hok; simp only [List.length_map] at h1
   repeat' (first|(refine h1H ?_; (refine h0H ?_; first|refine aa J J J J J J J J (Na _) J ?_|refine aa J J J J J J J J (ih _ (bM wB)) J ?_))|refine wG ?_|(refine h4H ?_; first|refine ag J (fun h=>?_) (fun h=>?_)|refine aB 4 J [(1,_)] (q1Q J) (fun (k : Nat)=>[(3,.one (.d (.int .i64 k)))]) (fun (k : Nat)=>k≤s.args.length∧cL s = true∧gV s.args = gV (s.args.drop k)) (fun (k : Nat)=>s.args.length - k) 0 (q1Q J) ?_ (fun k ⟨hk,hp,hs⟩=>?_))|(show Exists _; refine Exists.intro (k + 1) ⟨?_,?_,wK,(q1Q J),(q1Q J)⟩))
   all_goals (try (((simp_all [eV,gV,am,List.drop_eq_nil_of_le]) <;> exact wL); done))
end Go.Proofs.YtpejdgkaapnekaaGreat
namespace Go.Proofs.YtpejdgkaapnekaaGreat
open Go Go.Abs
theorem zi{f : Scalar→Int}{c : Int} : ∀ (l : List Scalar) (d : Int),c < l.foldl (fun d x=>max d (f x)) d↔(c < d∨∃ x∈l,c < f x)
 | [],d=>by simp
 | x::r,d=>by
   have ih:=zi (f:=f) (c:=c) r (max d (f x))
   have hm : c < max d (f x)↔c < d∨c < f x:=by omega
   simp only [List.foldl_cons,List.mem_cons]
   rw [ih,hm]
   refine ⟨fun h=>?_,fun h=>?_⟩
   ·rcases h with (h | h) | ⟨y,hy,h⟩
    ·exact .inl h
    ·exact .inr ⟨x,.inl rfl,h⟩
    ·exact .inr ⟨y,.inr hy,h⟩
   ·rcases h with h | ⟨y,rfl | hy,h⟩
    ·exact .inl (.inl h)
    ·exact .inl (.inr h)
    ·exact .inr ⟨y,hy,h⟩
theorem oZ : ∀ (m : Nat) (s : Scalar),iw m s = true↔(m : Int) < cN m s
 | 0,s=>by simp [iw,cN]
 | m + 1,s=>by
   have h:=zi (f:=cN m) (c:=m) s.args 0
   simp only [iw,cN,List.any_eq_true]
   have e : (∃ x,x∈s.args∧iw m x = true)↔∃ x,x∈s.args∧(m : Int) < cN m x:=⟨fun ⟨x,h1,h2⟩=>⟨x,h1,(oZ m x).1 h2⟩,fun ⟨x,h1,h2⟩=>⟨x,h1,(oZ m x).2 h2⟩⟩
   rw [e]
   refine ⟨fun h2=>?_,fun h2=>?_⟩
   ·have:=h.2 (.inr h2); omega
   ·rcases h.1 (by omega) with h3 | h3
    ·omega
    ·exact h3
mutual
def aS : Scalar→List Scalar
 | .mk o n v a=>aO a ++ [.mk o n v a]
def aO : List Scalar→List Scalar
 | []=>[]
 | x::r=>aS x ++ aO r
end
theorem dB : ∀ {s : Scalar},aS s = aO s.args ++ [s]
 | .mk _ _ _ _=>by simp [aS,Scalar.args]
theorem zj{most : Int} : ∀ {l : List Scalar} {n : Int},most < n→dn l n most = n
 | [],n,h=>by simp [dn]
 | x::r,n,h=>by simp only [dn]; rw [if_neg (by omega)]
theorem qm{most : Int} : ∀ (l : List Scalar),(∀ x∈l,∀ m,0≤m→(((aS x).length : Int)≤m→c9 x m = (aS x).length)∧(m < ((aS x).length : Int)→m < c9 x m))→∀ n,1≤n→n≤most + 1 →
  (n + (aO l).length≤most→dn l n most = n + (aO l).length)∧(most < n + (aO l).length→most < dn l n most)
 | [],_,n,h1,h2=>by simp [dn,aO]
 | x::r,h,n,h1,h2=>by
   simp only [dn,aO,List.length_append]
   split
   ·rename_i hle
    obtain ⟨ha,hb⟩:=h x (by simp) (most - n) (by omega)
    have hr:=pT x (most - n) (by omega)
    have ih:=qm (most:=most) r (fun y hy=>h y (by simp [hy])) (n + c9 x (most - n)) (by omega) (by omega)
    by_cases hc : ((aS x).length : Int)≤most - n
    ·rw [ha hc] at ih ⊢
     refine ⟨fun h3=>?_,fun h3=>?_⟩
     ·rw [ih.1 (by omega)]; omega
     ·exact ih.2 (by omega)
    ·have hb':=hb (by omega)
     refine ⟨fun h3=>by omega,fun h3=>?_⟩
     rw [zj (by omega)]; omega
   ·exact ⟨fun h3=>by omega,fun h3=>by omega⟩
theorem z8(s : Scalar) : ∀ m : Int,0≤m→(((aS s).length : Int)≤m→c9 s m = (aS s).length)∧(m < ((aS s).length : Int)→m < c9 s m):=by
 induction s using Scalar.ind with
 | h s ih =>
   intro m hm
   have:=qm (most:=m) s.args ih 1 (by omega) (by omega)
   rw [pS,dB]
   simp only [List.length_append,List.length_cons,List.length_nil]
   refine ⟨fun h=>?_,fun h=>this.2 (by omega)⟩
   rw [this.1 (by omega)]; omega
theorem CO(s : Scalar) : 64 < c9 s 64↔64 < ((aS s).length : Int):=by
 have h:=z8 s 64 (by omega)
 refine ⟨fun h1=>?_,h.2⟩
 by_cases hc : ((aS s).length : Int)≤64
 ·rw [h.1 hc] at h1; exact h1
 ·omega
theorem tZ : ∀ (l : List Scalar),(∀ x∈l,cW x = (aS x).all cL)→gV l = (aO l).all cL
 | [],_=>by simp [gV,aO]
 | x::r,h=>by
   simp only [gV,aO,List.all_append,h x (by simp),tZ r fun y hy=>h y (by simp [hy])]
theorem wu(s : Scalar) : cW s = (aS s).all cL:=by
 induction s using Scalar.ind with
 | h s ih =>
   rw [eV,dB,tZ s.args ih]
   simp [Bool.and_comm]
def kW : List Scalar→Int→Bool→Int
 | [],_,r=>if r then 0 else 2
 | x::l,n,r=>if 64 < n + 1 then 9 else kW l (n + 1) (r && cL x)
theorem qk : ∀ (l : List Scalar) (n : Int) (r : Bool),n≤64→(64 < n + (l.length : Int)→kW l n r = 9)∧(¬ 64 < n + (l.length : Int)→kW l n r = if r && l.all cL then 0 else 2)
 | [],n,r,hn=>by
   simp only [kW,List.length_nil,List.all_nil,Bool.and_true]
   exact ⟨fun h=>absurd h (by omega),fun _=>trivial⟩
 | x::l,n,r,hn=>by
   simp only [kW,List.length_cons,List.all_cons]
   by_cases h : 64 < n + 1
   ·rw [if_pos h]
    exact ⟨fun _=>rfl,fun h2=>absurd h2 (by omega)⟩
   ·rw [if_neg h]
    have ih:=qk l (n + 1) (r && cL x) (by omega)
    rw [Bool.and_assoc] at ih
    exact ⟨fun h2=>ih.1 (by omega),fun h2=>ih.2 (by omega)⟩
def fo(s : Scalar) : Int:=if iw 12 s then 10 else kW (aS s) 0 true
theorem EQ(s : Scalar) : fo s = if 12 < cN 12 s then 10 else if 64 < c9 s 64 then 9 else if cW s then 0 else 2:=by
 have h1:=oZ 12 s
 have h2:=CO s
 have h3:=qk (aS s) 0 true (by omega)
 unfold fo
 rw [wu]
 by_cases hd : iw 12 s = true
 ·have hd' : 12 < cN 12 s:=h1.1 hd
  rw [if_pos hd,if_pos hd']
 ·have hd' : ¬ 12 < cN 12 s:=fun h=>hd (h1.2 h)
  rw [if_neg hd,if_neg hd']
  by_cases hc : 64 < c9 s 64
  ·rw [if_pos hc]; have:=h2.1 hc; exact h3.1 (by omega)
  ·rw [if_neg hc]
   have hn : ¬ 64 < ((aS s).length : Int):=fun h=>hc (h2.2 h)
   rw [h3.2 (by omega),Bool.true_and]
end Go.Proofs.YtpejdgkaapnekaaGreat
