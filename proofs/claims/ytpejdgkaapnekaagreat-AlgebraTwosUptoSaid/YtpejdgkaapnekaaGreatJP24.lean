import Derived.Test.YtpejdgkaapnekaaGreatJP22
import Derived.Test.YtpejdgkaapnekaaGreatJP23
import Derived.Test.YtpejdgkaapnekaaGreatJP19
import Derived.Test.YtpejdgkaapnekaaGreatJP21
set_option linter.unusedVariables false
set_option linter.unusedSimpArgs false
set_option maxHeartbeats 1000000
namespace Go.Proofs.YtpejdgkaapnekaaGreat
open Go Go.Abs
attribute [local irreducible] aa OkC aq aC ax aS
set_option maxRecDepth 10000
section
variable {P : Program} {c : Ctx} {fr : List (Nat×AV)} {sto : Sto} {ops : Array Oper} {o : Oper} {rest : List Oper} {K : St→Prop} {st0 : St} {acc : List Tr}
theorem e8(k : Nat){d : Nat}{fop : Operand}{args : Array Operand}{ats : Array TypeId}{f : FuncId}{caps : List D}{avs avs' : List AV}{rav rav' : AV}{rsto sto' : Sto}{tr : Tr}
  (ho : o.op = .call { callee:=.value fop,args:=args,argTypes:=ats }) (hg : o.guard = none) (hdst : o.dst = some d) (hd : Nat.blt d c.n = true) (hf : ev ⟨fr,sto⟩ fop = some (.one (.d (.fn f caps))))
  (ha : evL ⟨fr,sto⟩ args.toList = some avs) (hD : cm avs = true) (hap : (avs ++ caps.map fun x=>.one (.d x)) = avs') (hC : CallA P f avs' [] rav rsto)
  (hk : (cA [] rsto && Nat.ble (k + 16) 1000000 && dp rsto rav && bt rsto rsto) = true) (ht : jW k [] [] rav rsto = tr) (hr : tr.v = rav') (hw : cn tr.wr sto = sto')
  (h : aq P c ops st0 rest ⟨(d,rav')::fr,sto'⟩ (tr::acc) K) : aq P c ops st0 (o::rest) ⟨fr,sto⟩ acc K:=by
 subst hap; subst hr; subst hw; subst ht
 refine nZ hg (sw k ho (by rw [hdst]; exact hd) hf ha hD hC hk) ?_
 rw [hdst]; exact h
end
theorem Cd(xs : List (List D))(ds : List Dim)(hx : xs = ds.map al) : CallA Tryz.prog 201 [.one (.d (.sl 3 32 xs)),.one (.d (.fn 213 []))] [] (.one (.d (.bool (ds.any fZ)))) []:=by
 subst hx; exact E3 ds
theorem CB{pl : Nat→List Int}{cell : Nat→List D}{x : List Int} : ∀ {n : Nat},rS pl cell n x = ((List.range n).filter fun k=>pl k == x).map cell
 | 0=>rfl
 | n + 1=>by
   rw [List.range_succ,List.filter_append,List.map_append,← CB (n:=n)]
   simp only [rS]
   cases h : (pl n == x) <;> simp [h]
theorem B3{α : Type}[Inhabited α]{p : α→Bool} : ∀ {l : List α},(((List.range l.length).filter fun k=>p (at_ l k)).map fun k=>at_ l k) = l.filter p:=by
 intro l
 have h : (List.range l.length).map (fun k=>at_ l k) = l:=dN (by simp) fun i hi=>by
  have hi' : i < l.length:=by simpa using hi
  rw [bI (by simpa using hi'),pZ hi']
 conv=>rhs; rw [← h]
 rw [List.filter_map]
 rfl
theorem EC(a b : Arr)(c : Cell) : rS (fun k=>ar (at_ b.cells k).at' (bY a.dims b.dims)) (fun k=>af (at_ b.cells k)) b.cells.length (ar c.at' (aI a.dims b.dims)) = (b.cells.filter (bB a.dims b.dims c)).map af:=by
 rw [CB]
 have e:=B3 (p:=fun d : Cell=>ar d.at' (bY a.dims b.dims) == ar c.at' (aI a.dims b.dims)) (l:=b.cells)
 have e2 : b.cells.filter (bB a.dims b.dims c) = b.cells.filter (fun d : Cell=>ar d.at' (bY a.dims b.dims) == ar c.at' (aI a.dims b.dims)):=by
  congr 1
  funext d
  unfold bB
  rw [Bool.eq_iff_iff]; simp only [beq_iff_eq]; exact eq_comm
 rw [e2,← e,List.map_map]
 rfl
section
variable {P : Program} {V : Env} {T : Tab} {w0 : World} {σ0 : Sig} {φ0 : Pl} {M : Nat→Prop} {n : Nat} {rd : Option Nat} {mk : List Deferred} {ops : Array Oper} {o : Oper} {rest : List Oper} {fr : List (Nat×AV)} {sto : Sto} {K : St→Prop}
theorem Dx(hV : EnvOk P V){d id t N : Nat}{m : MTy}{x y : Operand}{p : List Int}{pl : Nat→List Int}{cell : Nat→List D}{X : List (List D)}(hg : o.guard = none)(hdst : o.dst = some d)(hd : Nat.blt d n = true)
  (ho : o.op = .lookup t x y false) (hm : Abs.look V.M t = some m) (hms : m.ks = pk) (hk : m.kg = true) (hv : m.vg = false) (hz : m.z = [.nil])
  (hx : ev ⟨fr,sto⟩ x = some (.one (.mapr id))) (hl : Abs.look sto id = some (.map true false (cS (fun j=>.sl 2 48 (rS pl cell N (at_ (kS pl N) j))) (kS pl N) 0))) (hy : ev ⟨fr,sto⟩ y = some (j6 p)) (h4 : p.length≤4) (hks : ∀ k,k < N→(pl k).length = p.length)
  (hX : rS pl cell N p = X) (h : aa P ⟨w0,σ0,φ0,M,n,rd,mk⟩ ops rest ⟨(d,.one (.d (.sl 2 48 X)))::fr,sto⟩ K) : aa P ⟨w0,σ0,φ0,M,n,rd,mk⟩ ops (o::rest) ⟨fr,sto⟩ K:=by
 have hks2 : ∀ k∈kS pl N,k.length = p.length:=fun k hk=>by
  obtain ⟨i,h1,h2⟩:=qw hk
  rw [← h2]; exact hks i h1
 cases hw : bQ p (kS pl N) 0 with
 | some j =>
   have hat : at_ (kS pl N) j = p:=by
    have h1:=(jm hw).2
    rw [Nat.sub_zero] at h1
    have h2:=(List.getElem?_eq_some_iff.1 h1).1
    rw [cZ h2] at h1
    exact Option.some.inj h1
   refine s_e hV hg hdst hd (iZ (v:=.one (.d (.sl 2 48 X))) ho hm hms hk hv hx hl hy h4 hks2 (by rw [hw]; simp only [hat,hX]; rfl)) h
 | none =>
   have hnil : X = []:=by
    rw [← hX]
    refine uM ?_
    exact Abs.whereK_none hw
   subst hnil
   refine s_e hV hg hdst hd (iZ (v:=.one (.d .nil)) ho hm hms hk hv hx hl hy h4 hks2 (by rw [hw,hz]; rfl)) ?_
   refine ct (jM (s:=d) (k:=2) (b:=48) (by simp [Abs.look,Nat.beq_refl])) (ct (fun a w σ φ hr=>?_) h)
   refine ⟨σ,φ,⟨hr.le,hr.fresh,hr.inv,hr.mine,fun s v hv=>hr.slot s v ?_,hr.defers,hr.size,hr.fra,hr.pin⟩⟩
   simp only [Abs.look] at hv ⊢
   cases hb : Nat.beq d s <;> simp only [hb,cond_true,cond_false] at hv ⊢
   ·exact hv
   ·exact hv
end
abbrev kG(a b : Arr) : List (Nat×AV):=[(99,.one (.d (ak b.cells))),(100,.one (.d (.int .i64 ((b.cells.map af).length : Int)))),(3,.one (.ref 0 0)),(4,.one (.ref 1 0)),(5,.one (.ref 2 0)),(6,.one (.ref 3 0)),(8,.one (.own 7 (a.dims.length + ((ar b.dims (aV a.dims b.dims)).map al).length))),(9,.one (.own 8 (a.attrs.length + (b.attrs.map aA).length)))]
abbrev sG(a b : Arr)(xs : List (List D)) : Sto:=[(7,.row 3 32 xs),(8,.row 2 24 (List.take a.attrs.length (a.attrs.map aA) ++ b.attrs.map aA)),(3,.box [.d .nil,.d .nil,.d .nil]),(2,.box [.d (aF (aI a.dims b.dims)),.d (aF (bY a.dims b.dims)),.d (aF (aV a.dims b.dims))]),(1,.box [.d (aj b.dims),.d (ai b.attrs),.d (ak b.cells)]),(0,.box [.d (aj a.dims),.d (ai a.attrs),.d (ak a.cells)])]
theorem zn(a b : Arr) :
  (decide (4 < ((a.dims.length + ((ar b.dims (aV a.dims b.dims)).map al).length : Nat) : Int)) = true∧cJ a b = (none,9)) ∨
  (decide (4 < ((a.dims.length + ((ar b.dims (aV a.dims b.dims)).map al).length : Nat) : Int)) = false∧decide (6 < ((a.attrs.length + (b.attrs.map aA).length : Nat) : Int)) = true∧cJ a b = (none,9)) ∨
  (decide (4 < ((a.dims.length + ((ar b.dims (aV a.dims b.dims)).map al).length : Nat) : Int)) = false∧decide (6 < ((a.attrs.length + (b.attrs.map aA).length : Nat) : Int)) = false∧(aW a.dims b.dims).any fZ = true∧cJ a b = (none,3)) ∨
  (decide (4 < ((a.dims.length + ((ar b.dims (aV a.dims b.dims)).map al).length : Nat) : Int)) = false∧decide (6 < ((a.attrs.length + (b.attrs.map aA).length : Nat) : Int)) = false∧(aW a.dims b.dims).any fZ = false∧cJ a b = dx (aW a.dims b.dims) (a.attrs ++ b.attrs) (cI a b)):=by
 have e1 : ((aW a.dims b.dims).length : Int) = ((a.dims.length + ((ar b.dims (aV a.dims b.dims)).map al).length : Nat) : Int):=by unfold aW; simp
 have e2 : ((a.attrs ++ b.attrs).length : Int) = ((a.attrs.length + (b.attrs.map aA).length : Nat) : Int):=by simp
 rw [← e1,← e2]
 by_cases h1 : 4 < ((aW a.dims b.dims).length : Int)
 ·exact .inl ⟨by simpa using h1,by unfold cJ; rw [if_pos (.inl h1)]⟩
 by_cases h2 : 6 < ((a.attrs ++ b.attrs).length : Int)
 ·exact .inr (.inl ⟨decide_eq_false h1,decide_eq_true h2,by unfold cJ; rw [if_pos (.inr h2)]⟩)
 have h12 : ¬ (4 < ((aW a.dims b.dims).length : Int)∨6 < ((a.attrs ++ b.attrs).length : Int)):=fun h=>h.elim h1 h2
 cases h3 : (aW a.dims b.dims).any fZ
 ·exact .inr (.inr (.inr ⟨decide_eq_false h1,decide_eq_false h2,rfl,by unfold cJ; rw [if_neg h12,if_neg (by simp [h3])]⟩))
 ·exact .inr (.inr (.inl ⟨decide_eq_false h1,decide_eq_false h2,rfl,by unfold cJ; rw [if_neg h12,if_pos h3]⟩))
theorem zo{ad bd : List Dim}{i x : Nat}(h : i < (aI ad bd).length) : at_ (aI ad bd) i < ((ad.length + x : Nat) : Int):=by
 have:=lE i h
 omega
theorem lK{ad bd : List Dim}{i : Nat}{xs : List (List D)}(hl : xs.length = ad.length + (aV ad bd).length)(h : i < (aI ad bd).length) : (at_ (aI ad bd) i).toNat < xs.length:=by
 have:=lE i h
 omega
theorem p5{ad bd : List Dim}{i : Nat}(h : i < (aI ad bd).length) : 0≤at_ (bY ad bd) i∧(at_ (bY ad bd) i).toNat < bd.length:=wj i (by rw [lC,← e7]; exact h)
def me(ad bd : List Dim)(m : Nat)(hi : Bool) : List D :=
 [.str (at_ (ec ad bd m) (at_ (aI ad bd) m).toNat).name,.int .i64 (max (at_ (ec ad bd m) (at_ (aI ad bd) m).toNat).lo (at_ bd (at_ (bY ad bd) m).toNat).lo),
  .int .i64 (if hi then min (at_ (ec ad bd m) (at_ (aI ad bd) m).toNat).hi (at_ bd (at_ (bY ad bd) m).toNat).hi else (at_ (ec ad bd m) (at_ (aI ad bd) m).toNat).hi)]
theorem Ic(ds : List Dim)(ats : List Attr)(cs : List Cell)(xs zs ys : List (List D))(hd : cs.Pairwise bG)(hf : cs.length≤4096)(hx : xs = ds.map al)(hz : zs = ats.map aA)(hy : ys = cs.map af) : CallA Tryz.prog 99 [.one (.d (.sl 3 32 xs)),.one (.d (.sl 2 24 zs)),.one (.d (.sl 2 48 ys))] [] (.tup [(true,[.d (aj ds),.d (ai ats),.d (ak (bp cs))]),(false,[.d (.int .i64 0)])]) []:=by
 subst hz; exact AT ds ats cs xs ys hd hf hx hy
theorem Fa(l : List Val)(hne : 0 < l.length) : CallA Tryz.prog 144 [.one (.d (bM l))] [] (.one (.own 0 l.length)) [(0,.row 4 40 (l.map aQ))]:=by
 refine enter ag Tryz.func144 rfl (by decide +kernel) rfl fun hok w0 σ0 φ0 M=>?_
 have h1:=hok.1.sl; clear hok; simp only [List.length_map] at h1
 repeat' (first|(refine h1H ?_; (refine h6H ?_; refine cy ag J J J J J J (fun r hr=>?_)))|(refine h1H ?_; (refine h0H ?_; refine bO ag J J J J J (id:=0) J J J J J J J (by simp only [List.length_map,Nat.zero_add]; omega) (by simp only [List.length_map,Nat.zero_add]; omega) ?_))|refine wG ?_|(refine h5H ?_; refine ao J (fun h=>?_) (fun h=>?_)))
 ·have e:=hr (by simpa using h)
  simp only [List.map_eq_nil_iff] at e
  subst e; simp at hne
 ·simp
theorem xe{a b : Arr}{i n : Nat}(hi : a.cells.length≤i)(h2 : n = (jN a b i 0).length)(h3 : n≤4096) : (cI a b).length≤4096:=by
 rw [zl hi] at h2; omega
theorem Dy{a b : Arr}{i n : Nat}{rows : List (List D)}(hi : a.cells.length≤i)(h2 : n = (jN a b i 0).length)(h4 : rows = (jN a b i 0).map af) : List.take n rows = (cI a b).map af:=by
 rw [h4,List.take_of_length_le (by rw [List.length_map]; omega),zl hi]
theorem Dz{a b : Arr} : List.take (a.attrs.length + (b.attrs.map aA).length) (List.take a.attrs.length (a.attrs.map aA) ++ b.attrs.map aA) = (a.attrs ++ b.attrs).map aA:=by
 rw [List.take_of_length_le (l:=a.attrs.map aA) (by simp),List.take_of_length_le (by simp),List.map_append]
theorem DA{a b : Arr}{xs : List (List D)}{m : Nat}(hn : (a.dims.map Dim.name).Nodup)(hl : xs.length = a.dims.length + (aV a.dims b.dims).length)(hx : xs = (ec a.dims b.dims m).map al)(hm : m = (aI a.dims b.dims).length) : List.take (a.dims.length + ((ar b.dims (aV a.dims b.dims)).map al).length) xs = (aW a.dims b.dims).map al:=by
 rw [List.take_of_length_le (by rw [hl,List.length_map,bT]; exact Nat.le_refl _),hx,hm,pc hn]
theorem pR{a b : Arr}{c : Cell} : (fc a b c).length = (b.cells.filter (bB a.dims b.dims c)).length:=by simp [fc]
theorem DB{ad bd : List Dim}(c d : Cell) : [D.sl 1 8 (List.take (c.at'.length + ((ar d.at' (aV ad bd)).map aB).length) (List.take c.at'.length (c.at'.map aB) ++ (ar d.at' (aV ad bd)).map aB)),D.sl 4 40 (List.take (c.vals.length + (d.vals.map aQ).length) (List.take c.vals.length (c.vals.map aQ) ++ d.vals.map aQ))] = af (kZ ad bd c d):=by
 rw [List.take_of_length_le (l:=c.at'.map aB) (by simp),List.take_of_length_le (l:=c.vals.map aQ) (by simp),List.take_of_length_le (by simp),List.take_of_length_le (by simp),← List.map_append,← List.map_append]
 rfl
theorem ED{a b : Arr}{i j n : Nat}{rows : List (List D)}(hj : j < (b.cells.filter (bB a.dims b.dims (at_ a.cells i))).length)(h2 : n = (jN a b i j).length)(h4 : rows = (jN a b i j).map af) :
  n + 1 = (jN a b i (j + 1)).length∧List.take n rows ++ [af (kZ a.dims b.dims (at_ a.cells i) (at_ (b.cells.filter (bB a.dims b.dims (at_ a.cells i))) j))] = (jN a b i (j + 1)).map af:=by
 have e:=DO (a:=a) (b:=b) (i:=i) (j:=j) (by rw [pR]; exact hj)
 refine ⟨by rw [e,List.length_append,h2]; rfl,?_⟩
 rw [e,List.map_append,h4,List.take_of_length_le (by rw [List.length_map]; omega)]
 unfold fc
 rw [bI hj]
 rfl
theorem DC{a b : Arr}{i j : Nat}(hi : i < a.cells.length)(hj : j < (b.cells.filter (bB a.dims b.dims (at_ a.cells i))).length)(h : (jN a b i j).length = 4096) : dx (aW a.dims b.dims) (a.attrs ++ b.attrs) (cI a b) = (none,9):=by
 have h1:=EJ (a:=a) (b:=b) hi (j:=j)
 rw [pR] at h1
 unfold dx
 rw [if_pos (by omega)]
noncomputable def DD : Code:=match Tryz.f157.body with
 | some (.seq _ (.seq _ (.seq _ (.seq _ (.seq _ (.seq _ (.seq _ (.seq _ t))))))))=>t
 | _=>.skip
abbrev mG(a b : Arr) : AObj:=.map true false (cS (fun j=>.sl 2 48 (rS (fun k=>ar (at_ b.cells k).at' (bY a.dims b.dims)) (fun k=>af (at_ b.cells k)) b.cells.length (at_ (kS (fun k=>ar (at_ b.cells k).at' (bY a.dims b.dims)) b.cells.length) j))) (kS (fun k=>ar (at_ b.cells k).at' (bY a.dims b.dims)) b.cells.length) 0)
set_option maxHeartbeats 4000000 in
theorem EM(a b : Arr)(ha : OkA a.dims a.attrs a.cells)(hb : OkA b.dims b.attrs b.cells){xs : List (List D)}{m : Nat}(hr : xs = (ec a.dims b.dims m).map al)(hrl2 : xs.length = a.dims.length + (aV a.dims b.dims).length)(hpe : m = (aI a.dims b.dims).length)
  {w0 : World} {σ0 : Sig} {φ0 : Pl} {M : Nat→Prop} : OkC Tryz.prog ⟨w0,σ0,φ0,M,Tryz.f157.ntmps,none,[]⟩ DD ⟨(12,.one (.mapr 4))::kG a b,(4,mG a b)::sG a b xs⟩ (aS tab Tryz.f157.results.toList (er (dx (aW a.dims b.dims) (a.attrs ++ b.attrs) (cI a b))) []):=by
 have hna : 0 < a.dims.length:=by have:=ha.dims.1; omega
 have hnt : 0 < a.attrs.length:=(bg ha.sch).2.1
 have hb4:=hb.dims.2.1
 have ha4:=ha.dims.2.1
 have ha6:=(bg ha.sch).2.2.1
 have hb6:=(bg hb.sch).2.2.1
 have hrl0 : (aV a.dims b.dims).length≤b.dims.length:=by rw [jO]; exact n4
 have hrl : (aV a.dims b.dims).length≤1000:=by omega
 have hlb : (aI a.dims b.dims).length≤b.dims.length:=by rw [e7]; exact wi
 have hnd : (a.dims.map Dim.name).Nodup:=ha.dims.2.2.2
 have hlr : (bY a.dims b.dims).length = (aI a.dims b.dims).length:=by rw [lC,e7]
 have hfew:=hb.few
 have hln : (aI a.dims b.dims).length≤1000:=by omega
 have hr4L : ∀ {x : List Int},(ar x (aI a.dims b.dims)).length≤4:=by intro x; rw [bT]; omega
 have hLR : ∀ {x y : List Int},(ar x (bY a.dims b.dims)).length = (ar y (aI a.dims b.dims)).length:=by intro x y; rw [bT,bT,hlr]
 have hclA : ∀ k,k < a.cells.length→∀ i,i < (aI a.dims b.dims).length→0≤at_ (aI a.dims b.dims) i∧(at_ (aI a.dims b.dims) i).toNat < (at_ a.cells k).at'.length:=fun k hk i hi=>by
  rw [(cellF_ok.1 (ha.cel _ (aX hk))).1]; exact lE i hi
 have hvlA : ∀ k,k < a.cells.length→0 < (at_ a.cells k).vals.length:=fun k hk=>by rw [(cellF_ok.1 (ha.cel _ (aX hk))).2.1]; exact hnt
 have hatA : ∀ k,k < a.cells.length→(at_ a.cells k).at'.length≤100000000:=fun k hk=>by rw [(cellF_ok.1 (ha.cel _ (aX hk))).1]; omega
 have hvsA : ∀ k,k < a.cells.length→(at_ a.cells k).vals.length≤100000000:=fun k hk=>by rw [(cellF_ok.1 (ha.cel _ (aX hk))).2.1]; omega
 have hpkR : ∀ {x : List Int},((ar x (aV a.dims b.dims)).map aB).length≤10000000:=by intro x; rw [List.length_map,bT]; omega
 have hclR : ∀ (p : Cell→Bool) k,k < (b.cells.filter p).length→∀ i,i < (aV a.dims b.dims).length→0≤at_ (aV a.dims b.dims) i∧(at_ (aV a.dims b.dims) i).toNat < (at_ (b.cells.filter p) k).at'.length:=fun p k hk i hi=>by
  rw [(cellF_ok.1 (hb.cel _ (List.mem_filter.1 (aX hk)).1)).1]; exact lF i hi
 have hvsB : ∀ (p : Cell→Bool) k,k < (b.cells.filter p).length→((at_ (b.cells.filter p) k).vals.map aQ).length≤10000000:=fun p k hk=>by
  rw [List.length_map,(cellF_ok.1 (hb.cel _ (List.mem_filter.1 (aX hk)).1)).2.1]; omega
 have hfa:=ha.few
 have hfl : ∀ p : Cell→Bool,(b.cells.filter p).length≤b.cells.length:=fun p=>List.length_filter_le p b.cells
 repeat' (first|(refine h1H ?_; (refine Ee ?_; refine Dx envOk J J J J J J J J J J J J hr4L (fun k hk=>hLR) (EC a b (at_ a.cells (u.1 : Int).toNat)) ?_))|(refine h1H ?_; (refine h0H ?_; first|refine jP 70 [7,8,10] J J J J J J J J J (Ic (aW a.dims b.dims) (a.attrs ++ b.attrs) (cI a b) _ _ _ (p4 ha hb) (xe wB hu2 hu3) (DA hnd hrl2 hr hpe) Dz (Dy wB hu2 hu4)) J J J ?_|refine ab J J J J J J J J (xB (ar (at_ a.cells (u.1 : Int).toNat).at' (aI a.dims b.dims)) hr4L) J ?_|refine bh 16 J J J J J J J J (A8 (at_ a.cells (u.1 : Int).toNat).at' (aI a.dims b.dims) hln (hclA _ wB)) J J J ?_))|(refine h5H ?_; (show OkC _ _ (Code.region 29 _ _) (St.mk _ (cn _ _)) _; refine bm (l9 (st':=⟨[(16,.one (.own 11 (v.2.1 + 1))),(136,_),(5,_),(6,_),(8,_),(9,_),(12,_),(18,_),(121,_),(122,_),(123,_),(134,_),(135,_)],[(11,.row 2 48 (List.take v.2.1 v.2.2 ++ [[.sl 1 8 (List.take ((at_ a.cells u.1).at'.length + ((ar (at_ (b.cells.filter (bB a.dims b.dims (at_ a.cells (u.1 : Int).toNat))) (v.1 : Int).toNat).at' (aV a.dims b.dims)).map aB).length) (List.take (at_ a.cells u.1).at'.length ((at_ a.cells u.1).at'.map aB) ++ (ar (at_ (b.cells.filter (bB a.dims b.dims (at_ a.cells (u.1 : Int).toNat))) (v.1 : Int).toNat).at' (aV a.dims b.dims)).map aB)),.sl 4 40 (List.take ((at_ a.cells u.1).vals.length + ((at_ (b.cells.filter (bB a.dims b.dims (at_ a.cells (u.1 : Int).toNat))) (v.1 : Int).toNat).vals.map aQ).length) (List.take (at_ a.cells u.1).vals.length ((at_ a.cells u.1).vals.map aQ) ++ (at_ (b.cells.filter (bB a.dims b.dims (at_ a.cells (u.1 : Int).toNat))) (v.1 : Int).toNat).vals.map aQ))]])),(0,_),(4,_),(7,_),(8,_),(3,_),(2,_),(1,_)]⟩) (A9 J J J J J J J J J J J J J) (q8Q J J J J J J J J)) ?_))|(refine h3H ?_; (refine h2H ?_; first|refine e8 40 J J J J J J J J (CA _) J J J J ?_|refine e8 60 J J J J J J J J (Fa _ (hvlA _ wB)) J J J J ?_|refine di 80 J J J J J J J J (A8 (at_ (b.cells.filter (bB a.dims b.dims (at_ a.cells (u.1 : Int).toNat))) (v.1 : Int).toNat).at' (aV a.dims b.dims) hrl (hclR _ _ wB)) J J ?_|refine dB envOk 13 J J J (b6 (i:=40) J J J J J J J J (hatA _ wB) hpkR (Nat.le_of_ble_eq_true J)) J J ?_|refine dB envOk 14 J J J (b6 (i:=60) J J J J J J J J (hvsA _ wB) (hvsB _ _ wB) (Nat.le_of_ble_eq_true J)) J J ?_))|(refine h3H ?_; (refine F9 ?_; refine dB envOk 9 (v:=.one (.own 9 1)) (wr:=[(9,some (.row 2 48 [[.sl 1 8 (List.take ((at_ a.cells u.1).at'.length + ((ar (at_ (b.cells.filter (bB a.dims b.dims (at_ a.cells (u.1 : Int).toNat))) (v.1 : Int).toNat).at' (aV a.dims b.dims)).map aB).length) (List.take (at_ a.cells u.1).at'.length ((at_ a.cells u.1).at'.map aB) ++ (ar (at_ (b.cells.filter (bB a.dims b.dims (at_ a.cells (u.1 : Int).toNat))) (v.1 : Int).toNat).at' (aV a.dims b.dims)).map aB)),.sl 4 40 (List.take ((at_ a.cells u.1).vals.length + ((at_ (b.cells.filter (bB a.dims b.dims (at_ a.cells (u.1 : Int).toNat))) (v.1 : Int).toNat).vals.map aQ).length) (List.take (at_ a.cells u.1).vals.length ((at_ a.cells u.1).vals.map aQ) ++ (at_ (b.cells.filter (bB a.dims b.dims (at_ a.cells (u.1 : Int).toNat))) (v.1 : Int).toNat).vals.map aQ))]])),(13,none),(14,none)]) (nw:=[9]) J J J J J J ?_))|refine wG ?_|(refine h5H ?_; first|refine ao J (fun h=>?_) (fun h=>?_)|refine dy 21 J (ej (s:=16) (id:=10) (k:=2) (b:=48) J J J J) [(5,_),(6,_),(8,_),(9,_),(12,_),(121,_),(122,_)] (q7Q J J J J J J J) (fun (bN : Bool×Bool) (u : Nat×Nat×List (List D))=>[(16,.one (.own (nmA bN) u.2.1)),(123,.one (.d (.int .i64 (u.1 : Int))))]) (fun (bN : Bool×Bool) (u : Nat×Nat×List (List D))=>[((nmA bN),.row 2 48 u.2.2),(4,mG a b),(7,.row 3 32 xs),(8,.row 2 24 (List.take a.attrs.length (a.attrs.map aA) ++ b.attrs.map aA)),(3,.box [.d .nil,.d .nil,.d .nil]),(2,.box [.d (aF (aI a.dims b.dims)),.d (aF (bY a.dims b.dims)),.d (aF (aV a.dims b.dims))]),(1,.box [.d (aj b.dims),.d (ai b.attrs),.d (ak b.cells)])]) (fun (u : Nat×Nat×List (List D))=>u.1≤a.cells.length∧u.2.1 = (jN a b u.1 0).length∧u.2.1≤4096∧u.2.2 = (jN a b u.1 0).map af) (fun (u : Nat×Nat×List (List D))=>a.cells.length - u.1) (0,0,[]) (q2Q J J) wK (fun b y=>by obtain ⟨b1,b2⟩:=b; cases b1 <;> cases b2 <;> first|exact Imp.refl _|exact dz qN (by kernel_rfl)) ?_ (fun u ⟨hu1,hu2,hu3,hu4⟩=>?_)|refine dy 24 J (Imp.refl _) [(5,_),(6,_),(8,_),(9,_),(12,_),(18,_),(121,_),(122,_),(123,_),(134,_),(135,_)] (Em J J J J J J J J J J J) (fun (bN : Bool×Bool) (v : Nat×Nat×List (List D))=>[(16,.one (.own (nmA bN) v.2.1)),(136,.one (.d (.int .i64 (v.1 : Int))))]) (fun (bN : Bool×Bool) (v : Nat×Nat×List (List D))=>[((nmA bN),.row 2 48 v.2.2),(0,.box [.d (aF (at_ a.cells u.1).at'),.d (bM (at_ a.cells u.1).vals)]),(4,mG a b),(7,.row 3 32 xs),(8,.row 2 24 (List.take a.attrs.length (a.attrs.map aA) ++ b.attrs.map aA)),(3,.box [.d .nil,.d .nil,.d .nil]),(2,.box [.d (aF (aI a.dims b.dims)),.d (aF (bY a.dims b.dims)),.d (aF (aV a.dims b.dims))]),(1,.box [.d (aj b.dims),.d (ai b.attrs),.d (ak b.cells)])]) (fun (v : Nat×Nat×List (List D))=>v.1≤(b.cells.filter (bB a.dims b.dims (at_ a.cells u.1))).length∧v.2.1 = (jN a b u.1 v.1).length∧v.2.1≤4096∧v.2.2 = (jN a b u.1 v.1).map af∧(b.cells.filter (bB a.dims b.dims (at_ a.cells u.1))).length≤4096) (fun (v : Nat×Nat×List (List D))=>(b.cells.filter (bB a.dims b.dims (at_ a.cells u.1))).length - v.1) (0,u.2) (q2Q J J) wK (fun b y=>by obtain ⟨b1,b2⟩:=b; cases b1 <;> cases b2 <;> first|exact Imp.refl _|exact dz qN (by kernel_rfl)) ?_ (fun v ⟨hv1,hv2,hv3,hv4,hv5⟩=>?_))|(show Exists _; first|refine Exists.intro ((v.1 + 1,v.2.1 + 1,v.2.2.take v.2.1 ++ [[.sl 1 8 (List.take ((at_ a.cells u.1).at'.length + ((ar (at_ (b.cells.filter (bB a.dims b.dims (at_ a.cells u.1))) v.1).at' (aV a.dims b.dims)).map aB).length) (List.take (at_ a.cells u.1).at'.length ((at_ a.cells u.1).at'.map aB) ++ (ar (at_ (b.cells.filter (bB a.dims b.dims (at_ a.cells u.1))) v.1).at' (aV a.dims b.dims)).map aB)),.sl 4 40 (List.take ((at_ a.cells u.1).vals.length + ((at_ (b.cells.filter (bB a.dims b.dims (at_ a.cells u.1))) v.1).vals.map aQ).length) (List.take (at_ a.cells u.1).vals.length ((at_ a.cells u.1).vals.map aQ) ++ (at_ (b.cells.filter (bB a.dims b.dims (at_ a.cells u.1))) v.1).vals.map aQ))]])) (Exists.intro (true,false) ⟨?_,?_,wK,(q2Q J J),(Em J J J J J J J J J J J)⟩)|refine Exists.intro ((u.1 + 1,v.2)) (Exists.intro (false,false) ⟨?_,?_,wK,(q2Q J J),(q7Q J J J J J J J)⟩)))
 ·exact ⟨Nat.zero_le _,by show 0 = (jN a b 0 0).length; rw [wm]; rfl,Nat.zero_le _,by show [] = (jN a b 0 0).map af; rw [wm]; rfl⟩
 ·exact ⟨Nat.zero_le _,hu2,hu3,hu4,Nat.le_trans (hfl _) hfew⟩
 ·have hlt : v.1 < (b.cells.filter (bB a.dims b.dims (at_ a.cells u.1))).length:=by simpa using ‹decide ((v.1 : Int) < (((b.cells.filter (bB a.dims b.dims (at_ a.cells (u.1 : Int).toNat))).map af).length : Int)) = true›
  have hui : u.1 < a.cells.length:=by simpa using ‹decide ((u.1 : Int) < ((a.cells.map af).length : Int)) = true›
  have hv : v.2.1 = 4096:=by
   have h' : ((v.2.1 : Int) == 4096) = true:=h
   rw [beq_iff_eq] at h'; omega
  rw [DC hui hlt (by omega)]
  rfl
 ·have hlt : v.1 < (b.cells.filter (bB a.dims b.dims (at_ a.cells u.1))).length:=by simpa using ‹decide ((v.1 : Int) < (((b.cells.filter (bB a.dims b.dims (at_ a.cells (u.1 : Int).toNat))).map af).length : Int)) = true›
  have hv : v.2.1≠4096:=by
   have h' : ((v.2.1 : Int) == 4096) = false:=h
   rw [beq_eq_false_iff_ne] at h'; omega
  obtain ⟨e1,e2⟩:=ED hlt hv2 hv4
  rw [← DB] at e2
  exact ⟨hlt,e1,by show v.2.1 + 1≤4096; omega,e2,hv5⟩
 ·have hlt : v.1 < (b.cells.filter (bB a.dims b.dims (at_ a.cells u.1))).length:=by simpa using ‹decide ((v.1 : Int) < (((b.cells.filter (bB a.dims b.dims (at_ a.cells (u.1 : Int).toNat))).map af).length : Int)) = true›
  show (b.cells.filter (bB a.dims b.dims (at_ a.cells u.1))).length - (v.1 + 1) < (b.cells.filter (bB a.dims b.dims (at_ a.cells u.1))).length - v.1
  omega
 ·have hui : u.1 < a.cells.length:=by simpa using ‹decide ((u.1 : Int) < ((a.cells.map af).length : Int)) = true›
  have hge : ¬ v.1 < (b.cells.filter (bB a.dims b.dims (at_ a.cells u.1))).length:=by simpa using ‹decide ((v.1 : Int) < (((b.cells.filter (bB a.dims b.dims (at_ a.cells (u.1 : Int).toNat))).map af).length : Int)) = false›
  have e:=CH (a:=a) (b:=b) hui (j:=v.1) (by rw [pR]; omega)
  exact ⟨hui,by rw [← e]; exact hv2,hv3,by rw [← e]; exact hv4⟩
 ·have hui : u.1 < a.cells.length:=by simpa using ‹decide ((u.1 : Int) < ((a.cells.map af).length : Int)) = true›
  show a.cells.length - (u.1 + 1) < a.cells.length - u.1
  omega
 ·have hge : a.cells.length≤u.1:=by simpa using h
  have hf:=xe hge hu2 hu3
  unfold dx
  rw [if_neg (by omega)]
  rfl
end Go.Proofs.YtpejdgkaapnekaaGreat
namespace Go.Proofs.YtpejdgkaapnekaaGreat
open Go Go.Abs
attribute [local irreducible] aa OkC aq aC ax aS
set_option maxRecDepth 10000
theorem tR{ad bd : List Dim}{m : Nat}{xs : List (List D)}(hn : (ad.map Dim.name).Nodup)(hnb : (bd.map Dim.name).Nodup)(h : m < (aI ad bd).length)(hr : xs = (ec ad bd m).map al)(hl : xs.length = ad.length + (aV ad bd).length) :
  m + 1≤(aI ad bd).length∧(xs.set (at_ (aI ad bd) m).toNat (me ad bd m false)).set (at_ (aI ad bd) m).toNat (me ad bd m true) = (ec ad bd (m + 1)).map al∧((xs.set (at_ (aI ad bd) m).toNat (me ad bd m false)).set (at_ (aI ad bd) m).toNat (me ad bd m true)).length = ad.length + (aV ad bd).length:=by
 obtain ⟨k,j,h1,h2,h3,h4,h5,h6⟩:=zk hn hnb h
 refine ⟨h,?_,by simp [hl]⟩
 rw [List.set_set,hr,h6,List.map_set]
 unfold me
 rw [h1,h2]
 simp only [Int.toNat_natCast,h5]
 rfl
set_option maxHeartbeats 2000000 in
theorem Fu(a b : Arr)(ha : OkA a.dims a.attrs a.cells)(hb : OkA b.dims b.attrs b.cells) : CallA Tryz.prog 157 [aO a,aO b,j5 a.dims b.dims] [] (er (cJ a b)) []:=by
 unfold aO j5
 refine enter ag Tryz.func157 rfl (by decide +kernel) rfl fun hok w0 σ0 φ0 M=>?_
 clear hok
 have hna : 0 < a.dims.length:=by have:=ha.dims.1; omega
 have hnt : 0 < a.attrs.length:=(bg ha.sch).2.1
 have hb4:=hb.dims.2.1
 have ha4:=ha.dims.2.1
 have ha6:=(bg ha.sch).2.2.1
 have hb6:=(bg hb.sch).2.2.1
 have hrl0 : (aV a.dims b.dims).length≤b.dims.length:=by rw [jO]; exact n4
 have hrl : (aV a.dims b.dims).length≤1000:=by omega
 have hyP : ((ar b.dims (aV a.dims b.dims)).map al).length≤10000000:=by rw [List.length_map,bT]; omega
 have hyT : (b.attrs.map aA).length≤10000000:=by rw [List.length_map]; omega
 have hlb : (aI a.dims b.dims).length≤b.dims.length:=by rw [e7]; exact wi
 have hnd : (a.dims.map Dim.name).Nodup:=ha.dims.2.2.2
 have hndb : (b.dims.map Dim.name).Nodup:=hb.dims.2.2.2
 have hlr : (bY a.dims b.dims).length = (aI a.dims b.dims).length:=by rw [lC,e7]
 rcases zn a b with ⟨hb1,e⟩ | ⟨hb1,hb2,e⟩ | ⟨hb1,hb2,hb3,e⟩ | ⟨hb1,hb2,hb3,e⟩
 all_goals (try rw [e])
 rotate_right
 ·repeat' (first|(refine h1H ?_; (refine h0H ?_; refine bj [7] J J J J J J J J J (Cd _ (aW a.dims b.dims) (by rw [List.take_of_length_le (by rw [hrl2,List.length_map,bT]; exact Nat.le_refl _),hr,show p.1 = (aI a.dims b.dims).length from wB,pc hnd])) J ?_))|(refine h3H ?_; (refine h8H ?_; first|refine d_e envOk J J J (eH J J J J J J (lE _ wB).1 (zo wB)) ?_|refine d_e envOk J J J (cr J J J J J (p5 wB).1 (db (p5 wB).2)) ?_))|(refine h3H ?_; (refine h9H ?_; refine d_e envOk J J J (cW J J J J (eI hr (lK hrl2 wB)) J) ?_))|(refine h3H ?_; (refine A7 ?_; first|refine fQ envOk J J (b9 J J J J J J J J J (eI hr (lK hrl2 wB)) J) ?_|refine fQ envOk J J (b9 J J J J J J J J J (iH (lK hrl2 wB)) J) ?_))|(refine h3H ?_; (refine h2H ?_; first|refine e8 40 J J J J J J J J (jt a.dims hna) J J J J ?_|refine e8 60 J J J J J J J J (tl a.attrs hnt) J J J J ?_|refine di 80 J J J J J J J J (xA b.dims (aV a.dims b.dims) hrl lF) J J ?_|refine dB envOk 7 J J J (b6 (i:=40) J J J J J J J J (show a.dims.length≤100000000 from (by omega)) hyP (Nat.le_of_ble_eq_true J)) J J ?_|refine dB envOk 8 J J J (b6 (i:=60) J J J J J J J J (show a.attrs.length≤100000000 from (by omega)) hyT (Nat.le_of_ble_eq_true J)) J J ?_))|refine wG ?_|(refine h5H ?_; first|refine ao J (fun h=>?_) (fun h=>?_)|refine dJ 6 J [(3,_),(4,_),(5,_),(6,_),(8,_),(9,_),(46,_),(47,_)] (q8Q J J J J J J J J) (fun (p : Nat×List (List D))=>[(48,.one (.d (.int .i64 (p.1 : Int))))]) (fun (p : Nat×List (List D))=>[(7,.row 3 32 p.2),(8,.row 2 24 (List.take a.attrs.length (a.attrs.map aA) ++ b.attrs.map aA)),(3,.box [.d .nil,.d .nil,.d .nil]),(2,.box [.d (aF (aI a.dims b.dims)),.d (aF (bY a.dims b.dims)),.d (aF (aV a.dims b.dims))]),(1,.box [.d (aj b.dims),.d (ai b.attrs),.d (ak b.cells)]),(0,.box [.d (aj a.dims),.d (ai a.attrs),.d (ak a.cells)])]) (fun (p : Nat×List (List D))=>p.1≤(aI a.dims b.dims).length∧p.2 = (ec a.dims b.dims p.1).map al∧p.2.length = a.dims.length + (aV a.dims b.dims).length) (fun (p : Nat×List (List D))=>(aI a.dims b.dims).length - p.1) (0,List.take a.dims.length (a.dims.map al) ++ (ar b.dims (aV a.dims b.dims)).map al) (q1Q J) wK ?_ (fun p ⟨hk,hr,hrl2⟩=>?_))|(show Exists _; refine Exists.intro ((p.1 + 1,(p.2.set (at_ (aI a.dims b.dims) p.1).toNat (me a.dims b.dims p.1 false)).set (at_ (aI a.dims b.dims) p.1).toNat (me a.dims b.dims p.1 true))) ⟨?_,?_,wK,(q1Q J),(q8Q J J J J J J J J)⟩))
  ·exact ⟨Nat.zero_le _,by show List.take a.dims.length (a.dims.map al) ++ _ = _; rw [List.take_of_length_le (by simp),rV,List.map_append],by show (List.take a.dims.length (a.dims.map al) ++ _).length = _; rw [List.take_of_length_le (by simp),List.length_append,List.length_map,List.length_map,bT]⟩
  ·have hlt : p.1 < (aI a.dims b.dims).length:=by simpa using h
   exact tR hnd hndb hlt hr hrl2
  ·have hlt : p.1 < (aI a.dims b.dims).length:=by simpa using h
   show (aI a.dims b.dims).length - (p.1 + 1) < (aI a.dims b.dims).length - p.1
   omega
  ·have hpe : p.1 = (aI a.dims b.dims).length:=by
    have : ¬ p.1 < (aI a.dims b.dims).length:=by simpa using h
    omega
   have hcl : ∀ k,k < b.cells.length→∀ i,i < (bY a.dims b.dims).length→0≤at_ (bY a.dims b.dims) i∧(at_ (bY a.dims b.dims) i).toNat < (at_ b.cells k).at'.length:=fun k hk i hi=>by
    rw [(cellF_ok.1 (hb.cel _ (aX hk))).1]; exact wj i hi
   have hfew:=hb.few
   have hrn : (bY a.dims b.dims).length≤1000:=by omega
   have hr4 : ∀ {x : List Int},(ar x (bY a.dims b.dims)).length≤4:=by intro x; rw [bT]; omega
   refine zp (bl:=2) (sm:=12) (mid:=4) (idr:=40) (kk:=2) (bb:=48) (N:=b.cells.length) (r:=(bY a.dims b.dims).length) (de:=116) (m:={ kt:=121,et:=24,kg:=true,ks:=pk,vg:=false,z:=[D.nil] })
    (kept:=kG a b) (l1:=[_,_,_,_]) (l3:=[_,_,_]) (sto1:=sG a b p.2)
    rfl (envOk.M 197 _ rfl) rfl rfl rfl rfl (fun k=>ar (at_ b.cells k).at' (bY a.dims b.dims)) (fun k=>af (at_ b.cells k)) (fun k=>[(101,.one (.d (.int .i64 (k : Int))))])
    (fun k B=>(14,.one (.ref 4 0))::(15,.one (.ref 5 0))::(101,.one (.d (.int .i64 (k : Int))))::(12,.one (.d (.raw (.map (some B)))))::kG a b)
    (fun k B=>(115,.one (.own 6 1))::(112,j6 (ar (at_ b.cells k).at' (bY a.dims b.dims)))::(111,.one (.d (.raw (.map (some B)))))::(101,.one (.d (.int .i64 (k : Int))))::(12,.one (.d (.raw (.map (some B)))))::kG a b)
    (fun k B j n=>(118,.one (.d (.int .i64 (j : Int))))::(117,.one (.own 40 (n + 1)))::(111,.one (.d (.raw (.map (some B)))))::(101,.one (.d (.int .i64 (k : Int))))::(12,.one (.d (.raw (.map (some B)))))::kG a b)
    (fun k=>(5,.box [.d (.int .i64 (at_ (ar (at_ b.cells k).at' (bY a.dims b.dims)) 0)),.d (.int .i64 (at_ (ar (at_ b.cells k).at' (bY a.dims b.dims)) 1)),.d (.int .i64 (at_ (ar (at_ b.cells k).at' (bY a.dims b.dims)) 2)),.d (.int .i64 (at_ (ar (at_ b.cells k).at' (bY a.dims b.dims)) 3))])::(4,.box [.d (aF (at_ b.cells k).at'),.d (bM (at_ b.cells k).vals)])::sG a b p.2)
    (fun k=>(6,.row 2 48 [af (at_ b.cells k)])::sG a b p.2)
    (by have:=hb.few; omega) (by rw [lC,← e7]; omega) (fun k hk=>bT) rfl rfl rfl ?_ ?_ ?_ rfl rfl rfl rfl rfl ?_ ?_ rfl rfl rfl rfl (fun _ _=>rfl) (fun _ _=>rfl) rfl (fun _ _=>rfl) (fun _=>rfl) rfl ?_ rfl rfl rfl (fun _ _ _ _ _=>rfl) (fun _ _ _ _ _=>rfl) (fun _ _ _ _ _=>rfl) ?_ ?_
   ·exact (q1Q rfl)
   ·exact (q8Q rfl rfl rfl rfl rfl rfl rfl rfl)
   ·exact (q6Q rfl rfl rfl rfl rfl rfl)
   ·intro k hk B w0 σ0 φ0 M
    repeat' (first|refine wG ?_|(refine h5H ?_; refine ao J (fun h=>?_) (fun h=>?_)))
    ·have hlt : k < b.cells.length:=by simpa using h
     refine .inr ⟨rfl,hlt,?_⟩
     repeat' (first|(refine h1H ?_; (refine h0H ?_; first|refine ab J J J J J J J J (xB (ar (at_ b.cells (k : Int).toNat).at' (bY a.dims b.dims)) hr4) J ?_|refine bh 16 J J J J J J J J (A8 (at_ b.cells (k : Int).toNat).at' (bY a.dims b.dims) hrn (hcl _ (by omega))) J J J ?_))|refine wG ?_)
     exact ⟨(Fv rfl rfl rfl rfl rfl rfl rfl rfl rfl rfl rfl rfl),(q8Q rfl rfl rfl rfl rfl rfl rfl rfl)⟩
    ·refine .inl ⟨rfl,?_,(q9Q rfl rfl rfl rfl rfl rfl rfl rfl rfl),(q6Q rfl rfl rfl rfl rfl rfl)⟩
     have : ¬ k < b.cells.length:=by simpa using h
     omega
   ·intro k hk B w0 σ0 φ0 M
    repeat' (first|refine wG ?_)
    exact ⟨(A9 rfl rfl rfl rfl rfl rfl rfl rfl rfl rfl rfl rfl rfl),(q7Q rfl rfl rfl rfl rfl rfl rfl)⟩
   ·intro k hk B j xs hxs w0 σ0 φ0 M
    repeat' (first|(refine h1H ?_; (refine h0H ?_; refine ct Ba ?_))|refine wG ?_)
    exact ⟨(A9 rfl rfl rfl rfl rfl rfl rfl rfl rfl rfl rfl rfl rfl),by show some (AObj.row 2 48 (List.take xs.length xs ++ _)) = _; rw [List.take_length]; rfl,(q6Q rfl rfl rfl rfl rfl rfl)⟩
   ·intro k hk B j m w0 σ0 φ0 M
    repeat' (first|refine wG ?_)
    exact ⟨(Fw rfl rfl rfl rfl rfl rfl rfl rfl rfl rfl),(q6Q rfl rfl rfl rfl rfl rfl)⟩
   ·exact wu rfl (zq (EM a b ha hb hr hrl2 hpe))
 ·repeat' (first|(refine h3H ?_; (refine h2H ?_; first|refine e8 40 J J J J J J J J (jt a.dims hna) J J J J ?_|refine e8 60 J J J J J J J J (tl a.attrs hnt) J J J J ?_|refine di 80 J J J J J J J J (xA b.dims (aV a.dims b.dims) hrl lF) J J ?_|refine dB envOk 7 J J J (b6 (i:=40) J J J J J J J J (show a.dims.length≤100000000 from (by omega)) hyP (Nat.le_of_ble_eq_true J)) J J ?_|refine dB envOk 8 J J J (b6 (i:=60) J J J J J J J J (show a.attrs.length≤100000000 from (by omega)) hyT (Nat.le_of_ble_eq_true J)) J J ?_))|refine wG ?_)
  rfl
 ·repeat' (first|(refine h3H ?_; (refine h2H ?_; first|refine e8 40 J J J J J J J J (jt a.dims hna) J J J J ?_|refine e8 60 J J J J J J J J (tl a.attrs hnt) J J J J ?_|refine di 80 J J J J J J J J (xA b.dims (aV a.dims b.dims) hrl lF) J J ?_|refine dB envOk 7 J J J (b6 (i:=40) J J J J J J J J (show a.dims.length≤100000000 from (by omega)) hyP (Nat.le_of_ble_eq_true J)) J J ?_|refine dB envOk 8 J J J (b6 (i:=60) J J J J J J J J (show a.attrs.length≤100000000 from (by omega)) hyT (Nat.le_of_ble_eq_true J)) J J ?_))|refine wG ?_)
  rfl
 ·repeat' (first|(refine h1H ?_; (refine h0H ?_; refine bj [7] J J J J J J J J J (Cd _ (aW a.dims b.dims) (by rw [List.take_of_length_le (by rw [hrl2,List.length_map,bT]; exact Nat.le_refl _),hr,show p.1 = (aI a.dims b.dims).length from wB,pc hnd])) J ?_))|(refine h3H ?_; (refine h8H ?_; first|refine d_e envOk J J J (eH J J J J J J (lE _ wB).1 (zo wB)) ?_|refine d_e envOk J J J (cr J J J J J (p5 wB).1 (db (p5 wB).2)) ?_))|(refine h3H ?_; (refine h9H ?_; refine d_e envOk J J J (cW J J J J (eI hr (lK hrl2 wB)) J) ?_))|(refine h3H ?_; (refine A7 ?_; first|refine fQ envOk J J (b9 J J J J J J J J J (eI hr (lK hrl2 wB)) J) ?_|refine fQ envOk J J (b9 J J J J J J J J J (iH (lK hrl2 wB)) J) ?_))|(refine h3H ?_; (refine h2H ?_; first|refine e8 40 J J J J J J J J (jt a.dims hna) J J J J ?_|refine e8 60 J J J J J J J J (tl a.attrs hnt) J J J J ?_|refine di 80 J J J J J J J J (xA b.dims (aV a.dims b.dims) hrl lF) J J ?_|refine dB envOk 7 J J J (b6 (i:=40) J J J J J J J J (show a.dims.length≤100000000 from (by omega)) hyP (Nat.le_of_ble_eq_true J)) J J ?_|refine dB envOk 8 J J J (b6 (i:=60) J J J J J J J J (show a.attrs.length≤100000000 from (by omega)) hyT (Nat.le_of_ble_eq_true J)) J J ?_))|refine wG ?_|(refine h5H ?_; first|refine ao J (fun h=>?_) (fun h=>?_)|refine dJ 6 J [(3,_),(4,_),(5,_),(6,_),(8,_),(9,_),(46,_),(47,_)] (q8Q J J J J J J J J) (fun (p : Nat×List (List D))=>[(48,.one (.d (.int .i64 (p.1 : Int))))]) (fun (p : Nat×List (List D))=>[(7,.row 3 32 p.2),(8,.row 2 24 (List.take a.attrs.length (a.attrs.map aA) ++ b.attrs.map aA)),(3,.box [.d .nil,.d .nil,.d .nil]),(2,.box [.d (aF (aI a.dims b.dims)),.d (aF (bY a.dims b.dims)),.d (aF (aV a.dims b.dims))]),(1,.box [.d (aj b.dims),.d (ai b.attrs),.d (ak b.cells)]),(0,.box [.d (aj a.dims),.d (ai a.attrs),.d (ak a.cells)])]) (fun (p : Nat×List (List D))=>p.1≤(aI a.dims b.dims).length∧p.2 = (ec a.dims b.dims p.1).map al∧p.2.length = a.dims.length + (aV a.dims b.dims).length) (fun (p : Nat×List (List D))=>(aI a.dims b.dims).length - p.1) (0,List.take a.dims.length (a.dims.map al) ++ (ar b.dims (aV a.dims b.dims)).map al) (q1Q J) wK ?_ (fun p ⟨hk,hr,hrl2⟩=>?_))|(show Exists _; refine Exists.intro ((p.1 + 1,(p.2.set (at_ (aI a.dims b.dims) p.1).toNat (me a.dims b.dims p.1 false)).set (at_ (aI a.dims b.dims) p.1).toNat (me a.dims b.dims p.1 true))) ⟨?_,?_,wK,(q1Q J),(q8Q J J J J J J J J)⟩))
  ·exact ⟨Nat.zero_le _,by show List.take a.dims.length (a.dims.map al) ++ _ = _; rw [List.take_of_length_le (by simp),rV,List.map_append],by show (List.take a.dims.length (a.dims.map al) ++ _).length = _; rw [List.take_of_length_le (by simp),List.length_append,List.length_map,List.length_map,bT]⟩
  ·have hlt : p.1 < (aI a.dims b.dims).length:=by simpa using h
   exact tR hnd hndb hlt hr hrl2
  ·have hlt : p.1 < (aI a.dims b.dims).length:=by simpa using h
   show (aI a.dims b.dims).length - (p.1 + 1) < (aI a.dims b.dims).length - p.1
   omega
  ·rfl
theorem pz{a b : Arr} : iE a b = decide (0 < (aI a.dims b.dims).length):=by
 rw [Bool.eq_iff_iff,decide_eq_true_eq,e7]
 unfold iE
 rw [List.any_eq_true]
 constructor
 ·rintro ⟨d,hd,h⟩
  obtain ⟨k,_,h2,h3⟩:=p3 h
  exact List.length_pos_of_mem (com_mem.2 ⟨h2,inD_iff.2 (List.mem_map.2 ⟨d,hd,h3.symm⟩)⟩)
 ·intro h
  have h1:=com_mem.1 (aX h)
  obtain ⟨k,_,h2,h3⟩:=p3 h1.2
  exact ⟨_,aX h2,inD_iff.2 (List.mem_map.2 ⟨_,aX h1.1,h3.symm⟩)⟩
theorem xU(a b : Arr) :
  ((!bF [a,b]) = true∧c8 a b = (none,2)) ∨
  ((!bF [a,b]) = false∧((((aI a.dims b.dims).map aB).length : Int) == 0) = true∧b.dims.length≤1000∧c8 a b = (none,13)) ∨
  ((!bF [a,b]) = false∧((((aI a.dims b.dims).map aB).length : Int) == 0) = false∧b.dims.length≤1000∧(cK a b || cK b a) = true∧c8 a b = (none,11)) ∨
  ((!bF [a,b]) = false∧((((aI a.dims b.dims).map aB).length : Int) == 0) = false∧b.dims.length≤1000∧(cK a b || cK b a) = false∧OkA a.dims a.attrs a.cells∧OkA b.dims b.attrs b.cells∧c8 a b = cJ a b):=by
 by_cases hc : bZ a≠0∨bZ b≠0
 ·refine .inl ⟨?_,by unfold c8; rw [if_pos hc]⟩
  simp only [bF,List.all_cons,List.all_nil,Bool.and_true,Bool.not_eq_true',Bool.and_eq_false_iff,beq_eq_false_iff_ne]
  exact hc
 have h1 : bZ a = 0:=by omega
 have h2 : bZ b = 0:=by omega
 have hv : (!bF [a,b]) = false:=by simp [bF,h1,h2]
 have hb:=okA h2
 have hl : b.dims.length≤1000:=by have:=hb.dims.2.1; omega
 cases h3 : iE a b
 ·refine .inr (.inl ⟨hv,?_,hl,by unfold c8; rw [if_neg hc,if_pos (by simp [h3])]⟩)
  rw [pz,decide_eq_false_iff_not] at h3
  rw [beq_iff_eq,List.length_map]; omega
 have hb1 : ((((aI a.dims b.dims).map aB).length : Int) == 0) = false:=by
  rw [pz,decide_eq_true_eq] at h3
  rw [beq_eq_false_iff_ne,List.length_map]; omega
 cases h4 : (cK a b || cK b a)
 ·exact .inr (.inr (.inr ⟨hv,hb1,hl,rfl,okA h1,hb,by unfold c8; rw [if_neg hc,if_neg (by simp [h3]),if_neg (by simp [h4])]⟩))
 ·exact .inr (.inr (.inl ⟨hv,hb1,hl,rfl,by unfold c8; rw [if_neg hc,if_neg (by simp [h3]),if_pos h4]⟩))
theorem vS(a b : Arr) :
  ((!bF [a,b]) = true∧cB a b = (none,2)) ∨
  ((!bF [a,b]) = false∧decide (0 < (((aI a.dims b.dims).map aB).length : Int)) = true∧b.dims.length≤1000∧cB a b = (none,11)) ∨
  ((!bF [a,b]) = false∧decide (0 < (((aI a.dims b.dims).map aB).length : Int)) = false∧b.dims.length≤1000∧(cK a b || cK b a) = true∧cB a b = (none,11)) ∨
  ((!bF [a,b]) = false∧decide (0 < (((aI a.dims b.dims).map aB).length : Int)) = false∧b.dims.length≤1000∧(cK a b || cK b a) = false∧OkA a.dims a.attrs a.cells∧OkA b.dims b.attrs b.cells∧cB a b = cJ a b):=by
 by_cases hc : bZ a≠0∨bZ b≠0
 ·refine .inl ⟨?_,by unfold cB; rw [if_pos hc]⟩
  simp only [bF,List.all_cons,List.all_nil,Bool.and_true,Bool.not_eq_true',Bool.and_eq_false_iff,beq_eq_false_iff_ne]
  exact hc
 have h1 : bZ a = 0:=by omega
 have h2 : bZ b = 0:=by omega
 have hv : (!bF [a,b]) = false:=by simp [bF,h1,h2]
 have hb:=okA h2
 have hl : b.dims.length≤1000:=by have:=hb.dims.2.1; omega
 have he : decide (0 < (((aI a.dims b.dims).map aB).length : Int)) = iE a b:=by
  rw [pz,Bool.eq_iff_iff,decide_eq_true_eq,decide_eq_true_eq,List.length_map]; omega
 rw [he]
 cases h3 : iE a b
 ·cases h4 : (cK a b || cK b a)
  ·exact .inr (.inr (.inr ⟨hv,rfl,hl,rfl,okA h1,hb,by unfold cB; rw [if_neg hc,if_neg (by rw [h3,h4]; simp)]⟩))
  ·exact .inr (.inr (.inl ⟨hv,rfl,hl,rfl,by unfold cB; rw [if_neg hc,if_pos (by rw [h4]; simp)]⟩))
 ·exact .inr (.inl ⟨hv,rfl,hl,by unfold cB; rw [if_neg hc,if_pos (by rw [h3]; simp)]⟩)
theorem oc(a b : Arr)(e : Bool)(h : (cK a b || cK b a) = e) : CallA Tryz.prog 156 [aO a,aO b] [] (.one (.d (.bool e))) []:=by
 subst h; exact Gj a b
theorem Ci(a b : Arr)(ha : OkA a.dims a.attrs a.cells)(hb : OkA b.dims b.attrs b.cells)(o : Option Arr)(e : Int)(h : cJ a b = (o,e)) : CallA Tryz.prog 157 [aO a,aO b,j5 a.dims b.dims] [] (er (o,e)) []:=by
 rw [← h]; exact Fu a b ha hb
theorem Cj(a b : Arr)(ha : OkA a.dims a.attrs a.cells)(hb : OkA b.dims b.attrs b.cells)(e : Int)(h : cJ a b = (none,e)) : CallA Tryz.prog 157 [aO a,aO b,j5 a.dims b.dims] [] (.tup [(true,[.d .nil,.d .nil,.d .nil]),(false,[.d (.int .i64 e)])]) []:=Ci a b ha hb none e h
theorem Ck(a b : Arr)(ha : OkA a.dims a.attrs a.cells)(hb : OkA b.dims b.attrs b.cells)(x : Arr)(e : Int)(h : cJ a b = (some x,e)) : CallA Tryz.prog 157 [aO a,aO b,j5 a.dims b.dims] [] (.tup [(true,[.d (aj x.dims),.d (ai x.attrs),.d (ak x.cells)]),(false,[.d (.int .i64 e)])]) []:=Ci a b ha hb (some x) e h
set_option maxHeartbeats 2000000 in
theorem c54(a b : Arr) : CallA Tryz.prog 54 [aO a,aO b] [] (er (c8 a b)) []:=by
 unfold aO
 refine enter ag Tryz.func54 rfl (by decide +kernel) rfl fun hok w0 σ0 φ0 M=>?_
 clear hok
 rcases xU a b with ⟨hv,e⟩ | ⟨hv,hb1,hl,e⟩ | ⟨hv,hb1,hl,hb2,e⟩ | ⟨hv,hb1,hl,hb2,ha,hb,e⟩
 all_goals rw [e]
 ·repeat' (first|(refine h1H ?_; (refine h0H ?_; refine bj [3] J J J J J J J J J (c96 [a,b]) J ?_))|refine wG ?_)
  all_goals rfl
 ·repeat' (first|(refine h1H ?_; (refine h0H ?_; first|refine bj [3] J J J J J J J J J (c96 [a,b]) J ?_|refine bh 16 J J J J J J J J (ng a b (by assumption)) J J J ?_))|refine wG ?_)
  all_goals rfl
 ·repeat' (first|(refine h1H ?_; (refine h0H ?_; first|refine bj [3] J J J J J J J J J (c96 [a,b]) J ?_|refine ab J J J J J J J J (oc a b _ (by assumption)) J ?_|refine bh 16 J J J J J J J J (ng a b (by assumption)) J J J ?_))|refine wG ?_)
  all_goals rfl
 ·rcases hp : cJ a b with ⟨o,z⟩
  cases o with
  | none =>
    repeat' (first|(refine h1H ?_; (refine h0H ?_; first|refine bj [3] J J J J J J J J J (c96 [a,b]) J ?_|refine ab J J J J J J J J (oc a b _ (by assumption)) J ?_|refine ab J J J J J J J J (Cj a b (by assumption) (by assumption) _ (by assumption)) J ?_|refine bh 16 J J J J J J J J (ng a b (by assumption)) J J J ?_))|refine wG ?_)
    all_goals rfl
  | some x =>
    repeat' (first|(refine h1H ?_; (refine h0H ?_; first|refine bj [3] J J J J J J J J J (c96 [a,b]) J ?_|refine ab J J J J J J J J (oc a b _ (by assumption)) J ?_|refine bh 16 J J J J J J J J (ng a b (by assumption)) J J J ?_|refine bh 16 J J J J J J J J (Ck a b (by assumption) (by assumption) _ _ (by assumption)) J J J ?_))|refine wG ?_)
    all_goals rfl
set_option maxHeartbeats 2000000 in
theorem c56(a b : Arr) : CallA Tryz.prog 56 [aO a,aO b] [] (er (cB a b)) []:=by
 unfold aO
 refine enter ag Tryz.func56 rfl (by decide +kernel) rfl fun hok w0 σ0 φ0 M=>?_
 clear hok
 rcases vS a b with ⟨hv,e⟩ | ⟨hv,hb1,hl,e⟩ | ⟨hv,hb1,hl,hb2,e⟩ | ⟨hv,hb1,hl,hb2,ha,hb,e⟩
 all_goals rw [e]
 ·repeat' (first|(refine h1H ?_; (refine h0H ?_; refine bj [3] J J J J J J J J J (c96 [a,b]) J ?_))|refine wG ?_)
  all_goals rfl
 ·repeat' (first|(refine h1H ?_; (refine h0H ?_; first|refine bj [3] J J J J J J J J J (c96 [a,b]) J ?_|refine bh 16 J J J J J J J J (ng a b (by assumption)) J J J ?_))|refine wG ?_)
  all_goals rfl
 ·repeat' (first|(refine h1H ?_; (refine h0H ?_; first|refine bj [3] J J J J J J J J J (c96 [a,b]) J ?_|refine ab J J J J J J J J (oc a b _ (by assumption)) J ?_|refine bh 16 J J J J J J J J (ng a b (by assumption)) J J J ?_))|refine wG ?_)
  all_goals rfl
 ·rcases hp : cJ a b with ⟨o,z⟩
  cases o with
  | none =>
    repeat' (first|(refine h1H ?_; (refine h0H ?_; first|refine bj [3] J J J J J J J J J (c96 [a,b]) J ?_|refine ab J J J J J J J J (oc a b _ (by assumption)) J ?_|refine ab J J J J J J J J (Cj a b (by assumption) (by assumption) _ (by assumption)) J ?_|refine bh 16 J J J J J J J J (ng a b (by assumption)) J J J ?_))|refine wG ?_)
    all_goals rfl
  | some x =>
    repeat' (first|(refine h1H ?_; (refine h0H ?_; first|refine bj [3] J J J J J J J J J (c96 [a,b]) J ?_|refine ab J J J J J J J J (oc a b _ (by assumption)) J ?_|refine bh 16 J J J J J J J J (ng a b (by assumption)) J J J ?_|refine bh 16 J J J J J J J J (Ck a b (by assumption) (by assumption) _ _ (by assumption)) J J J ?_))|refine wG ?_)
    all_goals rfl
end Go.Proofs.YtpejdgkaapnekaaGreat
