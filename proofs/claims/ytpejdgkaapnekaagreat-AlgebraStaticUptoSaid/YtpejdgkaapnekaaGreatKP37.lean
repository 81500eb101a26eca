import Derived.Test.YtpejdgkaapnekaaGreatKP35
import Derived.Test.YtpejdgkaapnekaaGreatKP36
import Derived.Test.YtpejdgkaapnekaaGreatKP34
set_option linter.unusedVariables false
set_option linter.unusedSimpArgs false
set_option maxHeartbeats 1000000
namespace Go.Proofs.YtpejdgkaapnekaaGreat
open Go Go.Abs
attribute [local irreducible] aa OkC ak av aq aI
set_option maxRecDepth 10000
section
variable {P:Program} {c:Ctx} {fr:List (Nat×AV)} {sto:Sto} {ops:Array Oper} {o:Oper} {rest:List Oper} {K:St→Prop} {st0:St} {acc:List Tr}
theorem iR(k:Nat){d:Nat}{fop:Operand}{args:Array Operand}{ats:Array TypeId}{f:FuncId}{caps:List D}{avs avs':List AV}{rav rav':AV}{rsto sto':Sto}{tr:Tr}
  (ho:o.op=.call { callee:=.value fop,args:=args,argTypes:=ats }) (hg:o.guard=none) (hdst:o.dst=some d) (hd:Nat.blt d c.n=true) (hf:ev ⟨fr,sto⟩ fop=some (.one (.d (.fn f caps))))
  (ha:evL ⟨fr,sto⟩ args.toList=some avs) (hD:c8 avs=true) (hap:(avs++caps.map fun x=>.one (.d x))=avs') (hC:CallA P f avs' [] rav rsto)
  (hk:(c7 [] rsto&&Nat.ble (k+16) 1000000&&dG rsto rav&&bt rsto rsto)=true) (ht:k6 k [] [] rav rsto=tr) (hr:tr.v=rav') (hw:dh tr.wr sto=sto')
  (h:ak P c ops st0 rest ⟨(d,rav')::fr,sto'⟩ (tr::acc) K):ak P c ops st0 (o::rest) ⟨fr,sto⟩ acc K:=by
 subst hap;subst hr;subst hw;subst ht
 refine mi hg (sA k ho (by rw[hdst];exact hd) hf ha hD hC hk) ?_
 rw[hdst];exact h
end
theorem LG(xs:List (List D))(ds:List Dim)(hx:xs=ds.map ax):CallA Tryz.prog 201 [.one (.d (.sl 3 32 xs)),.one (.d (.fn 213 []))] [] (.one (.d (.bool (ds.any pn)))) []:=by
 subst hx;exact RO ds
theorem Mm{pl:Nat→List Int}{cell:Nat→List D}{x:List Int}:∀ {n:Nat},rS pl cell n x=((List.range n).filter fun k=>pl k==x).map cell
 | 0=>rfl
 | n+1=>by
   rw[List.range_succ,List.filter_append,XB,← Mm (n:=n)]
   simp only[rS]
   cases h:(pl n==x)<;>simp[h]
theorem Lw{α:Type}[Inhabited α]{p:α→Bool}:∀ {l:List α},(((List.range l.length).filter fun k=>p (at_ l k)).map fun k=>at_ l k)=l.filter p:=by
 intro l
 have h:(List.range l.length).map (fun k=>at_ l k)=l:=c5 (by simp) fun i hi=>by
  have hi':i<l.length:=by simpa using hi
  rw[bj (by simpa using hi'),vY hi']
 conv=>rhs;rw[← h]
 rw[List.filter_map]
 rfl
theorem QB(a b:Arr)(c:Cell):rS (fun k=>ay (at_ b.cells k).at' (cU a.dims b.dims)) (fun k=>al (at_ b.cells k)) b.cells.length (ay c.at' (aZ a.dims b.dims))=(b.cells.filter (dc a.dims b.dims c)).map al:=by
 rw[Mm]
 have e:=Lw (p:=fun d:Cell=>ay d.at' (cU a.dims b.dims)==ay c.at' (aZ a.dims b.dims)) (l:=b.cells)
 have e2:b.cells.filter (dc a.dims b.dims c)=b.cells.filter (fun d:Cell=>ay d.at' (cU a.dims b.dims)==ay c.at' (aZ a.dims b.dims)):=by
  congr 1
  funext d
  unfold dc
  rw[XR];simp only[beq_iff_eq];exact eq_comm
 rw[e2,← e,XX]
 rfl
section
variable {P:Program} {V:Env} {T:Tab} {w0:World} {σ0:Sig} {φ0:Pl} {M:Nat→Prop} {n:Nat} {rd:Option Nat} {mk:List Deferred} {ops:Array Oper} {o:Oper} {rest:List Oper} {fr:List (Nat×AV)} {sto:Sto} {K:St→Prop}
theorem Oe(hV:EnvOk P V){d id t N:Nat}{m:MTy}{x y:Operand}{p:List Int}{pl:Nat→List Int}{cell:Nat→List D}{X:List (List D)}(hg:o.guard=none)(hdst:o.dst=some d)(hd:Nat.blt d n=true)
  (ho:o.op=.lookup t x y false) (hm:Abs.look V.M t=some m) (hms:m.ks=pk) (hk:m.kg=true) (hv:m.vg=false) (hz:m.z=[.nil])
  (hx:ev ⟨fr,sto⟩ x=some (.one (.mapr id))) (hl:Abs.look sto id=some (.map true false (dH (fun j=>.sl 2 48 (rS pl cell N (at_ (kS pl N) j))) (kS pl N) 0))) (hy:ev ⟨fr,sto⟩ y=some (lS p)) (h4:p.length≤4) (hks:∀ k,k<N→(pl k).length=p.length)
  (hX:rS pl cell N p=X) (h:aa P ⟨w0,σ0,φ0,M,n,rd,mk⟩ ops rest ⟨(d,.one (.d (.sl 2 48 X)))::fr,sto⟩ K):aa P ⟨w0,σ0,φ0,M,n,rd,mk⟩ ops (o::rest) ⟨fr,sto⟩ K:=by
 have hks2:∀ k∈kS pl N,k.length=p.length:=fun k hk=>by
  obtain⟨i,h1,h2⟩:=wP hk
  rw[← h2];exact hks i h1
 cases hw:bC p (kS pl N) 0 with
 | some j =>
   have hat:at_ (kS pl N) j=p:=by
    have h1:=(mV hw).2
    rw[Nat.sub_zero] at h1
    have h2:=(W8.1 h1).1
    rw[ea h2] at h1
    exact Option.some.inj h1
   refine s_e hV hg hdst hd (iU (v:=.one (.d (.sl 2 48 X))) ho hm hms hk hv hx hl hy h4 hks2 (by rw[hw];simp only[hat,hX];rfl)) h
 | none =>
   have hnil:X=[]:=by
    rw[← hX]
    refine B2 ?_
    exact Abs.whereK_none hw
   subst hnil
   refine s_e hV hg hdst hd (iU (v:=.one (.d .nil)) ho hm hms hk hv hx hl hy h4 hks2 (by rw[hw,hz];rfl)) ?_
   refine cV (nH (s:=d) (k:=2) (b:=48) (by simp[Abs.look,XN])) (cV (fun a w σ φ hr=>?_) h)
   refine⟨σ,φ,⟨hr.le,hr.fresh,hr.inv,hr.mine,fun s v hv=>hr.slot s v ?_,hr.defers,hr.size,hr.fra,hr.pin⟩⟩
   simp only[Abs.look] at hv ⊢
   cases hb:Nat.beq d s<;>simp only[hb,Yf,Ye] at hv ⊢
   ·exact hv
   ·exact hv
end
abbrev kG(a b:Arr):List (Nat×AV):=[(99,.one (.d (aC b.cells))),(100,.one (.d (.int .i64 ((b.cells.map al).length:Int)))),(3,.one (.ref 0 0)),(4,.one (.ref 1 0)),(5,.one (.ref 2 0)),(6,.one (.ref 3 0)),(8,.one (.own 7 (a.dims.length+((ay b.dims (bE a.dims b.dims)).map ax).length))),(9,.one (.own 8 (a.attrs.length+(b.attrs.map aS).length)))]
abbrev sG(a b:Arr)(xs:List (List D)):Sto:=[(7,.row 3 32 xs),(8,.row 2 24 (List.take a.attrs.length (a.attrs.map aS)++b.attrs.map aS)),(3,.box [.d .nil,.d .nil,.d .nil]),(2,.box [.d (ar (aZ a.dims b.dims)),.d (ar (cU a.dims b.dims)),.d (ar (bE a.dims b.dims))]),(1,.box [.d (ai b.dims),.d (ao b.attrs),.d (aC b.cells)]),(0,.box [.d (ai a.dims),.d (ao a.attrs),.d (aC a.cells)])]
theorem HK(a b:Arr) :
  (decide (4<((a.dims.length+((ay b.dims (bE a.dims b.dims)).map ax).length:Nat):Int))=true∧fu a b=(none,9)) ∨
  (decide (4<((a.dims.length+((ay b.dims (bE a.dims b.dims)).map ax).length:Nat):Int))=false∧decide (6<((a.attrs.length+(b.attrs.map aS).length:Nat):Int))=true∧fu a b=(none,9)) ∨
  (decide (4<((a.dims.length+((ay b.dims (bE a.dims b.dims)).map ax).length:Nat):Int))=false∧decide (6<((a.attrs.length+(b.attrs.map aS).length:Nat):Int))=false∧(bR a.dims b.dims).any pn=true∧fu a b=(none,3)) ∨
  (decide (4<((a.dims.length+((ay b.dims (bE a.dims b.dims)).map ax).length:Nat):Int))=false∧decide (6<((a.attrs.length+(b.attrs.map aS).length:Nat):Int))=false∧(bR a.dims b.dims).any pn=false∧fu a b=cn (bR a.dims b.dims) (a.attrs++b.attrs) (eD a b)):=by
 have e1:((bR a.dims b.dims).length:Int)=((a.dims.length+((ay b.dims (bE a.dims b.dims)).map ax).length:Nat):Int):=by unfold bR;simp
 have e2:((a.attrs++b.attrs).length:Int)=((a.attrs.length+(b.attrs.map aS).length:Nat):Int):=by simp
 rw[← e1,← e2]
 by_cases h1:4<((bR a.dims b.dims).length:Int)
 ·exact .inl ⟨by simpa using h1,by unfold fu;rw[if_pos (.inl h1)]⟩
 by_cases h2:6<((a.attrs++b.attrs).length:Int)
 ·exact .inr (.inl ⟨decide_eq_false h1,decide_eq_true h2,by unfold fu;rw[if_pos (.inr h2)]⟩)
 have h12:¬ (4<((bR a.dims b.dims).length:Int)∨6<((a.attrs++b.attrs).length:Int)):=fun h=>h.elim h1 h2
 cases h3:(bR a.dims b.dims).any pn
 ·exact .inr (.inr (.inr ⟨decide_eq_false h1,decide_eq_false h2,rfl,by unfold fu;rw[if_neg h12,if_neg (by simp[h3])]⟩))
 ·exact .inr (.inr (.inl ⟨decide_eq_false h1,decide_eq_false h2,rfl,by unfold fu;rw[if_neg h12,if_pos h3]⟩))
theorem HL{ad bd:List Dim}{i x:Nat}(h:i<(aZ ad bd).length):at_ (aZ ad bd) i<((ad.length+x:Nat):Int):=by
 have:=pU i h
 omega
theorem pY{ad bd:List Dim}{i:Nat}{xs:List (List D)}(hl:xs.length=ad.length+(bE ad bd).length)(h:i<(aZ ad bd).length):(at_ (aZ ad bd) i).toNat<xs.length:=by
 have:=pU i h
 omega
theorem wa{ad bd:List Dim}{i:Nat}(h:i<(aZ ad bd).length):0≤at_ (cU ad bd) i∧(at_ (cU ad bd) i).toNat<bd.length:=Ec i (by rw[pS,← iQ];exact h)
def qS(ad bd:List Dim)(m:Nat)(hi:Bool):List D :=
 [.str (at_ (gg ad bd m) (at_ (aZ ad bd) m).toNat).name,.int .i64 (max (at_ (gg ad bd m) (at_ (aZ ad bd) m).toNat).lo (at_ bd (at_ (cU ad bd) m).toNat).lo),
  .int .i64 (if hi then min (at_ (gg ad bd m) (at_ (aZ ad bd) m).toNat).hi (at_ bd (at_ (cU ad bd) m).toNat).hi else (at_ (gg ad bd m) (at_ (aZ ad bd) m).toNat).hi)]
theorem WS(ds:List Dim)(ats:List Attr)(cs:List Cell)(xs zs ys:List (List D))(hd:cs.Pairwise cE)(hf:cs.length≤4096)(hx:xs=ds.map ax)(hz:zs=ats.map aS)(hy:ys=cs.map al):CallA Tryz.prog 99 [.one (.d (.sl 3 32 xs)),.one (.d (.sl 2 24 zs)),.one (.d (.sl 2 48 ys))] [] (.tup [(true,[.d (ai ds),.d (ao ats),.d (aC (cg cs))]),(false,[.d (.int .i64 0)])]) []:=by
 subst hz;exact po ds ats cs xs ys hd hf hx hy
theorem Sf(l:List Val)(hne:0<l.length):CallA Tryz.prog 144 [.one (.d (aY l))] [] (.one (.own 0 l.length)) [(0,.row 4 40 (l.map aB))]:=by
 refine enter af Tryz.func144 rfl (by decide +kernel) rfl fun hok w0 σ0 φ0 M=>?_
 have h1:=hok.1.sl;clear hok;simp only[WZ] at h1
 repeat' (first|(refine h1H ?_;(refine h5H ?_;refine dz af J J J J J J (fun r hr=>?_)))|(refine h1H ?_;(refine h0H ?_;refine c6 af J J J J J (id:=0) J J J J J J J (by simp only[WZ,Xp];omega) (by simp only[WZ,Xp];omega) ?_))|refine wG ?_|(refine h2H ?_;refine aj J (fun h=>?_) (fun h=>?_)))
 ·have e:=hr (by simpa using h)
  simp only[List.map_eq_nil_iff] at e
  subst e;simp at hne
 ·simp
theorem Fm{a b:Arr}{i n:Nat}(hi:a.cells.length≤i)(h2:n=(jN a b i 0).length)(h3:n≤4096):(eD a b).length≤4096:=by
 rw[HJ hi] at h2;omega
theorem Of{a b:Arr}{i n:Nat}{rows:List (List D)}(hi:a.cells.length≤i)(h2:n=(jN a b i 0).length)(h4:rows=(jN a b i 0).map al):List.take n rows=(eD a b).map al:=by
 rw[h4,WY (by rw[WZ];omega),HJ hi]
theorem Og{a b:Arr}:List.take (a.attrs.length+(b.attrs.map aS).length) (List.take a.attrs.length (a.attrs.map aS)++b.attrs.map aS)=(a.attrs++b.attrs).map aS:=by
 rw[WY (l:=a.attrs.map aS) (by simp),WY (by simp),XB]
theorem Oh{a b:Arr}{xs:List (List D)}{m:Nat}(hn:(a.dims.map Dim.name).Nodup)(hl:xs.length=a.dims.length+(bE a.dims b.dims).length)(hx:xs=(gg a.dims b.dims m).map ax)(hm:m=(aZ a.dims b.dims).length):List.take (a.dims.length+((ay b.dims (bE a.dims b.dims)).map ax).length) xs=(bR a.dims b.dims).map ax:=by
 rw[WY (by rw[hl,WZ,bQ];exact Xc _),hx,hm,uT hn]
theorem vK{a b:Arr}{c:Cell}:(jZ a b c).length=(b.cells.filter (dc a.dims b.dims c)).length:=by simp[jZ]
theorem Oi{ad bd:List Dim}(c d:Cell):[D.sl 1 8 (List.take (c.at'.length+((ay d.at' (bE ad bd)).map aA).length) (List.take c.at'.length (c.at'.map aA)++(ay d.at' (bE ad bd)).map aA)),D.sl 4 40 (List.take (c.vals.length+(d.vals.map aB).length) (List.take c.vals.length (c.vals.map aB)++d.vals.map aB))]=al (qP ad bd c d):=by
 rw[WY (l:=c.at'.map aA) (by simp),WY (l:=c.vals.map aB) (by simp),WY (by simp),WY (by simp),← XB,← XB]
 rfl
theorem QC{a b:Arr}{i j n:Nat}{rows:List (List D)}(hj:j<(b.cells.filter (dc a.dims b.dims (at_ a.cells i))).length)(h2:n=(jN a b i j).length)(h4:rows=(jN a b i j).map al) :
  n+1=(jN a b i (j+1)).length∧List.take n rows++[al (qP a.dims b.dims (at_ a.cells i) (at_ (b.cells.filter (dc a.dims b.dims (at_ a.cells i))) j))]=(jN a b i (j+1)).map al:=by
 have e:=OF (a:=a) (b:=b) (i:=i) (j:=j) (by rw[vK];exact hj)
 refine⟨by rw[e,W9,h2];rfl,?_⟩
 rw[e,XB,h4,WY (by rw[WZ];omega)]
 unfold jZ
 rw[bj hj]
 rfl
theorem Oj{a b:Arr}{i j:Nat}(hi:i<a.cells.length)(hj:j<(b.cells.filter (dc a.dims b.dims (at_ a.cells i))).length)(h:(jN a b i j).length=4096):cn (bR a.dims b.dims) (a.attrs++b.attrs) (eD a b)=(none,9):=by
 have h1:=QN (a:=a) (b:=b) hi (j:=j)
 rw[vK] at h1
 unfold cn
 rw[if_pos (by omega)]
noncomputable def Ol:Code:=match Tryz.f157.body with
 | some (.seq _ (.seq _ (.seq _ (.seq _ (.seq _ (.seq _ (.seq _ (.seq _ t))))))))=>t
 | _=>.skip
abbrev mG(a b:Arr):AObj:=.map true false (dH (fun j=>.sl 2 48 (rS (fun k=>ay (at_ b.cells k).at' (cU a.dims b.dims)) (fun k=>al (at_ b.cells k)) b.cells.length (at_ (kS (fun k=>ay (at_ b.cells k).at' (cU a.dims b.dims)) b.cells.length) j))) (kS (fun k=>ay (at_ b.cells k).at' (cU a.dims b.dims)) b.cells.length) 0)
set_option maxHeartbeats 4000000 in
theorem QO(a b:Arr)(ha:OkA a.dims a.attrs a.cells)(hb:OkA b.dims b.attrs b.cells){xs:List (List D)}{m:Nat}(hr:xs=(gg a.dims b.dims m).map ax)(hrl2:xs.length=a.dims.length+(bE a.dims b.dims).length)(hpe:m=(aZ a.dims b.dims).length)
  {w0:World} {σ0:Sig} {φ0:Pl} {M:Nat→Prop}:OkC Tryz.prog ⟨w0,σ0,φ0,M,Tryz.f157.ntmps,none,[]⟩ Ol ⟨(12,.one (.mapr 4))::kG a b,(4,mG a b)::sG a b xs⟩ (aI tab Tryz.f157.results.toList (dE (cn (bR a.dims b.dims) (a.attrs++b.attrs) (eD a b))) []):=by
 have hna:0<a.dims.length:=by have:=ha.dims.1;omega
 have hnt:0<a.attrs.length:=(bA ha.sch).2.1
 have hb4:=hb.dims.2.1
 have ha4:=ha.dims.2.1
 have ha6:=(bA ha.sch).2.2.1
 have hb6:=(bA hb.sch).2.2.1
 have hrl0:(bE a.dims b.dims).length≤b.dims.length:=by rw[tu];exact Eb
 have hrl:(bE a.dims b.dims).length≤1000:=by omega
 have hlb:(aZ a.dims b.dims).length≤b.dims.length:=by rw[iQ];exact Ea
 have hnd:(a.dims.map Dim.name).Nodup:=ha.dims.2.2.2
 have hlr:(cU a.dims b.dims).length=(aZ a.dims b.dims).length:=by rw[pS,iQ]
 have hfew:=hb.few
 have hln:(aZ a.dims b.dims).length≤1000:=by omega
 have hr4L:∀ {x:List Int},(ay x (aZ a.dims b.dims)).length≤4:=by intro x;rw[bQ];omega
 have hLR:∀ {x y:List Int},(ay x (cU a.dims b.dims)).length=(ay y (aZ a.dims b.dims)).length:=by intro x y;rw[bQ,bQ,hlr]
 have hclA:∀ k,k<a.cells.length→∀ i,i<(aZ a.dims b.dims).length→0≤at_ (aZ a.dims b.dims) i∧(at_ (aZ a.dims b.dims) i).toNat<(at_ a.cells k).at'.length:=fun k hk i hi=>by
  rw[(cellF_ok.1 (ha.cel _ (aU hk))).1];exact pU i hi
 have hvlA:∀ k,k<a.cells.length→0<(at_ a.cells k).vals.length:=fun k hk=>by rw[(cellF_ok.1 (ha.cel _ (aU hk))).2.1];exact hnt
 have hatA:∀ k,k<a.cells.length→(at_ a.cells k).at'.length≤100000000:=fun k hk=>by rw[(cellF_ok.1 (ha.cel _ (aU hk))).1];omega
 have hvsA:∀ k,k<a.cells.length→(at_ a.cells k).vals.length≤100000000:=fun k hk=>by rw[(cellF_ok.1 (ha.cel _ (aU hk))).2.1];omega
 have hpkR:∀ {x:List Int},((ay x (bE a.dims b.dims)).map aA).length≤10000000:=by intro x;rw[WZ,bQ];omega
 have hclR:∀ (p:Cell→Bool) k,k<(b.cells.filter p).length→∀ i,i<(bE a.dims b.dims).length→0≤at_ (bE a.dims b.dims) i∧(at_ (bE a.dims b.dims) i).toNat<(at_ (b.cells.filter p) k).at'.length:=fun p k hk i hi=>by
  rw[(cellF_ok.1 (hb.cel _ (Yr.1 (aU hk)).1)).1];exact pV i hi
 have hvsB:∀ (p:Cell→Bool) k,k<(b.cells.filter p).length→((at_ (b.cells.filter p) k).vals.map aB).length≤10000000:=fun p k hk=>by
  rw[WZ,(cellF_ok.1 (hb.cel _ (Yr.1 (aU hk)).1)).2.1];omega
 have hfa:=ha.few
 have hfl:∀ p:Cell→Bool,(b.cells.filter p).length≤b.cells.length:=fun p=>XO p b.cells
 repeat' (first|(refine h1H ?_;(refine KF ?_;refine Oe envOk J J J J J J J J J J J J hr4L (fun k hk=>hLR) (QB a b (at_ a.cells (u.1:Int).toNat)) ?_))|(refine h1H ?_;(refine h0H ?_;first|refine eP 70 [7,8,10] J J J J J J J J J (WS (bR a.dims b.dims) (a.attrs++b.attrs) (eD a b) _ _ _ (vZ ha hb) (Fm wB hu2 hu3) (Oh hnd hrl2 hr hpe) Og (Of wB hu2 hu4)) J J J ?_|refine ae J J J J J J J J (Bf (ay (at_ a.cells (u.1:Int).toNat).at' (aZ a.dims b.dims)) hr4L) J ?_|refine aM 16 J J J J J J J J (FH (at_ a.cells (u.1:Int).toNat).at' (aZ a.dims b.dims) hln (hclA _ wB)) J J J ?_))|(refine h2H ?_;(show OkC _ _ (Code.region 29 _ _) (St.mk _ (dh _ _)) _;refine bm (uN (st':=⟨[(16,.one (.own 11 (v.2.1+1))),(136,_),(5,_),(6,_),(8,_),(9,_),(12,_),(18,_),(121,_),(122,_),(123,_),(134,_),(135,_)],[(11,.row 2 48 (List.take v.2.1 v.2.2++[[.sl 1 8 (List.take ((at_ a.cells u.1).at'.length+((ay (at_ (b.cells.filter (dc a.dims b.dims (at_ a.cells (u.1:Int).toNat))) (v.1:Int).toNat).at' (bE a.dims b.dims)).map aA).length) (List.take (at_ a.cells u.1).at'.length ((at_ a.cells u.1).at'.map aA)++(ay (at_ (b.cells.filter (dc a.dims b.dims (at_ a.cells (u.1:Int).toNat))) (v.1:Int).toNat).at' (bE a.dims b.dims)).map aA)),.sl 4 40 (List.take ((at_ a.cells u.1).vals.length+((at_ (b.cells.filter (dc a.dims b.dims (at_ a.cells (u.1:Int).toNat))) (v.1:Int).toNat).vals.map aB).length) (List.take (at_ a.cells u.1).vals.length ((at_ a.cells u.1).vals.map aB)++(at_ (b.cells.filter (dc a.dims b.dims (at_ a.cells (u.1:Int).toNat))) (v.1:Int).toNat).vals.map aB))]])),(0,_),(4,_),(7,_),(8,_),(3,_),(2,_),(1,_)]⟩) (JX J J J J J J J J J J J J J) (q8Q J J J J J J J J)) ?_))|(refine h4H ?_;(refine h3H ?_;first|refine iR 40 J J J J J J J J (Ml _) J J J J ?_|refine iR 60 J J J J J J J J (Sf _ (hvlA _ wB)) J J J J ?_|refine bz 80 J J J J J J J J (FH (at_ (b.cells.filter (dc a.dims b.dims (at_ a.cells (u.1:Int).toNat))) (v.1:Int).toNat).at' (bE a.dims b.dims) hrl (hclR _ _ wB)) J J ?_|refine dV envOk 13 J J J (b5 (i:=40) J J J J J J J J (hatA _ wB) hpkR (W6 J)) J J ?_|refine dV envOk 14 J J J (b5 (i:=60) J J J J J J J J (hvsA _ wB) (hvsB _ _ wB) (W6 J)) J J ?_))|(refine h4H ?_;(refine Kr ?_;refine dV envOk 9 (v:=.one (.own 9 1)) (wr:=[(9,some (.row 2 48 [[.sl 1 8 (List.take ((at_ a.cells u.1).at'.length+((ay (at_ (b.cells.filter (dc a.dims b.dims (at_ a.cells (u.1:Int).toNat))) (v.1:Int).toNat).at' (bE a.dims b.dims)).map aA).length) (List.take (at_ a.cells u.1).at'.length ((at_ a.cells u.1).at'.map aA)++(ay (at_ (b.cells.filter (dc a.dims b.dims (at_ a.cells (u.1:Int).toNat))) (v.1:Int).toNat).at' (bE a.dims b.dims)).map aA)),.sl 4 40 (List.take ((at_ a.cells u.1).vals.length+((at_ (b.cells.filter (dc a.dims b.dims (at_ a.cells (u.1:Int).toNat))) (v.1:Int).toNat).vals.map aB).length) (List.take (at_ a.cells u.1).vals.length ((at_ a.cells u.1).vals.map aB)++(at_ (b.cells.filter (dc a.dims b.dims (at_ a.cells (u.1:Int).toNat))) (v.1:Int).toNat).vals.map aB))]])),(13,none),(14,none)]) (nw:=[9]) J J J J J J ?_))|refine wG ?_|(refine h2H ?_;first|refine aj J (fun h=>?_) (fun h=>?_)|refine ep 21 J (dm (s:=16) (id:=10) (k:=2) (b:=48) J J J J) [(5,_),(6,_),(8,_),(9,_),(12,_),(121,_),(122,_)] (q7Q J J J J J J J) (fun (bN:Bool×Bool) (u:Nat×Nat×List (List D))=>[(16,.one (.own (nmA bN) u.2.1)),(123,.one (.d (.int .i64 (u.1:Int))))]) (fun (bN:Bool×Bool) (u:Nat×Nat×List (List D))=>[((nmA bN),.row 2 48 u.2.2),(4,mG a b),(7,.row 3 32 xs),(8,.row 2 24 (List.take a.attrs.length (a.attrs.map aS)++b.attrs.map aS)),(3,.box [.d .nil,.d .nil,.d .nil]),(2,.box [.d (ar (aZ a.dims b.dims)),.d (ar (cU a.dims b.dims)),.d (ar (bE a.dims b.dims))]),(1,.box [.d (ai b.dims),.d (ao b.attrs),.d (aC b.cells)])]) (fun (u:Nat×Nat×List (List D))=>u.1≤a.cells.length∧u.2.1=(jN a b u.1 0).length∧u.2.1≤4096∧u.2.2=(jN a b u.1 0).map al) (fun (u:Nat×Nat×List (List D))=>a.cells.length-u.1) (0,0,[]) (q2Q J J) wK (fun b y=>by obtain⟨b1,b2⟩:=b;cases b1<;>cases b2<;>first|exact Imp.refl _|exact eu qN (by kernel_rfl)) ?_ (fun u ⟨hu1,hu2,hu3,hu4⟩=>?_)|refine ep 24 J (Imp.refl _) [(5,_),(6,_),(8,_),(9,_),(12,_),(18,_),(121,_),(122,_),(123,_),(134,_),(135,_)] (Qd J J J J J J J J J J J) (fun (bN:Bool×Bool) (v:Nat×Nat×List (List D))=>[(16,.one (.own (nmA bN) v.2.1)),(136,.one (.d (.int .i64 (v.1:Int))))]) (fun (bN:Bool×Bool) (v:Nat×Nat×List (List D))=>[((nmA bN),.row 2 48 v.2.2),(0,.box [.d (ar (at_ a.cells u.1).at'),.d (aY (at_ a.cells u.1).vals)]),(4,mG a b),(7,.row 3 32 xs),(8,.row 2 24 (List.take a.attrs.length (a.attrs.map aS)++b.attrs.map aS)),(3,.box [.d .nil,.d .nil,.d .nil]),(2,.box [.d (ar (aZ a.dims b.dims)),.d (ar (cU a.dims b.dims)),.d (ar (bE a.dims b.dims))]),(1,.box [.d (ai b.dims),.d (ao b.attrs),.d (aC b.cells)])]) (fun (v:Nat×Nat×List (List D))=>v.1≤(b.cells.filter (dc a.dims b.dims (at_ a.cells u.1))).length∧v.2.1=(jN a b u.1 v.1).length∧v.2.1≤4096∧v.2.2=(jN a b u.1 v.1).map al∧(b.cells.filter (dc a.dims b.dims (at_ a.cells u.1))).length≤4096) (fun (v:Nat×Nat×List (List D))=>(b.cells.filter (dc a.dims b.dims (at_ a.cells u.1))).length-v.1) (0,u.2) (q2Q J J) wK (fun b y=>by obtain⟨b1,b2⟩:=b;cases b1<;>cases b2<;>first|exact Imp.refl _|exact eu qN (by kernel_rfl)) ?_ (fun v ⟨hv1,hv2,hv3,hv4,hv5⟩=>?_))|(show Exists _;first|refine Exists.intro ((v.1+1,v.2.1+1,v.2.2.take v.2.1++[[.sl 1 8 (List.take ((at_ a.cells u.1).at'.length+((ay (at_ (b.cells.filter (dc a.dims b.dims (at_ a.cells u.1))) v.1).at' (bE a.dims b.dims)).map aA).length) (List.take (at_ a.cells u.1).at'.length ((at_ a.cells u.1).at'.map aA)++(ay (at_ (b.cells.filter (dc a.dims b.dims (at_ a.cells u.1))) v.1).at' (bE a.dims b.dims)).map aA)),.sl 4 40 (List.take ((at_ a.cells u.1).vals.length+((at_ (b.cells.filter (dc a.dims b.dims (at_ a.cells u.1))) v.1).vals.map aB).length) (List.take (at_ a.cells u.1).vals.length ((at_ a.cells u.1).vals.map aB)++(at_ (b.cells.filter (dc a.dims b.dims (at_ a.cells u.1))) v.1).vals.map aB))]])) (Exists.intro (true,false) ⟨?_,?_,wK,(q2Q J J),(Qd J J J J J J J J J J J)⟩)|refine Exists.intro ((u.1+1,v.2)) (Exists.intro (false,false) ⟨?_,?_,wK,(q2Q J J),(q7Q J J J J J J J)⟩)))
 ·exact⟨Xk _,by show 0=(jN a b 0 0).length;rw[Ee];rfl,Xk _,by show []=(jN a b 0 0).map al;rw[Ee];rfl⟩
 ·exact⟨Xk _,hu2,hu3,hu4,Xg (hfl _) hfew⟩
 ·have hlt:v.1<(b.cells.filter (dc a.dims b.dims (at_ a.cells u.1))).length:=by simpa using ‹decide ((v.1:Int)<(((b.cells.filter (dc a.dims b.dims (at_ a.cells (u.1:Int).toNat))).map al).length:Int))=true›
  have hui:u.1<a.cells.length:=by simpa using ‹decide ((u.1:Int)<((a.cells.map al).length:Int))=true›
  have hv:v.2.1=4096:=by
   have h':((v.2.1:Int)==4096)=true:=h
   rw[beq_iff_eq] at h';omega
  rw[Oj hui hlt (by omega)]
  rfl
 ·have hlt:v.1<(b.cells.filter (dc a.dims b.dims (at_ a.cells u.1))).length:=by simpa using ‹decide ((v.1:Int)<(((b.cells.filter (dc a.dims b.dims (at_ a.cells (u.1:Int).toNat))).map al).length:Int))=true›
  have hv:v.2.1≠4096:=by
   have h':((v.2.1:Int)==4096)=false:=h
   rw[Yk] at h';omega
  obtain⟨e1,e2⟩:=QC hlt hv2 hv4
  rw[← Oi] at e2
  exact⟨hlt,e1,by show v.2.1+1≤4096;omega,e2,hv5⟩
 ·have hlt:v.1<(b.cells.filter (dc a.dims b.dims (at_ a.cells u.1))).length:=by simpa using ‹decide ((v.1:Int)<(((b.cells.filter (dc a.dims b.dims (at_ a.cells (u.1:Int).toNat))).map al).length:Int))=true›
  show (b.cells.filter (dc a.dims b.dims (at_ a.cells u.1))).length-(v.1+1)<(b.cells.filter (dc a.dims b.dims (at_ a.cells u.1))).length-v.1
  omega
 ·have hui:u.1<a.cells.length:=by simpa using ‹decide ((u.1:Int)<((a.cells.map al).length:Int))=true›
  have hge:¬ v.1<(b.cells.filter (dc a.dims b.dims (at_ a.cells u.1))).length:=by simpa using ‹decide ((v.1:Int)<(((b.cells.filter (dc a.dims b.dims (at_ a.cells (u.1:Int).toNat))).map al).length:Int))=false›
  have e:=MD (a:=a) (b:=b) hui (j:=v.1) (by rw[vK];omega)
  exact⟨hui,by rw[← e];exact hv2,hv3,by rw[← e];exact hv4⟩
 ·have hui:u.1<a.cells.length:=by simpa using ‹decide ((u.1:Int)<((a.cells.map al).length:Int))=true›
  show a.cells.length-(u.1+1)<a.cells.length-u.1
  omega
 ·have hge:a.cells.length≤u.1:=by simpa using h
  have hf:=Fm hge hu2 hu3
  unfold cn
  rw[if_neg (by omega)]
  rfl
end Go.Proofs.YtpejdgkaapnekaaGreat
namespace Go.Proofs.YtpejdgkaapnekaaGreat
open Go Go.Abs
attribute [local irreducible] aa OkC ak av aq aI
set_option maxRecDepth 10000
theorem Bd{ad bd:List Dim}{m:Nat}{xs:List (List D)}(hn:(ad.map Dim.name).Nodup)(hnb:(bd.map Dim.name).Nodup)(h:m<(aZ ad bd).length)(hr:xs=(gg ad bd m).map ax)(hl:xs.length=ad.length+(bE ad bd).length) :
  m+1≤(aZ ad bd).length∧(xs.set (at_ (aZ ad bd) m).toNat (qS ad bd m false)).set (at_ (aZ ad bd) m).toNat (qS ad bd m true)=(gg ad bd (m+1)).map ax∧((xs.set (at_ (aZ ad bd) m).toNat (qS ad bd m false)).set (at_ (aZ ad bd) m).toNat (qS ad bd m true)).length=ad.length+(bE ad bd).length:=by
 obtain⟨k,j,h1,h2,h3,h4,h5,h6⟩:=HI hn hnb h
 refine⟨h,?_,by simp[hl]⟩
 rw[List.set_set,hr,h6,XW]
 unfold qS
 rw[h1,h2]
 simp only[Xr,h5]
 rfl
set_option maxHeartbeats 2000000 in
theorem SR(a b:Arr)(ha:OkA a.dims a.attrs a.cells)(hb:OkA b.dims b.attrs b.cells):CallA Tryz.prog 157 [aO a,aO b,nT a.dims b.dims] [] (dE (fu a b)) []:=by
 unfold aO nT
 refine enter af Tryz.func157 rfl (by decide +kernel) rfl fun hok w0 σ0 φ0 M=>?_
 clear hok
 have hna:0<a.dims.length:=by have:=ha.dims.1;omega
 have hnt:0<a.attrs.length:=(bA ha.sch).2.1
 have hb4:=hb.dims.2.1
 have ha4:=ha.dims.2.1
 have ha6:=(bA ha.sch).2.2.1
 have hb6:=(bA hb.sch).2.2.1
 have hrl0:(bE a.dims b.dims).length≤b.dims.length:=by rw[tu];exact Eb
 have hrl:(bE a.dims b.dims).length≤1000:=by omega
 have hyP:((ay b.dims (bE a.dims b.dims)).map ax).length≤10000000:=by rw[WZ,bQ];omega
 have hyT:(b.attrs.map aS).length≤10000000:=by rw[WZ];omega
 have hlb:(aZ a.dims b.dims).length≤b.dims.length:=by rw[iQ];exact Ea
 have hnd:(a.dims.map Dim.name).Nodup:=ha.dims.2.2.2
 have hndb:(b.dims.map Dim.name).Nodup:=hb.dims.2.2.2
 have hlr:(cU a.dims b.dims).length=(aZ a.dims b.dims).length:=by rw[pS,iQ]
 rcases HK a b with⟨hb1,e⟩|⟨hb1,hb2,e⟩|⟨hb1,hb2,hb3,e⟩|⟨hb1,hb2,hb3,e⟩
 all_goals (try rw[e])
 rotate_right
 ·repeat' (first|(refine h1H ?_;(refine h0H ?_;refine aT [7] J J J J J J J J J (LG _ (bR a.dims b.dims) (by rw[WY (by rw[hrl2,WZ,bQ];exact Xc _),hr,show p.1=(aZ a.dims b.dims).length from wB,uT hnd])) J ?_))|(refine h4H ?_;(refine FG ?_;first|refine d_e envOk J J J (ia J J J J J J (pU _ wB).1 (HL wB)) ?_|refine d_e envOk J J J (dr J J J J J (wa wB).1 (dZ (wa wB).2)) ?_))|(refine h4H ?_;(refine JW ?_;refine d_e envOk J J J (cz J J J J (eO hr (pY hrl2 wB)) J) ?_))|(refine h4H ?_;(refine OG ?_;first|refine kD envOk J J (cx J J J J J J J J J (eO hr (pY hrl2 wB)) J) ?_|refine kD envOk J J (cx J J J J J J J J J (pZ (pY hrl2 wB)) J) ?_))|(refine h4H ?_;(refine h3H ?_;first|refine iR 40 J J J J J J J J (kU a.dims hna) J J J J ?_|refine iR 60 J J J J J J J J (tv a.attrs hnt) J J J J ?_|refine bz 80 J J J J J J J J (Be b.dims (bE a.dims b.dims) hrl pV) J J ?_|refine dV envOk 7 J J J (b5 (i:=40) J J J J J J J J (show a.dims.length≤100000000 from (by omega)) hyP (W6 J)) J J ?_|refine dV envOk 8 J J J (b5 (i:=60) J J J J J J J J (show a.attrs.length≤100000000 from (by omega)) hyT (W6 J)) J J ?_))|refine wG ?_|(refine h2H ?_;first|refine aj J (fun h=>?_) (fun h=>?_)|refine cm 6 J [(3,_),(4,_),(5,_),(6,_),(8,_),(9,_),(46,_),(47,_)] (q8Q J J J J J J J J) (fun (p:Nat×List (List D))=>[(48,.one (.d (.int .i64 (p.1:Int))))]) (fun (p:Nat×List (List D))=>[(7,.row 3 32 p.2),(8,.row 2 24 (List.take a.attrs.length (a.attrs.map aS)++b.attrs.map aS)),(3,.box [.d .nil,.d .nil,.d .nil]),(2,.box [.d (ar (aZ a.dims b.dims)),.d (ar (cU a.dims b.dims)),.d (ar (bE a.dims b.dims))]),(1,.box [.d (ai b.dims),.d (ao b.attrs),.d (aC b.cells)]),(0,.box [.d (ai a.dims),.d (ao a.attrs),.d (aC a.cells)])]) (fun (p:Nat×List (List D))=>p.1≤(aZ a.dims b.dims).length∧p.2=(gg a.dims b.dims p.1).map ax∧p.2.length=a.dims.length+(bE a.dims b.dims).length) (fun (p:Nat×List (List D))=>(aZ a.dims b.dims).length-p.1) (0,List.take a.dims.length (a.dims.map ax)++(ay b.dims (bE a.dims b.dims)).map ax) (q1Q J) wK ?_ (fun p ⟨hk,hr,hrl2⟩=>?_))|(show Exists _;refine Exists.intro ((p.1+1,(p.2.set (at_ (aZ a.dims b.dims) p.1).toNat (qS a.dims b.dims p.1 false)).set (at_ (aZ a.dims b.dims) p.1).toNat (qS a.dims b.dims p.1 true))) ⟨?_,?_,wK,(q1Q J),(q8Q J J J J J J J J)⟩))
  ·exact⟨Xk _,by show List.take a.dims.length (a.dims.map ax)++_=_;rw[WY (by simp),yY,XB],by show (List.take a.dims.length (a.dims.map ax)++_).length=_;rw[WY (by simp),W9,WZ,WZ,bQ]⟩
  ·have hlt:p.1<(aZ a.dims b.dims).length:=by simpa using h
   exact Bd hnd hndb hlt hr hrl2
  ·have hlt:p.1<(aZ a.dims b.dims).length:=by simpa using h
   show (aZ a.dims b.dims).length-(p.1+1)<(aZ a.dims b.dims).length-p.1
   omega
  ·have hpe:p.1=(aZ a.dims b.dims).length:=by
    have:¬ p.1<(aZ a.dims b.dims).length:=by simpa using h
    omega
   have hcl:∀ k,k<b.cells.length→∀ i,i<(cU a.dims b.dims).length→0≤at_ (cU a.dims b.dims) i∧(at_ (cU a.dims b.dims) i).toNat<(at_ b.cells k).at'.length:=fun k hk i hi=>by
    rw[(cellF_ok.1 (hb.cel _ (aU hk))).1];exact Ec i hi
   have hfew:=hb.few
   have hrn:(cU a.dims b.dims).length≤1000:=by omega
   have hr4:∀ {x:List Int},(ay x (cU a.dims b.dims)).length≤4:=by intro x;rw[bQ];omega
   refine HM (bl:=2) (sm:=12) (mid:=4) (idr:=40) (kk:=2) (bb:=48) (N:=b.cells.length) (r:=(cU a.dims b.dims).length) (de:=116) (m:={ kt:=121,et:=24,kg:=true,ks:=pk,vg:=false,z:=[D.nil] })
    (kept:=kG a b) (l1:=[_,_,_,_]) (l3:=[_,_,_]) (sto1:=sG a b p.2)
    rfl (envOk.M 197 _ rfl) rfl rfl rfl rfl (fun k=>ay (at_ b.cells k).at' (cU a.dims b.dims)) (fun k=>al (at_ b.cells k)) (fun k=>[(101,.one (.d (.int .i64 (k:Int))))])
    (fun k B=>(14,.one (.ref 4 0))::(15,.one (.ref 5 0))::(101,.one (.d (.int .i64 (k:Int))))::(12,.one (.d (.raw (.map (some B)))))::kG a b)
    (fun k B=>(115,.one (.own 6 1))::(112,lS (ay (at_ b.cells k).at' (cU a.dims b.dims)))::(111,.one (.d (.raw (.map (some B)))))::(101,.one (.d (.int .i64 (k:Int))))::(12,.one (.d (.raw (.map (some B)))))::kG a b)
    (fun k B j n=>(118,.one (.d (.int .i64 (j:Int))))::(117,.one (.own 40 (n+1)))::(111,.one (.d (.raw (.map (some B)))))::(101,.one (.d (.int .i64 (k:Int))))::(12,.one (.d (.raw (.map (some B)))))::kG a b)
    (fun k=>(5,.box [.d (.int .i64 (at_ (ay (at_ b.cells k).at' (cU a.dims b.dims)) 0)),.d (.int .i64 (at_ (ay (at_ b.cells k).at' (cU a.dims b.dims)) 1)),.d (.int .i64 (at_ (ay (at_ b.cells k).at' (cU a.dims b.dims)) 2)),.d (.int .i64 (at_ (ay (at_ b.cells k).at' (cU a.dims b.dims)) 3))])::(4,.box [.d (ar (at_ b.cells k).at'),.d (aY (at_ b.cells k).vals)])::sG a b p.2)
    (fun k=>(6,.row 2 48 [al (at_ b.cells k)])::sG a b p.2)
    (by have:=hb.few;omega) (by rw[pS,← iQ];omega) (fun k hk=>bQ) rfl rfl rfl ?_ ?_ ?_ rfl rfl rfl rfl rfl ?_ ?_ rfl rfl rfl rfl (fun _ _=>rfl) (fun _ _=>rfl) rfl (fun _ _=>rfl) (fun _=>rfl) rfl ?_ rfl rfl rfl (fun _ _ _ _ _=>rfl) (fun _ _ _ _ _=>rfl) (fun _ _ _ _ _=>rfl) ?_ ?_
   ·exact (q1Q rfl)
   ·exact (q8Q rfl rfl rfl rfl rfl rfl rfl rfl)
   ·exact (q6Q rfl rfl rfl rfl rfl rfl)
   ·intro k hk B w0 σ0 φ0 M
    repeat' (first|refine wG ?_|(refine h2H ?_;refine aj J (fun h=>?_) (fun h=>?_)))
    ·have hlt:k<b.cells.length:=by simpa using h
     refine .inr ⟨rfl,hlt,?_⟩
     repeat' (first|(refine h1H ?_;(refine h0H ?_;first|refine ae J J J J J J J J (Bf (ay (at_ b.cells (k:Int).toNat).at' (cU a.dims b.dims)) hr4) J ?_|refine aM 16 J J J J J J J J (FH (at_ b.cells (k:Int).toNat).at' (cU a.dims b.dims) hrn (hcl _ (by omega))) J J J ?_))|refine wG ?_)
     exact⟨(SS rfl rfl rfl rfl rfl rfl rfl rfl rfl rfl rfl rfl),(q8Q rfl rfl rfl rfl rfl rfl rfl rfl)⟩
    ·refine .inl ⟨rfl,?_,(q9Q rfl rfl rfl rfl rfl rfl rfl rfl rfl),(q6Q rfl rfl rfl rfl rfl rfl)⟩
     have:¬ k<b.cells.length:=by simpa using h
     omega
   ·intro k hk B w0 σ0 φ0 M
    repeat' (first|refine wG ?_)
    exact⟨(JX rfl rfl rfl rfl rfl rfl rfl rfl rfl rfl rfl rfl rfl),(q7Q rfl rfl rfl rfl rfl rfl rfl)⟩
   ·intro k hk B j xs hxs w0 σ0 φ0 M
    repeat' (first|(refine h1H ?_;(refine h0H ?_;refine cV JY ?_))|refine wG ?_)
    exact⟨(JX rfl rfl rfl rfl rfl rfl rfl rfl rfl rfl rfl rfl rfl),by show some (AObj.row 2 48 (List.take xs.length xs++_))=_;rw[XT];rfl,(q6Q rfl rfl rfl rfl rfl rfl)⟩
   ·intro k hk B j m w0 σ0 φ0 M
    repeat' (first|refine wG ?_)
    exact⟨(SU rfl rfl rfl rfl rfl rfl rfl rfl rfl rfl),(q6Q rfl rfl rfl rfl rfl rfl)⟩
   ·exact Eh rfl (HN (QO a b ha hb hr hrl2 hpe))
 ·repeat' (first|(refine h4H ?_;(refine h3H ?_;first|refine iR 40 J J J J J J J J (kU a.dims hna) J J J J ?_|refine iR 60 J J J J J J J J (tv a.attrs hnt) J J J J ?_|refine bz 80 J J J J J J J J (Be b.dims (bE a.dims b.dims) hrl pV) J J ?_|refine dV envOk 7 J J J (b5 (i:=40) J J J J J J J J (show a.dims.length≤100000000 from (by omega)) hyP (W6 J)) J J ?_|refine dV envOk 8 J J J (b5 (i:=60) J J J J J J J J (show a.attrs.length≤100000000 from (by omega)) hyT (W6 J)) J J ?_))|refine wG ?_)
  rfl
 ·repeat' (first|(refine h4H ?_;(refine h3H ?_;first|refine iR 40 J J J J J J J J (kU a.dims hna) J J J J ?_|refine iR 60 J J J J J J J J (tv a.attrs hnt) J J J J ?_|refine bz 80 J J J J J J J J (Be b.dims (bE a.dims b.dims) hrl pV) J J ?_|refine dV envOk 7 J J J (b5 (i:=40) J J J J J J J J (show a.dims.length≤100000000 from (by omega)) hyP (W6 J)) J J ?_|refine dV envOk 8 J J J (b5 (i:=60) J J J J J J J J (show a.attrs.length≤100000000 from (by omega)) hyT (W6 J)) J J ?_))|refine wG ?_)
  rfl
 ·repeat' (first|(refine h1H ?_;(refine h0H ?_;refine aT [7] J J J J J J J J J (LG _ (bR a.dims b.dims) (by rw[WY (by rw[hrl2,WZ,bQ];exact Xc _),hr,show p.1=(aZ a.dims b.dims).length from wB,uT hnd])) J ?_))|(refine h4H ?_;(refine FG ?_;first|refine d_e envOk J J J (ia J J J J J J (pU _ wB).1 (HL wB)) ?_|refine d_e envOk J J J (dr J J J J J (wa wB).1 (dZ (wa wB).2)) ?_))|(refine h4H ?_;(refine JW ?_;refine d_e envOk J J J (cz J J J J (eO hr (pY hrl2 wB)) J) ?_))|(refine h4H ?_;(refine OG ?_;first|refine kD envOk J J (cx J J J J J J J J J (eO hr (pY hrl2 wB)) J) ?_|refine kD envOk J J (cx J J J J J J J J J (pZ (pY hrl2 wB)) J) ?_))|(refine h4H ?_;(refine h3H ?_;first|refine iR 40 J J J J J J J J (kU a.dims hna) J J J J ?_|refine iR 60 J J J J J J J J (tv a.attrs hnt) J J J J ?_|refine bz 80 J J J J J J J J (Be b.dims (bE a.dims b.dims) hrl pV) J J ?_|refine dV envOk 7 J J J (b5 (i:=40) J J J J J J J J (show a.dims.length≤100000000 from (by omega)) hyP (W6 J)) J J ?_|refine dV envOk 8 J J J (b5 (i:=60) J J J J J J J J (show a.attrs.length≤100000000 from (by omega)) hyT (W6 J)) J J ?_))|refine wG ?_|(refine h2H ?_;first|refine aj J (fun h=>?_) (fun h=>?_)|refine cm 6 J [(3,_),(4,_),(5,_),(6,_),(8,_),(9,_),(46,_),(47,_)] (q8Q J J J J J J J J) (fun (p:Nat×List (List D))=>[(48,.one (.d (.int .i64 (p.1:Int))))]) (fun (p:Nat×List (List D))=>[(7,.row 3 32 p.2),(8,.row 2 24 (List.take a.attrs.length (a.attrs.map aS)++b.attrs.map aS)),(3,.box [.d .nil,.d .nil,.d .nil]),(2,.box [.d (ar (aZ a.dims b.dims)),.d (ar (cU a.dims b.dims)),.d (ar (bE a.dims b.dims))]),(1,.box [.d (ai b.dims),.d (ao b.attrs),.d (aC b.cells)]),(0,.box [.d (ai a.dims),.d (ao a.attrs),.d (aC a.cells)])]) (fun (p:Nat×List (List D))=>p.1≤(aZ a.dims b.dims).length∧p.2=(gg a.dims b.dims p.1).map ax∧p.2.length=a.dims.length+(bE a.dims b.dims).length) (fun (p:Nat×List (List D))=>(aZ a.dims b.dims).length-p.1) (0,List.take a.dims.length (a.dims.map ax)++(ay b.dims (bE a.dims b.dims)).map ax) (q1Q J) wK ?_ (fun p ⟨hk,hr,hrl2⟩=>?_))|(show Exists _;refine Exists.intro ((p.1+1,(p.2.set (at_ (aZ a.dims b.dims) p.1).toNat (qS a.dims b.dims p.1 false)).set (at_ (aZ a.dims b.dims) p.1).toNat (qS a.dims b.dims p.1 true))) ⟨?_,?_,wK,(q1Q J),(q8Q J J J J J J J J)⟩))
  ·exact⟨Xk _,by show List.take a.dims.length (a.dims.map ax)++_=_;rw[WY (by simp),yY,XB],by show (List.take a.dims.length (a.dims.map ax)++_).length=_;rw[WY (by simp),W9,WZ,WZ,bQ]⟩
  ·have hlt:p.1<(aZ a.dims b.dims).length:=by simpa using h
   exact Bd hnd hndb hlt hr hrl2
  ·have hlt:p.1<(aZ a.dims b.dims).length:=by simpa using h
   show (aZ a.dims b.dims).length-(p.1+1)<(aZ a.dims b.dims).length-p.1
   omega
  ·rfl
theorem vm{a b:Arr}:lL a b=decide (0<(aZ a.dims b.dims).length):=by
 rw[XR,Yi,iQ]
 unfold lL
 rw[List.any_eq_true]
 constructor
 ·rintro ⟨d,hd,h⟩
  obtain⟨k,_,h2,h3⟩:=sc h
  exact List.length_pos_of_mem (com_mem.2 ⟨h2,inD_iff.2 (Xj.2 ⟨d,hd,h3.symm⟩)⟩)
 ·intro h
  have h1:=com_mem.1 (aU h)
  obtain⟨k,_,h2,h3⟩:=sc h1.2
  exact⟨_,aU h2,inD_iff.2 (Xj.2 ⟨_,aU h1.1,h3.symm⟩)⟩
theorem FW(a b:Arr) :
  ((!aG [a,b])=true∧jD a b=(none,2)) ∨
  ((!aG [a,b])=false∧((((aZ a.dims b.dims).map aA).length:Int)==0)=true∧b.dims.length≤1000∧jD a b=(none,13)) ∨
  ((!aG [a,b])=false∧((((aZ a.dims b.dims).map aA).length:Int)==0)=false∧b.dims.length≤1000∧(cM a b||cM b a)=true∧jD a b=(none,11)) ∨
  ((!aG [a,b])=false∧((((aZ a.dims b.dims).map aA).length:Int)==0)=false∧b.dims.length≤1000∧(cM a b||cM b a)=false∧OkA a.dims a.attrs a.cells∧OkA b.dims b.attrs b.cells∧jD a b=fu a b):=by
 by_cases hc:aF a≠0∨aF b≠0
 ·refine .inl ⟨?_,by unfold jD;rw[if_pos hc]⟩
  simp only[aG,List.all_cons,List.all_nil,Bool.and_true,Xe,Bool.and_eq_false_iff,Yk]
  exact hc
 have h1:aF a=0:=by omega
 have h2:aF b=0:=by omega
 have hv:(!aG [a,b])=false:=by simp[aG,h1,h2]
 have hb:=okA h2
 have hl:b.dims.length≤1000:=by have:=hb.dims.2.1;omega
 cases h3:lL a b
 ·refine .inr (.inl ⟨hv,?_,hl,by unfold jD;rw[if_neg hc,if_pos (by simp[h3])]⟩)
  rw[vm,Yj] at h3
  rw[beq_iff_eq,WZ];omega
 have hb1:((((aZ a.dims b.dims).map aA).length:Int)==0)=false:=by
  rw[vm,Yi] at h3
  rw[Yk,WZ];omega
 cases h4:(cM a b||cM b a)
 ·exact .inr (.inr (.inr ⟨hv,hb1,hl,rfl,okA h1,hb,by unfold jD;rw[if_neg hc,if_neg (by simp[h3]),if_neg (by simp[h4])]⟩))
 ·exact .inr (.inr (.inl ⟨hv,hb1,hl,rfl,by unfold jD;rw[if_neg hc,if_neg (by simp[h3]),if_pos h4]⟩))
theorem DF(a b:Arr) :
  ((!aG [a,b])=true∧gS a b=(none,2)) ∨
  ((!aG [a,b])=false∧decide (0<(((aZ a.dims b.dims).map aA).length:Int))=true∧b.dims.length≤1000∧gS a b=(none,11)) ∨
  ((!aG [a,b])=false∧decide (0<(((aZ a.dims b.dims).map aA).length:Int))=false∧b.dims.length≤1000∧(cM a b||cM b a)=true∧gS a b=(none,11)) ∨
  ((!aG [a,b])=false∧decide (0<(((aZ a.dims b.dims).map aA).length:Int))=false∧b.dims.length≤1000∧(cM a b||cM b a)=false∧OkA a.dims a.attrs a.cells∧OkA b.dims b.attrs b.cells∧gS a b=fu a b):=by
 by_cases hc:aF a≠0∨aF b≠0
 ·refine .inl ⟨?_,by unfold gS;rw[if_pos hc]⟩
  simp only[aG,List.all_cons,List.all_nil,Bool.and_true,Xe,Bool.and_eq_false_iff,Yk]
  exact hc
 have h1:aF a=0:=by omega
 have h2:aF b=0:=by omega
 have hv:(!aG [a,b])=false:=by simp[aG,h1,h2]
 have hb:=okA h2
 have hl:b.dims.length≤1000:=by have:=hb.dims.2.1;omega
 have he:decide (0<(((aZ a.dims b.dims).map aA).length:Int))=lL a b:=by
  rw[vm,XR,Yi,Yi,WZ];omega
 rw[he]
 cases h3:lL a b
 ·cases h4:(cM a b||cM b a)
  ·exact .inr (.inr (.inr ⟨hv,rfl,hl,rfl,okA h1,hb,by unfold gS;rw[if_neg hc,if_neg (by rw[h3,h4];simp)]⟩))
  ·exact .inr (.inr (.inl ⟨hv,rfl,hl,rfl,by unfold gS;rw[if_neg hc,if_pos (by rw[h4];simp)]⟩))
 ·exact .inr (.inl ⟨hv,rfl,hl,by unfold gS;rw[if_neg hc,if_pos (by rw[h3];simp)]⟩)
theorem tD(a b:Arr)(e:Bool)(h:(cM a b||cM b a)=e):CallA Tryz.prog 156 [aO a,aO b] [] (.one (.d (.bool e))) []:=by
 subst h;exact TX a b
theorem LQ(a b:Arr)(ha:OkA a.dims a.attrs a.cells)(hb:OkA b.dims b.attrs b.cells)(o:Option Arr)(e:Int)(h:fu a b=(o,e)):CallA Tryz.prog 157 [aO a,aO b,nT a.dims b.dims] [] (dE (o,e)) []:=by
 rw[← h];exact SR a b ha hb
theorem LR(a b:Arr)(ha:OkA a.dims a.attrs a.cells)(hb:OkA b.dims b.attrs b.cells)(e:Int)(h:fu a b=(none,e)):CallA Tryz.prog 157 [aO a,aO b,nT a.dims b.dims] [] (.tup [(true,[.d .nil,.d .nil,.d .nil]),(false,[.d (.int .i64 e)])]) []:=LQ a b ha hb none e h
theorem LS(a b:Arr)(ha:OkA a.dims a.attrs a.cells)(hb:OkA b.dims b.attrs b.cells)(x:Arr)(e:Int)(h:fu a b=(some x,e)):CallA Tryz.prog 157 [aO a,aO b,nT a.dims b.dims] [] (.tup [(true,[.d (ai x.dims),.d (ao x.attrs),.d (aC x.cells)]),(false,[.d (.int .i64 e)])]) []:=LQ a b ha hb (some x) e h
set_option maxHeartbeats 2000000 in
theorem c54(a b:Arr):CallA Tryz.prog 54 [aO a,aO b] [] (dE (jD a b)) []:=by
 unfold aO
 refine enter af Tryz.func54 rfl (by decide +kernel) rfl fun hok w0 σ0 φ0 M=>?_
 clear hok
 rcases FW a b with⟨hv,e⟩|⟨hv,hb1,hl,e⟩|⟨hv,hb1,hl,hb2,e⟩|⟨hv,hb1,hl,hb2,ha,hb,e⟩
 all_goals rw[e]
 ·repeat' (first|(refine h1H ?_;(refine h0H ?_;refine aT [3] J J J J J J J J J (c96 [a,b]) J ?_))|refine wG ?_)
  all_goals rfl
 ·repeat' (first|(refine h1H ?_;(refine h0H ?_;first|refine aT [3] J J J J J J J J J (c96 [a,b]) J ?_|refine aM 16 J J J J J J J J (sh a b (by assumption)) J J J ?_))|refine wG ?_)
  all_goals rfl
 ·repeat' (first|(refine h1H ?_;(refine h0H ?_;first|refine aT [3] J J J J J J J J J (c96 [a,b]) J ?_|refine ae J J J J J J J J (tD a b _ (by assumption)) J ?_|refine aM 16 J J J J J J J J (sh a b (by assumption)) J J J ?_))|refine wG ?_)
  all_goals rfl
 ·rcases hp:fu a b with⟨o,z⟩
  cases o with
  | none =>
    repeat' (first|(refine h1H ?_;(refine h0H ?_;first|refine aT [3] J J J J J J J J J (c96 [a,b]) J ?_|refine ae J J J J J J J J (tD a b _ (by assumption)) J ?_|refine ae J J J J J J J J (LR a b (by assumption) (by assumption) _ (by assumption)) J ?_|refine aM 16 J J J J J J J J (sh a b (by assumption)) J J J ?_))|refine wG ?_)
    all_goals rfl
  | some x =>
    repeat' (first|(refine h1H ?_;(refine h0H ?_;first|refine aT [3] J J J J J J J J J (c96 [a,b]) J ?_|refine ae J J J J J J J J (tD a b _ (by assumption)) J ?_|refine aM 16 J J J J J J J J (sh a b (by assumption)) J J J ?_|refine aM 16 J J J J J J J J (LS a b (by assumption) (by assumption) _ _ (by assumption)) J J J ?_))|refine wG ?_)
    all_goals rfl
set_option maxHeartbeats 2000000 in
theorem c56(a b:Arr):CallA Tryz.prog 56 [aO a,aO b] [] (dE (gS a b)) []:=by
 unfold aO
 refine enter af Tryz.func56 rfl (by decide +kernel) rfl fun hok w0 σ0 φ0 M=>?_
 clear hok
 rcases DF a b with⟨hv,e⟩|⟨hv,hb1,hl,e⟩|⟨hv,hb1,hl,hb2,e⟩|⟨hv,hb1,hl,hb2,ha,hb,e⟩
 all_goals rw[e]
 ·repeat' (first|(refine h1H ?_;(refine h0H ?_;refine aT [3] J J J J J J J J J (c96 [a,b]) J ?_))|refine wG ?_)
  all_goals rfl
 ·repeat' (first|(refine h1H ?_;(refine h0H ?_;first|refine aT [3] J J J J J J J J J (c96 [a,b]) J ?_|refine aM 16 J J J J J J J J (sh a b (by assumption)) J J J ?_))|refine wG ?_)
  all_goals rfl
 ·repeat' (first|(refine h1H ?_;(refine h0H ?_;first|refine aT [3] J J J J J J J J J (c96 [a,b]) J ?_|refine ae J J J J J J J J (tD a b _ (by assumption)) J ?_|refine aM 16 J J J J J J J J (sh a b (by assumption)) J J J ?_))|refine wG ?_)
  all_goals rfl
 ·rcases hp:fu a b with⟨o,z⟩
  cases o with
  | none =>
    repeat' (first|(refine h1H ?_;(refine h0H ?_;first|refine aT [3] J J J J J J J J J (c96 [a,b]) J ?_|refine ae J J J J J J J J (tD a b _ (by assumption)) J ?_|refine ae J J J J J J J J (LR a b (by assumption) (by assumption) _ (by assumption)) J ?_|refine aM 16 J J J J J J J J (sh a b (by assumption)) J J J ?_))|refine wG ?_)
    all_goals rfl
  | some x =>
    repeat' (first|(refine h1H ?_;(refine h0H ?_;first|refine aT [3] J J J J J J J J J (c96 [a,b]) J ?_|refine ae J J J J J J J J (tD a b _ (by assumption)) J ?_|refine aM 16 J J J J J J J J (sh a b (by assumption)) J J J ?_|refine aM 16 J J J J J J J J (LS a b (by assumption) (by assumption) _ _ (by assumption)) J J J ?_))|refine wG ?_)
    all_goals rfl
end Go.Proofs.YtpejdgkaapnekaaGreat
