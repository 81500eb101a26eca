import Derived.Laws.IdiomStrings
import Derived.WalkSpells
import Derived.Test.YtpejdgkaapnekaaGreatIP6
set_option linter.unusedVariables false
set_option linter.unusedSimpArgs false
set_option maxHeartbeats 1000000
namespace Go.Abs
open Go
variable {P:Program} {c:Ctx} {T:Tab} {σ:Sig} {φ:Pl} {sto:Sto} {w:World}
theorem Rel.dropTo{st:St}{a:Act}(hr:Rel c st a w σ φ){s':Sto}(h:∀ i e,look s' i=some e→look st.sto i=some e):Rel c ⟨st.fr,s'⟩ a w σ φ:=by
 have hE:Ext (fun _=>False) φ φ st.sto s':=by
  intro id _
  cases hl:look s' id with
  | none=>exact .inl rfl
  | some e=>exact .inr ⟨e,h _ _ hl,rfl,e,rfl,compat.refl e⟩
 refine⟨hr.le,hr.fresh,⟨hr.inv.sig,fun i e hi=>?_,fun i i' e e' p p' hi hi'=>hr.inv.inj _ _ _ _ _ _ (h _ _ hi) (h _ _ hi')⟩,
  fun i e p hi hp=>hr.mine _ _ _ (h _ _ hi) hp,fun s v hv=>?_,hr.defers,hr.size,hr.fra,hr.pin⟩
 ·exact (hr.inv.obj _ _ (h _ _ hi)).ext (X:=fun _=>False) (Sig.le_refl _) hE (fun j hj=>hj.elim) rfl fun _ _ _=>⟨rfl,rfl⟩
 ·obtain⟨u,hu,hru⟩:=hr.slot s v hv
  exact⟨u,hu,hru.ext (Sig.le_refl _) hE fun j hj=>hj.elim⟩
theorem Rel.alien{st:St}{a:Act}(hr:Rel c st a w σ φ)(o:Obj):Rel c st a (w.alloc o) σ φ:=by
 have hheap:∀ B,B<w.heap.size→(w.alloc o).heap[B]?=w.heap[B]?:=fun B hB=>RowKit.Below.heap_alloc w o B hB
 refine⟨hr.le,hr.fresh,⟨fun b cs hb=>?_,fun i e hi=>?_,hr.inv.inj⟩,hr.mine,hr.slot,hr.defers,hr.size,hr.fra.alloc _,hr.pin⟩
 ·obtain⟨t,f,hh⟩:=hr.inv.sig b cs hb
  exact⟨t,f,(hheap b (Hk.1 hh).1).trans hh⟩
 ·have ho:=hr.inv.obj i e hi
  exact ho.ext (X:=fun _=>False) (Sig.le_refl _) (Ext.refl _ _) (fun j hj=>hj.elim) rfl fun B cc hB=>⟨hheap B (ho.lt hB),rfl⟩
theorem Rel.anew{st:St}{a:Act}(hr:Rel c st a w σ φ)(mk:List Deferred)(rd:Option Nat):Rel ⟨w,σ,φ,MOf φ st.sto,c.n,rd,mk⟩ st { a with defers:=mk } w σ φ :=
 ⟨Sig.le_refl _,fun _ hb=>.inl hb,hr.inv,fun id e p hi hp=>.inr ⟨id,e,p,hi,hp,rfl⟩,hr.slot,rfl,hr.size,⟨rfl,rfl,rfl,Hb _,Hb _,fun _ _ _=>rfl⟩,fun _ _=>rfl⟩
theorem Rel.back{st st':St}{a a':Act}{w':World}{σ':Sig}{φ':Pl}{mk:List Deferred}{rd:Option Nat}(hr:Rel c st a w σ φ)(h:Rel ⟨w,σ,φ,MOf φ st.sto,c.n,rd,mk⟩ st' a' w' σ' φ'):Rel c st' { a' with defers:=c.mks } w' σ' φ':=by
 have hM:∀ {b:Nat},MOf φ st.sto b→c.w0.heap.size≤b∨c.M b:=by
  rintro b ⟨id,e,p,h1,h2,rfl⟩
  exact hr.mine _ _ _ h1 h2
 refine⟨Sig.le_trans hr.le h.le,fun b hb=>?_,h.inv,fun i e p hi hp=>?_,h.slot,rfl,h.size,⟨h.fra.os.trans hr.fra.os,h.fra.tape.trans hr.fra.tape,h.fra.output.trans hr.fra.output,Hf hr.fra.size h.fra.size,Hf hr.fra.drawn h.fra.drawn,fun b hb hn=>?_⟩,
  fun i hi=>(h.pin i hi).trans (hr.pin i hi)⟩
 ·rcases h.fresh b hb with h1|h1|h1
  ·exact hr.fresh b h1
  ·exact .inr (.inl (Hf hr.fra.size h1))
  ·exact .inr (hM h1)
 ·rcases h.mine _ _ _ hi hp with h1|h1
  ·exact .inl (Hf hr.fra.size h1)
  ·exact hM h1
 ·rw[h.fra.block b (Hw hb hr.fra.size) fun h1=>?_]
  ·exact hr.fra.block b hb hn
  ·rcases hM h1 with h2|h2
   ·omega
   ·exact hn h2
def iA{α:Type}(l:List (Nat×α))(i:Nat):Bool:=match look l i with|none=>true|some _=>false
theorem kY{α:Type}{l:List (Nat×α)}{i:Nat}(h:iA l i=true):look l i=none:=by
 unfold iA at h
 split at h
 ·assumption
 ·cases h
theorem sv{s s2:Sto}{i:Nat}(h:look s i=look s2 i):∀ {ρ:List (Nat×Nat)},look (ej ρ s) i=look (ej ρ s2) i
 | []=>h
 | (j,i0)::l=>by
   simp only[ej]
   by_cases e:i=i0
   ·subst e
    have none:∀ {x:Sto},look (del i x) i=none:=by
     intro x
     cases hl:look (del i x) i with
     | none=>rfl
     | some o=>exact absurd rfl (cG hl).1
    rw[none,none]
   ·rw[c7 e,c7 e]
    exact sv h
theorem sw{r:Nat→Nat}{s s2:Sto}{i:Nat}(h:look s i=look s2 i):∀ {rs:Sto},look (cL r s rs) i=look (cL r s2 rs) i
 | []=>h
 | (j,o)::l=>by
   simp only[cL,cn,look]
   rw[sw h (rs:=l)]
def kA(k:Nat)(ρ:List (Nat×Nat))(rs s:Sto):Sto:=cL (rn k ρ) (ej ρ s) rs
def uP(st:St)(idl:Nat)(li:LI)(fr:List (Nat×AV)):St:=⟨st.fr,(idl,.loop li fr .ready none)::st.sto⟩
def xX(c c1:Ctx):Prop:=c1.n=c.n∧c1.rd=none∧c1.mks≠[]∧∀ st a w σ φ,Rel c1 st a w σ φ→RelE c .ret st a w σ φ
theorem zC{g:Operand}{ps:Array Nat}{assign body:Code}{st:St}{f:FuncId}{caps:List D}{frC frR:List (Nat×AV)}{cs rs:Sto}{rav:AV}{liR:LI}{s':LoopState}{p':Option Code}(k idl:Nat)(ρ:List (Nat×Nat))
  (hrd:c.rd=none) (hmk:c.mks=[]) (hg:ev st g=some (.one (.d (.fn f caps))))
  (hC:CallA P f ((.one (.yl 1000000))::caps.map fun x=>.one (.d x)) ((1000000,.loop ⟨c.n,ps,assign,body⟩ frC .ready none)::cs) rav ((1000000,.loop liR frR s' p')::rs))
  (hfr:∀ s v,look (cV (rn k ((1000000,idl)::ρ)) frC) s=some v→look st.fr s=some v)
  (hpass:Pass (uP st idl ⟨c.n,ps,assign,body⟩ (cV (rn k ((1000000,idl)::ρ)) frC)) (rn k ((1000000,idl)::ρ)) ((1000000,idl)::ρ) cs)
  (hcomp:CompatL (uP st idl ⟨c.n,ps,assign,body⟩ (cV (rn k ((1000000,idl)::ρ)) frC)) (rn k ((1000000,idl)::ρ)) ((1000000,idl)::ρ) rs)
  (hk:(eA ((1000000,idl)::ρ)&&gr ((1000000,idl)::ρ)&&fo ((1000000,.loop ⟨c.n,ps,assign,body⟩ frC .ready none)::cs) ((1000000,idl)::ρ)&&fa ((1000000,idl)::ρ) &&
   bY ((1000000,idl)::ρ) ((1000000,.loop liR frR s' p')::rs)&&fp ((1000000,.loop ⟨c.n,ps,assign,body⟩ frC .ready none)::cs) ((.one (.yl 1000000))::caps.map fun x=>.one (.d x)) &&
   bg ((1000000,.loop ⟨c.n,ps,assign,body⟩ frC .ready none)::cs) ((1000000,.loop ⟨c.n,ps,assign,body⟩ frC .ready none)::cs)&&cE ((1000000,.loop liR frR s' p')::rs) rav &&
   bg ((1000000,.loop liR frR s' p')::rs) ((1000000,.loop liR frR s' p')::rs)&&Nat.ble (k+16) 1000000)=true)
  (hi:(Nat.blt idl k&&iA st.sto idl&&!aQ idl st.fr&&!aF idl st.sto&&Nat.ble (k+16) 1000000&&mq k (cV (rn k ((1000000,idl)::ρ)) frC)&&iA rs 1000000)=true) (hfresh:gK k st) (hs:s'≠.busy)
  (hp':p'=none∨p'=some .ret) :
  ∀ (a:Act) (w:World) (σ:Sig) (φ:Pl),Rel c st a w σ φ→(Code.rangeFunc g ps assign body).wpIn (fnc c) 0 P (fun e a' w' =>
    (p'=none∧e=.normal∧∃ c1 σ' φ',xX c c1∧Rel c1 ⟨st.fr,kA k ((1000000,idl)::ρ) rs st.sto⟩ a' w' σ' φ') ∨
    (p'=some .ret∧e=.ret∧∃ σ' φ',RelE c .ret ⟨st.fr,kA k ((1000000,idl)::ρ) rs st.sto⟩ a' w' σ' φ')) a w:=by
 intro a w σ φ hr
 refine wpIn_rangeFunc fun fn _=>?_
 simp only[GZ,Hd] at hi
 obtain⟨⟨⟨⟨⟨⟨hi1,hi2⟩,hi3⟩,hi4⟩,hi5⟩,hi6⟩,hi7⟩:=hi
 have hik:idl<k:=G5 hi1
 have hk16:k+16≤1000000:=G5 hi5
 have hin:look st.sto idl=none:=kY hi2
 -- the record, and the block for the calls that rounds defer
 let L:Loop:={ state:=.ready,pending:=none,fn,tmps:=a.tmps,params:=ps,assign,body,defers:=w.heap.size }
 have hr1:=hr.alien (.deferred (some []))
 have hsz1:(w.alloc (.deferred (some []))).heap.size=w.heap.size+1:=World.size_alloc _ _
 let li:LI:=⟨c.n,ps,assign,body⟩
 let ρ1:=(1000000,idl)::ρ
 let frL:=cV (rn k ρ1) frC
 let w1:=(w.alloc (.deferred (some []))).alloc (.loop L)
 let l:=(w.alloc (.deferred (some []))).heap.size
 let φ1:=bo φ idl (some (l,0))
 let st1:St:=uP st idl li frL
 have hE1:Ext (·=idl) φ φ1 st.sto st1.sto:=Ext.add
 have hobj:ObjRep σ φ1 st1.sto w1 idl (.loop li frL .ready none) :=
  ⟨_,0,L,ai,bO _ _,⟨rfl,rfl,rfl,rfl,rfl,hr.size⟩,fun s v hv=>by
   have h0:=hfr s v hv
   obtain⟨u,hu,hru⟩:=hr.slot s v h0
   exact⟨u,hu,hru.ext (Sig.le_refl _) hE1 fun j hj=>by cases hj;exact ch hi3 h0⟩,fu hr1.inv⟩
 have hr2:Rel c st1 a w1 σ φ1:=by
  refine⟨hr.le,hr.fresh,hr1.inv.add hi4 hobj,fun i e p hi' hp=>?_,fun s v hv=>?_,hr.defers,hr.size,(hr.fra.alloc _).alloc _,fun i hi'=>?_⟩
  ·rcases ab hi' with⟨rfl,rfl⟩|⟨hne,hi'⟩
   ·have hp':bo φ i (some (l,0)) i=some p:=hp
    rw[ai] at hp';cases hp'
    left
    have:=hr.fra.size
    show c.w0.heap.size≤(w.alloc (.deferred (some []))).heap.size
    rw[hsz1];omega
   ·have hp':bo φ idl (some (l,0)) i=some p:=hp
    rw[au hne] at hp';exact hr.mine _ _ _ hi' hp'
  ·obtain⟨u,hu,hru⟩:=hr.slot s v hv
   exact⟨u,hu,hru.ext (Sig.le_refl _) hE1 fun j hj=>by cases hj;exact ch hi3 hv⟩
  ·have:i≠idl:=by omega
   show bo φ idl _ i=_
   rw[au this];exact hr.pin i hi'
 have hfresh1:gK k st1:=by
  intro i h1 h2
  obtain⟨f1,f2,f3⟩:=hfresh i h1 h2
  refine⟨by show look ((idl,_)::st.sto) i=none;rw[ax (by omega)];exact f1,f2,?_⟩
  show aF i ((idl,AObj.loop li frL .ready none)::st.sto)=false
  simp only[aF,f3,Bool.or_false]
  exact kB h1 h2 hi6
 have hr3:=hr2.anew [iX w.heap.size] none
 -- the function's value
 have hgr:=ak hr2 (x:=g) (v:=.one (.d (.fn f caps))) (by
  have:ev st1 g=ev st g:=by cases g<;>rfl
  rw[this];exact hg)
 replace hgr:=RepC.d_inv hgr
 generalize hge:a.eval g=gv at hgr
 cases hgr with
 | fn cvs hl hcs =>
 have hCf:=hC
 obtain⟨fnc',hfn1,hfn2,hfn3⟩:=hCf.fn
 have hfn3':fnc'.body.isNone=false:=by cases hb:fnc'.body<;>simp_all
 have hcaps:All2 (RepV σ φ1 st1.sto) (caps.map fun x=>.one (.d x)) cvs:=by
  refine All2.of_get (by simp[hl]) fun j x v hx hv=>?_
  simp only[HP,Option.map_eq_some_iff] at hx
  obtain⟨d,hd,rfl⟩:=hx
  exact RepC.d (hcs j d v hd hv)
 have hkk:=hk
 have hk':=hkk
 simp only[GZ,Nat.ble_eq] at hk'
 obtain⟨⟨⟨⟨⟨⟨⟨⟨⟨hbig,hinj⟩,hall⟩,hnd⟩,hko⟩,hai⟩,hci⟩,hri⟩,hrs⟩,hkl⟩:=hk'
 have hj0:look ρ1 1000000=some idl:=ao
 have hidl:rn k ρ1 1000000=idl:=eL hbig hj0
 have hyl:RepV σ φ1 st1.sto (.one (.yl idl)) (.func (.yield l) #[] #[]):=RepC.yl (cap:=0) (ao:look st1.sto idl=_) ai
 have hargs:All2 (RepV σ φ1 st1.sto) (cC (rn k ρ1) ((.one (.yl 1000000))::caps.map fun x=>.one (.d x))) (.func (.yield l) #[] #[]::cvs):=by
  refine⟨?_,by rw[kj];exact hcaps⟩
  show RepV σ φ1 st1.sto (.one (.yl (rn k ρ1 1000000))) _
  rw[hidl];exact hyl
 have hpass1:Pass st1 (rn k ρ1) ρ1 ((1000000,.loop li frC .ready none)::cs):=⟨⟨idl,hj0,ao⟩,hpass⟩
 have hcomp1:CompatL st1 (rn k ρ1) ρ1 ((1000000,.loop liR frR s' p')::rs):=⟨fun i e h1 h2=>by
  rw[hj0] at h1;cases h1
  rw[show look st1.sto idl=_ from ao] at h2;cases h2
  exact trivial,hcomp⟩
 have hround:(fnc c).round=none:=hrd
 refine⟨l,[iX w.heap.size],w1,{ target:=.fn (.func f) cvs.toArray,args:=#[.func (.yield l) #[] #[]] },w1,f,(Value.func (.yield l) #[] #[]::cvs).toArray,w1,?_,?_,fun f' _=>fj c f',?_,fun h=>by simp[fnc,Fence.wide] at h,?_⟩
 ·rw[hround]
  simp[Instr.enterLoop,newObj,Sem.run,iX,w1,l,L]
 ·simp only[resolve,rangeCall,hge,Deferred.ofValue,Hr]
  simp[Act.eval]
 ·simp only[invoke,callFunc,Hj]
  simp only[show (program).run P w1=.ok P w1 from rfl,Ha,hfn1,hfn2,hfn3',HA,if_false,Hr]
  simp
 refine (oK (c:=c) (n:=0-1) (hCf.run w1 σ (phC φ1 ρ1) _ (ud hbig hinj hpass1 hci hr3.inv) (unL hbig hpass1 hai hargs))).mono ?_
 rintro e w' ⟨v,σ',φ',rfl,hret'⟩
 obtain⟨σ2,φ2,hr4,hφ2⟩:=qW (o:={ (default:Oper) with dst:=none }) k ρ1 hr3 rfl hpass1 hcomp1 hkk hfresh1 hret'
 have hp2:φ2 idl=some (l,0):=by
  rw[← hidl,hφ2 1000000 _ ao,hret'.pin 1000000 ⟨Hb _,by omega⟩,dE hj0]
  exact ai
 have hl2:look (cL (rn k ρ1) (ej ρ1 st1.sto) ((1000000,.loop liR frR s' p')::rs)) idl=some (.loop liR (cV (rn k ρ1) frR) s' p'):=by
  simp only[cL,cn,hidl]
  exact ao
 obtain⟨r',hh',hr'1,hr'2,_⟩:=oZ hr4 hl2 hp2
 obtain⟨σ3,φ3,hr5⟩:=hr4.mark hl2 hp2 hh' .exhausted p' { r' with state:=.exhausted } (by rw[← hr'2])
 have hr6:=hr5.dropTo (s':=kA k ρ1 rs st.sto) (by
  intro i e hie
  have hne:i≠idl:=by
   rintro rfl
   rcases nB hie with⟨j,o,h1,h2,_⟩|⟨_,h2⟩
   ·rcases eQ hko (j:=j) (o:=o) (by
     by_cases e:j=1000000
     ·subst e;rw[kY hi7] at h2;cases h2
     ·rw[ax e];exact h2) with h3|⟨i',h3⟩
    ·rw[fM h3] at h1;omega
    ·rw[eL hbig h3] at h1
     subst h1
     have:=nA hinj h3 hj0
     subst this
     rw[kY hi7] at h2;cases h2
   ·exact absurd rfl (cG h2).1
  rw[cn,ax hne]
  simp only[cL,cn,hidl]
  rw[ax hne]
  refine (sw ?_).trans hie
  exact sv (ax hne))
 have hbusy:(r'.state==.busy)=false:=by
  rw[hr'1]
  cases s'<;>first|rfl|exact absurd rfl hs
 have hend:(Instr.endLoop l).run P w'=.ok p' { w' with heap:=w'.heap.setIfInBounds l (.loop { r' with state:=.exhausted }) }:=by
  simp only[Instr.endLoop,Hj,iD hh',Ha,hbusy,HA,if_false,kI hh',Hr,hr'2]
 have hmkeq:({ a with defers:=[iX w.heap.size]++a.defers }:Act)={ a with defers:=[iX w.heap.size] }:=by
  rw[hr.defers,hmk];rfl
 have hgood:∀ {st':St} {a':Act} {w4:World} {σ4:Sig} {φ4:Pl},Rel ⟨w1,σ,φ1,MOf φ1 st1.sto,c.n,none,[iX w.heap.size]⟩ st' a' w4 σ4 φ4→RelE c .ret st' a' w4 σ4 φ4:=by
  intro st' a' w4 σ4 φ4 h4
  refine .inr ⟨rfl,w.heap.size,h4.defers,?_,hr.fra.size,?_⟩
  ·have hlt:w.heap.size<w1.heap.size:=by
    show _<((w.alloc (.deferred (some []))).alloc (.loop L)).heap.size
    rw[World.size_alloc,World.size_alloc];omega
   rw[h4.fra.block w.heap.size hlt fun hM=>?_]
   ·show ((w.alloc (.deferred (some []))).alloc (.loop L)).heap[w.heap.size]?=_
    rw[RowKit.Below.heap_alloc _ _ _ (by rw[hsz1];omega)]
    exact bO _ _
   ·obtain⟨id,e,p,h1,h2,h3⟩:=hM
    rcases ab h1 with⟨rfl,rfl⟩|⟨hne,h1⟩
    ·have h2':bo φ id (some (l,0)) id=some p:=h2
     rw[ai] at h2';cases h2'
     have:l=w.heap.size+1:=hsz1
     simp only at h3;omega
    ·have h2':bo φ idl (some (l,0)) id=some p:=h2
     rw[au hne] at h2'
     have:=(hr.inv.obj _ _ h1).lt h2'
     omega
  ·have:=hr2.back h4
   rwa [hmk] at this
 refine⟨p',_,hend,?_⟩
 rw[hmkeq]
 have hG:xX c ⟨w1,σ,φ1,MOf φ1 st1.sto,c.n,none,[iX w.heap.size]⟩:=⟨rfl,rfl,by simp,fun _ _ _ _ _ h=>hgood h⟩
 rcases hp' with rfl|rfl
 ·exact .inl ⟨rfl,rfl,_,_,_,hG,hr6⟩
 ·exact wpIn_ret (.inr ⟨rfl,rfl,_,_,hgood hr6⟩)
end Go.Abs
namespace Go.Abs
open Go
variable {P:Program} {c:Ctx} {T:Tab} {σ:Sig} {φ:Pl} {w:World}
def xN(op:BinOp):Option AV→Option AV→Option D
 | some (.one (.d (.int k x))),some (.one (.d (.int k' y)))=>match op with
   | .quo=>bif kEq k k'&&!decide (y=0) then some (.int k (k.wrap (x.tdiv y))) else none
   | .rem=>bif kEq k k'&&!decide (y=0) then some (.int k (x.tmod y)) else none
   | .shl=>bif !decide (y<0) then some (.int k (k.wrap (x*2^(min y.toNat k.bits)))) else none
   | .shr=>bif !decide (y<0) then some (.int k (x.fdiv (2^(min y.toNat k.bits)))) else none
   | _=>none
 | _,_=>none
theorem gN{x y:Int}(hx:0≤x)(hy:0<y):x % y≤x:=by
 have h1:=Int.mul_ediv_add_emod x y
 have h2:=Int.mul_nonneg (show 0≤y by omega) (Int.ediv_nonneg hx (show 0≤y by omega))
 omega
theorem AR{k:IntKind}{x y:Int}(h:inR k x):inR k (x.tmod y):=by
 unfold inR at *
 have hmin:k.min≤0:=by unfold IntKind.min;cases k<;>simp[IntKind.signed,IntKind.bits]
 have hmax:0≤k.max:=by unfold IntKind.max;cases k<;>simp[IntKind.signed,IntKind.bits]
 rcases Int.le_total 0 x with h0|h0
 ·have h1:=Int.tmod_nonneg y h0
  have h2:x.tmod y≤x:=by
   rw[Int.tmod_eq_emod_of_nonneg h0]
   rcases Int.lt_trichotomy y 0 with hy|hy|hy
   ·have:=Int.emod_nonneg x (show y≠0 by omega)
    rw[← Int.emod_neg]
    exact gN h0 (by omega)
   ·subst hy;simp
   ·exact gN h0 hy
  omega
 ·obtain⟨z,rfl⟩:∃ z,x=-z:=⟨-x,by omega⟩
  rw[Int.neg_tmod]
  have h1:=Int.tmod_nonneg y (show 0≤z by omega)
  have h2:z.tmod y≤z:=by
   rw[Int.tmod_eq_emod_of_nonneg (by omega)]
   rcases Int.lt_trichotomy y 0 with hy|hy|hy
   ·rw[← Int.emod_neg]
    exact gN (by omega) (by omega)
   ·subst hy;simp
   ·exact gN (by omega) hy
  omega
theorem AS{k:IntKind}{x:Int}{n:Nat}(h:inR k x):inR k (x.fdiv (2^n)):=by
 unfold inR at *
 have hmin:k.min≤0:=by unfold IntKind.min;cases k<;>simp[IntKind.signed,IntKind.bits]
 have hmax:0≤k.max:=by unfold IntKind.max;cases k<;>simp[IntKind.signed,IntKind.bits]
 have hp:(0:Int)<2^n:=Int.pow_pos (by omega)
 rw[Int.fdiv_eq_ediv_of_nonneg _ (by omega)]
 rcases Int.le_total 0 x with h0|h0
 ·have h1:=Int.ediv_nonneg h0 (show (0:Int)≤2^n by omega)
  have h2:=Int.ediv_le_self (2^n) h0
  omega
 ·have h1:x≤x / 2^n:=by
   rw[Int.le_ediv_iff_mul_le hp]
   have:x*2^n≤x*1:=Int.mul_le_mul_of_nonpos_left h0 (by omega)
   omega
  have h2:x / 2^n≤0:=by
   have:x / 2^n<1:=by rw[Int.ediv_lt_iff_lt_mul hp];omega
   omega
  omega
theorem zq{ops:Array Oper}{o:Oper}{rest:List Oper}{st:St}{K:St→Prop}{op:BinOp}{t ty:TypeId}{x y:Operand}{d:D}
  (ho:o.op=.binOp op t x y ty) (hg:o.guard=none) (hd:aw c.n o.dst=true) (hv:xN op (ev st x) (ev st y)=some d)
  (h:aa P c ops rest ⟨aU o.dst (.one (.d d)) st.fr,st.sto⟩ K):aa P c ops (o::rest) st K :=
 aJ hg fun a w σ φ hr=>by
  unfold xN at hv
  split at hv<;>(try (simp at hv;done))
  rename_i k x' k' y' hx hy
  have h1:=RepC.d_inv (ak hr hx)
  have h2:=RepC.d_inv (ak hr hy)
  generalize hux:a.eval x=ux at h1
  generalize huy:a.eval y=uy at h2
  cases h1 with|int h1=>cases h2 with|int h2 =>
  split at hv
  ·cases hb:kEq k k'&&!decide (y'=0)<;>simp only[hb,HW,HV,reduceCtorEq,G4] at hv
   simp only[GZ,Hd,HY] at hb
   obtain rfl:=dM hb.1
   subst hv
   refine⟨_,w,_,σ,φ,?_,hr.put (v:=.one (.d (.int k (k.wrap (x'.tdiv y'))))) hd (RepC.d (.int (gS _ _))),h⟩
   simp[execOp,ho,hux,huy,bk,binOp,Op.intDiv,hb.2]
  ·cases hb:kEq k k'&&!decide (y'=0)<;>simp only[hb,HW,HV,reduceCtorEq,G4] at hv
   simp only[GZ,Hd,HY] at hb
   obtain rfl:=dM hb.1
   subst hv
   refine⟨_,w,_,σ,φ,?_,hr.put (v:=.one (.d (.int k (x'.tmod y')))) hd (RepC.d (.int (AR h1))),h⟩
   simp[execOp,ho,hux,huy,bk,binOp,Op.intDiv,hb.2]
  ·cases hb:!decide (y'<0)<;>simp only[hb,HW,HV,reduceCtorEq,G4] at hv
   simp only[Hd,HY] at hb
   subst hv
   refine⟨_,w,_,σ,φ,?_,hr.put (v:=.one (.d (.int k (k.wrap (x'*2^(min y'.toNat k.bits)))))) hd (RepC.d (.int (gS _ _))),h⟩
   simp[execOp,ho,hux,huy,bk,binOp,Op.shift,hb]
  ·cases hb:!decide (y'<0)<;>simp only[hb,HW,HV,reduceCtorEq,G4] at hv
   simp only[Hd,HY] at hb
   subst hv
   refine⟨_,w,_,σ,φ,?_,hr.put (v:=.one (.d (.int k (x'.fdiv (2^(min y'.toNat k.bits)))))) hd (RepC.d (.int (AS h1))),h⟩
   simp[execOp,ho,hux,huy,bk,binOp,Op.shift,hb]
  ·simp at hv
def lC(s:List UInt8):D:=.sl 1 1 (s.map fun b=>[.int .u8 (b.toNat:Int)])
theorem Rel.sealNew{st:St}{a:Act}(hr:Rel c st a w σ φ)(arr:Array Value)(t:TypeId)(f:Nat×Nat) :
  Rel c st a (w.alloc (.cells arr t f)) (cU σ w.heap.size arr) φ∧σ.le (cU σ w.heap.size arr):=by
 have hle:σ.le (cU σ w.heap.size arr):=fZ (.inl (fu hr.inv))
 have hheap:∀ B,B<w.heap.size→(w.alloc (.cells arr t f)).heap[B]?=w.heap[B]?:=fun B hB=>RowKit.Below.heap_alloc w _ B hB
 refine⟨⟨Sig.le_trans hr.le hle,fun b hb=>?_,⟨fun b cs hb=>?_,fun i e hi=>?_,hr.inv.inj⟩,hr.mine,fun s v hv=>?_,hr.defers,hr.size,hr.fra.alloc _,hr.pin⟩,hle⟩
 ·by_cases e:b=w.heap.size
  ·subst e;exact .inr (.inl hr.fra.size)
  ·simp[cU,e] at hb;exact hr.fresh b hb
 ·by_cases e:b=w.heap.size
  ·subst e
   simp only[cU,if_true,G4] at hb
   subst hb
   exact⟨t,f,bO w _⟩
  ·simp only[cU,e,if_false] at hb
   obtain⟨t',f',hh⟩:=hr.inv.sig b cs hb
   exact⟨t',f',(hheap b (Hk.1 hh).1).trans hh⟩
 ·have ho:=hr.inv.obj i e hi
  refine ho.ext (X:=fun _=>False) hle (Ext.refl _ _) (fun j hj=>hj.elim) rfl fun B cc hB=>⟨hheap B (ho.lt hB),?_⟩
  have:B≠w.heap.size:=by have:=ho.lt hB;simp only at this;omega
  simp[cU,this]
 ·obtain⟨u,hu,hru⟩:=hr.slot s v hv
  exact⟨u,hu,hru.ext hle (Ext.refl _ _) fun j hj=>hj.elim⟩
def fl(T:Tab)(t:TypeId):Bool:=match look T t with|some ⟨.slice e,_,_,_⟩=>(match look T e with|some ⟨.int k,_,_,_⟩=>kEq k .u8|_=>false)|_=>false
theorem oD(hT:aD P T){ops:Array Oper}{o:Oper}{rest:List Oper}{st:St}{K:St→Prop}{src dst:TypeId}{x:Operand}{s:List UInt8}
  (ho:o.op=.convert src dst x) (hg:o.guard=none) (hd:aw c.n o.dst=true) (ht:(dD T src&&fl T dst)=true) (hx:ev st x=some (.one (.d (.str s)))) (hl:s.length≤2^47)
  (h:aa P c ops rest ⟨aU o.dst (.one (.d (lC s))) st.fr,st.sto⟩ K):aa P c ops (o::rest) st K :=
 aJ hg fun a w σ φ hr=>by
  rw[GZ] at ht
  have hsrc:=kr hT ht.1
  have ht2:=ht.2
  unfold fl at ht2
  split at ht2<;>(try (simp at ht2;done))
  rename_i e sz b z hlk
  split at ht2<;>(try (simp at ht2;done))
  rename_i k sz2 b2 z2 hlk2
  obtain rfl:=dM ht2
  obtain⟨_,u,_,_,hu,_,_,_,hk,_⟩:=(hT dst _ hlk).ex
  obtain⟨_,u2,_,_,hu2,_,_,_,hk2,_⟩:=(hT e _ hlk2).ex
  simp only[cX] at hk hk2
  subst hk hk2
  obtain⟨hxe,h48⟩:=nt hr hx
  have hrun:=run_bytes_of_string (P:=P) w src dst e ⟨s.toArray⟩ hsrc hu hu2
  have hsize:(⟨s.toArray⟩:ByteArray).size=s.length:=by simp[ByteArray.size]
  rw[hsize] at hrun
  have hcap:=grownCap_ge w s.length 0 e
  obtain⟨h1,hle⟩:=(hr.drew (w.drawn+1) (Nat.le_succ _)).sealNew (bytesRow ⟨s.toArray⟩ (grownCap w s.length 0 e)) e ((bytesRow ⟨s.toArray⟩ (grownCap w s.length 0 e)).size,(bytesRow ⟨s.toArray⟩ (grownCap w s.length 0 e)).size+1)
  let arr:=bytesRow ⟨s.toArray⟩ (grownCap w s.length 0 e)
  have hrep:Rep (cU σ w.heap.size arr) (lC s) (.slice (some ⟨w.heap.size,0,none⟩) s.length (grownCap w s.length 0 e)):=by
   have hln:(s.map fun b=>[D.int .u8 (b.toNat:Int)]).length=s.length:=by simp
   have:=Rep.sl (σ:=cU σ w.heap.size arr) (k:=1) (b:=1) (xs:=s.map fun b=>[D.int .u8 (b.toNat:Int)]) (A:=some ⟨w.heap.size,0,none⟩) (cap:=grownCap w s.length 0 e)
    (fun i j=>.int .u8 ((s.getD i 0).toNat:Int)) (by rw[hln];exact hcap) (by rw[hln];exact h48) (by rw[hln];omega) (by intro x hx;simp only[Hh] at hx;obtain⟨b,_,rfl⟩:=hx;rfl)
    (fun h0=>⟨w.heap.size,0,arr,rfl,by simp[cU],fun i j hi hj=>by
     rw[hln] at hi
     obtain rfl:j=0:=by omega
     have:arr=(s.map fun b=>Value.int .u8 (b.toNat:Int)).toArray++Array.replicate (grownCap w s.length 0 e-s.length) (.int .u8 0):=by
      show bytesRow _ _=_
      unfold bytesRow
      rw[hsize]
      simp
     rw[this]
     simp only[Hn,Nat.mul_one,Nat.add_zero]
     rw[Array.getElem?_append_left (by simpa using hi)]
     simp[List.getD,hi]⟩)
    (fun i j x d hx hd=>by
     simp only[HP,Option.map_eq_some_iff] at hx
     obtain⟨b,hb,rfl⟩:=hx
     match j,hd with
     | 0,hd =>
       simp at hd;subst hd
       have:s.getD i 0=b:=by simp[List.getD,hb]
       rw[this]
       refine .int ⟨?_,?_⟩
       ·simp[IntKind.min,IntKind.signed,IntKind.bits]
       ·have:=b.toNat_lt
        simp[IntKind.max,IntKind.signed,IntKind.bits];omega
     | _+1,hd=>simp at hd)
   rw[hln] at this
   exact this
  exact⟨_,_,⟨aU o.dst (.one (.d (lC s))) st.fr,st.sto⟩,_,φ,by simp[execOp,ho,hxe,hrun],h1.put (v:=.one (.d (lC s))) hd (RepC.d hrep),h⟩
theorem qo{ops:Array Oper}{o:Oper}{rest:List Oper}{st ss:St}{K:St→Prop}{f:FuncId}{caps:Array Operand}{avs:List AV}{ds:List D}(dl:List Nat)
  (ho:o.op=.makeFunc (.func f) #[] caps) (hg:o.guard=none) (hd:aw c.n o.dst=true) (hss:sealL st dl=some ss) (ha:evL ss caps.toList=some avs) (hds:gO avs=some ds)
  (h:aa P c ops rest ⟨aU o.dst (.one (.d (.fn f ds))) st.fr,cT dl st.sto⟩ K):aa P c ops (o::rest) st K :=
 aJ hg fun a w σ φ hr=>by
  obtain⟨σs,hs,hr1⟩:=hr.given hss
  have h1:=kz hds (gg hs ha)
  refine⟨.func (.func f) #[] (caps.toList.map a.eval).toArray,w,⟨aU o.dst (.one (.d (.fn f ds))) st.fr,cT dl st.sto⟩,σs,φ,?_,hr1.put (v:=.one (.d (.fn f ds))) hd (RepC.d (.fn _ h1.length.symm fun j d v hd hv=>?_)),h⟩
  ·have e:(caps.toList.map a.eval).toArray=caps.map a.eval:=by rw[← Array.toList_map,Array.toArray_toList]
   rw[e]
   simp[execOp,ho,Instr.makeFunc]
  ·obtain⟨u,hu,hru⟩:=h1.get hd
   rw[hv] at hu;cases hu;exact hru
def bU(i:Nat):List Nat→Bool
 | []=>false
 | j::r=>Nat.beq j i||bU i r
theorem memL_iff{i:Nat}:∀ {l:List Nat},bU i l=true↔i∈l
 | []=>by simp[bU]
 | j::r=>by
   simp only[bU,Hq,memL_iff (l:=r),Hm]
   exact or_congr_left ⟨fun h=>(G3 h).symm,fun h=>by rw[h];exact HH _⟩
def ck(s:Sto):List Nat→List Nat→List Nat
 | [],acc=>acc
 | i::r,acc=>bif bU i acc||!aZ s i then ck s r acc else ck s r (acc++[i])
theorem iH{s s2:Sto}:∀ {l acc:List Nat},(∀ i∈l,look s2 i=look s i)→ck s2 l acc=ck s l acc
 | [],_,_=>rfl
 | i::r,acc,h=>by
   have h1:aZ s2 i=aZ s i:=by simp[aZ,h i Hc]
   simp only[ck,h1]
   rw[iH fun j hj=>h j (G9 _ hj),iH fun j hj=>h j (G9 _ hj)]
theorem jr{s:Sto}{i:Nat}:∀ {l acc:List Nat},i∈ck s l acc→i∈l∨i∈acc
 | [],_,h=>.inr h
 | j::r,acc,h=>by
   simp only[ck] at h
   cases hb:bU j acc||!aZ s j with
   | true =>
     simp only[hb,HW] at h
     rcases jr h with h|h
     ·exact .inl (by simp[h])
     ·exact .inr h
   | false =>
     simp only[hb,HV] at h
     rcases jr h with h|h
     ·exact .inl (by simp[h])
     ·simp at h
      rcases h with h|h
      ·exact .inr h
      ·exact .inl (by simp[h])
def pq(sto:Sto):Option AV→Option Bool
 | some (.one (.d .nil))=>some true
 | some (.one (.d (.sl _ _ (_::_))))=>some false
 | some (.one (.own id _))=>match look sto id with|some (.row _ _ (_::_))=>some false|_=>none
 | _=>none
def lE:Option AV→Bool
 | some (.one (.d .nil))=>true
 | _=>false
def iy(T:Tab)(t:TypeId):Bool:=match look T t with|some ⟨.slice _,_,_,_⟩=>true|_=>false
theorem oF(hT:aD P T){t:TypeId}(h:iy T t=true):∃ e,P.underlying t=some (.slice e):=by
 unfold iy at h
 split at h
 ·rename_i e sz b z hl
  obtain⟨_,u,_,_,hu,_,_,_,hk,_⟩:=(hT t _ hl).ex
  simp only[cX] at hk
  exact⟨e,by rw[hu,hk]⟩
 ·cases h
theorem AT{st:St}{a:Act}(hr:Rel c st a w σ φ){x:Operand}{b:Bool}(h:pq st.sto (ev st x)=some b):∃ A n cap,a.eval x=.slice A n cap∧A.isNone=b:=by
 unfold pq at h
 split at h
 ·rename_i hx
  simp only[G4] at h;subst h
  have h1:=RepC.d_inv (ak hr hx)
  generalize a.eval x=u at h1
  cases h1
  exact⟨none,0,0,rfl,rfl⟩
 ·rename_i k bb y ys hx
  simp only[G4] at h;subst h
  have h1:=RepC.d_inv (ak hr hx)
  generalize a.eval x=u at h1
  cases h1 with
  | sl vs hc h48 hb hk hA hh =>
    obtain⟨B,o,cells,rfl,_⟩:=hA (by simp)
    exact⟨_,_,_,rfl,rfl⟩
 ·rename_i id n hx
  split at h<;>simp at h
  rename_i k bb y ys hl
  subst h
  have h1:RepC σ φ st.sto (.own id n) (a.eval x):=ak hr hx
  generalize a.eval x=u at h1
  cases h1 with
  | dead hxx _=>simp[bm,bn hl] at hxx
  | own hl' hn hp=>exact⟨_,_,_,rfl,rfl⟩
  | ownNil hl' hp =>
    rw[hl] at hl';cases hl'
    rcases hr.inv.obj _ _ hl with⟨h2,_⟩|⟨B,cap,arr,t,vs,h2,_⟩
    ·cases h2
    ·rw[hp] at h2;cases h2
 ·simp at h
theorem vh(hT:aD P T){ops:Array Oper}{o:Oper}{rest:List Oper}{st:St}{K:St→Prop}{op:BinOp}{t ty:TypeId}{x y:Operand}{b e:Bool}
  (ho:o.op=.binOp op t x y ty) (hop:gA op=some e) (hg:o.guard=none) (hd:aw c.n o.dst=true) (ht:(iy T t&&lE (ev st y))=true) (hv:pq st.sto (ev st x)=some b)
  (h:aa P c ops rest ⟨aU o.dst (.one (.d (.bool (b==e)))) st.fr,st.sto⟩ K):aa P c ops (o::rest) st K :=
 aJ hg fun a w σ φ hr=>by
  rw[GZ] at ht
  obtain⟨el,hu⟩:=oF hT ht.1
  obtain⟨A,n,cap,hx,hA⟩:=AT hr hv
  have hy:a.eval y=.slice none 0 0:=by
   have h2:=ht.2
   unfold lE at h2
   split at h2
   ·rename_i hy
    have h1:=RepC.d_inv (ak hr hy)
    generalize a.eval y=u at h1
    cases h1;rfl
   ·cases h2
  refine⟨.bool (b==e),w,_,σ,φ,?_,hr.put (v:=.one (.d (.bool (b==e)))) hd (RepC.d .bool),h⟩
  cases op<;>simp only[gA,G4,reduceCtorEq] at hop<;>subst hop
  ·simp[execOp,ho,hx,hy,bk,Lib.run_eql_slice_nil _ _ _ _ _ _ _ _ hu,hA]
  ·simp[execOp,ho,hx,hy,bk,run_neq_slice_nil_any _ _ _ _ _ _ _ _ hu,hA]
def pt(sto:Sto):Option AV→Option Bool
 | some (.one (.d (.raw (.pointer none))))=>some true
 | some (.one (.d (.ptr _)))=>some false
 | some (.one (.ref id _))=>bif aZ sto id then some false else none
 | some (.one (.rref id _ _))=>bif aZ sto id then some false else none
 | _=>none
def nW:Option AV→Bool
 | some (.one (.d (.raw (.pointer none))))=>true
 | _=>false
def qp(T:Tab)(t:TypeId):Bool:=match look T t with|some ⟨.ptr,_,_,_⟩=>true|_=>false
theorem AU{st:St}{a:Act}(hr:Rel c st a w σ φ){x:Operand}{b:Bool}(h:pt st.sto (ev st x)=some b):∃ p,a.eval x=.pointer p∧p.isNone=b:=by
 unfold pt at h
 split at h
 ·rename_i hx
  simp only[G4] at h;subst h
  have h1:=RepC.d_inv (ak hr hx)
  generalize a.eval x=u at h1
  cases h1
  exact⟨none,rfl,rfl⟩
 ·rename_i cs hx
  simp only[G4] at h;subst h
  have h1:=RepC.d_inv (ak hr hx)
  generalize a.eval x=u at h1
  cases h1
  exact⟨_,rfl,rfl⟩
 ·rename_i id off hx
  cases hk:aZ st.sto id<;>simp only[hk,HW,HV,reduceCtorEq,G4] at h
  subst h
  have h1:RepC σ φ st.sto (.ref id off) (a.eval x):=ak hr hx
  generalize a.eval x=u at h1
  cases h1 with
  | dead hxx _=>simp only[bm] at hxx;rw[hk] at hxx;cases hxx
  | ref hl hp=>exact⟨_,rfl,rfl⟩
 ·rename_i id i off hx
  cases hk:aZ st.sto id<;>simp only[hk,HW,HV,reduceCtorEq,G4] at h
  subst h
  have h1:RepC σ φ st.sto (.rref id i off) (a.eval x):=ak hr hx
  generalize a.eval x=u at h1
  cases h1 with
  | dead hxx _=>simp only[bm] at hxx;rw[hk] at hxx;cases hxx
  | rref hl hp=>exact⟨_,rfl,rfl⟩
 ·simp at h
theorem uv(hT:aD P T){ops:Array Oper}{o:Oper}{rest:List Oper}{st:St}{K:St→Prop}{op:BinOp}{t ty:TypeId}{x y:Operand}{b e:Bool}
  (ho:o.op=.binOp op t x y ty) (hop:gA op=some e) (hg:o.guard=none) (hd:aw c.n o.dst=true) (ht:(qp T t&&nW (ev st y))=true) (hv:pt st.sto (ev st x)=some b)
  (h:aa P c ops rest ⟨aU o.dst (.one (.d (.bool (b==e)))) st.fr,st.sto⟩ K):aa P c ops (o::rest) st K :=
 aJ hg fun a w σ φ hr=>by
  rw[GZ] at ht
  have hu:∃ el,P.underlying t=some (.pointer el):=by
   have h1:=ht.1
   unfold qp at h1
   split at h1
   ·rename_i sz b z hl
    obtain⟨_,u,_,_,hu,_,_,_,hk,_⟩:=(hT t _ hl).ex
    simp only[cX] at hk
    obtain⟨e,rfl⟩:=hk
    exact⟨e,hu⟩
   ·cases h1
  obtain⟨el,hu⟩:=hu
  obtain⟨p,hx,hA⟩:=AU hr hv
  have hy:a.eval y=.pointer none:=by
   have h2:=ht.2
   unfold nW at h2
   split at h2
   ·rename_i hy
    have h1:=RepC.d_inv (ak hr hy)
    generalize a.eval y=u at h1
    cases h1;rfl
   ·cases h2
  have heq:(Op.equal t (.pointer p) (.pointer none)).run P w=.ok p.isNone w:=by
   have h1:∀ d,(Op.equalIn (d+1) t (.pointer p) (.pointer none)).run P w=.ok p.isNone w:=fun d=>by
    cases p<;>simp[Op.equalIn,HZ hu]
   exact h1 9999
  refine⟨.bool (b==e),w,_,σ,φ,?_,hr.put (v:=.one (.d (.bool (b==e)))) hd (RepC.d .bool),h⟩
  cases op<;>simp only[gA,G4,reduceCtorEq] at hop<;>subst hop
  ·simp[execOp,ho,hx,hy,bk,binOp,heq,hA]
  ·simp[execOp,ho,hx,hy,bk,binOp,heq,hA]
theorem xR{ops:Array Oper}{o:Oper}{rest:List Oper}{st ss:St}{K:St→Prop}{d id:Nat}{obj:AObj}{v:AV}(dl:List Nat)(hg:o.guard=none)(hdst:o.dst=some d)(hd:(Nat.blt d c.n&&Nat.blt id 1000000)=true)
  (hss:sealL st dl=some ss) (hm1:aQ id st.fr=false) (hm2:aF id (cT dl st.sto)=false)
  (H:∀ (a:Act) (w:World) (σ:Sig) (φ:Pl),Rel c ss a w σ φ→∃ (u:Value) (arr:Array Value) (t:TypeId) (cap:Nat),(execOp a.eval o).run P w=.ok (.value u) (w.alloc (.cells arr t)) ∧
   ∀ sto',ObjRep σ (bo φ id (some (w.heap.size,cap))) ((id,obj)::sto') (w.alloc (.cells arr t)) id obj∧RepV σ (bo φ id (some (w.heap.size,cap))) ((id,obj)::sto') v u)
  (h:aa P c ops rest ⟨(d,v)::st.fr,(id,obj)::cT dl st.sto⟩ K):aa P c ops (o::rest) st K :=
 aJ hg fun a w σ φ hr0=>by
  obtain⟨σs,hs,hr⟩:=hr0.given hss
  obtain⟨u,arr,t,cap,hrun,hboth⟩:=H a w σs φ hs
  obtain⟨hobj,hv⟩:=hboth (cT dl st.sto)
  refine⟨u,_,_,σs,bo φ id (some (w.heap.size,cap)),hrun,?_,h⟩
  rw[hdst]
  simp only[GZ] at hd
  have hd':aw c.n (some d)=true:=hd.1
  refine hr.putTo (dst:=some d) (st':=⟨st.fr,(id,obj)::cT dl st.sto⟩) hd' hr.le hr.fresh (hr.inv.add hm2 hobj) ?_ (hr.fra.alloc _) (fun i hi=>by
   have:i≠id:=by have:=G5 hd.2;omega
   rw[au this];exact hr.pin i hi) (fun _=>hv) ?_
  ·intro i e p hi hp
   rcases ab hi with⟨rfl,rfl⟩|⟨hne,hi⟩
   ·rw[ai] at hp;cases hp;exact .inl hr.fra.size
   ·rw[au hne] at hp;exact hr.mine _ _ _ hi hp
  ·intro s x _ hx
   exact⟨x,hx,fun z hz=>hz.ext (Sig.le_refl _) Ext.add fun j hj=>by cases hj;exact ch hm1 hx⟩
theorem od(hT:aD P T){ops:Array Oper}{o:Oper}{rest:List Oper}{st ss:St}{K:St→Prop}{d id n k b:Nat}{t e:TypeId}{z:List D}{parts:Array (Nat×Operand)}{xs:List (List D)}(dl:List Nat)
  (ho:o.op=.buildSlice t n parts) (hg:o.guard=none) (hdst:o.dst=some d) (hd:(Nat.blt d c.n&&Nat.blt id 1000000)=true) (hss:sealL st dl=some ss) (ht:aM T t=some (e,k,b,z))
  (hp:cK ss k 0 parts.toList=some xs) (hn:Nat.beq parts.toList.length n=true) (hbig:(Nat.ble (n*k) 1000000&&Nat.ble (n*b) 1000000&&Nat.ble n 1000000)=true)
  (hm1:aQ id st.fr=false) (hm2:aF id (cT dl st.sto)=false)
  (h:aa P c ops rest ⟨(d,.one (.own id n))::st.fr,(id,.row k b xs)::cT dl st.sto⟩ K):aa P c ops (o::rest) st K:=by
 refine xR dl hg hdst hd hss hm1 hm2 (fun a w σ φ hr=>?_) h
 obtain⟨i,zv,hu,hi,rfl,rfl,hz,hzc,hzb,hzl⟩:=cy hT ht
 have hnl:=G3 hn
 simp only[GZ,Nat.ble_eq] at hbig
 obtain⟨⟨hb1,hb2⟩,hb3⟩:=hbig
 obtain⟨hl,hlk⟩:=mj hp
 have hxn:xs.length=n:=by omega
 have hz0:=kU (σ:=σ) (φ:=φ) (sto:=ss.sto) hzc hzb hzl n
 obtain⟨cells',h1,h2⟩:=ml hr (k:=i.size) parts.toList 0 xs [] ((List.replicate n z).flatten.map .d) ((Array.range (n*i.size)).map (fun j=>zv.cells[j % zv.cells.size]!)) hp rfl (by simp)
  (by rw[G2,bE (k:=i.size) (by intro x hx;rw[HJ hx];exact hzl)];simp[hnl]) (by simpa using hz0)
 have hdrop:((List.replicate n z).flatten.map AC.d).drop (parts.toList.length*i.size)=[]:=by
  apply List.drop_of_length_le
  rw[G2,bE (k:=i.size) (by intro x hx;rw[HJ hx];exact hzl)]
  simp only[List.length_replicate,hnl];exact Hb _
 rw[hdrop,H6,HQ] at h2
 have h2':=kb h2
 have hsz:cells'.size=n*i.size:=by
  have:=h2'.length
  rw[bE hlk,hxn] at this
  simpa using this.symm
 refine⟨.slice (some ⟨w.heap.size,0,none⟩) n n,cells',e,n,?_,fun sto'=>⟨ObjRep.mk_row (B:=w.heap.size) (cap:=n) ai (bO w _) hsz (by omega) (by omega) ?_ hlk h2' (fun j u hu=>by simpa using hu) (fu hr.inv),?_⟩⟩
 ·have hbig':¬ (n*i.size > 2^24):=by omega
  have hpm:(parts.map fun (x:Nat×Operand)=>(x.1,a.eval x.2)).toList=parts.toList.map fun p=>(p.1,a.eval p.2):=by simp
  simp only[execOp,ho,Instr.buildSlice,Hj,HZ hu,Ha,bu hi,if_neg hbig']
  by_cases h0:n*i.size=0
  ·have e0:∀ f:Nat→Value,(Array.range (n*i.size)).map f=#[]:=by rw[h0];intro f;simp
   rw[e0] at h1
   simp only[if_pos h0,Hj,Hr,Ha,e0,hpm,h1]
   simp[newRow]
  ·simp only[if_neg h0,Hj,cS hi hz,Hr,Ha,hpm,h1]
   simp[newRow]
 ·rw[hxn];omega
 ·have:=RepC.own (σ:=σ) (φ:=bo φ id (some (w.heap.size,n))) (sto:=(id,.row i.size i.bytes xs)::sto') (id:=id) (n:=n) (B:=w.heap.size) (cap:=n) ao (by omega) ai
  exact this
def j6(os:List (Nat×AObj))(st:St)(k:Nat):Nat→List (Nat×Operand)→Option (List (List D))
 | _,[]=>some []
 | i,(j,x)::r=>bif Nat.beq i j then (match evS os st x with
   | some v=>(match cellsOf v with
     | some cs=>(match dI cs with
       | some ds=>bif Nat.beq ds.length k then (match j6 os st k (i+1) r with|some l=>some (ds::l)|none=>none) else none
       | none=>none)
     | none=>none)
   | none=>none) else none
theorem sj{os:List (Nat×AObj)}{st ss:St}{k:Nat}(h:∀ x,ev ss x=evS os st x):∀ {parts:List (Nat×Operand)} {i:Nat},cK ss k i parts=j6 os st k i parts
 | [],_=>rfl
 | (j,x)::r,i=>by simp only[cK,j6,h x,sj h (parts:=r)];rfl
theorem oG{os:List (Nat×AObj)}{st st2:St}{k:Nat}:∀ {parts:List (Nat×Operand)} {i:Nat},(∀ p∈parts,ev st2 p.2=ev st p.2)→j6 os st2 k i parts=j6 os st k i parts
 | [],_,_=>rfl
 | (j,x)::r,i,h=>by
   have h1:=h (j,x) Hc
   simp only at h1
   simp only[j6,evS,h1,oG (parts:=r) fun p hp=>h p (G9 _ hp)]
theorem rj(hT:aD P T){ops:Array Oper}{o:Oper}{rest:List Oper}{st:St}{K:St→Prop}{t:TypeId}{x:Operand}{id off n s:Nat}{cells:List AC}
  (ho:o.op=.slice t x none none none) (hg:o.guard=none) (hd:aw c.n o.dst=true) (ht:l5 T t=some (n,s)) (hx:ev st x=some (.one (.ref id off))) (hl:look st.sto id=some (.box cells))
  (h:aa P c ops rest ⟨aU o.dst (.one (.bsl id off n)) st.fr,st.sto⟩ K):aa P c ops (o::rest) st K :=
 aJ hg fun a w σ φ hr=>by
  obtain⟨e,i,hu,hi,_⟩:=uw hT ht
  have h1:RepC σ φ st.sto (.ref id off) (a.eval x):=ak hr hx
  generalize hux:a.eval x=ux at h1
  cases h1 with
  | dead hxx _=>simp[bm,bn hl] at hxx
  | ref hl' hp =>
    rename_i B cap cs
    refine⟨.slice (some ⟨B,off,none⟩) n n,w,_,σ,φ,?_,hr.put (v:=.one (.bsl id off n)) hd (RepC.bsl hl hp),h⟩
    simp[execOp,ho,hux,Instr.sliceAt,Instr.sureAddr,HZ hu,Instr.sliceBounds,bu hi,ec]
theorem vi(hT:aD P T){ops:Array Oper}{o:Oper}{rest:List Oper}{st:St}{K:St→Prop}{t t2 e e2 k b k2 b2 id off n:Nat}{z z2:List D}{x y:Operand}{v:AV}{cells cells':List AC}{ys:List (List D)}
  (ho:o.op=.call { callee:=.builtin .copy,args:=#[x,y],argTypes:=#[t,t2] }) (hg:o.guard=none) (hd:aw c.n o.dst=true) (ht:aM T t=some (e,k,b,z)) (ht2:aM T t2=some (e2,k2,b2,z2))
  (hx:ev st x=some (.one (.bsl id off n))) (hl:look st.sto id=some (.box cells)) (hy:ev st y=some v) (hs:dG st k v=some ys) (hn:ys.length≤n) (h48:ys.length<2^48) (hsp:b7 off (ys.flatten.map .d) cells=some cells')
  (h:aa P c ops rest ⟨aU o.dst (.one (.d (.int .i64 ys.length))) st.fr,bR id (.box cells') st.sto⟩ K):aa P c ops (o::rest) st K :=
 aJ hg fun a w σ φ hr=>by
  obtain⟨i,zv,hu,hi,rfl,_⟩:=cy hT ht
  obtain⟨us,hsrc⟩:=vE hs hr.inv (ak hr hy)
  obtain⟨⟨A,c',hux⟩,hfirst,hrep,hlen,hone⟩:=hsrc
  have h1:RepC σ φ st.sto (.bsl id off n) (a.eval x):=ak hr hx
  generalize huxe:a.eval x=ux at h1
  obtain⟨he,hle⟩:=gd hsp
  cases h1 with
  | dead hxx _=>simp[bm,bn hl] at hxx
  | bsl hl' hp =>
    rename_i B cap cs
    rw[hl] at hl';cases hl'
    obtain⟨B',c2,vs,ty,hp',hh,ha,hσ⟩:=hr.inv.obj _ _ hl
    rw[hp] at hp';cases hp'
    have hlen2:=ha.length
    have hul:us.length=(ys.flatten.map AC.d).length:=by rw[G2];exact hrep.length.symm
    have hst:=run_storeCells_at P B off ty us 0 vs.toArray w hh (by simp;omega) hone
    simp only[Nat.add_zero] at hst
    have hE:Ext (fun _=>False) φ φ st.sto ((id,.box cells')::st.sto):=Ext.upd hl trivial
    obtain⟨σ',φ',hr'⟩:=hr.write (o':=.box cells') (arr':=(vs.take off++us++vs.drop (off+us.length)).toArray) hl hp hh trivial
     ⟨B,cap,_,ty,hp,setRow_heap w B _ _ ty _ hh,fW (Sig.le_refl _) hE (fun j hj=>by cases hj) (by
      rw[he]
      have h2:All2 (RepC σ φ st.sto) (ys.flatten.map .d) us:=hrep.map_d
      rw[← hul]
      exact ((ha.take off).append h2).append (ha.drop _)),hσ⟩
    refine⟨.int .i64 ys.length,_,_,σ',φ',?_,hr'.put (v:=.one (.d (.int .i64 ys.length))) hd (RepC.d (.int (mD h48))),h⟩
    have hmin:Nat.min ys.length n=ys.length:=Nat.min_eq_left hn
    have hf:=hfirst P w rfl
    rw[hux] at hf
    have hmin2:min ys.length n=ys.length:=Nat.min_eq_left hn
    have hc:(Builtin.copy_ #[t,t2] o.type #[.slice (some ⟨B,off,none⟩) n n,a.eval y]).run P w=.ok (.int .i64 ys.length) (w.setRow B (vs.take off++us++vs.drop (off+us.length)).toArray):=by
     rw[hux]
     simp[Builtin.copy_,HZ hu,Builtin.lenOf,hmin2,bu hi,hf,hst,goInt]
    simp[execOp,ho,resolve,invoke,builtin,huxe,hc]
def dx(st:St)(k n:Nat)(acc:List AC):List (Nat×Operand)→Option (List AC)
 | []=>some acc
 | (i,x)::r=>match ev st x with
   | some v=>match cellsOf v with
     | some cs=>bif Nat.beq cs.length k&&Nat.blt i n then (match b7 (i*k) cs acc with|some acc'=>dx st k n acc' r|none=>none) else none
     | none=>none
   | none=>none
def xT(T:Tab)(t:TypeId):Option (Nat×Nat×List D) :=
 match look T t with
 | some ⟨.array n e,_,_,z⟩=>(match look T e with|some td=>some (n,td.size,z)|none=>none)
 | _=>none
theorem oH{st:St}{a:Act}(hrel:Rel c st a w σ φ){k n:Nat} :
  ∀ (parts:List (Nat×Operand)) (acc cs:List AC) (cells:Array Value),dx st k n acc parts=some cs→All2 (RepC σ φ st.sto) acc cells.toList →
    ∃ cells':Array Value,Instr.fill (fun i=>some (i*k,k)) cells (parts.map fun p=>(p.1,a.eval p.2))=some cells'∧All2 (RepC σ φ st.sto) cs cells'.toList
 | [],acc,cs,cells,h,ha=>by
   simp[dx] at h;subst h
   exact⟨cells,rfl,ha⟩
 | (i,x)::parts,acc,cs,cells,h,ha=>by
   simp only[dx] at h
   split at h<;>(try (simp at h;done))
   rename_i v hx
   split at h<;>(try (simp at h;done))
   rename_i cs' hcs
   cases hb:Nat.beq cs'.length k&&Nat.blt i n<;>simp only[hb,HW,HV,reduceCtorEq] at h
   simp only[GZ] at hb
   split at h<;>(try (simp at h;done))
   rename_i acc' hsp
   have hk:=G3 hb.1
   obtain⟨cells1,h1,_,h3⟩:=nu (σ:=σ) (φ:=φ) (sto:=st.sto) (fun i=>some (i*k,k)) (i:=i) (o:=i*k) (acc:=acc) (cs:=cs') (acc':=acc') (cells:=cells) (u:=a.eval x) (rest:=parts.map fun p=>(p.1,a.eval p.2))
    (by rw[hk]) hsp (eM hcs (ak hrel hx)) ha
   obtain⟨qe,h4,h5⟩:=oH hrel parts acc' cs cells1 h h1
   exact⟨qe,by rw[HE,h3,h4],h5⟩
theorem uz(hT:aD P T){ops:Array Oper}{o:Oper}{rest:List Oper}{st:St}{K:St→Prop}{t:TypeId}{parts:Array (Nat×Operand)}{n k:Nat}{z:List D}{cs:List AC}
  (ho:o.op=.build t parts) (hg:o.guard=none) (hd:aw c.n o.dst=true) (ht:xT T t=some (n,k,z)) (hv:dx st k n (z.map .d) parts.toList=some cs)
  (h:aa P c ops rest ⟨aU o.dst (.agg cs) st.fr,st.sto⟩ K):aa P c ops (o::rest) st K :=
 aJ hg fun a w σ φ hr=>by
  unfold xT at ht
  split at ht<;>(try (simp at ht;done))
  rename_i n' e sz b z' hta
  split at ht<;>(try (simp at ht;done))
  rename_i td hte
  simp only[G4,HD] at ht
  obtain⟨rfl,rfl,rfl⟩:=ht
  obtain⟨i,u,zv,hi,hu,hs,_,hz,hk,hzc,hzb,_,hza,_⟩:=(hT t _ hta).ex
  simp only[cX] at hk;subst hk
  obtain⟨i2,_,_,hi2,_,hs2,_⟩:=(hT e td hte).ex
  have hzr:All2 (RepC σ φ st.sto) (z'.map .d) zv.cells.toList:=by
   rw[hzc];exact oU hzb
  obtain⟨cells',h1,h2⟩:=oH hr (k:=td.size) (n:=n') parts.toList (z'.map .d) cs zv.cells hv hzr
  refine⟨.agg cells',w,_,σ,φ,?_,hr.put (v:=.agg cs) hd ⟨cells'.toList,by simp,h2⟩,h⟩
  have e1:(parts.map fun (x:Nat×Operand)=>(x.1,a.eval x.2)).toList=parts.toList.map fun p=>(p.1,a.eval p.2):=by simp
  simp only[execOp,ho,Instr.build,Hj,cS hi hz,Ha,HZ hu,bu hi2,hs2]
  rw[e1,h1]
  rfl
end Go.Abs
