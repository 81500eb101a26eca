import Derived.Laws.IdiomStrings
import Derived.WalkSpells
import Derived.Test.YtpejdgkaapnekaaGreatKP6
set_option linter.unusedVariables false
set_option linter.unusedSimpArgs false
set_option maxHeartbeats 1000000
namespace Go.Abs
open Go
variable {P:Program} {c:Ctx} {T:Tab} {σ:Sig} {φ:Pl} {sto:Sto} {w:World}
theorem Rel.dropTo{st:St}{a:Act}(hr:Rel c st a w σ φ){s':Sto}(h:∀ i e,look s' i=some e→look st.sto i=some e):Rel c ⟨st.fr,s'⟩ a w σ φ:=by
 have hE:Ext (fun _=>False) φ φ st.sto s':=by
  intro id _
  cases hl:look s' id with
  | none=>exact .inl rfl
  | some e=>exact .inr ⟨e,h _ _ hl,rfl,e,rfl,compat.refl e⟩
 refine⟨hr.le,hr.fresh,⟨hr.inv.sig,fun i e hi=>?_,fun i i' e e' p p' hi hi'=>hr.inv.inj _ _ _ _ _ _ (h _ _ hi) (h _ _ hi')⟩,
  fun i e p hi hp=>hr.mine _ _ _ (h _ _ hi) hp,fun s v hv=>?_,hr.defers,hr.size,hr.fra,hr.pin⟩
 ·exact (hr.inv.obj _ _ (h _ _ hi)).ext (X:=fun _=>False) (Sig.le_refl _) hE (fun j hj=>hj.elim) rfl fun _ _ _=>⟨rfl,rfl⟩
 ·obtain⟨u,hu,hru⟩:=hr.slot s v hv
  exact⟨u,hu,hru.ext (Sig.le_refl _) hE fun j hj=>hj.elim⟩
theorem Rel.alien{st:St}{a:Act}(hr:Rel c st a w σ φ)(o:Obj):Rel c st a (w.alloc o) σ φ:=by
 have hheap:∀ B,B<w.heap.size→(w.alloc o).heap[B]?=w.heap[B]?:=fun B hB=>RowKit.Below.heap_alloc w o B hB
 refine⟨hr.le,hr.fresh,⟨fun b cs hb=>?_,fun i e hi=>?_,hr.inv.inj⟩,hr.mine,hr.slot,hr.defers,hr.size,hr.fra.alloc _,hr.pin⟩
 ·obtain⟨t,f,hh⟩:=hr.inv.sig b cs hb
  exact⟨t,f,(hheap b (Xm.1 hh).1).trans hh⟩
 ·have ho:=hr.inv.obj i e hi
  exact ho.ext (X:=fun _=>False) (Sig.le_refl _) (Ext.refl _ _) (fun j hj=>hj.elim) rfl fun B cc hB=>⟨hheap B (ho.lt hB),rfl⟩
theorem Rel.anew{st:St}{a:Act}(hr:Rel c st a w σ φ)(mk:List Deferred)(rd:Option Nat):Rel ⟨w,σ,φ,MOf φ st.sto,c.n,rd,mk⟩ st { a with defers:=mk } w σ φ :=
 ⟨Sig.le_refl _,fun _ hb=>.inl hb,hr.inv,fun id e p hi hp=>.inr ⟨id,e,p,hi,hp,rfl⟩,hr.slot,rfl,hr.size,⟨rfl,rfl,rfl,Xc _,Xc _,fun _ _ _=>rfl⟩,fun _ _=>rfl⟩
theorem Rel.back{st st':St}{a a':Act}{w':World}{σ':Sig}{φ':Pl}{mk:List Deferred}{rd:Option Nat}(hr:Rel c st a w σ φ)(h:Rel ⟨w,σ,φ,MOf φ st.sto,c.n,rd,mk⟩ st' a' w' σ' φ'):Rel c st' { a' with defers:=c.mks } w' σ' φ':=by
 have hM:∀ {b:Nat},MOf φ st.sto b→c.w0.heap.size≤b∨c.M b:=by
  rintro b ⟨id,e,p,h1,h2,rfl⟩
  exact hr.mine _ _ _ h1 h2
 refine⟨Sig.le_trans hr.le h.le,fun b hb=>?_,h.inv,fun i e p hi hp=>?_,h.slot,rfl,h.size,⟨h.fra.os.trans hr.fra.os,h.fra.tape.trans hr.fra.tape,h.fra.output.trans hr.fra.output,Xg hr.fra.size h.fra.size,Xg hr.fra.drawn h.fra.drawn,fun b hb hn=>?_⟩,
  fun i hi=>(h.pin i hi).trans (hr.pin i hi)⟩
 ·rcases h.fresh b hb with h1|h1|h1
  ·exact hr.fresh b h1
  ·exact .inr (.inl (Xg hr.fra.size h1))
  ·exact .inr (hM h1)
 ·rcases h.mine _ _ _ hi hp with h1|h1
  ·exact .inl (Xg hr.fra.size h1)
  ·exact hM h1
 ·rw[h.fra.block b (Xz hb hr.fra.size) fun h1=>?_]
  ·exact hr.fra.block b hb hn
  ·rcases hM h1 with h2|h2
   ·omega
   ·exact hn h2
def mc{α:Type}(l:List (Nat×α))(i:Nat):Bool:=match look l i with|none=>true|some _=>false
theorem pL{α:Type}{l:List (Nat×α)}{i:Nat}(h:mc l i=true):look l i=none:=by
 unfold mc at h
 split at h
 ·assumption
 ·cases h
theorem z6{s s2:Sto}{i:Nat}(h:look s i=look s2 i):∀ {ρ:List (Nat×Nat)},look (gT ρ s) i=look (gT ρ s2) i
 | []=>h
 | (j,i0)::l=>by
   simp only[gT]
   by_cases e:i=i0
   ·subst e
    have none:∀ {x:Sto},look (del i x) i=none:=by
     intro x
     cases hl:look (del i x) i with
     | none=>rfl
     | some o=>exact absurd rfl (ee hl).1
    rw[none,none]
   ·rw[ff e,ff e]
    exact z6 h
theorem z7{r:Nat→Nat}{s s2:Sto}{i:Nat}(h:look s i=look s2 i):∀ {rs:Sto},look (eL r s rs) i=look (eL r s2 rs) i
 | []=>h
 | (j,o)::l=>by
   simp only[eL,dq,look]
   rw[z7 h (rs:=l)]
def kE(k:Nat)(ρ:List (Nat×Nat))(rs s:Sto):Sto:=eL (rn k ρ) (gT ρ s) rs
def Dj(st:St)(idl:Nat)(li:LI)(fr:List (Nat×AV)):St:=⟨st.fr,(idl,.loop li fr .ready none)::st.sto⟩
def A4(c c1:Ctx):Prop:=c1.n=c.n∧c1.rd=none∧c1.mks≠[]∧∀ st a w σ φ,Rel c1 st a w σ φ→RelE c .ret st a w σ φ
theorem yW{g:Operand}{ps:Array Nat}{assign body:Code}{st:St}{f:FuncId}{caps:List D}{frC frR:List (Nat×AV)}{cs rs:Sto}{rav:AV}{liR:LI}{s':LoopState}{p':Option Code}(k idl:Nat)(ρ:List (Nat×Nat))
  (hrd:c.rd=none) (hmk:c.mks=[]) (hg:ev st g=some (.one (.d (.fn f caps))))
  (hC:CallA P f ((.one (.yl 1000000))::caps.map fun x=>.one (.d x)) ((1000000,.loop ⟨c.n,ps,assign,body⟩ frC .ready none)::cs) rav ((1000000,.loop liR frR s' p')::rs))
  (hfr:∀ s v,look (dO (rn k ((1000000,idl)::ρ)) frC) s=some v→look st.fr s=some v)
  (hpass:Pass (Dj st idl ⟨c.n,ps,assign,body⟩ (dO (rn k ((1000000,idl)::ρ)) frC)) (rn k ((1000000,idl)::ρ)) ((1000000,idl)::ρ) cs)
  (hcomp:CompatL (Dj st idl ⟨c.n,ps,assign,body⟩ (dO (rn k ((1000000,idl)::ρ)) frC)) (rn k ((1000000,idl)::ρ)) ((1000000,idl)::ρ) rs)
  (hk:(gG ((1000000,idl)::ρ)&&jV ((1000000,idl)::ρ)&&iB ((1000000,.loop ⟨c.n,ps,assign,body⟩ frC .ready none)::cs) ((1000000,idl)::ρ)&&gU ((1000000,idl)::ρ) &&
   c7 ((1000000,idl)::ρ) ((1000000,.loop liR frR s' p')::rs)&&dU ((1000000,.loop ⟨c.n,ps,assign,body⟩ frC .ready none)::cs) ((.one (.yl 1000000))::caps.map fun x=>.one (.d x)) &&
   bt ((1000000,.loop ⟨c.n,ps,assign,body⟩ frC .ready none)::cs) ((1000000,.loop ⟨c.n,ps,assign,body⟩ frC .ready none)::cs)&&dG ((1000000,.loop liR frR s' p')::rs) rav &&
   bt ((1000000,.loop liR frR s' p')::rs) ((1000000,.loop liR frR s' p')::rs)&&Nat.ble (k+16) 1000000)=true)
  (hi:(Nat.blt idl k&&mc st.sto idl&&!br idl st.fr&&!aN idl st.sto&&Nat.ble (k+16) 1000000&&rK k (dO (rn k ((1000000,idl)::ρ)) frC)&&mc rs 1000000)=true) (hfresh:lz k st) (hs:s'≠.busy)
  (hp':p'=none∨p'=some .ret) :
  ∀ (a:Act) (w:World) (σ:Sig) (φ:Pl),Rel c st a w σ φ→(Code.rangeFunc g ps assign body).wpIn (fnc c) 0 P (fun e a' w' =>
    (p'=none∧e=.normal∧∃ c1 σ' φ',A4 c c1∧Rel c1 ⟨st.fr,kE k ((1000000,idl)::ρ) rs st.sto⟩ a' w' σ' φ') ∨
    (p'=some .ret∧e=.ret∧∃ σ' φ',RelE c .ret ⟨st.fr,kE k ((1000000,idl)::ρ) rs st.sto⟩ a' w' σ' φ')) a w:=by
 intro a w σ φ hr
 refine wpIn_rangeFunc fun fn _=>?_
 simp only[WX,Xe] at hi
 obtain⟨⟨⟨⟨⟨⟨hi1,hi2⟩,hi3⟩,hi4⟩,hi5⟩,hi6⟩,hi7⟩:=hi
 have hik:idl<k:=W6 hi1
 have hk16:k+16≤1000000:=W6 hi5
 have hin:look st.sto idl=none:=pL hi2
 -- the record, and the block for the calls that rounds defer
 let L:Loop:={ state:=.ready,pending:=none,fn,tmps:=a.tmps,params:=ps,assign,body,defers:=w.heap.size }
 have hr1:=hr.alien (.deferred (some []))
 have hsz1:(w.alloc (.deferred (some []))).heap.size=w.heap.size+1:=World.size_alloc _ _
 let li:LI:=⟨c.n,ps,assign,body⟩
 let ρ1:=(1000000,idl)::ρ
 let frL:=dO (rn k ρ1) frC
 let w1:=(w.alloc (.deferred (some []))).alloc (.loop L)
 let l:=(w.alloc (.deferred (some []))).heap.size
 let φ1:=cq φ idl (some (l,0))
 let st1:St:=Dj st idl li frL
 have hE1:Ext (·=idl) φ φ1 st.sto st1.sto:=Ext.add
 have hobj:ObjRep σ φ1 st1.sto w1 idl (.loop li frL .ready none) :=
  ⟨_,0,L,az,da _ _,⟨rfl,rfl,rfl,rfl,rfl,hr.size⟩,fun s v hv=>by
   have h0:=hfr s v hv
   obtain⟨u,hu,hru⟩:=hr.slot s v h0
   exact⟨u,hu,hru.ext (Sig.le_refl _) hE1 fun j hj=>by cases hj;exact dP hi3 h0⟩,jK hr1.inv⟩
 have hr2:Rel c st1 a w1 σ φ1:=by
  refine⟨hr.le,hr.fresh,hr1.inv.add hi4 hobj,fun i e p hi' hp=>?_,fun s v hv=>?_,hr.defers,hr.size,(hr.fra.alloc _).alloc _,fun i hi'=>?_⟩
  ·rcases ah hi' with⟨rfl,rfl⟩|⟨hne,hi'⟩
   ·have hp':cq φ i (some (l,0)) i=some p:=hp
    rw[az] at hp';cases hp'
    left
    have:=hr.fra.size
    show c.w0.heap.size≤(w.alloc (.deferred (some []))).heap.size
    rw[hsz1];omega
   ·have hp':cq φ idl (some (l,0)) i=some p:=hp
    rw[aL hne] at hp';exact hr.mine _ _ _ hi' hp'
  ·obtain⟨u,hu,hru⟩:=hr.slot s v hv
   exact⟨u,hu,hru.ext (Sig.le_refl _) hE1 fun j hj=>by cases hj;exact dP hi3 hv⟩
  ·have:i≠idl:=by omega
   show cq φ idl _ i=_
   rw[aL this];exact hr.pin i hi'
 have hfresh1:lz k st1:=by
  intro i h1 h2
  obtain⟨f1,f2,f3⟩:=hfresh i h1 h2
  refine⟨by show look ((idl,_)::st.sto) i=none;rw[aP (by omega)];exact f1,f2,?_⟩
  show aN i ((idl,AObj.loop li frL .ready none)::st.sto)=false
  simp only[aN,f3,Bool.or_false]
  exact pe h1 h2 hi6
 have hr3:=hr2.anew [nc w.heap.size] none
 -- the function's value
 have hgr:=aD hr2 (x:=g) (v:=.one (.d (.fn f caps))) (by
  have:ev st1 g=ev st g:=by cases g<;>rfl
  rw[this];exact hg)
 replace hgr:=RepC.d_inv hgr
 generalize hge:a.eval g=gv at hgr
 cases hgr with
 | fn cvs hl hcs =>
 have hCf:=hC
 obtain⟨fnc',hfn1,hfn2,hfn3⟩:=hCf.fn
 have hfn3':fnc'.body.isNone=false:=by cases hb:fnc'.body<;>simp_all
 have hcaps:All2 (RepV σ φ1 st1.sto) (caps.map fun x=>.one (.d x)) cvs:=by
  refine All2.of_get (by simp[hl]) fun j x v hx hv=>?_
  simp only[X1,Option.map_eq_some_iff] at hx
  obtain⟨d,hd,rfl⟩:=hx
  exact RepC.d (hcs j d v hd hv)
 have hkk:=hk
 have hk':=hkk
 simp only[WX,Nat.ble_eq] at hk'
 obtain⟨⟨⟨⟨⟨⟨⟨⟨⟨hbig,hinj⟩,hall⟩,hnd⟩,hko⟩,hai⟩,hci⟩,hri⟩,hrs⟩,hkl⟩:=hk'
 have hj0:look ρ1 1000000=some idl:=aH
 have hidl:rn k ρ1 1000000=idl:=iM hbig hj0
 have hyl:RepV σ φ1 st1.sto (.one (.yl idl)) (.func (.yield l) #[] #[]):=RepC.yl (cap:=0) (aH:look st1.sto idl=_) az
 have hargs:All2 (RepV σ φ1 st1.sto) (dF (rn k ρ1) ((.one (.yl 1000000))::caps.map fun x=>.one (.d x))) (.func (.yield l) #[] #[]::cvs):=by
  refine⟨?_,by rw[oU];exact hcaps⟩
  show RepV σ φ1 st1.sto (.one (.yl (rn k ρ1 1000000))) _
  rw[hidl];exact hyl
 have hpass1:Pass st1 (rn k ρ1) ρ1 ((1000000,.loop li frC .ready none)::cs):=⟨⟨idl,hj0,aH⟩,hpass⟩
 have hcomp1:CompatL st1 (rn k ρ1) ρ1 ((1000000,.loop liR frR s' p')::rs):=⟨fun i e h1 h2=>by
  rw[hj0] at h1;cases h1
  rw[show look st1.sto idl=_ from aH] at h2;cases h2
  exact trivial,hcomp⟩
 have hround:(fnc c).round=none:=hrd
 refine⟨l,[nc w.heap.size],w1,{ target:=.fn (.func f) cvs.toArray,args:=#[.func (.yield l) #[] #[]] },w1,f,(Value.func (.yield l) #[] #[]::cvs).toArray,w1,?_,?_,fun f' _=>iL c f',?_,fun h=>by simp[fnc,Fence.wide] at h,?_⟩
 ·rw[hround]
  simp[Instr.enterLoop,newObj,Sem.run,nc,w1,l,L]
 ·simp only[resolve,rangeCall,hge,Deferred.ofValue,Xt]
  simp[Act.eval]
 ·simp only[invoke,callFunc,Xl]
  simp only[show (program).run P w1=.ok P w1 from rfl,Xb,hfn1,hfn2,hfn3',XD,if_false,Xt]
  simp
 refine (uD (c:=c) (n:=0-1) (hCf.run w1 σ (phC φ1 ρ1) _ (Ci hbig hinj hpass1 hci hr3.inv) (unL hbig hpass1 hai hargs))).mono ?_
 rintro e w' ⟨v,σ',φ',rfl,hret'⟩
 obtain⟨σ2,φ2,hr4,hφ2⟩:=ym (o:={ (default:Oper) with dst:=none }) k ρ1 hr3 rfl hpass1 hcomp1 hkk hfresh1 hret'
 have hp2:φ2 idl=some (l,0):=by
  rw[← hidl,hφ2 1000000 _ aH,hret'.pin 1000000 ⟨Xc _,by omega⟩,fW hj0]
  exact az
 have hl2:look (eL (rn k ρ1) (gT ρ1 st1.sto) ((1000000,.loop liR frR s' p')::rs)) idl=some (.loop liR (dO (rn k ρ1) frR) s' p'):=by
  simp only[eL,dq,hidl]
  exact aH
 obtain⟨r',hh',hr'1,hr'2,_⟩:=uW hr4 hl2 hp2
 obtain⟨σ3,φ3,hr5⟩:=hr4.mark hl2 hp2 hh' .exhausted p' { r' with state:=.exhausted } (by rw[← hr'2])
 have hr6:=hr5.dropTo (s':=kE k ρ1 rs st.sto) (by
  intro i e hie
  have hne:i≠idl:=by
   rintro rfl
   rcases sY hie with⟨j,o,h1,h2,_⟩|⟨_,h2⟩
   ·rcases iV hko (j:=j) (o:=o) (by
     by_cases e:j=1000000
     ·subst e;rw[pL hi7] at h2;cases h2
     ·rw[aP e];exact h2) with h3|⟨i',h3⟩
    ·rw[kh h3] at h1;omega
    ·rw[iM hbig h3] at h1
     subst h1
     have:=sX hinj h3 hj0
     subst this
     rw[pL hi7] at h2;cases h2
   ·exact absurd rfl (ee h2).1
  rw[dq,aP hne]
  simp only[eL,dq,hidl]
  rw[aP hne]
  refine (z7 ?_).trans hie
  exact z6 (aP hne))
 have hbusy:(r'.state==.busy)=false:=by
  rw[hr'1]
  cases s'<;>first|rfl|exact absurd rfl hs
 have hend:(Instr.endLoop l).run P w'=.ok p' { w' with heap:=w'.heap.setIfInBounds l (.loop { r' with state:=.exhausted }) }:=by
  simp only[Instr.endLoop,Xl,mj hh',Xb,hbusy,XD,if_false,pt hh',Xt,hr'2]
 have hmkeq:({ a with defers:=[nc w.heap.size]++a.defers }:Act)={ a with defers:=[nc w.heap.size] }:=by
  rw[hr.defers,hmk];rfl
 have hgood:∀ {st':St} {a':Act} {w4:World} {σ4:Sig} {φ4:Pl},Rel ⟨w1,σ,φ1,MOf φ1 st1.sto,c.n,none,[nc w.heap.size]⟩ st' a' w4 σ4 φ4→RelE c .ret st' a' w4 σ4 φ4:=by
  intro st' a' w4 σ4 φ4 h4
  refine .inr ⟨rfl,w.heap.size,h4.defers,?_,hr.fra.size,?_⟩
  ·have hlt:w.heap.size<w1.heap.size:=by
    show _<((w.alloc (.deferred (some []))).alloc (.loop L)).heap.size
    rw[World.size_alloc,World.size_alloc];omega
   rw[h4.fra.block w.heap.size hlt fun hM=>?_]
   ·show ((w.alloc (.deferred (some []))).alloc (.loop L)).heap[w.heap.size]?=_
    rw[RowKit.Below.heap_alloc _ _ _ (by rw[hsz1];omega)]
    exact da _ _
   ·obtain⟨id,e,p,h1,h2,h3⟩:=hM
    rcases ah h1 with⟨rfl,rfl⟩|⟨hne,h1⟩
    ·have h2':cq φ id (some (l,0)) id=some p:=h2
     rw[az] at h2';cases h2'
     have:l=w.heap.size+1:=hsz1
     simp only at h3;omega
    ·have h2':cq φ idl (some (l,0)) id=some p:=h2
     rw[aL hne] at h2'
     have:=(hr.inv.obj _ _ h1).lt h2'
     omega
  ·have:=hr2.back h4
   rwa [hmk] at this
 refine⟨p',_,hend,?_⟩
 rw[hmkeq]
 have hG:A4 c ⟨w1,σ,φ1,MOf φ1 st1.sto,c.n,none,[nc w.heap.size]⟩:=⟨rfl,rfl,by simp,fun _ _ _ _ _ h=>hgood h⟩
 rcases hp' with rfl|rfl
 ·exact .inl ⟨rfl,rfl,_,_,_,hG,hr6⟩
 ·exact wpIn_ret (.inr ⟨rfl,rfl,_,_,hgood hr6⟩)
end Go.Abs
namespace Go.Abs
open Go
variable {P:Program} {c:Ctx} {T:Tab} {σ:Sig} {φ:Pl} {w:World}
def yn(op:BinOp):Option AV→Option AV→Option D
 | some (.one (.d (.int k x))),some (.one (.d (.int k' y)))=>match op with
   | .quo=>bif kEq k k'&&!decide (y=0) then some (.int k (k.wrap (x.tdiv y))) else none
   | .rem=>bif kEq k k'&&!decide (y=0) then some (.int k (x.tmod y)) else none
   | .shl=>bif !decide (y<0) then some (.int k (k.wrap (x*2^(min y.toNat k.bits)))) else none
   | .shr=>bif !decide (y<0) then some (.int k (x.fdiv (2^(min y.toNat k.bits)))) else none
   | _=>none
 | _,_=>none
theorem lG{x y:Int}(hx:0≤x)(hy:0<y):x % y≤x:=by
 have h1:=Int.mul_ediv_add_emod x y
 have h2:=Int.mul_nonneg (show 0≤y by omega) (Int.ediv_nonneg hx (show 0≤y by omega))
 omega
theorem KR{k:IntKind}{x y:Int}(h:inR k x):inR k (x.tmod y):=by
 unfold inR at *
 have hmin:k.min≤0:=by unfold IntKind.min;cases k<;>simp[IntKind.signed,IntKind.bits]
 have hmax:0≤k.max:=by unfold IntKind.max;cases k<;>simp[IntKind.signed,IntKind.bits]
 rcases Int.le_total 0 x with h0|h0
 ·have h1:=Int.tmod_nonneg y h0
  have h2:x.tmod y≤x:=by
   rw[Int.tmod_eq_emod_of_nonneg h0]
   rcases Int.lt_trichotomy y 0 with hy|hy|hy
   ·have:=Int.emod_nonneg x (show y≠0 by omega)
    rw[← Int.emod_neg]
    exact lG h0 (by omega)
   ·subst hy;simp
   ·exact lG h0 hy
  omega
 ·obtain⟨z,rfl⟩:∃ z,x=-z:=⟨-x,by omega⟩
  rw[Int.neg_tmod]
  have h1:=Int.tmod_nonneg y (show 0≤z by omega)
  have h2:z.tmod y≤z:=by
   rw[Int.tmod_eq_emod_of_nonneg (by omega)]
   rcases Int.lt_trichotomy y 0 with hy|hy|hy
   ·rw[← Int.emod_neg]
    exact lG (by omega) (by omega)
   ·subst hy;simp
   ·exact lG (by omega) hy
  omega
theorem KS{k:IntKind}{x:Int}{n:Nat}(h:inR k x):inR k (x.fdiv (2^n)):=by
 unfold inR at *
 have hmin:k.min≤0:=by unfold IntKind.min;cases k<;>simp[IntKind.signed,IntKind.bits]
 have hmax:0≤k.max:=by unfold IntKind.max;cases k<;>simp[IntKind.signed,IntKind.bits]
 have hp:(0:Int)<2^n:=Int.pow_pos (by omega)
 rw[Int.fdiv_eq_ediv_of_nonneg _ (by omega)]
 rcases Int.le_total 0 x with h0|h0
 ·have h1:=Int.ediv_nonneg h0 (show (0:Int)≤2^n by omega)
  have h2:=Int.ediv_le_self (2^n) h0
  omega
 ·have h1:x≤x / 2^n:=by
   rw[Int.le_ediv_iff_mul_le hp]
   have:x*2^n≤x*1:=Int.mul_le_mul_of_nonpos_left h0 (by omega)
   omega
  have h2:x / 2^n≤0:=by
   have:x / 2^n<1:=by rw[Int.ediv_lt_iff_lt_mul hp];omega
   omega
  omega
theorem I2{ops:Array Oper}{o:Oper}{rest:List Oper}{st:St}{K:St→Prop}{op:BinOp}{t ty:TypeId}{x y:Operand}{d:D}
  (ho:o.op=.binOp op t x y ty) (hg:o.guard=none) (hd:aX c.n o.dst=true) (hv:yn op (ev st x) (ev st y)=some d)
  (h:aa P c ops rest ⟨bI o.dst (.one (.d d)) st.fr,st.sto⟩ K):aa P c ops (o::rest) st K :=
 bu hg fun a w σ φ hr=>by
  unfold yn at hv
  split at hv<;>(try (simp at hv;done))
  rename_i k x' k' y' hx hy
  have h1:=RepC.d_inv (aD hr hx)
  have h2:=RepC.d_inv (aD hr hy)
  generalize hux:a.eval x=ux at h1
  generalize huy:a.eval y=uy at h2
  cases h1 with|int h1=>cases h2 with|int h2 =>
  split at hv
  ·cases hb:kEq k k'&&!decide (y'=0)<;>simp only[hb,Yf,Ye,reduceCtorEq,W5] at hv
   simp only[WX,Xe,Yj] at hb
   obtain rfl:=gR hb.1
   subst hv
   refine⟨_,w,_,σ,φ,?_,hr.put (v:=.one (.d (.int k (k.wrap (x'.tdiv y'))))) hd (RepC.d (.int (lK _ _))),h⟩
   simp[execOp,ho,hux,huy,cA,binOp,Op.intDiv,hb.2]
  ·cases hb:kEq k k'&&!decide (y'=0)<;>simp only[hb,Yf,Ye,reduceCtorEq,W5] at hv
   simp only[WX,Xe,Yj] at hb
   obtain rfl:=gR hb.1
   subst hv
   refine⟨_,w,_,σ,φ,?_,hr.put (v:=.one (.d (.int k (x'.tmod y')))) hd (RepC.d (.int (KR h1))),h⟩
   simp[execOp,ho,hux,huy,cA,binOp,Op.intDiv,hb.2]
  ·cases hb:!decide (y'<0)<;>simp only[hb,Yf,Ye,reduceCtorEq,W5] at hv
   simp only[Xe,Yj] at hb
   subst hv
   refine⟨_,w,_,σ,φ,?_,hr.put (v:=.one (.d (.int k (k.wrap (x'*2^(min y'.toNat k.bits)))))) hd (RepC.d (.int (lK _ _))),h⟩
   simp[execOp,ho,hux,huy,cA,binOp,Op.shift,hb]
  ·cases hb:!decide (y'<0)<;>simp only[hb,Yf,Ye,reduceCtorEq,W5] at hv
   simp only[Xe,Yj] at hb
   subst hv
   refine⟨_,w,_,σ,φ,?_,hr.put (v:=.one (.d (.int k (x'.fdiv (2^(min y'.toNat k.bits)))))) hd (RepC.d (.int (KS h1))),h⟩
   simp[execOp,ho,hux,huy,cA,binOp,Op.shift,hb]
  ·simp at hv
def qt(s:List UInt8):D:=.sl 1 1 (s.map fun b=>[.int .u8 (b.toNat:Int)])
theorem Rel.sealNew{st:St}{a:Act}(hr:Rel c st a w σ φ)(arr:Array Value)(t:TypeId)(f:Nat×Nat) :
  Rel c st a (w.alloc (.cells arr t f)) (eS σ w.heap.size arr) φ∧σ.le (eS σ w.heap.size arr):=by
 have hle:σ.le (eS σ w.heap.size arr):=kI (.inl (jK hr.inv))
 have hheap:∀ B,B<w.heap.size→(w.alloc (.cells arr t f)).heap[B]?=w.heap[B]?:=fun B hB=>RowKit.Below.heap_alloc w _ B hB
 refine⟨⟨Sig.le_trans hr.le hle,fun b hb=>?_,⟨fun b cs hb=>?_,fun i e hi=>?_,hr.inv.inj⟩,hr.mine,fun s v hv=>?_,hr.defers,hr.size,hr.fra.alloc _,hr.pin⟩,hle⟩
 ·by_cases e:b=w.heap.size
  ·subst e;exact .inr (.inl hr.fra.size)
  ·simp[eS,e] at hb;exact hr.fresh b hb
 ·by_cases e:b=w.heap.size
  ·subst e
   simp only[eS,if_true,W5] at hb
   subst hb
   exact⟨t,f,da w _⟩
  ·simp only[eS,e,if_false] at hb
   obtain⟨t',f',hh⟩:=hr.inv.sig b cs hb
   exact⟨t',f',(hheap b (Xm.1 hh).1).trans hh⟩
 ·have ho:=hr.inv.obj i e hi
  refine ho.ext (X:=fun _=>False) hle (Ext.refl _ _) (fun j hj=>hj.elim) rfl fun B cc hB=>⟨hheap B (ho.lt hB),?_⟩
  have:B≠w.heap.size:=by have:=ho.lt hB;simp only at this;omega
  simp[eS,this]
 ·obtain⟨u,hu,hru⟩:=hr.slot s v hv
  exact⟨u,hu,hru.ext hle (Ext.refl _ _) fun j hj=>hj.elim⟩
def ot(T:Tab)(t:TypeId):Bool:=match look T t with|some ⟨.slice e,_,_,_⟩=>(match look T e with|some ⟨.int k,_,_,_⟩=>kEq k .u8|_=>false)|_=>false
theorem uu(hT:bg P T){ops:Array Oper}{o:Oper}{rest:List Oper}{st:St}{K:St→Prop}{src dst:TypeId}{x:Operand}{s:List UInt8}
  (ho:o.op=.convert src dst x) (hg:o.guard=none) (hd:aX c.n o.dst=true) (ht:(iq T src&&ot T dst)=true) (hx:ev st x=some (.one (.d (.str s)))) (hl:s.length≤2^47)
  (h:aa P c ops rest ⟨bI o.dst (.one (.d (qt s))) st.fr,st.sto⟩ K):aa P c ops (o::rest) st K :=
 bu hg fun a w σ φ hr=>by
  rw[WX] at ht
  have hsrc:=tf hT ht.1
  have ht2:=ht.2
  unfold ot at ht2
  split at ht2<;>(try (simp at ht2;done))
  rename_i e sz b z hlk
  split at ht2<;>(try (simp at ht2;done))
  rename_i k sz2 b2 z2 hlk2
  obtain rfl:=gR ht2
  obtain⟨_,u,_,_,hu,_,_,_,hk,_⟩:=(hT dst _ hlk).ex
  obtain⟨_,u2,_,_,hu2,_,_,_,hk2,_⟩:=(hT e _ hlk2).ex
  simp only[fj] at hk hk2
  subst hk hk2
  obtain⟨hxe,h48⟩:=CG hr hx
  have hrun:=run_bytes_of_string (P:=P) w src dst e ⟨s.toArray⟩ hsrc hu hu2
  have hsize:(⟨s.toArray⟩:ByteArray).size=s.length:=by simp[ByteArray.size]
  rw[hsize] at hrun
  have hcap:=grownCap_ge w s.length 0 e
  obtain⟨h1,hle⟩:=(hr.drew (w.drawn+1) (Nat.le_succ _)).sealNew (bytesRow ⟨s.toArray⟩ (grownCap w s.length 0 e)) e ((bytesRow ⟨s.toArray⟩ (grownCap w s.length 0 e)).size,(bytesRow ⟨s.toArray⟩ (grownCap w s.length 0 e)).size+1)
  let arr:=bytesRow ⟨s.toArray⟩ (grownCap w s.length 0 e)
  have hrep:Rep (eS σ w.heap.size arr) (qt s) (.slice (some ⟨w.heap.size,0,none⟩) s.length (grownCap w s.length 0 e)):=by
   have hln:(s.map fun b=>[D.int .u8 (b.toNat:Int)]).length=s.length:=by simp
   have:=Rep.sl (σ:=eS σ w.heap.size arr) (k:=1) (b:=1) (xs:=s.map fun b=>[D.int .u8 (b.toNat:Int)]) (A:=some ⟨w.heap.size,0,none⟩) (cap:=grownCap w s.length 0 e)
    (fun i j=>.int .u8 ((s.getD i 0).toNat:Int)) (by rw[hln];exact hcap) (by rw[hln];exact h48) (by rw[hln];omega) (by intro x hx;simp only[Xj] at hx;obtain⟨b,_,rfl⟩:=hx;rfl)
    (fun h0=>⟨w.heap.size,0,arr,rfl,by simp[eS],fun i j hi hj=>by
     rw[hln] at hi
     obtain rfl:j=0:=by omega
     have:arr=(s.map fun b=>Value.int .u8 (b.toNat:Int)).toArray++Array.replicate (grownCap w s.length 0 e-s.length) (.int .u8 0):=by
      show bytesRow _ _=_
      unfold bytesRow
      rw[hsize]
      simp
     rw[this]
     simp only[Xp,Nat.mul_one,Nat.add_zero]
     rw[Array.getElem?_append_left (by simpa using hi)]
     simp[List.getD,hi]⟩)
    (fun i j x d hx hd=>by
     simp only[X1,Option.map_eq_some_iff] at hx
     obtain⟨b,hb,rfl⟩:=hx
     match j,hd with
     | 0,hd =>
       simp at hd;subst hd
       have:s.getD i 0=b:=by simp[List.getD,hb]
       rw[this]
       refine .int ⟨?_,?_⟩
       ·simp[IntKind.min,IntKind.signed,IntKind.bits]
       ·have:=b.toNat_lt
        simp[IntKind.max,IntKind.signed,IntKind.bits];omega
     | _+1,hd=>simp at hd)
   rw[hln] at this
   exact this
  exact⟨_,_,⟨bI o.dst (.one (.d (qt s))) st.fr,st.sto⟩,_,φ,by simp[execOp,ho,hxe,hrun],h1.put (v:=.one (.d (qt s))) hd (RepC.d hrep),h⟩
theorem xe{ops:Array Oper}{o:Oper}{rest:List Oper}{st ss:St}{K:St→Prop}{f:FuncId}{caps:Array Operand}{avs:List AV}{ds:List D}(dl:List Nat)
  (ho:o.op=.makeFunc (.func f) #[] caps) (hg:o.guard=none) (hd:aX c.n o.dst=true) (hss:sealL st dl=some ss) (ha:evL ss caps.toList=some avs) (hds:lH avs=some ds)
  (h:aa P c ops rest ⟨bI o.dst (.one (.d (.fn f ds))) st.fr,eR dl st.sto⟩ K):aa P c ops (o::rest) st K :=
 bu hg fun a w σ φ hr=>by
  obtain⟨σs,hs,hr1⟩:=hr.given hss
  have h1:=pc hds (iT hs ha)
  refine⟨.func (.func f) #[] (caps.toList.map a.eval).toArray,w,⟨bI o.dst (.one (.d (.fn f ds))) st.fr,eR dl st.sto⟩,σs,φ,?_,hr1.put (v:=.one (.d (.fn f ds))) hd (RepC.d (.fn _ h1.length.symm fun j d v hd hv=>?_)),h⟩
  ·have e:(caps.toList.map a.eval).toArray=caps.map a.eval:=by rw[← Array.toList_map,Array.toArray_toList]
   rw[e]
   simp[execOp,ho,Instr.makeFunc]
  ·obtain⟨u,hu,hru⟩:=h1.get hd
   rw[hv] at hu;cases hu;exact hru
def cT(i:Nat):List Nat→Bool
 | []=>false
 | j::r=>Nat.beq j i||cT i r
theorem memL_iff{i:Nat}:∀ {l:List Nat},cT i l=true↔i∈l
 | []=>by simp[cT]
 | j::r=>by
   simp only[cT,Xs,memL_iff (l:=r),Xo]
   exact or_congr_left ⟨fun h=>(W4 h).symm,fun h=>by rw[h];exact XN _⟩
def dS(s:Sto):List Nat→List Nat→List Nat
 | [],acc=>acc
 | i::r,acc=>bif cT i acc||!bw s i then dS s r acc else dS s r (acc++[i])
theorem mE{s s2:Sto}:∀ {l acc:List Nat},(∀ i∈l,look s2 i=look s i)→dS s2 l acc=dS s l acc
 | [],_,_=>rfl
 | i::r,acc,h=>by
   have h1:bw s2 i=bw s i:=by simp[bw,h i Xd]
   simp only[dS,h1]
   rw[mE fun j hj=>h j (Xa _ hj),mE fun j hj=>h j (Xa _ hj)]
theorem nz{s:Sto}{i:Nat}:∀ {l acc:List Nat},i∈dS s l acc→i∈l∨i∈acc
 | [],_,h=>.inr h
 | j::r,acc,h=>by
   simp only[dS] at h
   cases hb:cT j acc||!bw s j with
   | true =>
     simp only[hb,Yf] at h
     rcases nz h with h|h
     ·exact .inl (by simp[h])
     ·exact .inr h
   | false =>
     simp only[hb,Ye] at h
     rcases nz h with h|h
     ·exact .inl (by simp[h])
     ·simp at h
      rcases h with h|h
      ·exact .inr h
      ·exact .inl (by simp[h])
def vC(sto:Sto):Option AV→Option Bool
 | some (.one (.d .nil))=>some true
 | some (.one (.d (.sl _ _ (_::_))))=>some false
 | some (.one (.own id _))=>match look sto id with|some (.row _ _ (_::_))=>some false|_=>none
 | _=>none
def qu:Option AV→Bool
 | some (.one (.d .nil))=>true
 | _=>false
def ma(T:Tab)(t:TypeId):Bool:=match look T t with|some ⟨.slice _,_,_,_⟩=>true|_=>false
theorem uw(hT:bg P T){t:TypeId}(h:ma T t=true):∃ e,P.underlying t=some (.slice e):=by
 unfold ma at h
 split at h
 ·rename_i e sz b z hl
  obtain⟨_,u,_,_,hu,_,_,_,hk,_⟩:=(hT t _ hl).ex
  simp only[fj] at hk
  exact⟨e,by rw[hu,hk]⟩
 ·cases h
theorem KT{st:St}{a:Act}(hr:Rel c st a w σ φ){x:Operand}{b:Bool}(h:vC st.sto (ev st x)=some b):∃ A n cap,a.eval x=.slice A n cap∧A.isNone=b:=by
 unfold vC at h
 split at h
 ·rename_i hx
  simp only[W5] at h;subst h
  have h1:=RepC.d_inv (aD hr hx)
  generalize a.eval x=u at h1
  cases h1
  exact⟨none,0,0,rfl,rfl⟩
 ·rename_i k bb y ys hx
  simp only[W5] at h;subst h
  have h1:=RepC.d_inv (aD hr hx)
  generalize a.eval x=u at h1
  cases h1 with
  | sl vs hc h48 hb hk hA hh =>
    obtain⟨B,o,cells,rfl,_⟩:=hA (by simp)
    exact⟨_,_,_,rfl,rfl⟩
 ·rename_i id n hx
  split at h<;>simp at h
  rename_i k bb y ys hl
  subst h
  have h1:RepC σ φ st.sto (.own id n) (a.eval x):=aD hr hx
  generalize a.eval x=u at h1
  cases h1 with
  | dead hxx _=>simp[bY,cy hl] at hxx
  | own hl' hn hp=>exact⟨_,_,_,rfl,rfl⟩
  | ownNil hl' hp =>
    rw[hl] at hl';cases hl'
    rcases hr.inv.obj _ _ hl with⟨h2,_⟩|⟨B,cap,arr,t,vs,h2,_⟩
    ·cases h2
    ·rw[hp] at h2;cases h2
 ·simp at h
theorem DQ(hT:bg P T){ops:Array Oper}{o:Oper}{rest:List Oper}{st:St}{K:St→Prop}{op:BinOp}{t ty:TypeId}{x y:Operand}{b e:Bool}
  (ho:o.op=.binOp op t x y ty) (hop:jI op=some e) (hg:o.guard=none) (hd:aX c.n o.dst=true) (ht:(ma T t&&qu (ev st y))=true) (hv:vC st.sto (ev st x)=some b)
  (h:aa P c ops rest ⟨bI o.dst (.one (.d (.bool (b==e)))) st.fr,st.sto⟩ K):aa P c ops (o::rest) st K :=
 bu hg fun a w σ φ hr=>by
  rw[WX] at ht
  obtain⟨el,hu⟩:=uw hT ht.1
  obtain⟨A,n,cap,hx,hA⟩:=KT hr hv
  have hy:a.eval y=.slice none 0 0:=by
   have h2:=ht.2
   unfold qu at h2
   split at h2
   ·rename_i hy
    have h1:=RepC.d_inv (aD hr hy)
    generalize a.eval y=u at h1
    cases h1;rfl
   ·cases h2
  refine⟨.bool (b==e),w,_,σ,φ,?_,hr.put (v:=.one (.d (.bool (b==e)))) hd (RepC.d .bool),h⟩
  cases op<;>simp only[jI,W5,reduceCtorEq] at hop<;>subst hop
  ·simp[execOp,ho,hx,hy,cA,Lib.run_eql_slice_nil _ _ _ _ _ _ _ _ hu,hA]
  ·simp[execOp,ho,hx,hy,cA,run_neq_slice_nil_any _ _ _ _ _ _ _ _ hu,hA]
def vD(sto:Sto):Option AV→Option Bool
 | some (.one (.d (.raw (.pointer none))))=>some true
 | some (.one (.d (.ptr _)))=>some false
 | some (.one (.ref id _))=>bif bw sto id then some false else none
 | some (.one (.rref id _ _))=>bif bw sto id then some false else none
 | _=>none
def tN:Option AV→Bool
 | some (.one (.d (.raw (.pointer none))))=>true
 | _=>false
def xf(T:Tab)(t:TypeId):Bool:=match look T t with|some ⟨.ptr,_,_,_⟩=>true|_=>false
theorem KU{st:St}{a:Act}(hr:Rel c st a w σ φ){x:Operand}{b:Bool}(h:vD st.sto (ev st x)=some b):∃ p,a.eval x=.pointer p∧p.isNone=b:=by
 unfold vD at h
 split at h
 ·rename_i hx
  simp only[W5] at h;subst h
  have h1:=RepC.d_inv (aD hr hx)
  generalize a.eval x=u at h1
  cases h1
  exact⟨none,rfl,rfl⟩
 ·rename_i cs hx
  simp only[W5] at h;subst h
  have h1:=RepC.d_inv (aD hr hx)
  generalize a.eval x=u at h1
  cases h1
  exact⟨_,rfl,rfl⟩
 ·rename_i id off hx
  cases hk:bw st.sto id<;>simp only[hk,Yf,Ye,reduceCtorEq,W5] at h
  subst h
  have h1:RepC σ φ st.sto (.ref id off) (a.eval x):=aD hr hx
  generalize a.eval x=u at h1
  cases h1 with
  | dead hxx _=>simp only[bY] at hxx;rw[hk] at hxx;cases hxx
  | ref hl hp=>exact⟨_,rfl,rfl⟩
 ·rename_i id i off hx
  cases hk:bw st.sto id<;>simp only[hk,Yf,Ye,reduceCtorEq,W5] at h
  subst h
  have h1:RepC σ φ st.sto (.rref id i off) (a.eval x):=aD hr hx
  generalize a.eval x=u at h1
  cases h1 with
  | dead hxx _=>simp only[bY] at hxx;rw[hk] at hxx;cases hxx
  | rref hl hp=>exact⟨_,rfl,rfl⟩
 ·simp at h
theorem CH(hT:bg P T){ops:Array Oper}{o:Oper}{rest:List Oper}{st:St}{K:St→Prop}{op:BinOp}{t ty:TypeId}{x y:Operand}{b e:Bool}
  (ho:o.op=.binOp op t x y ty) (hop:jI op=some e) (hg:o.guard=none) (hd:aX c.n o.dst=true) (ht:(xf T t&&tN (ev st y))=true) (hv:vD st.sto (ev st x)=some b)
  (h:aa P c ops rest ⟨bI o.dst (.one (.d (.bool (b==e)))) st.fr,st.sto⟩ K):aa P c ops (o::rest) st K :=
 bu hg fun a w σ φ hr=>by
  rw[WX] at ht
  have hu:∃ el,P.underlying t=some (.pointer el):=by
   have h1:=ht.1
   unfold xf at h1
   split at h1
   ·rename_i sz b z hl
    obtain⟨_,u,_,_,hu,_,_,_,hk,_⟩:=(hT t _ hl).ex
    simp only[fj] at hk
    obtain⟨e,rfl⟩:=hk
    exact⟨e,hu⟩
   ·cases h1
  obtain⟨el,hu⟩:=hu
  obtain⟨p,hx,hA⟩:=KU hr hv
  have hy:a.eval y=.pointer none:=by
   have h2:=ht.2
   unfold tN at h2
   split at h2
   ·rename_i hy
    have h1:=RepC.d_inv (aD hr hy)
    generalize a.eval y=u at h1
    cases h1;rfl
   ·cases h2
  have heq:(Op.equal t (.pointer p) (.pointer none)).run P w=.ok p.isNone w:=by
   have h1:∀ d,(Op.equalIn (d+1) t (.pointer p) (.pointer none)).run P w=.ok p.isNone w:=fun d=>by
    cases p<;>simp[Op.equalIn,Ym hu]
   exact h1 9999
  refine⟨.bool (b==e),w,_,σ,φ,?_,hr.put (v:=.one (.d (.bool (b==e)))) hd (RepC.d .bool),h⟩
  cases op<;>simp only[jI,W5,reduceCtorEq] at hop<;>subst hop
  ·simp[execOp,ho,hx,hy,cA,binOp,heq,hA]
  ·simp[execOp,ho,hx,hy,cA,binOp,heq,hA]
theorem GO{ops:Array Oper}{o:Oper}{rest:List Oper}{st ss:St}{K:St→Prop}{d id:Nat}{obj:AObj}{v:AV}(dl:List Nat)(hg:o.guard=none)(hdst:o.dst=some d)(hd:(Nat.blt d c.n&&Nat.blt id 1000000)=true)
  (hss:sealL st dl=some ss) (hm1:br id st.fr=false) (hm2:aN id (eR dl st.sto)=false)
  (H:∀ (a:Act) (w:World) (σ:Sig) (φ:Pl),Rel c ss a w σ φ→∃ (u:Value) (arr:Array Value) (t:TypeId) (cap:Nat),(execOp a.eval o).run P w=.ok (.value u) (w.alloc (.cells arr t)) ∧
   ∀ sto',ObjRep σ (cq φ id (some (w.heap.size,cap))) ((id,obj)::sto') (w.alloc (.cells arr t)) id obj∧RepV σ (cq φ id (some (w.heap.size,cap))) ((id,obj)::sto') v u)
  (h:aa P c ops rest ⟨(d,v)::st.fr,(id,obj)::eR dl st.sto⟩ K):aa P c ops (o::rest) st K :=
 bu hg fun a w σ φ hr0=>by
  obtain⟨σs,hs,hr⟩:=hr0.given hss
  obtain⟨u,arr,t,cap,hrun,hboth⟩:=H a w σs φ hs
  obtain⟨hobj,hv⟩:=hboth (eR dl st.sto)
  refine⟨u,_,_,σs,cq φ id (some (w.heap.size,cap)),hrun,?_,h⟩
  rw[hdst]
  simp only[WX] at hd
  have hd':aX c.n (some d)=true:=hd.1
  refine hr.putTo (dst:=some d) (st':=⟨st.fr,(id,obj)::eR dl st.sto⟩) hd' hr.le hr.fresh (hr.inv.add hm2 hobj) ?_ (hr.fra.alloc _) (fun i hi=>by
   have:i≠id:=by have:=W6 hd.2;omega
   rw[aL this];exact hr.pin i hi) (fun _=>hv) ?_
  ·intro i e p hi hp
   rcases ah hi with⟨rfl,rfl⟩|⟨hne,hi⟩
   ·rw[az] at hp;cases hp;exact .inl hr.fra.size
   ·rw[aL hne] at hp;exact hr.mine _ _ _ hi hp
  ·intro s x _ hx
   exact⟨x,hx,fun z hz=>hz.ext (Sig.le_refl _) Ext.add fun j hj=>by cases hj;exact dP hm1 hx⟩
theorem tY(hT:bg P T){ops:Array Oper}{o:Oper}{rest:List Oper}{st ss:St}{K:St→Prop}{d id n k b:Nat}{t e:TypeId}{z:List D}{parts:Array (Nat×Operand)}{xs:List (List D)}(dl:List Nat)
  (ho:o.op=.buildSlice t n parts) (hg:o.guard=none) (hdst:o.dst=some d) (hd:(Nat.blt d c.n&&Nat.blt id 1000000)=true) (hss:sealL st dl=some ss) (ht:bc T t=some (e,k,b,z))
  (hp:eJ ss k 0 parts.toList=some xs) (hn:Nat.beq parts.toList.length n=true) (hbig:(Nat.ble (n*k) 1000000&&Nat.ble (n*b) 1000000&&Nat.ble n 1000000)=true)
  (hm1:br id st.fr=false) (hm2:aN id (eR dl st.sto)=false)
  (h:aa P c ops rest ⟨(d,.one (.own id n))::st.fr,(id,.row k b xs)::eR dl st.sto⟩ K):aa P c ops (o::rest) st K:=by
 refine GO dl hg hdst hd hss hm1 hm2 (fun a w σ φ hr=>?_) h
 obtain⟨i,zv,hu,hi,rfl,rfl,hz,hzc,hzb,hzl⟩:=eb hT ht
 have hnl:=W4 hn
 simp only[WX,Nat.ble_eq] at hbig
 obtain⟨⟨hb1,hb2⟩,hb3⟩:=hbig
 obtain⟨hl,hlk⟩:=rD hp
 have hxn:xs.length=n:=by omega
 have hz0:=pH (σ:=σ) (φ:=φ) (sto:=ss.sto) hzc hzb hzl n
 obtain⟨cells',h1,h2⟩:=rE hr (k:=i.size) parts.toList 0 xs [] ((List.replicate n z).flatten.map .d) ((Array.range (n*i.size)).map (fun j=>zv.cells[j % zv.cells.size]!)) hp rfl (by simp)
  (by rw[WZ,cP (k:=i.size) (by intro x hx;rw[XQ hx];exact hzl)];simp[hnl]) (by simpa using hz0)
 have hdrop:((List.replicate n z).flatten.map AC.d).drop (parts.toList.length*i.size)=[]:=by
  apply List.drop_of_length_le
  rw[WZ,cP (k:=i.size) (by intro x hx;rw[XQ hx];exact hzl)]
  simp only[List.length_replicate,hnl];exact Xc _
 rw[hdrop,Yt,X3] at h2
 have h2':=oF h2
 have hsz:cells'.size=n*i.size:=by
  have:=h2'.length
  rw[cP hlk,hxn] at this
  simpa using this.symm
 refine⟨.slice (some ⟨w.heap.size,0,none⟩) n n,cells',e,n,?_,fun sto'=>⟨ObjRep.mk_row (B:=w.heap.size) (cap:=n) az (da w _) hsz (by omega) (by omega) ?_ hlk h2' (fun j u hu=>by simpa using hu) (jK hr.inv),?_⟩⟩
 ·have hbig':¬ (n*i.size > 2^24):=by omega
  have hpm:(parts.map fun (x:Nat×Operand)=>(x.1,a.eval x.2)).toList=parts.toList.map fun p=>(p.1,a.eval p.2):=by simp
  simp only[execOp,ho,Instr.buildSlice,Xl,Ym hu,Xb,cF hi,if_neg hbig']
  by_cases h0:n*i.size=0
  ·have e0:∀ f:Nat→Value,(Array.range (n*i.size)).map f=#[]:=by rw[h0];intro f;simp
   rw[e0] at h1
   simp only[if_pos h0,Xl,Xt,Xb,e0,hpm,h1]
   simp[newRow]
  ·simp only[if_neg h0,Xl,eQ hi hz,Xt,Xb,hpm,h1]
   simp[newRow]
 ·rw[hxn];omega
 ·have:=RepC.own (σ:=σ) (φ:=cq φ id (some (w.heap.size,n))) (sto:=(id,.row i.size i.bytes xs)::sto') (id:=id) (n:=n) (B:=w.heap.size) (cap:=n) aH (by omega) az
  exact this
def ov(os:List (Nat×AObj))(st:St)(k:Nat):Nat→List (Nat×Operand)→Option (List (List D))
 | _,[]=>some []
 | i,(j,x)::r=>bif Nat.beq i j then (match evS os st x with
   | some v=>(match cellsOf v with
     | some cs=>(match gf cs with
       | some ds=>bif Nat.beq ds.length k then (match ov os st k (i+1) r with|some l=>some (ds::l)|none=>none) else none
       | none=>none)
     | none=>none)
   | none=>none) else none
theorem zQ{os:List (Nat×AObj)}{st ss:St}{k:Nat}(h:∀ x,ev ss x=evS os st x):∀ {parts:List (Nat×Operand)} {i:Nat},eJ ss k i parts=ov os st k i parts
 | [],_=>rfl
 | (j,x)::r,i=>by simp only[eJ,ov,h x,zQ h (parts:=r)];rfl
theorem uz{os:List (Nat×AObj)}{st st2:St}{k:Nat}:∀ {parts:List (Nat×Operand)} {i:Nat},(∀ p∈parts,ev st2 p.2=ev st p.2)→ov os st2 k i parts=ov os st k i parts
 | [],_,_=>rfl
 | (j,x)::r,i,h=>by
   have h1:=h (j,x) Xd
   simp only at h1
   simp only[ov,evS,h1,uz (parts:=r) fun p hp=>h p (Xa _ hp)]
theorem yz(hT:bg P T){ops:Array Oper}{o:Oper}{rest:List Oper}{st:St}{K:St→Prop}{t:TypeId}{x:Operand}{id off n s:Nat}{cells:List AC}
  (ho:o.op=.slice t x none none none) (hg:o.guard=none) (hd:aX c.n o.dst=true) (ht:qZ T t=some (n,s)) (hx:ev st x=some (.one (.ref id off))) (hl:look st.sto id=some (.box cells))
  (h:aa P c ops rest ⟨bI o.dst (.one (.bsl id off n)) st.fr,st.sto⟩ K):aa P c ops (o::rest) st K :=
 bu hg fun a w σ φ hr=>by
  obtain⟨e,i,hu,hi,_⟩:=CI hT ht
  have h1:RepC σ φ st.sto (.ref id off) (a.eval x):=aD hr hx
  generalize hux:a.eval x=ux at h1
  cases h1 with
  | dead hxx _=>simp[bY,cy hl] at hxx
  | ref hl' hp =>
    rename_i B cap cs
    refine⟨.slice (some ⟨B,off,none⟩) n n,w,_,σ,φ,?_,hr.put (v:=.one (.bsl id off n)) hd (RepC.bsl hl hp),h⟩
    simp[execOp,ho,hux,Instr.sliceAt,Instr.sureAddr,Ym hu,Instr.sliceBounds,cF hi,gJ]
theorem DR(hT:bg P T){ops:Array Oper}{o:Oper}{rest:List Oper}{st:St}{K:St→Prop}{t t2 e e2 k b k2 b2 id off n:Nat}{z z2:List D}{x y:Operand}{v:AV}{cells cells':List AC}{ys:List (List D)}
  (ho:o.op=.call { callee:=.builtin .copy,args:=#[x,y],argTypes:=#[t,t2] }) (hg:o.guard=none) (hd:aX c.n o.dst=true) (ht:bc T t=some (e,k,b,z)) (ht2:bc T t2=some (e2,k2,b2,z2))
  (hx:ev st x=some (.one (.bsl id off n))) (hl:look st.sto id=some (.box cells)) (hy:ev st y=some v) (hs:ga st k v=some ys) (hn:ys.length≤n) (h48:ys.length<2^48) (hsp:dK off (ys.flatten.map .d) cells=some cells')
  (h:aa P c ops rest ⟨bI o.dst (.one (.d (.int .i64 ys.length))) st.fr,cD id (.box cells') st.sto⟩ K):aa P c ops (o::rest) st K :=
 bu hg fun a w σ φ hr=>by
  obtain⟨i,zv,hu,hi,rfl,_⟩:=eb hT ht
  obtain⟨us,hsrc⟩:=Eg hs hr.inv (aD hr hy)
  obtain⟨⟨A,c',hux⟩,hfirst,hrep,hlen,hone⟩:=hsrc
  have h1:RepC σ φ st.sto (.bsl id off n) (a.eval x):=aD hr hx
  generalize huxe:a.eval x=ux at h1
  obtain⟨he,hle⟩:=kN hsp
  cases h1 with
  | dead hxx _=>simp[bY,cy hl] at hxx
  | bsl hl' hp =>
    rename_i B cap cs
    rw[hl] at hl';cases hl'
    obtain⟨B',c2,vs,ty,hp',hh,ha,hσ⟩:=hr.inv.obj _ _ hl
    rw[hp] at hp';cases hp'
    have hlen2:=ha.length
    have hul:us.length=(ys.flatten.map AC.d).length:=by rw[WZ];exact hrep.length.symm
    have hst:=run_storeCells_at P B off ty us 0 vs.toArray w hh (by simp;omega) hone
    simp only[Nat.add_zero] at hst
    have hE:Ext (fun _=>False) φ φ st.sto ((id,.box cells')::st.sto):=Ext.upd hl trivial
    obtain⟨σ',φ',hr'⟩:=hr.write (o':=.box cells') (arr':=(vs.take off++us++vs.drop (off+us.length)).toArray) hl hp hh trivial
     ⟨B,cap,_,ty,hp,setRow_heap w B _ _ ty _ hh,kC (Sig.le_refl _) hE (fun j hj=>by cases hj) (by
      rw[he]
      have h2:All2 (RepC σ φ st.sto) (ys.flatten.map .d) us:=hrep.map_d
      rw[← hul]
      exact ((ha.take off).append h2).append (ha.drop _)),hσ⟩
    refine⟨.int .i64 ys.length,_,_,σ',φ',?_,hr'.put (v:=.one (.d (.int .i64 ys.length))) hd (RepC.d (.int (rX h48))),h⟩
    have hmin:Nat.min ys.length n=ys.length:=Nat.min_eq_left hn
    have hf:=hfirst P w rfl
    rw[hux] at hf
    have hmin2:min ys.length n=ys.length:=Nat.min_eq_left hn
    have hc:(Builtin.copy_ #[t,t2] o.type #[.slice (some ⟨B,off,none⟩) n n,a.eval y]).run P w=.ok (.int .i64 ys.length) (w.setRow B (vs.take off++us++vs.drop (off+us.length)).toArray):=by
     rw[hux]
     simp[Builtin.copy_,Ym hu,Builtin.lenOf,hmin2,cF hi,hf,hst,goInt]
    simp[execOp,ho,resolve,invoke,builtin,huxe,hc]
def fO(st:St)(k n:Nat)(acc:List AC):List (Nat×Operand)→Option (List AC)
 | []=>some acc
 | (i,x)::r=>match ev st x with
   | some v=>match cellsOf v with
     | some cs=>bif Nat.beq cs.length k&&Nat.blt i n then (match dK (i*k) cs acc with|some acc'=>fO st k n acc' r|none=>none) else none
     | none=>none
   | none=>none
def GP(T:Tab)(t:TypeId):Option (Nat×Nat×List D) :=
 match look T t with
 | some ⟨.array n e,_,_,z⟩=>(match look T e with|some td=>some (n,td.size,z)|none=>none)
 | _=>none
theorem uA{st:St}{a:Act}(hrel:Rel c st a w σ φ){k n:Nat} :
  ∀ (parts:List (Nat×Operand)) (acc cs:List AC) (cells:Array Value),fO st k n acc parts=some cs→All2 (RepC σ φ st.sto) acc cells.toList →
    ∃ cells':Array Value,Instr.fill (fun i=>some (i*k,k)) cells (parts.map fun p=>(p.1,a.eval p.2))=some cells'∧All2 (RepC σ φ st.sto) cs cells'.toList
 | [],acc,cs,cells,h,ha=>by
   simp[fO] at h;subst h
   exact⟨cells,rfl,ha⟩
 | (i,x)::parts,acc,cs,cells,h,ha=>by
   simp only[fO] at h
   split at h<;>(try (simp at h;done))
   rename_i v hx
   split at h<;>(try (simp at h;done))
   rename_i cs' hcs
   cases hb:Nat.beq cs'.length k&&Nat.blt i n<;>simp only[hb,Yf,Ye,reduceCtorEq] at h
   simp only[WX] at hb
   split at h<;>(try (simp at h;done))
   rename_i acc' hsp
   have hk:=W4 hb.1
   obtain⟨cells1,h1,_,h3⟩:=sU (σ:=σ) (φ:=φ) (sto:=st.sto) (fun i=>some (i*k,k)) (i:=i) (o:=i*k) (acc:=acc) (cs:=cs') (acc':=acc') (cells:=cells) (u:=a.eval x) (rest:=parts.map fun p=>(p.1,a.eval p.2))
    (by rw[hk]) hsp (iO hcs (aD hrel hx)) ha
   obtain⟨wU,h4,h5⟩:=uA hrel parts acc' cs cells1 h h1
   exact⟨wU,by rw[XK,h3,h4],h5⟩
theorem CJ(hT:bg P T){ops:Array Oper}{o:Oper}{rest:List Oper}{st:St}{K:St→Prop}{t:TypeId}{parts:Array (Nat×Operand)}{n k:Nat}{z:List D}{cs:List AC}
  (ho:o.op=.build t parts) (hg:o.guard=none) (hd:aX c.n o.dst=true) (ht:GP T t=some (n,k,z)) (hv:fO st k n (z.map .d) parts.toList=some cs)
  (h:aa P c ops rest ⟨bI o.dst (.agg cs) st.fr,st.sto⟩ K):aa P c ops (o::rest) st K :=
 bu hg fun a w σ φ hr=>by
  unfold GP at ht
  split at ht<;>(try (simp at ht;done))
  rename_i n' e sz b z' hta
  split at ht<;>(try (simp at ht;done))
  rename_i td hte
  simp only[W5,XJ] at ht
  obtain⟨rfl,rfl,rfl⟩:=ht
  obtain⟨i,u,zv,hi,hu,hs,_,hz,hk,hzc,hzb,_,hza,_⟩:=(hT t _ hta).ex
  simp only[fj] at hk;subst hk
  obtain⟨i2,_,_,hi2,_,hs2,_⟩:=(hT e td hte).ex
  have hzr:All2 (RepC σ φ st.sto) (z'.map .d) zv.cells.toList:=by
   rw[hzc];exact uO hzb
  obtain⟨cells',h1,h2⟩:=uA hr (k:=td.size) (n:=n') parts.toList (z'.map .d) cs zv.cells hv hzr
  refine⟨.agg cells',w,_,σ,φ,?_,hr.put (v:=.agg cs) hd ⟨cells'.toList,by simp,h2⟩,h⟩
  have e1:(parts.map fun (x:Nat×Operand)=>(x.1,a.eval x.2)).toList=parts.toList.map fun p=>(p.1,a.eval p.2):=by simp
  simp only[execOp,ho,Instr.build,Xl,eQ hi hz,Xb,Ym hu,cF hi2,hs2]
  rw[e1,h1]
  rfl
end Go.Abs
