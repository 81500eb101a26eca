import Derived.Laws.RangeAny
import Derived.Test.YtpejdgkaapnekaaGreatIP13
set_option linter.unusedVariables false
set_option linter.unusedSimpArgs false
set_option maxHeartbeats 1000000
namespace Go.Abs
open Go
variable {P:Program} {V:Env} {T:Tab} {c:Ctx} {w0:World} {σ0:Sig} {φ0:Pl} {M:Nat→Prop} {n:Nat} {rd:Option Nat} {mk:List Deferred} {ops:Array Oper} {o:Oper} {rest:List Oper} {fr:List (Nat×AV)} {sto:Sto} {K:St→Prop} {st st0:St} {acc:List Tr}
variable {σ σ':Sig} {φ φ':Pl} {w w':World}
theorem oy{α:Type}:∀ {a b:List (Nat×α)} {i:Nat},look (a++b) i=match look a i with|some v=>some v|none=>look b i
 | [],_,_=>rfl
 | (j,x)::r,b,i=>by
   simp only[HF,look]
   cases Nat.beq j i with
   | true=>rfl
   | false=>simp only[HV];exact oy
def CE(s:Sto):Prop:=∀ i e,look s i=some e→1000000≤i
theorem mg{o1 s:Sto}(ho:ng 1000000 o1=true){i:Nat}(hi:1000000≤i):look (o1++s) i=look s i:=by
 rw[oy]
 cases hl:look o1 i with
 | none=>rfl
 | some e=>have:=oz ho hl;omega
theorem RepC.mv{x:AC}{v:Value}{s s2:Sto}(h:∀ i,x.men i=true→look s2 i=look s i∧φ' i=φ i)(hr:RepC σ φ s x v):RepC σ φ' s2 x v:=by
 have hk:∀ i,x.men i=true→aZ s2 i=aZ s i:=fun i hi=>by unfold aZ;rw[(h i hi).1]
 cases hr with
 | d h1=>exact .d h1
 | junk h1=>exact .junk h1
 | dead hx h1 =>
   refine .dead ?_ h1
   cases x<;>simp only[bm] at hx ⊢<;>first|exact hx|(rw[hk _ (HH _)];exact hx)
 | ownNil hl hp=>have:=h _ (HH _);exact .ownNil (this.1.trans hl) (this.2.trans hp)
 | own hl hn hp=>have:=h _ (HH _);exact .own (this.1.trans hl) hn (this.2.trans hp)
 | sub hl hn hc hA =>
   have:=h _ (HH _)
   refine .sub (this.1.trans hl) hn hc fun h0=>?_
   obtain⟨B,cap,h1,h2⟩:=hA h0
   exact⟨B,cap,this.2.trans h1,h2⟩
 | ref hl hp=>have:=h _ (HH _);exact .ref (this.1.trans hl) (this.2.trans hp)
 | rref hl hp=>have:=h _ (HH _);exact .rref (this.1.trans hl) (this.2.trans hp)
 | yl hl hp=>have:=h _ (HH _);exact .yl (this.1.trans hl) (this.2.trans hp)
 | mapr hl hp=>have:=h _ (HH _);exact .mapr (this.1.trans hl) (this.2.trans hp)
 | bsl hl hp=>have:=h _ (HH _);exact .bsl (this.1.trans hl) (this.2.trans hp)
theorem tP{x:AC}{s:Sto}(h:bm s x=true):∀ i,x.men i=true→aZ s i=true:=by
 intro i hi
 cases x<;>simp only[AC.men,HA] at hi<;>(have:=G3 hi;subst this;exact h)
theorem kn:∀ {l:List AC} {s:Sto},fR s l=true→∀ i,bZ i l=true→aZ s i=true
 | [],_,_,_,h=>by simp[bZ] at h
 | x::r,s,h,i,hi=>by
   simp only[fR,GZ] at h
   simp only[bZ,Hq] at hi
   rcases hi with hi|hi
   ·exact tP h.1 i hi
   ·exact kn h.2 i hi
theorem tQ:∀ {l:List (Bool×List AC)} {s:Sto},qS s l=true→∀ i,eU i l=true→aZ s i=true
 | [],_,_,_,h=>by simp[eU] at h
 | x::r,s,h,i,hi=>by
   simp only[qS,GZ] at h
   simp only[eU,Hq] at hi
   rcases hi with hi|hi
   ·exact kn h.1 i hi
   ·exact tQ h.2 i hi
theorem AB{x:AV}{s:Sto}(h:cE s x=true):∀ i,x.men i=true→aZ s i=true:=by
 intro i hi
 cases x with
 | one x=>exact tP h i hi
 | agg cs=>exact kn h i hi
 | tup ts=>exact tQ h i hi
 | any=>simp[AV.men] at hi
theorem tR:∀ {l:List (Nat×AV)} {s:Sto},kH s l=true→∀ i,aQ i l=true→aZ s i=true
 | [],_,_,_,h=>by simp[aQ] at h
 | x::r,s,h,i,hi=>by
   simp only[kH,GZ] at h
   simp only[aQ,Hq] at hi
   rcases hi with hi|hi
   ·exact AB h.1 i hi
   ·exact tR h.2 i hi
theorem nh{s s2:Sto}:∀ {l:List AC} {vs:List Value},(∀ i,bZ i l=true→look s2 i=look s i∧φ' i=φ i)→All2 (RepC σ φ s) l vs→All2 (RepC σ φ' s2) l vs
 | [],[],_,_=>trivial
 | x::r,v::vs,h,ha=>⟨RepC.mv (fun i hi=>h i (by simp[bZ,hi])) ha.1,nh (fun i hi=>h i (by simp[bZ,hi])) ha.2⟩
 | [],_::_,_,ha=>ha.elim
 | _::_,[],_,ha=>ha.elim
theorem BW{s s2:Sto}{t:Bool×List AC}{v:Value}(h:∀ i,bZ i t.2=true→look s2 i=look s i∧φ' i=φ i)(hr:RepT σ φ s t v):RepT σ φ' s2 t v:=by
 obtain⟨b,cs⟩:=t
 cases b with
 | true=>obtain⟨vs,rfl,h1⟩:=hr;exact⟨vs,rfl,nh h h1⟩
 | false=>exact nh h hr
theorem Bs{s s2:Sto}:∀ {l:List (Bool×List AC)} {vs:List Value},(∀ i,eU i l=true→look s2 i=look s i∧φ' i=φ i)→All2 (RepT σ φ s) l vs→All2 (RepT σ φ' s2) l vs
 | [],[],_,_=>trivial
 | x::r,v::vs,h,ha=>⟨BW (fun i hi=>h i (by simp[eU,hi])) ha.1,Bs (fun i hi=>h i (by simp[eU,hi])) ha.2⟩
 | [],_::_,_,ha=>ha.elim
 | _::_,[],_,ha=>ha.elim
theorem RepV.mv{x:AV}{v:Value}{s s2:Sto}(h:∀ i,x.men i=true→look s2 i=look s i∧φ' i=φ i)(hr:RepV σ φ s x v):RepV σ φ' s2 x v:=by
 cases x with
 | one x=>exact RepC.mv h hr
 | agg cs=>obtain⟨vs,rfl,h1⟩:=hr;exact⟨vs,rfl,nh h h1⟩
 | tup ts=>obtain⟨vs,rfl,h1⟩:=hr;exact⟨vs,rfl,Bs h h1⟩
 | any=>trivial
theorem AD{e:AObj}{s:Sto}(h:xf s e=true):∀ i,e.men i=true→aZ s i=true:=by
 intro i hi
 cases e with
 | box cs=>exact kn h i hi
 | loop li fr st p=>exact tR h i hi
 | _=>simp[AObj.men] at hi
theorem p4:∀ {fr:List (Nat×AV)} {s:Nat} {v:AV} {i:Nat},look fr s=some v→v.men i=true→aQ i fr=true
  | [],_,_,_,h,_=>by simp[look] at h
  | (t,x)::r,s,v,i,h,hi=>by
    rcases ab h with⟨_,rfl⟩|⟨_,h⟩
    ·simp[aQ,hi]
    ·simp only[aQ,p4 h hi,Bool.or_true]
theorem ObjRep.mv{id:Nat}{e:AObj}{s s2:Sto}(h:∀ i,e.men i=true→look s2 i=look s i∧φ' i=φ i)(hφ:φ' id=φ id)(hr:ObjRep σ φ s w id e):ObjRep σ φ' s2 w id e:=by
 cases e with
 | box cs =>
   obtain⟨B,c,vs,t,h1,h2,h3,h4⟩:=hr
   exact⟨B,c,vs,t,hφ.trans h1,h2,nh h h3,h4⟩
 | row k b xs =>
   rcases hr with⟨h1,h2⟩|⟨B,cap,arr,t,vs,h1,h2⟩
   ·exact .inl ⟨h1,hφ.trans h2⟩
   ·exact .inr ⟨B,cap,arr,t,vs,hφ.trans h1,h2⟩
 | map kg vg es =>
   obtain⟨B,c,ents,h1,h2⟩:=hr
   exact⟨B,c,ents,hφ.trans h1,h2⟩
 | loop li fr st p =>
   obtain⟨B,c,r,h1,h2,h3,h4,h5⟩:=hr
   refine⟨B,c,r,hφ.trans h1,h2,h3,fun s v hv=>?_,h5⟩
   obtain⟨u,hu,hru⟩:=h4 s v hv
   refine⟨u,hu,RepV.mv (fun i hi=>h i ?_) hru⟩
   exact p4 hv hi
theorem HInv.pinned{o1 s:Sto}(ho:ng 1000000 o1=true)(hs:CE s)(hin:bg s s=true)(h:HInv σ φ (o1++s) w):HInv σ φ s w:=by
 have hl:∀ {i:Nat},aZ s i=true→look s i=look (o1++s) i:=fun {i} hi=>by
  obtain⟨e,he⟩:=ko hi
  rw[mg ho (hs _ _ he)]
 refine⟨h.sig,fun i e hi=>?_,fun i i' e e' p p' hi hi'=>?_⟩
 ·refine ObjRep.mv (fun j hj=>⟨hl (AD (fw hin hi) j hj),rfl⟩) rfl (h.obj i e ?_)
  rw[mg ho (hs _ _ hi)];exact hi
 ·exact h.inj _ _ _ _ _ _ (by rw[mg ho (hs _ _ hi)];exact hi) (by rw[mg ho (hs _ _ hi')];exact hi')
def CF(s:Sto):Prop:=∃ li fr st p,look s 1000000=some (.loop li fr st p)
end Go.Abs
namespace Go.Abs
open Go
variable {P:Program} {V:Env} {T:Tab} {c:Ctx} {w0:World} {σ0:Sig} {φ0:Pl} {M:Nat→Prop} {n:Nat} {rd:Option Nat} {mk:List Deferred} {ops:Array Oper} {o:Oper} {rest:List Oper} {fr:List (Nat×AV)} {sto:Sto} {K:St→Prop} {st st0:St} {acc:List Tr}
theorem dF(hV:EnvOk P V)(id:Nat){d:Nat}{v:AV}{wr:List (Nat×Option AObj)}{nw:List Nat}(hg:o.guard=none)(hdst:o.dst=some d)(hd:Nat.blt d c.n=true)(h:aR V ⟨fr,sto⟩ o id=some ⟨v,wr,nw⟩)(hid:Nat.blt (id+1) 1000000=true)(hf:cO ⟨fr,sto⟩ nw=true)
  (k:ah P c ops st0 rest ⟨(d,v)::fr,bT wr sto⟩ (⟨v,wr,oR ⟨fr,sto⟩ o.op,nw⟩::acc) K):ah P c ops st0 (o::rest) ⟨fr,sto⟩ acc K :=
 ji hg (ka hV (by rw[hdst];exact hd) h hid) (by rw[hdst];exact k)
theorem fX(hV:EnvOk P V){v:AV}{wr:List (Nat×Option AObj)}(hg:o.guard=none)(hdst:o.dst=none)(h:aR V ⟨fr,sto⟩ o 0=some ⟨v,wr,[]⟩)
  (k:ah P c ops st0 rest ⟨fr,bT wr sto⟩ (⟨v,wr,oR ⟨fr,sto⟩ o.op,[]⟩::acc) K):ah P c ops st0 (o::rest) ⟨fr,sto⟩ acc K :=
 ji hg (ka hV (by rw[hdst];rfl) h rfl) (by rw[hdst];exact k)
def OkR(P:Program)(c:Ctx)(bl:Nat)(g:Operand)(ps:Array Nat)(assign body rest:Code)(st:St)(Q:Exit→St→Prop):Prop :=
 ∀ (a:Act) (w:World) (σ:Sig) (φ:Pl),Rel c st a w σ φ→(Code.block bl (.rangeFunc g ps assign body)).wpIn (fnc c) 0 P
   (Exit.then (rest.wpIn (fnc c) 0 P fun e a' w'=>∃ st' σ' φ',Q e st'∧RelE c e st' a' w' σ' φ') fun e a' w'=>∃ st' σ' φ',Q e st'∧RelE c e st' a' w' σ' φ') a w
def wM(R:St→Prop)(e:Exit)(st:St):Prop:=e=.normal∧R st
theorem CB{R:St→Prop}(h:R st):wM R .normal st:=⟨rfl,h⟩
def CC(Q:Exit→St→Prop)(e:Exit)(st:St):Prop:=e=.ret∧Q .ret st
theorem CD{Q:Exit→St→Prop}(h:Q .ret st):CC Q .ret st:=⟨rfl,h⟩
theorem yC{bl:Nat}{g:Operand}{ps:Array Nat}{x assign body rest:Code}{Q:Exit→St→Prop}(h:OkC P c x st (wM fun st1=>OkR P c bl g ps assign body rest st1 Q)):OkC P c (.seq (.seq x (.block bl (.rangeFunc g ps assign body))) rest) st Q:=by
 intro a w σ φ hr
 refine wpIn_seq (wpIn_seq (wpIn_mono (h a w σ φ hr) ?_))
 rintro e a1 w1 ⟨st1,σ1,φ1,⟨rfl,hR⟩,hre⟩
 exact hR a1 w1 σ1 φ1 (hre.rel (by simp))
structure FamW {α:Type} (E:α→Sto):Prop where
 big:∀ a,CE (E a)
 ins:∀ a,bg (E a) (E a)=true
 lp:∀ a,CF (E a)
 nd:∀ a,dn (bh (E a))=true
def wN(r:Nat→Nat):List Nat→Bool
 | []=>true
 | i::l=>(!(Nat.ble 1000000 (r i)&&Nat.blt (r i) 2000000)||Nat.beq (r i) i)&&wN r l
theorem vu{r:Nat→Nat}:∀ {l:List Nat},wN r l=true→∀ {i:Nat},i∈l→Pin (r i)→r i=i
 | j::l,h,i,hi,hb=>by
   simp only[wN,GZ,Hq,Hd] at h
   rcases Hm.1 hi with rfl|hi
   ·rcases h.1 with h1|h1
    ·rw[Nat.ble_eq.mpr hb.1,HT.mpr hb.2] at h1;cases h1
    ·exact G3 h1
   ·exact vu h.2 hi hb
theorem ei(r:Nat→Nat)(hk:(dn (bh sto)&&dn (gY r (bh sto))&&wN r (bh sto)&&bg sto sto&&kH sto fr)=true):Imp c ⟨fr,sto⟩ ⟨cV r fr,jE r sto⟩:=by
 intro a w σ φ hr
 simp only[GZ] at hk
 obtain⟨⟨⟨⟨h1,h2⟩,h3⟩,h4⟩,h5⟩:=hk
 classical
 let φ':Pl:=fun t=>if h:∃ i,i∈bh sto∧r i=t then φ h.choose else φ t
 have hφ:∀ {i:Nat},i∈bh sto→φ' (r i)=φ i:=by
  intro i hi
  have hex:∃ j,j∈bh sto∧r j=r i:=⟨i,hi,rfl⟩
  show (if h:∃ j,j∈bh sto∧r j=r i then φ h.choose else φ (r i))=φ i
  rw[dif_pos hex]
  have:=hex.choose_spec
  rw[mH h2 this.1 hi this.2]
 have hR:∀ j o,look sto j=some o→look (jE r sto) (r j)=some (b6 r o)∧φ' (r j)=φ j:=fun j o hj=>⟨mI h2 hj,hφ (lQ hj)⟩
 refine⟨σ,φ',hr.le,hr.fresh,⟨hr.inv.sig,fun t e ht=>?_,fun t t' e e' p p' ht ht' hne hp hp'=>?_⟩,fun t e p ht hp=>?_,fun s v hv=>?_,hr.defers,hr.size,hr.fra,fun t ht=>?_⟩
 ·obtain⟨i,o,rfl,hi,rfl⟩:=dR h1 ht
  exact wO hR hi (fw h4 hi) (hr.inv.obj _ _ hi)
 ·obtain⟨i,o,rfl,hi,rfl⟩:=dR h1 ht
  obtain⟨i',o',rfl,hi',rfl⟩:=dR h1 ht'
  rw[(hR _ _ hi).2] at hp
  rw[(hR _ _ hi').2] at hp'
  exact hr.inv.inj _ _ _ _ _ _ hi hi' (fun e=>hne (by rw[e])) hp hp'
 ·obtain⟨i,o,rfl,hi,rfl⟩:=dR h1 ht
  rw[(hR _ _ hi).2] at hp
  exact hr.mine _ _ _ hi hp
 ·rw[gC] at hv
  cases hl:look fr s with
  | none=>rw[hl] at hv;cases hv
  | some v0 =>
    rw[hl] at hv;cases hv
    obtain⟨u,hu,hru⟩:=hr.slot s v0 hl
    exact⟨u,hu,reV hR (iL h5 hl) hru⟩
 ·show (if h:∃ j,j∈bh sto∧r j=t then φ h.choose else φ t)=_
  split
  ·rename_i hex
   have hs:=hex.choose_spec
   have:=vu h3 hs.1 (by rw[hs.2];exact ht)
   rw[hs.2] at this
   rw[← this];exact hr.pin t ht
  ·exact hr.pin t ht
def vw(P:Program)(id:Nat)(c:Ctx)(body:Code)(rav:AV)(rsto:Sto)(e:Exit)(st:St):Prop :=
 e=.normal∧∃ li1 fr1,look st.sto id=some (.loop li1 fr1 .ready none)∧OkC P c body ⟨st.fr,bR id (.loop li1 fr1 .busy none) st.sto⟩ (pF id rav rsto)
theorem zZ{id:Nat}{body:Code}{rav:AV}{rsto:Sto}{li1:LI}{fr1:List (Nat×AV)}(hl:look st.sto id=some (.loop li1 fr1 .ready none))(h:OkC P c body ⟨st.fr,bR id (.loop li1 fr1 .busy none) st.sto⟩ (pF id rav rsto)):vw P id c body rav rsto .normal st:=⟨rfl,_,_,hl,h⟩
end Go.Abs
namespace Go.Abs
open Go
variable {P:Program} {V:Env} {T:Tab} {c:Ctx} {st st0:St} {σ σ':Sig} {φ φ':Pl} {w w':World}
theorem mR{ops:Array Oper}{o:Oper}{rest:List Oper}{a:Act}{Q:Exit→Act→World→Prop}{u:Value}(hg:o.guard=none)(hrun:(execOp a.eval o).run P w=.ok (.value u) w')(h:wpListIn (fnc c) 0 P ops Q rest (a.put o.dst u) w'):wpListIn (fnc c) 0 P ops Q (o::rest) a w:=by
 refine wpListIn_plain hg fun K' hK=>⟨fun f _=>fj c f,?_⟩
 rw[gb (by simp) hrun]
 exact hK _ _ h
theorem sB{s:ByteArray}{pos r:Nat}{ty:TypeId}(hh:w.heap[r]?=some (.stringIter s pos))(h:¬ pos<s.size):(Instr.next (.pointer (some ⟨r,0,none⟩)) true ty).run P w=.ok (.tuple #[.bool false]) w:=by
 simp[Instr.next,getObj,Sem.run,hh,Result.andThen,h]
theorem sC{s:ByteArray}{pos r:Nat}{ty:TypeId}(hh:w.heap[r]?=some (.stringIter s pos))(h:pos<s.size):(Instr.next (.pointer (some ⟨r,0,none⟩)) true ty).run P w =
  .ok (.tuple #[.bool true,.int .i64 pos,.int .i32 (Utf8.decode s pos).1]) { w with heap:=w.heap.setIfInBounds r (.stringIter s (pos+(Utf8.decode s pos).2)) }:=by
 simp[Instr.next,getObj,setObj,Sem.run,hh,Result.andThen,h,goInt]
theorem u4(s:ByteArray)(pos:Nat)(h:pos<s.size):1≤(Utf8.decode s pos).2:=by
 by_cases ha:(s[pos]'h).toNat<128
 ·rw[decode_ascii s pos h ha];exact Hb _
 ·exact (decode_high s pos h (by omega)).2
theorem Rel.iter{fr:List (Nat×AV)}{a:Act}{r:Nat}{s:ByteArray}{p q:Nat}(hr:Rel c ⟨fr,[]⟩ a w σ φ)(hh:w.heap[r]?=some (.stringIter s p))(hn:c.w0.heap.size≤r) :
  Rel c ⟨fr,[]⟩ a { w with heap:=w.heap.setIfInBounds r (.stringIter s q) } σ φ:=by
 refine⟨hr.le,hr.fresh,⟨fun b cs hb=>?_,fun i e hi=>by simp[look] at hi,fun i i' e e' p p' hi=>by simp[look] at hi⟩,fun i e p hi=>by simp[look] at hi,hr.slot,hr.defers,hr.size,⟨hr.fra.os,hr.fra.tape,hr.fra.output,?_,hr.fra.drawn,fun b hb hm=>?_⟩,hr.pin⟩
 ·obtain⟨t,f,h1⟩:=hr.inv.sig b cs hb
  refine⟨t,f,?_⟩
  have hne:r≠b:=by rintro rfl;rw[hh] at h1;cases h1
  simp only[Hs hne];exact h1
 ·simp only[Array.size_setIfInBounds];exact hr.fra.size
 ·have hne:r≠b:=by omega
  simp only[Hs hne];exact hr.fra.block b hb hm
def gI(s:List UInt8)(k:Nat):Int:=((Utf8.decode ⟨s.toArray⟩ k).1:Nat)
def ir(s:List UInt8)(k:Nat):Nat:=(Utf8.decode ⟨s.toArray⟩ k).2
theorem pT{s:List UInt8}{k:Nat}{b:UInt8}(h:s[k]?=some b)(hb:b.toNat<128):gI s k=b.toNat∧ir s k=1:=by
 obtain⟨hl,he⟩:=G7.1 h
 have hk:k<(⟨s.toArray⟩:ByteArray).size:=by simpa[ByteArray.size] using hl
 have hg:(⟨s.toArray⟩:ByteArray)[k]'hk=b:=by
  show s.toArray[k]'(by simpa using hl)=b
  simpa using he
 have:=decode_ascii ⟨s.toArray⟩ k hk (by rw[hg];exact hb)
 unfold gI ir
 rw[this,hg]
 exact⟨rfl,rfl⟩
theorem yV{s:List UInt8}{k:Nat}{b:UInt8}(h:s[k]?=some b)(hb:¬ b.toNat<128):128≤gI s k:=by
 obtain⟨hl,he⟩:=G7.1 h
 have hk:k<(⟨s.toArray⟩:ByteArray).size:=by simpa[ByteArray.size] using hl
 have hg:(⟨s.toArray⟩:ByteArray)[k]'hk=b:=by
  show s.toArray[k]'(by simpa using hl)=b
  simpa using he
 have:=(decode_high ⟨s.toArray⟩ k hk (by rw[hg];omega)).1
 unfold gI;omega
theorem mS{α:Type}{d:Nat}{v:α}{l:List (Nat×α)}:∀ {kept:List (Nat×α)},look kept d=none→SubL l kept→SubL ((d,v)::l) kept
 | [],_,_=>trivial
 | (t,x)::r,h,hs=>by
   simp only[look] at h
   cases hb:Nat.beq t d with
   | true=>rw[hb] at h;simp at h
   | false =>
     rw[hb] at h
     simp only[HV] at h
     refine⟨?_,mS h hs.2⟩
     have:Nat.beq d t=false:=by
      cases hc:Nat.beq d t with
      | false=>rfl
      | true=>have:=G3 hc;subst this;rw[HH] at hb;cases hb
     simp only[look,this,HV]
     exact hs.1
theorem RelE.back{fr:List (Nat×AV)}{st':St}{a a':Act}{e:Exit}(hmk:c.mks=[])(hr:Rel c ⟨fr,[]⟩ a w σ φ)(h:RelE ⟨w,σ,φ,MOf φ [],c.n,c.rd,[]⟩ e st' a' w' σ' φ'):RelE c e st' a' w' σ' φ':=by
 rcases h with h|⟨he,r,h1,h2,h3,h4⟩
 ·have hb:=Rel.back (rd:=c.rd) (mk:=[]) hr h
  have hd:a'.defers=[]:=h.defers
  have:({ a' with defers:=c.mks }:Act)=a':=by rw[hmk,← hd]
  rw[this] at hb
  exact .inl hb
 ·have hb:=Rel.back (rd:=c.rd) (mk:=[]) hr h4
  rw[hmk] at hb
  exact .inr ⟨he,r,h1,h2,Hf hr.fra.size h3,hb⟩
def tA(bl:Nat)(Q:Exit→St→Prop)(I:Prop)(kept:List (Nat×AV))(e:Exit)(st:St):Prop:=(e=.normal∧I∧SubL st.fr kept)∨(e≠.normal∧aq bl Q e st)
def w9(bl:Nat)(Q:Exit→St→Prop)(e:Exit)(st:St):Prop:=e≠.normal∧aq bl Q e st
theorem CP{bl:Nat}{Q:Exit→St→Prop}{I:Prop}{kept:List (Nat×AV)}(h:I)(hs:SubL st.fr kept):tA bl Q I kept .normal st:=.inl ⟨rfl,h,hs⟩
theorem CQ{bl:Nat}{Q:Exit→St→Prop}{I:Prop}{kept:List (Nat×AV)}{e:Exit}(he:e≠.normal)(h:aq bl Q e st):tA bl Q I kept e st:=.inr ⟨he,h⟩
theorem BR{bl:Nat}{Q:Exit→St→Prop}{e:Exit}(he:e≠.normal)(h:aq bl Q e st):w9 bl Q e st:=⟨he,h⟩
theorem u5{id1 id2 bl:Nat}{o0 o1 o2:Oper}{l2:List Oper}{body2:Code}{fr kept:List (Nat×AV)}{Q:Exit→St→Prop}{d0 d1 d2:Nat}{t:TypeId}{x0:Operand}{s:List UInt8}
  (hmk:c.mks=[]) (h0:o0.op=.move x0) (hg0:o0.guard=none) (hd0:o0.dst=some d0) (hb0:Nat.blt d0 c.n=true) (hx:ev ⟨fr,[]⟩ x0=some (.one (.d (.str s))))
  (h1:o1.op=.range t (.tmp d0)) (hg1:o1.guard=none) (hd1:o1.dst=some d1) (hb1:Nat.blt d1 c.n=true) (ht:P.underlying t=some .string)
  (h2:o2.op=.next (.tmp d1) true) (hg2:o2.guard=none) (hd2:o2.dst=some d2) (hb2:Nat.blt d2 c.n=true) (hne:Nat.beq d0 d1=false)
  (hk:SubL fr kept) (hkd:look kept d0=none) (hkd1:look kept d1=none) (hkd2:look kept d2=none) (Inv:Nat→Prop) (hi:Inv 0)
  (hmore:∀ k,Inv k→k<s.length→∀ (c2:Ctx),c2.n=c.n→c2.rd=c.rd→c2.mks=[]→∀ raw,aa P c2 (o2::l2).toArray l2 ⟨(d2,.tup [(false,[.d (.bool true)]),(false,[.d (.int .i64 k)]),(false,[.d (.int .i32 (gI s k))])])::(d1,.one (.d (.raw raw)))::kept,[]⟩
   (fun st'=>OkC P c2 body2 st' (tA bl Q (Inv (k+ir s k)) ((d1,.one (.d (.raw raw)))::kept))))
  (hover:∀ k,Inv k→s.length≤k→∀ (c2:Ctx),c2.n=c.n→c2.rd=c.rd→c2.mks=[]→∀ raw,aa P c2 (o2::l2).toArray l2 ⟨(d2,.tup [(false,[.d (.bool false)])])::(d1,.one (.d (.raw raw)))::kept,[]⟩
   (fun st'=>OkC P c2 body2 st' (w9 bl Q))) :
  OkC P c (.seq (.region id1 ⟨[o0,o1]⟩ false) (.block bl (.loop (.seq (.region id2 ⟨o2::l2⟩ false) body2)))) ⟨fr,[]⟩ Q:=by
 intro a w σ φ hr
 refine wpIn_seq (wpIn_region_list ?_)
 have hs:=ak hr hx
 replace hs:=RepC.d_inv hs
 generalize hv:a.eval x0=v at hs
 cases hs with
 | str hlen =>
 have hrun0:(execOp a.eval o0).run P w=.ok (.value (.string ⟨s.toArray⟩)) w:=by
  rw[← hv];simp[execOp,h0]
 refine mR hg0 hrun0 ?_
 have hr1:Rel c ⟨(d0,.one (.d (.str s)))::fr,[]⟩ (a.put o0.dst (.string ⟨s.toArray⟩)) w σ φ:=by
  have:=hr.putTo (dst:=o0.dst) (v:=.one (.d (.str s))) (u:=.string ⟨s.toArray⟩) (st':=⟨fr,[]⟩) (by rw[hd0];exact hb0) hr.le hr.fresh hr.inv hr.mine hr.fra hr.pin (fun _=>RepC.d (.str hlen)) (fun s x _ hx=>⟨x,hx,fun z hz=>hz⟩)
  rw[hd0] at this ⊢;exact this
 generalize ha1:a.put o0.dst (.string ⟨s.toArray⟩)=a1 at hr1
 have hv1:a1.eval (.tmp d0)=.string ⟨s.toArray⟩:=by
  have h3:=ak hr1 (x:=.tmp d0) (v:=.one (.d (.str s))) (by simp[ev,look])
  replace h3:=RepC.d_inv h3
  generalize a1.eval (.tmp d0)=v1 at h3
  cases h3;rfl
 let ptr:Value:=.pointer (some ⟨w.heap.size,0,none⟩)
 have hrun1:(execOp a1.eval o1).run P w=.ok (.value ptr) (w.alloc (.stringIter ⟨s.toArray⟩ 0)):=by
  have h4:=run_range_string (P:=P) w t ⟨s.toArray⟩ ht
  simp only[execOp,h1,hv1]
  simp only[Hj,h4,Ha,Hr]
  rfl
 refine mR hg1 hrun1 (wpListIn_nil ?_)
 have hrA:=hr1.alien (.stringIter ⟨s.toArray⟩ 0)
 have hr2:Rel c ⟨(d1,.one (.d (.raw ptr)))::(d0,.one (.d (.str s)))::fr,[]⟩ (a1.put o1.dst ptr) (w.alloc (.stringIter ⟨s.toArray⟩ 0)) σ φ:=by
  have:=hrA.putTo (dst:=o1.dst) (v:=.one (.d (.raw ptr))) (u:=ptr) (st':=⟨(d0,.one (.d (.str s)))::fr,[]⟩) (by rw[hd1];exact hb1) hrA.le hrA.fresh hrA.inv hrA.mine hrA.fra hrA.pin (fun _=>RepC.d (.raw rfl)) (fun s x _ hx=>⟨x,hx,fun z hz=>hz⟩)
  rw[hd1] at this ⊢;exact this
 generalize a1.put o1.dst ptr=a2 at hr2
 have hold:c.w0.heap.size≤w.heap.size:=hr.fra.size
 let r:=w.heap.size
 have hr3:Rel c ⟨(d1,.one (.d (.raw ptr)))::kept,[]⟩ a2 (w.alloc (.stringIter ⟨s.toArray⟩ 0)) σ φ :=
  ⟨hr2.le,hr2.fresh,hr2.inv,hr2.mine,fun s v hv=>hr2.slot s v (SubL.look (l':=(d1,.one (.d (.raw ptr)))::kept) ⟨by simp[look],mS hkd1 (mS hkd hk)⟩ hv),hr2.defers,hr2.size,hr2.fra,hr2.pin⟩
 refine wpIn_block (wpIn_loop (fun a w=>∃ k σ φ,Inv k∧Rel c ⟨(d1,.one (.d (.raw ptr)))::kept,[]⟩ a w σ φ∧w.heap[r]?=some (.stringIter ⟨s.toArray⟩ k)) (fun _ w=>match w.heap[r]? with|some (.stringIter _ p)=>s.length-p|_=>0)
  ⟨0,σ,φ,hi,hr3,bO _ _⟩ ?_)
 clear hr3 hr2 hrA hr1 hrun1 hrun0 hv1 ha1 a1 a2
 rintro a w1 ⟨k,σ1,φ1,hI,hr4,hh⟩
 refine wpIn_seq (wpIn_region_list ?_)
 have hp:a.eval (.tmp d1)=ptr:=by
  have h3:=ak hr4 (x:=.tmp d1) (v:=.one (.d (.raw ptr))) (by simp[ev,look])
  replace h3:=RepC.d_inv h3
  generalize a.eval (.tmp d1)=v1 at h3
  cases h3;rfl
 have hsz:(⟨s.toArray⟩:ByteArray).size=s.length:=by simp[ByteArray.size]
 have fin:∀ {w2:World} {st2:St} {a2:Act} (hr5:Rel c ⟨st2.fr,[]⟩ a2 w2 σ1 φ1) (hst:st2.sto=[]) {R:St→Prop} {K:Exit→St→Prop} (_:∀ st',R st'→OkC P ⟨w2,σ1,φ1,MOf φ1 [],c.n,c.rd,[]⟩ body2 st' K)
   (_:aa P ⟨w2,σ1,φ1,MOf φ1 [],c.n,c.rd,[]⟩ (o2::l2).toArray l2 st2 R) {Z:Exit→Act→World→Prop}
   (_:∀ e a5 w5 st5 σ5 φ5,K e st5→RelE ⟨w2,σ1,φ1,MOf φ1 [],c.n,c.rd,[]⟩ e st5 a5 w5 σ5 φ5→Z e a5 w5),wpListIn (fnc c) 0 P (o2::l2).toArray (Exit.then (body2.wpIn (fnc c) 0 P Z) Z) l2 a2 w2:=by
  intro w2 st2 a2 hr5 hst R K hR hO Z hZ
  have hd0:a2.defers=[]:=hr5.defers.trans hmk
  have hd:({ a2 with defers:=[] }:Act)=a2:=by rw[← hd0]
  have hr6:=hr5.anew [] c.rd
  rw[hd] at hr6
  obtain⟨f2,s2⟩:=st2
  simp only at hst hr6
  subst hst
  refine hO a2 w2 σ1 φ1 _ hr6 fun a4 w4 σ4 φ4 st4 hK hr7=>?_
  exact wpIn_mono (hR st4 hK a4 w4 σ4 φ4 hr7) fun e a5 w5 ⟨st5,σ5,φ5,hq,hre⟩=>hZ e a5 w5 st5 σ5 φ5 hq hre
 have leave:∀ {e:Exit} {a5:Act} {w5:World} {st5:St} {σ5:Sig} {φ5:Pl},aq bl Q e st5→RelE c e st5 a5 w5 σ5 φ5→e≠.normal→Exit.inBlock bl (fun e a' w'=>∃ st' σ' φ',Q e st'∧RelE c e st' a' w' σ' φ') e a5 w5:=by
  intro e a5 w5 st5 σ5 φ5 hq hre hne
  cases e with
  | normal=>exact absurd rfl hne
  | exit i =>
    simp only[aq] at hq
    cases hb:Nat.beq i bl with
    | true =>
      have hi:=G3 hb
      rw[hb] at hq
      simp only[Exit.inBlock]
      rw[if_pos hi]
      exact⟨st5,σ5,φ5,hq,.inl (hre.rel (by simp))⟩
    | false =>
      have hi:i≠bl:=by rintro rfl;rw[HH] at hb;cases hb
      rw[hb] at hq
      simp only[Exit.inBlock]
      rw[if_neg hi]
      exact⟨st5,σ5,φ5,hq,hre⟩
  | _=>exact⟨st5,σ5,φ5,hq,hre⟩
 by_cases hlt:k<s.length
 ·have hrun2:=sC (P:=P) (ty:=o2.type) hh (by rw[hsz];exact hlt)
  have hrun:(execOp a.eval o2).run P w1=.ok (.value (.tuple #[.bool true,.int .i64 k,.int .i32 (Utf8.decode ⟨s.toArray⟩ k).1])) { w1 with heap:=w1.heap.setIfInBounds r (.stringIter ⟨s.toArray⟩ (k+(Utf8.decode ⟨s.toArray⟩ k).2)) }:=by
   simp only[execOp,h2,hp]
   simp only[Hj,ptr]
   rw[show (⟨w.heap.size,0,none⟩:Addr)=⟨r,0,none⟩ from rfl,hrun2]
   rfl
  refine mR hg2 hrun ?_
  have hri:=hr4.iter (q:=k+(Utf8.decode ⟨s.toArray⟩ k).2) hh hold
  have hrl:=decode_le ⟨s.toArray⟩ k
  have hr5:=hri.putTo (dst:=o2.dst) (v:=.tup [(false,[.d (.bool true)]),(false,[.d (.int .i64 k)]),(false,[.d (.int .i32 (gI s k))])]) (u:=.tuple #[.bool true,.int .i64 k,.int .i32 (Utf8.decode ⟨s.toArray⟩ k).1]) (st':=⟨(d1,.one (.d (.raw ptr)))::kept,[]⟩) (by rw[hd2];exact hb2) hri.le hri.fresh hri.inv hri.mine hri.fra hri.pin
   (fun _=>⟨[_,_,_],rfl,⟨⟨.d .bool,trivial⟩,⟨⟨.d (.int (by
    simp only[inR,IntKind.min,IntKind.max,IntKind.signed,IntKind.bits,if_true];omega)),trivial⟩,⟨⟨.d (.int (by
    simp only[inR,gI,IntKind.min,IntKind.max,IntKind.signed,IntKind.bits,if_true];omega)),trivial⟩,trivial⟩⟩⟩⟩) (fun s x _ hx=>⟨x,hx,fun z hz=>hz⟩)
  rw[hd2] at hr5 ⊢
  refine fin (st2:=⟨_,[]⟩) hr5 rfl (fun st' h=>h) (hmore k hI hlt ⟨_,σ1,φ1,MOf φ1 [],c.n,c.rd,[]⟩ rfl rfl rfl ptr) ?_
  rintro e a5 w5 st5 σ5 φ5 hq hre
  have hbk:=RelE.back hmk hri hre
  rcases hq with⟨rfl,hI',hsub⟩|⟨hne',hq⟩
  ·have h6:=hbk.rel (by simp)
   have h7:=hre.rel (by simp)
   have hlt1:r<w1.heap.size:=(Hk.1 hh).1
   have h8:w5.heap[r]?=some (.stringIter ⟨s.toArray⟩ (k+ir s k)):=by
    rw[h7.fra.block r (by simp only[Array.size_setIfInBounds];exact hlt1) (by rintro ⟨id,e,p,h,_⟩;simp[look] at h)]
    simp[hlt1,ir]
   have h9:=h6.dropTo (s':=[]) (by simp[look])
   refine⟨⟨_,σ5,φ5,hI',⟨h9.le,h9.fresh,h9.inv,h9.mine,fun s v hv=>h9.slot s v (hsub.look hv),h9.defers,h9.size,h9.fra,h9.pin⟩,h8⟩,?_⟩
   ·simp only[h8,hh]
    have:=u4 ⟨s.toArray⟩ k (by rw[hsz];exact hlt)
    simp only[ir]
    omega
  ·have:=leave hq hbk hne'
   cases e<;>first|exact absurd rfl hne'|exact this
 ·have hrun2:=sB (P:=P) (ty:=o2.type) hh (by rw[hsz];exact hlt)
  have hrun:(execOp a.eval o2).run P w1=.ok (.value (.tuple #[.bool false])) w1:=by
   simp only[execOp,h2,hp]
   simp only[Hj,ptr]
   rw[show (⟨w.heap.size,0,none⟩:Addr)=⟨r,0,none⟩ from rfl,hrun2]
   rfl
  refine mR hg2 hrun ?_
  have hr5:=hr4.putTo (dst:=o2.dst) (v:=.tup [(false,[.d (.bool false)])]) (u:=.tuple #[.bool false]) (st':=⟨(d1,.one (.d (.raw ptr)))::kept,[]⟩) (by rw[hd2];exact hb2) hr4.le hr4.fresh hr4.inv hr4.mine hr4.fra hr4.pin
   (fun _=>⟨[_],rfl,⟨⟨.d .bool,trivial⟩,trivial⟩⟩) (fun s x _ hx=>⟨x,hx,fun z hz=>hz⟩)
  rw[hd2] at hr5 ⊢
  refine fin (st2:=⟨_,[]⟩) hr5 rfl (fun st' h=>h) (hover k hI (by omega) ⟨_,σ1,φ1,MOf φ1 [],c.n,c.rd,[]⟩ rfl rfl rfl ptr) ?_
  rintro e a5 w5 st5 σ5 φ5 ⟨hne',hq⟩ hre
  have:=leave hq (RelE.back hmk hr4 hre) hne'
  cases e<;>first|exact absurd rfl hne'|exact this
end Go.Abs
namespace Go.Proofs.YtpejdgkaapnekaaGreat
open Go Go.Abs
attribute [local irreducible] aa OkC ah av aq aP tA w9
set_option maxRecDepth 10000
theorem CX:Tryz.prog.underlying 9=some .string:=by kernel_rfl
theorem tG{s:List UInt8}{k:Nat}(h:k<s.length):(decide (gI s k<32)||decide (126<gI s k))=!dT (at_ s k):=by
 have hb:=cv h
 by_cases ha:(at_ s k).toNat<128
 ·rw[(pT hb ha).1,HK]
  simp[dT]
  omega
 ·have:=yV hb ha
  rw[HK]
  simp[dT]
  omega
theorem Ay{s:List UInt8}{k:Nat}(h:k<s.length)(hb:dT (at_ s k)=true):ir s k=1:=by
 simp[dT] at hb
 exact (pT (cv h) (by omega)).2
theorem EP(s:List UInt8):CallA Tryz.prog 341 [.one (.d (.str s)),.one (.d (.fn 281 [])),.one (.d (.bool true))] [] (.one (.d (.int .i64 (aS (fun c=>!dT c) s 0)))) []:=by
 refine enter ag Tryz.func341 rfl (by decide +kernel) rfl fun hok w0 σ0 φ0 M=>?_
 have hl:=hok.1.str;clear hok
 repeat' (first|(refine h2H ?_;refine u5 (kept:=[(1,_),(2,_)]) J J J J J J J J J J CX J J J J J (q2Q J J) J J J (fun k=>k≤s.length∧aS (fun c=>!dT c) s 0=aS (fun c=>!dT c) (s.drop k) k) ⟨Hi _,rfl⟩ ?_ ?_)|refine wG ?_)
 ·rintro k ⟨hk,hi⟩ hlt ⟨w1,σ1,φ1,M1,n1,rd1,mk1⟩ hn hrd hmk raw
  dsimp only at hn hrd hmk
  subst hn hrd hmk
  repeat' (first|(refine h1H ?_;(refine h0H ?_;refine aj J J J J J J J J (Ey _) J ?_))|(show tA _ _ _ _ _ _;refine CP ?_ (by first|exact b8|exact (q1Q J)|exact (q2Q J J)|exact (q3Q J J J)|exact (q4Q J J J J)|exact (q5Q J J J J J)|exact (q6Q J J J J J J)|exact (q7Q J J J J J J J)))|refine wG ?_|(refine h2H ?_;refine aA J (fun h=>?_) (fun h=>?_)))
  ·rw[tG hlt] at h
   rw[hi,aB hlt]
   simp at h
   simp[aS,h]
  ·rw[tG hlt] at h
   have hb:dT (at_ s k)=true:=by simpa using h
   rw[Ay hlt hb]
   refine⟨by omega,?_⟩
   rw[hi,aB hlt]
   simp[aS,hb]
 ·rintro k ⟨hk,hi⟩ hge ⟨w1,σ1,φ1,M1,n1,rd1,mk1⟩ hn hrd hmk raw
  dsimp only at hn hrd hmk
  subst hn hrd hmk
  repeat' (first|refine wG ?_)
  rw[hi,G6 hge]
  rfl
theorem ER(s:List UInt8):CallA Tryz.prog 282 [.one (.d (.str s)),.one (.d (.fn 281 []))] [] (.one (.d (.int .i64 (aS (fun c=>!dT c) s 0)))) []:=by
 refine enter ag Tryz.func282 rfl (by decide +kernel) rfl fun hok w0 σ0 φ0 M=>?_
 clear hok
 repeat' (first|(refine h1H ?_;(refine h0H ?_;refine aj J J J J J J J J (EP _) J ?_))|refine wG ?_)
 all_goals rfl
end Go.Proofs.YtpejdgkaapnekaaGreat
namespace Go.Proofs.YtpejdgkaapnekaaGreat
open Go Go.Abs
attribute [local irreducible] aa OkC ah av aq aP
set_option maxRecDepth 10000
theorem D9(a b:Int)(ha:0≤a)(hb:0≤b):CallA Tryz.prog 280 [.one (.d (.int .i64 a)),.one (.d (.int .i64 b))] [] (.one (.d (.int .i64 ((Nat.gcd a.toNat b.toNat:Nat):Int)))) []:=by
 have:=GV a.toNat b.toNat
 rwa [Int.toNat_of_nonneg ha,Int.toNat_of_nonneg hb] at this
theorem Cp{s:List UInt8}:∀ (k:Nat),(decide (aS (fun c=>!dT c) s k<0))=s.all dT:=by
 induction s with
 | nil=>intro k;simp[aS]
 | cons c r ih =>
   intro k
   simp only[aS,List.all_cons,← ih (k+1)]
   rw[HK]
   by_cases hc:dT c=true<;>simp[hc]
theorem E7(k n d:Int)(s:List UInt8):CallA Tryz.prog 233 [.agg [.d (.int .i64 k),.d (.int .i64 n),.d (.int .i64 d),.d (.str s)]] [] (.one (.d (.bool (mO k n d s)))) []:=by
 refine enter ag Tryz.func233 rfl (by decide +kernel) rfl fun hok w0 σ0 φ0 M=>?_
 have h1:=(hok.1 (.d (.int .i64 n)) (by simp));replace h1:=OkD.i64 h1;clear hok
 repeat' (first|(refine h1H ?_;(refine h0H ?_;first|refine aj J J J J J J J J (GU _ _ _ _) J ?_|refine aj J J J J J J J J (D9 _ _ wB wB) J ?_|refine aj J J J J J J J J (ER _) J ?_))|refine wG ?_|(refine h1H ?_;(refine h9H ?_;refine cq J J J J (fun h=>?_) (fun h=>?_)))|(refine h2H ?_;refine aA J (fun h=>?_) (fun h=>?_)))
 all_goals (try (((simp_all[mO,← Cp 0,aB,G6])<;>exact wL);done))
theorem Ex(k n d:Int)(s:List UInt8)(t:Int):CallA Tryz.prog 215 [.agg [.d (.int .i64 k),.d (.int .i64 n),.d (.int .i64 d),.d (.str s)],.one (.d (.int .i64 t))] [] (.one (.d (.bool (sK k n d s t)))) []:=by
 refine enter ag Tryz.func215 rfl (by decide +kernel) rfl fun hok w0 σ0 φ0 M=>?_
 clear hok
 repeat' (first|(refine h1H ?_;(refine h0H ?_;refine aj J J J J J J J J (E7 _ _ _ _) J ?_))|refine wG ?_|(refine h1H ?_;(refine h9H ?_;refine cq J J J J (fun h=>?_) (fun h=>?_)))|(refine h2H ?_;refine aA J (fun h=>?_) (fun h=>?_)))
 all_goals (try (((simp_all[sK,aB,G6])<;>exact wL);done))
 all_goals (by_cases hk:k=0<;>simp_all[sK,mO])
 all_goals omega
structure Cell where
 at':List Int
 vals:List Val
 deriving Inhabited
def ay(c:Cell):List D:=[aC c.at',cR c.vals]
def aG(l:List Cell):D:=.sl 2 48 (l.map ay)
def eK:List Attr→List Val→Int
 | a::ats,v::vs=>if !sK v.kind v.num v.den v.str a.type then 12 else eK ats vs
 | _,_=>0
def dc(ds:List Dim)(ats:List Attr)(at':List Int)(vs:List Val):Int :=
 if (at'.length:Int)≠ds.length∨(vs.length:Int)≠ats.length then 13 else if !ofF ds at' then 3 else eK ats vs
theorem Ev(ds:List Dim)(ats:List Attr)(at':List Int)(vs:List Val):CallA Tryz.prog 161 [.one (.d (ar ds)),.one (.d (al ats)),.agg [.d (aC at'),.d (cR vs)]] [] (.one (.d (.int .i64 (dc ds ats at' vs)))) []:=by
 refine enter ag Tryz.func161 rfl (by decide +kernel) rfl fun hok w0 σ0 φ0 M=>?_
 have h1:=hok.1.sl.1;have h2:=hok.2.1.sl.1;have h3:=OkD.sl (hok.2.2.1 (.d (aC at')) (by simp));have h4:=OkD.sl (hok.2.2.1 (.d (cR vs)) (by simp));clear hok
 replace h3:=h3.1;replace h4:=h4.1;simp only[G2] at h1 h2 h3 h4
 repeat' (first|(refine h1H ?_;(refine h0H ?_;refine aj J J J J J J J J (Ew _ _) J ?_))|(refine h4H ?_;(refine h3H ?_;refine d_l J J (jk J J J J J J (Ex _ _ _ _ _) J) ?_))|refine wG ?_|(refine h1H ?_;(refine h9H ?_;refine cq J J J J (fun h=>?_) (fun h=>?_)))|(refine h2H ?_;first|refine aA J (fun h=>?_) (fun h=>?_)|refine c9 6 J [(1,_),(29,_),(30,_)] (q3Q J J J) (fun (k:Nat)=>[(31,.one (.d (.int .i64 k)))]) (fun (k:Nat)=>k≤vs.length∧at'.length=ds.length∧vs.length=ats.length∧ofF ds at'=true∧dc ds ats at' vs=eK (ats.drop k) (vs.drop k)) (fun (k:Nat)=>vs.length-k) 0 (q1Q J) ?_ (fun k ⟨hk,hq,hq2,hof,hs⟩=>?_))|(show Exists _;refine Exists.intro (k+1) ⟨?_,?_,wK,(q1Q J),(q3Q J J J)⟩))
 all_goals (try (((simp_all[dc,eK,aB,G6])<;>exact wL);done))
def cP(ds:List Dim)(ats:List Attr):Option (List Int)→List Cell→Int
 | _,[]=>0
 | none,c::r=>if dc ds ats c.at' c.vals≠0 then dc ds ats c.at' c.vals else cP ds ats (some c.at') r
 | some p,c::r=>if dc ds ats c.at' c.vals≠0 then dc ds ats c.at' c.vals else if aT p c.at'=0 then 5 else if 0<aT p c.at' then 2 else cP ds ats (some c.at') r
def dm(ds:List Dim)(ats:List Attr)(cs:List Cell):Int:=if c6 ds ats≠0 then c6 ds ats else if 4096<(cs.length:Int) then 9 else cP ds ats none cs
def pv(cs:List Cell)(k:Nat):Option (List Int):=if k=0 then none else some (at_ cs ((k:Int)-1).toNat).at'
theorem vr{cs:List Cell}:pv cs 0=none:=rfl
theorem yB{cs:List Cell}{k:Nat}(h:¬ k=0):pv cs k=some (at_ cs ((k:Int)-1).toNat).at':=by simp[pv,h]
theorem vt{cs:List Cell}{k:Nat}:pv cs (k+1)=some (at_ cs k).at':=by
 have:(((k+1:Nat):Int)-1).toNat=k:=by omega
 rw[yB (by omega),this]
theorem uW{ds:List Dim}{ats:List Attr}{p:Option (List Int)}{c:Cell}{r:List Cell}(h:dc ds ats c.at' c.vals≠0):cP ds ats p (c::r)=dc ds ats c.at' c.vals:=by cases p<;>simp[cP,h]
theorem pE:∀ {a b:List Int},aT a b=0∨aT a b=1∨aT a b=-1
 | [],[]=>by simp[aT]
 | [],_::_=>by simp[aT]
 | _::_,[]=>by simp[aT]
 | x::xs,y::ys=>by
   simp only[aT]
   split
   ·simp
   ·split
    ·simp
    ·exact pE
theorem zY{a b:List Int}:0<aT a b↔aT a b=1:=by
 rcases pE (a:=a) (b:=b) with h|h|h<;>simp[h]
end Go.Proofs.YtpejdgkaapnekaaGreat
namespace Go.Proofs.YtpejdgkaapnekaaGreat
open Go Go.Abs
def ltC(x y:Cell):Prop:=aT x.at' y.at'<0
def leC(x y:Cell):Bool:=decide (aT x.at' y.at'≤0)
def cx(x y:Cell):Prop:=x.at'≠y.at'
def bI(cs:List Cell):List Cell:=cs.mergeSort leC
theorem bK(cs:List Cell):(bI cs).Perm cs:=List.mergeSort_perm cs leC
theorem mW{x y z:Cell}(h1:ltC x y)(h2:ltC y z):ltC x z:=by
 unfold ltC at *
 have h:=eH x.at' y.at' z.at' (by omega) (by omega)
 have:=h.2
 by_cases h0:aT x.at' z.at'=0
 ·have:=this h0;omega
 ·omega
theorem jm{x:Cell}(h:ltC x x):False:=by
 unfold ltC at h;rw[j7] at h;omega
theorem Ax{x y:Cell}(h:ltC x y):cx x y:=fun e=>by
 unfold ltC at h;rw[e,j7] at h;omega
theorem mz{x y:Cell}(h:¬ aT y.at' x.at'<0)(hd:cx x y):ltC x y:=by
 have h1:=e7 x.at' y.at'
 unfold ltC
 by_cases h0:aT x.at' y.at'=0
 ·exact absurd (vL _ _ h0) hd
 ·omega
theorem xc:∀ {x y:Cell},cx x y→cx y x:=fun h e=>h e.symm
theorem iF:∀ {l m:List Cell},l.Perm m→l.Pairwise ltC→m.Pairwise ltC→l=m
 | [],m,hp,_,_=>(List.nil_perm.1 hp).symm ▸ rfl
 | x::l,[],hp,_,_=>by have:=hp.length_eq;simp at this
 | x::l,y::m,hp,h1,h2=>by
   rw[List.pairwise_cons] at h1 h2
   have hxy:x=y:=by
    have hx:x∈y::m:=hp.mem_iff.1 Hc
    have hy:y∈x::l:=hp.mem_iff.2 Hc
    rcases Hm.1 hx with e|hx
    ·exact e
    ·rcases Hm.1 hy with e|hy
     ·exact e.symm
     ·exact (jm (mW (h1.1 y hy) (h2.1 x hx))).elim
   subst hxy
   rw[iF (hp.cons_inv) h1.2 h2.2]
theorem bP{l:List Cell}(h:l.Pairwise ltC):l.Pairwise cx:=h.imp Ax
theorem rT{l m:List Cell}(hp:l.Perm m)(h:m.Pairwise cx):l.Pairwise cx:=(hp.pairwise_iff (fun h=>xc h)).2 h
theorem cH{cs:List Cell}(h:cs.Pairwise cx):(bI cs).Pairwise ltC:=by
 have h1:(bI cs).Pairwise fun a b=>leC a b=true:=List.pairwise_mergeSort (le:=leC) (fun a b c h1 h2=>by
  simp only[leC,HX] at *
  exact (eH _ _ _ h1 h2).1) (fun a b=>by
  have:=e7 a.at' b.at'
  simp only[leC,Hq,HX];omega) cs
 have h2:=rT (bK cs) h
 refine (h1.and h2).imp fun {a b} h=>?_
 have hl:aT a.at' b.at'≤0:=by simpa[leC] using h.1
 refine mz ?_ h.2
 have:=e7 a.at' b.at'
 omega
theorem yo{cs:List Cell}(h:cs.Pairwise cx):∀ l:List Cell,l.Perm cs→l.Pairwise (fun x y=>¬ aT y.at' x.at'<0)→l=bI cs:=fun l hp hs =>
 iF (hp.trans (bK cs).symm) ((hs.and (rT hp h)).imp fun {a b} h=>mz h.1 h.2) (cH h)
theorem tt{cs:List Cell}(h:cs.Pairwise ltC):bI cs=cs:=iF (bK cs) (cH (bP h)) h
theorem dy(cs:List Cell):(bI cs).length=cs.length:=(bK cs).length_eq
theorem tE{cs ds:List Cell}(p:Cell→Bool)(h:cs.Pairwise cx)(hd:ds.Pairwise ltC)(he:(cs.filter p).Perm ds):(bI cs).filter p=ds :=
 iF (((bK cs).filter p).trans he) ((cH h).filter p) hd
theorem mX{ds:List Dim}{ats:List Attr}:∀ {cs:List Cell} {p:List Int},cP ds ats (some p) cs=0→(∀ c∈cs,aT p c.at'<0)∧cs.Pairwise ltC∧∀ c∈cs,dc ds ats c.at' c.vals=0
 | [],p,_=>⟨by simp,.nil,by simp⟩
 | c::r,p,h=>by
   simp only[cP] at h
   split at h
   ·rename_i h1;exact absurd h h1
   split at h
   ·omega
   split at h
   ·omega
   rename_i h1 h2 h3
   have hlt:aT p c.at'<0:=by omega
   obtain⟨i1,i2,i3⟩:=mX h
   refine⟨fun x hx=>?_,List.pairwise_cons.2 ⟨i1,i2⟩,fun x hx=>?_⟩
   ·rcases Hm.1 hx with rfl|hx
    ·exact hlt
    ·exact mW (x:=⟨p,[]⟩) (y:=c) hlt (i1 x hx)
   ·rcases Hm.1 hx with rfl|hx
    ·simpa using h1
    ·exact i3 x hx
theorem tF{ds:List Dim}{ats:List Attr}{cs:List Cell}(h:cP ds ats none cs=0):cs.Pairwise ltC∧∀ c∈cs,dc ds ats c.at' c.vals=0:=by
 cases cs with
 | nil=>exact⟨.nil,by simp⟩
 | cons c r =>
   simp only[cP] at h
   split at h
   ·rename_i h1;exact absurd h h1
   rename_i h1
   obtain⟨i1,i2,i3⟩:=mX h
   refine⟨List.pairwise_cons.2 ⟨i1,i2⟩,fun x hx=>?_⟩
   rcases Hm.1 hx with rfl|hx
   ·simpa using h1
   ·exact i3 x hx
structure OkA (ds:List Dim) (ats:List Attr) (cs:List Cell):Prop where
 sch:c6 ds ats=0
 few:cs.length≤4096
 srt:cs.Pairwise ltC
 cel:∀ c∈cs,dc ds ats c.at' c.vals=0
theorem okA{ds:List Dim}{ats:List Attr}{cs:List Cell}(h:dm ds ats cs=0):OkA ds ats cs:=by
 unfold dm at h
 split at h
 ·rename_i h1;exact absurd h h1
 split at h
 ·omega
 rename_i h1 h2
 obtain⟨h3,h4⟩:=tF h
 exact⟨by simpa using h1,by omega,h3,h4⟩
theorem pV{ds:List Dim}{ats:List Attr}:∀ {cs:List Cell} {p:Option (List Int)},(∀ q,p=some q→∀ c∈cs,aT q c.at'<0)→cs.Pairwise ltC→(∀ c∈cs,dc ds ats c.at' c.vals=0)→cP ds ats p cs=0
 | [],p,_,_,_=>by cases p<;>rfl
 | c::r,p,h1,h2,h3=>by
   rw[List.pairwise_cons] at h2
   have h4:=h3 c Hc
   have ih:cP ds ats (some c.at') r=0:=pV (fun q e x hx=>by cases e;exact h2.1 x hx) h2.2 (fun x hx=>h3 x (G9 _ hx))
   cases p with
   | none=>simp only[cP,h4,ne_eq,not_true_eq_false,if_false,ih]
   | some q =>
     have h5:=h1 q rfl c Hc
     simp only[cP,h4,ne_eq,not_true_eq_false,if_false,ih]
     rw[if_neg (by omega),if_neg (by omega)]
theorem iM{ds:List Dim}{ats:List Attr}{cs:List Cell}(h:OkA ds ats cs):dm ds ats cs=0:=by
 unfold dm
 rw[if_neg (by simp[h.sch]),if_neg (by have:=h.few;omega)]
 exact pV (fun q e=>by cases e) h.srt h.cel
theorem aV{ds:List Dim}{ats:List Attr}(h:c6 ds ats=0):dh ds=0∧1≤ats.length∧ats.length≤6∧dv (ds.map Dim.name) ats=0:=by
 unfold c6 at h
 split at h
 ·rename_i h1;exact absurd h h1
 split at h
 ·omega
 rename_i h1 h2
 exact⟨by simpa using h1,by omega,by omega,h⟩
theorem rU:∀ {ds:List Dim} {met:List (List UInt8)},fL met ds=0→(∀ d∈ds,ep d.lo d.hi=true∧eX d.name=true∧d.name ∉ met)∧(ds.map Dim.name).Nodup
 | [],met,_=>⟨by simp,by simp⟩
 | d::r,met,h=>by
   simp only[fL] at h
   split at h
   ·omega
   split at h
   ·omega
   rename_i h1 h2
   obtain⟨i1,i2⟩:=rU h
   simp only[Hq,Hd,not_or,Bool.not_eq_false,HO,List.contains_eq_mem,HX,HY] at h1
   refine⟨fun x hx=>?_,?_⟩
   ·rcases Hm.1 hx with rfl|hx
    ·exact⟨by simpa using h2,h1.1,h1.2⟩
    ·obtain⟨j1,j2,j3⟩:=i1 x hx
     exact⟨j1,j2,fun hm=>j3 (HB.2 (.inl hm))⟩
   ·rw[HE,H5]
    refine⟨fun hm=>?_,i2⟩
    obtain⟨x,hx,he⟩:=Hh.1 hm
    exact (i1 x hx).2.2 (by rw[he];simp)
theorem fU{ds:List Dim}(h:dh ds=0):1≤ds.length∧ds.length≤4∧(∀ d∈ds,ep d.lo d.hi=true∧eX d.name=true)∧(ds.map Dim.name).Nodup:=by
 unfold dh at h
 split at h
 ·omega
 rename_i h1
 obtain⟨h2,h3⟩:=rU h
 exact⟨by omega,by omega,fun d hd=>⟨(h2 d hd).1,(h2 d hd).2.1⟩,h3⟩
theorem boundsF_ok{lo hi:Int}:ep lo hi=true↔-1073741824≤lo∧lo≤1073741824∧lo≤hi∧hi≤1073741825:=by
 simp only[ep,GZ,HX];omega
theorem cellF_ok{ds:List Dim}{ats:List Attr}{at':List Int}{vs:List Val}:dc ds ats at' vs=0↔at'.length=ds.length∧vs.length=ats.length∧dL ds at'=true∧eK ats vs=0:=by
 unfold dc
 constructor
 ·intro h
  split at h
  ·omega
  rename_i h1
  have e1:at'.length=ds.length:=by omega
  split at h
  ·omega
  rename_i h2
  refine⟨e1,by omega,?_,h⟩
  simpa[ofF,e1] using h2
 ·rintro ⟨h1,h2,h3,h4⟩
  rw[if_neg (by omega),if_neg (by simp[ofF,h1,h3])]
  exact h4
theorem bQ:∀ {ds:List Dim} {xs:List Int},xs.length=ds.length→(dL ds xs=true↔∀ i,i<ds.length→(at_ ds i).lo≤at_ xs i∧at_ xs i≤dU (at_ ds i).hi)
 | [],[],_=>by simp[dL]
 | d::ds,x::xs,h=>by
   have ih:=bQ (ds:=ds) (xs:=xs) (by simpa using h)
   simp only[dL,GZ,HX,ih]
   constructor
   ·rintro ⟨⟨h1,h2⟩,h3⟩ i hi
    cases i with
    | zero=>exact⟨h1,h2⟩
    | succ i=>exact h3 i (by simpa using hi)
   ·intro h4
    exact⟨⟨(h4 0 (by simp)).1,(h4 0 (by simp)).2⟩,fun i hi=>h4 (i+1) (by simpa using hi)⟩
 | [],_::_,h=>by simp at h
 | _::_,[],h=>by simp at h
end Go.Proofs.YtpejdgkaapnekaaGreat
namespace Go.Proofs.YtpejdgkaapnekaaGreat
open Go Go.Abs
attribute [local irreducible] aa OkC ah av aq aP
set_option maxRecDepth 10000
theorem rP{s:List UInt8}:eX s=true↔(1≤s.length∧s.length≤12)∧iu (at_ s 0).toNat=true∧∀ j,j<s.length→jP (at_ s j).toNat=true:=by
 simp only[eX,GZ,HX,HN,and_assoc]
 refine and_congr_right fun _=>and_congr_right fun _=>and_congr_right fun _=>⟨fun h j hj=>h _ (aW hj),fun h x hx=>?_⟩
 obtain⟨j,hj⟩:=List.getElem?_of_mem hx
 have hl:=(G7.1 hj).1
 rw[cv hl] at hj
 rw[← Option.some.inj hj];exact h j hl
theorem As(s:List UInt8):CallA Tryz.prog 142 [.one (.d (.str s))] [] (.one (.d (.bool (eX s)))) []:=by
 refine enter ag Tryz.func142 rfl (by decide +kernel) rfl fun hok w0 σ0 φ0 M=>?_
 have h1:=hok.1.str;clear hok
 repeat' (first|refine wG ?_|(refine h1H ?_;(refine h9H ?_;refine cq J J J J (fun h=>?_) (fun h=>?_)))|(refine h2H ?_;first|refine aA J (fun h=>?_) (fun h=>?_)|refine c9 4 J [(15,_),(16,_)] (q2Q J J) (fun (k:Nat)=>[(17,.one (.d (.int .i64 k)))]) (fun (k:Nat)=>k≤s.length∧1≤s.length∧s.length≤12∧(0<k→iu (at_ s 0).toNat=true)∧(∀ j,j<k→jP (at_ s j).toNat=true)) (fun (k:Nat)=>s.length-k) 0 (q1Q J) ?_ (fun k ⟨hk,hq,hq2,hf,hs⟩=>?_))|(show Exists _;refine Exists.intro (k+1) ⟨?_,?_,wK,(q1Q J),(q2Q J J)⟩))
 all_goals (try simp only[a0A,a1A,a2A,Bool.not_eq_false',a3A,a4A,a5A,a7A,a8A,a9A,CU,CV,o6] at *)
 all_goals first
  | omega
  | (refine⟨by omega,by omega,by omega,?_,?_⟩
     ·intro hk0
      by_cases h0:0<k
      ·exact hf h0
      ·have hk0':k=0:=by omega
       subst hk0'
       simp only[iu,GZ,HX];omega
     ·intro j hj
      rcases HG j k with hjk|hjk
      ·exact hs j hjk
      ·have hje:j=k:=by omega
       subst hje
       simp only[jP,iu,Hq,GZ,HX];omega)
  | (congr 3;symm;rw[Bool.eq_false_iff,ne_eq,rP];rintro ⟨hlen,h0,hj⟩
     first
      | omega
      | (have hjk:=hj k (by omega)
         simp only[jP,iu,Hq,GZ,HX] at hjk h0
         by_cases hk0:k=0
         ·subst hk0;omega
         ·omega))
  | (congr 3;symm;rw[rP];exact⟨⟨hq,hq2⟩,hf (by omega),fun j hj=>hs j (by omega)⟩)
  | (refine⟨by omega,by omega,by omega,fun h=>by omega,fun j hj=>by omega⟩)
theorem DP(ds:List Dim)(hne:dh ds≠0):CallA Tryz.prog 190 [.one (.d (ar ds)),.one (.mapr 1000000)] [(1000000,.map false false (cw []))] (.one (.d (.int .i64 (dh ds)))) []:=by
 refine enter ag Tryz.func190 rfl (by decide +kernel) rfl fun hok w0 σ0 φ0 M=>?_
 have h1:=hok.1.sl.1;clear hok;simp only[G2] at h1
 repeat' (first|(refine h1H ?_;(refine h0H ?_;refine aj J J J J J J J J (As _) J ?_))|refine wG ?_|(refine h1H ?_;(refine h9H ?_;refine cq J J J J (fun h=>?_) (fun h=>?_)))|(refine h2H ?_;first|refine aA J (fun h=>?_) (fun h=>?_)|refine fy 4 J [(1,_),(15,_),(16,_)] (q3Q J J J) (fun (p:Nat×List (List UInt8))=>[(17,.one (.d (.int .i64 (p.1:Int))))]) (fun (p:Nat×List (List UInt8))=>[(1000000,.map false false (cw p.2))]) (fun (p:Nat×List (List UInt8))=>p.1≤ds.length∧(1:Int)≤ds.length∧(ds.length:Int)≤4∧dh ds=fL p.2 (ds.drop p.1)) (fun (p:Nat×List (List UInt8))=>ds.length-p.1) (0,[]) (q1Q J) wK ?_ (fun p ⟨hk,hq,hq2,hs⟩=>?_))|(show Exists _;refine Exists.intro ((p.1+1,p.2++[(at_ ds p.1).name])) ⟨?_,?_,wK,(q1Q J),(q3Q J J J)⟩))
 all_goals (try (((simp_all[dh,fL,ep,aB,G6])<;>exact wL);done))
theorem DQ(ds:List Dim)(he:dh ds=0):CallA Tryz.prog 190 [.one (.d (ar ds)),.one (.mapr 1000000)] [(1000000,.map false false (cw []))] (.one (.d (.int .i64 0))) [(1000000,.map false false (cw (ds.map Dim.name)))]:=by
 refine enter ag Tryz.func190 rfl (by decide +kernel) rfl fun hok w0 σ0 φ0 M=>?_
 have h1:=hok.1.sl.1;clear hok;simp only[G2] at h1
 repeat' (first|(refine h1H ?_;(refine h0H ?_;refine aj J J J J J J J J (As _) J ?_))|refine wG ?_|(refine h1H ?_;(refine h9H ?_;refine cq J J J J (fun h=>?_) (fun h=>?_)))|(refine h2H ?_;first|refine aA J (fun h=>?_) (fun h=>?_)|refine fy 4 J [(1,_),(15,_),(16,_)] (q3Q J J J) (fun (p:Nat×List (List UInt8))=>[(17,.one (.d (.int .i64 (p.1:Int))))]) (fun (p:Nat×List (List UInt8))=>[(1000000,.map false false (cw p.2))]) (fun (p:Nat×List (List UInt8))=>p.1≤ds.length∧fL p.2 (ds.drop p.1)=0∧p.2=(ds.take p.1).map Dim.name) (fun (p:Nat×List (List UInt8))=>ds.length-p.1) (0,[]) (q1Q J) wK ?_ (fun p ⟨hk,hs,hm⟩=>?_))|(show Exists _;refine Exists.intro ((p.1+1,p.2++[(at_ ds p.1).name])) ⟨?_,?_,wK,(q1Q J),(q3Q J J J)⟩))
 all_goals (try (((simp_all[dh,fL,ep,fY,aB,G6])<;>exact wL);done))
 ·have hl:ds.length≤p.1:=by simpa using h
  have hp:p.2=ds.map Dim.name:=by rw[hm,G1 hl]
  rw[hp]
  exact rQ (.inl rfl) rfl rfl rfl (q1Q rfl)
theorem DS(ds:List Dim)(ats:List Attr)(hne:dh ds≠0):CallA Tryz.prog 108 [.one (.d (ar ds)),.one (.d (al ats))] [] (.one (.d (.int .i64 (c6 ds ats)))) []:=by
 refine enter ag Tryz.func108 rfl (by decide +kernel) rfl fun hok w0 σ0 φ0 M=>?_
 clear hok
 repeat' (first|refine wG ?_)
 refine qB 16 [(1000000,0)] (rav':=.one (.d (.int .i64 (dh ds)))) (DP ds hne) rfl rfl rfl rfl rfl rfl ⟨⟨0,rfl,rfl⟩,trivial⟩ trivial rfl rfl rfl rfl ?_
 repeat' (first|refine wG ?_|(refine h1H ?_;(refine h9H ?_;refine cq J J J J (fun h=>?_) (fun h=>?_)))|(refine h2H ?_;refine aA J (fun h=>?_) (fun h=>?_)))
 all_goals (try (((simp_all[c6,aB,G6])<;>exact wL);done))
theorem DT(ds:List Dim)(ats:List Attr)(he:dh ds=0):CallA Tryz.prog 108 [.one (.d (ar ds)),.one (.d (al ats))] [] (.one (.d (.int .i64 (c6 ds ats)))) []:=by
 refine enter ag Tryz.func108 rfl (by decide +kernel) rfl fun hok w0 σ0 φ0 M=>?_
 have h1:=hok.2.1.sl.1;clear hok;simp only[G2] at h1
 repeat' (first|refine wG ?_)
 refine qB 16 [(1000000,0)] (rav':=.one (.d (.int .i64 0))) (DQ ds he) rfl rfl rfl rfl rfl rfl ⟨⟨0,rfl,rfl⟩,trivial⟩ ⟨fun i e h1 h2=>?_,trivial⟩ rfl rfl rfl rfl ?_
 ·have h1':some 0=some i:=h1
  cases h1'
  have h2':some (AObj.map false false (cw []))=some e:=h2
  cases h2'
  exact⟨rfl,rfl⟩
 repeat' (first|(refine h1H ?_;(refine h0H ?_;refine aj J J J J J J J J (As _) J ?_))|refine wG ?_|(refine h1H ?_;(refine h9H ?_;refine cq J J J J (fun h=>?_) (fun h=>?_)))|(refine h2H ?_;first|refine aA J (fun h=>?_) (fun h=>?_)|refine fy 8 J [(5,_),(24,_),(25,_)] (q3Q J J J) (fun (p:Nat×List (List UInt8))=>[(26,.one (.d (.int .i64 (p.1:Int))))]) (fun (p:Nat×List (List UInt8))=>[(0,.map false false (cw p.2))]) (fun (p:Nat×List (List UInt8))=>p.1≤ats.length∧dh ds=0∧(1:Int)≤ats.length∧(ats.length:Int)≤6∧c6 ds ats=dv p.2 (ats.drop p.1)) (fun (p:Nat×List (List UInt8))=>ats.length-p.1) (0,ds.map Dim.name) (q1Q J) wK ?_ (fun p ⟨hk,hd,hq,hq2,hs⟩=>?_))|(show Exists _;refine Exists.intro ((p.1+1,p.2++[(at_ ats p.1).name])) ⟨?_,?_,wK,(q1Q J),(q3Q J J J)⟩))
 all_goals (try (((simp_all[c6,dv,aB,G6])<;>exact wL);done))
theorem ES(ds:List Dim)(ats:List Attr):CallA Tryz.prog 108 [.one (.d (ar ds)),.one (.d (al ats))] [] (.one (.d (.int .i64 (c6 ds ats)))) []:=by
 by_cases h:dh ds=0
 ·exact DT ds ats h
 ·exact DS ds ats h
theorem c59(ds:List Dim)(ats:List Attr)(cs:List Cell):CallA Tryz.prog 59 [.agg [.d (ar ds),.d (al ats),.d (aG cs)]] [] (.one (.d (.int .i64 (dm ds ats cs)))) []:=by
 refine enter ag Tryz.func59 rfl (by decide +kernel) rfl fun hok w0 σ0 φ0 M=>?_
 have h1:=(OkD.sl (hok.1 (.d (aG cs)) (by simp))).1;clear hok;simp only[G2] at h1
 repeat' (first|(refine h1H ?_;(refine h0H ?_;first|refine aj J J J J J J J J (ES _ _) J ?_|refine aj J J J J J J J J (Ev _ _ _ _) J ?_))|(refine h4H ?_;(refine h3H ?_;refine d_l J J (jk J J J J J J (c35 _ _) J) ?_))|refine wG ?_|(refine h2H ?_;first|refine aA J (fun h=>?_) (fun h=>?_)|refine c9 7 J [(1,_),(20,_),(21,_)] (q3Q J J J) (fun (k:Nat)=>[(22,.one (.d (.int .i64 k)))]) (fun (k:Nat)=>k≤cs.length∧c6 ds ats=0∧(cs.length:Int)≤4096∧dm ds ats cs=cP ds ats (pv cs k) (cs.drop k)) (fun (k:Nat)=>cs.length-k) 0 (q1Q J) ?_ (fun k ⟨hk,hsc,hq,hs⟩=>?_))|(show Exists _;refine Exists.intro (k+1) ⟨?_,?_,wK,(q1Q J),(q3Q J J J)⟩))
 all_goals (try (((simp_all[dm,cP,vr,yB,vt,zY,aB,G6])<;>exact wL);done))
 ·rename_i hlt
  have hk':k<cs.length:=by simpa using hlt
  have hb:dc ds ats (at_ cs k).at' (at_ cs k).vals≠0:=by simpa using h
  rw[hs,aB hk',uW hb];simp
 ·rename_i hlt hc
  have hk':k<cs.length:=by simpa using hlt
  have hk0:k=0:=by simpa using h
  have hb:dc ds ats (at_ cs k).at' (at_ cs k).vals=0:=by simpa using hc
  refine⟨by omega,hsc,hq,?_⟩
  rw[hs,aB hk',vt]
  subst hk0
  simp[cP,hb,vr]
def dA{α:Type}(p:α→α→Bool):List α→List α→Bool
 | x::a,y::b=>if p x y then dA p a b else false
 | _,_=>true
def cM{α:Type}(p:α→α→Bool)(a b:List α):Bool:=if (a.length:Int)≠b.length then false else dA p a b
def ma(x y:Val):Bool:=bV (bW x) (bW y)
def l9(x y:Dim):Bool:=bV (aN x) (aN y)
def jS(x y:Attr):Bool:=bV (aL x) (aL y)
def iQ(x y:Cell):Bool:=cM (fun x y=>x==y) x.at' y.at'&&cM ma x.vals y.vals
end Go.Proofs.YtpejdgkaapnekaaGreat
namespace Go.Proofs.YtpejdgkaapnekaaGreat
open Go Go.Abs
theorem cF{α:Type}[Inhabited α]:∀ {l m:List α},l.length=m.length→(∀ i,i<l.length→at_ l i=at_ m i)→l=m
 | [],[],_,_=>rfl
 | x::l,y::m,h,he=>by
   have h0:x=y:=he 0 (by simp)
   rw[h0,cF (l:=l) (m:=m) (by simpa using h) fun i hi=>he (i+1) (by simpa using hi)]
 | [],_::_,h,_=>by simp at h
 | _::_,[],h,_=>by simp at h
theorem pG{α:Type}[Inhabited α]{l:List α}{k i:Nat}{x:α}(h:i<l.length):at_ (l.set k x) i=if i=k then x else at_ l i:=by
 simp only[at_,Hg,List.getElem?_set]
 by_cases e:k=i
 ·subst e;simp[h]
 ·rw[if_neg e,if_neg (fun h=>e h.symm)]
theorem bt{α:Type}[Inhabited α]{l:List α}{x:α}(h:x∈l):∃ i,i<l.length∧at_ l i=x:=by
 obtain⟨i,hi⟩:=List.getElem?_of_mem h
 have hl:=(G7.1 hi).1
 exact⟨i,hl,by rw[cv hl] at hi;exact Option.some.inj hi⟩
theorem tO{α β γ:Type}[Inhabited α][Inhabited β][Inhabited γ]{f:α→β→γ}{l:List α}{m:List β}{i:Nat}(h:i<l.length)(h':i<m.length):at_ (l.zipWith f m) i=f (at_ l i) (at_ m i):=by
 simp[at_,Hg,List.getElem?_zipWith,h,h']
theorem Dim.ext{a b:Dim}(h1:a.name=b.name)(h2:a.lo=b.lo)(h3:a.hi=b.hi):a=b:=by cases a;cases b;simp_all
structure Arr where
 dims:List Dim
 attrs:List Attr
 cells:List Cell
 deriving Inhabited
def ze(a:Arr):List D:=[ar a.dims,al a.attrs,aG a.cells]
def qP(l:List Arr):D:=.sl 3 72 (l.map ze)
def bB(a:Arr):AV:=.agg [.d (ar a.dims),.d (al a.attrs),.d (aG a.cells)]
theorem qq{α:Type}[Inhabited α]{p:α→α→Bool}:∀ {a b:List α},a.length=b.length→(dA p a b=true↔∀ i,i<a.length→p (at_ a i) (at_ b i)=true)
 | [],[],_=>by simp[dA]
 | x::a,y::b,h=>by
   have ih:=qq (p:=p) (a:=a) (b:=b) (by simpa using h)
   simp only[dA]
   constructor
   ·intro h1 i hi
    split at h1
    ·rename_i h2
     cases i with
     | zero=>exact h2
     | succ i=>exact ih.1 h1 i (by simpa using hi)
    ·cases h1
   ·intro h1
    have h0:p x y=true:=h1 0 (by simp)
    rw[if_pos h0]
    exact ih.2 fun i hi=>h1 (i+1) (by simpa using hi)
 | [],_::_,h=>by simp at h
 | _::_,[],h=>by simp at h
theorem zr{α:Type}[Inhabited α]{p:α→α→Bool}{a b:List α}:cM p a b=true↔a.length=b.length∧∀ i,i<a.length→p (at_ a i) (at_ b i)=true:=by
 unfold cM
 by_cases h:a.length=b.length
 ·rw[if_neg (by omega),qq h]
  exact Iff.intro (fun h1=>And.intro h h1) (fun h1=>h1.2)
 ·rw[if_pos (by omega)]
  exact Iff.intro (fun h1=>by cases h1) (fun h1=>absurd h1.1 h)
theorem j5{α:Type}[Inhabited α]{p:α→α→Bool}(hp:∀ x y,p x y=true↔x=y){a b:List α}:cM p a b=true↔a=b:=by
 rw[zr]
 constructor
 ·rintro ⟨h1,h2⟩
  exact cF h1 fun i hi=>(hp _ _).1 (h2 i hi)
 ·rintro rfl
  exact⟨rfl,fun i hi=>(hp _ _).2 rfl⟩
theorem zt(x y:Int):(x==y)=true↔x=y:=by simp
theorem zh(x y:Dim):l9 x y=true↔x=y:=by
 cases x;cases y
 simp[l9,aN,bV,eqD]
theorem xK(x y:Attr):jS x y=true↔x=y:=by
 cases x;cases y
 simp[jS,aL,bV,eqD]
theorem zu(x y:Val):ma x y=true↔x=y:=by
 cases x;cases y
 simp[ma,bW,bV,eqD]
theorem xL(x y:Cell):iQ x y=true↔x=y:=by
 cases x;cases y
 simp[iQ,j5 zt,j5 zu]
def dH(ds:List Dim)(ats:List Attr)(cs:List Cell):Option Arr×Int:=if 4096<(cs.length:Int) then (none,9) else (some ⟨ds,ats,bI cs⟩,0)
def aY(ds:List Dim)(name:List UInt8):Int:=aS (fun a:Dim=>a.name==name) ds 0
theorem jO{α:Type}[Inhabited α]{p:α→Bool}:∀ {l:List α} {j:Nat},¬ aS p l j<0→∃ k:Nat,aS p l j=((j+k:Nat):Int)∧k<l.length∧p (at_ l k)=true∧∀ i,i<k→p (at_ l i)=false
 | [],j,h=>by simp[aS] at h
 | x::l,j,h=>by
   simp only[aS] at h ⊢
   by_cases hp:p x=true
   ·rw[if_pos hp] at h ⊢
    exact⟨0,by simp,by simp,hp,fun i hi=>by omega⟩
   ·rw[if_neg hp] at h ⊢
    obtain⟨k,h1,h2,h3,h4⟩:=jO h
    refine⟨k+1,by rw[h1];omega,by simpa using h2,h3,fun i hi=>?_⟩
    cases i with
    | zero=>exact Bool.eq_false_iff.2 hp
    | succ i=>exact h4 i (by omega)
theorem fx{ds:List Dim}{name:List UInt8}(h:¬ aY ds name<0):∃ k:Nat,aY ds name=(k:Int)∧k<ds.length∧(at_ ds k).name=name∧∀ i,i<k→(at_ ds i).name≠name:=by
 obtain⟨k,h1,h2,h3,h4⟩:=jO h
 refine⟨k,by unfold aY;rw[h1];simp,h2,by simpa using h3,fun i hi=>by simpa using h4 i hi⟩
theorem lR{ds:List Dim}(h:(ds.map Dim.name).Nodup){i j:Nat}(hi:i<ds.length)(hj:j<ds.length)(he:(at_ ds i).name=(at_ ds j).name):i=j:=by
 have h1:at_ (ds.map Dim.name) i=at_ (ds.map Dim.name) j:=by rw[aK hi,aK hj,he]
 have e1:=cv (l:=ds.map Dim.name) (i:=i) (by simpa using hi)
 have e2:=cv (l:=ds.map Dim.name) (i:=j) (by simpa using hj)
 rw[h1,← e2] at e1
 exact (List.getElem?_inj (by simpa using hi) h).1 e1
section
variable {a:Arr}
theorem OkA.dims(h:OkA a.dims a.attrs a.cells):1≤a.dims.length∧a.dims.length≤4∧(∀ i,i<a.dims.length→(-1073741824≤(at_ a.dims i).lo∧(at_ a.dims i).lo≤1073741824∧(at_ a.dims i).lo≤(at_ a.dims i).hi∧(at_ a.dims i).hi≤1073741825)∧eX (at_ a.dims i).name=true)∧(a.dims.map Dim.name).Nodup:=by
 obtain⟨h1,h2,h3,h4⟩:=fU (aV h.sch).1
 exact⟨h1,h2,fun i hi=>⟨boundsF_ok.1 (h3 _ (aW hi)).1,(h3 _ (aW hi)).2⟩,h4⟩
end
end Go.Proofs.YtpejdgkaapnekaaGreat
namespace Go.Proofs.YtpejdgkaapnekaaGreat
open Go Go.Abs
attribute [local irreducible] aa OkC ah av aq aP
set_option maxRecDepth 10000
inductive Scalar where
 | mk (op:Int) (name:List UInt8) (val:Val) (args:List Scalar)
 deriving Inhabited
def Scalar.op:Scalar→Int|.mk o _ _ _=>o
def Scalar.name:Scalar→List UInt8|.mk _ n _ _=>n
def Scalar.val:Scalar→Val|.mk _ _ v _=>v
def Scalar.args:Scalar→List Scalar|.mk _ _ _ a=>a
theorem Scalar.args_lt:∀ {s x:Scalar},x∈s.args→SizeOf.sizeOf x<SizeOf.sizeOf s
 | .mk o n v a,x,h=>by
   have:=List.sizeOf_lt_of_mem (show x∈a from h)
   simp;omega
theorem Scalar.ind{Q:Scalar→Prop}(h:∀ s:Scalar,(∀ x∈s.args,Q x)→Q s)(s:Scalar):Q s :=
 h s fun x hx=>have:=Scalar.args_lt hx;Scalar.ind h x
termination_by SizeOf.sizeOf s
mutual
def qV:Scalar→List D
 | .mk o n v a=>[.int .i64 o,.str n,.int .i64 v.kind,.int .i64 v.num,.int .i64 v.den,.str v.str,.sl 7 88 (sM a)]
def sM:List Scalar→List (List D)
 | []=>[]
 | s::r=>qV s::sM r
end
theorem r7:∀ (l:List Scalar),sM l=l.map qV
 | []=>rfl
 | s::r=>by simp[sM,r7 r]
def p9(l:List Scalar):D:=.sl 7 88 (l.map qV)
def AH(s:Scalar):List D:=[.int .i64 s.op,.str s.name,.int .i64 s.val.kind,.int .i64 s.val.num,.int .i64 s.val.den,.str s.val.str,p9 s.args]
theorem BZ:∀ (s:Scalar),qV s=AH s
 | .mk o n v a=>by simp[qV,AH,Scalar.op,Scalar.name,Scalar.val,Scalar.args,p9,r7]
theorem B0{l:List Scalar}{i:Nat}(h:i<l.length):(l.map qV)[i]?=some (AH (at_ l i)):=by rw[eJ h,BZ]
end Go.Proofs.YtpejdgkaapnekaaGreat
