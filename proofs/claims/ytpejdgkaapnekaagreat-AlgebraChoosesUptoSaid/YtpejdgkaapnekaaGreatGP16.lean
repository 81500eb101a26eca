import Derived.Laws.RangeAny
import Derived.Test.YtpejdgkaapnekaaGreatGP15
import Derived.Test.YtpejdgkaapnekaaGreatGP14
set_option linter.unusedVariables false
set_option linter.unusedSimpArgs false
set_option linter.unnecessarySimpa false
set_option maxHeartbeats 1000000
namespace Go.Abs
open Go
variable {P : Program} {V : Env} {T : Tab} {c : Ctx} {st st0 : St} {σ σ' : Sig} {φ φ' : Pl} {w w' : World}
theorem tf{ops : Array Oper}{o : Oper}{rest : List Oper}{a : Act}{Q : Exit→Act→World→Prop}{u : Value}(hg : o.guard = none)(hrun : (execOp a.eval o).run P w = .ok (.value u) w')(h : wpListIn (fnc c) 0 P ops Q rest (a.put o.dst u) w') : wpListIn (fnc c) 0 P ops Q (o::rest) a w:=by
 refine wpListIn_plain hg fun K' hK=>⟨fun f _=>gR c f,?_⟩
 rw [jg (by simp) hrun]
 exact hK _ _ h
theorem wJ{s : ByteArray}{pos r : Nat}{ty : TypeId}(hh : w.heap[r]? = some (.stringIter s pos))(h : ¬ pos < s.size) : (Instr.next (.pointer (some ⟨r,0,none⟩)) true ty).run P w = .ok (.tuple #[.bool false]) w:=by
 simp [Instr.next,getObj,Sem.run,hh,Result.andThen,h]
theorem wM{s : ByteArray}{pos r : Nat}{ty : TypeId}(hh : w.heap[r]? = some (.stringIter s pos))(h : pos < s.size) : (Instr.next (.pointer (some ⟨r,0,none⟩)) true ty).run P w =
  .ok (.tuple #[.bool true,.int .i64 pos,.int .i32 (Utf8.decode s pos).1]) { w with heap:=w.heap.setIfInBounds r (.stringIter s (pos + (Utf8.decode s pos).2)) }:=by
 simp [Instr.next,getObj,setObj,Sem.run,hh,Result.andThen,h,goInt]
theorem zS(s : ByteArray)(pos : Nat)(h : pos < s.size) : 1≤(Utf8.decode s pos).2:=by
 by_cases ha : (s[pos]'h).toNat < 128
 ·rw [decode_ascii s pos h ha]; exact Nat.le_refl _
 ·exact (decode_high s pos h (by omega)).2
theorem Rel.iter{fr : List (Nat×AV)}{a : Act}{r : Nat}{s : ByteArray}{p q : Nat}(hr : Rel c ⟨fr,[]⟩ a w σ φ)(hh : w.heap[r]? = some (.stringIter s p))(hn : c.w0.heap.size≤r) :
  Rel c ⟨fr,[]⟩ a { w with heap:=w.heap.setIfInBounds r (.stringIter s q) } σ φ:=by
 refine ⟨hr.le,hr.fresh,⟨fun b cs hb=>?_,fun i e hi=>by simp [look] at hi,fun i i' e e' p p' hi=>by simp [look] at hi⟩,fun i e p hi=>by simp [look] at hi,hr.slot,hr.defers,hr.size,⟨hr.fra.os,hr.fra.tape,hr.fra.output,?_,hr.fra.drawn,fun b hb hm=>?_⟩,hr.pin⟩
 ·obtain ⟨t,f,h1⟩:=hr.inv.sig b cs hb
  refine ⟨t,f,?_⟩
  have hne : r≠b:=by rintro rfl; rw [hh] at h1; cases h1
  simp only [Array.getElem?_setIfInBounds_ne hne]; exact h1
 ·simp only [Array.size_setIfInBounds]; exact hr.fra.size
 ·have hne : r≠b:=by omega
  simp only [Array.getElem?_setIfInBounds_ne hne]; exact hr.fra.block b hb hm
def jJ(s : List UInt8)(k : Nat) : Int:=((Utf8.decode ⟨s.toArray⟩ k).1 : Nat)
def kb(s : List UInt8)(k : Nat) : Nat:=(Utf8.decode ⟨s.toArray⟩ k).2
theorem tg{s : List UInt8}{k : Nat}{b : UInt8}(h : s[k]? = some b)(hb : b.toNat < 128) : jJ s k = b.toNat∧kb s k = 1:=by
 obtain ⟨hl,he⟩:=List.getElem?_eq_some_iff.1 h
 have hk : k < (⟨s.toArray⟩ : ByteArray).size:=by simpa [ByteArray.size] using hl
 have hg : (⟨s.toArray⟩ : ByteArray)[k]'hk = b:=by
  show s.toArray[k]'(by simpa using hl) = b
  simpa using he
 have:=decode_ascii ⟨s.toArray⟩ k hk (by rw [hg]; exact hb)
 unfold jJ kb
 rw [this,hg]
 exact ⟨rfl,rfl⟩
theorem DR{s : List UInt8}{k : Nat}{b : UInt8}(h : s[k]? = some b)(hb : ¬ b.toNat < 128) : 128≤jJ s k:=by
 obtain ⟨hl,he⟩:=List.getElem?_eq_some_iff.1 h
 have hk : k < (⟨s.toArray⟩ : ByteArray).size:=by simpa [ByteArray.size] using hl
 have hg : (⟨s.toArray⟩ : ByteArray)[k]'hk = b:=by
  show s.toArray[k]'(by simpa using hl) = b
  simpa using he
 have:=(decode_high ⟨s.toArray⟩ k hk (by rw [hg]; omega)).1
 unfold jJ; omega
theorem pz{α : Type}{d : Nat}{v : α}{l : List (Nat×α)} : ∀ {kept : List (Nat×α)},look kept d = none→SubL l kept→SubL ((d,v)::l) kept
 | [],_,_=>trivial
 | (t,x)::r,h,hs=>by
   simp only [look] at h
   cases hb : Nat.beq t d with
   | true=>rw [hb] at h; simp at h
   | false =>
     rw [hb] at h
     simp only [cond_false] at h
     refine ⟨?_,pz h hs.2⟩
     have : Nat.beq d t = false:=by
      cases hc : Nat.beq d t with
      | false=>rfl
      | true=>have:=Nat.eq_of_beq_eq_true hc; subst this; rw [Nat.beq_refl] at hb; cases hb
     simp only [look,this,cond_false]
     exact hs.1
theorem RelE.back{fr : List (Nat×AV)}{st' : St}{a a' : Act}{e : Exit}(hmk : c.mks = [])(hr : Rel c ⟨fr,[]⟩ a w σ φ)(h : RelE ⟨w,σ,φ,MOf φ [],c.n,c.rd,[]⟩ e st' a' w' σ' φ') : RelE c e st' a' w' σ' φ':=by
 rcases h with h | ⟨he,r,h1,h2,h3,h4⟩
 ·have hb:=Rel.back (rd:=c.rd) (mk:=[]) hr h
  have hd : a'.defers = []:=h.defers
  have : ({ a' with defers:=c.mks } : Act) = a':=by rw [hmk,← hd]
  rw [this] at hb
  exact .inl hb
 ·have hb:=Rel.back (rd:=c.rd) (mk:=[]) hr h4
  rw [hmk] at hb
  exact .inr ⟨he,r,h1,h2,Nat.le_trans hr.fra.size h3,hb⟩
def xP(bl : Nat)(Q : Exit→St→Prop)(I : Prop)(kept : List (Nat×AV))(e : Exit)(st : St) : Prop:=(e = .normal∧I∧SubL st.fr kept)∨(e≠.normal∧ap bl Q e st)
def BJ(bl : Nat)(Q : Exit→St→Prop)(e : Exit)(st : St) : Prop:=e≠.normal∧ap bl Q e st
theorem Jd{bl : Nat}{Q : Exit→St→Prop}{I : Prop}{kept : List (Nat×AV)}(h : I)(hs : SubL st.fr kept) : xP bl Q I kept .normal st:=.inl ⟨rfl,h,hs⟩
theorem Je{bl : Nat}{Q : Exit→St→Prop}{I : Prop}{kept : List (Nat×AV)}{e : Exit}(he : e≠.normal)(h : ap bl Q e st) : xP bl Q I kept e st:=.inr ⟨he,h⟩
theorem HE{bl : Nat}{Q : Exit→St→Prop}{e : Exit}(he : e≠.normal)(h : ap bl Q e st) : BJ bl Q e st:=⟨he,h⟩
theorem zT{id1 id2 bl : Nat}{o0 o1 o2 : Oper}{l2 : List Oper}{body2 : Code}{fr kept : List (Nat×AV)}{Q : Exit→St→Prop}{d0 d1 d2 : Nat}{t : TypeId}{x0 : Operand}{s : List UInt8}
  (hmk : c.mks = []) (h0 : o0.op = .move x0) (hg0 : o0.guard = none) (hd0 : o0.dst = some d0) (hb0 : Nat.blt d0 c.n = true) (hx : ev ⟨fr,[]⟩ x0 = some (.one (.d (.str s))))
  (h1 : o1.op = .range t (.tmp d0)) (hg1 : o1.guard = none) (hd1 : o1.dst = some d1) (hb1 : Nat.blt d1 c.n = true) (ht : P.underlying t = some .string)
  (h2 : o2.op = .next (.tmp d1) true) (hg2 : o2.guard = none) (hd2 : o2.dst = some d2) (hb2 : Nat.blt d2 c.n = true) (hne : Nat.beq d0 d1 = false)
  (hk : SubL fr kept) (hkd : look kept d0 = none) (hkd1 : look kept d1 = none) (hkd2 : look kept d2 = none) (Inv : Nat→Prop) (hi : Inv 0)
  (hmore : ∀ k,Inv k→k < s.length→∀ (c2 : Ctx),c2.n = c.n→c2.rd = c.rd→c2.mks = []→∀ raw,ac P c2 (o2::l2).toArray l2 ⟨(d2,.tup [(false,[.d (.bool true)]),(false,[.d (.int .i64 k)]),(false,[.d (.int .i32 (jJ s k))])])::(d1,.one (.d (.raw raw)))::kept,[]⟩
   (fun st'=>OkC P c2 body2 st' (xP bl Q (Inv (k + kb s k)) ((d1,.one (.d (.raw raw)))::kept))))
  (hover : ∀ k,Inv k→s.length≤k→∀ (c2 : Ctx),c2.n = c.n→c2.rd = c.rd→c2.mks = []→∀ raw,ac P c2 (o2::l2).toArray l2 ⟨(d2,.tup [(false,[.d (.bool false)])])::(d1,.one (.d (.raw raw)))::kept,[]⟩
   (fun st'=>OkC P c2 body2 st' (BJ bl Q))) :
  OkC P c (.seq (.region id1 ⟨[o0,o1]⟩ false) (.block bl (.loop (.seq (.region id2 ⟨o2::l2⟩ false) body2)))) ⟨fr,[]⟩ Q:=by
 intro a w σ φ hr
 refine wpIn_seq (wpIn_region_list ?_)
 have hs:=aC hr hx
 replace hs:=RepC.d_inv hs
 generalize hv : a.eval x0 = v at hs
 cases hs with
 | str hlen =>
 have hrun0 : (execOp a.eval o0).run P w = .ok (.value (.string ⟨s.toArray⟩)) w:=by
  rw [← hv]; simp [execOp,h0]
 refine tf hg0 hrun0 ?_
 have hr1 : Rel c ⟨(d0,.one (.d (.str s)))::fr,[]⟩ (a.put o0.dst (.string ⟨s.toArray⟩)) w σ φ:=by
  have:=hr.putTo (dst:=o0.dst) (v:=.one (.d (.str s))) (u:=.string ⟨s.toArray⟩) (st':=⟨fr,[]⟩) (by rw [hd0]; exact hb0) hr.le hr.fresh hr.inv hr.mine hr.fra hr.pin (fun _=>RepC.d (.str hlen)) (fun s x _ hx=>⟨x,hx,fun z hz=>hz⟩)
  rw [hd0] at this ⊢; exact this
 generalize ha1 : a.put o0.dst (.string ⟨s.toArray⟩) = a1 at hr1
 have hv1 : a1.eval (.tmp d0) = .string ⟨s.toArray⟩:=by
  have h3:=aC hr1 (x:=.tmp d0) (v:=.one (.d (.str s))) (by simp [ev,look])
  replace h3:=RepC.d_inv h3
  generalize a1.eval (.tmp d0) = v1 at h3
  cases h3; rfl
 let ptr : Value:=.pointer (some ⟨w.heap.size,0,none⟩)
 have hrun1 : (execOp a1.eval o1).run P w = .ok (.value ptr) (w.alloc (.stringIter ⟨s.toArray⟩ 0)):=by
  have h4:=run_range_string (P:=P) w t ⟨s.toArray⟩ ht
  simp only [execOp,h1,hv1]
  simp only [Sem.run_bind,h4,Result.andThen_ok,Sem.run_pure]
  rfl
 refine tf hg1 hrun1 (wpListIn_nil ?_)
 have hrA:=hr1.alien (.stringIter ⟨s.toArray⟩ 0)
 have hr2 : Rel c ⟨(d1,.one (.d (.raw ptr)))::(d0,.one (.d (.str s)))::fr,[]⟩ (a1.put o1.dst ptr) (w.alloc (.stringIter ⟨s.toArray⟩ 0)) σ φ:=by
  have:=hrA.putTo (dst:=o1.dst) (v:=.one (.d (.raw ptr))) (u:=ptr) (st':=⟨(d0,.one (.d (.str s)))::fr,[]⟩) (by rw [hd1]; exact hb1) hrA.le hrA.fresh hrA.inv hrA.mine hrA.fra hrA.pin (fun _=>RepC.d (.raw rfl)) (fun s x _ hx=>⟨x,hx,fun z hz=>hz⟩)
  rw [hd1] at this ⊢; exact this
 generalize a1.put o1.dst ptr = a2 at hr2
 have hold : c.w0.heap.size≤w.heap.size:=hr.fra.size
 let r:=w.heap.size
 have hr3 : Rel c ⟨(d1,.one (.d (.raw ptr)))::kept,[]⟩ a2 (w.alloc (.stringIter ⟨s.toArray⟩ 0)) σ φ :=
  ⟨hr2.le,hr2.fresh,hr2.inv,hr2.mine,fun s v hv=>hr2.slot s v (SubL.look (l':=(d1,.one (.d (.raw ptr)))::kept) ⟨by simp [look],pz hkd1 (pz hkd hk)⟩ hv),hr2.defers,hr2.size,hr2.fra,hr2.pin⟩
 refine wpIn_block (wpIn_loop (fun a w=>∃ k σ φ,Inv k∧Rel c ⟨(d1,.one (.d (.raw ptr)))::kept,[]⟩ a w σ φ∧w.heap[r]? = some (.stringIter ⟨s.toArray⟩ k)) (fun _ w=>match w.heap[r]? with | some (.stringIter _ p)=>s.length - p | _=>0)
  ⟨0,σ,φ,hi,hr3,b5 _ _⟩ ?_)
 clear hr3 hr2 hrA hr1 hrun1 hrun0 hv1 ha1 a1 a2
 rintro a w1 ⟨k,σ1,φ1,hI,hr4,hh⟩
 refine wpIn_seq (wpIn_region_list ?_)
 have hp : a.eval (.tmp d1) = ptr:=by
  have h3:=aC hr4 (x:=.tmp d1) (v:=.one (.d (.raw ptr))) (by simp [ev,look])
  replace h3:=RepC.d_inv h3
  generalize a.eval (.tmp d1) = v1 at h3
  cases h3; rfl
 have hsz : (⟨s.toArray⟩ : ByteArray).size = s.length:=by simp [ByteArray.size]
 have fin : ∀ {w2 : World} {st2 : St} {a2 : Act} (hr5 : Rel c ⟨st2.fr,[]⟩ a2 w2 σ1 φ1) (hst : st2.sto = []) {R : St→Prop} {K : Exit→St→Prop} (_ : ∀ st',R st'→OkC P ⟨w2,σ1,φ1,MOf φ1 [],c.n,c.rd,[]⟩ body2 st' K)
   (_ : ac P ⟨w2,σ1,φ1,MOf φ1 [],c.n,c.rd,[]⟩ (o2::l2).toArray l2 st2 R) {Z : Exit→Act→World→Prop}
   (_ : ∀ e a5 w5 st5 σ5 φ5,K e st5→RelE ⟨w2,σ1,φ1,MOf φ1 [],c.n,c.rd,[]⟩ e st5 a5 w5 σ5 φ5→Z e a5 w5),wpListIn (fnc c) 0 P (o2::l2).toArray (Exit.then (body2.wpIn (fnc c) 0 P Z) Z) l2 a2 w2:=by
  intro w2 st2 a2 hr5 hst R K hR hO Z hZ
  have hd0 : a2.defers = []:=hr5.defers.trans hmk
  have hd : ({ a2 with defers:=[] } : Act) = a2:=by rw [← hd0]
  have hr6:=hr5.anew [] c.rd
  rw [hd] at hr6
  obtain ⟨f2,s2⟩:=st2
  simp only at hst hr6
  subst hst
  refine hO a2 w2 σ1 φ1 _ hr6 fun a4 w4 σ4 φ4 st4 hK hr7=>?_
  exact wpIn_mono (hR st4 hK a4 w4 σ4 φ4 hr7) fun e a5 w5 ⟨st5,σ5,φ5,hq,hre⟩=>hZ e a5 w5 st5 σ5 φ5 hq hre
 have leave : ∀ {e : Exit} {a5 : Act} {w5 : World} {st5 : St} {σ5 : Sig} {φ5 : Pl},ap bl Q e st5→RelE c e st5 a5 w5 σ5 φ5→e≠.normal→Exit.inBlock bl (fun e a' w'=>∃ st' σ' φ',Q e st'∧RelE c e st' a' w' σ' φ') e a5 w5:=by
  intro e a5 w5 st5 σ5 φ5 hq hre hne
  cases e with
  | normal=>exact absurd rfl hne
  | exit i =>
    simp only [ap] at hq
    cases hb : Nat.beq i bl with
    | true =>
      have hi:=Nat.eq_of_beq_eq_true hb
      rw [hb] at hq
      simp only [Exit.inBlock]
      rw [if_pos hi]
      exact ⟨st5,σ5,φ5,hq,.inl (hre.rel (by simp))⟩
    | false =>
      have hi : i≠bl:=by rintro rfl; rw [Nat.beq_refl] at hb; cases hb
      rw [hb] at hq
      simp only [Exit.inBlock]
      rw [if_neg hi]
      exact ⟨st5,σ5,φ5,hq,hre⟩
  | _=>exact ⟨st5,σ5,φ5,hq,hre⟩
 by_cases hlt : k < s.length
 ·have hrun2:=wM (P:=P) (ty:=o2.type) hh (by rw [hsz]; exact hlt)
  have hrun : (execOp a.eval o2).run P w1 = .ok (.value (.tuple #[.bool true,.int .i64 k,.int .i32 (Utf8.decode ⟨s.toArray⟩ k).1])) { w1 with heap:=w1.heap.setIfInBounds r (.stringIter ⟨s.toArray⟩ (k + (Utf8.decode ⟨s.toArray⟩ k).2)) }:=by
   simp only [execOp,h2,hp]
   simp only [Sem.run_bind,ptr]
   rw [show (⟨w.heap.size,0,none⟩ : Addr) = ⟨r,0,none⟩ from rfl,hrun2]
   rfl
  refine tf hg2 hrun ?_
  have hri:=hr4.iter (q:=k + (Utf8.decode ⟨s.toArray⟩ k).2) hh hold
  have hrl:=decode_le ⟨s.toArray⟩ k
  have hr5:=hri.putTo (dst:=o2.dst) (v:=.tup [(false,[.d (.bool true)]),(false,[.d (.int .i64 k)]),(false,[.d (.int .i32 (jJ s k))])]) (u:=.tuple #[.bool true,.int .i64 k,.int .i32 (Utf8.decode ⟨s.toArray⟩ k).1]) (st':=⟨(d1,.one (.d (.raw ptr)))::kept,[]⟩) (by rw [hd2]; exact hb2) hri.le hri.fresh hri.inv hri.mine hri.fra hri.pin
   (fun _=>⟨[_,_,_],rfl,⟨⟨.d .bool,trivial⟩,⟨⟨.d (.int (by
    simp only [inR,IntKind.min,IntKind.max,IntKind.signed,IntKind.bits,if_true]; omega)),trivial⟩,⟨⟨.d (.int (by
    simp only [inR,jJ,IntKind.min,IntKind.max,IntKind.signed,IntKind.bits,if_true]; omega)),trivial⟩,trivial⟩⟩⟩⟩) (fun s x _ hx=>⟨x,hx,fun z hz=>hz⟩)
  rw [hd2] at hr5 ⊢
  refine fin (st2:=⟨_,[]⟩) hr5 rfl (fun st' h=>h) (hmore k hI hlt ⟨_,σ1,φ1,MOf φ1 [],c.n,c.rd,[]⟩ rfl rfl rfl ptr) ?_
  rintro e a5 w5 st5 σ5 φ5 hq hre
  have hbk:=RelE.back hmk hri hre
  rcases hq with ⟨rfl,hI',hsub⟩ | ⟨hne',hq⟩
  ·have h6:=hbk.rel (by simp)
   have h7:=hre.rel (by simp)
   have hlt1 : r < w1.heap.size:=(Array.getElem?_eq_some_iff.1 hh).1
   have h8 : w5.heap[r]? = some (.stringIter ⟨s.toArray⟩ (k + kb s k)):=by
    rw [h7.fra.block r (by simp only [Array.size_setIfInBounds]; exact hlt1) (by rintro ⟨id,e,p,h,_⟩; simp [look] at h)]
    simp [hlt1,kb]
   have h9:=h6.dropTo (s':=[]) (by simp [look])
   refine ⟨⟨_,σ5,φ5,hI',⟨h9.le,h9.fresh,h9.inv,h9.mine,fun s v hv=>h9.slot s v (hsub.look hv),h9.defers,h9.size,h9.fra,h9.pin⟩,h8⟩,?_⟩
   ·simp only [h8,hh]
    have:=zS ⟨s.toArray⟩ k (by rw [hsz]; exact hlt)
    simp only [kb]
    omega
  ·have:=leave hq hbk hne'
   cases e <;> first | exact absurd rfl hne' | exact this
 ·have hrun2:=wJ (P:=P) (ty:=o2.type) hh (by rw [hsz]; exact hlt)
  have hrun : (execOp a.eval o2).run P w1 = .ok (.value (.tuple #[.bool false])) w1:=by
   simp only [execOp,h2,hp]
   simp only [Sem.run_bind,ptr]
   rw [show (⟨w.heap.size,0,none⟩ : Addr) = ⟨r,0,none⟩ from rfl,hrun2]
   rfl
  refine tf hg2 hrun ?_
  have hr5:=hr4.putTo (dst:=o2.dst) (v:=.tup [(false,[.d (.bool false)])]) (u:=.tuple #[.bool false]) (st':=⟨(d1,.one (.d (.raw ptr)))::kept,[]⟩) (by rw [hd2]; exact hb2) hr4.le hr4.fresh hr4.inv hr4.mine hr4.fra hr4.pin
   (fun _=>⟨[_],rfl,⟨⟨.d .bool,trivial⟩,trivial⟩⟩) (fun s x _ hx=>⟨x,hx,fun z hz=>hz⟩)
  rw [hd2] at hr5 ⊢
  refine fin (st2:=⟨_,[]⟩) hr5 rfl (fun st' h=>h) (hover k hI (by omega) ⟨_,σ1,φ1,MOf φ1 [],c.n,c.rd,[]⟩ rfl rfl rfl ptr) ?_
  rintro e a5 w5 st5 σ5 φ5 ⟨hne',hq⟩ hre
  have:=leave hq (RelE.back hmk hr4 hre) hne'
  cases e <;> first | exact absurd rfl hne' | exact this
end Go.Abs
namespace Go.Proofs.YtpejdgkaapnekaaGreat
open Go Go.Abs
attribute [local irreducible] ac OkC ao ax ap aJ xP BJ
set_option maxRecDepth 10000
theorem Ju : Tryz.prog.underlying 9 = some .string:=by kernel_rfl
theorem yc{s : List UInt8}{k : Nat}(h : k < s.length) : (decide (jJ s k < 32) || decide (126 < jJ s k)) = !dG (at_ s k):=by
 have hb:=gc h
 by_cases ha : (at_ s k).toNat < 128
 ·rw [(tg hb ha).1,Bool.eq_iff_iff]
  simp [dG]
  omega
 ·have:=DR hb ha
  rw [Bool.eq_iff_iff]
  simp [dG]
  omega
theorem FX{s : List UInt8}{k : Nat}(h : k < s.length)(hb : dG (at_ s k) = true) : kb s k = 1:=by
 simp [dG] at hb
 exact (tg (gc h) (by omega)).2
theorem NQ(s : List UInt8) : CallA Tryz.prog 341 [.one (.d (.str s)),.one (.d (.fn 281 [])),.one (.d (.bool true))] [] (.one (.d (.int .i64 (aV (fun c=>!dG c) s 0)))) []:=by
 refine enter ae Tryz.func341 rfl (by decide +kernel) rfl fun hok w0 σ0 φ0 M=>?_
 have hl:=hok.1.str; clear hok
 repeat' (first|(refine h4H ?_; refine zT (kept:=[(1,_),(2,_)]) J J J J J J J J J J Ju J J J J J (q2Q J J) J J J (fun k=>k≤s.length∧aV (fun c=>!dG c) s 0 = aV (fun c=>!dG c) (s.drop k) k) ⟨Nat.zero_le _,rfl⟩ ?_ ?_)|refine wG ?_)
 ·rintro k ⟨hk,hi⟩ hlt ⟨w1,σ1,φ1,M1,n1,rd1,mk1⟩ hn hrd hmk raw
  dsimp only at hn hrd hmk
  subst hn hrd hmk
  repeat' (first|(refine h1H ?_; (refine h0H ?_; refine aa J J J J J J J J (MT _) J ?_))|(show xP _ _ _ _ _ _; refine Jd ?_ (by first|exact aT|exact (q1Q J)|exact (q2Q J J)|exact (q3Q J J J)|exact (q4Q J J J J)|exact (q5Q J J J J J)|exact (q6Q J J J J J J)|exact (q7Q J J J J J J J)))|refine wG ?_|(refine h4H ?_; refine ag J (fun h=>?_) (fun h=>?_)))
  ·rw [yc hlt] at h
   rw [hi,am hlt]
   simp at h
   simp [aV,h]
  ·rw [yc hlt] at h
   have hb : dG (at_ s k) = true:=by simpa using h
   rw [FX hlt hb]
   refine ⟨by omega,?_⟩
   rw [hi,am hlt]
   simp [aV,hb]
 ·rintro k ⟨hk,hi⟩ hge ⟨w1,σ1,φ1,M1,n1,rd1,mk1⟩ hn hrd hmk raw
  dsimp only at hn hrd hmk
  subst hn hrd hmk
  repeat' (first|refine wG ?_)
  rw [hi,List.drop_eq_nil_of_le hge]
  rfl
theorem NR(s : List UInt8) : CallA Tryz.prog 282 [.one (.d (.str s)),.one (.d (.fn 281 []))] [] (.one (.d (.int .i64 (aV (fun c=>!dG c) s 0)))) []:=by
 refine enter ae Tryz.func282 rfl (by decide +kernel) rfl fun hok w0 σ0 φ0 M=>?_
 clear hok
 repeat' (first|(refine h1H ?_; (refine h0H ?_; refine aa J J J J J J J J (NQ _) J ?_))|refine wG ?_)
 all_goals rfl
end Go.Proofs.YtpejdgkaapnekaaGreat
namespace Go.Proofs.YtpejdgkaapnekaaGreat
open Go Go.Abs
attribute [local irreducible] ac OkC ao ax ap aJ
set_option maxRecDepth 10000
theorem LX(a b : Int)(ha : 0≤a)(hb : 0≤b) : CallA Tryz.prog 280 [.one (.d (.int .i64 a)),.one (.d (.int .i64 b))] [] (.one (.d (.int .i64 ((Nat.gcd a.toNat b.toNat : Nat) : Int)))) []:=by
 have:=QH a.toNat b.toNat
 rwa [Int.toNat_of_nonneg ha,Int.toNat_of_nonneg hb] at this
theorem IK{s : List UInt8} : ∀ (k : Nat),(decide (aV (fun c=>!dG c) s k < 0)) = s.all dG:=by
 induction s with
 | nil=>intro k; simp [aV]
 | cons c r ih =>
   intro k
   simp only [aV,List.all_cons,← ih (k + 1)]
   rw [Bool.eq_iff_iff]
   by_cases hc : dG c = true <;> simp [hc]
theorem F0(k n d : Int)(s : List UInt8) : CallA Tryz.prog 233 [.agg [.d (.int .i64 k),.d (.int .i64 n),.d (.int .i64 d),.d (.str s)]] [] (.one (.d (.bool (dm k n d s)))) []:=by
 refine enter ae Tryz.func233 rfl (by decide +kernel) rfl fun hok w0 σ0 φ0 M=>?_
 have h1:=(hok.1 (.d (.int .i64 n)) (by simp)); replace h1:=OkD.i64 h1; clear hok
 repeat' (first|(refine h1H ?_; (refine h0H ?_; first|refine aa J J J J J J J J (QG _ _ _ _) J ?_|refine aa J J J J J J J J (LX _ _ wB wB) J ?_|refine aa J J J J J J J J (NR _) J ?_))|refine wG ?_|(refine h1H ?_; (refine h5H ?_; refine aG J J J J (fun h=>?_) (fun h=>?_)))|(refine h4H ?_; refine ag J (fun h=>?_) (fun h=>?_)))
 all_goals (try (((simp_all [dm,← IK 0,am,List.drop_eq_nil_of_le]) <;> exact wL); done))
theorem N4(k n d : Int)(s : List UInt8) : CallA Tryz.prog 225 [.agg [.d (.int .i64 k),.d (.int .i64 n),.d (.int .i64 d),.d (.str s)]] [] (.one (.d (.int .i64 (if dm k n d s then 0 else 2)))) []:=by
 refine enter ae Tryz.func225 rfl (by decide +kernel) rfl fun hok w0 σ0 φ0 M=>?_
 repeat' (first|(refine h1H ?_; (refine h0H ?_; refine aa J J J J J J J J (F0 _ _ _ _) J ?_))|refine wG ?_|(refine h4H ?_; refine ag J (fun h=>?_) (fun h=>?_)))
 all_goals (try (((simp_all [am,List.drop_eq_nil_of_le]) <;> exact wL); done))
theorem I7(k n d : Int)(s : List UInt8)(t : Int) : CallA Tryz.prog 215 [.agg [.d (.int .i64 k),.d (.int .i64 n),.d (.int .i64 d),.d (.str s)],.one (.d (.int .i64 t))] [] (.one (.d (.bool (fj k n d s t)))) []:=by
 refine enter ae Tryz.func215 rfl (by decide +kernel) rfl fun hok w0 σ0 φ0 M=>?_
 clear hok
 repeat' (first|(refine h1H ?_; (refine h0H ?_; refine aa J J J J J J J J (F0 _ _ _ _) J ?_))|refine wG ?_|(refine h1H ?_; (refine h5H ?_; refine aG J J J J (fun h=>?_) (fun h=>?_)))|(refine h4H ?_; refine ag J (fun h=>?_) (fun h=>?_)))
 all_goals (try (((simp_all [fj,am,List.drop_eq_nil_of_le]) <;> exact wL); done))
 all_goals (by_cases hk : k = 0 <;> simp_all [fj,dm])
 all_goals omega
structure Cell where
 at' : List Int
 vals : List Val
 deriving Inhabited
def av(c : Cell) : List D:=[aL c.at',az c.vals]
def bg(l : List Cell) : D:=.sl 2 48 (l.map av)
def f8 : List Attr→List Val→Int
 | a::ats,v::vs=>if !fj v.kind v.num v.den v.str a.type then 12 else f8 ats vs
 | _,_=>0
def cZ(ds : List Dim)(ats : List Attr)(at' : List Int)(vs : List Val) : Int :=
 if (at'.length : Int)≠ds.length∨(vs.length : Int)≠ats.length then 13 else if !ofF ds at' then 3 else f8 ats vs
theorem MP(ds : List Dim)(ats : List Attr)(at' : List Int)(vs : List Val) : CallA Tryz.prog 161 [.one (.d (aH ds)),.one (.d (aF ats)),.agg [.d (aL at'),.d (az vs)]] [] (.one (.d (.int .i64 (cZ ds ats at' vs)))) []:=by
 refine enter ae Tryz.func161 rfl (by decide +kernel) rfl fun hok w0 σ0 φ0 M=>?_
 have h1:=hok.1.sl.1; have h2:=hok.2.1.sl.1; have h3:=OkD.sl (hok.2.2.1 (.d (aL at')) (by simp)); have h4:=OkD.sl (hok.2.2.1 (.d (az vs)) (by simp)); clear hok
 replace h3:=h3.1; replace h4:=h4.1; simp only [List.length_map] at h1 h2 h3 h4
 repeat' (first|(refine h1H ?_; (refine h0H ?_; refine aa J J J J J J J J (MQ _ _) J ?_))|(refine h3H ?_; (refine h2H ?_; refine d_l J J (aA J J J J J J (I7 _ _ _ _ _) J) ?_))|refine wG ?_|(refine h1H ?_; (refine h5H ?_; refine aG J J J J (fun h=>?_) (fun h=>?_)))|(refine h4H ?_; first|refine ag J (fun h=>?_) (fun h=>?_)|refine aB 6 J [(1,_),(29,_),(30,_)] (q3Q J J J) (fun (k : Nat)=>[(31,.one (.d (.int .i64 k)))]) (fun (k : Nat)=>k≤vs.length∧at'.length = ds.length∧vs.length = ats.length∧ofF ds at' = true∧cZ ds ats at' vs = f8 (ats.drop k) (vs.drop k)) (fun (k : Nat)=>vs.length - k) 0 (q1Q J) ?_ (fun k ⟨hk,hq,hq2,hof,hs⟩=>?_))|(show Exists _; refine Exists.intro (k + 1) ⟨?_,?_,wK,(q1Q J),(q3Q J J J)⟩))
 all_goals (try (((simp_all [cZ,f8,am,List.drop_eq_nil_of_le]) <;> exact wL); done))
def cQ(ds : List Dim)(ats : List Attr) : Option (List Int)→List Cell→Int
 | _,[]=>0
 | none,c::r=>if cZ ds ats c.at' c.vals≠0 then cZ ds ats c.at' c.vals else cQ ds ats (some c.at') r
 | some p,c::r=>if cZ ds ats c.at' c.vals≠0 then cZ ds ats c.at' c.vals else if bc p c.at' = 0 then 5 else if 0 < bc p c.at' then 2 else cQ ds ats (some c.at') r
def cE(ds : List Dim)(ats : List Attr)(cs : List Cell) : Int:=if cR ds ats≠0 then cR ds ats else if 4096 < (cs.length : Int) then 9 else cQ ds ats none cs
def pv(cs : List Cell)(k : Nat) : Option (List Int):=if k = 0 then none else some (at_ cs ((k : Int) - 1).toNat).at'
theorem qu{cs : List Cell} : pv cs 0 = none:=rfl
theorem xp{cs : List Cell}{k : Nat}(h : ¬ k = 0) : pv cs k = some (at_ cs ((k : Int) - 1).toNat).at':=by simp [pv,h]
theorem qw{cs : List Cell}{k : Nat} : pv cs (k + 1) = some (at_ cs k).at':=by
 have : (((k + 1 : Nat) : Int) - 1).toNat = k:=by omega
 rw [xp (by omega),this]
theorem re{ds : List Dim}{ats : List Attr}{p : Option (List Int)}{c : Cell}{r : List Cell}(h : cZ ds ats c.at' c.vals≠0) : cQ ds ats p (c::r) = cZ ds ats c.at' c.vals:=by cases p <;> simp [cQ,h]
theorem sS : ∀ {a b : List Int},bc a b = 0∨bc a b = 1∨bc a b = -1
 | [],[]=>by simp [bc]
 | [],_::_=>by simp [bc]
 | _::_,[]=>by simp [bc]
 | x::xs,y::ys=>by
   simp only [bc]
   split
   ·simp
   ·split
    ·simp
    ·exact sS
theorem xq{a b : List Int} : 0 < bc a b↔bc a b = 1:=by
 rcases sS (a:=a) (b:=b) with h | h | h <;> simp [h]
end Go.Proofs.YtpejdgkaapnekaaGreat
namespace Go.Proofs.YtpejdgkaapnekaaGreat
open Go Go.Abs
def ltC(x y : Cell) : Prop:=bc x.at' y.at' < 0
def leC(x y : Cell) : Bool:=decide (bc x.at' y.at'≤0)
def b9(x y : Cell) : Prop:=x.at'≠y.at'
def bE(cs : List Cell) : List Cell:=cs.mergeSort leC
theorem cG(cs : List Cell) : (bE cs).Perm cs:=List.mergeSort_perm cs leC
theorem mD{x y z : Cell}(h1 : ltC x y)(h2 : ltC y z) : ltC x z:=by
 unfold ltC at *
 have h:=f9 x.at' y.at' z.at' (by omega) (by omega)
 have:=h.2
 by_cases h0 : bc x.at' z.at' = 0
 ·have:=this h0; omega
 ·omega
theorem BR{x : Cell}(h : ltC x x) : False:=by
 unfold ltC at h; rw [mq] at h; omega
theorem FW{x y : Cell}(h : ltC x y) : b9 x y:=fun e=>by
 unfold ltC at h; rw [e,mq] at h; omega
theorem lg{x y : Cell}(h : ¬ bc y.at' x.at' < 0)(hd : b9 x y) : ltC x y:=by
 have h1:=gH x.at' y.at'
 unfold ltC
 by_cases h0 : bc x.at' y.at' = 0
 ·exact absurd (At _ _ h0) hd
 ·omega
theorem BS : ∀ {x y : Cell},b9 x y→b9 y x:=fun h e=>h e.symm
theorem iO : ∀ {l m : List Cell},l.Perm m→l.Pairwise ltC→m.Pairwise ltC→l = m
 | [],m,hp,_,_=>(List.nil_perm.1 hp).symm ▸ rfl
 | x::l,[],hp,_,_=>by have:=hp.length_eq; simp at this
 | x::l,y::m,hp,h1,h2=>by
   rw [List.pairwise_cons] at h1 h2
   have hxy : x = y:=by
    have hx : x∈y::m:=hp.mem_iff.1 List.mem_cons_self
    have hy : y∈x::l:=hp.mem_iff.2 List.mem_cons_self
    rcases List.mem_cons.1 hx with e | hx
    ·exact e
    ·rcases List.mem_cons.1 hy with e | hy
     ·exact e.symm
     ·exact (BR (mD (h1.1 y hy) (h2.1 x hx))).elim
   subst hxy
   rw [iO (hp.cons_inv) h1.2 h2.2]
theorem cU{l : List Cell}(h : l.Pairwise ltC) : l.Pairwise b9:=h.imp FW
theorem vU{l m : List Cell}(hp : l.Perm m)(h : m.Pairwise b9) : l.Pairwise b9:=(hp.pairwise_iff (fun h=>BS h)).2 h
theorem dT{cs : List Cell}(h : cs.Pairwise b9) : (bE cs).Pairwise ltC:=by
 have h1 : (bE cs).Pairwise fun a b=>leC a b = true:=List.pairwise_mergeSort (le:=leC) (fun a b c h1 h2=>by
  simp only [leC,decide_eq_true_eq] at *
  exact (f9 _ _ _ h1 h2).1) (fun a b=>by
  have:=gH a.at' b.at'
  simp only [leC,Bool.or_eq_true,decide_eq_true_eq]; omega) cs
 have h2:=vU (cG cs) h
 refine (h1.and h2).imp fun {a b} h=>?_
 have hl : bc a.at' b.at'≤0:=by simpa [leC] using h.1
 refine lg ?_ h.2
 have:=gH a.at' b.at'
 omega
theorem Du{cs : List Cell}(h : cs.Pairwise b9) : ∀ l : List Cell,l.Perm cs→l.Pairwise (fun x y=>¬ bc y.at' x.at' < 0)→l = bE cs:=fun l hp hs =>
 iO (hp.trans (cG cs).symm) ((hs.and (vU hp h)).imp fun {a b} h=>lg h.1 h.2) (dT h)
theorem rZ{cs : List Cell}(h : cs.Pairwise ltC) : bE cs = cs:=iO (cG cs) (dT (cU h)) h
theorem jt(cs : List Cell) : (bE cs).length = cs.length:=(cG cs).length_eq
theorem ya{cs ds : List Cell}(p : Cell→Bool)(h : cs.Pairwise b9)(hd : ds.Pairwise ltC)(he : (cs.filter p).Perm ds) : (bE cs).filter p = ds :=
 iO (((cG cs).filter p).trans he) ((dT h).filter p) hd
theorem pD{ds : List Dim}{ats : List Attr} : ∀ {cs : List Cell} {p : List Int},cQ ds ats (some p) cs = 0→(∀ c∈cs,bc p c.at' < 0)∧cs.Pairwise ltC∧∀ c∈cs,cZ ds ats c.at' c.vals = 0
 | [],p,_=>⟨by simp,.nil,by simp⟩
 | c::r,p,h=>by
   simp only [cQ] at h
   split at h
   ·rename_i h1; exact absurd h h1
   split at h
   ·omega
   split at h
   ·omega
   rename_i h1 h2 h3
   have hlt : bc p c.at' < 0:=by omega
   obtain ⟨i1,i2,i3⟩:=pD h
   refine ⟨fun x hx=>?_,List.pairwise_cons.2 ⟨i1,i2⟩,fun x hx=>?_⟩
   ·rcases List.mem_cons.1 hx with rfl | hx
    ·exact hlt
    ·exact mD (x:=⟨p,[]⟩) (y:=c) hlt (i1 x hx)
   ·rcases List.mem_cons.1 hx with rfl | hx
    ·simpa using h1
    ·exact i3 x hx
theorem yb{ds : List Dim}{ats : List Attr}{cs : List Cell}(h : cQ ds ats none cs = 0) : cs.Pairwise ltC∧∀ c∈cs,cZ ds ats c.at' c.vals = 0:=by
 cases cs with
 | nil=>exact ⟨.nil,by simp⟩
 | cons c r =>
   simp only [cQ] at h
   split at h
   ·rename_i h1; exact absurd h h1
   rename_i h1
   obtain ⟨i1,i2,i3⟩:=pD h
   refine ⟨List.pairwise_cons.2 ⟨i1,i2⟩,fun x hx=>?_⟩
   rcases List.mem_cons.1 hx with rfl | hx
   ·simpa using h1
   ·exact i3 x hx
structure OkA (ds : List Dim) (ats : List Attr) (cs : List Cell) : Prop where
 sch : cR ds ats = 0
 few : cs.length≤4096
 srt : cs.Pairwise ltC
 cel : ∀ c∈cs,cZ ds ats c.at' c.vals = 0
theorem okA{ds : List Dim}{ats : List Attr}{cs : List Cell}(h : cE ds ats cs = 0) : OkA ds ats cs:=by
 unfold cE at h
 split at h
 ·rename_i h1; exact absurd h h1
 split at h
 ·omega
 rename_i h1 h2
 obtain ⟨h3,h4⟩:=yb h
 exact ⟨by simpa using h1,by omega,h3,h4⟩
theorem tl{ds : List Dim}{ats : List Attr} : ∀ {cs : List Cell} {p : Option (List Int)},(∀ q,p = some q→∀ c∈cs,bc q c.at' < 0)→cs.Pairwise ltC→(∀ c∈cs,cZ ds ats c.at' c.vals = 0)→cQ ds ats p cs = 0
 | [],p,_,_,_=>by cases p <;> rfl
 | c::r,p,h1,h2,h3=>by
   rw [List.pairwise_cons] at h2
   have h4:=h3 c List.mem_cons_self
   have ih : cQ ds ats (some c.at') r = 0:=tl (fun q e x hx=>by cases e; exact h2.1 x hx) h2.2 (fun x hx=>h3 x (List.mem_cons_of_mem _ hx))
   cases p with
   | none=>simp only [cQ,h4,ne_eq,not_true_eq_false,if_false,ih]
   | some q =>
     have h5:=h1 q rfl c List.mem_cons_self
     simp only [cQ,h4,ne_eq,not_true_eq_false,if_false,ih]
     rw [if_neg (by omega),if_neg (by omega)]
theorem DY{ds : List Dim}{ats : List Attr}{cs : List Cell}(h : OkA ds ats cs) : cE ds ats cs = 0:=by
 unfold cE
 rw [if_neg (by simp [h.sch]),if_neg (by have:=h.few; omega)]
 exact tl (fun q e=>by cases e) h.srt h.cel
theorem dQ{ds : List Dim}{ats : List Attr}(h : cR ds ats = 0) : dp ds = 0∧1≤ats.length∧ats.length≤6∧eP (ds.map Dim.name) ats = 0:=by
 unfold cR at h
 split at h
 ·rename_i h1; exact absurd h h1
 split at h
 ·omega
 rename_i h1 h2
 exact ⟨by simpa using h1,by omega,by omega,h⟩
theorem vV : ∀ {ds : List Dim} {met : List (List UInt8)},fJ met ds = 0→(∀ d∈ds,eo d.lo d.hi = true∧eJ d.name = true∧d.name ∉ met)∧(ds.map Dim.name).Nodup
 | [],met,_=>⟨by simp,by simp⟩
 | d::r,met,h=>by
   simp only [fJ] at h
   split at h
   ·omega
   split at h
   ·omega
   rename_i h1 h2
   obtain ⟨i1,i2⟩:=vV h
   simp only [Bool.or_eq_true,Bool.not_eq_true',not_or,Bool.not_eq_false,Bool.not_eq_true,List.contains_eq_mem,decide_eq_true_eq,decide_eq_false_iff_not] at h1
   refine ⟨fun x hx=>?_,?_⟩
   ·rcases List.mem_cons.1 hx with rfl | hx
    ·exact ⟨by simpa using h2,h1.1,h1.2⟩
    ·obtain ⟨j1,j2,j3⟩:=i1 x hx
     exact ⟨j1,j2,fun hm=>j3 (List.mem_append.2 (.inl hm))⟩
   ·rw [List.map_cons,List.nodup_cons]
    refine ⟨fun hm=>?_,i2⟩
    obtain ⟨x,hx,he⟩:=List.mem_map.1 hm
    exact (i1 x hx).2.2 (by rw [he]; simp)
theorem l8{ds : List Dim}(h : dp ds = 0) : 1≤ds.length∧ds.length≤4∧(∀ d∈ds,eo d.lo d.hi = true∧eJ d.name = true)∧(ds.map Dim.name).Nodup:=by
 unfold dp at h
 split at h
 ·omega
 rename_i h1
 obtain ⟨h2,h3⟩:=vV h
 exact ⟨by omega,by omega,fun d hd=>⟨(h2 d hd).1,(h2 d hd).2.1⟩,h3⟩
theorem boundsF_ok{lo hi : Int} : eo lo hi = true↔-1073741824≤lo∧lo≤1073741824∧lo≤hi∧hi≤1073741825:=by
 simp only [eo,Bool.and_eq_true,decide_eq_true_eq]; omega
theorem cellF_ok{ds : List Dim}{ats : List Attr}{at' : List Int}{vs : List Val} : cZ ds ats at' vs = 0↔at'.length = ds.length∧vs.length = ats.length∧bo ds at' = true∧f8 ats vs = 0:=by
 unfold cZ
 constructor
 ·intro h
  split at h
  ·omega
  rename_i h1
  have e1 : at'.length = ds.length:=by omega
  split at h
  ·omega
  rename_i h2
  refine ⟨e1,by omega,?_,h⟩
  simpa [ofF,e1] using h2
 ·rintro ⟨h1,h2,h3,h4⟩
  rw [if_neg (by omega),if_neg (by simp [ofF,h1,h3])]
  exact h4
theorem dv : ∀ {ds : List Dim} {xs : List Int},xs.length = ds.length→(bo ds xs = true↔∀ i,i < ds.length→(at_ ds i).lo≤at_ xs i∧at_ xs i≤dX (at_ ds i).hi)
 | [],[],_=>by simp [bo]
 | d::ds,x::xs,h=>by
   have ih:=dv (ds:=ds) (xs:=xs) (by simpa using h)
   simp only [bo,Bool.and_eq_true,decide_eq_true_eq,ih]
   constructor
   ·rintro ⟨⟨h1,h2⟩,h3⟩ i hi
    cases i with
    | zero=>exact ⟨h1,h2⟩
    | succ i=>exact h3 i (by simpa using hi)
   ·intro h4
    exact ⟨⟨(h4 0 (by simp)).1,(h4 0 (by simp)).2⟩,fun i hi=>h4 (i + 1) (by simpa using hi)⟩
 | [],_::_,h=>by simp at h
 | _::_,[],h=>by simp at h
end Go.Proofs.YtpejdgkaapnekaaGreat
namespace Go.Proofs.YtpejdgkaapnekaaGreat
open Go Go.Abs
attribute [local irreducible] ac OkC ao ax ap aJ
set_option maxRecDepth 10000
theorem vO{s : List UInt8} : eJ s = true↔(1≤s.length∧s.length≤12)∧ir (at_ s 0).toNat = true∧∀ j,j < s.length→gS (at_ s j).toNat = true:=by
 simp only [eJ,Bool.and_eq_true,decide_eq_true_eq,List.all_eq_true,and_assoc]
 refine and_congr_right fun _=>and_congr_right fun _=>and_congr_right fun _=>⟨fun h j hj=>h _ (bM hj),fun h x hx=>?_⟩
 obtain ⟨j,hj⟩:=List.getElem?_of_mem hx
 have hl:=(List.getElem?_eq_some_iff.1 hj).1
 rw [gc hl] at hj
 rw [← Option.some.inj hj]; exact h j hl
theorem FD(s : List UInt8) : CallA Tryz.prog 142 [.one (.d (.str s))] [] (.one (.d (.bool (eJ s)))) []:=by
 refine enter ae Tryz.func142 rfl (by decide +kernel) rfl fun hok w0 σ0 φ0 M=>?_
 have h1:=hok.1.str; clear hok
 repeat' (first|refine wG ?_|(refine h1H ?_; (refine h5H ?_; refine aG J J J J (fun h=>?_) (fun h=>?_)))|(refine h4H ?_; first|refine ag J (fun h=>?_) (fun h=>?_)|refine aB 4 J [(15,_),(16,_)] (q2Q J J) (fun (k : Nat)=>[(17,.one (.d (.int .i64 k)))]) (fun (k : Nat)=>k≤s.length∧1≤s.length∧s.length≤12∧(0 < k→ir (at_ s 0).toNat = true)∧(∀ j,j < k→gS (at_ s j).toNat = true)) (fun (k : Nat)=>s.length - k) 0 (q1Q J) ?_ (fun k ⟨hk,hq,hq2,hf,hs⟩=>?_))|(show Exists _; refine Exists.intro (k + 1) ⟨?_,?_,wK,(q1Q J),(q2Q J J)⟩))
 all_goals (try simp only [a0A,a1A,a2A,Bool.not_eq_false',a3A,a4A,a5A,a7A,a8A,a9A,FE,Ji,xR] at *)
 all_goals first
  | omega
  | (refine ⟨by omega,by omega,by omega,?_,?_⟩
     ·intro hk0
      by_cases h0 : 0 < k
      ·exact hf h0
      ·have hk0' : k = 0:=by omega
       subst hk0'
       simp only [ir,Bool.and_eq_true,decide_eq_true_eq]; omega
     ·intro j hj
      rcases Nat.lt_or_ge j k with hjk | hjk
      ·exact hs j hjk
      ·have hje : j = k:=by omega
       subst hje
       simp only [gS,ir,Bool.or_eq_true,Bool.and_eq_true,decide_eq_true_eq]; omega)
  | (congr 3; symm; rw [Bool.eq_false_iff,ne_eq,vO]; rintro ⟨hlen,h0,hj⟩
     first
      | omega
      | (have hjk:=hj k (by omega)
         simp only [gS,ir,Bool.or_eq_true,Bool.and_eq_true,decide_eq_true_eq] at hjk h0
         by_cases hk0 : k = 0
         ·subst hk0; omega
         ·omega))
  | (congr 3; symm; rw [vO]; exact ⟨⟨hq,hq2⟩,hf (by omega),fun j hj=>hs j (by omega)⟩)
  | (refine ⟨by omega,by omega,by omega,fun h=>by omega,fun j hj=>by omega⟩)
theorem K6(ds : List Dim)(hne : dp ds≠0) : CallA Tryz.prog 190 [.one (.d (aH ds)),.one (.mapr 1000000)] [(1000000,.map false false (c8 []))] (.one (.d (.int .i64 (dp ds)))) []:=by
 refine enter ae Tryz.func190 rfl (by decide +kernel) rfl fun hok w0 σ0 φ0 M=>?_
 have h1:=hok.1.sl.1; clear hok; simp only [List.length_map] at h1
 repeat' (first|(refine h1H ?_; (refine h0H ?_; refine aa J J J J J J J J (FD _) J ?_))|refine wG ?_|(refine h1H ?_; (refine h5H ?_; refine aG J J J J (fun h=>?_) (fun h=>?_)))|(refine h4H ?_; first|refine ag J (fun h=>?_) (fun h=>?_)|refine b0 4 J [(1,_),(15,_),(16,_)] (q3Q J J J) (fun (p : Nat×List (List UInt8))=>[(17,.one (.d (.int .i64 (p.1 : Int))))]) (fun (p : Nat×List (List UInt8))=>[(1000000,.map false false (c8 p.2))]) (fun (p : Nat×List (List UInt8))=>p.1≤ds.length∧(1 : Int)≤ds.length∧(ds.length : Int)≤4∧dp ds = fJ p.2 (ds.drop p.1)) (fun (p : Nat×List (List UInt8))=>ds.length - p.1) (0,[]) (q1Q J) wK ?_ (fun p ⟨hk,hq,hq2,hs⟩=>?_))|(show Exists _; refine Exists.intro ((p.1 + 1,p.2 ++ [(at_ ds p.1).name])) ⟨?_,?_,wK,(q1Q J),(q3Q J J J)⟩))
 all_goals (try (((simp_all [dp,fJ,eo,am,List.drop_eq_nil_of_le]) <;> exact wL); done))
theorem K7(ds : List Dim)(he : dp ds = 0) : CallA Tryz.prog 190 [.one (.d (aH ds)),.one (.mapr 1000000)] [(1000000,.map false false (c8 []))] (.one (.d (.int .i64 0))) [(1000000,.map false false (c8 (ds.map Dim.name)))]:=by
 refine enter ae Tryz.func190 rfl (by decide +kernel) rfl fun hok w0 σ0 φ0 M=>?_
 have h1:=hok.1.sl.1; clear hok; simp only [List.length_map] at h1
 repeat' (first|(refine h1H ?_; (refine h0H ?_; refine aa J J J J J J J J (FD _) J ?_))|refine wG ?_|(refine h1H ?_; (refine h5H ?_; refine aG J J J J (fun h=>?_) (fun h=>?_)))|(refine h4H ?_; first|refine ag J (fun h=>?_) (fun h=>?_)|refine b0 4 J [(1,_),(15,_),(16,_)] (q3Q J J J) (fun (p : Nat×List (List UInt8))=>[(17,.one (.d (.int .i64 (p.1 : Int))))]) (fun (p : Nat×List (List UInt8))=>[(1000000,.map false false (c8 p.2))]) (fun (p : Nat×List (List UInt8))=>p.1≤ds.length∧fJ p.2 (ds.drop p.1) = 0∧p.2 = (ds.take p.1).map Dim.name) (fun (p : Nat×List (List UInt8))=>ds.length - p.1) (0,[]) (q1Q J) wK ?_ (fun p ⟨hk,hs,hm⟩=>?_))|(show Exists _; refine Exists.intro ((p.1 + 1,p.2 ++ [(at_ ds p.1).name])) ⟨?_,?_,wK,(q1Q J),(q3Q J J J)⟩))
 all_goals (try (((simp_all [dp,fJ,eo,eO,am,List.drop_eq_nil_of_le]) <;> exact wL); done))
 ·have hl : ds.length≤p.1:=by simpa using h
  have hp : p.2 = ds.map Dim.name:=by rw [hm,List.take_of_length_le hl]
  rw [hp]
  exact ja (.inl rfl) rfl rfl rfl (q1Q rfl)
theorem Ln(ds : List Dim)(ats : List Attr)(hne : dp ds≠0) : CallA Tryz.prog 108 [.one (.d (aH ds)),.one (.d (aF ats))] [] (.one (.d (.int .i64 (cR ds ats)))) []:=by
 refine enter ae Tryz.func108 rfl (by decide +kernel) rfl fun hok w0 σ0 φ0 M=>?_
 clear hok
 repeat' (first|refine wG ?_)
 refine jU 16 [(1000000,0)] (rav':=.one (.d (.int .i64 (dp ds)))) (K6 ds hne) rfl rfl rfl rfl rfl rfl ⟨⟨0,rfl,rfl⟩,trivial⟩ trivial rfl rfl rfl rfl ?_
 repeat' (first|refine wG ?_|(refine h1H ?_; (refine h5H ?_; refine aG J J J J (fun h=>?_) (fun h=>?_)))|(refine h4H ?_; refine ag J (fun h=>?_) (fun h=>?_)))
 all_goals (try (((simp_all [cR,am,List.drop_eq_nil_of_le]) <;> exact wL); done))
theorem Lo(ds : List Dim)(ats : List Attr)(he : dp ds = 0) : CallA Tryz.prog 108 [.one (.d (aH ds)),.one (.d (aF ats))] [] (.one (.d (.int .i64 (cR ds ats)))) []:=by
 refine enter ae Tryz.func108 rfl (by decide +kernel) rfl fun hok w0 σ0 φ0 M=>?_
 have h1:=hok.2.1.sl.1; clear hok; simp only [List.length_map] at h1
 repeat' (first|refine wG ?_)
 refine jU 16 [(1000000,0)] (rav':=.one (.d (.int .i64 0))) (K7 ds he) rfl rfl rfl rfl rfl rfl ⟨⟨0,rfl,rfl⟩,trivial⟩ ⟨fun i e h1 h2=>?_,trivial⟩ rfl rfl rfl rfl ?_
 ·have h1' : some 0 = some i:=h1
  cases h1'
  have h2' : some (AObj.map false false (c8 [])) = some e:=h2
  cases h2'
  exact ⟨rfl,rfl⟩
 repeat' (first|(refine h1H ?_; (refine h0H ?_; refine aa J J J J J J J J (FD _) J ?_))|refine wG ?_|(refine h1H ?_; (refine h5H ?_; refine aG J J J J (fun h=>?_) (fun h=>?_)))|(refine h4H ?_; first|refine ag J (fun h=>?_) (fun h=>?_)|refine b0 8 J [(5,_),(24,_),(25,_)] (q3Q J J J) (fun (p : Nat×List (List UInt8))=>[(26,.one (.d (.int .i64 (p.1 : Int))))]) (fun (p : Nat×List (List UInt8))=>[(0,.map false false (c8 p.2))]) (fun (p : Nat×List (List UInt8))=>p.1≤ats.length∧dp ds = 0∧(1 : Int)≤ats.length∧(ats.length : Int)≤6∧cR ds ats = eP p.2 (ats.drop p.1)) (fun (p : Nat×List (List UInt8))=>ats.length - p.1) (0,ds.map Dim.name) (q1Q J) wK ?_ (fun p ⟨hk,hd,hq,hq2,hs⟩=>?_))|(show Exists _; refine Exists.intro ((p.1 + 1,p.2 ++ [(at_ ats p.1).name])) ⟨?_,?_,wK,(q1Q J),(q3Q J J J)⟩))
 all_goals (try (((simp_all [cR,eP,am,List.drop_eq_nil_of_le]) <;> exact wL); done))
theorem NS(ds : List Dim)(ats : List Attr) : CallA Tryz.prog 108 [.one (.d (aH ds)),.one (.d (aF ats))] [] (.one (.d (.int .i64 (cR ds ats)))) []:=by
 by_cases h : dp ds = 0
 ·exact Lo ds ats h
 ·exact Ln ds ats h
theorem c59(ds : List Dim)(ats : List Attr)(cs : List Cell) : CallA Tryz.prog 59 [.agg [.d (aH ds),.d (aF ats),.d (bg cs)]] [] (.one (.d (.int .i64 (cE ds ats cs)))) []:=by
 refine enter ae Tryz.func59 rfl (by decide +kernel) rfl fun hok w0 σ0 φ0 M=>?_
 have h1:=(OkD.sl (hok.1 (.d (bg cs)) (by simp))).1; clear hok; simp only [List.length_map] at h1
 repeat' (first|(refine h1H ?_; (refine h0H ?_; first|refine aa J J J J J J J J (NS _ _) J ?_|refine aa J J J J J J J J (MP _ _ _ _) J ?_))|(refine h3H ?_; (refine h2H ?_; refine d_l J J (aA J J J J J J (c35 _ _) J) ?_))|refine wG ?_|(refine h4H ?_; first|refine ag J (fun h=>?_) (fun h=>?_)|refine aB 7 J [(1,_),(20,_),(21,_)] (q3Q J J J) (fun (k : Nat)=>[(22,.one (.d (.int .i64 k)))]) (fun (k : Nat)=>k≤cs.length∧cR ds ats = 0∧(cs.length : Int)≤4096∧cE ds ats cs = cQ ds ats (pv cs k) (cs.drop k)) (fun (k : Nat)=>cs.length - k) 0 (q1Q J) ?_ (fun k ⟨hk,hsc,hq,hs⟩=>?_))|(show Exists _; refine Exists.intro (k + 1) ⟨?_,?_,wK,(q1Q J),(q3Q J J J)⟩))
 all_goals (try (((simp_all [cE,cQ,qu,xp,qw,xq,am,List.drop_eq_nil_of_le]) <;> exact wL); done))
 ·rename_i hlt
  have hk' : k < cs.length:=by simpa using hlt
  have hb : cZ ds ats (at_ cs k).at' (at_ cs k).vals≠0:=by simpa using h
  rw [hs,am hk',re hb]; simp
 ·rename_i hlt hc
  have hk' : k < cs.length:=by simpa using hlt
  have hk0 : k = 0:=by simpa using h
  have hb : cZ ds ats (at_ cs k).at' (at_ cs k).vals = 0:=by simpa using hc
  refine ⟨by omega,hsc,hq,?_⟩
  rw [hs,am hk',qw]
  subst hk0
  simp [cQ,hb,qu]
def eF{α : Type}(p : α→α→Bool) : List α→List α→Bool
 | x::a,y::b=>if p x y then eF p a b else false
 | _,_=>true
def dD{α : Type}(p : α→α→Bool)(a b : List α) : Bool:=if (a.length : Int)≠b.length then false else eF p a b
theorem PM(a b : List Int) : CallA Tryz.prog 188 [.one (.d (aL a)),.one (.d (aL b))] [] (.one (.d (.bool (dD (fun x y=>x == y) a b)))) []:=by
 refine enter ae Tryz.func188 rfl (by decide +kernel) rfl fun hok w0 σ0 φ0 M=>?_
 have h1:=hok.1.sl; have h2:=hok.2.1.sl; clear hok; simp only [List.length_map] at h1 h2; replace h1:=h1.1; replace h2:=h2.1
 repeat' (first|refine wG ?_|(refine h4H ?_; first|refine ag J (fun h=>?_) (fun h=>?_)|refine aB 4 J [(0,_),(1,_)] (q2Q J J) (fun (k : Nat)=>[(5,.one (.d (.int .i64 k)))]) (fun (k : Nat)=>k≤a.length∧a.length = b.length∧dD (fun x y=>x == y) a b = eF (fun x y=>x == y) (a.drop k) (b.drop k)) (fun (k : Nat)=>a.length - k) 0 (q1Q J) ?_ (fun k ⟨hk,hq,hs⟩=>?_))|(show Exists _; refine Exists.intro (k + 1) ⟨?_,?_,wK,(q1Q J),(q2Q J J)⟩))
 all_goals (try (((simp_all [dD,eF,am,List.drop_eq_nil_of_le]) <;> exact wL); done))
def br(x y : Val) : Bool:=cb (ab x) (ab y)
theorem PN(a b : List Val) : CallA Tryz.prog 189 [.one (.d (az a)),.one (.d (az b))] [] (.one (.d (.bool (dD br a b)))) []:=by
 refine enter ae Tryz.func189 rfl (by decide +kernel) rfl fun hok w0 σ0 φ0 M=>?_
 have h1:=hok.1.sl; have h2:=hok.2.1.sl; clear hok; simp only [List.length_map] at h1 h2; replace h1:=h1.1; replace h2:=h2.1
 repeat' (first|refine wG ?_|(refine h4H ?_; first|refine ag J (fun h=>?_) (fun h=>?_)|refine aB 4 J [(0,_),(1,_)] (q2Q J J) (fun (k : Nat)=>[(5,.one (.d (.int .i64 k)))]) (fun (k : Nat)=>k≤a.length∧a.length = b.length∧dD br a b = eF br (a.drop k) (b.drop k)) (fun (k : Nat)=>a.length - k) 0 (q1Q J) ?_ (fun k ⟨hk,hq,hs⟩=>?_))|(show Exists _; refine Exists.intro (k + 1) ⟨?_,?_,wK,(q1Q J),(q2Q J J)⟩))
 all_goals (try (((simp_all [dD,eF,br,ab,cb,eqD,am,List.drop_eq_nil_of_le]) <;> exact wL); done))
def oX(x y : Dim) : Bool:=cb (bv x) (bv y)
theorem PO(a b : List Dim) : CallA Tryz.prog 104 [.one (.d (aH a)),.one (.d (aH b))] [] (.one (.d (.bool (dD oX a b)))) []:=by
 refine enter ae Tryz.func104 rfl (by decide +kernel) rfl fun hok w0 σ0 φ0 M=>?_
 have h1:=hok.1.sl; have h2:=hok.2.1.sl; clear hok; simp only [List.length_map] at h1 h2; replace h1:=h1.1; replace h2:=h2.1
 repeat' (first|refine wG ?_|(refine h4H ?_; first|refine ag J (fun h=>?_) (fun h=>?_)|refine aB 4 J [(0,_),(1,_)] (q2Q J J) (fun (k : Nat)=>[(5,.one (.d (.int .i64 k)))]) (fun (k : Nat)=>k≤a.length∧a.length = b.length∧dD oX a b = eF oX (a.drop k) (b.drop k)) (fun (k : Nat)=>a.length - k) 0 (q1Q J) ?_ (fun k ⟨hk,hq,hs⟩=>?_))|(show Exists _; refine Exists.intro (k + 1) ⟨?_,?_,wK,(q1Q J),(q2Q J J)⟩))
 all_goals (try (((simp_all [dD,eF,oX,bv,cb,eqD,am,List.drop_eq_nil_of_le]) <;> exact wL); done))
def mh(x y : Attr) : Bool:=cb (iz x) (iz y)
theorem PP(a b : List Attr) : CallA Tryz.prog 105 [.one (.d (aF a)),.one (.d (aF b))] [] (.one (.d (.bool (dD mh a b)))) []:=by
 refine enter ae Tryz.func105 rfl (by decide +kernel) rfl fun hok w0 σ0 φ0 M=>?_
 have h1:=hok.1.sl; have h2:=hok.2.1.sl; clear hok; simp only [List.length_map] at h1 h2; replace h1:=h1.1; replace h2:=h2.1
 repeat' (first|refine wG ?_|(refine h4H ?_; first|refine ag J (fun h=>?_) (fun h=>?_)|refine aB 4 J [(0,_),(1,_)] (q2Q J J) (fun (k : Nat)=>[(5,.one (.d (.int .i64 k)))]) (fun (k : Nat)=>k≤a.length∧a.length = b.length∧dD mh a b = eF mh (a.drop k) (b.drop k)) (fun (k : Nat)=>a.length - k) 0 (q1Q J) ?_ (fun k ⟨hk,hq,hs⟩=>?_))|(show Exists _; refine Exists.intro (k + 1) ⟨?_,?_,wK,(q1Q J),(q2Q J J)⟩))
 all_goals (try (((simp_all [dD,eF,mh,iz,cb,eqD,am,List.drop_eq_nil_of_le]) <;> exact wL); done))
def mi(x y : Cell) : Bool:=dD (fun x y=>x == y) x.at' y.at' && dD br x.vals y.vals
theorem PQ(a b : List Cell) : CallA Tryz.prog 106 [.one (.d (bg a)),.one (.d (bg b))] [] (.one (.d (.bool (dD mi a b)))) []:=by
 refine enter ae Tryz.func106 rfl (by decide +kernel) rfl fun hok w0 σ0 φ0 M=>?_
 have h1:=hok.1.sl; have h2:=hok.2.1.sl; clear hok; simp only [List.length_map] at h1 h2; replace h1:=h1.1; replace h2:=h2.1
 repeat' (first|(refine h3H ?_; (refine h2H ?_; first|refine d_l J J (aA J J J J J J (PM _ _) J) ?_|refine d_l J J (aA J J J J J J (PN _ _) J) ?_))|refine wG ?_|(refine h4H ?_; first|refine ag J (fun h=>?_) (fun h=>?_)|refine aB 4 J [(0,_),(1,_)] (q2Q J J) (fun (k : Nat)=>[(5,.one (.d (.int .i64 k)))]) (fun (k : Nat)=>k≤a.length∧a.length = b.length∧dD mi a b = eF mi (a.drop k) (b.drop k)) (fun (k : Nat)=>a.length - k) 0 (q1Q J) ?_ (fun k ⟨hk,hq,hs⟩=>?_))|(refine h3H ?_; (refine r7 ?_; refine j9 J J (fun h=>?_) (fun h=>?_)))|(show Exists _; refine Exists.intro (k + 1) ⟨?_,?_,wK,(q1Q J),(q2Q J J)⟩))
 all_goals (try (((simp_all [dD,eF,mi,am,List.drop_eq_nil_of_le]) <;> exact wL); done))
def tu(a b : List Dim×List Attr×List Cell) : Bool:=dD oX a.1 b.1 && (dD mh a.2.1 b.2.1 && dD mi a.2.2 b.2.2)
def sq(a : List Dim×List Attr×List Cell) : AV:=.agg [.d (aH a.1),.d (aF a.2.1),.d (bg a.2.2)]
theorem c28(a b : List Dim×List Attr×List Cell) : CallA Tryz.prog 28 [sq a,sq b] [] (.one (.d (.bool (tu a b)))) []:=by
 unfold sq
 refine enter ae Tryz.func28 rfl (by decide +kernel) rfl fun hok w0 σ0 φ0 M=>?_
 clear hok
 repeat' (first|(refine h1H ?_; (refine h0H ?_; first|refine aa J J J J J J J J (PO _ _) J ?_|refine aa J J J J J J J J (PP _ _) J ?_|refine aa J J J J J J J J (PQ _ _) J ?_))|refine wG ?_|(refine h1H ?_; (refine h5H ?_; refine aG J J J J (fun h=>?_) (fun h=>?_))))
 all_goals (try (((simp_all [tu,am,List.drop_eq_nil_of_le]) <;> exact wL); done))
theorem c25(a b : List Dim×List Attr×List Cell)(e f : Int) : CallA Tryz.prog 25 [sq a,.one (.d (.int .i64 e)),sq b,.one (.d (.int .i64 f))] [] (.one (.d (.bool (e == f && tu a b)))) []:=by
 unfold sq
 refine enter ae Tryz.func25 rfl (by decide +kernel) rfl fun hok w0 σ0 φ0 M=>?_
 clear hok
 repeat' (first|(refine h1H ?_; (refine h0H ?_; refine aa J J J J J J J J (c28 _ _) J ?_))|refine wG ?_|(refine h1H ?_; (refine h5H ?_; refine aG J J J J (fun h=>?_) (fun h=>?_))))
 all_goals (try (((simp_all [am,List.drop_eq_nil_of_le]) <;> exact wL); done))
end Go.Proofs.YtpejdgkaapnekaaGreat
namespace Go.Proofs.YtpejdgkaapnekaaGreat
open Go Go.Abs
theorem gY{α : Type}[Inhabited α] : ∀ {l m : List α},l.length = m.length→(∀ i,i < l.length→at_ l i = at_ m i)→l = m
 | [],[],_,_=>rfl
 | x::l,y::m,h,he=>by
   have h0 : x = y:=he 0 (by simp)
   rw [h0,gY (l:=l) (m:=m) (by simpa using h) fun i hi=>he (i + 1) (by simpa using hi)]
 | [],_::_,h,_=>by simp at h
 | _::_,[],h,_=>by simp at h
theorem tE{α : Type}[Inhabited α]{l : List α}{k i : Nat}{x : α}(h : i < l.length) : at_ (l.set k x) i = if i = k then x else at_ l i:=by
 simp only [at_,List.getD_eq_getElem?_getD,List.getElem?_set]
 by_cases e : k = i
 ·subst e; simp [h]
 ·rw [if_neg e,if_neg (fun h=>e h.symm)]
theorem gZ{α : Type}[Inhabited α]{l : List α}{x : α}(h : x∈l) : ∃ i,i < l.length∧at_ l i = x:=by
 obtain ⟨i,hi⟩:=List.getElem?_of_mem h
 have hl:=(List.getElem?_eq_some_iff.1 hi).1
 exact ⟨i,hl,by rw [gc hl] at hi; exact Option.some.inj hi⟩
theorem pM{α β γ : Type}[Inhabited α][Inhabited β][Inhabited γ]{f : α→β→γ}{l : List α}{m : List β}{i : Nat}(h : i < l.length)(h' : i < m.length) : at_ (l.zipWith f m) i = f (at_ l i) (at_ m i):=by
 simp [at_,List.getD_eq_getElem?_getD,List.getElem?_zipWith,h,h']
theorem Dim.ext{a b : Dim}(h1 : a.name = b.name)(h2 : a.lo = b.lo)(h3 : a.hi = b.hi) : a = b:=by cases a; cases b; simp_all
structure Arr where
 dims : List Dim
 attrs : List Attr
 cells : List Cell
 deriving Inhabited
def EB(a : Arr) : List D:=[aH a.dims,aF a.attrs,bg a.cells]
def uF(l : List Arr) : D:=.sl 3 72 (l.map EB)
def fX(a : Arr) : AV:=.agg [.d (aH a.dims),.d (aF a.attrs),.d (bg a.cells)]
theorem tX{α : Type}[Inhabited α]{p : α→α→Bool} : ∀ {a b : List α},a.length = b.length→(eF p a b = true↔∀ i,i < a.length→p (at_ a i) (at_ b i) = true)
 | [],[],_=>by simp [eF]
 | x::a,y::b,h=>by
   have ih:=tX (p:=p) (a:=a) (b:=b) (by simpa using h)
   simp only [eF]
   constructor
   ·intro h1 i hi
    split at h1
    ·rename_i h2
     cases i with
     | zero=>exact h2
     | succ i=>exact ih.1 h1 i (by simpa using hi)
    ·cases h1
   ·intro h1
    have h0 : p x y = true:=h1 0 (by simp)
    rw [if_pos h0]
    exact ih.2 fun i hi=>h1 (i + 1) (by simpa using hi)
 | [],_::_,h=>by simp at h
 | _::_,[],h=>by simp at h
theorem ER{α : Type}[Inhabited α]{p : α→α→Bool}{a b : List α} : dD p a b = true↔a.length = b.length∧∀ i,i < a.length→p (at_ a i) (at_ b i) = true:=by
 unfold dD
 by_cases h : a.length = b.length
 ·rw [if_neg (by omega),tX h]
  exact Iff.intro (fun h1=>And.intro h h1) (fun h1=>h1.2)
 ·rw [if_pos (by omega)]
  exact Iff.intro (fun h1=>by cases h1) (fun h1=>absurd h1.1 h)
theorem ma{α : Type}[Inhabited α]{p : α→α→Bool}(hp : ∀ x y,p x y = true↔x = y){a b : List α} : dD p a b = true↔a = b:=by
 rw [ER]
 constructor
 ·rintro ⟨h1,h2⟩
  exact gY h1 fun i hi=>(hp _ _).1 (h2 i hi)
 ·rintro rfl
  exact ⟨rfl,fun i hi=>(hp _ _).2 rfl⟩
theorem ES(x y : Int) : (x == y) = true↔x = y:=by simp
theorem Ec(x y : Dim) : oX x y = true↔x = y:=by
 cases x; cases y
 simp [oX,bv,cb,eqD]
theorem BV(x y : Attr) : mh x y = true↔x = y:=by
 cases x; cases y
 simp [mh,iz,cb,eqD]
theorem wk(x y : Val) : br x y = true↔x = y:=by
 cases x; cases y
 simp [br,ab,cb,eqD]
theorem BW(x y : Cell) : mi x y = true↔x = y:=by
 cases x; cases y
 simp [mi,ma ES,ma wk]
def fx(ds : List Dim)(ats : List Attr)(cs : List Cell) : Option Arr×Int:=if 4096 < (cs.length : Int) then (none,9) else (some ⟨ds,ats,bE cs⟩,0)
def gT(ds : List Dim)(name : List UInt8) : Int:=aV (fun a : Dim=>a.name == name) ds 0
theorem sb{α : Type}[Inhabited α]{p : α→Bool} : ∀ {l : List α} {j : Nat},¬ aV p l j < 0→∃ k : Nat,aV p l j = ((j + k : Nat) : Int)∧k < l.length∧p (at_ l k) = true∧∀ i,i < k→p (at_ l i) = false
 | [],j,h=>by simp [aV] at h
 | x::l,j,h=>by
   simp only [aV] at h ⊢
   by_cases hp : p x = true
   ·rw [if_pos hp] at h ⊢
    exact ⟨0,by simp,by simp,hp,fun i hi=>by omega⟩
   ·rw [if_neg hp] at h ⊢
    obtain ⟨k,h1,h2,h3,h4⟩:=sb h
    refine ⟨k + 1,by rw [h1]; omega,by simpa using h2,h3,fun i hi=>?_⟩
    cases i with
    | zero=>exact Bool.eq_false_iff.2 hp
    | succ i=>exact h4 i (by omega)
theorem qB{ds : List Dim}{name : List UInt8}(h : ¬ gT ds name < 0) : ∃ k : Nat,gT ds name = (k : Int)∧k < ds.length∧(at_ ds k).name = name∧∀ i,i < k→(at_ ds i).name≠name:=by
 obtain ⟨k,h1,h2,h3,h4⟩:=sb h
 refine ⟨k,by unfold gT; rw [h1]; simp,h2,by simpa using h3,fun i hi=>by simpa using h4 i hi⟩
theorem F3{ds : List Dim}(h : (ds.map Dim.name).Nodup){i j : Nat}(hi : i < ds.length)(hj : j < ds.length)(he : (at_ ds i).name = (at_ ds j).name) : i = j:=by
 have h1 : at_ (ds.map Dim.name) i = at_ (ds.map Dim.name) j:=by rw [eQ hi,eQ hj,he]
 have e1:=gc (l:=ds.map Dim.name) (i:=i) (by simpa using hi)
 have e2:=gc (l:=ds.map Dim.name) (i:=j) (by simpa using hj)
 rw [h1,← e2] at e1
 exact (List.getElem?_inj (by simpa using hi) h).1 e1
section
variable {a : Arr}
theorem OkA.dims(h : OkA a.dims a.attrs a.cells) : 1≤a.dims.length∧a.dims.length≤4∧(∀ i,i < a.dims.length→(-1073741824≤(at_ a.dims i).lo∧(at_ a.dims i).lo≤1073741824∧(at_ a.dims i).lo≤(at_ a.dims i).hi∧(at_ a.dims i).hi≤1073741825)∧eJ (at_ a.dims i).name = true)∧(a.dims.map Dim.name).Nodup:=by
 obtain ⟨h1,h2,h3,h4⟩:=l8 (dQ h.sch).1
 exact ⟨h1,h2,fun i hi=>⟨boundsF_ok.1 (h3 _ (bM hi)).1,(h3 _ (bM hi)).2⟩,h4⟩
end
end Go.Proofs.YtpejdgkaapnekaaGreat
namespace Go.Proofs.YtpejdgkaapnekaaGreat
open Go Go.Abs
attribute [local irreducible] ac OkC ao ax ap aJ
set_option maxRecDepth 10000
inductive Scalar where
 | mk (op : Int) (name : List UInt8) (val : Val) (args : List Scalar)
 deriving Inhabited
def Scalar.op : Scalar→Int | .mk o _ _ _=>o
def Scalar.name : Scalar→List UInt8 | .mk _ n _ _=>n
def Scalar.val : Scalar→Val | .mk _ _ v _=>v
def Scalar.args : Scalar→List Scalar | .mk _ _ _ a=>a
theorem Scalar.args_lt : ∀ {s x : Scalar},x∈s.args→SizeOf.sizeOf x < SizeOf.sizeOf s
 | .mk o n v a,x,h=>by
   have:=List.sizeOf_lt_of_mem (show x∈a from h)
   simp; omega
theorem Scalar.ind{Q : Scalar→Prop}(h : ∀ s : Scalar,(∀ x∈s.args,Q x)→Q s)(s : Scalar) : Q s :=
 h s fun x hx=>have:=Scalar.args_lt hx; Scalar.ind h x
termination_by SizeOf.sizeOf s
mutual
def oT : Scalar→List D
 | .mk o n v a=>[.int .i64 o,.str n,.int .i64 v.kind,.int .i64 v.num,.int .i64 v.den,.str v.str,.sl 7 88 (w6 a)]
def w6 : List Scalar→List (List D)
 | []=>[]
 | s::r=>oT s::w6 r
end
theorem wg : ∀ (l : List Scalar),w6 l = l.map oT
 | []=>rfl
 | s::r=>by simp [w6,wg r]
def cu(l : List Scalar) : D:=.sl 7 88 (l.map oT)
def pJ(s : Scalar) : List D:=[.int .i64 s.op,.str s.name,.int .i64 s.val.kind,.int .i64 s.val.num,.int .i64 s.val.den,.str s.val.str,cu s.args]
def cY(s : Scalar) : AV:=.agg [.d (.int .i64 s.op),.d (.str s.name),.d (.int .i64 s.val.kind),.d (.int .i64 s.val.num),.d (.int .i64 s.val.den),.d (.str s.val.str),.d (cu s.args)]
theorem uJ : ∀ (s : Scalar),oT s = pJ s
 | .mk o n v a=>by simp [oT,pJ,Scalar.op,Scalar.name,Scalar.val,Scalar.args,cu,wg]
theorem AZ{l : List Scalar}{i : Nat}(h : i < l.length) : (l.map oT)[i]? = some (pJ (at_ l i)):=by rw [iL h,uJ]
def cN : Nat→Scalar→Int
 | 0,_=>1
 | m + 1,s=>s.args.foldl (fun d x=>max d (cN m x)) 0 + 1
theorem oN{f : Scalar→Int}{B : Int}(h : ∀ x,1≤f x∧f x≤B) : ∀ (l : List Scalar) (d : Int),0≤d→d≤B→0≤l.foldl (fun d x=>max d (f x)) d∧l.foldl (fun d x=>max d (f x)) d≤B
 | [],d,h0,h1=>⟨h0,h1⟩
 | x::r,d,h0,h1=>by
   have:=h x
   exact oN h r _ (by show 0≤max d (f x); omega) (by show max d (f x)≤B; omega)
theorem pR : ∀ (m : Nat) (s : Scalar),1≤cN m s∧cN m s≤m + 1
 | 0,s=>by simp [cN]
 | m + 1,s=>by
   have:=oN (f:=cN m) (B:=m + 1) (fun x=>by have:=pR m x; omega) s.args 0 (by omega) (by omega)
   simp only [cN]; omega
theorem Ej{f : Scalar→Int}{l : List Scalar}{k : Nat}{d : Int}(h : k < l.length) : (l.take (k + 1)).foldl (fun d x=>max d (f x)) d = max ((l.take k).foldl (fun d x=>max d (f x)) d) (f (at_ l k)):=by
 rw [eO h,List.foldl_append]; rfl
end Go.Proofs.YtpejdgkaapnekaaGreat
