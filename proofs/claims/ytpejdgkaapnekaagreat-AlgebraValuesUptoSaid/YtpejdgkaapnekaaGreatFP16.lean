import Derived.Laws.RangeAny
import Derived.Test.YtpejdgkaapnekaaGreatFP15
import Derived.Test.YtpejdgkaapnekaaGreatFP14
set_option linter.unusedVariables false
set_option linter.unusedSimpArgs false
set_option maxHeartbeats 1000000
namespace Go.Abs
open Go
variable {P : Program} {V : Env} {T : Tab} {c : Ctx} {st st0 : St} {σ σ' : Sig} {φ φ' : Pl} {w w' : World}
theorem rO{ops : Array Oper}{o : Oper}{rest : List Oper}{a : Act}{Q : Exit→Act→World→Prop}{u : Value}(hg : o.guard = none)(hrun : (execOp a.eval o).run P w = .ok (.value u) w')(h : wpListIn (fnc c) 0 P ops Q rest (a.put o.dst u) w') : wpListIn (fnc c) 0 P ops Q (o::rest) a w:=by
 refine wpListIn_plain hg fun K' hK=>⟨fun f _=>gO c f,?_⟩
 rw [iQ (by simp) hrun]
 exact hK _ _ h
theorem uY{s : ByteArray}{pos r : Nat}{ty : TypeId}(hh : w.heap[r]? = some (.stringIter s pos))(h : ¬ pos < s.size) : (Instr.next (.pointer (some ⟨r,0,none⟩)) true ty).run P w = .ok (.tuple #[.bool false]) w:=by
 simp [Instr.next,getObj,Sem.run,hh,Result.andThen,h]
theorem uZ{s : ByteArray}{pos r : Nat}{ty : TypeId}(hh : w.heap[r]? = some (.stringIter s pos))(h : pos < s.size) : (Instr.next (.pointer (some ⟨r,0,none⟩)) true ty).run P w =
  .ok (.tuple #[.bool true,.int .i64 pos,.int .i32 (Utf8.decode s pos).1]) { w with heap:=w.heap.setIfInBounds r (.stringIter s (pos + (Utf8.decode s pos).2)) }:=by
 simp [Instr.next,getObj,setObj,Sem.run,hh,Result.andThen,h,goInt]
theorem ye(s : ByteArray)(pos : Nat)(h : pos < s.size) : 1≤(Utf8.decode s pos).2:=by
 by_cases ha : (s[pos]'h).toNat < 128
 ·rw [decode_ascii s pos h ha]; exact Nat.le_refl _
 ·exact (decode_high s pos h (by omega)).2
theorem Rel.iter{fr : List (Nat×AV)}{a : Act}{r : Nat}{s : ByteArray}{p q : Nat}(hr : Rel c ⟨fr,[]⟩ a w σ φ)(hh : w.heap[r]? = some (.stringIter s p))(hn : c.w0.heap.size≤r) :
  Rel c ⟨fr,[]⟩ a { w with heap:=w.heap.setIfInBounds r (.stringIter s q) } σ φ:=by
 refine ⟨hr.le,hr.fresh,⟨fun b cs hb=>?_,fun i e hi=>by simp [look] at hi,fun i i' e e' p p' hi=>by simp [look] at hi⟩,fun i e p hi=>by simp [look] at hi,hr.slot,hr.defers,hr.size,⟨hr.fra.os,hr.fra.tape,hr.fra.output,?_,hr.fra.drawn,fun b hb hm=>?_⟩,hr.pin⟩
 ·obtain ⟨t,f,h1⟩:=hr.inv.sig b cs hb
  refine ⟨t,f,?_⟩
  have hne : r≠b:=by rintro rfl; rw [hh] at h1; cases h1
  simp only [Array.getElem?_setIfInBounds_ne hne]; exact h1
 ·simp only [Array.size_setIfInBounds]; exact hr.fra.size
 ·have hne : r≠b:=by omega
  simp only [Array.getElem?_setIfInBounds_ne hne]; exact hr.fra.block b hb hm
def jp(s : List UInt8)(k : Nat) : Int:=((Utf8.decode ⟨s.toArray⟩ k).1 : Nat)
def jJ(s : List UInt8)(k : Nat) : Nat:=(Utf8.decode ⟨s.toArray⟩ k).2
theorem rP{s : List UInt8}{k : Nat}{b : UInt8}(h : s[k]? = some b)(hb : b.toNat < 128) : jp s k = b.toNat∧jJ s k = 1:=by
 obtain ⟨hl,he⟩:=List.getElem?_eq_some_iff.1 h
 have hk : k < (⟨s.toArray⟩ : ByteArray).size:=by simpa [ByteArray.size] using hl
 have hg : (⟨s.toArray⟩ : ByteArray)[k]'hk = b:=by
  show s.toArray[k]'(by simpa using hl) = b
  simpa using he
 have:=decode_ascii ⟨s.toArray⟩ k hk (by rw [hg]; exact hb)
 unfold jp jJ
 rw [this,hg]
 exact ⟨rfl,rfl⟩
theorem BB{s : List UInt8}{k : Nat}{b : UInt8}(h : s[k]? = some b)(hb : ¬ b.toNat < 128) : 128≤jp s k:=by
 obtain ⟨hl,he⟩:=List.getElem?_eq_some_iff.1 h
 have hk : k < (⟨s.toArray⟩ : ByteArray).size:=by simpa [ByteArray.size] using hl
 have hg : (⟨s.toArray⟩ : ByteArray)[k]'hk = b:=by
  show s.toArray[k]'(by simpa using hl) = b
  simpa using he
 have:=(decode_high ⟨s.toArray⟩ k hk (by rw [hg]; omega)).1
 unfold jp; omega
theorem oG{α : Type}{d : Nat}{v : α}{l : List (Nat×α)} : ∀ {kept : List (Nat×α)},look kept d = none→SubL l kept→SubL ((d,v)::l) kept
 | [],_,_=>trivial
 | (t,x)::r,h,hs=>by
   simp only [look] at h
   cases hb : Nat.beq t d with
   | true=>rw [hb] at h; simp at h
   | false =>
     rw [hb] at h
     simp only [cond_false] at h
     refine ⟨?_,oG h hs.2⟩
     have : Nat.beq d t = false:=by
      cases hc : Nat.beq d t with
      | false=>rfl
      | true=>have:=Nat.eq_of_beq_eq_true hc; subst this; rw [Nat.beq_refl] at hb; cases hb
     simp only [look,this,cond_false]
     exact hs.1
theorem RelE.back{fr : List (Nat×AV)}{st' : St}{a a' : Act}{e : Exit}(hmk : c.mks = [])(hr : Rel c ⟨fr,[]⟩ a w σ φ)(h : RelE ⟨w,σ,φ,MOf φ [],c.n,c.rd,[]⟩ e st' a' w' σ' φ') : RelE c e st' a' w' σ' φ':=by
 rcases h with h | ⟨he,r,h1,h2,h3,h4⟩
 ·have hb:=Rel.back (rd:=c.rd) (mk:=[]) hr h
  have hd : a'.defers = []:=h.defers
  have : ({ a' with defers:=c.mks } : Act) = a':=by rw [hmk,← hd]
  rw [this] at hb
  exact .inl hb
 ·have hb:=Rel.back (rd:=c.rd) (mk:=[]) hr h4
  rw [hmk] at hb
  exact .inr ⟨he,r,h1,h2,Nat.le_trans hr.fra.size h3,hb⟩
def wk(bl : Nat)(Q : Exit→St→Prop)(I : Prop)(kept : List (Nat×AV))(e : Exit)(st : St) : Prop:=(e = .normal∧I∧SubL st.fr kept)∨(e≠.normal∧aV bl Q e st)
def vf(bl : Nat)(Q : Exit→St→Prop)(e : Exit)(st : St) : Prop:=e≠.normal∧aV bl Q e st
theorem Gm{bl : Nat}{Q : Exit→St→Prop}{I : Prop}{kept : List (Nat×AV)}(h : I)(hs : SubL st.fr kept) : wk bl Q I kept .normal st:=.inl ⟨rfl,h,hs⟩
theorem Gn{bl : Nat}{Q : Exit→St→Prop}{I : Prop}{kept : List (Nat×AV)}{e : Exit}(he : e≠.normal)(h : aV bl Q e st) : wk bl Q I kept e st:=.inr ⟨he,h⟩
theorem EY{bl : Nat}{Q : Exit→St→Prop}{e : Exit}(he : e≠.normal)(h : aV bl Q e st) : vf bl Q e st:=⟨he,h⟩
theorem yg{id1 id2 bl : Nat}{o0 o1 o2 : Oper}{l2 : List Oper}{body2 : Code}{fr kept : List (Nat×AV)}{Q : Exit→St→Prop}{d0 d1 d2 : Nat}{t : TypeId}{x0 : Operand}{s : List UInt8}
  (hmk : c.mks = []) (h0 : o0.op = .move x0) (hg0 : o0.guard = none) (hd0 : o0.dst = some d0) (hb0 : Nat.blt d0 c.n = true) (hx : ev ⟨fr,[]⟩ x0 = some (.one (.d (.str s))))
  (h1 : o1.op = .range t (.tmp d0)) (hg1 : o1.guard = none) (hd1 : o1.dst = some d1) (hb1 : Nat.blt d1 c.n = true) (ht : P.underlying t = some .string)
  (h2 : o2.op = .next (.tmp d1) true) (hg2 : o2.guard = none) (hd2 : o2.dst = some d2) (hb2 : Nat.blt d2 c.n = true) (hne : Nat.beq d0 d1 = false)
  (hk : SubL fr kept) (hkd : look kept d0 = none) (hkd1 : look kept d1 = none) (hkd2 : look kept d2 = none) (Inv : Nat→Prop) (hi : Inv 0)
  (hmore : ∀ k,Inv k→k < s.length→∀ (c2 : Ctx),c2.n = c.n→c2.rd = c.rd→c2.mks = []→∀ raw,ao P c2 (o2::l2).toArray l2 ⟨(d2,.tup [(false,[.d (.bool true)]),(false,[.d (.int .i64 k)]),(false,[.d (.int .i32 (jp s k))])])::(d1,.one (.d (.raw raw)))::kept,[]⟩
   (fun st'=>OkC P c2 body2 st' (wk bl Q (Inv (k + jJ s k)) ((d1,.one (.d (.raw raw)))::kept))))
  (hover : ∀ k,Inv k→s.length≤k→∀ (c2 : Ctx),c2.n = c.n→c2.rd = c.rd→c2.mks = []→∀ raw,ao P c2 (o2::l2).toArray l2 ⟨(d2,.tup [(false,[.d (.bool false)])])::(d1,.one (.d (.raw raw)))::kept,[]⟩
   (fun st'=>OkC P c2 body2 st' (vf bl Q))) :
  OkC P c (.seq (.region id1 ⟨[o0,o1]⟩ false) (.block bl (.loop (.seq (.region id2 ⟨o2::l2⟩ false) body2)))) ⟨fr,[]⟩ Q:=by
 intro a w σ φ hr
 refine wpIn_seq (wpIn_region_list ?_)
 have hs:=bh hr hx
 replace hs:=RepC.d_inv hs
 generalize hv : a.eval x0 = v at hs
 cases hs with
 | str hlen =>
 have hrun0 : (execOp a.eval o0).run P w = .ok (.value (.string ⟨s.toArray⟩)) w:=by
  rw [← hv]; simp [execOp,h0]
 refine rO hg0 hrun0 ?_
 have hr1 : Rel c ⟨(d0,.one (.d (.str s)))::fr,[]⟩ (a.put o0.dst (.string ⟨s.toArray⟩)) w σ φ:=by
  have:=hr.putTo (dst:=o0.dst) (v:=.one (.d (.str s))) (u:=.string ⟨s.toArray⟩) (st':=⟨fr,[]⟩) (by rw [hd0]; exact hb0) hr.le hr.fresh hr.inv hr.mine hr.fra hr.pin (fun _=>RepC.d (.str hlen)) (fun s x _ hx=>⟨x,hx,fun z hz=>hz⟩)
  rw [hd0] at this ⊢; exact this
 generalize ha1 : a.put o0.dst (.string ⟨s.toArray⟩) = a1 at hr1
 have hv1 : a1.eval (.tmp d0) = .string ⟨s.toArray⟩:=by
  have h3:=bh hr1 (x:=.tmp d0) (v:=.one (.d (.str s))) (by simp [ev,look])
  replace h3:=RepC.d_inv h3
  generalize a1.eval (.tmp d0) = v1 at h3
  cases h3; rfl
 let ptr : Value:=.pointer (some ⟨w.heap.size,0,none⟩)
 have hrun1 : (execOp a1.eval o1).run P w = .ok (.value ptr) (w.alloc (.stringIter ⟨s.toArray⟩ 0)):=by
  have h4:=run_range_string (P:=P) w t ⟨s.toArray⟩ ht
  simp only [execOp,h1,hv1]
  simp only [Sem.run_bind,h4,Result.andThen_ok,Sem.run_pure]
  rfl
 refine rO hg1 hrun1 (wpListIn_nil ?_)
 have hrA:=hr1.alien (.stringIter ⟨s.toArray⟩ 0)
 have hr2 : Rel c ⟨(d1,.one (.d (.raw ptr)))::(d0,.one (.d (.str s)))::fr,[]⟩ (a1.put o1.dst ptr) (w.alloc (.stringIter ⟨s.toArray⟩ 0)) σ φ:=by
  have:=hrA.putTo (dst:=o1.dst) (v:=.one (.d (.raw ptr))) (u:=ptr) (st':=⟨(d0,.one (.d (.str s)))::fr,[]⟩) (by rw [hd1]; exact hb1) hrA.le hrA.fresh hrA.inv hrA.mine hrA.fra hrA.pin (fun _=>RepC.d (.raw rfl)) (fun s x _ hx=>⟨x,hx,fun z hz=>hz⟩)
  rw [hd1] at this ⊢; exact this
 generalize a1.put o1.dst ptr = a2 at hr2
 have hold : c.w0.heap.size≤w.heap.size:=hr.fra.size
 let r:=w.heap.size
 have hr3 : Rel c ⟨(d1,.one (.d (.raw ptr)))::kept,[]⟩ a2 (w.alloc (.stringIter ⟨s.toArray⟩ 0)) σ φ :=
  ⟨hr2.le,hr2.fresh,hr2.inv,hr2.mine,fun s v hv=>hr2.slot s v (SubL.look (l':=(d1,.one (.d (.raw ptr)))::kept) ⟨by simp [look],oG hkd1 (oG hkd hk)⟩ hv),hr2.defers,hr2.size,hr2.fra,hr2.pin⟩
 refine wpIn_block (wpIn_loop (fun a w=>∃ k σ φ,Inv k∧Rel c ⟨(d1,.one (.d (.raw ptr)))::kept,[]⟩ a w σ φ∧w.heap[r]? = some (.stringIter ⟨s.toArray⟩ k)) (fun _ w=>match w.heap[r]? with | some (.stringIter _ p)=>s.length - p | _=>0)
  ⟨0,σ,φ,hi,hr3,cG _ _⟩ ?_)
 clear hr3 hr2 hrA hr1 hrun1 hrun0 hv1 ha1 a1 a2
 rintro a w1 ⟨k,σ1,φ1,hI,hr4,hh⟩
 refine wpIn_seq (wpIn_region_list ?_)
 have hp : a.eval (.tmp d1) = ptr:=by
  have h3:=bh hr4 (x:=.tmp d1) (v:=.one (.d (.raw ptr))) (by simp [ev,look])
  replace h3:=RepC.d_inv h3
  generalize a.eval (.tmp d1) = v1 at h3
  cases h3; rfl
 have hsz : (⟨s.toArray⟩ : ByteArray).size = s.length:=by simp [ByteArray.size]
 have fin : ∀ {w2 : World} {st2 : St} {a2 : Act} (hr5 : Rel c ⟨st2.fr,[]⟩ a2 w2 σ1 φ1) (hst : st2.sto = []) {R : St→Prop} {K : Exit→St→Prop} (_ : ∀ st',R st'→OkC P ⟨w2,σ1,φ1,MOf φ1 [],c.n,c.rd,[]⟩ body2 st' K)
   (_ : ao P ⟨w2,σ1,φ1,MOf φ1 [],c.n,c.rd,[]⟩ (o2::l2).toArray l2 st2 R) {Z : Exit→Act→World→Prop}
   (_ : ∀ e a5 w5 st5 σ5 φ5,K e st5→RelE ⟨w2,σ1,φ1,MOf φ1 [],c.n,c.rd,[]⟩ e st5 a5 w5 σ5 φ5→Z e a5 w5),wpListIn (fnc c) 0 P (o2::l2).toArray (Exit.then (body2.wpIn (fnc c) 0 P Z) Z) l2 a2 w2:=by
  intro w2 st2 a2 hr5 hst R K hR hO Z hZ
  have hd0 : a2.defers = []:=hr5.defers.trans hmk
  have hd : ({ a2 with defers:=[] } : Act) = a2:=by rw [← hd0]
  have hr6:=hr5.anew [] c.rd
  rw [hd] at hr6
  obtain ⟨f2,s2⟩:=st2
  simp only at hst hr6
  subst hst
  refine hO a2 w2 σ1 φ1 _ hr6 fun a4 w4 σ4 φ4 st4 hK hr7=>?_
  exact wpIn_mono (hR st4 hK a4 w4 σ4 φ4 hr7) fun e a5 w5 ⟨st5,σ5,φ5,hq,hre⟩=>hZ e a5 w5 st5 σ5 φ5 hq hre
 have leave : ∀ {e : Exit} {a5 : Act} {w5 : World} {st5 : St} {σ5 : Sig} {φ5 : Pl},aV bl Q e st5→RelE c e st5 a5 w5 σ5 φ5→e≠.normal→Exit.inBlock bl (fun e a' w'=>∃ st' σ' φ',Q e st'∧RelE c e st' a' w' σ' φ') e a5 w5:=by
  intro e a5 w5 st5 σ5 φ5 hq hre hne
  cases e with
  | normal=>exact absurd rfl hne
  | exit i =>
    simp only [aV] at hq
    cases hb : Nat.beq i bl with
    | true =>
      have hi:=Nat.eq_of_beq_eq_true hb
      rw [hb] at hq
      simp only [Exit.inBlock]
      rw [if_pos hi]
      exact ⟨st5,σ5,φ5,hq,.inl (hre.rel (by simp))⟩
    | false =>
      have hi : i≠bl:=by rintro rfl; rw [Nat.beq_refl] at hb; cases hb
      rw [hb] at hq
      simp only [Exit.inBlock]
      rw [if_neg hi]
      exact ⟨st5,σ5,φ5,hq,hre⟩
  | _=>exact ⟨st5,σ5,φ5,hq,hre⟩
 by_cases hlt : k < s.length
 ·have hrun2:=uZ (P:=P) (ty:=o2.type) hh (by rw [hsz]; exact hlt)
  have hrun : (execOp a.eval o2).run P w1 = .ok (.value (.tuple #[.bool true,.int .i64 k,.int .i32 (Utf8.decode ⟨s.toArray⟩ k).1])) { w1 with heap:=w1.heap.setIfInBounds r (.stringIter ⟨s.toArray⟩ (k + (Utf8.decode ⟨s.toArray⟩ k).2)) }:=by
   simp only [execOp,h2,hp]
   simp only [Sem.run_bind,ptr]
   rw [show (⟨w.heap.size,0,none⟩ : Addr) = ⟨r,0,none⟩ from rfl,hrun2]
   rfl
  refine rO hg2 hrun ?_
  have hri:=hr4.iter (q:=k + (Utf8.decode ⟨s.toArray⟩ k).2) hh hold
  have hrl:=decode_le ⟨s.toArray⟩ k
  have hr5:=hri.putTo (dst:=o2.dst) (v:=.tup [(false,[.d (.bool true)]),(false,[.d (.int .i64 k)]),(false,[.d (.int .i32 (jp s k))])]) (u:=.tuple #[.bool true,.int .i64 k,.int .i32 (Utf8.decode ⟨s.toArray⟩ k).1]) (st':=⟨(d1,.one (.d (.raw ptr)))::kept,[]⟩) (by rw [hd2]; exact hb2) hri.le hri.fresh hri.inv hri.mine hri.fra hri.pin
   (fun _=>⟨[_,_,_],rfl,⟨⟨.d .bool,trivial⟩,⟨⟨.d (.int (by
    simp only [inR,IntKind.min,IntKind.max,IntKind.signed,IntKind.bits,if_true]; omega)),trivial⟩,⟨⟨.d (.int (by
    simp only [inR,jp,IntKind.min,IntKind.max,IntKind.signed,IntKind.bits,if_true]; omega)),trivial⟩,trivial⟩⟩⟩⟩) (fun s x _ hx=>⟨x,hx,fun z hz=>hz⟩)
  rw [hd2] at hr5 ⊢
  refine fin (st2:=⟨_,[]⟩) hr5 rfl (fun st' h=>h) (hmore k hI hlt ⟨_,σ1,φ1,MOf φ1 [],c.n,c.rd,[]⟩ rfl rfl rfl ptr) ?_
  rintro e a5 w5 st5 σ5 φ5 hq hre
  have hbk:=RelE.back hmk hri hre
  rcases hq with ⟨rfl,hI',hsub⟩ | ⟨hne',hq⟩
  ·have h6:=hbk.rel (by simp)
   have h7:=hre.rel (by simp)
   have hlt1 : r < w1.heap.size:=(Array.getElem?_eq_some_iff.1 hh).1
   have h8 : w5.heap[r]? = some (.stringIter ⟨s.toArray⟩ (k + jJ s k)):=by
    rw [h7.fra.block r (by simp only [Array.size_setIfInBounds]; exact hlt1) (by rintro ⟨id,e,p,h,_⟩; simp [look] at h)]
    simp [hlt1,jJ]
   have h9:=h6.dropTo (s':=[]) (by simp [look])
   refine ⟨⟨_,σ5,φ5,hI',⟨h9.le,h9.fresh,h9.inv,h9.mine,fun s v hv=>h9.slot s v (hsub.look hv),h9.defers,h9.size,h9.fra,h9.pin⟩,h8⟩,?_⟩
   ·simp only [h8,hh]
    have:=ye ⟨s.toArray⟩ k (by rw [hsz]; exact hlt)
    simp only [jJ]
    omega
  ·have:=leave hq hbk hne'
   cases e <;> first | exact absurd rfl hne' | exact this
 ·have hrun2:=uY (P:=P) (ty:=o2.type) hh (by rw [hsz]; exact hlt)
  have hrun : (execOp a.eval o2).run P w1 = .ok (.value (.tuple #[.bool false])) w1:=by
   simp only [execOp,h2,hp]
   simp only [Sem.run_bind,ptr]
   rw [show (⟨w.heap.size,0,none⟩ : Addr) = ⟨r,0,none⟩ from rfl,hrun2]
   rfl
  refine rO hg2 hrun ?_
  have hr5:=hr4.putTo (dst:=o2.dst) (v:=.tup [(false,[.d (.bool false)])]) (u:=.tuple #[.bool false]) (st':=⟨(d1,.one (.d (.raw ptr)))::kept,[]⟩) (by rw [hd2]; exact hb2) hr4.le hr4.fresh hr4.inv hr4.mine hr4.fra hr4.pin
   (fun _=>⟨[_],rfl,⟨⟨.d .bool,trivial⟩,trivial⟩⟩) (fun s x _ hx=>⟨x,hx,fun z hz=>hz⟩)
  rw [hd2] at hr5 ⊢
  refine fin (st2:=⟨_,[]⟩) hr5 rfl (fun st' h=>h) (hover k hI (by omega) ⟨_,σ1,φ1,MOf φ1 [],c.n,c.rd,[]⟩ rfl rfl rfl ptr) ?_
  rintro e a5 w5 st5 σ5 φ5 ⟨hne',hq⟩ hre
  have:=leave hq (RelE.back hmk hr4 hre) hne'
  cases e <;> first | exact absurd rfl hne' | exact this
end Go.Abs
namespace Go.Proofs.YtpejdgkaapnekaaGreat
open Go Go.Abs
attribute [local irreducible] ao OkC aU bg aV bA wk vf
set_option maxRecDepth 10000
theorem GE : Tryz.prog.underlying 9 = some .string:=by kernel_rfl
theorem wv{s : List UInt8}{k : Nat}(h : k < s.length) : (decide (jp s k < 32) || decide (126 < jp s k)) = !d9 (at_ s k):=by
 have hb:=ix h
 by_cases ha : (at_ s k).toNat < 128
 ·rw [(rP hb ha).1,Bool.eq_iff_iff]
  simp [d9]
  omega
 ·have:=BB hb ha
  rw [Bool.eq_iff_iff]
  simp [d9]
  omega
theorem Dz{s : List UInt8}{k : Nat}(h : k < s.length)(hb : d9 (at_ s k) = true) : jJ s k = 1:=by
 simp [d9] at hb
 exact (rP (ix h) (by omega)).2
theorem JT(s : List UInt8) : CallA Tryz.prog 341 [.one (.d (.str s)),.one (.d (.fn 281 [])),.one (.d (.bool true))] [] (.one (.d (.int .i64 (bS (fun c=>!d9 c) s 0)))) []:=by
 refine enter ab Tryz.func341 rfl (by decide +kernel) rfl fun hok w0 σ0 φ0 M=>?_
 have hl:=hok.1.str; clear hok
 repeat' (first|(refine h6H ?_; first|refine ac ?_|refine ah ab J J J J J ?_)|(refine h7H ?_; first|refine yg (kept:=[(1,_),(2,_)]) J J J J J J J J J J GE J J J J J (q2Q J J) J J J (fun k=>k≤s.length∧bS (fun c=>!d9 c) s 0 = bS (fun c=>!d9 c) (s.drop k) k) ⟨Nat.zero_le _,rfl⟩ ?_ ?_|refine al ?_|refine ae ?_)|refine ak ?_)
 ·rintro k ⟨hk,hi⟩ hlt ⟨w1,σ1,φ1,M1,n1,rd1,mk1⟩ hn hrd hmk raw
  dsimp only at hn hrd hmk
  subst hn hrd hmk
  repeat' (first|(refine h6H ?_; first|refine ac ?_|refine ah ab J J J J J ?_|(refine h4H ?_; refine ag J J J J J J J J (Jm _) J ?_))|(refine h7H ?_; first|refine al ?_|refine ae ?_|refine ay ?_|refine aw ?_|refine am ?_|refine bc J ?_|refine aA J (fun h=>?_) (fun h=>?_))|(show wk _ _ _ _ _ _; first|refine Gm ?_ (by first|exact ap|exact (q1Q J)|exact (q2Q J J)|exact (q3Q J J J)|exact (q4Q J J J J)|exact (q5Q J J J J J)|exact (q6Q J J J J J J)|exact (q7Q J J J J J J J))|refine Gn (by simp) ?_)|refine ak ?_|refine aC ?_|refine aG ?_|refine aP ?_|refine ai (.inl J) J J ?_)
  ·rw [wv hlt] at h
   rw [hi,aO hlt]
   simp at h
   simp [bS,h]
  ·rw [wv hlt] at h
   have hb : d9 (at_ s k) = true:=by simpa using h
   rw [Dz hlt hb]
   refine ⟨by omega,?_⟩
   rw [hi,aO hlt]
   simp [bS,hb]
 ·rintro k ⟨hk,hi⟩ hge ⟨w1,σ1,φ1,M1,n1,rd1,mk1⟩ hn hrd hmk raw
  dsimp only at hn hrd hmk
  subst hn hrd hmk
  repeat' (first|(refine h6H ?_; first|refine ac ?_|refine ah ab J J J J J ?_)|(refine h7H ?_; first|refine al ?_|refine ae ?_|refine am ?_|refine aW ?_|refine bm J ?_)|(show vf _ _ _ _; refine EY (by simp) ?_)|refine ak ?_|refine bd ?_|refine aX J ?_|refine ai (.inl J) J J ?_)
  rw [hi,List.drop_eq_nil_of_le hge]
  rfl
theorem JU(s : List UInt8) : CallA Tryz.prog 282 [.one (.d (.str s)),.one (.d (.fn 281 []))] [] (.one (.d (.int .i64 (bS (fun c=>!d9 c) s 0)))) []:=by
 refine enter ab Tryz.func282 rfl (by decide +kernel) rfl fun hok w0 σ0 φ0 M=>?_
 clear hok
 repeat' (first|(refine h6H ?_; first|refine ac ?_|refine ah ab J J J J J ?_|(refine h4H ?_; refine ag J J J J J J J J (JT _) J ?_))|(refine h7H ?_; first|refine al ?_|refine ae ?_|refine am ?_)|refine ak ?_|refine ai (.inl J) J J ?_)
 all_goals rfl
end Go.Proofs.YtpejdgkaapnekaaGreat
namespace Go.Proofs.YtpejdgkaapnekaaGreat
open Go Go.Abs
attribute [local irreducible] ao OkC aU bg aV bA
set_option maxRecDepth 10000
theorem IJ(a b : Int)(ha : 0≤a)(hb : 0≤b) : CallA Tryz.prog 280 [.one (.d (.int .i64 a)),.one (.d (.int .i64 b))] [] (.one (.d (.int .i64 ((Nat.gcd a.toNat b.toNat : Nat) : Int)))) []:=by
 have:=LZ a.toNat b.toNat
 rwa [Int.toNat_of_nonneg ha,Int.toNat_of_nonneg hb] at this
theorem FY{s : List UInt8} : ∀ (k : Nat),(decide (bS (fun c=>!d9 c) s k < 0)) = s.all d9:=by
 induction s with
 | nil=>intro k; simp [bS]
 | cons c r ih =>
   intro k
   simp only [bS,List.all_cons,← ih (k + 1)]
   rw [Bool.eq_iff_iff]
   by_cases hc : d9 c = true <;> simp [hc]
theorem DC(k n d : Int)(s : List UInt8) : CallA Tryz.prog 233 [.agg [.d (.int .i64 k),.d (.int .i64 n),.d (.int .i64 d),.d (.str s)]] [] (.one (.d (.bool (dU k n d s)))) []:=by
 refine enter ab Tryz.func233 rfl (by decide +kernel) rfl fun hok w0 σ0 φ0 M=>?_
 have h1:=(hok.1 (.d (.int .i64 n)) (by simp)); replace h1:=OkD.i64 h1; clear hok
 repeat' (first|(refine h6H ?_; first|refine ac ?_|refine ah ab J J J J J ?_|(refine h0H ?_; first|refine aT J J (by first|assumption|rfl) ?_|refine bH J J (by first|assumption|rfl) J J ?_|refine mK J J J J ?_|refine bn J J J J (fun h=>?_) (fun h=>?_))|(refine rb ?_; refine s_e aa J J J (o9 J J (aN (by first|omega|((try simp only [a0A,a1A,a2A,a3A,a4A,a5A,a6A,a7A,a8A,a9A,au,av] at *); omega)) (by first|omega|((try simp only [a0A,a1A,a2A,a3A,a4A,a5A,a6A,a7A,a8A,a9A,au,av] at *); omega)))) ?_)|(refine h2H ?_; first|refine s_e aa J J J (aF J J (by first|rfl|assumption) J) ?_|refine s_e aa J J J (az J J (by first|rfl|assumption) J) ?_)|(refine h4H ?_; first|refine ag J J J J J J J J (LY _ _ _ _) J ?_|refine ag J J J J J J J J (IJ _ _ (by first|omega|((try simp only [a0A,a1A,a2A,a3A,a4A,a5A,a6A,a7A,a8A,a9A,au,av] at *); omega)) (by first|omega|((try simp only [a0A,a1A,a2A,a3A,a4A,a5A,a6A,a7A,a8A,a9A,au,av] at *); omega))) J ?_|refine ag J J J J J J J J (JU _) J ?_)|(refine bC ?_; refine aM 0 J J J J J J ?_))|(refine h7H ?_; first|refine al ?_|refine ae ?_|refine ay ?_|refine aw ?_|refine am ?_|refine aA J (fun h=>?_) (fun h=>?_))|refine ak ?_|refine aC ?_|refine aG ?_|refine aP ?_|refine ai (.inl J) J J ?_)
 all_goals (try (((simp_all [dU,← FY 0,aO,List.drop_eq_nil_of_le]) <;> first | omega | (rw [Bool.eq_iff_iff]; simp; omega) | grind); done))
end Go.Proofs.YtpejdgkaapnekaaGreat
namespace Go.Proofs.YtpejdgkaapnekaaGreat
open Go Go.Abs
attribute [local irreducible] ao OkC aU bg aV bA
set_option maxRecDepth 10000
theorem J1(k n d : Int)(s : List UInt8) : CallA Tryz.prog 225 [.agg [.d (.int .i64 k),.d (.int .i64 n),.d (.int .i64 d),.d (.str s)]] [] (.one (.d (.int .i64 (if dU k n d s then 0 else 2)))) []:=by
 refine enter ab Tryz.func225 rfl (by decide +kernel) rfl fun hok w0 σ0 φ0 M=>?_
 repeat' (first|(refine h6H ?_; first|refine ac ?_|refine ah ab J J J J J ?_|(refine h4H ?_; refine ag J J J J J J J J (DC _ _ _ _) J ?_)|(refine bC ?_; refine aM 0 J J J J J J ?_))|(refine h7H ?_; first|refine al ?_|refine ae ?_|refine aw ?_|refine am ?_|refine aA J (fun h=>?_) (fun h=>?_))|refine ak ?_|refine aC ?_|refine ai (.inl J) J J ?_)
 all_goals (try (((simp_all [aO,List.drop_eq_nil_of_le]) <;> first | omega | (rw [Bool.eq_iff_iff]; simp; omega) | grind); done))
theorem Gh(k n d : Int)(s : List UInt8)(t : Int) : CallA Tryz.prog 215 [.agg [.d (.int .i64 k),.d (.int .i64 n),.d (.int .i64 d),.d (.str s)],.one (.d (.int .i64 t))] [] (.one (.d (.bool (iD k n d s t)))) []:=by
 refine enter ab Tryz.func215 rfl (by decide +kernel) rfl fun hok w0 σ0 φ0 M=>?_
 clear hok
 repeat' (first|(refine h6H ?_; first|refine ac ?_|refine ah ab J J J J J ?_|(refine h0H ?_; first|refine aT J J (by first|assumption|rfl) ?_|refine bH J J (by first|assumption|rfl) J J ?_|refine mK J J J J ?_|refine bn J J J J (fun h=>?_) (fun h=>?_))|(refine h2H ?_; first|refine s_e aa J J J (aF J J (by first|rfl|assumption) J) ?_|refine s_e aa J J J (az J J (by first|rfl|assumption) J) ?_)|(refine h4H ?_; refine ag J J J J J J J J (DC _ _ _ _) J ?_)|(refine bC ?_; refine aM 0 J J J J J J ?_))|(refine h7H ?_; first|refine al ?_|refine ae ?_|refine ay ?_|refine aw ?_|refine am ?_|refine bc J ?_|refine aA J (fun h=>?_) (fun h=>?_))|refine ak ?_|refine aC ?_|refine aG ?_|refine aP ?_|refine ai (.inl J) J J ?_)
 all_goals (try (((simp_all [iD,aO,List.drop_eq_nil_of_le]) <;> first | omega | (rw [Bool.eq_iff_iff]; simp; omega) | grind); done))
 all_goals (by_cases hk : k = 0 <;> simp_all [iD,dU])
 all_goals omega
end Go.Proofs.YtpejdgkaapnekaaGreat
namespace Go.Proofs.YtpejdgkaapnekaaGreat
open Go Go.Abs
attribute [local irreducible] ao OkC aU bg aV bA
set_option maxRecDepth 10000
structure Cell where
 at' : List Int
 vals : List Val
 deriving Inhabited
def kU(c : Cell) : List D:=[bI c.at',bf c.vals]
def fu(l : List Cell) : D:=.sl 2 48 (l.map kU)
def mw : List Attr→List Val→Int
 | a::ats,v::vs=>if !iD v.kind v.num v.den v.str a.type then 12 else mw ats vs
 | _,_=>0
def dd(ds : List Dim)(ats : List Attr)(at' : List Int)(vs : List Val) : Int :=
 if (at'.length : Int)≠ds.length∨(vs.length : Int)≠ats.length then 13 else if !ofF ds at' then 3 else mw ats vs
theorem Ji(ds : List Dim)(ats : List Attr)(at' : List Int)(vs : List Val) : CallA Tryz.prog 161 [.one (.d (bZ ds)),.one (.d (bT ats)),.agg [.d (bI at'),.d (bf vs)]] [] (.one (.d (.int .i64 (dd ds ats at' vs)))) []:=by
 refine enter ab Tryz.func161 rfl (by decide +kernel) rfl fun hok w0 σ0 φ0 M=>?_
 have h1:=hok.1.sl.1; have h2:=hok.2.1.sl.1; have h3:=OkD.sl (hok.2.2.1 (.d (bI at')) (by simp)); have h4:=OkD.sl (hok.2.2.1 (.d (bf vs)) (by simp)); clear hok
 replace h3:=h3.1; replace h4:=h4.1; simp only [List.length_map] at h1 h2 h3 h4
 repeat' (first|(refine h6H ?_; first|refine ac ?_|refine ah ab J J J J J ?_|(refine h0H ?_; first|refine aT J J (by first|assumption|rfl) ?_|refine bH J J (by first|assumption|rfl) J J ?_|refine bn J J J J (fun h=>?_) (fun h=>?_))|(refine h1H ?_; refine s_e aa J J J (aL J J J J (aN (by omega) (by omega))) ?_)|(refine h2H ?_; first|refine s_e aa J J J (aF J J (by first|rfl|assumption) J) ?_|refine s_e aa J J J (az J J (by first|rfl|assumption) J) ?_)|(refine h3H ?_; refine s_e aa J J J (ar J J J J J (by first|omega|((try simp only [a0A,a1A,a2A,a3A,a4A,a5A,a6A,a7A,a8A,a9A,au,av] at *); omega)) (aJ (by first|omega|((try simp only [a0A,a1A,a2A,a3A,a4A,a5A,a6A,a7A,a8A,a9A,au,av] at *); omega)))) ?_)|(refine h4H ?_; refine ag J J J J J J J J (Jj _ _) J ?_)|(refine bC ?_; refine aM 0 J J J J J J ?_)|(refine h5H ?_; refine ax ab 1 J J J J J ?_)|refine aI aa J J J ?_)|(refine h7H ?_; first|refine al ?_|refine ae ?_|refine ay ?_|refine aw ?_|refine am ?_|refine aW ?_|refine bc J ?_|refine aA J (fun h=>?_) (fun h=>?_)|refine aR progOk.mo ?_|refine bk 6 J [(1,_),(29,_),(30,_)] (q3Q J J J) (fun (k : Nat)=>[(31,.one (.d (.int .i64 k)))]) (fun (k : Nat)=>k≤vs.length∧at'.length = ds.length∧vs.length = ats.length∧ofF ds at' = true∧dd ds ats at' vs = mw (ats.drop k) (vs.drop k)) (fun (k : Nat)=>vs.length - k) 0 (q1Q J) ?_ (fun k ⟨hk,hq,hq2,hof,hs⟩=>?_))|(refine bP ?_; first|refine bG (by kernel_rfl) ?_|refine d_e aa J J J (aK J J) ?_|(refine h8H ?_; refine d_e aa J J J (ar J J J J J (by first|omega|((try simp only [a0A,a1A,a2A,a3A,a4A,a5A,a6A,a7A,a8A,a9A,au,av] at *); omega)) (aJ (by first|omega|((try simp only [a0A,a1A,a2A,a3A,a4A,a5A,a6A,a7A,a8A,a9A,au,av] at *); omega)))) ?_)|(refine h9H ?_; refine d_l J J (bj J J J J J J (Gh _ _ _ _ _) J) ?_))|(show Exists _; refine Exists.intro (k + 1) ⟨?_,?_,(by (repeat' first|exact ap|refine af J ?_); done),(q1Q J),(q3Q J J J)⟩)|refine ak ?_|refine aC ?_|refine bd ?_|refine aG ?_|refine aP ?_|refine aX J ?_|refine ai (.inl J) J J ?_)
 all_goals (try (((simp_all [dd,mw,aO,List.drop_eq_nil_of_le]) <;> first | omega | (rw [Bool.eq_iff_iff]; simp; omega) | grind); done))
end Go.Proofs.YtpejdgkaapnekaaGreat
namespace Go.Proofs.YtpejdgkaapnekaaGreat
open Go Go.Abs
attribute [local irreducible] ao OkC aU bg aV bA
set_option maxRecDepth 10000
def d6(ds : List Dim)(ats : List Attr) : Option (List Int)→List Cell→Int
 | _,[]=>0
 | none,c::r=>if dd ds ats c.at' c.vals≠0 then dd ds ats c.at' c.vals else d6 ds ats (some c.at') r
 | some p,c::r=>if dd ds ats c.at' c.vals≠0 then dd ds ats c.at' c.vals else if cD p c.at' = 0 then 5 else if 0 < cD p c.at' then 2 else d6 ds ats (some c.at') r
def dz(ds : List Dim)(ats : List Attr)(cs : List Cell) : Int:=if d7 ds ats≠0 then d7 ds ats else if 4096 < (cs.length : Int) then 9 else d6 ds ats none cs
def pv(cs : List Cell)(k : Nat) : Option (List Int):=if k = 0 then none else some (at_ cs ((k : Int) - 1).toNat).at'
theorem pB{cs : List Cell} : pv cs 0 = none:=rfl
theorem vL{cs : List Cell}{k : Nat}(h : ¬ k = 0) : pv cs k = some (at_ cs ((k : Int) - 1).toNat).at':=by simp [pv,h]
theorem pC{cs : List Cell}{k : Nat} : pv cs (k + 1) = some (at_ cs k).at':=by
 have : (((k + 1 : Nat) : Int) - 1).toNat = k:=by omega
 rw [vL (by omega),this]
theorem p7{ds : List Dim}{ats : List Attr}{p : Option (List Int)}{c : Cell}{r : List Cell}(h : dd ds ats c.at' c.vals≠0) : d6 ds ats p (c::r) = dd ds ats c.at' c.vals:=by cases p <;> simp [d6,h]
theorem rC : ∀ {a b : List Int},cD a b = 0∨cD a b = 1∨cD a b = -1
 | [],[]=>by simp [cD]
 | [],_::_=>by simp [cD]
 | _::_,[]=>by simp [cD]
 | x::xs,y::ys=>by
   simp only [cD]
   split
   ·simp
   ·split
    ·simp
    ·exact rC
theorem vM{a b : List Int} : 0 < cD a b↔cD a b = 1:=by
 rcases rC (a:=a) (b:=b) with h | h | h <;> simp [h]
end Go.Proofs.YtpejdgkaapnekaaGreat
namespace Go.Proofs.YtpejdgkaapnekaaGreat
open Go Go.Abs
def ltC(x y : Cell) : Prop:=cD x.at' y.at' < 0
theorem BH{x y z : Cell}(h1 : ltC x y)(h2 : ltC y z) : ltC x z:=by
 unfold ltC at *
 have h:=oh x.at' y.at' z.at' (by omega) (by omega)
 have:=h.2
 by_cases h0 : cD x.at' z.at' = 0
 ·have:=this h0; omega
 ·omega
theorem oL{ds : List Dim}{ats : List Attr} : ∀ {cs : List Cell} {p : List Int},d6 ds ats (some p) cs = 0→(∀ c∈cs,cD p c.at' < 0)∧cs.Pairwise ltC∧∀ c∈cs,dd ds ats c.at' c.vals = 0
 | [],p,_=>⟨by simp,.nil,by simp⟩
 | c::r,p,h=>by
   simp only [d6] at h
   split at h
   ·rename_i h1; exact absurd h h1
   split at h
   ·omega
   split at h
   ·omega
   rename_i h1 h2 h3
   have hlt : cD p c.at' < 0:=by omega
   obtain ⟨i1,i2,i3⟩:=oL h
   refine ⟨fun x hx=>?_,List.pairwise_cons.2 ⟨i1,i2⟩,fun x hx=>?_⟩
   ·rcases List.mem_cons.1 hx with rfl | hx
    ·exact hlt
    ·exact BH (x:=⟨p,[]⟩) (y:=c) hlt (i1 x hx)
   ·rcases List.mem_cons.1 hx with rfl | hx
    ·simpa using h1
    ·exact i3 x hx
theorem wu{ds : List Dim}{ats : List Attr}{cs : List Cell}(h : d6 ds ats none cs = 0) : cs.Pairwise ltC∧∀ c∈cs,dd ds ats c.at' c.vals = 0:=by
 cases cs with
 | nil=>exact ⟨.nil,by simp⟩
 | cons c r =>
   simp only [d6] at h
   split at h
   ·rename_i h1; exact absurd h h1
   rename_i h1
   obtain ⟨i1,i2,i3⟩:=oL h
   refine ⟨List.pairwise_cons.2 ⟨i1,i2⟩,fun x hx=>?_⟩
   rcases List.mem_cons.1 hx with rfl | hx
   ·simpa using h1
   ·exact i3 x hx
structure OkA (ds : List Dim) (ats : List Attr) (cs : List Cell) : Prop where
 sch : d7 ds ats = 0
 few : cs.length≤4096
 srt : cs.Pairwise ltC
 cel : ∀ c∈cs,dd ds ats c.at' c.vals = 0
theorem okA{ds : List Dim}{ats : List Attr}{cs : List Cell}(h : dz ds ats cs = 0) : OkA ds ats cs:=by
 unfold dz at h
 split at h
 ·rename_i h1; exact absurd h h1
 split at h
 ·omega
 rename_i h1 h2
 obtain ⟨h3,h4⟩:=wu h
 exact ⟨by simpa using h1,by omega,h3,h4⟩
theorem zT{ds : List Dim}{ats : List Attr}(h : d7 ds ats = 0) : er ds = 0∧1≤ats.length∧ats.length≤6∧jN (ds.map Dim.name) ats = 0:=by
 unfold d7 at h
 split at h
 ·rename_i h1; exact absurd h h1
 split at h
 ·omega
 rename_i h1 h2
 exact ⟨by simpa using h1,by omega,by omega,h⟩
theorem ur : ∀ {ds : List Dim} {met : List (List UInt8)},gQ met ds = 0→(∀ d∈ds,g9 d.lo d.hi = true∧iE d.name = true∧d.name ∉ met)∧(ds.map Dim.name).Nodup
 | [],met,_=>⟨by simp,by simp⟩
 | d::r,met,h=>by
   simp only [gQ] at h
   split at h
   ·omega
   split at h
   ·omega
   rename_i h1 h2
   obtain ⟨i1,i2⟩:=ur h
   simp only [Bool.or_eq_true,Bool.not_eq_true',not_or,Bool.not_eq_false,Bool.not_eq_true,List.contains_eq_mem,decide_eq_true_eq,decide_eq_false_iff_not] at h1
   refine ⟨fun x hx=>?_,?_⟩
   ·rcases List.mem_cons.1 hx with rfl | hx
    ·exact ⟨by simpa using h2,h1.1,h1.2⟩
    ·obtain ⟨j1,j2,j3⟩:=i1 x hx
     exact ⟨j1,j2,fun hm=>j3 (List.mem_append.2 (.inl hm))⟩
   ·rw [List.map_cons,List.nodup_cons]
    refine ⟨fun hm=>?_,i2⟩
    obtain ⟨x,hx,he⟩:=List.mem_map.1 hm
    exact (i1 x hx).2.2 (by rw [he]; simp)
theorem Dy{ds : List Dim}(h : er ds = 0) : 1≤ds.length∧ds.length≤4∧(∀ d∈ds,g9 d.lo d.hi = true∧iE d.name = true)∧(ds.map Dim.name).Nodup:=by
 unfold er at h
 split at h
 ·omega
 rename_i h1
 obtain ⟨h2,h3⟩:=ur h
 exact ⟨by omega,by omega,fun d hd=>⟨(h2 d hd).1,(h2 d hd).2.1⟩,h3⟩
theorem boundsF_ok{lo hi : Int} : g9 lo hi = true↔-1073741824≤lo∧lo≤1073741824∧lo≤hi∧hi≤1073741825:=by
 simp only [g9,Bool.and_eq_true,decide_eq_true_eq]; omega
end Go.Proofs.YtpejdgkaapnekaaGreat
namespace Go.Proofs.YtpejdgkaapnekaaGreat
open Go Go.Abs
attribute [local irreducible] ao OkC aU bg aV bA
set_option maxRecDepth 10000
theorem ul{s : List UInt8} : iE s = true↔(1≤s.length∧s.length≤12)∧g8 (at_ s 0).toNat = true∧∀ j,j < s.length→gP (at_ s j).toNat = true:=by
 simp only [iE,Bool.and_eq_true,decide_eq_true_eq,List.all_eq_true,and_assoc]
 refine and_congr_right fun _=>and_congr_right fun _=>and_congr_right fun _=>⟨fun h j hj=>h _ (ea hj),fun h x hx=>?_⟩
 obtain ⟨j,hj⟩:=List.getElem?_of_mem hx
 have hl:=(List.getElem?_eq_some_iff.1 hj).1
 rw [ix hl] at hj
 rw [← Option.some.inj hj]; exact h j hl
theorem C7(s : List UInt8) : CallA Tryz.prog 142 [.one (.d (.str s))] [] (.one (.d (.bool (iE s)))) []:=by
 refine enter ab Tryz.func142 rfl (by decide +kernel) rfl fun hok w0 σ0 φ0 M=>?_
 have h1:=hok.1.str; clear hok
 repeat' (first|(refine h6H ?_; first|refine ac ?_|refine ah ab J J J J J ?_|(refine h0H ?_; first|refine aT J J (by first|assumption|rfl) ?_|refine bH J J (by first|assumption|rfl) J J ?_|refine mK J J J J ?_|refine bn J J J J (fun h=>?_) (fun h=>?_))|(refine fH ?_; refine E0 ab J J J J J J (by first|omega|((try simp only [a0A,a1A,a2A,a3A,a4A,a5A,a6A,a7A,a8A,a9A,au,av] at *); omega)) ?_)|(refine h1H ?_; refine s_e aa J J J (aL J J J J (aN (by omega) (by omega))) ?_)|(refine h2H ?_; first|refine s_e aa J J J (aF J J (by first|rfl|assumption) J) ?_|refine s_e aa J J J (az J J (by first|rfl|assumption) J) ?_)|(refine h3H ?_; refine s_e aa J J J (ar J J J J J (by first|omega|((try simp only [a0A,a1A,a2A,a3A,a4A,a5A,a6A,a7A,a8A,a9A,au,av] at *); omega)) (aJ (by first|omega|((try simp only [a0A,a1A,a2A,a3A,a4A,a5A,a6A,a7A,a8A,a9A,au,av] at *); omega)))) ?_))|(refine h7H ?_; first|refine al ?_|refine ae ?_|refine ay ?_|refine aw ?_|refine am ?_|refine aW ?_|refine bc J ?_|refine bm J ?_|refine aA J (fun h=>?_) (fun h=>?_)|refine bk 4 J [(15,_),(16,_)] (q2Q J J) (fun (k : Nat)=>[(17,.one (.d (.int .i64 k)))]) (fun (k : Nat)=>k≤s.length∧1≤s.length∧s.length≤12∧(0 < k→g8 (at_ s 0).toNat = true)∧(∀ j,j < k→gP (at_ s j).toNat = true)) (fun (k : Nat)=>s.length - k) 0 (q1Q J) ?_ (fun k ⟨hk,hq,hq2,hf,hs⟩=>?_))|(show Exists _; refine Exists.intro (k + 1) ⟨?_,?_,(by (repeat' first|exact ap|refine af J ?_); done),(q1Q J),(q2Q J J)⟩)|refine ak ?_|refine aC ?_|refine bd ?_|refine aG ?_|refine aP ?_|refine aX J ?_|refine ai (.inl J) J J ?_)
 all_goals (try simp only [a0A,a1A,a2A,Bool.not_eq_false',a3A,a4A,a5A,a7A,a8A,a9A,au,av,nC] at *)
 all_goals first
  | omega
  | (refine ⟨by omega,by omega,by omega,?_,?_⟩
     ·intro hk0
      by_cases h0 : 0 < k
      ·exact hf h0
      ·have hk0' : k = 0:=by omega
       subst hk0'
       simp only [g8,Bool.and_eq_true,decide_eq_true_eq]; omega
     ·intro j hj
      rcases Nat.lt_or_ge j k with hjk | hjk
      ·exact hs j hjk
      ·have hje : j = k:=by omega
       subst hje
       simp only [gP,g8,Bool.or_eq_true,Bool.and_eq_true,decide_eq_true_eq]; omega)
  | (congr 3; symm; rw [Bool.eq_false_iff,ne_eq,ul]; rintro ⟨hlen,h0,hj⟩
     first
      | omega
      | (have hjk:=hj k (by omega)
         simp only [gP,g8,Bool.or_eq_true,Bool.and_eq_true,decide_eq_true_eq] at hjk h0
         by_cases hk0 : k = 0
         ·subst hk0; omega
         ·omega))
  | (congr 3; symm; rw [ul]; exact ⟨⟨hq,hq2⟩,hf (by omega),fun j hj=>hs j (by omega)⟩)
  | (refine ⟨by omega,by omega,by omega,fun h=>by omega,fun j hj=>by omega⟩)
end Go.Proofs.YtpejdgkaapnekaaGreat
namespace Go.Proofs.YtpejdgkaapnekaaGreat
open Go Go.Abs
attribute [local irreducible] ao OkC aU bg aV bA
set_option maxRecDepth 10000
theorem H2(ds : List Dim)(hne : er ds≠0) : CallA Tryz.prog 190 [.one (.d (bZ ds)),.one (.mapr 1000000)] [(1000000,.map false false (dB []))] (.one (.d (.int .i64 (er ds)))) []:=by
 refine enter ab Tryz.func190 rfl (by decide +kernel) rfl fun hok w0 σ0 φ0 M=>?_
 have h1:=hok.1.sl.1; clear hok; simp only [List.length_map] at h1
 repeat' (first|(refine h6H ?_; first|refine ac ?_|refine ah ab J J J J J ?_|(refine h0H ?_; first|refine aT J J (by first|assumption|rfl) ?_|refine bH J J (by first|assumption|rfl) J J ?_|refine bn J J J J (fun h=>?_) (fun h=>?_))|(refine h1H ?_; refine s_e aa J J J (aL J J J J (aN (by omega) (by omega))) ?_)|(refine h2H ?_; first|refine s_e aa J J J (aF J J (by first|rfl|assumption) J) ?_|refine s_e aa J J J (az J J (by first|rfl|assumption) J) ?_)|(refine h3H ?_; refine s_e aa J J J (ar J J J J J (by first|omega|((try simp only [a0A,a1A,a2A,a3A,a4A,a5A,a6A,a7A,a8A,a9A,au,av] at *); omega)) (aJ (by first|omega|((try simp only [a0A,a1A,a2A,a3A,a4A,a5A,a6A,a7A,a8A,a9A,au,av] at *); omega)))) ?_)|(refine h4H ?_; refine ag J J J J J J J J (C7 _) J ?_)|(refine h5H ?_; refine ax ab 0 J J J J J ?_)|refine aI aa J J J ?_|refine oI aa J J J J J J J J J J J J ?_|refine qS aa J J J J J J J J J J J (by assumption) ?_)|(refine h7H ?_; first|refine al ?_|refine ae ?_|refine ay ?_|refine aw ?_|refine am ?_|refine aW ?_|refine bc J ?_|refine aA J (fun h=>?_) (fun h=>?_)|refine cR 4 J [(1,_),(15,_),(16,_)] (q3Q J J J) (fun (p : Nat×List (List UInt8))=>[(17,.one (.d (.int .i64 (p.1 : Int))))]) (fun (p : Nat×List (List UInt8))=>[(1000000,.map false false (dB p.2))]) (fun (p : Nat×List (List UInt8))=>p.1≤ds.length∧(1 : Int)≤ds.length∧(ds.length : Int)≤4∧er ds = gQ p.2 (ds.drop p.1)) (fun (p : Nat×List (List UInt8))=>ds.length - p.1) (0,[]) (q1Q J) (by (repeat' first|exact ap|refine af J ?_); done) ?_ (fun p ⟨hk,hq,hq2,hs⟩=>?_))|(show Exists _; refine Exists.intro ((p.1 + 1,p.2 ++ [(at_ ds p.1).name])) ⟨?_,?_,(by (repeat' first|exact ap|refine af J ?_); done),(q1Q J),(q3Q J J J)⟩)|refine ak ?_|refine aC ?_|refine bd ?_|refine aG ?_|refine aP ?_|refine aX J ?_|refine ai (.inl J) J J ?_)
 all_goals (try (((simp_all [er,gQ,g9,aO,List.drop_eq_nil_of_le]) <;> first | omega | (rw [Bool.eq_iff_iff]; simp; omega) | grind); done))
theorem H3(ds : List Dim)(he : er ds = 0) : CallA Tryz.prog 190 [.one (.d (bZ ds)),.one (.mapr 1000000)] [(1000000,.map false false (dB []))] (.one (.d (.int .i64 0))) [(1000000,.map false false (dB (ds.map Dim.name)))]:=by
 refine enter ab Tryz.func190 rfl (by decide +kernel) rfl fun hok w0 σ0 φ0 M=>?_
 have h1:=hok.1.sl.1; clear hok; simp only [List.length_map] at h1
 repeat' (first|(refine h6H ?_; first|refine ac ?_|refine ah ab J J J J J ?_|(refine h0H ?_; first|refine aT J J (by first|assumption|rfl) ?_|refine bH J J (by first|assumption|rfl) J J ?_|refine bn J J J J (fun h=>?_) (fun h=>?_))|(refine h1H ?_; refine s_e aa J J J (aL J J J J (aN (by omega) (by omega))) ?_)|(refine h2H ?_; first|refine s_e aa J J J (aF J J (by first|rfl|assumption) J) ?_|refine s_e aa J J J (az J J (by first|rfl|assumption) J) ?_)|(refine h3H ?_; refine s_e aa J J J (ar J J J J J (by first|omega|((try simp only [a0A,a1A,a2A,a3A,a4A,a5A,a6A,a7A,a8A,a9A,au,av] at *); omega)) (aJ (by first|omega|((try simp only [a0A,a1A,a2A,a3A,a4A,a5A,a6A,a7A,a8A,a9A,au,av] at *); omega)))) ?_)|(refine h4H ?_; refine ag J J J J J J J J (C7 _) J ?_)|(refine h5H ?_; refine ax ab 0 J J J J J ?_)|refine aI aa J J J ?_|refine oI aa J J J J J J J J J J J J ?_|refine qS aa J J J J J J J J J J J (by assumption) ?_)|(refine h7H ?_; first|refine al ?_|refine ae ?_|refine ay ?_|refine aw ?_|refine am ?_|refine aW ?_|refine bc J ?_|refine aA J (fun h=>?_) (fun h=>?_)|refine cR 4 J [(1,_),(15,_),(16,_)] (q3Q J J J) (fun (p : Nat×List (List UInt8))=>[(17,.one (.d (.int .i64 (p.1 : Int))))]) (fun (p : Nat×List (List UInt8))=>[(1000000,.map false false (dB p.2))]) (fun (p : Nat×List (List UInt8))=>p.1≤ds.length∧gQ p.2 (ds.drop p.1) = 0∧p.2 = (ds.take p.1).map Dim.name) (fun (p : Nat×List (List UInt8))=>ds.length - p.1) (0,[]) (q1Q J) (by (repeat' first|exact ap|refine af J ?_); done) ?_ (fun p ⟨hk,hs,hm⟩=>?_))|(show Exists _; refine Exists.intro ((p.1 + 1,p.2 ++ [(at_ ds p.1).name])) ⟨?_,?_,(by (repeat' first|exact ap|refine af J ?_); done),(q1Q J),(q3Q J J J)⟩)|refine ak ?_|refine aC ?_|refine bd ?_|refine aG ?_|refine aP ?_|refine aX J ?_)
 all_goals (try (((simp_all [er,gQ,g9,gl,aO,List.drop_eq_nil_of_le]) <;> first | omega | (rw [Bool.eq_iff_iff]; simp; omega) | grind); done))
 ·have hl : ds.length≤p.1:=by simpa using h
  have hp : p.2 = ds.map Dim.name:=by rw [hm,List.take_of_length_le hl]
  rw [hp]
  exact iL (.inl rfl) rfl rfl rfl (q1Q rfl)
end Go.Proofs.YtpejdgkaapnekaaGreat
namespace Go.Proofs.YtpejdgkaapnekaaGreat
open Go Go.Abs
attribute [local irreducible] ao OkC aU bg aV bA
set_option maxRecDepth 10000
theorem Ij(ds : List Dim)(ats : List Attr)(hne : er ds≠0) : CallA Tryz.prog 108 [.one (.d (bZ ds)),.one (.d (bT ats))] [] (.one (.d (.int .i64 (d7 ds ats)))) []:=by
 refine enter ab Tryz.func108 rfl (by decide +kernel) rfl fun hok w0 σ0 φ0 M=>?_
 clear hok
 repeat' (first|(refine h6H ?_; first|refine ac ?_|refine ah ab J J J J J ?_|refine cj aa 0 J J J J J J ?_)|(refine h7H ?_; first|refine al ?_|refine ae ?_)|refine ak ?_)
 refine mN 16 [(1000000,0)] (rav':=.one (.d (.int .i64 (er ds)))) (H2 ds hne) rfl rfl rfl rfl rfl rfl ⟨⟨0,rfl,rfl⟩,trivial⟩ trivial rfl rfl rfl rfl ?_
 repeat' (first|(refine h6H ?_; first|refine ac ?_|refine ah ab J J J J J ?_|(refine h0H ?_; first|refine aT J J (by first|assumption|rfl) ?_|refine bH J J (by first|assumption|rfl) J J ?_|refine bn J J J J (fun h=>?_) (fun h=>?_))|(refine h2H ?_; first|refine s_e aa J J J (aF J J (by first|rfl|assumption) J) ?_|refine s_e aa J J J (az J J (by first|rfl|assumption) J) ?_))|(refine h7H ?_; first|refine al ?_|refine ae ?_|refine ay ?_|refine aw ?_|refine am ?_|refine bc J ?_|refine aA J (fun h=>?_) (fun h=>?_))|refine ak ?_|refine aC ?_|refine ai (.inl J) J J ?_)
 all_goals (try (((simp_all [d7,aO,List.drop_eq_nil_of_le]) <;> first | omega | (rw [Bool.eq_iff_iff]; simp; omega) | grind); done))
theorem Ik(ds : List Dim)(ats : List Attr)(he : er ds = 0) : CallA Tryz.prog 108 [.one (.d (bZ ds)),.one (.d (bT ats))] [] (.one (.d (.int .i64 (d7 ds ats)))) []:=by
 refine enter ab Tryz.func108 rfl (by decide +kernel) rfl fun hok w0 σ0 φ0 M=>?_
 have h1:=hok.2.1.sl.1; clear hok; simp only [List.length_map] at h1
 repeat' (first|(refine h6H ?_; first|refine ac ?_|refine ah ab J J J J J ?_|refine cj aa 0 J J J J J J ?_)|(refine h7H ?_; first|refine al ?_|refine ae ?_)|refine ak ?_)
 refine mN 16 [(1000000,0)] (rav':=.one (.d (.int .i64 0))) (H3 ds he) rfl rfl rfl rfl rfl rfl ⟨⟨0,rfl,rfl⟩,trivial⟩ ⟨fun i e h1 h2=>?_,trivial⟩ rfl rfl rfl rfl ?_
 ·have h1' : some 0 = some i:=h1
  cases h1'
  have h2' : some (AObj.map false false (dB [])) = some e:=h2
  cases h2'
  exact ⟨rfl,rfl⟩
 repeat' (first|(refine h6H ?_; first|refine ac ?_|refine ah ab J J J J J ?_|(refine h0H ?_; first|refine aT J J (by first|assumption|rfl) ?_|refine bH J J (by first|assumption|rfl) J J ?_|refine bn J J J J (fun h=>?_) (fun h=>?_))|(refine h1H ?_; refine s_e aa J J J (aL J J J J (aN (by omega) (by omega))) ?_)|(refine h2H ?_; first|refine s_e aa J J J (aF J J (by first|rfl|assumption) J) ?_|refine s_e aa J J J (az J J (by first|rfl|assumption) J) ?_)|(refine h3H ?_; refine s_e aa J J J (ar J J J J J (by first|omega|((try simp only [a0A,a1A,a2A,a3A,a4A,a5A,a6A,a7A,a8A,a9A,au,av] at *); omega)) (aJ (by first|omega|((try simp only [a0A,a1A,a2A,a3A,a4A,a5A,a6A,a7A,a8A,a9A,au,av] at *); omega)))) ?_)|(refine h4H ?_; refine ag J J J J J J J J (C7 _) J ?_)|(refine h5H ?_; refine ax ab 1 J J J J J ?_)|refine aI aa J J J ?_|refine oI aa J J J J J J J J J J J J ?_|refine qS aa J J J J J J J J J J J (by assumption) ?_)|(refine h7H ?_; first|refine al ?_|refine ae ?_|refine ay ?_|refine aw ?_|refine am ?_|refine aW ?_|refine bc J ?_|refine bm J ?_|refine aA J (fun h=>?_) (fun h=>?_)|refine cR 8 J [(5,_),(24,_),(25,_)] (q3Q J J J) (fun (p : Nat×List (List UInt8))=>[(26,.one (.d (.int .i64 (p.1 : Int))))]) (fun (p : Nat×List (List UInt8))=>[(0,.map false false (dB p.2))]) (fun (p : Nat×List (List UInt8))=>p.1≤ats.length∧er ds = 0∧(1 : Int)≤ats.length∧(ats.length : Int)≤6∧d7 ds ats = jN p.2 (ats.drop p.1)) (fun (p : Nat×List (List UInt8))=>ats.length - p.1) (0,ds.map Dim.name) (q1Q J) (by (repeat' first|exact ap|refine af J ?_); done) ?_ (fun p ⟨hk,hd,hq,hq2,hs⟩=>?_))|(show Exists _; refine Exists.intro ((p.1 + 1,p.2 ++ [(at_ ats p.1).name])) ⟨?_,?_,(by (repeat' first|exact ap|refine af J ?_); done),(q1Q J),(q3Q J J J)⟩)|refine ak ?_|refine aC ?_|refine bd ?_|refine aG ?_|refine aP ?_|refine aX J ?_|refine ai (.inl J) J J ?_)
 all_goals (try (((simp_all [d7,jN,aO,List.drop_eq_nil_of_le]) <;> first | omega | (rw [Bool.eq_iff_iff]; simp; omega) | grind); done))
theorem JV(ds : List Dim)(ats : List Attr) : CallA Tryz.prog 108 [.one (.d (bZ ds)),.one (.d (bT ats))] [] (.one (.d (.int .i64 (d7 ds ats)))) []:=by
 by_cases h : er ds = 0
 ·exact Ik ds ats h
 ·exact Ij ds ats h
end Go.Proofs.YtpejdgkaapnekaaGreat
namespace Go.Proofs.YtpejdgkaapnekaaGreat
open Go Go.Abs
attribute [local irreducible] ao OkC aU bg aV bA
set_option maxRecDepth 10000
theorem c59(ds : List Dim)(ats : List Attr)(cs : List Cell) : CallA Tryz.prog 59 [.agg [.d (bZ ds),.d (bT ats),.d (fu cs)]] [] (.one (.d (.int .i64 (dz ds ats cs)))) []:=by
 refine enter ab Tryz.func59 rfl (by decide +kernel) rfl fun hok w0 σ0 φ0 M=>?_
 have h1:=(OkD.sl (hok.1 (.d (fu cs)) (by simp))).1; clear hok; simp only [List.length_map] at h1
 repeat' (first|(refine h6H ?_; first|refine ac ?_|refine ah ab J J J J J ?_|(refine h1H ?_; refine s_e aa J J J (aL J J J J (aN (by omega) (by omega))) ?_)|(refine h3H ?_; refine s_e aa J J J (ar J J J J J (by first|omega|((try simp only [a0A,a1A,a2A,a3A,a4A,a5A,a6A,a7A,a8A,a9A,au,av] at *); omega)) (aJ (by first|omega|((try simp only [a0A,a1A,a2A,a3A,a4A,a5A,a6A,a7A,a8A,a9A,au,av] at *); omega)))) ?_)|(refine h4H ?_; first|refine ag J J J J J J J J (JV _ _) J ?_|refine ag J J J J J J J J (Ji _ _ _ _) J ?_)|(refine bC ?_; refine aM 0 J J J J J J ?_)|(refine h5H ?_; refine ax ab 1 J J J J J ?_)|refine aI aa J J J ?_)|(refine h7H ?_; first|refine al ?_|refine ae ?_|refine ay ?_|refine aw ?_|refine am ?_|refine aW ?_|refine aA J (fun h=>?_) (fun h=>?_)|refine aR progOk.mo ?_|refine bk 7 J [(1,_),(20,_),(21,_)] (q3Q J J J) (fun (k : Nat)=>[(22,.one (.d (.int .i64 k)))]) (fun (k : Nat)=>k≤cs.length∧d7 ds ats = 0∧(cs.length : Int)≤4096∧dz ds ats cs = d6 ds ats (pv cs k) (cs.drop k)) (fun (k : Nat)=>cs.length - k) 0 (q1Q J) ?_ (fun k ⟨hk,hsc,hq,hs⟩=>?_))|(refine bP ?_; first|refine bG (by kernel_rfl) ?_|refine d_e aa J J J (aK J J) ?_|(refine sP ?_; refine d_e aa J J J (bW J J J J (aN (by omega) (by omega))) ?_)|(refine h8H ?_; refine d_e aa J J J (ar J J J J J (by first|omega|((try simp only [a0A,a1A,a2A,a3A,a4A,a5A,a6A,a7A,a8A,a9A,au,av] at *); omega)) (aJ (by first|omega|((try simp only [a0A,a1A,a2A,a3A,a4A,a5A,a6A,a7A,a8A,a9A,au,av] at *); omega)))) ?_)|(refine h9H ?_; refine d_l J J (bj J J J J J J (c35 _ _) J) ?_))|(show Exists _; refine Exists.intro (k + 1) ⟨?_,?_,(by (repeat' first|exact ap|refine af J ?_); done),(q1Q J),(q3Q J J J)⟩)|refine ak ?_|refine aC ?_|refine bd ?_|refine aG ?_|refine aP ?_|refine aX J ?_|refine ai (.inl J) J J ?_)
 all_goals (try (((simp_all [dz,d6,pB,vL,pC,vM,aO,List.drop_eq_nil_of_le]) <;> first | omega | (rw [Bool.eq_iff_iff]; simp; omega) | grind); done))
 ·rename_i hlt
  have hk' : k < cs.length:=by simpa using hlt
  have hb : dd ds ats (at_ cs k).at' (at_ cs k).vals≠0:=by simpa using h
  rw [hs,aO hk',p7 hb]; simp
 ·rename_i hlt hc
  have hk' : k < cs.length:=by simpa using hlt
  have hk0 : k = 0:=by simpa using h
  have hb : dd ds ats (at_ cs k).at' (at_ cs k).vals = 0:=by simpa using hc
  refine ⟨by omega,hsc,hq,?_⟩
  rw [hs,aO hk',pC]
  subst hk0
  simp [d6,hb,pB]
end Go.Proofs.YtpejdgkaapnekaaGreat
namespace Go.Proofs.YtpejdgkaapnekaaGreat
open Go Go.Abs
attribute [local irreducible] ao OkC aU bg aV bA
set_option maxRecDepth 10000
def b9(x y : Val) : Bool:=dt (aj x) (aj y)
end Go.Proofs.YtpejdgkaapnekaaGreat
namespace Go.Proofs.YtpejdgkaapnekaaGreat
open Go Go.Abs
theorem wQ{α : Type}[Inhabited α] : ∀ {l m : List α},l.length = m.length→(∀ i,i < l.length→at_ l i = at_ m i)→l = m
 | [],[],_,_=>rfl
 | x::l,y::m,h,he=>by
   have h0 : x = y:=he 0 (by simp)
   rw [h0,wQ (l:=l) (m:=m) (by simpa using h) fun i hi=>he (i + 1) (by simpa using hi)]
 | [],_::_,h,_=>by simp at h
 | _::_,[],h,_=>by simp at h
theorem Dim.ext{a b : Dim}(h1 : a.name = b.name)(h2 : a.lo = b.lo)(h3 : a.hi = b.hi) : a = b:=by cases a; cases b; simp_all
structure Arr where
 dims : List Dim
 attrs : List Attr
 cells : List Cell
 deriving Inhabited
def Hq(a : Arr) : List D:=[bZ a.dims,bT a.attrs,fu a.cells]
theorem Cd(x y : Val) : b9 x y = true↔x = y:=by
 cases x; cases y
 simp [b9,aj,dt,eqD]
section
variable {a : Arr}
theorem OkA.dims(h : OkA a.dims a.attrs a.cells) : 1≤a.dims.length∧a.dims.length≤4∧(∀ i,i < a.dims.length→(-1073741824≤(at_ a.dims i).lo∧(at_ a.dims i).lo≤1073741824∧(at_ a.dims i).lo≤(at_ a.dims i).hi∧(at_ a.dims i).hi≤1073741825)∧iE (at_ a.dims i).name = true)∧(a.dims.map Dim.name).Nodup:=by
 obtain ⟨h1,h2,h3,h4⟩:=Dy (zT h.sch).1
 exact ⟨h1,h2,fun i hi=>⟨boundsF_ok.1 (h3 _ (ea hi)).1,(h3 _ (ea hi)).2⟩,h4⟩
end
end Go.Proofs.YtpejdgkaapnekaaGreat
namespace Go.Proofs.YtpejdgkaapnekaaGreat
open Go Go.Abs
attribute [local irreducible] ao OkC aU bg aV bA
set_option maxRecDepth 10000
inductive Scalar where
 | mk (op : Int) (name : List UInt8) (val : Val) (args : List Scalar)
 deriving Inhabited
def Scalar.op : Scalar→Int | .mk o _ _ _=>o
def Scalar.name : Scalar→List UInt8 | .mk _ n _ _=>n
def Scalar.val : Scalar→Val | .mk _ _ v _=>v
def Scalar.args : Scalar→List Scalar | .mk _ _ _ a=>a
theorem Scalar.args_lt : ∀ {s x : Scalar},x∈s.args→SizeOf.sizeOf x < SizeOf.sizeOf s
 | .mk o n v a,x,h=>by
   have:=List.sizeOf_lt_of_mem (show x∈a from h)
   simp; omega
theorem Scalar.ind{Q : Scalar→Prop}(h : ∀ s : Scalar,(∀ x∈s.args,Q x)→Q s)(s : Scalar) : Q s :=
 h s fun x hx=>have:=Scalar.args_lt hx; Scalar.ind h x
termination_by SizeOf.sizeOf s
mutual
def nX : Scalar→List D
 | .mk o n v a=>[.int .i64 o,.str n,.int .i64 v.kind,.int .i64 v.num,.int .i64 v.den,.str v.str,.sl 7 88 (vo a)]
def vo : List Scalar→List (List D)
 | []=>[]
 | s::r=>nX s::vo r
end
theorem uD : ∀ (l : List Scalar),vo l = l.map nX
 | []=>rfl
 | s::r=>by simp [vo,uD r]
def dn(l : List Scalar) : D:=.sl 7 88 (l.map nX)
def oT(s : Scalar) : List D:=[.int .i64 s.op,.str s.name,.int .i64 s.val.kind,.int .i64 s.val.num,.int .i64 s.val.den,.str s.val.str,dn s.args]
def du(s : Scalar) : AV:=.agg [.d (.int .i64 s.op),.d (.str s.name),.d (.int .i64 s.val.kind),.d (.int .i64 s.val.num),.d (.int .i64 s.val.den),.d (.str s.val.str),.d (dn s.args)]
theorem tB : ∀ (s : Scalar),nX s = oT s
 | .mk o n v a=>by simp [nX,oT,Scalar.op,Scalar.name,Scalar.val,Scalar.args,dn,uD]
theorem jQ{l : List Scalar}{i : Nat}(h : i < l.length) : (l.map nX)[i]? = some (oT (at_ l i)):=by rw [aJ h,tB]
def di : Nat→Scalar→Int
 | 0,_=>1
 | m + 1,s=>s.args.foldl (fun d x=>max d (di m x)) 0 + 1
theorem nS{f : Scalar→Int}{B : Int}(h : ∀ x,1≤f x∧f x≤B) : ∀ (l : List Scalar) (d : Int),0≤d→d≤B→0≤l.foldl (fun d x=>max d (f x)) d∧l.foldl (fun d x=>max d (f x)) d≤B
 | [],d,h0,h1=>⟨h0,h1⟩
 | x::r,d,h0,h1=>by
   have:=h x
   exact nS h r _ (by show 0≤max d (f x); omega) (by show max d (f x)≤B; omega)
theorem pa : ∀ (m : Nat) (s : Scalar),1≤di m s∧di m s≤m + 1
 | 0,s=>by simp [di]
 | m + 1,s=>by
   have:=nS (f:=di m) (B:=m + 1) (fun x=>by have:=pa m x; omega) s.args 0 (by omega) (by omega)
   simp only [di]; omega
theorem BV{f : Scalar→Int}{l : List Scalar}{k : Nat}{d : Int}(h : k < l.length) : (l.take (k + 1)).foldl (fun d x=>max d (f x)) d = max ((l.take k).foldl (fun d x=>max d (f x)) d) (f (at_ l k)):=by
 rw [gl h,List.foldl_append]; rfl
end Go.Proofs.YtpejdgkaapnekaaGreat
