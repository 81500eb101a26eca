import Derived.Shelf.SlSortCmp.WholeK
import Derived.Shelf.SlSortCmp.NoneTotal
import Derived.Test.YtpejdgkaapnekaaGreatWP20
import Derived.Test.YtpejdgkaapnekaaGreatWTab
import Derived.Test.YtpejdgkaapnekaaGreatWP25
import Derived.Test.YtpejdgkaapnekaaGreatWP15
import Derived.Test.YtpejdgkaapnekaaGreatWP16
import Derived.Test.YtpejdgkaapnekaaGreatWP21
import Derived.Test.YtpejdgkaapnekaaGreatWP17
set_option linter.unusedVariables false
set_option linter.unusedSimpArgs false
set_option linter.unnecessarySimpa false
set_option maxHeartbeats 1000000
namespace Go.Abs
open Go Go.Shelf Go.RowKit Go.Lib Go.Sort Go.Proofs
variable {P : Program} {σ : Sig} {φ : Pl} {w : World}
theorem lI{σ : Sig}{φ : Pl}{sto : Sto} : ∀ {ds : List D} {vs : List Value},All2 (Rep σ) ds vs→All2 (RepC σ φ sto) (ds.map AC.d) vs
 | [],[],_=>trivial
 | _::_,_::_,h=>⟨.d h.1,lI h.2⟩
 | [],_::_,h=>h.elim
 | _::_,[],h=>h.elim
theorem pa : ∀ {ds : List D} {vs : List Value},All2 (Rep σ) ds vs→∀ v∈vs,v.oneCell = true
 | [],[],_,v,hv=>by simp at hv
 | _::_,_::_,h,v,hv=>by
   rcases List.mem_cons.1 hv with rfl | hv
   ·exact h.1.oneCell
   ·exact pa h.2 v hv
 | [],_::_,h,_,_=>h.elim
 | _::_,[],h,_,_=>h.elim
theorem Dp{M : Nat→Prop}{w w' : World}(h : Kept M w w')(hM : ∀ b,¬ M b) : ∃ q os,w' = grow (w.drewN q) os:=by
 refine ⟨w'.drawn - w.drawn,w'.heap.extract w.heap.size w'.heap.size,?_⟩
 have hh : w'.heap = w.heap ++ w'.heap.extract w.heap.size w'.heap.size:=by
  refine Array.ext_getElem? fun i=>?_
  by_cases hi : i < w.heap.size
  ·rw [Array.getElem?_append_left hi]; exact h.block i hi (hM i)
  ·rw [Array.getElem?_append_right (by omega),Array.getElem?_extract]
   have:=h.size
   by_cases hi2 : i < w'.heap.size
   ·rw [if_pos (by omega)]; congr 1; omega
   ·rw [if_neg (by omega)]; exact Array.getElem?_eq_none (by omega)
 have h1:=h.os; have h2:=h.tape; have h3:=h.output; have h4:=h.drawn
 cases w; cases w'
 simp only [grow,World.drewN] at *
 subst h1 h2 h3
 congr 1
 omega
theorem qT{enc : Value→Value}{w : World}{B off b : Nat}{d : Array Value}(h : b≠B) : (putRow enc w B off d).heap[b]? = w.heap[b]?:=by
 simp only [putRow,mapBlock,Array.getElem?_modify,if_neg (Ne.symm h)]
theorem jv{α : Type}[Inhabited α]{enc : α→List Value}{k : Nat}{w : World}{B off m b : Nat}{d : Array α}{os : Array Obj}(hb : b < w.heap.size)(h : b≠B) :
  (sortWorldK enc k w B off m d os).heap[b]? = w.heap[b]?:=by
 unfold sortWorldK grow putRowK
 show ((putRow id (Sort.ahead w m) B off (flatK enc k d)).heap ++ os)[b]? = _
 rw [Array.getElem?_append_left (by rw [Go.Sort.size_putRow]; exact hb),qT h]
 rfl
theorem wy{α : Type}[Inhabited α]{enc : α→List Value}{k : Nat}{w : World}{B off m : Nat}{d : Array α}{os : Array Obj}{arr : Array Value}{t : TypeId}{fr : Nat×Nat}(h : w.heap[B]? = some (.cells arr t fr)) :
  (sortWorldK enc k w B off m d os).heap[B]? = some (.cells (putCells id off (flatK enc k d) arr) t fr):=by
 unfold sortWorldK grow putRowK
 show ((putRow id (Sort.ahead w m) B off (flatK enc k d)).heap ++ os)[B]? = _
 have hB:=(Array.getElem?_eq_some_iff.1 h).1
 rw [Array.getElem?_append_left (by rw [Go.Sort.size_putRow]; exact hB)]
 simp only [putRow,mapBlock,Array.getElem?_modify,if_true]
 show (w.heap[B]?).map _ = _
 rw [h]; rfl
theorem Dq{α : Type}[Inhabited α]{enc : α→List Value}{k : Nat}{w : World}{B off m : Nat}{d : Array α}{os : Array Obj} :
  w.heap.size≤(sortWorldK enc k w B off m d os).heap.size:=by
 unfold sortWorldK grow putRowK
 show w.heap.size≤((putRow id (Sort.ahead w m) B off (flatK enc k d)).heap ++ os).size
 rw [Array.size_append,Go.Sort.size_putRow]
 exact Nat.le_add_right _ _
section
variable {C : Type}
abbrev El(σ : Sig)(k : Nat)(encC : C→List D):={ p : C×List Value // p.2.length = k∧All2 (Rep σ) (encC p.1) p.2 }
set_option maxHeartbeats 1000000 in
theorem Bu{ρ : Ren}(L : SlLaysF0.n6 P ρ)(k b : Nat)(hk0 : 0 < k)(aE : ∀ w,(isAgg (ρ.t 24)).run P w = .ok true w)(zE : ∀ w,(Go.sizeOf (ρ.t 24)).run P w = .ok k w)
  (encC : C→List D) (hk : ∀ x,(encC x).length = k) (cf : C→C→Int) (h1 : ∀ x,¬ cf x x < 0) (h2 : ∀ x y z,cf x y < 0→cf y z < 0→cf x z < 0) (h3 : ∀ x y z,¬ cf x y < 0→¬ cf y z < 0→¬ cf x z < 0)
  (g : Nat) (hg : ∀ x y,CallA P g [.agg ((encC x).map .d),.agg ((encC y).map .d)] [] (.one (.d (.int .i64 (cf x y)))) [])
  (eg : ∀ args w,(callFunc g args).run P w = .ok (.enter g args) w)
  (hfn : ∃ fn, P.funcs[ρ.f 6]? = some fn ∧ (fn.name == "runtime.NumGoroutine") = false ∧ fn.body.isSome = true)
  (id : Nat) (cs ss : List C) (hu : ∀ l : List C,l.Perm cs→l.Pairwise (fun x y=>¬ cf y x < 0)→l = ss) :
  CallA P (ρ.f 6) [.one (.own id cs.length),.one (.d (.fn g []))] [(id,.row k b (cs.map encC))] (.tup []) [(id,.row k b (ss.map encC))]:=by
 refine ⟨hfn,fun w σ φ vs hI hA=>?_⟩
 match vs,hA with
 | [v0,v1],hA =>
 obtain ⟨hv0,hv1,_⟩:=hA
 have ev1 : v1 = .func (.func g) #[] #[]:=by
  have hv1 : RepC σ φ _ (.d (.fn g [])) v1:=hv1
  cases hv1.d_inv with
  | fn ws hl _ =>
    have : ws = []:=List.eq_nil_of_length_eq_zero (by simpa using hl)
    subst this; rfl
 subst ev1
 have hlook : look [(id,AObj.row k b (cs.map encC))] id = some (.row k b (cs.map encC)):=by simp [look]
 have hobj:=hI.obj id _ hlook
 by_cases hn : cs = []
 ·subst hn
  have hss : ss = []:=(hu [] (List.Perm.refl _) .nil).symm
  subst hss
  have ev0 : ∃ p c,v0 = .slice p 0 c:=by
   have hv0 : RepC σ φ _ (.own id 0) v0:=hv0
   cases hv0 with
   | ownNil=>exact ⟨_,_,rfl⟩
   | own=>exact ⟨_,_,rfl⟩
   | dead hx=>simp [bB,bc,look] at hx
  obtain ⟨p,c,rfl⟩:=ev0
  refine (AnyF.slices_SortFunc_none L p c _ w).mono ?_
  rintro e w' ⟨rfl,rfl⟩
  exact ⟨_,σ,φ,rfl,Sig.le_refl _,fun b hb=>.inl hb,hI,⟨[],rfl,trivial⟩,fun i e p h1 h2=>.inr ⟨i,e,p,h1,h2,rfl⟩,fun _ _=>rfl,⟨rfl,rfl,rfl,Nat.le_refl _,Nat.le_refl _,fun _ _ _=>rfl⟩⟩
 ·have hn0 : 0 < cs.length:=List.length_pos_iff.2 hn
  have hv0 : RepC σ φ _ (.own id cs.length) v0:=hv0
  obtain ⟨B,cap0,rfl,hφ⟩ : ∃ B cap,v0 = .slice (some ⟨B,0,none⟩) cs.length cap∧φ id = some (B,cap):=by
   revert hv0; generalize cs.length = m at hn0 ⊢; intro hv0
   cases hv0 with
   | ownNil=>omega
   | own _ _ hp=>exact ⟨_,_,rfl,hp⟩
   | dead hx=>simp [bB,bc,look] at hx
  rcases hobj with ⟨he,_⟩ | ⟨B',cap,arr,t,vf,hφ',hheap,hsz,hle,h48,hb47,hlen,hcell,hrep,hσ⟩
  ·simp at he; exact absurd he hn
  rw [hφ] at hφ'; cases hφ'
  simp only [List.length_map] at hle h48 hb47 hcell
  have hB : B < w.heap.size:=(Array.getElem?_eq_some_iff.1 hheap).1
  have hel : ∀ i (hi : i < cs.length),((List.range k).map (vf i)).length = k∧All2 (Rep σ) (encC cs[i]) ((List.range k).map (vf i)):=by
   intro i hi
   refine ⟨by simp,All2.of_get (by simp [hk]) fun j x v hx hv=>?_⟩
   have hj : j < k:=by have:=(List.getElem?_eq_some_iff.1 hx).1; rwa [hk] at this
   have hv' : v = vf i j:=by
    rw [List.getElem?_map,List.getElem?_range hj] at hv; simpa using hv.symm
   subst hv'
   exact hrep i j _ _ (by rw [List.getElem?_map,List.getElem?_eq_getElem hi]; rfl) hx
  let mk : (i : Nat)→i < cs.length→El σ k encC:=fun i hi=>⟨(cs[i],(List.range k).map (vf i)),hel i hi⟩
  haveI : Inhabited (El σ k encC):=⟨mk 0 hn0⟩
  let d : Array (El σ k encC):=Array.ofFn (n:=cs.length) fun i=>mk i.1 i.2
  have hds : d.size = cs.length:=by simp [d]
  have hdg : ∀ i (hi : i < cs.length),d[i]! = mk i hi:=by
   intro i hi; rw [getElem!_pos d i (by omega)]; simp [d]
  have hdl : d.toList.map (fun x=>x.1.1) = cs:=by
   refine List.ext_getElem (by simp [hds]) fun i h4 h5=>?_
   simp [d,mk]
  let enc : El σ k encC→List Value:=fun x=>x.1.2
  let cf' : El σ k encC→El σ k encC→Int:=fun x y=>cf x.1.1 y.1.1
  have hO : SWO (ltOf cf') :=
   ⟨fun x=>by simpa [ltOf,cf'] using h1 x.1.1,fun x y z=>by simpa [ltOf,cf'] using h2 x.1.1 y.1.1 z.1.1,fun x y z=>by simpa [ltOf,cf'] using h3 x.1.1 y.1.1 z.1.1⟩
  have hHK : HoldsK enc k w B 0 d:=by
   intro j hj
   rw [size_flatK,hds] at hj
   have hj1 : j / k < cs.length:=Nat.div_lt_of_lt_mul (by rwa [Nat.mul_comm] at hj)
   have hj2 : j % k < k:=Nat.mod_lt _ hk0
   have hc:=hcell (j / k) (j % k) hj1 hj2
   rw [Nat.div_add_mod' j k] at hc
   rw [get_flatK enc k d j (by rw [hds]; exact hj),hdg _ hj1]
   have e : (enc (mk (j / k) hj1))[j % k]! = vf (j / k) (j % k):=by
    rw [getElem!_pos _ _ (by simp [enc,mk]; exact hj2)]; simp [enc,mk]
   rw [e]
   refine ⟨?_,?_⟩
   ·simp only [World.cell?,hheap,Nat.zero_add]
    simpa using hc
   ·simp [World.frozen?,hheap]
  have hsig : ∀ (m : Nat) (os : Array Obj) (dk : Array (El σ k encC)),HInv σ φ [] (sortWorldK enc k w B 0 m dk os):=by
   intro m os dk
   refine ⟨fun b cs' hb=>?_,fun i e h=>by simp [look] at h,fun i i' e e' p p' h=>by simp [look] at h⟩
   obtain ⟨t',f',hh⟩:=hI.sig b cs' hb
   refine ⟨t',f',?_⟩
   rw [jv (Array.getElem?_eq_some_iff.1 hh).1 (by rintro rfl; rw [hσ] at hb; cases hb)]
   exact hh
  have hcmp : CmpLays P g #[] enc k cf' B 0 d.size w:=by
   intro m os dk _ x y
   have hr:=(hg x.1.1 y.1.1).run (sortWorldK enc k w B 0 m dk os) σ φ [.agg (enc x).toArray,.agg (enc y).toArray] (hsig m os dk) ⟨⟨_,rfl,lI x.2.2⟩,⟨_,rfl,lI y.2.2⟩,trivial⟩
   refine Calls.mono hr ?_
   rintro e w' ⟨v,σ',φ',rfl,hret⟩
   obtain ⟨q,os',hq⟩:=Dp hret.kept (fun b hb=>by obtain ⟨i,e,p,h,_⟩:=hb; simp [look] at h)
   have hv : v = .int .i64 (cf x.1.1 y.1.1):=by
    have h : RepC σ' φ' [] (.d (.int .i64 (cf x.1.1 y.1.1))) v:=hret.rep
    cases h.d_inv; rfl
   exact ⟨by rw [hv],q,os',hq⟩
  have hS:=AnyQ.slices_SortFunc L k aE zE enc (fun x=>x.2.1) (fun x v hv=>n9 (pa x.2.2 v hv)) cf' hO g #[] B 0 cap0 d w eg hcmp hHK hB (by omega)
  rw [hds] at hS
  refine Calls.mono hS ?_
  rintro e w' ⟨rfl,d',n',os,hperm,hsorted,rfl⟩
  have hd's : d'.size = cs.length:=hperm.1.trans hds
  have hpl : d'.toList.Perm d.toList:=by
   have h:=hperm.2.2
   have e1 : d'.extract 0 cs.length = d':=by rw [← hd's]; simp
   have e2 : d.extract 0 cs.length = d:=by rw [← hds]; simp
   rwa [e1,e2] at h
  have hl : d'.toList.map (fun x=>x.1.1) = ss:=by
   refine hu _ (hdl ▸ hpl.map _) ?_
   rw [List.pairwise_map,List.pairwise_iff_getElem]
   intro i j hi hj hij
   have h:=hsorted i j (Nat.zero_le _) hij (by simpa [hd's] using hj)
   simp only [Array.length_toList] at hi hj
   rw [getElem!_pos d' i hi,getElem!_pos d' j hj] at h
   simpa [ltOf,cf'] using h
  have hssl : ss.length = cs.length:=by rw [← hl]; simp [hd's]
  have hget : ∀ i (hi : i < cs.length) (x : C),ss[i]? = some x→d'[i]!.1.1 = x:=by
   intro i hi x hx
   rw [← hl,List.getElem?_map,Array.getElem?_toList,Array.getElem?_eq_getElem (by omega)] at hx
   rw [getElem!_pos d' i (by omega)]
   simpa using hx
  have hmine : MOf φ [(id,AObj.row k b (cs.map encC))] B:=⟨id,_,_,hlook,hφ,rfl⟩
  refine ⟨_,σ,φ,rfl,Sig.le_refl _,fun b hb=>.inl hb,⟨fun b cs' hb=>?_,fun i e hi=>?_,fun i i' e e' p p' hi hi' hne=>?_⟩,⟨[],rfl,trivial⟩,fun i e p hi hp=>.inr ?_,fun _ _=>rfl,⟨rfl,rfl,rfl,Dq,Nat.le_add_right _ _,fun b hb hM=>jv hb (by rintro rfl; exact hM hmine)⟩⟩
  ·obtain ⟨t',f',hh⟩:=hI.sig b cs' hb
   refine ⟨t',f',?_⟩
   rw [jv (Array.getElem?_eq_some_iff.1 hh).1 (by rintro rfl; rw [hσ] at hb; cases hb)]
   exact hh
  ·rcases ah hi with ⟨rfl,rfl⟩ | ⟨_,hi⟩
   ·refine .inr ⟨B,cap0,putCells _root_.id 0 (flatK enc k d') arr,t,fun i j=>(enc d'[i]!)[j]!,hφ,wy hheap,by simp [putCells,hsz],by simpa [hssl] using hle,by simpa [hssl] using h48,by simpa [hssl] using hb47,fun x hx=>?_,fun i j hi hj=>?_,fun i j x dd hx hdd=>?_,hσ⟩
    ·obtain ⟨c,_,rfl⟩:=List.mem_map.1 hx; exact hk c
    ·simp only [List.length_map,hssl] at hi
     have hlt : i * k + j < cs.length * k:=by
      have:=Nat.mul_le_mul_right k (show i + 1≤cs.length from hi); rw [Nat.add_mul,Nat.one_mul] at this; omega
     have hc:=hcell i j hi hj
     simp only [putCells,Array.getElem?_mapIdx,hc,Option.map_some,size_flatK,hd's,Nat.zero_le,true_and,Nat.zero_add,hlt,if_true,Nat.sub_zero]
     rw [get_flatK enc k d' _ (by rw [hd's]; exact hlt)]
     have e1 : (i * k + j) / k = i:=(blk_iff k i _ hk0).1 ⟨by omega,by omega⟩
     have e2 : (i * k + j) % k = j:=by rw [Nat.mod_eq_sub_div_mul,e1]; omega
     rw [e1,e2]; rfl
    ·rw [List.getElem?_map] at hx
     cases hs : ss[i]? with
     | none=>rw [hs] at hx; simp at hx
     | some c =>
       rw [hs] at hx; simp at hx; subst hx
       have hi : i < cs.length:=by rw [← hssl]; exact (List.getElem?_eq_some_iff.1 hs).1
       have e1:=hget i hi c hs
       have ha:=(d'[i]!).2.2
       rw [e1] at ha
       obtain ⟨v,hv,hr⟩:=ha.get hdd
       have : (enc d'[i]!)[j]! = v:=by
        have hv2:=(List.getElem?_eq_some_iff.1 hv)
        exact (getElem!_pos (enc d'[i]!) j hv2.1).trans hv2.2
       show Rep σ dd ((enc d'[i]!)[j]!)
       rw [this]; exact hr
   ·simp [look] at hi
  ·rcases ah hi with ⟨rfl,_⟩ | ⟨_,hi⟩
   ·rcases ah hi' with ⟨rfl,_⟩ | ⟨_,hi'⟩
    ·exact absurd rfl hne
    ·simp [look] at hi'
   ·simp [look] at hi
  ·rcases ah hi with ⟨rfl,_⟩ | ⟨_,hi⟩
   ·rw [hφ] at hp; cases hp; exact hmine
   ·simp [look] at hi
end
end Go.Abs
namespace Go.Proofs.YtpejdgkaapnekaaGreat
open Go Go.Proofs Go.Shelf
def DL : Go.Shelf.Ren:=⟨fun | 6=>181 | 15=>219 | 14=>231 | 28=>261 | 29=>262 | 20=>271 | 21=>272 | 22=>273 | 23=>274 | 24=>275 | 25=>276 | 26=>277 | 27=>278 | 46=>338 | 47=>295 | 48=>296 | 49=>339 | 50=>340 | 57=>368 | n=>n,fun | 22=>24 | 24=>56 | 25=>172 | 3=>3 | 39=>192 | 0=>0 | 53=>251 | 55=>253 | 4=>4 | 46=>244 | 45=>243 | 50=>119 | 5=>5 | 9=>9 | 66=>278 | 70=>282 | 76=>302 | 77=>303 | n=>n,fun | n=>n⟩
theorem Kd : Go.Proofs.SlLaysF0.n6 Tryz.prog DL:={
 mixed:=by kernel_rfl
 f6:=⟨Tryz.f181.name,by decide,Tryz.func181.trans (congrArg some (by kernel_rfl))⟩
 f14:=⟨Tryz.f231.name,by decide,Tryz.func231.trans (congrArg some (by kernel_rfl))⟩
 f15:=Tryz.func219.trans (congrArg some (by kernel_rfl))
 f20:=⟨Tryz.f271.name,by decide,Tryz.func271.trans (congrArg some (by kernel_rfl))⟩
 f21:=⟨Tryz.f272.name,by decide,Tryz.func272.trans (congrArg some (by kernel_rfl))⟩
 f22:=⟨Tryz.f273.name,by decide,Tryz.func273.trans (congrArg some (by kernel_rfl))⟩
 f23:=⟨Tryz.f274.name,by decide,Tryz.func274.trans (congrArg some (by kernel_rfl))⟩
 f24:=⟨Tryz.f275.name,by decide,Tryz.func275.trans (congrArg some (by kernel_rfl))⟩
 f25:=⟨Tryz.f276.name,by decide,Tryz.func276.trans (congrArg some (by kernel_rfl))⟩
 f26:=⟨Tryz.f277.name,by decide,Tryz.func277.trans (congrArg some (by kernel_rfl))⟩
 f27:=⟨Tryz.f278.name,by decide,Tryz.func278.trans (congrArg some (by kernel_rfl))⟩
 f28:=Tryz.func261.trans (congrArg some (by kernel_rfl))
 f29:=Tryz.func262.trans (congrArg some (by kernel_rfl))
 f46:=⟨Tryz.f338.name,by decide,Tryz.func338.trans (congrArg some (by kernel_rfl))⟩
 f47:=Tryz.func295.trans (congrArg some (by kernel_rfl))
 f48:=Tryz.func296.trans (congrArg some (by kernel_rfl))
 f49:=⟨Tryz.f339.name,by decide,Tryz.func339.trans (congrArg some (by kernel_rfl))⟩
 f50:=⟨Tryz.f340.name,by decide,Tryz.func340.trans (congrArg some (by kernel_rfl))⟩
 f57:=⟨Tryz.f368.name,by decide,Tryz.func368.trans (congrArg some (by kernel_rfl))⟩
 t0:=Tryz.underlying0
 a0:=Tryz.isAgg0
 z0:=Tryz.sizeOf0
 v0:=Tryz.zeroValue0
 t3:=Tryz.underlying3
 a3:=Tryz.isAgg3
 z3:=Tryz.sizeOf3
 v3:=Tryz.zeroValue3
 t4:=Tryz.underlying4
 a4:=Tryz.isAgg4
 z4:=Tryz.sizeOf4
 v4:=Tryz.zeroValue4
 t5:=Tryz.underlying5
 a5:=Tryz.isAgg5
 z5:=Tryz.sizeOf5
 v5:=Tryz.zeroValue5
 t9:=Tryz.underlying9
 a9:=Tryz.isAgg9
 z9:=Tryz.sizeOf9
 v9:=Tryz.zeroValue9
 t22:=Tryz.underlying24
 a22:=Tryz.isAgg24
 z22:=Tryz.sizeOf24
 v22:=Tryz.zeroValue24
 t25:=Tryz.underlying172
 a25:=Tryz.isAgg172
 z25:=Tryz.sizeOf172
 v25:=Tryz.zeroValue172
 t39:=Tryz.underlying192
 a39:=Tryz.isAgg192
 z39:=Tryz.sizeOf192
 v39:=Tryz.zeroValue192
 t45:=Tryz.underlying243
 a45:=Tryz.isAgg243
 z45:=Tryz.sizeOf243
 v45:=Tryz.zeroValue243
 t46:=Tryz.underlying244
 a46:=Tryz.isAgg244
 z46:=Tryz.sizeOf244
 v46:=Tryz.zeroValue244
 t50:=Tryz.underlying119
 a50:=Tryz.isAgg119
 z50:=Tryz.sizeOf119
 v50:=Tryz.zeroValue119
 t53:=Tryz.underlying251
 a53:=Tryz.isAgg251
 z53:=Tryz.sizeOf251
 v53:=Tryz.zeroValue251
 t55:=Tryz.underlying253
 a55:=Tryz.isAgg253
 z55:=Tryz.sizeOf253
 v55:=Tryz.zeroValue253
 t66:=Tryz.underlying278
 a66:=Tryz.isAgg278
 z66:=Tryz.sizeOf278
 v66:=Tryz.zeroValue278
 t70:=Tryz.underlying282
 a70:=Tryz.isAgg282
 z70:=Tryz.sizeOf282
 v70:=Tryz.zeroValue282
 t76:=Tryz.underlying302
 a76:=Tryz.isAgg302
 z76:=Tryz.sizeOf302
 v76:=Tryz.zeroValue302
 t77:=Tryz.underlying303
 a77:=Tryz.isAgg303
 z77:=Tryz.sizeOf303
 v77:=Tryz.zeroValue303 }
end Go.Proofs.YtpejdgkaapnekaaGreat
namespace Go.Proofs.YtpejdgkaapnekaaGreat
open Go Go.Abs
attribute [local irreducible] aa OkC aj av al aB
set_option maxRecDepth 10000
def Bt(x : Cell) : AV:=.agg ((aJ x).map .d)
theorem Lt(x y : Cell) : CallA Tryz.prog 182 [Bt x,Bt y] [] (.one (.d (.int .i64 (aT x.at' y.at')))) []:=by
 unfold Bt aJ
 simp only [List.map_cons,List.map_nil]
 refine enter af Tryz.func182 rfl (by decide +kernel) rfl fun hok w0 σ0 φ0 M=>?_
 clear hok
 repeat' (first|(refine h1H ?_; (refine h0H ?_; refine ab J J J J J J J J (c35 _ _) J ?_))|refine wG ?_)
 all_goals (try (((simp_all [ak,List.drop_eq_nil_of_le]) <;> exact wL); done))
theorem Ll(id : Nat)(cs ss : List Cell)(hu : ∀ l : List Cell,l.Perm cs→l.Pairwise (fun x y=>¬ aT y.at' x.at' < 0)→l = ss) :
  CallA Tryz.prog 181 [.one (.own id cs.length),.one (.d (.fn 182 []))] [(id,.row 2 48 (cs.map aJ))] (.tup []) [(id,.row 2 48 (ss.map aJ))]:=by
 refine Bu Kd 2 48 (by omega) Tryz.isAgg56 Tryz.sizeOf56 aJ (fun _=>rfl) (fun x y=>aT x.at' y.at') (fun x=>by rw [iR]; omega) (fun x y z h1 h2=>?_) (fun x y z h1 h2=>?_) 182 Lt
  (enters_of Tryz.func182 (by kernel_rfl) rfl) ⟨Tryz.f181,Tryz.func181,by kernel_rfl,by kernel_rfl⟩ id cs ss hu
 ·have:=fW x.at' y.at' z.at' (by omega) (by omega)
  omega
 ·have h3:=gD x.at' y.at'
  have h4:=gD y.at' z.at'
  have h5:=gD x.at' z.at'
  have:=fW z.at' y.at' x.at' (by omega) (by omega)
  omega
theorem Kc(id n : Nat)(cs : List Cell)(rows : List (List D))(hr : rows = cs.map aJ)(hn : n = cs.length)(hd : cs.Pairwise dJ) :
  CallA Tryz.prog 181 [.one (.own id n),.one (.d (.fn 182 []))] [(id,.row 2 48 rows)] (.tup []) [(id,.row 2 48 ((dn cs).map aJ))]:=by
 subst hr; subst hn
 exact Ll id cs (dn cs) (C9 hd)
theorem Im{w0 : World}{σ0 : Sig}{φ0 : Pl}{M : Nat→Prop}{n : Nat}{rd : Option Nat}{mk : List Deferred}{ops : Array Oper}{o : Oper}{rest : List Oper}{fr : List (Nat×AV)}{sto : Sto}{K : St→Prop}{d m : Nat}{fop x y : Operand}{ats : Array TypeId}{rows : List (List D)}(id : Nat)(cs : List Cell)
  (ho : o.op = .call { callee:=.value fop,args:=⟨[x,y]⟩,argTypes:=ats }) (hg : o.guard = none) (hdst : o.dst = some d) (hdn : Nat.blt d n = true) (hf : ev ⟨fr,sto⟩ fop = some (.one (.d (.fn 181 [])))) (hx : ev ⟨fr,sto⟩ x = some (.one (.own id m))) (hy : ev ⟨fr,sto⟩ y = some (.one (.d (.fn 182 []))))
  (hl : Abs.look sto id = some (.row 2 48 rows)) (hr : rows = cs.map aJ) (hn : m = cs.length) (hd : cs.Pairwise dJ) (hfr : lz 16 ⟨fr,sto⟩ = true)
  (h : aa Tryz.prog ⟨w0,σ0,φ0,M,n,rd,mk⟩ ops rest ⟨(d,.tup [])::fr,bJ id (.row 2 48 ((dn cs).map aJ)) (del id sto)⟩ K) : aa Tryz.prog ⟨w0,σ0,φ0,M,n,rd,mk⟩ ops (o::rest) ⟨fr,sto⟩ K:=by
 refine jO 16 [(1000000,id)] (rav':=.tup []) (sto':=bJ id (.row 2 48 ((dn cs).map aJ)) (del id sto)) (Kc 1000000 m cs rows hr hn hd) ho hg hdst hdn hf ?_ ⟨⟨id,rfl,hl⟩,trivial⟩ ⟨fun i e h1 h2=>?_,trivial⟩ rfl hfr rfl rfl h
 ·show evL ⟨fr,sto⟩ [x,y] = _
  simp only [evL,hx,hy]
  rfl
 ·have e1 : some id = some i:=h1
  cases e1
  rw [hl] at h2
  cases h2
  refine ⟨rfl,rfl,?_⟩
  rw [hr,List.length_map,List.length_map,jk]
  exact Nat.le_refl _
theorem w8{α β : Type}[Inhabited α](f : α→β)(l : List α){k : Nat}(h : k < l.length) : ((l.take k).map f).take k ++ [f (at_ l k)] = (l.take (k + 1)).map f:=by
 rw [List.take_succ_eq_append_getElem h,List.map_append,List.take_of_length_le (by simp; omega)]
 simp [at_,h]
def nX : Option Arr×Int→AV
 | (none,e)=>.tup [(true,[.d .nil,.d .nil,.d .nil]),(false,[.d (.int .i64 e)])]
 | (some a,e)=>.tup [(true,[.d (aw a.dims),.d (au a.attrs),.d (aK a.cells)]),(false,[.d (.int .i64 e)])]
theorem ET{α β : Type}(f : α→β){l : List α}{k : Nat}(h : l.length≤k) : (l.take k).map f = l.map f:=by rw [List.take_of_length_le h]
theorem c99(ds : List Dim)(ats : List Attr)(cs : List Cell)(hd : cs.Pairwise dJ) : CallA Tryz.prog 99 [.one (.d (aw ds)),.one (.d (au ats)),.one (.d (aK cs))] [] (nX (gk ds ats cs)) []:=by
 refine enter af Tryz.func99 rfl (by decide +kernel) rfl fun hok w0 σ0 φ0 M=>?_
 have h1:=hok.2.2.1.sl; clear hok; simp only [List.length_map] at h1; replace h1:=h1.1
 by_cases h4 : 4096 < (cs.length : Int)
 ·have hb : decide (4096 < ((cs.map aJ).length : Int)) = true:=by simpa using h4
  simp only [gk,if_pos h4,nX]
  repeat' (first|refine wG ?_)
  all_goals rfl
 ·have hb : decide (4096 < ((cs.map aJ).length : Int)) = false:=by simpa using h4
  simp only [gk,if_neg h4,nX]
  repeat' (first|(refine h1H ?_; (refine h0H ?_; first|refine Im 10 cs J J J J J J J J (hr.trans (ET _ (by first|omega|(simp only [decide_eq_true_eq,decide_eq_false_iff_not,List.length_map] at *; omega)))) (by first|omega|(simp only [decide_eq_true_eq,decide_eq_false_iff_not,List.length_map] at *; omega)) hd J ?_|refine aZ 16 J J J J J J J J (c97 _) J J J ?_|refine aZ 16 J J J J J J J J (Lm _) J J J ?_))|(refine h5H ?_; refine bO (cU (dl:=[10]) J) (dg ?_))|(refine h3H ?_; (refine h2H ?_; first|refine cr 16 J J J J J J J J (Ln _) J J ?_|refine cr 16 J J J J J J J J (Io _) J J ?_))|refine wG ?_|(refine h5H ?_; first|refine ai J (fun h=>?_) (fun h=>?_)|refine ql 5 J (Bs 1 2 10 (k:=2) (b:=48) J J (by kernel_rfl)) [(6,_),(8,_),(20,_),(21,_)] (q4Q J J J J) (fun (bN : Bool×Bool) (p : Nat×List (List D))=>[(22,.one (.d (.int .i64 (p.1 : Int))))]) (fun (bN : Bool×Bool) (p : Nat×List (List D))=>[(1,.box [.d (aw ds),.d (au ats),.own (nmA bN) p.1]),((nmA bN),.row 2 48 p.2),(0,.box [.d .nil,.d .nil,.d .nil])]) (fun (p : Nat×List (List D))=>p.1≤cs.length∧p.2 = (cs.take p.1).map aJ) (fun (p : Nat×List (List D))=>cs.length - p.1) (0,[]) (q1Q J) wK (fun b y=>by obtain ⟨b1,b2⟩:=b; cases b1 <;> cases b2 <;> first|exact Imp.refl _|exact qm qN (by kernel_rfl)) ?_ (fun p ⟨hk,hr⟩=>?_))|(show Exists _; refine Exists.intro ((p.1 + 1,p.2.take p.1 ++ [aJ (at_ cs p.1)])) (Exists.intro (true,false) ⟨?_,?_,wK,(q1Q J),(q4Q J J J J)⟩)))
  ·exact ⟨Nat.zero_le _,rfl⟩
  ·have hlt : p.1 < cs.length:=by simpa using h
   exact ⟨hlt,by show p.2.take p.1 ++ _ = _; rw [hr]; exact w8 _ _ hlt⟩
  ·have hlt : p.1 < cs.length:=by simpa using h
   show cs.length - (p.1 + 1) < cs.length - p.1
   omega
  ·have hge : cs.length≤p.1:=by simpa using h
   show AV.tup [(true,[.d (aw ds),.d (au ats),.d (.sl 2 48 (((dn cs).map aJ).take p.1))]),_] = _
   rw [List.take_of_length_le (by simp only [List.length_map,jk]; exact hge)]
   rfl
theorem Lo(l : List Dim)(hne : 0 < l.length) : CallA Tryz.prog 97 [.one (.d (aw l))] [] (.one (.own 0 l.length)) [(0,.row 3 32 (l.map dD))]:=by
 refine enter af Tryz.func97 rfl (by decide +kernel) rfl fun hok w0 σ0 φ0 M=>?_
 have h1:=hok.1.sl; clear hok; simp only [List.length_map] at h1
 repeat' (first|(refine h1H ?_; (refine h6H ?_; refine eA af J J J J J J (fun r hr=>?_)))|(refine h1H ?_; (refine h0H ?_; refine dN af J J J J J (id:=0) J J J J J J J (by simp only [List.length_map,Nat.zero_add]; omega) (by simp only [List.length_map,Nat.zero_add]; omega) ?_))|refine wG ?_|(refine h5H ?_; refine ai J (fun h=>?_) (fun h=>?_)))
 ·have e:=hr (by simpa using h)
  simp only [List.map_eq_nil_iff] at e
  subst e; simp at hne
 ·simp
theorem Lq(ds : List Dim)(xs : List (List D))(at' : List Int)(hx : xs = ds.map dD)(hl : at'.length = ds.length) : CallA Tryz.prog 98 [.one (.d (.sl 3 32 xs)),.one (.d (aq at'))] [] (.one (.d (.bool (bt ds at')))) []:=by
 subst hx; exact c98 ds at' hl
theorem Lr(ds : List Dim)(ats : List Attr)(cs : List Cell)(xs ys : List (List D))(hd : cs.Pairwise dJ)(hx : xs = ds.map dD)(hy : ys = cs.map aJ) : CallA Tryz.prog 99 [.one (.d (.sl 3 32 xs)),.one (.d (au ats)),.one (.d (.sl 2 48 ys))] [] (nX (gk ds ats cs)) []:=by
 subst hx; subst hy; exact c99 ds ats cs hd
theorem EU(ds : List Dim)(ats : List Attr)(cs : List Cell)(xs ys : List (List D))(hd : cs.Pairwise dJ)(hf : cs.length≤4096)(hx : xs = ds.map dD)(hy : ys = cs.map aJ) : CallA Tryz.prog 99 [.one (.d (.sl 3 32 xs)),.one (.d (au ats)),.one (.d (.sl 2 48 ys))] [] (.tup [(true,[.d (aw ds),.d (au ats),.d (aK (dn cs))]),(false,[.d (.int .i64 0)])]) []:=by
 have h:=Lr ds ats cs xs ys hd hx hy
 unfold gk at h
 rw [if_neg (by omega)] at h
 exact h
def MK(v : Val) : AV:=.agg [.d (.int .i64 v.kind),.d (.int .i64 v.num),.d (.int .i64 v.den),.d (.str v.str)]
theorem ML(n : Int) : CallA Tryz.prog 185 [.one (.d (.int .i64 n))] [] (MK ⟨2,n,1,[]⟩) []:=by
 refine enter af Tryz.func185 rfl (by decide +kernel) rfl fun hok w0 σ0 φ0 M=>?_
 clear hok
 repeat' (first|refine wG ?_)
 all_goals rfl
end Go.Proofs.YtpejdgkaapnekaaGreat
namespace Go.Proofs.YtpejdgkaapnekaaGreat
open Go Go.Abs
attribute [local irreducible] aa OkC aj av al aB OkR sG cD iX xl
set_option maxRecDepth 10000
def eX(li : LI)(fr : List (Nat×AV))(A C : List D)(r : Nat)(l : List Val) : Sto :=
 [(1000000,.loop li fr .ready none),(1000001,.box (A.map .d)),(1000002,.box (C.map .d)),(1000003,.box [.own r l.length]),(r,.row 4 40 (l.map az))]
theorem J3(li : LI)(fr : List (Nat×AV))(A C : List D)(hf : ∀ a,iw (eX li fr A C 2000000 a) fr = true) : FamW (eX li fr A C 2000000):=by
 refine ⟨fun a i e h=>?_,fun a=>?_,fun a=>⟨li,fr,.ready,none,rfl⟩,fun a=>rfl⟩
 ·unfold eX at h
  rcases ah h with ⟨rfl,_⟩ | ⟨_,h⟩
  ·omega
  rcases ah h with ⟨rfl,_⟩ | ⟨_,h⟩
  ·omega
  rcases ah h with ⟨rfl,_⟩ | ⟨_,h⟩
  ·omega
  rcases ah h with ⟨rfl,_⟩ | ⟨_,h⟩
  ·omega
  rcases ah h with ⟨rfl,_⟩ | ⟨_,h⟩
  ·omega
  ·exact nomatch h
 ·show (iw (eX li fr A C 2000000 a) fr && (dR (eX li fr A C 2000000 a) (A.map .d) && (dR (eX li fr A C 2000000 a) (C.map .d) && _))) = true
  rw [hf a,oE,oE]; rfl
theorem PQ{li : LI}{fr : List (Nat×AV)}{A C : List D}(ds : List Dim)(ats : List Attr)(at' : List Int)(vs : List Val)(a : List Val)(x : Scalar)
  (hps : (iD li.n li.params.toList && Nat.beq li.params.toList.length 1) = true)
  (h : ∀ (w0 : World) (σ0 : Sig) (φ0 : Pl) (M : Nat→Prop) (B : Nat),OkC Tryz.prog ⟨w0,σ0,φ0,M,li.n,some B,[]⟩ li.assign ⟨fy li.params.toList [cF x] fr,eX li fr A C 2000000 a⟩
   (iX Tryz.prog 1000000 ⟨w0,σ0,φ0,M,li.n,some B,[]⟩ li.body (.one (.d (.bool (eE ds ats at' vs a x).1))) (eX li fr A C 2000000 (eE ds ats at' vs a x).2))) :
  YieldA Tryz.prog 1000000 [cF x] (eX li fr A C 2000000 a) (.one (.d (.bool (eE ds ats at' vs a x).1))) (eX li fr A C 2000000 (eE ds ats at' vs a x).2) :=
 pf ⟨by omega,by omega⟩ rfl hps h
def PR(i : Nat) : Nat:=bif Nat.beq i 2000000 then 5 else i
def PS(i : Nat) : Nat:=bif Nat.beq i 1000004 then 2000000 else i
theorem uW{sto : Sto}{li : LI}{fr : List (Nat×AV)}{A C : List D}{l : List Val}{v : Val}{m : Nat}(hm : m≤l.length)(h1 : Abs.look sto 1000000 = some (.loop li fr .ready none))(h2 : Abs.look sto 1000001 = some (.box (A.map .d)))(h3 : Abs.look sto 1000002 = some (.box (C.map .d)))
  (h5 : Abs.look sto 1000003 = some (.box [.own 2000000 (m + 1)])) (h6 : Abs.look sto 2000000 = some (.row 4 40 ((l.map az).take m ++ [az v]))) : SubL sto (eX li fr A C 2000000 (l.take m ++ [v])):=by
 refine ⟨h1,h2,h3,?_,?_,trivial⟩
 ·rw [h5]; simp [Nat.min_eq_left hm]
 ·rw [h6]; simp [List.map_take]
theorem CQ{sto : Sto}{li : LI}{fr : List (Nat×AV)}{A C : List D}{l : List Val}{v : Val}(h1 : Abs.look sto 1000000 = some (.loop li fr .ready none))(h2 : Abs.look sto 1000001 = some (.box (A.map .d)))(h3 : Abs.look sto 1000002 = some (.box (C.map .d)))
  (h5 : Abs.look sto 1000003 = some (.box [.own 2000000 (l.length + 1)])) (h6 : Abs.look sto 2000000 = some (.row 4 40 ((l.map az).take l.length ++ [az v]))) : SubL sto (eX li fr A C 2000000 (l ++ [v])):=by
 have:=uW (Nat.le_refl _) h1 h2 h3 h5 h6
 rwa [List.take_length] at this
set_option maxHeartbeats 4000000 in
theorem FL(ds : List Dim)(ats : List Attr)(cs : D)(s : Scalar)(at' : List Int)(vs : List Val)(hp : cS s = true)(hsz : (aR s).length≤64)(hn : ∀ z∈aR s,uC ds ats z)(hat : at'.length = ds.length)(hvs : vs.length = ats.length) :
  CallA Tryz.prog 102 [.agg [.d (aw ds),.d (au ats),.d cs],cF s,.agg [.d (aq at'),.d (aP vs)]] [] (bz (bS ds ats at' vs s)) []:=by
 obtain ⟨h0,hR⟩:=KJ (ds:=ds) (ats:=ats) (at':=at') (vs:=vs) s hp hn [] (by simp; omega)
 refine enter af Tryz.func102 rfl (by decide +kernel) rfl fun hok w0 σ0 φ0 M=>?_
 clear hok
 repeat' (first|(refine h1H ?_; (refine h0H ?_; refine aZ 16 J J J J J J J J (FB _) J J J ?_))|refine wG ?_)
 have hC:=fun li fr hf hY=>FC (eX li fr [aw ds,au ats,cs] [aq at',aP vs] 2000000) (J3 li fr _ _ hf) (eE ds ats at' vs) (tA ds ats) hY s [] h0
 rw [hR] at hC
 refine Ar (ta 4 5 (k:=4) (b:=40) rfl rfl) ?_
 refine pc (f:=216) (caps:=[.ptr (pC s)]) (rav:=.tup []) [0,2,4,5] 10 rfl rfl rfl rfl (vH PS PR (hC _ _ (fun a=>?_) (fun a x hok=>?_)) rfl rfl rfl rfl rfl rfl rfl) rfl (fun h=>?_) (fun h=>?_)
 ·rfl
 ·obtain ⟨hnm,hpx,h64,hargs⟩:=hok
  refine PQ ds ats at' vs a x rfl fun w0 σ0 φ0 M B=>?_
  clear hC hR h0
  by_cases h1 : x.op = 1
  ·have e : eE ds ats at' vs a x = (true,a ++ [x.val]):=by simp [eE,h1]
   have hb1 : (x.op == 1) = true:=by simp [h1]
   rw [e]
   repeat' (first|(refine h1H ?_; (refine h0H ?_; refine dW af J J J J J J J J J J J J J (by show List.length a≤100000000; omega) (Nat.le_of_ble_eq_true J) (Nat.le_of_ble_eq_true J) ?_))|refine wG ?_|(show cD _ _ _ _ _; refine fx J ?_ ?_))
   ·rfl
   ·exact CQ (by kernel_rfl) (by kernel_rfl) (by kernel_rfl) (by kernel_rfl) (by kernel_rfl)
  have hb1 : (x.op == 1) = false:=by simp [h1]
  by_cases h2 : x.op = 2
  ·have hb2 : (x.op == 2) = true:=by simp [h2]
   have e : eE ds ats at' vs a x = (true,a ++ [at_ vs (atI ats x.name).toNat]):=by simp [eE,h2]
   have hr0:=hnm.1 h2
   obtain ⟨hr1,hr2⟩:=ff (p:=fun a : Attr=>a.name == x.name) (l:=ats) (k:=0) hr0
   rw [e]
   repeat' (first|(refine h1H ?_; (refine h0H ?_; refine dW af J J J J J J J J J J J J J (by show List.length a≤100000000; omega) (Nat.le_of_ble_eq_true J) (Nat.le_of_ble_eq_true J) ?_))|(refine h3H ?_; (refine h2H ?_; refine d_l J J (bo J J J J J J (BI _ _ _ _) J) ?_))|refine wG ?_|(show cD _ _ _ _ _; refine fx J ?_ ?_))
   ·rfl
   ·exact CQ (by kernel_rfl) (by kernel_rfl) (by kernel_rfl) (by kernel_rfl) (by kernel_rfl)
  have hb2 : (x.op == 2) = false:=by simp [h2]
  by_cases h3 : x.op = 3
  ·have hb3 : (x.op == 3) = true:=by simp [h3]
   have e : eE ds ats at' vs a x = (true,a ++ [⟨2,at_ at' (jY ds x.name).toNat,1,[]⟩]):=by simp [eE,h3]
   have hr0:=hnm.2 h3
   obtain ⟨hr1,hr2⟩:=ff (p:=fun a : Dim=>a.name == x.name) (l:=ds) (k:=0) hr0
   rw [e]
   repeat' (first|(refine h1H ?_; (refine h0H ?_; refine dW af J J J J J J J J J J J J J (by show List.length a≤100000000; omega) (Nat.le_of_ble_eq_true J) (Nat.le_of_ble_eq_true J) ?_))|(refine h3H ?_; (refine h2H ?_; first|refine d_l J J (bo J J J J J J (BH _ _ _ _) J) ?_|refine d_l J J (bo J J J J J J (ML _) J) ?_))|refine wG ?_|(show cD _ _ _ _ _; refine fx J ?_ ?_))
   ·rfl
   ·exact CQ (by kernel_rfl) (by kernel_rfl) (by kernel_rfl) (by kernel_rfl) (by kernel_rfl)
  have hb3 : (x.op == 3) = false:=by simp [h3]
  obtain ⟨hop,hlen⟩:=jg hpx h1 h2 h3
  have hal:=hargs hop.1
  obtain ⟨m,hm⟩ : ∃ m : Nat,a.length = m + x.args.length:=⟨a.length - x.args.length,by omega⟩
  have hml : a.length - x.args.length = m:=by omega
  have hsub : ((a.length : Int) - (x.args.length : Int)) = (m : Int):=by omega
  have hC:=PC x.op (a.drop m) hop (by simp; omega)
  have e : eE ds ats at' vs a x = (true,a.take m ++ [(doF x.op (a.drop m)).1]):=by
   simp only [eE]; rw [if_neg h1,if_neg h2,if_neg h3,hml]
  rw [e]
  repeat' (first|refine wG ?_)
  simp only [List.length_map]
  rw [hsub]
  rcases Nat.eq_zero_or_pos m with h0 | h0
  ·have hC' : CallA Tryz.prog 186 [.one (.d (.int .i64 x.op)),.one (.d (.sl 4 40 ((a.map az).take a.length)))] [] (pR (doF x.op (a.drop m))) []:=by
    have e1 : aP (a.drop m) = .sl 4 40 ((a.map az).take a.length):=by rw [List.take_of_length_le (by simp)]; simp [aP,h0]
    rw [e1] at hC; exact hC
   refine d_e ao rfl rfl rfl (nB rfl rfl rfl (by rw [h0]; rfl) rfl rfl (by simp)) ?_
   refine nC [2000000] rfl rfl rfl rfl rfl rfl rfl rfl rfl hC' rfl ?_
   repeat' (first|refine wG ?_)
   refine s_e ao rfl rfl rfl (eJ rfl rfl rfl rfl rfl rfl (by omega) (by show Int.toNat (m : Int)≤List.length a; omega) (by simp)) ?_
   repeat' (first|(refine h1H ?_; (refine h0H ?_; refine dW af J J J J J J J J J J J J J (by show Int.toNat (m : Int)≤100000000; omega) (Nat.le_of_ble_eq_true J) (Nat.le_of_ble_eq_true J) ?_))|refine wG ?_|(show cD _ _ _ _ _; refine fx J ?_ ?_))
   ·rfl
   ·exact uW (by omega) (by kernel_rfl) (by kernel_rfl) (by kernel_rfl) (by kernel_rfl) (by kernel_rfl)
  ·have hC' : CallA Tryz.prog 186 [.one (.d (.int .i64 x.op)),.one (.d (.sl 4 40 (((a.map az).drop m).take (a.length - m))))] [] (pR (doF x.op (a.drop m))) []:=by
    have e1 : aP (a.drop m) = .sl 4 40 (((a.map az).drop m).take (a.length - m)):=by
     rw [List.take_of_length_le (by simp)]; simp [aP,List.map_drop]
    rw [e1] at hC; exact hC
   refine d_e ao rfl rfl rfl (o6 rfl rfl rfl rfl rfl rfl (by omega) (by show Int.toNat (m : Int)≤List.length a; omega) (by simp)) ?_
   refine nC [2000000] rfl rfl rfl rfl rfl rfl rfl rfl rfl hC' rfl ?_
   repeat' (first|refine wG ?_)
   refine s_e ao rfl rfl rfl (eJ rfl rfl rfl rfl rfl rfl (by omega) (by show Int.toNat (m : Int)≤List.length a; omega) (by simp)) ?_
   repeat' (first|(refine h1H ?_; (refine h0H ?_; refine dW af J J J J J J J J J J J J J (by show Int.toNat (m : Int)≤100000000; omega) (Nat.le_of_ble_eq_true J) (Nat.le_of_ble_eq_true J) ?_))|refine wG ?_|(show cD _ _ _ _ _; refine fx J ?_ ?_))
   ·rfl
   ·exact uW (by omega) (by kernel_rfl) (by kernel_rfl) (by kernel_rfl) (by kernel_rfl) (by kernel_rfl)
 ·rintro ⟨w1,σ1,φ1,M1,n1,rd1,mk1⟩ ⟨hn1,hrd,_⟩
  dsimp only at hn1 hrd
  subst hn1 hrd
  clear hC hR h0
  refine bO (tX (f':=[(6,.one (.ref 3 0)),(7,.one (.ref 4 0))]) (s':=[(3,.box [.d (.int .i64 0),.d (.int .i64 0),.d (.int .i64 0),.d (.str [])]),(4,.box [.own 16 1]),(16,.row 4 40 [az (bS ds ats at' vs s)])]) (ag (by kernel_rfl) (ag (by kernel_rfl) aU)) (ag (by kernel_rfl) (ag (by kernel_rfl) (ag (by kernel_rfl) aU)))) ?_
  repeat' (first|(refine h1H ?_; (refine Iq ?_; refine s_e ao J J J (c8 J J J J J J) ?_))|refine wG ?_)
  rfl
 ·exact absurd h (by simp [eX])
end Go.Proofs.YtpejdgkaapnekaaGreat
namespace Go.Proofs.YtpejdgkaapnekaaGreat
open Go Go.Abs
attribute [local irreducible] aa OkC aj av al aB
set_option maxRecDepth 10000
theorem tk : ∀ {l : List Scalar} {x : Scalar},x∈l→(aR x).length≤(aH l).length
 | [],x,h=>by simp at h
 | y::r,x,h=>by
   simp only [aH,List.length_append]
   rcases List.mem_cons.1 h with rfl | h
   ·omega
   ·have:=tk h; omega
def oO(l : List Int) : Sum Int (List Int)→Sum Int (List Int)
 | .inl e=>.inl e
 | .inr t=>.inr (l ++ t)
theorem FO{l m : List Int} : ∀ {x : Sum Int (List Int)},oO (l ++ m) x = oO l (oO m x)
 | .inl _=>rfl
 | .inr t=>by simp [oO]
def D8(o : Int) : Sum Int (List Int)→Int×Int
 | .inl e=>(0,e)
 | .inr l=>bx o l
theorem FP{cst : Val→Int}{ds : List Dim}{ats : List Attr}{s : Scalar} : bU cst ds ats s = if s.op = 1 then (cst s.val,0) else if s.op = 2 then gQ ats s.name else if s.op = 3 then jD ds s.name else D8 s.op (bD cst ds ats s.args):=by
 rw [jf]
 cases bD cst ds ats s.args <;> rfl
theorem OE{sto : Sto}{l : List Int}{t : Int}(h : Abs.look sto 5 = some (.row 1 8 ((l.map b0).take l.length ++ [[.int .i64 t]]))) : Abs.look sto 5 = some (.row 1 8 ((l ++ [t]).map b0)):=by
 rw [h,List.take_of_length_le (by simp)]; simp [b0]
theorem OF{fr : List (Nat×AV)}{l : List Int}{t : Int}(h : Abs.look fr 7 = some (.one (.own 5 (l.length + 1)))) : Abs.look fr 7 = some (.one (.own 5 (l ++ [t]).length)):=by
 rw [h]; simp
set_option maxHeartbeats 4000000 in
theorem c93(ds : List Dim)(ats : List Attr)(cs : D)(s : Scalar) : cS s = true→(aR s).length≤64→CallA Tryz.prog 93 [.agg [.d (aw ds),.d (au ats),.d cs],cF s] [] (ie (bU fL ds ats s)) []:=by
 induction s using Scalar.ind with
 | h s ih =>
   intro hp hsz
   rw [fI,Bool.and_eq_true] at hp
   have hps:=fM hp.2
   rw [dV,List.length_append,List.length_cons,List.length_nil] at hsz
   have hlen:=k8 (r:=s.args)
   have hsz2 : ∀ x∈s.args,(aR x).length≤64:=fun x hx=>by have:=tk hx; omega
   rw [FP]
   refine enter af Tryz.func93 rfl (by decide +kernel) rfl fun hok w0 σ0 φ0 M=>?_
   have hats : ats.length < 281474976710656:=by
    have:=(OkD.sl (hok.1 (.d (au ats)) (by simp))).1; simpa using this
   clear hok
   by_cases h1 : s.op = 1
   ·have hb1 : (s.op == 1) = true:=by simp [h1]
    rw [if_pos h1]
    repeat' (first|refine wG ?_|(refine h5H ?_; refine ai J (fun h=>?_) (fun h=>?_)))
    all_goals simp_all [fL,ie]
   have hb1 : (s.op == 1) = false:=by simp [h1]
   rw [if_neg h1]
   by_cases h2 : s.op = 2
   ·have hb2 : (s.op == 2) = true:=by simp [h2]
    rw [if_pos h2]
    by_cases hi : atI ats s.name < 0
    ·have hd : decide (aI (fun a : Attr=>a.name == s.name) ats 0 < 0) = true:=by simpa [atI] using hi
     repeat' (first|(refine h1H ?_; (refine h0H ?_; refine ab J J J J J J J J (IH _ _) J ?_))|refine wG ?_)
     simp [gQ,hi,ie]
    ·have hd : decide (aI (fun a : Attr=>a.name == s.name) ats 0 < 0) = false:=by simpa [atI] using hi
     obtain ⟨hr1,hr2⟩:=ff (p:=fun a : Attr=>a.name == s.name) (l:=ats) (k:=0) (by simpa [atI] using hi)
     repeat' (first|(refine h1H ?_; (refine h0H ?_; refine ab J J J J J J J J (IH _ _) J ?_))|refine wG ?_)
     simp [gQ,hi,ie]
     rfl
   have hb2 : (s.op == 2) = false:=by simp [h2]
   rw [if_neg h2]
   by_cases h3 : s.op = 3
   ·have hb3 : (s.op == 3) = true:=by simp [h3]
    rw [if_pos h3]
    by_cases hi : jY ds s.name < 0
    ·have hd : decide (aI (fun a : Dim=>a.name == s.name) ds 0 < 0) = true:=by simpa [jY] using hi
     repeat' (first|(refine h1H ?_; (refine h0H ?_; refine ab J J J J J J J J (II _ _) J ?_))|refine wG ?_)
     simp [jD,hi,ie]
    ·have hd : decide (aI (fun a : Dim=>a.name == s.name) ds 0 < 0) = false:=by simpa [jY] using hi
     repeat' (first|(refine h1H ?_; (refine h0H ?_; refine ab J J J J J J J J (II _ _) J ?_))|refine wG ?_)
     simp [jD,hi,ie]
   have hb3 : (s.op == 3) = false:=by simp [h3]
   rw [if_neg h3]
   obtain ⟨hop,hal⟩:=jg hp.1 h1 h2 h3
   clear hats
   repeat' (first|refine wG ?_)
   refine bO (mg (s:=7) (id:=5) (k:=1) (b:=8) rfl rfl rfl rfl) ?_
   refine bG 21 rfl [(2,_),(3,_)] (q2Q rfl rfl) (fun (p : Nat×List Int)=>[(7,.one (.own 5 p.2.length)),(8,.one (.d (.int .i64 (p.1 : Int))))])
    (fun p=>[(0,.box [.d (aw ds),.d (au ats),.d cs]),(1,.box [.d (.int .i64 s.op),.d (.str s.name),.d (.int .i64 s.val.kind),.d (.int .i64 s.val.num),.d (.int .i64 s.val.den),.d (.str s.val.str),.d (bA s.args)]),(5,.row 1 8 (p.2.map b0))])
    (fun p=>p.1≤s.args.length∧p.2.length = p.1∧bD fL ds ats s.args = oO p.2 (bD fL ds ats (s.args.drop p.1))) (fun p=>s.args.length - p.1) (0,[])
    (q2Q rfl rfl) (q3Q rfl rfl rfl) ?_ (fun p ⟨hk,hl,hs⟩=>?_)
   ·refine ⟨Nat.zero_le _,rfl,?_⟩
    show _ = oO [] (bD fL ds ats (s.args.drop 0))
    simp only [List.drop_zero]
    cases bD fL ds ats s.args <;> rfl
   ·by_cases hk' : p.1 < s.args.length
    ·have hd : decide ((p.1 : Int) < ((s.args.map oP).length : Int)) = true:=by simpa using hk'
     repeat' (first|(refine h1H ?_; (refine h0H ?_; refine dW af J J J J J J J J J J J J J (by show List.length p.2≤100000000; omega) (Nat.le_of_ble_eq_true J) (Nat.le_of_ble_eq_true J) ?_))|(refine h3H ?_; (refine h2H ?_; refine d_l J J (bo J J J J J J (ih (at_ s.args p.1) (b9 (by omega)) (hps _ (b9 (by omega))) (hsz2 _ (b9 (by omega)))) J) ?_))|refine wG ?_|(refine h5H ?_; refine ai J (fun h=>?_) (fun h=>?_)))
     ·have hb : ¬ (bU fL ds ats (at_ s.args p.1)).2 = 0:=by simpa using h
      rw [hs,ak hk']
      simp [bD,hb,oO,D8,ie]
     have hb : (bU fL ds ats (at_ s.args p.1)).2 = 0:=by simpa using h
     refine ⟨(p.1 + 1,p.2 ++ [(bU fL ds ats (at_ s.args p.1)).1]),⟨by show p.1 + 1≤_; omega,by show (p.2 ++ [_]).length = _; simp [hl],?_⟩,by show s.args.length - (p.1 + 1) < s.args.length - p.1; omega,
      ag rfl (ag rfl ⟨OE (by kernel_rfl),trivial⟩),⟨OF (by kernel_rfl),ag rfl aU⟩,ag rfl (q1Q rfl)⟩
     show bD fL ds ats s.args = oO (p.2 ++ [_]) (bD fL ds ats (s.args.drop (p.1 + 1)))
     rw [hs,ak hk',FO]
     simp only [bD,hb,ne_eq,not_true_eq_false,if_false]
     cases bD fL ds ats (s.args.drop (p.1 + 1)) <;> rfl
    ·have hd : decide ((p.1 : Int) < ((s.args.map oP).length : Int)) = false:=by simpa using hk'
     replace hk' : p.1 = s.args.length:=by omega
     have hts : bD fL ds ats s.args = .inr p.2:=by
      rw [hs,hk',List.drop_length]; simp [bD,oO]
     have hC' : CallA Tryz.prog 178 [.one (.d (.int .i64 s.op)),.one (.d (.sl 1 8 ((p.2.map b0).take p.2.length)))] [] (ie (bx s.op p.2)) []:=by
      have:=Nu s.op p.2 hop (by omega)
      have e1 : aq p.2 = .sl 1 8 ((p.2.map b0).take p.2.length):=by rw [List.take_of_length_le (by simp)]; rfl
      rw [e1] at this; exact this
     rw [hts]
     repeat' (first|refine wG ?_)
     refine gW [5] rfl rfl rfl rfl rfl rfl rfl rfl rfl hC' rfl ?_
     repeat' (first|refine wG ?_)
     all_goals rfl
theorem Lh(ds : List Dim)(ats : List Attr)(at' : List Int)(vs : List Val) : CallA Tryz.prog 131 [.one (.d (aw ds)),.one (.d (au ats)),.agg [.d (aq at'),.d (aP vs)]] [] (.one (.d (.int .i64 (ca ds ats at' vs)))) []:=by
 refine enter af Tryz.func131 rfl (by decide +kernel) rfl fun hok w0 σ0 φ0 M=>?_
 have h1:=hok.1.sl.1; have h2:=hok.2.1.sl.1; have h3:=OkD.sl (hok.2.2.1 (.d (aq at')) (by simp)); have h4:=OkD.sl (hok.2.2.1 (.d (aP vs)) (by simp)); clear hok
 replace h3:=h3.1; replace h4:=h4.1; simp only [List.length_map] at h1 h2 h3 h4
 repeat' (first|(refine h1H ?_; (refine h0H ?_; refine ab J J J J J J J J (Li _ _) J ?_))|(refine h3H ?_; (refine h2H ?_; refine d_l J J (bo J J J J J J (Lj _ _ _ _ _) J) ?_))|refine wG ?_|(refine h1H ?_; (refine h4H ?_; refine aG J J J J (fun h=>?_) (fun h=>?_)))|(refine h5H ?_; first|refine ai J (fun h=>?_) (fun h=>?_)|refine bg 6 J [(1,_),(5,_)] (q2Q J J) (fun (k : Nat)=>[(7,.one (.d (.int .i64 k)))]) (fun (k : Nat)=>k≤ats.length∧at'.length = ds.length∧vs.length = ats.length∧ofF ds at' = true∧ca ds ats at' vs = fV (ats.drop k) (vs.drop k)) (fun (k : Nat)=>ats.length - k) 0 (q1Q J) ?_ (fun k ⟨hk,hq,hq2,hof,hs⟩=>?_))|(show Exists _; refine Exists.intro (k + 1) ⟨?_,?_,wK,(q1Q J),(q2Q J J)⟩))
 all_goals (try (((simp_all [ca,fV,ak,List.drop_eq_nil_of_le]) <;> exact wL); done))
theorem c89(ds : List Dim)(ats : List Attr)(cs : List Cell) : CallA Tryz.prog 89 [.agg [.d (aw ds),.d (au ats),.d (aK cs)]] [] (.one (.d (.int .i64 (bE ds ats cs)))) []:=by
 refine enter af Tryz.func89 rfl (by decide +kernel) rfl fun hok w0 σ0 φ0 M=>?_
 have h1:=(OkD.sl (hok.1 (.d (aK cs)) (by simp))).1; clear hok; simp only [List.length_map] at h1
 repeat' (first|(refine h1H ?_; (refine h0H ?_; refine ab J J J J J J J J (MT _ _) J ?_))|(refine h3H ?_; (refine h2H ?_; first|refine d_l J J (bo J J J J J J (Lh _ _ _ _) J) ?_|refine d_l J J (bo J J J J J J (Mf _ _) J) ?_))|refine wG ?_|(refine h5H ?_; first|refine ai J (fun h=>?_) (fun h=>?_)|refine bg 7 J [(1,_)] (q1Q J) (fun (k : Nat)=>[(4,.one (.d (.int .i64 k)))]) (fun (k : Nat)=>k≤cs.length∧cP ds ats = 0∧(cs.length : Int)≤4096∧bE ds ats cs = cG ds ats (pv cs k) (cs.drop k)) (fun (k : Nat)=>cs.length - k) 0 (q1Q J) ?_ (fun k ⟨hk,hsc,hq,hs⟩=>?_))|(show Exists _; refine Exists.intro (k + 1) ⟨?_,?_,wK,(q1Q J),(q1Q J)⟩))
 all_goals (try (((simp_all [bE,cG,qo,xg,qp,xh,ak,List.drop_eq_nil_of_le]) <;> exact wL); done))
 ·rename_i hlt
  have hk' : k < cs.length:=by simpa using hlt
  have hb : ca ds ats (at_ cs k).at' (at_ cs k).vals≠0:=by simpa using h
  rw [hs,ak hk',qW hb]; simp
 ·rename_i hlt hc
  have hk' : k < cs.length:=by simpa using hlt
  have hk0 : k = 0:=by simpa using h
  have hb : ca ds ats (at_ cs k).at' (at_ cs k).vals = 0:=by simpa using hc
  refine ⟨by omega,hsc,hq,?_⟩
  rw [hs,ak hk',qp]
  subst hk0
  simp [cG,hb,qo]
end Go.Proofs.YtpejdgkaapnekaaGreat
