import Derived.Shelf.SlSortCmp.WholeK
import Derived.Shelf.SlSortCmp.NoneTotal
import Derived.Test.YtpejdgkaapnekaaGreatXP13
import Derived.Test.YtpejdgkaapnekaaGreatXTab
import Derived.Test.YtpejdgkaapnekaaGreatXP11
import Derived.Test.YtpejdgkaapnekaaGreatXP12
set_option linter.unusedVariables false
set_option linter.unusedSimpArgs false
set_option maxHeartbeats 1000000
namespace Go.Abs
open Go Go.Shelf Go.RowKit Go.Lib Go.Sort Go.Proofs
variable {P : Program} {σ : Sig} {φ : Pl} {w : World}
theorem mG{σ : Sig}{φ : Pl}{sto : Sto} : ∀ {ds : List D} {vs : List Value},All2 (Rep σ) ds vs→All2 (RepC σ φ sto) (ds.map AC.d) vs
 | [],[],_=>trivial
 | _::_,_::_,h=>⟨.d h.1,mG h.2⟩
 | [],_::_,h=>h.elim
 | _::_,[],h=>h.elim
theorem qt : ∀ {ds : List D} {vs : List Value},All2 (Rep σ) ds vs→∀ v∈vs,v.oneCell = true
 | [],[],_,v,hv=>by simp at hv
 | _::_,_::_,h,v,hv=>by
   rcases List.mem_cons.1 hv with rfl | hv
   ·exact h.1.oneCell
   ·exact qt h.2 v hv
 | [],_::_,h,_,_=>h.elim
 | _::_,[],h,_,_=>h.elim
theorem Fg{M : Nat→Prop}{w w' : World}(h : Kept M w w')(hM : ∀ b,¬ M b) : ∃ q os,w' = grow (w.drewN q) os:=by
 refine ⟨w'.drawn - w.drawn,w'.heap.extract w.heap.size w'.heap.size,?_⟩
 have hh : w'.heap = w.heap ++ w'.heap.extract w.heap.size w'.heap.size:=by
  refine Array.ext_getElem? fun i=>?_
  by_cases hi : i < w.heap.size
  ·rw [Array.getElem?_append_left hi]; exact h.block i hi (hM i)
  ·rw [Array.getElem?_append_right (by omega),Array.getElem?_extract]
   have:=h.size
   by_cases hi2 : i < w'.heap.size
   ·rw [if_pos (by omega)]; congr 1; omega
   ·rw [if_neg (by omega)]; exact Array.getElem?_eq_none (by omega)
 have h1:=h.os; have h2:=h.tape; have h3:=h.output; have h4:=h.drawn
 cases w; cases w'
 simp only [grow,World.drewN] at *
 subst h1 h2 h3
 congr 1
 omega
theorem sw{enc : Value→Value}{w : World}{B off b : Nat}{d : Array Value}(h : b≠B) : (putRow enc w B off d).heap[b]? = w.heap[b]?:=by
 simp only [putRow,mapBlock,Array.getElem?_modify,if_neg (Ne.symm h)]
theorem kf{α : Type}[Inhabited α]{enc : α→List Value}{k : Nat}{w : World}{B off m b : Nat}{d : Array α}{os : Array Obj}(hb : b < w.heap.size)(h : b≠B) :
  (sortWorldK enc k w B off m d os).heap[b]? = w.heap[b]?:=by
 unfold sortWorldK grow putRowK
 show ((putRow id (Sort.ahead w m) B off (flatK enc k d)).heap ++ os)[b]? = _
 rw [Array.getElem?_append_left (by rw [Go.Sort.size_putRow]; exact hb),sw h]
 rfl
theorem ya{α : Type}[Inhabited α]{enc : α→List Value}{k : Nat}{w : World}{B off m : Nat}{d : Array α}{os : Array Obj}{arr : Array Value}{t : TypeId}{fr : Nat×Nat}(h : w.heap[B]? = some (.cells arr t fr)) :
  (sortWorldK enc k w B off m d os).heap[B]? = some (.cells (putCells id off (flatK enc k d) arr) t fr):=by
 unfold sortWorldK grow putRowK
 show ((putRow id (Sort.ahead w m) B off (flatK enc k d)).heap ++ os)[B]? = _
 have hB:=(Array.getElem?_eq_some_iff.1 h).1
 rw [Array.getElem?_append_left (by rw [Go.Sort.size_putRow]; exact hB)]
 simp only [putRow,mapBlock,Array.getElem?_modify,if_true]
 show (w.heap[B]?).map _ = _
 rw [h]; rfl
theorem Fh{α : Type}[Inhabited α]{enc : α→List Value}{k : Nat}{w : World}{B off m : Nat}{d : Array α}{os : Array Obj} :
  w.heap.size≤(sortWorldK enc k w B off m d os).heap.size:=by
 unfold sortWorldK grow putRowK
 show w.heap.size≤((putRow id (Sort.ahead w m) B off (flatK enc k d)).heap ++ os).size
 rw [Array.size_append,Go.Sort.size_putRow]
 exact Nat.le_add_right _ _
section
variable {C : Type}
abbrev El(σ : Sig)(k : Nat)(encC : C→List D):={ p : C×List Value // p.2.length = k∧All2 (Rep σ) (encC p.1) p.2 }
set_option maxHeartbeats 1000000 in
theorem C9{ρ : Ren}(L : SlLaysF0.n6 P ρ)(k b : Nat)(hk0 : 0 < k)(aE : ∀ w,(isAgg (ρ.t 24)).run P w = .ok true w)(zE : ∀ w,(Go.sizeOf (ρ.t 24)).run P w = .ok k w)
  (encC : C→List D) (hk : ∀ x,(encC x).length = k) (cf : C→C→Int) (h1 : ∀ x,¬ cf x x < 0) (h2 : ∀ x y z,cf x y < 0→cf y z < 0→cf x z < 0) (h3 : ∀ x y z,¬ cf x y < 0→¬ cf y z < 0→¬ cf x z < 0)
  (g : Nat) (hg : ∀ x y,CallA P g [.agg ((encC x).map .d),.agg ((encC y).map .d)] [] (.one (.d (.int .i64 (cf x y)))) [])
  (eg : ∀ args w,(callFunc g args).run P w = .ok (.enter g args) w)
  (hfn : ∃ fn, P.funcs[ρ.f 6]? = some fn ∧ (fn.name == "runtime.NumGoroutine") = false ∧ fn.body.isSome = true)
  (id : Nat) (cs ss : List C) (hu : ∀ l : List C,l.Perm cs→l.Pairwise (fun x y=>¬ cf y x < 0)→l = ss) :
  CallA P (ρ.f 6) [.one (.own id cs.length),.one (.d (.fn g []))] [(id,.row k b (cs.map encC))] (.tup []) [(id,.row k b (ss.map encC))]:=by
 refine ⟨hfn,fun w σ φ vs hI hA=>?_⟩
 match vs,hA with
 | [v0,v1],hA =>
 obtain ⟨hv0,hv1,_⟩:=hA
 have ev1 : v1 = .func (.func g) #[] #[]:=by
  have hv1 : RepC σ φ _ (.d (.fn g [])) v1:=hv1
  cases hv1.d_inv with
  | fn ws hl _ =>
    have : ws = []:=List.eq_nil_of_length_eq_zero (by simpa using hl)
    subst this; rfl
 subst ev1
 have hlook : look [(id,AObj.row k b (cs.map encC))] id = some (.row k b (cs.map encC)):=by simp [look]
 have hobj:=hI.obj id _ hlook
 by_cases hn : cs = []
 ·subst hn
  have hss : ss = []:=(hu [] (List.Perm.refl _) .nil).symm
  subst hss
  have ev0 : ∃ p c,v0 = .slice p 0 c:=by
   have hv0 : RepC σ φ _ (.own id 0) v0:=hv0
   cases hv0 with
   | ownNil=>exact ⟨_,_,rfl⟩
   | own=>exact ⟨_,_,rfl⟩
   | dead hx=>simp [bG,bo,look] at hx
  obtain ⟨p,c,rfl⟩:=ev0
  refine (AnyF.slices_SortFunc_none L p c _ w).mono ?_
  rintro e w' ⟨rfl,rfl⟩
  exact ⟨_,σ,φ,rfl,Sig.le_refl _,fun b hb=>.inl hb,hI,⟨[],rfl,trivial⟩,fun i e p h1 h2=>.inr ⟨i,e,p,h1,h2,rfl⟩,fun _ _=>rfl,⟨rfl,rfl,rfl,Nat.le_refl _,Nat.le_refl _,fun _ _ _=>rfl⟩⟩
 ·have hn0 : 0 < cs.length:=List.length_pos_iff.2 hn
  have hv0 : RepC σ φ _ (.own id cs.length) v0:=hv0
  obtain ⟨B,cap0,rfl,hφ⟩ : ∃ B cap,v0 = .slice (some ⟨B,0,none⟩) cs.length cap∧φ id = some (B,cap):=by
   revert hv0; generalize cs.length = m at hn0 ⊢; intro hv0
   cases hv0 with
   | ownNil=>omega
   | own _ _ hp=>exact ⟨_,_,rfl,hp⟩
   | dead hx=>simp [bG,bo,look] at hx
  rcases hobj with ⟨he,_⟩ | ⟨B',cap,arr,t,vf,hφ',hheap,hsz,hle,h48,hb47,hlen,hcell,hrep,hσ⟩
  ·simp at he; exact absurd he hn
  rw [hφ] at hφ'; cases hφ'
  simp only [List.length_map] at hle h48 hb47 hcell
  have hB : B < w.heap.size:=(Array.getElem?_eq_some_iff.1 hheap).1
  have hel : ∀ i (hi : i < cs.length),((List.range k).map (vf i)).length = k∧All2 (Rep σ) (encC cs[i]) ((List.range k).map (vf i)):=by
   intro i hi
   refine ⟨by simp,All2.of_get (by simp [hk]) fun j x v hx hv=>?_⟩
   have hj : j < k:=by have:=(List.getElem?_eq_some_iff.1 hx).1; rwa [hk] at this
   have hv' : v = vf i j:=by
    rw [List.getElem?_map,List.getElem?_range hj] at hv; simpa using hv.symm
   subst hv'
   exact hrep i j _ _ (by rw [List.getElem?_map,List.getElem?_eq_getElem hi]; rfl) hx
  let mk : (i : Nat)→i < cs.length→El σ k encC:=fun i hi=>⟨(cs[i],(List.range k).map (vf i)),hel i hi⟩
  haveI : Inhabited (El σ k encC):=⟨mk 0 hn0⟩
  let d : Array (El σ k encC):=Array.ofFn (n:=cs.length) fun i=>mk i.1 i.2
  have hds : d.size = cs.length:=by simp [d]
  have hdg : ∀ i (hi : i < cs.length),d[i]! = mk i hi:=by
   intro i hi; rw [getElem!_pos d i (by omega)]; simp [d]
  have hdl : d.toList.map (fun x=>x.1.1) = cs:=by
   refine List.ext_getElem (by simp [hds]) fun i h4 h5=>?_
   simp [d,mk]
  let enc : El σ k encC→List Value:=fun x=>x.1.2
  let cf' : El σ k encC→El σ k encC→Int:=fun x y=>cf x.1.1 y.1.1
  have hO : SWO (ltOf cf') :=
   ⟨fun x=>by simpa [ltOf,cf'] using h1 x.1.1,fun x y z=>by simpa [ltOf,cf'] using h2 x.1.1 y.1.1 z.1.1,fun x y z=>by simpa [ltOf,cf'] using h3 x.1.1 y.1.1 z.1.1⟩
  have hHK : HoldsK enc k w B 0 d:=by
   intro j hj
   rw [size_flatK,hds] at hj
   have hj1 : j / k < cs.length:=Nat.div_lt_of_lt_mul (by rwa [Nat.mul_comm] at hj)
   have hj2 : j % k < k:=Nat.mod_lt _ hk0
   have hc:=hcell (j / k) (j % k) hj1 hj2
   rw [Nat.div_add_mod' j k] at hc
   rw [get_flatK enc k d j (by rw [hds]; exact hj),hdg _ hj1]
   have e : (enc (mk (j / k) hj1))[j % k]! = vf (j / k) (j % k):=by
    rw [getElem!_pos _ _ (by simp [enc,mk]; exact hj2)]; simp [enc,mk]
   rw [e]
   refine ⟨?_,?_⟩
   ·simp only [World.cell?,hheap,Nat.zero_add]
    simpa using hc
   ·simp [World.frozen?,hheap]
  have hsig : ∀ (m : Nat) (os : Array Obj) (dk : Array (El σ k encC)),HInv σ φ [] (sortWorldK enc k w B 0 m dk os):=by
   intro m os dk
   refine ⟨fun b cs' hb=>?_,fun i e h=>by simp [look] at h,fun i i' e e' p p' h=>by simp [look] at h⟩
   obtain ⟨t',f',hh⟩:=hI.sig b cs' hb
   refine ⟨t',f',?_⟩
   rw [kf (Array.getElem?_eq_some_iff.1 hh).1 (by rintro rfl; rw [hσ] at hb; cases hb)]
   exact hh
  have hcmp : CmpLays P g #[] enc k cf' B 0 d.size w:=by
   intro m os dk _ x y
   have hr:=(hg x.1.1 y.1.1).run (sortWorldK enc k w B 0 m dk os) σ φ [.agg (enc x).toArray,.agg (enc y).toArray] (hsig m os dk) ⟨⟨_,rfl,mG x.2.2⟩,⟨_,rfl,mG y.2.2⟩,trivial⟩
   refine Calls.mono hr ?_
   rintro e w' ⟨v,σ',φ',rfl,hret⟩
   obtain ⟨q,os',hq⟩:=Fg hret.kept (fun b hb=>by obtain ⟨i,e,p,h,_⟩:=hb; simp [look] at h)
   have hv : v = .int .i64 (cf x.1.1 y.1.1):=by
    have h : RepC σ' φ' [] (.d (.int .i64 (cf x.1.1 y.1.1))) v:=hret.rep
    cases h.d_inv; rfl
   exact ⟨by rw [hv],q,os',hq⟩
  have hS:=AnyQ.slices_SortFunc L k aE zE enc (fun x=>x.2.1) (fun x v hv=>pg (qt x.2.2 v hv)) cf' hO g #[] B 0 cap0 d w eg hcmp hHK hB (by omega)
  rw [hds] at hS
  refine Calls.mono hS ?_
  rintro e w' ⟨rfl,d',n',os,hperm,hsorted,rfl⟩
  have hd's : d'.size = cs.length:=hperm.1.trans hds
  have hpl : d'.toList.Perm d.toList:=by
   have h:=hperm.2.2
   have e1 : d'.extract 0 cs.length = d':=by rw [← hd's]; simp
   have e2 : d.extract 0 cs.length = d:=by rw [← hds]; simp
   rwa [e1,e2] at h
  have hl : d'.toList.map (fun x=>x.1.1) = ss:=by
   refine hu _ (hdl ▸ hpl.map _) ?_
   rw [List.pairwise_map,List.pairwise_iff_getElem]
   intro i j hi hj hij
   have h:=hsorted i j (Nat.zero_le _) hij (by simpa [hd's] using hj)
   simp only [Array.length_toList] at hi hj
   rw [getElem!_pos d' i hi,getElem!_pos d' j hj] at h
   simpa [ltOf,cf'] using h
  have hssl : ss.length = cs.length:=by rw [← hl]; simp [hd's]
  have hget : ∀ i (hi : i < cs.length) (x : C),ss[i]? = some x→d'[i]!.1.1 = x:=by
   intro i hi x hx
   rw [← hl,List.getElem?_map,Array.getElem?_toList,Array.getElem?_eq_getElem (by omega)] at hx
   rw [getElem!_pos d' i (by omega)]
   simpa using hx
  have hmine : MOf φ [(id,AObj.row k b (cs.map encC))] B:=⟨id,_,_,hlook,hφ,rfl⟩
  refine ⟨_,σ,φ,rfl,Sig.le_refl _,fun b hb=>.inl hb,⟨fun b cs' hb=>?_,fun i e hi=>?_,fun i i' e e' p p' hi hi' hne=>?_⟩,⟨[],rfl,trivial⟩,fun i e p hi hp=>.inr ?_,fun _ _=>rfl,⟨rfl,rfl,rfl,Fh,Nat.le_add_right _ _,fun b hb hM=>kf hb (by rintro rfl; exact hM hmine)⟩⟩
  ·obtain ⟨t',f',hh⟩:=hI.sig b cs' hb
   refine ⟨t',f',?_⟩
   rw [kf (Array.getElem?_eq_some_iff.1 hh).1 (by rintro rfl; rw [hσ] at hb; cases hb)]
   exact hh
  ·rcases ai hi with ⟨rfl,rfl⟩ | ⟨_,hi⟩
   ·refine .inr ⟨B,cap0,putCells _root_.id 0 (flatK enc k d') arr,t,fun i j=>(enc d'[i]!)[j]!,hφ,ya hheap,by simp [putCells,hsz],by simpa [hssl] using hle,by simpa [hssl] using h48,by simpa [hssl] using hb47,fun x hx=>?_,fun i j hi hj=>?_,fun i j x dd hx hdd=>?_,hσ⟩
    ·obtain ⟨c,_,rfl⟩:=List.mem_map.1 hx; exact hk c
    ·simp only [List.length_map,hssl] at hi
     have hlt : i * k + j < cs.length * k:=by
      have:=Nat.mul_le_mul_right k (show i + 1≤cs.length from hi); rw [Nat.add_mul,Nat.one_mul] at this; omega
     have hc:=hcell i j hi hj
     simp only [putCells,Array.getElem?_mapIdx,hc,Option.map_some,size_flatK,hd's,Nat.zero_le,true_and,Nat.zero_add,hlt,if_true,Nat.sub_zero]
     rw [get_flatK enc k d' _ (by rw [hd's]; exact hlt)]
     have e1 : (i * k + j) / k = i:=(blk_iff k i _ hk0).1 ⟨by omega,by omega⟩
     have e2 : (i * k + j) % k = j:=by rw [Nat.mod_eq_sub_div_mul,e1]; omega
     rw [e1,e2]; rfl
    ·rw [List.getElem?_map] at hx
     cases hs : ss[i]? with
     | none=>rw [hs] at hx; simp at hx
     | some c =>
       rw [hs] at hx; simp at hx; subst hx
       have hi : i < cs.length:=by rw [← hssl]; exact (List.getElem?_eq_some_iff.1 hs).1
       have e1:=hget i hi c hs
       have ha:=(d'[i]!).2.2
       rw [e1] at ha
       obtain ⟨v,hv,hr⟩:=ha.get hdd
       have : (enc d'[i]!)[j]! = v:=by
        have hv2:=(List.getElem?_eq_some_iff.1 hv)
        exact (getElem!_pos (enc d'[i]!) j hv2.1).trans hv2.2
       show Rep σ dd ((enc d'[i]!)[j]!)
       rw [this]; exact hr
   ·simp [look] at hi
  ·rcases ai hi with ⟨rfl,_⟩ | ⟨_,hi⟩
   ·rcases ai hi' with ⟨rfl,_⟩ | ⟨_,hi'⟩
    ·exact absurd rfl hne
    ·simp [look] at hi'
   ·simp [look] at hi
  ·rcases ai hi with ⟨rfl,_⟩ | ⟨_,hi⟩
   ·rw [hφ] at hp; cases hp; exact hmine
   ·simp [look] at hi
end
end Go.Abs
namespace Go.Proofs.YtpejdgkaapnekaaGreat
open Go Go.Proofs Go.Shelf
def FH : Go.Shelf.Ren:=⟨fun | 6=>181 | 15=>219 | 14=>231 | 28=>261 | 29=>262 | 20=>271 | 21=>272 | 22=>273 | 23=>274 | 24=>275 | 25=>276 | 26=>277 | 27=>278 | 46=>338 | 47=>295 | 48=>296 | 49=>339 | 50=>340 | 57=>368 | n=>n,fun | 22=>24 | 24=>56 | 25=>172 | 3=>3 | 39=>192 | 0=>0 | 53=>251 | 55=>253 | 4=>4 | 46=>244 | 45=>243 | 50=>119 | 5=>5 | 9=>9 | 66=>278 | 70=>282 | 76=>302 | 77=>303 | n=>n,fun | n=>n⟩
theorem M4 : Go.Proofs.SlLaysF0.n6 Tryz.prog FH:={
 mixed:=by kernel_rfl
 f6:=⟨Tryz.f181.name,by decide,Tryz.func181.trans (congrArg some (by kernel_rfl))⟩
 f14:=⟨Tryz.f231.name,by decide,Tryz.func231.trans (congrArg some (by kernel_rfl))⟩
 f15:=Tryz.func219.trans (congrArg some (by kernel_rfl))
 f20:=⟨Tryz.f271.name,by decide,Tryz.func271.trans (congrArg some (by kernel_rfl))⟩
 f21:=⟨Tryz.f272.name,by decide,Tryz.func272.trans (congrArg some (by kernel_rfl))⟩
 f22:=⟨Tryz.f273.name,by decide,Tryz.func273.trans (congrArg some (by kernel_rfl))⟩
 f23:=⟨Tryz.f274.name,by decide,Tryz.func274.trans (congrArg some (by kernel_rfl))⟩
 f24:=⟨Tryz.f275.name,by decide,Tryz.func275.trans (congrArg some (by kernel_rfl))⟩
 f25:=⟨Tryz.f276.name,by decide,Tryz.func276.trans (congrArg some (by kernel_rfl))⟩
 f26:=⟨Tryz.f277.name,by decide,Tryz.func277.trans (congrArg some (by kernel_rfl))⟩
 f27:=⟨Tryz.f278.name,by decide,Tryz.func278.trans (congrArg some (by kernel_rfl))⟩
 f28:=Tryz.func261.trans (congrArg some (by kernel_rfl))
 f29:=Tryz.func262.trans (congrArg some (by kernel_rfl))
 f46:=⟨Tryz.f338.name,by decide,Tryz.func338.trans (congrArg some (by kernel_rfl))⟩
 f47:=Tryz.func295.trans (congrArg some (by kernel_rfl))
 f48:=Tryz.func296.trans (congrArg some (by kernel_rfl))
 f49:=⟨Tryz.f339.name,by decide,Tryz.func339.trans (congrArg some (by kernel_rfl))⟩
 f50:=⟨Tryz.f340.name,by decide,Tryz.func340.trans (congrArg some (by kernel_rfl))⟩
 f57:=⟨Tryz.f368.name,by decide,Tryz.func368.trans (congrArg some (by kernel_rfl))⟩
 t0:=Tryz.underlying0
 a0:=Tryz.isAgg0
 z0:=Tryz.sizeOf0
 v0:=Tryz.zeroValue0
 t3:=Tryz.underlying3
 a3:=Tryz.isAgg3
 z3:=Tryz.sizeOf3
 v3:=Tryz.zeroValue3
 t4:=Tryz.underlying4
 a4:=Tryz.isAgg4
 z4:=Tryz.sizeOf4
 v4:=Tryz.zeroValue4
 t5:=Tryz.underlying5
 a5:=Tryz.isAgg5
 z5:=Tryz.sizeOf5
 v5:=Tryz.zeroValue5
 t9:=Tryz.underlying9
 a9:=Tryz.isAgg9
 z9:=Tryz.sizeOf9
 v9:=Tryz.zeroValue9
 t22:=Tryz.underlying24
 a22:=Tryz.isAgg24
 z22:=Tryz.sizeOf24
 v22:=Tryz.zeroValue24
 t25:=Tryz.underlying172
 a25:=Tryz.isAgg172
 z25:=Tryz.sizeOf172
 v25:=Tryz.zeroValue172
 t39:=Tryz.underlying192
 a39:=Tryz.isAgg192
 z39:=Tryz.sizeOf192
 v39:=Tryz.zeroValue192
 t45:=Tryz.underlying243
 a45:=Tryz.isAgg243
 z45:=Tryz.sizeOf243
 v45:=Tryz.zeroValue243
 t46:=Tryz.underlying244
 a46:=Tryz.isAgg244
 z46:=Tryz.sizeOf244
 v46:=Tryz.zeroValue244
 t50:=Tryz.underlying119
 a50:=Tryz.isAgg119
 z50:=Tryz.sizeOf119
 v50:=Tryz.zeroValue119
 t53:=Tryz.underlying251
 a53:=Tryz.isAgg251
 z53:=Tryz.sizeOf251
 v53:=Tryz.zeroValue251
 t55:=Tryz.underlying253
 a55:=Tryz.isAgg253
 z55:=Tryz.sizeOf253
 v55:=Tryz.zeroValue253
 t66:=Tryz.underlying278
 a66:=Tryz.isAgg278
 z66:=Tryz.sizeOf278
 v66:=Tryz.zeroValue278
 t70:=Tryz.underlying282
 a70:=Tryz.isAgg282
 z70:=Tryz.sizeOf282
 v70:=Tryz.zeroValue282
 t76:=Tryz.underlying302
 a76:=Tryz.isAgg302
 z76:=Tryz.sizeOf302
 v76:=Tryz.zeroValue302
 t77:=Tryz.underlying303
 a77:=Tryz.isAgg303
 z77:=Tryz.sizeOf303
 v77:=Tryz.zeroValue303 }
end Go.Proofs.YtpejdgkaapnekaaGreat
namespace Go.Proofs.YtpejdgkaapnekaaGreat
open Go Go.Abs
attribute [local irreducible] ae OkC ar aA av aN
set_option maxRecDepth 10000
def rO(x : Cell) : AV:=.agg ((aD x).map .d)
theorem OU(x y : Cell) : CallA Tryz.prog 182 [rO x,rO y] [] (.one (.d (.int .i64 (bn x.at' y.at')))) []:=by
 unfold rO aD
 simp only [List.map_cons,List.map_nil]
 refine enter af Tryz.func182 rfl (by decide +kernel) rfl fun hok w0 σ0 φ0 M=>?_
 clear hok
 repeat' (first|(refine h1H ?_; (refine h0H ?_; refine aa J J J J J J J J (c35 _ _) J ?_))|refine wG ?_)
 all_goals (try (((simp_all [ao,List.drop_eq_nil_of_le]) <;> exact wL); done))
theorem OQ(id : Nat)(cs ss : List Cell)(hu : ∀ l : List Cell,l.Perm cs→l.Pairwise (fun x y=>¬ bn y.at' x.at' < 0)→l = ss) :
  CallA Tryz.prog 181 [.one (.own id cs.length),.one (.d (.fn 182 []))] [(id,.row 2 48 (cs.map aD))] (.tup []) [(id,.row 2 48 (ss.map aD))]:=by
 refine C9 M4 2 48 (by omega) Tryz.isAgg56 Tryz.sizeOf56 aD (fun _=>rfl) (fun x y=>bn x.at' y.at') (fun x=>by rw [ni]; omega) (fun x y z h1 h2=>?_) (fun x y z h1 h2=>?_) 182 OU
  (enters_of Tryz.func182 (by kernel_rfl) rfl) ⟨Tryz.f181,Tryz.func181,by kernel_rfl,by kernel_rfl⟩ id cs ss hu
 ·have:=gE x.at' y.at' z.at' (by omega) (by omega)
  omega
 ·have h3:=il x.at' y.at'
  have h4:=il y.at' z.at'
  have h5:=il x.at' z.at'
  have:=gE z.at' y.at' x.at' (by omega) (by omega)
  omega
theorem mR{α β : Type}(f : α→β)(l : List α) : (l.map f).take l.length = l.map f:=List.take_of_length_le (by simp)
theorem c95(x : Cell)(ha : x.at'.length≤1048576)(hv : x.vals.length≤1048576) : CallA Tryz.prog 95 [rO x] [] (rO x) []:=by
 unfold rO aD
 simp only [List.map_cons,List.map_nil]
 refine enter af Tryz.func95 rfl (by decide +kernel) rfl fun hok w0 σ0 φ0 M=>?_
 clear hok
 repeat' (first|(refine h4H ?_; refine bf (bq (dl:=[10,11]) J) (bH ?_))|(refine h3H ?_; (refine h2H ?_; first|refine eM au 10 J J J (iz J J J J J J J J (by simp only [List.length_map,Nat.zero_add]; omega) (by simp only [List.length_map,Nat.zero_add]; omega)) J J ?_|refine eM au 11 J J J (iz J J J J J J J J (by simp only [List.length_map,Nat.zero_add]; omega) (by simp only [List.length_map,Nat.zero_add]; omega)) J J ?_))|refine wG ?_)
 all_goals
  show AV.agg [.d (.sl 1 8 ((List.take 0 [] ++ List.map bJ x.at').take (0 + (List.map bJ x.at').length))),.d (.sl 4 40 ((List.take 0 [] ++ List.map ab x.vals).take (0 + (List.map ab x.vals).length)))] = _
  simp [aM,aG,mR]
theorem c94(ds : List Dim)(ats : List Attr)(hd : ds.length≤1048576)(ha : ats.length≤1048576) : CallA Tryz.prog 94 [.one (.d (aF ds)),.one (.d (ax ats))] [] (.agg [.d (aF ds),.d (ax ats),.d .nil]) []:=by
 refine enter af Tryz.func94 rfl (by decide +kernel) rfl fun hok w0 σ0 φ0 M=>?_
 clear hok
 repeat' (first|(refine h1H ?_; (refine h0H ?_; first|refine cK af J J J J J (id:=1) J J J J J J J (by simp only [List.length_map,Nat.zero_add]; omega) (by simp only [List.length_map,Nat.zero_add]; omega) ?_|refine cK af J J J J J (id:=2) J J J J J J J (by simp only [List.length_map,Nat.zero_add]; omega) (by simp only [List.length_map,Nat.zero_add]; omega) ?_))|(refine h4H ?_; refine bf (bq (dl:=[1,2]) J) (bH ?_))|refine wG ?_)
 all_goals
  show AV.agg [.d (.sl 3 32 ((List.take 0 [] ++ List.map cm ds).take (0 + (List.map cm ds).length))),.d (.sl 2 24 ((List.take 0 [] ++ List.map aX ats).take (0 + (List.map aX ats).length))),.d .nil] = _
  simp [aF,ax,mR]
end Go.Proofs.YtpejdgkaapnekaaGreat
namespace Go.Abs
open Go
variable {P : Program} {c : Ctx} {fr : List (Nat×AV)} {sto : Sto}
def nmA(b : Bool×Bool) : Nat:=bif b.1 then 11 else 10
def qN(i : Nat) : Nat:=bif Nat.beq i 11 then 10 else bif Nat.beq i 13 then 12 else i
theorem y6{α : Type}{f a b : List (Nat×α)}(h1 : SubL f a)(h2 : SubL f b) : SubL f (a ++ b):=by
 induction a with
 | nil=>exact h2
 | cons p r ih=>exact ⟨h1.1,ih h1.2⟩
theorem vD{f f' : List (Nat×AV)}{s s' : Sto}(hf : SubL f f')(hs : SubL s s') : Imp c ⟨f,s⟩ ⟨f',s'⟩:=Imp.trans (jz hf) (y7 hs)
theorem dX{α : Type}{body : Code}{Q : Exit→St→Prop}(rg : Nat)(hrg : jB body = rg){fr1 : List (Nat×AV)}{sto1 : Sto}(ha : Imp c ⟨fr,sto⟩ ⟨fr1,sto1⟩)(kept : List (Nat×AV))(hk : SubL fr1 kept)(L : Bool×Bool→α→List (Nat×AV))(S : Bool×Bool→α→Sto)(Inv : α→Prop)(μ : α→Nat)(x0 : α)
  (hL : SubL fr1 (L (false,false) x0)) (hS : SubL sto1 (S (false,false) x0)) (hq : ∀ b y,Imp c ⟨L b y ++ kept,S b y⟩ ⟨L (false,false) y ++ kept,S (false,false) y⟩) (h0 : Inv x0)
  (hround : ∀ x,Inv x→OkC P c body ⟨L (false,false) x ++ kept,S (false,false) x⟩ (aA (fun st'=>∃ y b,Inv y∧μ y < μ x∧SubL st'.sto (S b y)∧SubL st'.fr (L b y)∧SubL st'.fr kept) Q)) : OkC P c (.loop body) ⟨fr,sto⟩ Q:=by
 refine bf (st':=⟨L (false,false) x0 ++ kept,S (false,false) x0⟩) (Imp.trans ha (vD (y6 hL hk) hS)) ?_
 refine ox (fun n st=>∃ x,Inv x∧n = μ x∧st = ⟨L (false,false) x ++ kept,S (false,false) x⟩) (μ x0) ⟨x0,h0,rfl,rfl⟩ ?_
 rintro n st ⟨x,hx,rfl,rfl⟩
 refine jI (hround x hx) fun e st h=>?_
 cases e with
 | normal =>
   obtain ⟨y,b,hy,hlt,hs,h1,h2⟩:=h
   obtain ⟨f,s⟩:=st
   simp only at hs h1 h2
   exact ⟨μ y,_,hlt,⟨y,hy,rfl,rfl⟩,Imp.trans (vD (y6 h1 h2) hs) (hq b y)⟩
 | _=>exact h
section
variable {w0 : World} {σ0 : Sig} {φ0 : Pl} {M : Nat→Prop} {n : Nat} {rd : Option Nat} {mk : List Deferred} {ops : Array Oper} {o : Oper} {rest : List Oper} {K : St→Prop} {st0 : St} {acc : List Tr}
theorem dR(k : Nat)(dl : List Nat){ss : St}{d : Nat}{fop : Operand}{args : Array Operand}{ats : Array TypeId}{f : FuncId}{caps : List D}{avs avs' : List AV}{rav rav' : AV}
  (ho : o.op = .call { callee:=.value fop,args:=args,argTypes:=ats }) (hg : o.guard = none) (hdst : o.dst = some d) (hd : Nat.blt d n = true) (hss : sealL ⟨fr,sto⟩ dl = some ss) (hf : ev ss fop = some (.one (.d (.fn f caps))))
  (ha : evL ss args.toList = some avs) (hD : cw avs = true) (hap : (avs ++ caps.map fun x=>.one (.d x)) = avs') (hC : CallA P f avs' [] rav [])
  (hk : (cA [] [] && Nat.ble (k + 16) 1000000 && c7 [] rav && bm [] []) = true) (hfresh : mu k ⟨fr,dU dl sto⟩ = true) (hr : dD (rn k []) rav = rav')
  (h : ae P ⟨w0,σ0,φ0,M,n,rd,mk⟩ ops rest ⟨(d,rav')::fr,dU dl sto⟩ K) : ae P ⟨w0,σ0,φ0,M,n,rd,mk⟩ ops (o::rest) ⟨fr,sto⟩ K:=by
 subst hap; subst hr
 exact lx k dl ho hg (by rw [hdst]; exact hd) hss hf ha hD hC hk (po hfresh) (by rw [hdst]; exact h)
theorem oD(k : Nat)(dl : List Nat){os : List (Nat×AObj)}{d : Nat}{fop : Operand}{args : Array Operand}{ats : Array TypeId}{f : FuncId}{caps : List D}{avs avs' : List AV}{rav rav' : AV}
  (ho : o.op = .call { callee:=.value fop,args:=args,argTypes:=ats }) (hg : o.guard = none) (hdst : o.dst = some d) (hd : Nat.blt d c.n = true) (hos : dI sto dl = some os) (hf : evS os ⟨fr,sto⟩ fop = some (.one (.d (.fn f caps))))
  (ha : kI os ⟨fr,sto⟩ args.toList = some avs) (hD : cw avs = true) (hap : (avs ++ caps.map fun x=>.one (.d x)) = avs') (hC : CallA P f avs' [] rav [])
  (hk : (cA [] [] && Nat.ble (k + 16) 1000000 && c7 [] rav && bm [] []) = true) (hr : dD (rn k []) rav = rav')
  (h : ar P c ops st0 rest ⟨(d,rav')::fr,cM (pf dl) sto⟩ (lF k dl dl rav []::acc) K) : ar P c ops st0 (o::rest) ⟨fr,sto⟩ acc K:=by
 subst hap; subst hr
 refine mb hg (wW k dl ho (by rw [hdst]; exact hd) hos hf ha hD hC hk) ?_
 rw [hdst]; exact h
end
theorem eF{V : Env}{st : St}{o : Oper}{id i n k b k' b' : Nat}{t t2 : TypeId}{x y : Operand}{v : AV}{xs ys : List (List D)}{e : TypeId}{z : List D}{q : TypeId×Nat×Nat×List D}
  (ho : o.op = .call { callee:=.builtin .append,args:=⟨[x,y]⟩,argTypes:=⟨[t,t2]⟩ }) (ht : aW V.T t = some (e,k,b,z)) (ht2 : aW V.T t2 = some q) (hx : ev st x = some (.one (.own i n))) (hl : look st.sto i = some (.row k' b' xs))
  (hkb : (Nat.beq k k' && Nat.beq b b') = true) (hy : ev st y = some v) (hs : fj st k v = some ys) (hn : n≤100000000) (hys : ys.length≤10000000) (hb : b≤100) :
  aV V st o id = some ⟨.one (.own id (n + ys.length)),[(id,some (.row k b (xs.take n ++ ys))),(i,none)],[id]⟩ :=
 iz ho ht ht2 hx hl hkb hy hs (by omega) (Nat.le_trans (Nat.mul_le_mul (show n + ys.length≤110000000 by omega) hb) (by omega))
end Go.Abs
namespace Go.Proofs.YtpejdgkaapnekaaGreat
open Go Go.Abs
attribute [local irreducible] ae OkC ar aA av aN
set_option maxRecDepth 10000
theorem PT(nm : List UInt8)(lo hi : Int) : CallA Tryz.prog 139 [.agg [.d (.str nm),.d (.int .i64 lo),.d (.int .i64 hi)]] [] (.one (.d (.str nm))) []:=by
 refine enter af Tryz.func139 rfl (by decide +kernel) rfl fun hok w0 σ0 φ0 M=>?_
 repeat' (first|refine wG ?_)
 all_goals (try (((simp_all [ao,List.drop_eq_nil_of_le]) <;> exact wL); done))
theorem PU(nm : List UInt8)(t : Int) : CallA Tryz.prog 151 [.agg [.d (.str nm),.d (.int .i64 t)]] [] (.one (.d (.str nm))) []:=by
 refine enter af Tryz.func151 rfl (by decide +kernel) rfl fun hok w0 σ0 φ0 M=>?_
 repeat' (first|refine wG ?_)
 all_goals (try (((simp_all [ao,List.drop_eq_nil_of_le]) <;> exact wL); done))
theorem PV(nm name : List UInt8)(lo hi : Int) : CallA Tryz.prog 245 [.agg [.d (.str nm),.d (.int .i64 lo),.d (.int .i64 hi)],.one (.d (.ptr [.fn 139 []])),.one (.d (.ptr [.str name]))] [] (.one (.d (.bool (nm == name)))) []:=by
 refine enter af Tryz.func245 rfl (by decide +kernel) rfl fun hok w0 σ0 φ0 M=>?_
 repeat' (first|(refine h3H ?_; (refine h2H ?_; refine d_l J J (aB J J J J J J (PT _ _ _) J) ?_))|refine wG ?_)
 all_goals (try (((simp_all [ao,List.drop_eq_nil_of_le]) <;> exact wL); done))
theorem PW(nm name : List UInt8)(t : Int) : CallA Tryz.prog 251 [.agg [.d (.str nm),.d (.int .i64 t)],.one (.d (.ptr [.fn 151 []])),.one (.d (.ptr [.str name]))] [] (.one (.d (.bool (nm == name)))) []:=by
 refine enter af Tryz.func251 rfl (by decide +kernel) rfl fun hok w0 σ0 φ0 M=>?_
 repeat' (first|(refine h3H ?_; (refine h2H ?_; refine d_l J J (aB J J J J J J (PU _ _) J) ?_))|refine wG ?_)
 all_goals (try (((simp_all [ao,List.drop_eq_nil_of_le]) <;> exact wL); done))
theorem PX(f : FuncId)(caps : List D)(p : Dim→Bool)(hp : ∀ d : Dim,CallA Tryz.prog f ([.agg [.d (.str d.name),.d (.int .i64 d.lo),.d (.int .i64 d.hi)]] ++ caps.map fun x=>.one (.d x)) [] (.one (.d (.bool (p d)))) [])(l : List Dim) :
  CallA Tryz.prog 244 [.one (.d (aF l)),.one (.d (.fn f caps))] [] (.one (.d (.int .i64 (aL p l 0)))) []:=by
 refine enter af Tryz.func244 rfl (by decide +kernel) rfl fun hok w0 σ0 φ0 M=>?_
 have h1:=hok.1.sl; clear hok; simp only [List.length_map] at h1; replace h1:=h1.1
 repeat' (first|(refine h1H ?_; (refine h0H ?_; refine aa J J J J J J J J (hp _) J ?_))|refine wG ?_|(refine h4H ?_; first|refine ah J (fun h=>?_) (fun h=>?_)|refine aH 2 J [(0,_),(1,_),(7,_)] (q3Q J J J) (fun (k : Nat)=>[(8,.one (.d (.int .i64 k)))]) (fun (k : Nat)=>k≤l.length∧aL p l 0 = aL p (l.drop k) k) (fun (k : Nat)=>l.length - k) 0 (q1Q J) ?_ (fun k ⟨hk,hs⟩=>?_))|(show Exists _; refine Exists.intro (k + 1) ⟨?_,?_,wK,(q1Q J),(q3Q J J J)⟩))
 all_goals (try (((simp_all [aL,ao,List.drop_eq_nil_of_le]) <;> exact wL); done))
theorem PY(f : FuncId)(caps : List D)(p : Attr→Bool)(hp : ∀ d : Attr,CallA Tryz.prog f ([.agg [.d (.str d.name),.d (.int .i64 d.type)]] ++ caps.map fun x=>.one (.d x)) [] (.one (.d (.bool (p d)))) [])(l : List Attr) :
  CallA Tryz.prog 250 [.one (.d (ax l)),.one (.d (.fn f caps))] [] (.one (.d (.int .i64 (aL p l 0)))) []:=by
 refine enter af Tryz.func250 rfl (by decide +kernel) rfl fun hok w0 σ0 φ0 M=>?_
 have h1:=hok.1.sl; clear hok; simp only [List.length_map] at h1; replace h1:=h1.1
 repeat' (first|(refine h1H ?_; (refine h0H ?_; refine aa J J J J J J J J (hp _) J ?_))|refine wG ?_|(refine h4H ?_; first|refine ah J (fun h=>?_) (fun h=>?_)|refine aH 2 J [(0,_),(1,_),(7,_)] (q3Q J J J) (fun (k : Nat)=>[(8,.one (.d (.int .i64 k)))]) (fun (k : Nat)=>k≤l.length∧aL p l 0 = aL p (l.drop k) k) (fun (k : Nat)=>l.length - k) 0 (q1Q J) ?_ (fun k ⟨hk,hs⟩=>?_))|(show Exists _; refine Exists.intro (k + 1) ⟨?_,?_,wK,(q1Q J),(q3Q J J J)⟩))
 all_goals (try (((simp_all [aL,ao,List.drop_eq_nil_of_le]) <;> exact wL); done))
theorem PZ(l : List Dim)(name : List UInt8) : CallA Tryz.prog 195 [.one (.d (aF l)),.one (.d (.str name)),.one (.d (.fn 139 []))] [] (.one (.d (.int .i64 (aL (fun a : Dim=>a.name == name) l 0)))) []:=by
 refine enter af Tryz.func195 rfl (by decide +kernel) rfl fun hok w0 σ0 φ0 M=>?_
 repeat' (first|(refine h1H ?_; (refine h0H ?_; refine aa J J J J J J J J (PX _ _ _ (fun d=>PV _ name _ _) _) J ?_))|refine wG ?_)
 all_goals (try (((simp_all [ao,List.drop_eq_nil_of_le]) <;> exact wL); done))
theorem K4(l : List Attr)(name : List UInt8) : CallA Tryz.prog 207 [.one (.d (ax l)),.one (.d (.str name)),.one (.d (.fn 151 []))] [] (.one (.d (.int .i64 (aL (fun a : Attr=>a.name == name) l 0)))) []:=by
 refine enter af Tryz.func207 rfl (by decide +kernel) rfl fun hok w0 σ0 φ0 M=>?_
 repeat' (first|(refine h1H ?_; (refine h0H ?_; refine aa J J J J J J J J (PY _ _ _ (fun d=>PW _ name _) _) J ?_))|refine wG ?_)
 all_goals (try (((simp_all [ao,List.drop_eq_nil_of_le]) <;> exact wL); done))
theorem vN(ds : List Dim)(ats : List Attr)(cs : D)(name : List UInt8) : CallA Tryz.prog 126 [.agg [.d (aF ds),.d (ax ats),.d cs],.one (.d (.str name))] [] (.one (.d (.int .i64 (aL (fun a : Dim=>a.name == name) ds 0)))) []:=by
 refine enter af Tryz.func126 rfl (by decide +kernel) rfl fun hok w0 σ0 φ0 M=>?_
 repeat' (first|(refine h1H ?_; (refine h0H ?_; refine aa J J J J J J J J (PZ _ _) J ?_))|refine wG ?_)
 all_goals (try (((simp_all [ao,List.drop_eq_nil_of_le]) <;> exact wL); done))
theorem zu(ds : List Dim)(ats : List Attr)(cs : D)(name : List UInt8) : CallA Tryz.prog 148 [.agg [.d (aF ds),.d (ax ats),.d cs],.one (.d (.str name))] [] (.one (.d (.int .i64 (aL (fun a : Attr=>a.name == name) ats 0)))) []:=by
 refine enter af Tryz.func148 rfl (by decide +kernel) rfl fun hok w0 σ0 φ0 M=>?_
 repeat' (first|(refine h1H ?_; (refine h0H ?_; refine aa J J J J J J J J (K4 _ _) J ?_))|refine wG ?_)
 all_goals (try (((simp_all [ao,List.drop_eq_nil_of_le]) <;> exact wL); done))
def gf(a : Arr) : Int:=bI a.dims a.attrs a.cells
theorem Qf(a : Arr) : CallA Tryz.prog 180 [fa a] [] (.one (.d (.bool (gf a != 0)))) []:=by
 unfold fa
 refine enter af Tryz.func180 rfl (by decide +kernel) rfl fun hok w0 σ0 φ0 M=>?_
 clear hok
 repeat' (first|(refine h1H ?_; (refine h0H ?_; refine aa J J J J J J J J (c59 _ _ _) J ?_))|refine wG ?_)
 all_goals rfl
theorem Qg(l : List Arr) : CallA Tryz.prog 230 [.one (.d (vW l)),.one (.d (.fn 180 []))] [] (.one (.d (.int .i64 (aL (fun a=>gf a != 0) l 0)))) []:=by
 refine enter af Tryz.func230 rfl (by decide +kernel) rfl fun hok w0 σ0 φ0 M=>?_
 have h1:=hok.1.sl; clear hok; simp only [List.length_map] at h1; replace h1:=h1.1
 repeat' (first|(refine h1H ?_; (refine h0H ?_; refine aa J J J J J J J J (Qf _) J ?_))|refine wG ?_|(refine h4H ?_; first|refine ah J (fun h=>?_) (fun h=>?_)|refine aH 2 J [(0,_),(1,_),(7,_)] (q3Q J J J) (fun (k : Nat)=>[(8,.one (.d (.int .i64 k)))]) (fun (k : Nat)=>k≤l.length∧aL (fun a=>gf a != 0) l 0 = aL (fun a=>gf a != 0) (l.drop k) k) (fun (k : Nat)=>l.length - k) 0 (q1Q J) ?_ (fun k ⟨hk,hs⟩=>?_))|(show Exists _; refine Exists.intro (k + 1) ⟨?_,?_,wK,(q1Q J),(q3Q J J J)⟩))
 all_goals (try (((simp_all [aL,ao,List.drop_eq_nil_of_le]) <;> exact wL); done))
theorem Qh(l : List Arr) : CallA Tryz.prog 179 [.one (.d (vW l)),.one (.d (.fn 180 []))] [] (.one (.d (.bool (!decide (aL (fun a=>gf a != 0) l 0 < 0))))) []:=by
 refine enter af Tryz.func179 rfl (by decide +kernel) rfl fun hok w0 σ0 φ0 M=>?_
 clear hok
 repeat' (first|(refine h1H ?_; (refine h0H ?_; refine aa J J J J J J J J (Qg _) J ?_))|refine wG ?_)
 all_goals (try (((simp_all [ao,List.drop_eq_nil_of_le]) <;> exact wL); done))
def bD(l : List Arr) : Bool:=l.all fun a=>gf a == 0
theorem uH : ∀ (l : List Arr) (j : Nat),aL (fun a=>gf a != 0) l j < 0↔bD l = true
 | [],j=>by simp [aL,bD]
 | a::l,j=>by
   have ih:=uH l (j + 1)
   simp only [aL,bD,List.all_cons,Bool.and_eq_true]
   by_cases h : gf a = 0
   ·rw [if_neg (by simp [h])]
    rw [ih]
    simp [h,bD]
   ·rw [if_pos (by simp [h])]
    constructor
    ·intro h1; omega
    ·intro h1; simp [h] at h1
theorem FR(l : List Arr)(j : Nat) : decide (aL (fun a=>gf a != 0) l j < 0) = bD l:=by
 rw [Bool.eq_iff_iff,decide_eq_true_eq,uH]
theorem c96(l : List Arr) : CallA Tryz.prog 96 [.one (.d (vW l))] [] (.one (.d (.bool (bD l)))) []:=by
 refine enter af Tryz.func96 rfl (by decide +kernel) rfl fun hok w0 σ0 φ0 M=>?_
 clear hok
 repeat' (first|(refine h1H ?_; (refine h0H ?_; refine aa J J J J J J J J (Qh _) J ?_))|refine wG ?_)
 all_goals (try (((simp_all [FR,ao,List.drop_eq_nil_of_le]) <;> exact wL); done))
theorem M3(id n : Nat)(cs : List Cell)(rows : List (List D))(hr : rows = cs.map aD)(hn : n = cs.length)(hd : cs.Pairwise bZ) :
  CallA Tryz.prog 181 [.one (.own id n),.one (.d (.fn 182 []))] [(id,.row 2 48 rows)] (.tup []) [(id,.row 2 48 ((bz cs).map aD))]:=by
 subst hr; subst hn
 exact OQ id cs (bz cs) (E6 hd)
theorem E7{w0 : World}{σ0 : Sig}{φ0 : Pl}{M : Nat→Prop}{n : Nat}{rd : Option Nat}{mk : List Deferred}{ops : Array Oper}{o : Oper}{rest : List Oper}{fr : List (Nat×AV)}{sto : Sto}{K : St→Prop}{d m : Nat}{fop x y : Operand}{ats : Array TypeId}{rows : List (List D)}(id : Nat)(cs : List Cell)
  (ho : o.op = .call { callee:=.value fop,args:=⟨[x,y]⟩,argTypes:=ats }) (hg : o.guard = none) (hdst : o.dst = some d) (hdn : Nat.blt d n = true) (hf : ev ⟨fr,sto⟩ fop = some (.one (.d (.fn 181 [])))) (hx : ev ⟨fr,sto⟩ x = some (.one (.own id m))) (hy : ev ⟨fr,sto⟩ y = some (.one (.d (.fn 182 []))))
  (hl : Abs.look sto id = some (.row 2 48 rows)) (hr : rows = cs.map aD) (hn : m = cs.length) (hd : cs.Pairwise bZ) (hfr : mu 16 ⟨fr,sto⟩ = true)
  (h : ae Tryz.prog ⟨w0,σ0,φ0,M,n,rd,mk⟩ ops rest ⟨(d,.tup [])::fr,bS id (.row 2 48 ((bz cs).map aD)) (del id sto)⟩ K) : ae Tryz.prog ⟨w0,σ0,φ0,M,n,rd,mk⟩ ops (o::rest) ⟨fr,sto⟩ K:=by
 refine ey 16 [(1000000,id)] (rav':=.tup []) (sto':=bS id (.row 2 48 ((bz cs).map aD)) (del id sto)) (M3 1000000 m cs rows hr hn hd) ho hg hdst hdn hf ?_ ⟨⟨id,rfl,hl⟩,trivial⟩ ⟨fun i e h1 h2=>?_,trivial⟩ rfl hfr rfl rfl h
 ·show evL ⟨fr,sto⟩ [x,y] = _
  simp only [evL,hx,hy]
  rfl
 ·have e1 : some id = some i:=h1
  cases e1
  rw [hl] at h2
  cases h2
  refine ⟨rfl,rfl,?_⟩
  rw [hr,List.length_map,List.length_map,ij]
  exact Nat.le_refl _
theorem mE{α β : Type}[Inhabited α](f : α→β)(l : List α){k : Nat}(h : k < l.length) : ((l.take k).map f).take k ++ [f (at_ l k)] = (l.take (k + 1)).map f:=by
 rw [List.take_succ_eq_append_getElem h,List.map_append,List.take_of_length_le (by simp; omega)]
 simp [at_,h]
def jw : Option Arr×Int→AV
 | (none,e)=>.tup [(true,[.d .nil,.d .nil,.d .nil]),(false,[.d (.int .i64 e)])]
 | (some a,e)=>.tup [(true,[.d (aF a.dims),.d (ax a.attrs),.d (aO a.cells)]),(false,[.d (.int .i64 e)])]
theorem yK{α β : Type}(f : α→β){l : List α}{k : Nat}(h : l.length≤k) : (l.take k).map f = l.map f:=by rw [List.take_of_length_le h]
theorem c99(ds : List Dim)(ats : List Attr)(cs : List Cell)(hd : cs.Pairwise bZ) : CallA Tryz.prog 99 [.one (.d (aF ds)),.one (.d (ax ats)),.one (.d (aO cs))] [] (jw (jx ds ats cs)) []:=by
 refine enter af Tryz.func99 rfl (by decide +kernel) rfl fun hok w0 σ0 φ0 M=>?_
 have h1:=hok.2.2.1.sl; clear hok; simp only [List.length_map] at h1; replace h1:=h1.1
 by_cases h4 : 4096 < (cs.length : Int)
 ·have hb : decide (4096 < ((cs.map aD).length : Int)) = true:=by simpa using h4
  simp only [jx,if_pos h4,jw]
  repeat' (first|refine wG ?_)
  all_goals rfl
 ·have hb : decide (4096 < ((cs.map aD).length : Int)) = false:=by simpa using h4
  simp only [jx,if_neg h4,jw]
  repeat' (first|(refine h1H ?_; (refine h0H ?_; first|refine E7 10 cs J J J J J J J J (hr.trans (yK _ (by first|omega|(simp only [decide_eq_true_eq,decide_eq_false_iff_not,List.length_map] at *; omega)))) (by first|omega|(simp only [decide_eq_true_eq,decide_eq_false_iff_not,List.length_map] at *; omega)) hd J ?_|refine az 16 J J J J J J J J (c97 _) J J J ?_|refine az 16 J J J J J J J J (OR _) J J J ?_))|(refine h4H ?_; refine bf (bq (dl:=[10]) J) (bH ?_))|(refine h3H ?_; (refine h2H ?_; first|refine bh 16 J J J J J J J J (KD _) J J ?_|refine bh 16 J J J J J J J J (KF _) J J ?_))|refine wG ?_|(refine h4H ?_; first|refine ah J (fun h=>?_) (fun h=>?_)|refine dX 5 J (jZ 1 2 10 (k:=2) (b:=48) J J (by kernel_rfl)) [(6,_),(8,_),(20,_),(21,_)] (q4Q J J J J) (fun (bN : Bool×Bool) (p : Nat×List (List D))=>[(22,.one (.d (.int .i64 (p.1 : Int))))]) (fun (bN : Bool×Bool) (p : Nat×List (List D))=>[(1,.box [.d (aF ds),.d (ax ats),.own (nmA bN) p.1]),((nmA bN),.row 2 48 p.2),(0,.box [.d .nil,.d .nil,.d .nil])]) (fun (p : Nat×List (List D))=>p.1≤cs.length∧p.2 = (cs.take p.1).map aD) (fun (p : Nat×List (List D))=>cs.length - p.1) (0,[]) (q1Q J) wK (fun b y=>by obtain ⟨b1,b2⟩:=b; cases b1 <;> cases b2 <;> first|exact Imp.refl _|exact dY qN (by kernel_rfl)) ?_ (fun p ⟨hk,hr⟩=>?_))|(show Exists _; refine Exists.intro ((p.1 + 1,p.2.take p.1 ++ [aD (at_ cs p.1)])) (Exists.intro (true,false) ⟨?_,?_,wK,(q1Q J),(q4Q J J J J)⟩)))
  ·exact ⟨Nat.zero_le _,rfl⟩
  ·have hlt : p.1 < cs.length:=by simpa using h
   exact ⟨hlt,by show p.2.take p.1 ++ _ = _; rw [hr]; exact mE _ _ hlt⟩
  ·have hlt : p.1 < cs.length:=by simpa using h
   show cs.length - (p.1 + 1) < cs.length - p.1
   omega
  ·have hge : cs.length≤p.1:=by simpa using h
   show AV.tup [(true,[.d (aF ds),.d (ax ats),.d (.sl 2 48 (((bz cs).map aD).take p.1))]),_] = _
   rw [List.take_of_length_le (by simp only [List.length_map,ij]; exact hge)]
   rfl
theorem OS(l : List Dim)(hne : 0 < l.length) : CallA Tryz.prog 97 [.one (.d (aF l))] [] (.one (.own 0 l.length)) [(0,.row 3 32 (l.map cm))]:=by
 refine enter af Tryz.func97 rfl (by decide +kernel) rfl fun hok w0 σ0 φ0 M=>?_
 have h1:=hok.1.sl; clear hok; simp only [List.length_map] at h1
 repeat' (first|(refine h1H ?_; (refine h6H ?_; refine eZ af J J J J J J (fun r hr=>?_)))|(refine h1H ?_; (refine h0H ?_; refine cK af J J J J J (id:=0) J J J J J J J (by simp only [List.length_map,Nat.zero_add]; omega) (by simp only [List.length_map,Nat.zero_add]; omega) ?_))|refine wG ?_|(refine h4H ?_; refine ah J (fun h=>?_) (fun h=>?_)))
 ·have e:=hr (by simpa using h)
  simp only [List.map_eq_nil_iff] at e
  subst e; simp at hne
 ·simp
theorem OT(ds : List Dim)(ats : List Attr)(cs : List Cell)(xs ys : List (List D))(hd : cs.Pairwise bZ)(hx : xs = ds.map cm)(hy : ys = cs.map aD) : CallA Tryz.prog 99 [.one (.d (.sl 3 32 xs)),.one (.d (ax ats)),.one (.d (.sl 2 48 ys))] [] (jw (jx ds ats cs)) []:=by
 subst hx; subst hy; exact c99 ds ats cs hd
theorem KG(ds : List Dim)(ats : List Attr)(cs : List Cell)(xs ys : List (List D))(hd : cs.Pairwise bZ)(hf : cs.length≤4096)(hx : xs = ds.map cm)(hy : ys = cs.map aD) : CallA Tryz.prog 99 [.one (.d (.sl 3 32 xs)),.one (.d (ax ats)),.one (.d (.sl 2 48 ys))] [] (.tup [(true,[.d (aF ds),.d (ax ats),.d (aO (bz cs))]),(false,[.d (.int .i64 0)])]) []:=by
 have h:=OT ds ats cs xs ys hd hx hy
 unfold jx at h
 rw [if_neg (by omega)] at h
 exact h
def oG(a : Arr) : Prop:=a.dims.length≤1048576∧a.attrs.length≤1048576∧a.cells.length≤1048576∧∀ k,k < a.cells.length→(at_ a.cells k).at'.length≤1048576∧(at_ a.cells k).vals.length≤1048576
theorem c22(a : Arr)(hs : oG a) : CallA Tryz.prog 22 [fa a] [] (fa a) []:=by
 have hcs:=hs.2.2.1
 unfold fa
 refine enter af Tryz.func22 rfl (by decide +kernel) rfl fun hok w0 σ0 φ0 M=>?_
 clear hok
 repeat' (first|(refine h1H ?_; (refine h0H ?_; refine az 16 J J J J J J J J (c94 _ _ hs.1 hs.2.1) J J J ?_))|(refine h4H ?_; refine bf (bq (dl:=[10]) J) (bH ?_))|(refine h3H ?_; (refine h2H ?_; refine bh 16 J J J J J J J J (c95 _ (hs.2.2.2 _ wB).1 (hs.2.2.2 _ wB).2) J J ?_))|refine wG ?_|(refine h4H ?_; first|refine ah J (fun h=>?_) (fun h=>?_)|refine dX 3 J (jZ 2 2 10 (k:=2) (b:=48) J J (by kernel_rfl)) [(1,_),(2,_),(3,_)] (q3Q J J J) (fun (bN : Bool×Bool) (p : Nat×List (List D))=>[(4,.one (.d (.int .i64 (p.1 : Int))))]) (fun (bN : Bool×Bool) (p : Nat×List (List D))=>[(2,.box [.d (aF a.dims),.d (ax a.attrs),.own (nmA bN) p.1]),((nmA bN),.row 2 48 p.2),(1,.box [.d .nil,.d .nil,.d .nil]),(0,.box [.d (aF a.dims),.d (ax a.attrs),.d (aO a.cells)])]) (fun (p : Nat×List (List D))=>p.1≤a.cells.length∧p.2 = (a.cells.take p.1).map aD) (fun (p : Nat×List (List D))=>a.cells.length - p.1) (0,[]) (q1Q J) wK (fun b y=>by obtain ⟨b1,b2⟩:=b; cases b1 <;> cases b2 <;> first|exact Imp.refl _|exact dY qN (by kernel_rfl)) ?_ (fun p ⟨hk,hr⟩=>?_))|(show Exists _; refine Exists.intro ((p.1 + 1,p.2.take p.1 ++ [aD (at_ a.cells p.1)])) (Exists.intro (true,false) ⟨?_,?_,wK,(q1Q J),(q3Q J J J)⟩)))
 ·exact ⟨Nat.zero_le _,rfl⟩
 ·have hlt : p.1 < a.cells.length:=by simpa using h
  exact ⟨hlt,by show p.2.take p.1 ++ _ = _; rw [hr]; exact mE _ _ hlt⟩
 ·have hlt : p.1 < a.cells.length:=by simpa using h
  show a.cells.length - (p.1 + 1) < a.cells.length - p.1
  omega
 ·have hge : a.cells.length≤p.1:=by simpa using h
  show AV.agg [.d (aF a.dims),.d (ax a.attrs),.d (.sl 2 48 (p.2.take p.1))] = _
  rw [hr,List.take_of_length_le (by simp; omega),List.take_of_length_le hge]
  rfl
end Go.Proofs.YtpejdgkaapnekaaGreat
namespace Go.Proofs.YtpejdgkaapnekaaGreat
open Go Go.Abs
theorem FF{a : Arr}(h : LN (1048571 + 3) a) : oG a:=by
 obtain ⟨h1,h2,h3,h4⟩:=h
 refine ⟨Nat.le_trans h1.1 (by omega),Nat.le_trans h2.1 (by omega),Nat.le_trans h3 (by omega),fun k hk=>?_⟩
 have:=h4 _ (bT hk)
 exact ⟨Nat.le_trans this.1 (by omega),Nat.le_trans this.2 (by omega)⟩
end Go.Proofs.YtpejdgkaapnekaaGreat
namespace Go.Proofs.YtpejdgkaapnekaaGreat
open Go Go.Abs
def oa(k : Nat)(d : Int)(x : List Int) : List Int:=x.set k (at_ x k + d)
def lO(k : Nat)(d : Int)(c : Cell) : Cell:=⟨oa k d c.at',c.vals⟩
theorem Ad : ∀ {k : Nat} {d : Int} {x y : List Int},k < x.length→x.length = y.length→bn (oa k d x) (oa k d y) = bn x y
 | _,d,[],_,h,_=>by simp at h
 | _,d,_::_,[],_,h=>by simp at h
 | 0,d,a::x,b::y,_,_=>by
   show bn ((a + d)::x) ((b + d)::y) = _
   simp only [bn]
   by_cases h1 : a < b
   ·rw [if_pos h1,if_pos (by omega)]
   ·rw [if_neg h1,if_neg (by omega)]
    by_cases h2 : b < a
    ·rw [if_pos h2,if_pos (by omega)]
    ·rw [if_neg h2,if_neg (by omega)]
 | k + 1,d,a::x,b::y,h,h'=>by
   have ih:=Ad (k:=k) (d:=d) (x:=x) (y:=y) (by simpa using h) (by simpa using h')
   show bn (a::oa k d x) (b::oa k d y) = _
   simp only [bn,ih]
theorem Cv{k : Nat}{d : Int}{x : List Int} : (oa k d x).length = x.length:=by simp [oa]
theorem Mh{k : Nat}{d : Int}{x : List Int}{i : Nat}(h : i < x.length) : at_ (oa k d x) i = if i = k then at_ x k + d else at_ x i:=Ae h
def Mi(d : Dim)(b : Int×Int) : Dim:=⟨d.name,max d.lo b.1,min d.hi b.2⟩
def pU(ds : List Dim)(lo hi : List Int) : List Dim:=ds.zipWith Mi (lo.zip hi)
def okD(d : Dim) : Bool:=!decide (hJ d.hi < d.lo)
def Mj(a : Arr)(lo hi : List Int) : Option Arr×Int :=
 if bI a.dims a.attrs a.cells≠0 then (none,2)
 else if (lo.length : Int)≠a.dims.length∨(hi.length : Int)≠a.dims.length then (none,13)
 else if !(pU a.dims lo hi).all okD then (none,3)
 else jx (pU a.dims lo hi) a.attrs (a.cells.filter fun c=>eA (pU a.dims lo hi) c.at')
def byF(a b : Arr)(k : Nat) : Int:=(at_ a.dims k).hi - (at_ b.dims k).lo + 1
def mY(a b : Arr)(k : Nat) : Dim:=⟨(at_ b.dims k).name,(at_ a.dims k).lo,(at_ b.dims k).hi + byF a b k⟩
structure Cat (a b : Arr) (name : List UInt8) (k : Nat) : Prop where
 oka : OkA a.dims a.attrs a.cells
 okb : OkA b.dims b.attrs b.cells
 hk : k < a.dims.length
 nm : (at_ a.dims k).name = name
 bef : ∀ i,i < k→(at_ a.dims i).name≠name
 len : a.dims.length = b.dims.length
 nms : ∀ i,i < a.dims.length→(at_ a.dims i).name = (at_ b.dims i).name
 oth : ∀ i,i < a.dims.length→i≠k→at_ a.dims i = at_ b.dims i
 ha : (at_ a.dims k).hi≤1073741824
 hb : (at_ b.dims k).hi≤1073741824
 att : a.attrs = b.attrs
 hc : (mY a b k).hi≤1073741824
section
variable {a b : Arr} {name : List UInt8} {k : Nat}
def gj(a b : Arr)(k : Nat) : Arr:=⟨a.dims.set k (mY a b k),a.attrs,bz (a.cells ++ b.cells.map (lO k (byF a b k)))⟩
theorem lk{h : Int}(hh : h≤1073741824) : hJ h = h:=by unfold hJ; omega
theorem Cat.bounds(h : Cat a b name k) : (at_ a.dims k).lo≤(at_ a.dims k).hi∧(at_ b.dims k).lo≤(at_ b.dims k).hi∧-1073741824≤(at_ a.dims k).lo∧-1073741824≤(at_ b.dims k).lo:=by
 have h1:=(h.oka.dims.2.2.1 k h.hk).1
 have h2:=(h.okb.dims.2.2.1 k (by rw [← h.len]; exact h.hk)).1
 omega
theorem Cat.acell(h : Cat a b name k){c : Cell}(hc : c∈a.cells) : c.at'.length = a.dims.length∧c.vals.length = a.attrs.length∧jY a.attrs c.vals = 0∧∀ i,i < a.dims.length→(at_ a.dims i).lo≤at_ c.at' i∧at_ c.at' i≤hJ (at_ a.dims i).hi:=by
 obtain ⟨h1,h2,h3,h4⟩:=cellF_ok.1 (h.oka.cel c hc)
 exact ⟨h1,h2,h4,(dG h1).1 h3⟩
theorem Cat.bcell(h : Cat a b name k){c : Cell}(hc : c∈b.cells) : c.at'.length = a.dims.length∧c.vals.length = a.attrs.length∧jY a.attrs c.vals = 0∧∀ i,i < a.dims.length→(at_ b.dims i).lo≤at_ c.at' i∧at_ c.at' i≤hJ (at_ b.dims i).hi:=by
 obtain ⟨h1,h2,h3,h4⟩:=cellF_ok.1 (h.okb.cel c hc)
 rw [h.att,h.len]
 exact ⟨h1,h2,h4,(dG h1).1 h3⟩
theorem Cat.moved(h : Cat a b name k){c : Cell}(hc : c∈b.cells){i : Nat}(hi : i < a.dims.length) : at_ (lO k (byF a b k) c).at' i = if i = k then at_ c.at' k + byF a b k else at_ c.at' i :=
 Mh (by rw [(h.bcell hc).1]; exact hi)
theorem Cat.far(h : Cat a b name k){c : Cell}(hc : c∈b.cells) : (at_ a.dims k).hi + 1≤at_ (lO k (byF a b k) c).at' k∧at_ (lO k (byF a b k) c).at' k≤(mY a b k).hi:=by
 rw [h.moved hc h.hk,if_pos rfl]
 have h1:=(h.bcell hc).2.2.2 k h.hk
 rw [lk h.hb] at h1
 unfold byF mY byF at *
 dsimp only
 omega
theorem Cat.near(h : Cat a b name k){c : Cell}(hc : c∈a.cells) : at_ c.at' k≤(at_ a.dims k).hi:=by
 have h1:=(h.acell hc).2.2.2 k h.hk
 rw [lk h.ha] at h1
 exact h1.2
theorem Cat.bsrt(h : Cat a b name k) : (b.cells.map (lO k (byF a b k))).Pairwise ltC:=by
 rw [List.pairwise_map]
 refine List.Pairwise.imp_of_mem (fun {x y} hx hy hxy=>?_) h.okb.srt
 have h1:=(h.bcell hx).1
 have h2:=(h.bcell hy).1
 unfold ltC at hxy ⊢
 show bn (oa k _ x.at') (oa k _ y.at') < 0
 rw [Ad (by rw [h1]; exact h.hk) (by rw [h1,h2])]
 exact hxy
theorem Cat.diff(h : Cat a b name k) : (a.cells ++ b.cells.map (lO k (byF a b k))).Pairwise bZ:=by
 refine List.pairwise_append.2 ⟨cu h.oka.srt,cu h.bsrt,fun x hx y hy e=>?_⟩
 obtain ⟨c,hc,rfl⟩:=List.mem_map.1 hy
 have h1:=h.near hx
 have h2:=(h.far hc).1
 rw [e] at h1
 omega
theorem Cat.cdim(h : Cat a b name k){i : Nat}(hi : i < a.dims.length) : at_ (gj a b k).dims i = if i = k then mY a b k else at_ a.dims i:=Ae hi
theorem xz : ∀ {ds : List Dim} {met : List (List UInt8)},(∀ d∈ds,eT d.lo d.hi = true∧bP d.name = true∧d.name ∉ met)→(ds.map Dim.name).Nodup→gg met ds = 0
 | [],met,_,_=>rfl
 | d::r,met,h,hn=>by
   obtain ⟨h1,h2,h3⟩:=h d List.mem_cons_self
   rw [List.map_cons,List.nodup_cons] at hn
   simp only [gg,h1,h2]
   rw [if_neg (by simp [h3]),if_neg (by simp)]
   refine xz (fun x hx=>?_) hn.2
   obtain ⟨j1,j2,j3⟩:=h x (List.mem_cons_of_mem _ hx)
   refine ⟨j1,j2,fun hm=>?_⟩
   rcases List.mem_append.1 hm with hm | hm
   ·exact j3 hm
   ·have e : x.name = d.name:=by simpa using hm
    exact hn.1 (List.mem_map.2 ⟨x,hx,e⟩)
theorem uM{ds : List Dim}{ats : List Attr}(h1 : 1≤ds.length)(h2 : ds.length≤4)(h3 : ∀ d∈ds,eT d.lo d.hi = true∧bP d.name = true)(h4 : (ds.map Dim.name).Nodup)(h5 : 1≤ats.length)(h6 : ats.length≤6)(h7 : fu (ds.map Dim.name) ats = 0) : c9 ds ats = 0:=by
 have hd : dB ds = 0:=by
  unfold dB
  rw [if_neg (by omega)]
  exact xz (fun d hd=>⟨(h3 d hd).1,(h3 d hd).2,by simp⟩) h4
 unfold c9
 rw [if_neg (by simp [hd]),if_neg (by omega)]
 exact h7
theorem Cat.cnames(h : Cat a b name k) : (gj a b k).dims.map Dim.name = a.dims.map Dim.name:=by
 refine lM (by simp [gj]) fun i hi=>?_
 have hi' : i < a.dims.length:=by simpa [gj] using hi
 rw [eV (by simpa [gj] using hi),eV hi',h.cdim hi']
 split
 ·rename_i e; subst e; exact (h.nms i hi').symm
 ·rfl
theorem Cat.okc(h : Cat a b name k)(hl : a.cells.length + b.cells.length≤4096) : OkA (gj a b k).dims (gj a b k).attrs (gj a b k).cells:=by
 obtain ⟨d1,d2,d3,d4⟩:=h.oka.dims
 obtain ⟨s1,s2,s3,s4⟩:=cH h.oka.sch
 have hcl : (gj a b k).dims.length = a.dims.length:=by simp [gj]
 have hbn:=h.bounds
 refine ⟨uM (by omega) (by omega) (fun d hd=>?_) (by rw [h.cnames]; exact d4) s2 s3 (by rw [h.cnames]; exact s4),?_,ek h.diff,fun c hc=>?_⟩
 ·obtain ⟨i,hi,rfl⟩:=jE hd
  rw [hcl] at hi
  have hh:=h.hc
  obtain ⟨e1,e2⟩:=d3 i hi
  rw [h.cdim hi]
  split
  ·rename_i e; subst e
   refine ⟨boundsF_ok.2 ?_,?_⟩
   ·unfold mY byF at *; dsimp only at *; omega
   ·show bP (at_ b.dims i).name = true
    rw [← h.nms i hi]; exact e2
  ·exact ⟨boundsF_ok.2 e1,e2⟩
 ·show (bz _).length≤4096
  rw [ij,List.length_append,List.length_map]; exact hl
 ·have hc':=(cU _).mem_iff.1 hc
  rcases List.mem_append.1 hc' with hc' | hc'
  ·obtain ⟨e1,e2,e3,e4⟩:=h.acell hc'
   refine cellF_ok.2 ⟨by rw [hcl]; exact e1,e2,(dG (by rw [hcl]; exact e1)).2 fun i hi=>?_,e3⟩
   rw [hcl] at hi
   rw [h.cdim hi]
   have e5:=e4 i hi
   split
   ·rename_i e; subst e
    rw [lk h.ha] at e5
    rw [lk h.hc]
    unfold mY byF; dsimp only; omega
   ·exact e5
  ·obtain ⟨c0,hc0,rfl⟩:=List.mem_map.1 hc'
   obtain ⟨e1,e2,e3,e4⟩:=h.bcell hc0
   have hlen : (lO k (byF a b k) c0).at'.length = a.dims.length:=by rw [← e1]; exact Cv
   refine cellF_ok.2 ⟨by rw [hcl]; exact hlen,e2,(dG (by rw [hcl]; exact hlen)).2 fun i hi=>?_,e3⟩
   rw [hcl] at hi
   rw [h.cdim hi]
   split
   ·rename_i e; subst e
    have hf:=h.far hc0
    rw [lk h.hc]
    refine ⟨?_,hf.2⟩
    show (at_ a.dims i).lo≤_
    omega
   ·rename_i e
    rw [h.moved hc0 hi,if_neg e,h.oth i hi e]
    exact e4 i hi
theorem Cat.first(h : Cat a b name k)(hl : a.cells.length + b.cells.length≤4096)(h2 : a.cells.length≤4096) :
  Mj (gj a b k) ((gj a b k).dims.map Dim.lo) (((gj a b k).dims.map Dim.hi).set k (at_ a.dims k).hi) = (some a,0):=by
 have hcl : (gj a b k).dims.length = a.dims.length:=by simp [gj]
 obtain ⟨d1,d2,d3,d4⟩:=h.oka.dims
 have hbn:=h.bounds
 have hcut : pU (gj a b k).dims ((gj a b k).dims.map Dim.lo) (((gj a b k).dims.map Dim.hi).set k (at_ a.dims k).hi) = a.dims:=by
  refine lM (by simp [pU,hcl]) fun i hi=>?_
  have hi' : i < a.dims.length:=by simp [pU,hcl] at hi; exact hi
  have hi2 : i < (gj a b k).dims.length:=by rw [hcl]; exact hi'
  unfold pU
  rw [zU hi2 (by simp [hcl,hi']),List.zip,zU (by simp [hcl,hi']) (by simp [hcl,hi']),eV hi2,Ae (by simp [hcl,hi']),eV hi2,h.cdim hi']
  unfold Mi
  by_cases e : i = k
  ·subst e
   rw [if_pos rfl,if_pos rfl]
   refine Dim.ext ?_ ?_ ?_
   ·exact (h.nms i hi').symm
   ·show max (at_ a.dims i).lo (at_ a.dims i).lo = _; omega
   ·show min ((at_ b.dims i).hi + byF a b i) (at_ a.dims i).hi = _; unfold byF; omega
  ·rw [if_neg e,if_neg e]
   refine Dim.ext rfl ?_ ?_
   ·show max _ _ = _; omega
   ·show min _ _ = _; omega
 unfold Mj
 rw [if_neg (by rw [FG (h.okc hl)]; simp),if_neg (by simp),hcut,if_neg ?_]
 ·have hf : (gj a b k).cells.filter (fun c=>eA a.dims c.at') = a.cells:=by
   refine zB _ h.diff h.oka.srt ?_
   rw [List.filter_append,List.filter_eq_self.2 fun c hc=>(dG (h.acell hc).1).2 (h.acell hc).2.2.2,List.filter_eq_nil_iff.2,List.append_nil]
   ·intro c hc hw
    obtain ⟨c0,hc0,rfl⟩:=List.mem_map.1 hc
    have hlen : (lO k (byF a b k) c0).at'.length = a.dims.length:=by rw [← (h.bcell hc0).1]; exact Cv
    have h3:=(dG hlen).1 hw k h.hk
    have h4:=(h.far hc0).1
    rw [lk h.ha] at h3
    omega
  rw [hf]
  unfold jx
  rw [if_neg (by omega),pr h.oka.srt]
  rfl
 ·simp only [Bool.not_eq_true',Bool.not_eq_false,List.all_eq_true,okD,decide_eq_false_iff_not]
  intro d hd
  obtain ⟨i,hi,rfl⟩:=jE hd
  have:=(d3 i hi).1
  unfold hJ; omega
end
end Go.Proofs.YtpejdgkaapnekaaGreat
namespace Go.Proofs.YtpejdgkaapnekaaGreat
open Go Go.Abs
def pQ(d e : Dim) : Dim:=⟨d.name,min d.lo e.lo,max d.hi e.hi⟩
def fB(a b : List Dim) : List Dim:=a.zipWith pQ b
def zT(l : List Cell)(c : Cell) : Bool:=!(l.any fun x=>x.at' == c.at')
def pR(a b : Arr) : Arr:=⟨fB a.dims b.dims,a.attrs,bz (a.cells ++ b.cells.filter (zT a.cells))⟩
def HQ(l : List Cell)(t : List Int) : Prop:=∃ y∈l,y.at' = t
theorem newC_iff{l : List Cell}{c : Cell} : zT l c = true↔¬ HQ l c.at':=by
 simp [zT,HQ]
structure Mrg (a b : Arr) : Prop where
 oka : OkA a.dims a.attrs a.cells
 okb : OkA b.dims b.attrs b.cells
 names : a.dims.map Dim.name = b.dims.map Dim.name
 attrs : a.attrs = b.attrs
section
variable {a b c : Arr}
theorem gB(h : Mrg a b) : (fB a.dims b.dims).length = a.dims.length:=by
 have : a.dims.length = b.dims.length:=by simpa using congrArg List.length h.names
 simp [fB]; omega
theorem Mrg.len(h : Mrg a b) : a.dims.length = b.dims.length:=by simpa using congrArg List.length h.names
theorem wc(h : Mrg a b){i : Nat}(hi : i < a.dims.length) : at_ (fB a.dims b.dims) i = pQ (at_ a.dims i) (at_ b.dims i):=zU hi (by rw [← h.len]; exact hi)
theorem mh(h : Mrg a b) : (fB a.dims b.dims).map Dim.name = a.dims.map Dim.name:=by
 refine lM (by simp [gB h]) fun i hi=>?_
 have hi' : i < a.dims.length:=by simpa [gB h] using hi
 rw [eV (by rw [gB h]; exact hi'),eV hi',wc h hi']
 rfl
theorem mrg_mem{x : Cell} : x∈(pR a b).cells↔x∈a.cells∨(x∈b.cells∧¬ HQ a.cells x.at'):=by
 show x∈bz _↔_
 rw [(cU _).mem_iff,List.mem_append,List.mem_filter,newC_iff]
theorem HR(h : Mrg a b) : (a.cells ++ b.cells.filter (zT a.cells)).Pairwise bZ:=by
 refine List.pairwise_append.2 ⟨cu h.oka.srt,(cu h.okb.srt).filter _,fun x hx y hy e=>?_⟩
 exact newC_iff.1 (List.mem_filter.1 hy).2 ⟨x,hx,e⟩
theorem DM(h : Mrg a b) : (pR a b).cells.Pairwise ltC:=ek (HR h)
theorem B6 : (pR a b).cells.length≤a.cells.length + b.cells.length:=by
 show (bz _).length≤_
 rw [ij,List.length_append]
 have:=List.length_filter_le (zT a.cells) b.cells
 omega
theorem xv(h : Mrg a b){x : Cell}{ds : List Dim}(hl : ds.length = a.dims.length)(hx : dn ds a.attrs x.at' x.vals = 0)
  (hd : ∀ i,i < a.dims.length→(pQ (at_ a.dims i) (at_ b.dims i)).lo≤(at_ ds i).lo∧(at_ ds i).hi≤(pQ (at_ a.dims i) (at_ b.dims i)).hi) : dn (fB a.dims b.dims) a.attrs x.at' x.vals = 0:=by
 obtain ⟨h1,h2,h3,h4⟩:=cellF_ok.1 hx
 refine cellF_ok.2 ⟨by rw [gB h]; omega,h2,?_,h4⟩
 rw [dG h1] at h3
 rw [dG (by rw [gB h]; omega)]
 intro i hi
 rw [gB h] at hi
 rw [wc h hi]
 have e1:=h3 i (by omega)
 have e2:=hd i hi
 unfold hJ at *
 omega
theorem FW(h : Mrg a b)(hn : (pR a b).cells.length≤4096) : OkA (pR a b).dims (pR a b).attrs (pR a b).cells:=by
 obtain ⟨a1,a2,a3,a4⟩:=h.oka.dims
 obtain ⟨b1,b2,b3,b4⟩:=h.okb.dims
 have hs:=cH h.oka.sch
 refine ⟨?_,hn,DM h,fun x hx=>?_⟩
 ·refine uM (by show _≤(fB _ _).length; rw [gB h]; exact a1) (by show (fB _ _).length≤_; rw [gB h]; exact a2) (fun d hd=>?_) (by show ((fB _ _).map _).Nodup; rw [mh h]; exact a4) hs.2.1 hs.2.2.1 (by show fu ((fB _ _).map _) _ = 0; rw [mh h]; exact hs.2.2.2)
  obtain ⟨i,hi,rfl⟩:=jE hd
  have hi' : i < a.dims.length:=by rw [← gB h]; exact hi
  show eT (at_ (fB a.dims b.dims) i).lo (at_ (fB a.dims b.dims) i).hi = true∧bP (at_ (fB a.dims b.dims) i).name = true
  rw [wc h hi']
  obtain ⟨e1,e2⟩:=a3 i hi'
  obtain ⟨e3,_⟩:=b3 i (by rw [← h.len]; exact hi')
  refine ⟨boundsF_ok.2 ?_,e2⟩
  simp only [pQ]
  omega
 ·show dn (fB a.dims b.dims) a.attrs _ _ = 0
  rcases mrg_mem.1 hx with hx | ⟨hx,_⟩
  ·exact xv h rfl (h.oka.cel x hx) fun i hi=>by simp only [pQ]; omega
  ·refine xv h h.len.symm (by rw [h.attrs]; exact h.okb.cel x hx) fun i hi=>by simp only [pQ]; omega
theorem Mrg.symm(h : Mrg a b) : Mrg b a:=⟨h.okb,h.oka,h.names.symm,h.attrs.symm⟩
theorem Mrg.left(h : Mrg a b)(h' : Mrg b c)(hn : a.cells.length + b.cells.length≤4096) : Mrg (pR a b) c :=
 ⟨FW h (Nat.le_trans B6 hn),h'.okb,(mh h).trans (h.names.trans h'.names),h.attrs.trans h'.attrs⟩
theorem Mrg.right(h : Mrg a b)(h' : Mrg b c)(hn : b.cells.length + c.cells.length≤4096) : Mrg a (pR b c) :=
 ⟨h.oka,FW h' (Nat.le_trans B6 hn),h.names.trans (mh h').symm,h.attrs⟩
theorem Arr.ext{x y : Arr}(h1 : x.dims = y.dims)(h2 : x.attrs = y.attrs)(h3 : x.cells = y.cells) : x = y:=by cases x; cases y; simp_all
end
end Go.Proofs.YtpejdgkaapnekaaGreat
namespace Go.Proofs.YtpejdgkaapnekaaGreat
open Go Go.Abs
def tP(d : Dim) : Int:=d.hi - d.lo + 1
def IU : Int→List Dim→Int×Int
 | n,[]=>(n,0)
 | n,d::r=>if (4611686018427387904 : Int) / tP d < n then (0,14) else IU (n * tP d) r
def Qy(ds : List Dim) : Int×Int:=if dB ds≠0 then (0,dB ds) else if ds.any (fun d=>d.hi == 1073741825) then (0,3) else IU 1 ds
def r9 : List Dim→Int
 | []=>1
 | d::r=>tP d * r9 r
theorem Cw{d : Dim}(h : eT d.lo d.hi = true) : 0 < tP d:=by
 have:=boundsF_ok.1 h
 unfold tP; omega
structure Resh (a : Arr) (es : List Dim) : Prop where
 oka : OkA a.dims a.attrs a.cells
 sch : c9 es a.attrs = 0
 fin : ∀ i,i < a.dims.length→(at_ a.dims i).hi≤1073741824
 fin' : ∀ i,i < es.length→(at_ es i).hi≤1073741824
 same : r9 a.dims = r9 es
section
variable {a : Arr} {es : List Dim}
theorem Resh.ext(h : Resh a es) : (∀ d∈a.dims,0 < tP d)∧∀ d∈es,0 < tP d :=
 ⟨fun d hd=>Cw ((tD (cH h.oka.sch).1).2.2.1 d hd).1,fun d hd=>Cw ((tD (cH h.sch).1).2.2.1 d hd).1⟩
theorem Resh.cell(h : Resh a es){c : Cell}(hc : c∈a.cells) : c.at'.length = a.dims.length∧∀ i,i < a.dims.length→(at_ a.dims i).lo≤at_ c.at' i∧at_ c.at' i≤(at_ a.dims i).hi:=by
 obtain ⟨h1,h2,h3,h4⟩:=cellF_ok.1 (h.oka.cel c hc)
 rw [dG h1] at h3
 refine ⟨h1,fun i hi=>?_⟩
 have:=h3 i hi
 unfold hJ at this
 omega
end
end Go.Proofs.YtpejdgkaapnekaaGreat
namespace Go.Proofs.YtpejdgkaapnekaaGreat
open Go Go.Abs
def atX(ats : List Attr)(name : List UInt8) : Int:=aL (fun a : Attr=>a.name == name) ats 0
end Go.Proofs.YtpejdgkaapnekaaGreat
namespace Go.Proofs.YtpejdgkaapnekaaGreat
open Go Go.Abs
theorem kp{α : Type}{p : α→Bool} : ∀ {l : List α} {j : Nat},aL p l j < 0→∀ x∈l,p x = false
 | [],_,_,_,h=>by simp at h
 | x::l,j,h,y,hy=>by
   simp only [aL] at h
   split at h
   ·omega
   ·rename_i h1
    rcases List.mem_cons.1 hy with rfl | hy
    ·simpa using h1
    ·exact kp h y hy
section
variable {src kept : List (Int×Bool)} {ds : List Dim} {rule : Int}
end
theorem Attr.ext{a b : Attr}(h1 : a.name = b.name)(h2 : a.type = b.type) : a = b:=by cases a; cases b; simp_all
end Go.Proofs.YtpejdgkaapnekaaGreat
namespace Go.Proofs.YtpejdgkaapnekaaGreat
open Go Go.Abs
def bF{α : Type}[Inhabited α](l : List α)(ks : List Int) : List α:=ks.map fun k=>at_ l k.toNat
def NU(ks : List Int)(c : Cell) : Cell:=⟨bF c.at' ks,c.vals⟩
theorem uz : ∀ {m : Nat} {l : List Nat},l.Nodup→(∀ x∈l,x < m)→l.length≤m
 | 0,l,_,h=>by
   cases l with
   | nil=>simp
   | cons x r=>exact absurd (h x List.mem_cons_self) (Nat.not_lt_zero _)
 | m + 1,l,hn,h=>by
   by_cases hm : m∈l
   ·have h1:=uz (m:=m) (l:=l.erase m) (hn.erase m) fun x hx=>by
     have h2:=(hn.mem_erase_iff).1 hx
     have:=h x h2.2
     omega
    rw [List.length_erase_of_mem hm] at h1
    omega
   ·have h1:=uz (m:=m) (l:=l) hn fun x hx=>by
     have:=h x hx
     have : x≠m:=fun e=>hm (e ▸ hx)
     omega
    omega
theorem LC{l : List Nat}{n : Nat}(hn : l.Nodup)(hl : l.length = n)(h : ∀ x∈l,x < n){i : Nat}(hi : i < n) : i∈l:=by
 by_cases hm : i∈l
 ·exact hm
 ·have h1:=uz (m:=n) (l:=i::l) (List.nodup_cons.2 ⟨hm,hn⟩) fun x hx=>by
   rcases List.mem_cons.1 hx with rfl | hx
   ·exact hi
   ·exact h x hx
  simp only [List.length_cons] at h1
  omega
structure Tran (a : Arr) (names : List (List UInt8)) : Prop where
 oka : OkA a.dims a.attrs a.cells
 len : names.length = a.dims.length
 all : ∀ n∈names,¬ er a.dims n < 0
 nd : (names.map (er a.dims)).Nodup
def ixs(ds : List Dim)(names : List (List UInt8)) : List Int:=names.map (er ds)
def yx(a : Arr)(names : List (List UInt8)) : Arr:=⟨bF a.dims (ixs a.dims names),a.attrs,bz (a.cells.map (NU (ixs a.dims names)))⟩
theorem oH{α : Type}[Inhabited α]{l : List α}{ks : List Int}{i : Nat}(h : i < ks.length) : at_ (bF l ks) i = at_ l (at_ ks i).toNat:=by
 unfold bF; rw [eV h]
theorem eG{α : Type}[Inhabited α]{l : List α}{ks : List Int} : (bF l ks).length = ks.length:=by simp [bF]
theorem HG{ds : List Dim}(hn : (ds.map Dim.name).Nodup){j : Nat}(hj : j < ds.length){n : List UInt8}(h : (at_ ds j).name = n) : er ds n = (j : Int):=by
 have h0 : ¬ er ds n < 0:=fun hx=>by
  have:=kp hx _ (bT hj)
  simp [h] at this
 obtain ⟨k,h1,h2,h3,_⟩:=rV h0
 have:=HH hn h2 hj (h3.trans h.symm)
 rw [h1,this]
section
variable {a : Arr} {names : List (List UInt8)}
theorem Tran.ix(h : Tran a names){i : Nat}(hi : i < names.length) : ∃ k : Nat,at_ (ixs a.dims names) i = (k : Int)∧k < a.dims.length∧(at_ a.dims k).name = at_ names i:=by
 obtain ⟨k,h1,h2,h3,_⟩:=rV (h.all _ (bT hi))
 exact ⟨k,by unfold ixs; rw [eV hi,h1],h2,h3⟩
theorem lL : (ixs a.dims names).length = names.length:=by simp [ixs]
theorem Tran.nms(h : Tran a names) : (yx a names).dims.map Dim.name = names:=by
 refine lM (by simp [yx,bF,ixs]) fun i hi=>?_
 have hi' : i < names.length:=by simpa [yx,bF,ixs] using hi
 obtain ⟨k,h1,h2,h3⟩:=h.ix hi'
 rw [eV (by show i < (bF _ _).length; rw [eG,lL]; exact hi')]
 show (at_ (bF a.dims (ixs a.dims names)) i).name = _
 rw [oH (by rw [lL]; exact hi'),h1]
 exact h3
theorem Tran.namesNd(h : Tran a names) : names.Nodup:=by
 have:=h.nd
 rw [List.Nodup,List.pairwise_map] at this
 exact this.imp fun hne e=>hne (by rw [e])
theorem Tran.onto(h : Tran a names){i : Nat}(hi : i < a.dims.length) : ∃ j,j < names.length∧at_ (ixs a.dims names) j = (i : Int):=by
 have hlt : ∀ x∈(ixs a.dims names).map Int.toNat,x < a.dims.length:=fun x hx=>by
  obtain ⟨y,hy,rfl⟩:=List.mem_map.1 hx
  obtain ⟨j,hj,rfl⟩:=jE hy
  rw [lL] at hj
  obtain ⟨k,h1,h2,_⟩:=h.ix hj
  rw [h1]; simpa using h2
 have hnd : ((ixs a.dims names).map Int.toNat).Nodup:=by
  rw [List.Nodup,List.pairwise_map]
  refine List.Pairwise.imp_of_mem ?_ h.nd
  intro x y hx hy hne e
  apply hne
  obtain ⟨j,hj,rfl⟩:=jE (l:=ixs a.dims names) hx
  obtain ⟨j',hj',rfl⟩:=jE (l:=ixs a.dims names) hy
  rw [lL] at hj hj'
  obtain ⟨k,h1,_⟩:=h.ix hj
  obtain ⟨k',h1',_⟩:=h.ix hj'
  rw [h1,h1'] at e ⊢
  have e' : k = k':=by simpa using e
  rw [e']
 have:=LC hnd (by rw [List.length_map,lL]; exact h.len) hlt hi
 obtain ⟨y,hy,e⟩:=List.mem_map.1 this
 obtain ⟨j,hj,rfl⟩:=jE hy
 rw [lL] at hj
 obtain ⟨k,h1,_⟩:=h.ix hj
 exact ⟨j,hj,by rw [h1] at e ⊢; simp at e; rw [e]⟩
theorem Tran.cell(h : Tran a names){c : Cell}(hc : c∈a.cells) : c.at'.length = a.dims.length:=(cellF_ok.1 (h.oka.cel c hc)).1
theorem Tran.old(h : Tran a names){i : Nat}(hi : i < a.dims.length) : ∃ j : Nat,j < names.length∧er (yx a names).dims (at_ a.dims i).name = (j : Int)∧at_ (ixs a.dims names) j = (i : Int):=by
 obtain ⟨j,hj,he⟩:=h.onto hi
 refine ⟨j,hj,HG (by rw [h.nms]; exact h.namesNd) (by show j < (bF _ _).length; rw [eG,lL]; exact hj) ?_,he⟩
 show (at_ (bF a.dims (ixs a.dims names)) j).name = _
 rw [oH (by rw [lL]; exact hj),he]
 rfl
end
end Go.Proofs.YtpejdgkaapnekaaGreat
namespace Go.Proofs.YtpejdgkaapnekaaGreat
open Go Go.Abs
def cx(a : Arr)(n : List UInt8) : Bool:=decide (0≤er a.dims n) || decide (0≤atX a.attrs n)
def pB(a : Arr)(n m : List UInt8) : Arr :=
 if 0≤er a.dims n then ⟨a.dims.set (er a.dims n).toNat ⟨m,(at_ a.dims (er a.dims n).toNat).lo,(at_ a.dims (er a.dims n).toNat).hi⟩,a.attrs,a.cells⟩
 else ⟨a.dims,a.attrs.set (atX a.attrs n).toNat ⟨m,(at_ a.attrs (atX a.attrs n).toNat).type⟩,a.cells⟩
def jf(a : Arr)(n m : List UInt8) : Option Arr×Int :=
 if gf a≠0 then (none,2)
 else if !cx a n || !bP m || (!(m == n) && cx a m) then (none,11)
 else (some (pB a n m),0)
theorem attrsGo_iff : ∀ {ats : List Attr} {met : List (List UInt8)},fu met ats = 0↔(∀ x∈ats,bP x.name = true∧x.name ∉ met∧1≤x.type∧x.type≤4)∧(ats.map Attr.name).Nodup
 | [],met=>by simp [fu]
 | x::r,met=>by
   have ih:=attrsGo_iff (ats:=r) (met:=met ++ [x.name])
   simp only [fu]
   constructor
   ·intro h
    split at h
    ·omega
    split at h
    ·omega
    rename_i h1 h2
    obtain ⟨i1,i2⟩:=ih.1 h
    simp only [Bool.or_eq_true,Bool.not_eq_true',not_or,Bool.not_eq_false,Bool.not_eq_true,List.contains_eq_mem,decide_eq_true_eq,decide_eq_false_iff_not] at h1
    refine ⟨fun y hy=>?_,?_⟩
    ·rcases List.mem_cons.1 hy with rfl | hy
     ·exact ⟨h1.1,h1.2,by omega,by omega⟩
     ·obtain ⟨j1,j2,j3,j4⟩:=i1 y hy
      exact ⟨j1,fun hm=>j2 (List.mem_append.2 (.inl hm)),j3,j4⟩
    ·rw [List.map_cons,List.nodup_cons]
     refine ⟨fun hm=>?_,i2⟩
     obtain ⟨y,hy,he⟩:=List.mem_map.1 hm
     exact (i1 y hy).2.1 (by rw [he]; simp)
   ·rintro ⟨h1,h2⟩
    rw [List.map_cons,List.nodup_cons] at h2
    obtain ⟨j1,j2,j3,j4⟩:=h1 x List.mem_cons_self
    rw [if_neg (by simp [j1,j2]),if_neg (by omega)]
    refine ih.2 ⟨fun y hy=>?_,h2.2⟩
    obtain ⟨k1,k2,k3,k4⟩:=h1 y (List.mem_cons_of_mem _ hy)
    refine ⟨k1,fun hm=>?_,k3,k4⟩
    rcases List.mem_append.1 hm with hm | hm
    ·exact k2 hm
    ·exact h2.1 (List.mem_map.2 ⟨y,hy,List.mem_singleton.1 hm⟩)
theorem Fz{ats : List Attr}{n : List UInt8}(h : ¬ atX ats n < 0) : ∃ k : Nat,atX ats n = (k : Int)∧k < ats.length∧(at_ ats k).name = n:=by
 obtain ⟨k,h1,h2,h3,_⟩:=kR h
 exact ⟨k,by unfold atX; rw [h1]; simp,h2,by simpa using h3⟩
theorem dimX_mem{ds : List Dim}{n : List UInt8} : 0≤er ds n↔n∈ds.map Dim.name:=by
 constructor
 ·intro h
  obtain ⟨k,_,h2,h3,_⟩:=rV (ds:=ds) (name:=n) (by omega)
  exact List.mem_map.2 ⟨_,bT h2,h3⟩
 ·intro h
  obtain ⟨d,hd,rfl⟩:=List.mem_map.1 h
  by_cases h0 : er ds d.name < 0
  ·have:=kp h0 d hd
   simp at this
  ·omega
theorem atX_mem{ats : List Attr}{n : List UInt8} : 0≤atX ats n↔n∈ats.map Attr.name:=by
 constructor
 ·intro h
  obtain ⟨k,_,h2,h3⟩:=Fz (ats:=ats) (n:=n) (by omega)
  exact List.mem_map.2 ⟨_,bT h2,h3⟩
 ·intro h
  obtain ⟨d,hd,rfl⟩:=List.mem_map.1 h
  by_cases h0 : atX ats d.name < 0
  ·have:=kp h0 d hd
   simp at this
  ·omega
theorem hasN_iff{a : Arr}{n : List UInt8} : cx a n = true↔n∈a.dims.map Dim.name∨n∈a.attrs.map Attr.name:=by
 simp only [cx,Bool.or_eq_true,decide_eq_true_eq,dimX_mem,atX_mem]
structure Ren (a : Arr) (n m : List UInt8) : Prop where
 oka : OkA a.dims a.attrs a.cells
 has : n∈a.dims.map Dim.name∨n∈a.attrs.map Attr.name
 nm : bP m = true
 new : m = n∨(m ∉ a.dims.map Dim.name∧m ∉ a.attrs.map Attr.name)
theorem Dv(a : Arr)(n m : List UInt8)(hc : gf a = 0) : (∃ e,e≠0∧jf a n m = (none,e))∨(Ren a n m∧jf a n m = (some (pB a n m),0)):=by
 unfold jf
 rw [if_neg (by simp [hc])]
 by_cases h : (!cx a n || !bP m || (!(m == n) && cx a m)) = true
 ·rw [if_pos h]; exact .inl ⟨11,by decide,rfl⟩
 ·rw [if_neg h]
  simp only [Bool.or_eq_true,Bool.not_eq_true',Bool.and_eq_true,not_or,Bool.not_eq_false,beq_eq_false_iff_ne,ne_eq,not_and] at h
  refine .inr ⟨⟨okA hc,hasN_iff.1 h.1.1,h.1.2,?_⟩,rfl⟩
  by_cases e : m = n
  ·exact .inl e
  ·have:=h.2 e
   rw [hasN_iff] at this
   exact .inr ⟨fun h=>this (.inl h),fun h=>this (.inr h)⟩
section
variable {a : Arr} {n m : List UInt8}
theorem Ren.nd(h : Ren a n m) : (a.dims.map Dim.name).Nodup∧(a.attrs.map Attr.name).Nodup∧∀ x,x∈a.attrs.map Attr.name→x ∉ a.dims.map Dim.name:=by
 have hs:=attrsGo_iff.1 (cH h.oka.sch).2.2.2
 refine ⟨h.oka.dims.2.2.2,hs.2,fun x hx hd=>?_⟩
 obtain ⟨t,ht,rfl⟩:=List.mem_map.1 hx
 exact (hs.1 t ht).2.1 hd
theorem Ren.which(h : Ren a n m) : (∃ k : Nat,er a.dims n = (k : Int)∧k < a.dims.length∧(at_ a.dims k).name = n∧pB a n m = ⟨a.dims.set k ⟨m,(at_ a.dims k).lo,(at_ a.dims k).hi⟩,a.attrs,a.cells⟩) ∨
  (n ∉ a.dims.map Dim.name∧∃ k : Nat,atX a.attrs n = (k : Int)∧k < a.attrs.length∧(at_ a.attrs k).name = n∧pB a n m = ⟨a.dims,a.attrs.set k ⟨m,(at_ a.attrs k).type⟩,a.cells⟩):=by
 by_cases h0 : 0≤er a.dims n
 ·obtain ⟨k,h1,h2,h3,_⟩:=rV (ds:=a.dims) (name:=n) (by omega)
  refine .inl ⟨k,h1,h2,h3,?_⟩
  unfold pB
  rw [if_pos h0,h1]
  rfl
 ·have hd : n ∉ a.dims.map Dim.name:=fun hh=>h0 (dimX_mem.2 hh)
  have ha:=h.has.resolve_left hd
  have h4:=atX_mem.2 ha
  obtain ⟨k,h1,h2,h3⟩:=Fz (ats:=a.attrs) (n:=n) (by omega)
  refine .inr ⟨hd,k,h1,h2,h3,?_⟩
  unfold pB
  rw [if_neg h0,h1]
  rfl
end
end Go.Proofs.YtpejdgkaapnekaaGreat
