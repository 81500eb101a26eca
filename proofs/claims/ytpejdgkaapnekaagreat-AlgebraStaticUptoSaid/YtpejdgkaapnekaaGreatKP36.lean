import Derived.Test.YtpejdgkaapnekaaGreatKP14
import Derived.Test.YtpejdgkaapnekaaGreatKP19
set_option linter.unusedVariables false
set_option linter.unusedSimpArgs false
set_option maxHeartbeats 1000000
namespace Go.Abs
open Go
variable {P:Program} {V:Env} {T:Tab} {c:Ctx} {st:St} {σ σ':Sig} {φ φ':Pl} {w w':World}
def RowV(σ:Sig)(w:World)(k b:Nat)(xs:List (List D))(q:Nat×Nat):Prop:=ObjRep σ (fun _=>some q) [] w 0 (.row k b xs)
theorem RowV.of{k b id:Nat}{xs:List (List D)}{q:Nat×Nat}{sto:Sto}(h:ObjRep σ φ sto w id (.row k b xs))(hp:φ id=some q):RowV σ w k b xs q:=by
 rcases h with⟨_,h⟩|⟨B,cap,arr,t,vs,h1,h2⟩
 ·rw[hp] at h;cases h
 ·rw[hp] at h1;cases h1
  exact .inr ⟨B,cap,arr,t,vs,rfl,h2⟩
theorem RowV.to{k b id:Nat}{xs:List (List D)}{q:Nat×Nat}{sto:Sto}(h:RowV σ w k b xs q)(hp:φ id=some q):ObjRep σ φ sto w id (.row k b xs):=by
 rcases h with⟨_,h⟩|⟨B,cap,arr,t,vs,h1,h2⟩
 ·cases h
 ·cases h1
  exact .inr ⟨B,cap,arr,t,vs,hp,h2⟩
theorem RowV.sig{k b:Nat}{xs:List (List D)}{q:Nat×Nat}(h:RowV σ w k b xs q):σ q.1=none:=by
 rcases h with⟨_,h⟩|⟨B,cap,arr,t,vs,h1,h2,_,_,_,_,_,_,_,h3⟩
 ·cases h
 ·cases h1;exact h3
theorem RowV.cells{k b:Nat}{xs:List (List D)}{q:Nat×Nat}(h:RowV σ w k b xs q):∃ arr t,w.heap[q.1]?=some (.cells arr t (0,0)):=by
 rcases h with⟨_,h⟩|⟨B,cap,arr,t,vs,h1,h2,_⟩
 ·cases h
 ·cases h1;exact⟨arr,t,h2⟩
theorem RowV.len{k b:Nat}{xs:List (List D)}{q:Nat×Nat}(h:RowV σ w k b xs q):xs.length≤q.2:=by
 rcases h with⟨_,h⟩|⟨B,cap,arr,t,vs,h1,h2,_,h3,_⟩
 ·cases h
 ·cases h1;exact h3
theorem RowV.lt{k b:Nat}{xs:List (List D)}{q:Nat×Nat}(h:RowV σ w k b xs q):q.1<w.heap.size:=by
 obtain⟨_,_,h⟩:=h.cells
 exact (Xm.1 h).1
theorem RowV.keep{k b:Nat}{xs:List (List D)}{q:Nat×Nat}(h:RowV σ w k b xs q)(hl:σ.le σ')(hw:w'.heap[q.1]?=w.heap[q.1]?)(hs:σ' q.1=none):RowV σ' w' k b xs q:=by
 rcases h with⟨_,h⟩|⟨B,cap,arr,t,vs,h1,h2,h3,h4,h5,h6,h7,h8,h9,h10⟩
 ·cases h
 ·cases h1
  exact .inr ⟨B,cap,arr,t,vs,rfl,hw.trans h2,h3,h4,h5,h6,h7,h8,fun i j x d hx hd=>(h9 i j x d hx hd).mono hl,hs⟩
structure Al (Nw:Nat→Prop) (σ:Sig) (φ:Pl) (sto:Sto) (w:World) (k b B:Nat) (hole:Nat→Prop) (ks:List (List Int)) (R:List Int→List (List D)) (bs:Nat→Nat×Nat) (ents:List MapEntry):Prop where
 heap:w.heap[B]?=some (.map ents.toArray ents.length)
 len:ks.length=ents.length
 key:∀ (i:Nat) (x:List Int) (e:MapEntry),ks[i]?=some x→ents[i]?=some e→RepD σ true (fE x) e.key∧e.born=i
 row:∀ (i:Nat) (x:List Int) (e:MapEntry),¬ hole i→ks[i]?=some x→ents[i]?=some e →
  e.val=.slice (some ⟨(bs i).1,0,none⟩) (R x).length (bs i).2∧RowV σ w k b (R x) (bs i)∧Nw (bs i).1∧∀ id o p,look sto id=some o→φ id=some p→p.1≠(bs i).1
 dis:∀ i j,i<ks.length→j<ks.length→i≠j→¬ hole i→¬ hole j→(bs i).1≠(bs j).1
 own:∀ id o p,look sto id=some o→φ id=some p→p.1≠B
 nw:Nw B
variable {Nw hole:Nat→Prop} {k b B:Nat} {ks:List (List Int)} {R:List Int→List (List D)} {bs:Nat→Nat×Nat} {ents:List MapEntry} {sto sto':Sto}
theorem Al.lt(h:Al Nw σ φ sto w k b B hole ks R bs ents):B<w.heap.size:=(Xm.1 h.heap).1
theorem Al.sub(h:Al Nw σ φ sto w k b B hole ks R bs ents)(hs:∀ i e,look sto' i=some e→look sto i=some e):Al Nw σ φ sto' w k b B hole ks R bs ents :=
 ⟨h.heap,h.len,h.key,fun i x e h1 h2 h3=>let ⟨a,b,c,d⟩:=h.row i x e h1 h2 h3;⟨a,b,c,fun id o p ho hp=>d id o p (hs _ _ ho) hp⟩,h.dis,fun id o p ho hp=>h.own id o p (hs _ _ ho) hp,h.nw⟩
theorem Al.keep{n:Nat}{rd:Option Nat}{mk:List Deferred}{st':St}{a':Act}(h:Al Nw σ φ sto w k b B hole ks R bs ents)(h2:Rel ⟨w,σ,φ,MOf φ sto,n,rd,mk⟩ st' a' w' σ' φ') :
  Al Nw σ' φ' st'.sto w' k b B hole ks R bs ents:=by
 have hblk:∀ X,X<w.heap.size→(∀ id o p,look sto id=some o→φ id=some p→p.1≠X)→w'.heap[X]?=w.heap[X]?:=fun X hX hno =>
  h2.fra.block X hX fun ⟨id,e,p,h3,h4,h5⟩=>hno id e p h3 h4 h5
 have hsig:∀ X,X<w.heap.size→(∀ id o p,look sto id=some o→φ id=some p→p.1≠X)→σ X=none→σ' X=none:=fun X hX hno hn=>by
  cases hx:σ' X with
  | none=>rfl
  | some cs =>
    rcases h2.fresh X (by rw[hx];simp) with h3|h3|⟨id,e,p,h3,h4,h5⟩
    ·exact absurd hn h3
    ·simp only at h3;omega
    ·exact absurd h5 (hno id e p h3 h4)
 have hown:∀ X,X<w.heap.size→(∀ id o p,look sto id=some o→φ id=some p→p.1≠X)→∀ id o p,look st'.sto id=some o→φ' id=some p→p.1≠X:=fun X hX hno id o p ho hp=>by
  rcases h2.mine id o p ho hp with h3|⟨id',e,p',h3,h4,h5⟩
  ·simp only at h3;omega
  ·rw[← h5];exact hno id' e p' h3 h4
 refine⟨(hblk B h.lt h.own).trans h.heap,h.len,fun i x e h3 h4=>⟨(h.key i x e h3 h4).1.mono h2.le,(h.key i x e h3 h4).2⟩,fun i x e h3 h4 h5=>?_,h.dis,hown B h.lt h.own,h.nw⟩
 obtain⟨h6,h7,h8,h9⟩:=h.row i x e h3 h4 h5
 exact⟨h6,h7.keep h2.le (hblk _ h7.lt h9) (hsig _ h7.lt h9 h7.sig),h8,hown _ h7.lt h9⟩
theorem yc{vg:Bool}{f:Nat→D}:∀ {ks:List (List Int)} {ents:List MapEntry} {n:Nat},ks.length=ents.length→(∀ (i:Nat) (x:List Int) (e:MapEntry),ks[i]?=some x→ents[i]?=some e→RepD σ true (fE x) e.key∧e.born=n+i) →
  (∀ (i:Nat) (e:MapEntry),ents[i]?=some e→RepD σ vg [f (n+i)] e.val)→RepE σ true vg n (dH f ks n) ents
 | [],[],_,_,_,_=>trivial
 | x::ks,e::ents,n,hl,h1,h2=>by
   have h3:=h1 0 x e rfl rfl
   refine⟨h3.1,h2 0 e rfl,h3.2,yc (by simpa using hl) (fun i x e hx he=>?_) fun i e he=>?_⟩
   ·have:=h1 (i+1) x e (by simpa using hx) (by simpa using he)
    exact⟨this.1,by omega⟩
   ·have:=h2 (i+1) e (by simpa using he)
    rwa [show n+1+i=n+(i+1) by omega]
 | [],_::_,_,hl,_,_=>by simp at hl
 | _::_,[],_,hl,_,_=>by simp at hl
theorem B0{f:Nat→D}{x:List Int}(h4:x.length≤4):∀ {ks:List (List Int)} {n i:Nat},(∀ k∈ks,k.length=x.length)→∀ j,bC x ks n=some j→∃ m,j=n+m∧cO (fE x) (dH f ks n) i=some (i+m,[f j])
 | [],n,i,_,j,h=>by cases h
 | k::r,n,i,h,j,hj=>by
   have e:=rz (h k Xd).symm h4
   have e2:(k==x)=(x==k):=by rw[XR];simp only[beq_iff_eq];exact eq_comm
   simp only[bC,e2] at hj
   simp only[dH,cO,e]
   cases hb:(x==k) with
   | true =>
     rw[hb] at hj
     simp at hj
     subst hj
     exact⟨0,rfl,rfl⟩
   | false =>
     rw[hb] at hj
     obtain⟨m,h5,h6⟩:=B0 (f:=f) h4 (ks:=r) (n:=n+1) (i:=i+1) (fun y hy=>h y (Xa _ hy)) j (by simpa using hj)
     exact⟨m+1,by omega,by simp only[Ye];rw[h6];congr 2;omega⟩
theorem M3{x:List Int}:All2 bU pk (fE x):=jT (ks:=pk) (es:=[(fE x,[])]) rfl _ (X6.2 rfl)
def sN(kv:Value)(n:Nat):MapEntry:={ key:=kv,val:=.slice none 0 0,born:=n }
theorem sO{α:Type}{f:α→α}:∀ {l:List α} {j:Nat} {e:α},l[j]?=some e→l.modify j f=l.set j (f e)
 | [],_,_,h=>by simp at h
 | a::l,0,e,h=>by simp at h;subst h;rfl
 | a::l,j+1,e,h=>by
   have:=sO (f:=f) (l:=l) (j:=j) (e:=e) (by simpa using h)
   simp[List.modify_succ_cons,this]
theorem Ir{α:Type}:∀ {l:List α} {j:Nat} {e:α},l[j]?=some e→l.set j e=l
 | [],_,_,h=>by simp at h
 | a::l,0,e,h=>by simp at h;subst h;rfl
 | a::l,j+1,e,h=>by simp[Ir (l:=l) (j:=j) (e:=e) (by simpa using h)]
theorem mV{x:List Int}:∀ {ks:List (List Int)} {n j:Nat},bC x ks n=some j→n≤j∧ks[j-n]?=some x
 | [],_,_,h=>by cases h
 | y::r,n,j,h=>by
   simp only[bC] at h
   split at h
   ·rename_i hb
    cases h
    exact⟨Xc _,by simp[eq_of_beq hb]⟩
   ·obtain⟨h1,h2⟩:=mV h
    refine⟨by omega,?_⟩
    rw[show j-n=(j-(n+1))+1 by omega]
    simpa using h2
theorem Ag{m:MTy}{t:TypeId}(hM:MOk P t m)(hms:m.ks=pk)(hkg:m.kg=true)(hvg:m.vg=false)(hz:m.z=[.nil])(h:Al Nw σ φ sto w k b B (fun _=>False) ks R bs ents){x:List Int}{kv:Value}(hk:RepD σ true (fE x) kv)(h4:x.length≤4)(hks:∀ y∈ks,y.length=x.length) :
  (∀ j,bC x ks 0=some j→∃ e,ents[j]?=some e∧(Instr.mapEntry t (.map (some B)) kv).run P w=.ok (.tuple #[e.val,goInt j]) { w with heap:=w.heap.setIfInBounds B (.map ents.toArray ents.length) }) ∧
  (bC x ks 0=none→(Instr.mapEntry t (.map (some B)) kv).run P w=.ok (.tuple #[.slice none 0 0,goInt ents.length]) { w with heap:=w.heap.setIfInBounds B (.map (ents++[sN kv ents.length]).toArray (ents++[sN kv ents.length]).length) }):=by
 have hE:RepE σ true false 0 (dH (fun i=>.raw ((ents[i]?.map (·.val)).getD default)) ks 0) ents:=by
  refine yc h.len (fun i x e h1 h2=>?_) fun i e h2=>?_
  ·have:=h.key i x e h1 h2
   exact⟨this.1,by omega⟩
  ·have hi:i<ks.length:=by rw[h.len];exact (W8.1 h2).1
   have h5:=(h.row i _ e (fun h=>h) (Xf hi) h2).1
   rw[Xp,h2]
   exact⟨.raw (by show e.val.oneCell=true;rw[h5];rfl),trivial⟩
 have hf:All2 bU m.ks (fE x):=by rw[hms];exact M3
 have hall:∀ p∈dH (fun i=>D.raw ((ents[i]?.map (·.val)).getD default)) ks 0,All2 bU m.ks p.1:=by rw[hms];exact jT o5
 have hkey:KeyOk P m.kt true m.ks:=by have:=hM.key;rw[hkg] at this;exact this
 have hchk:=fun em=>om hkey hk hf em w
 have hget:=MapKept.run_getObj_map (P:=P) h.heap
 have hset:=fun o=>MapKept.run_setObj_map (P:=P) o h.heap
 obtain⟨iz,zv,hi,hzz,hzr⟩:=hM.zero
 have hzv:zv=.slice none 0 0:=by
  have:=hzr σ
  rw[hvg,hz] at this
  have h6:=this.1
  cases h6;rfl
 have hrun:=pD hkey hk hf w hE hall
 have hW:=yd (f:=fun i=>D.raw ((ents[i]?.map (·.val)).getD default)) h4 (ks:=ks) (n:=0) (i:=0) hks
 constructor
 ·intro j hj
  obtain⟨mm,hm1,hm2⟩:=B0 (f:=fun i=>D.raw ((ents[i]?.map (·.val)).getD default)) h4 (n:=0) (i:=0) hks j hj
  rcases hrun with⟨h1,_⟩|⟨j',e,vd,h1,h2,h3,h5⟩
  ·rw[hm2] at h1;cases h1
  rw[hm2] at h1
  simp only[W5,XJ] at h1
  have hjj:j'=j:=by omega
  subst hjj
  refine⟨e,h3,?_⟩
  have hx:ks[j']?=some x:=(mV hj).2
  have hkk:=h.key j' x e hx h3
  have hsame:e.key=kv:=EB hf hf hkk.1 hk (by rw[rz rfl h4];simp)
  have hstay:(Instr.keyThatStays kv kv).run P w=.ok kv w:=by
   unfold Instr.keyThatStays
   simp[rW hf hk]
  have hmod:ents.toArray.modify j' (fun e=>{ e with key:=kv })=ents.toArray:=by
   apply Array.ext'
   rw[Array.toList_modify,List.toList_toArray,sO h3]
   have:({ e with key:=kv }:MapEntry)=e:=by rw[← hsame]
   show ents.set j' { e with key:=kv }=ents
   rw[this]
   exact Ir h3
  have hold:((ents[j']?.map (·.key)).getD kv)=kv:=by rw[h3];simp[hsame]
  simp only[Instr.mapEntry,Xl,Ym hM.und,Xb,hget,Xt,hchk,h2,List.getElem?_toArray,hold,hstay,hset,hmod]
  have hborn2:((ents[j']?.map fun e=>((e.born:Nat):Int)).getD 0)=(j':Int):=by rw[h3];simp[hkk.2]
  rw[hborn2]
 ·intro hn
  have h0:=hW.1 hn
  rcases hrun with⟨_,h2⟩|⟨j',e,vd,h1,_⟩
  ·simp only[Instr.mapEntry,Xl,Ym hM.und,Xb,hget,Xt,hchk,h2,eQ hi hzz,hset,hzv,List.push_toArray,W9,List.length_singleton,sN]
  ·rw[h0] at h1;cases h1
theorem sP:∀ {ents:List MapEntry} {n j:Nat},(∀ (i:Nat) (e:MapEntry),ents[i]?=some e→e.born=n+i)→j<ents.length→ents.findIdx? (fun e=>((e.born:Nat):Int)==((n+j:Nat):Int))=some j
 | [],n,j,_,h=>by simp at h
 | e::r,n,0,h,_=>by
   have:=h 0 e rfl
   simp[List.findIdx?_cons,this]
 | e::r,n,j+1,h,hl=>by
   have h0:=h 0 e rfl
   have hb:(((e.born:Nat):Int)==((n+(j+1):Nat):Int))=false:=by
    simp only[Yk,ne_eq,Int.natCast_inj];omega
   have ih:=sP (ents:=r) (n:=n+1) (j:=j) (fun i e he=>by have:=h (i+1) e (by simpa using he);omega) (by simpa using hl)
   rw[List.findIdx?_cons,hb,show n+(j+1)=n+1+j by omega,ih]
   rfl
theorem wO{t:TypeId}{v:Value}{j:Nat}{e:MapEntry}(hh:w.heap[B]?=some (.map ents.toArray ents.length))(hb:∀ (i:Nat) (e:MapEntry),ents[i]?=some e→e.born=i)(he:ents[j]?=some e) :
  (Instr.entryStore t (.map (some B)) (goInt j) v).run P w=.ok () { w with heap:=w.heap.setIfInBounds B (.map (ents.set j { e with val:=v }).toArray (ents.set j { e with val:=v }).length) }:=by
 have hi:ents.toArray.findIdx? (fun e=>((e.born:Nat):Int)==((j:Nat):Int))=some j:=by
  have:=sP (ents:=ents) (n:=0) (j:=j) (fun i e he=>by rw[Xp];exact hb i e he) (W8.1 he).1
  rw[Xp] at this
  simpa using this
 have hm:ents.toArray.modify j (fun e=>{ e with val:=v })=(ents.set j { e with val:=v }).toArray:=by
  apply Array.ext'
  rw[Array.toList_modify,List.toList_toArray,sO he]
 simp[Instr.entryStore,MapKept.run_getObj_map hh,asInt,asIntOf,goInt,hi,hm,MapKept.run_setObj_map _ hh,Result.andThen]
theorem Rel.setMap{st:St}{a:Act}(hr:Rel c st a w σ φ){ob o2:Obj}(hh:w.heap[B]?=some ob)(hnc:∀ cs t f,ob≠.cells cs t f)(hown:∀ id o p,look st.sto id=some o→φ id=some p→p.1≠B)(hn:c.w0.heap.size≤B∨c.M B) :
  Rel c st a { w with heap:=w.heap.setIfInBounds B o2 } σ φ:=by
 refine⟨hr.le,hr.fresh,⟨fun b cs hb=>?_,fun i e hi=>?_,hr.inv.inj⟩,hr.mine,hr.slot,hr.defers,hr.size,⟨hr.fra.os,hr.fra.tape,hr.fra.output,?_,hr.fra.drawn,fun b hb hm=>?_⟩,hr.pin⟩
 ·obtain⟨t,f,h1⟩:=hr.inv.sig b cs hb
  refine⟨t,f,?_⟩
  have hne:B≠b:=by rintro rfl;rw[hh] at h1;cases h1;exact hnc _ _ _ rfl
  simp only[Xu hne];exact h1
 ·exact (hr.inv.obj i e hi).ext (X:=fun _=>False) (Sig.le_refl _) (Ext.refl _ _) (fun j hj=>hj.elim) rfl fun B' cc hB'=>⟨by
   have hne:B≠B':=fun e=>hown i _ _ hi hB' e.symm
   simp only[Xu hne],rfl⟩
 ·simp only[Array.size_setIfInBounds];exact hr.fra.size
 ·have hne:B≠b:=by
   rintro rfl
   rcases hn with h|h
   ·omega
   ·exact hm h
  simp only[Xu hne];exact hr.fra.block b hb hm
theorem Al.setMap{ents2:List MapEntry}{ks2:List (List Int)}{hole2:Nat→Prop}(h:Al Nw σ φ sto w k b B hole ks R bs ents)(hl:ks2.length=ents2.length)
  (hk:∀ (i:Nat) (x:List Int) (e:MapEntry),ks2[i]?=some x→ents2[i]?=some e→RepD σ true (fE x) e.key∧e.born=i)
  (hrow:∀ (i:Nat) (x:List Int) (e:MapEntry),¬ hole2 i→ks2[i]?=some x→ents2[i]?=some e→¬ hole i∧ks[i]?=some x∧ents[i]?=some e) (hdis:∀ i,i<ks2.length→¬ hole2 i→i<ks.length∧¬ hole i) :
  Al Nw σ φ sto { w with heap:=w.heap.setIfInBounds B (.map ents2.toArray ents2.length) } k b B hole2 ks2 R bs ents2:=by
 refine⟨by simp[h.lt],hl,hk,fun i x e h1 h2 h3=>?_,fun i j hi hj hne h1 h2=>h.dis i j (hdis i hi h1).1 (hdis j hj h2).1 hne (hdis i hi h1).2 (hdis j hj h2).2,h.own,h.nw⟩
 obtain⟨h4,h5,h6⟩:=hrow i x e h1 h2 h3
 obtain⟨h7,h8,h9,h10⟩:=h.row i x e h4 h5 h6
 refine⟨h7,h8.keep (Sig.le_refl _) ?_ h8.sig,h9,h10⟩
 have hne:B≠(bs i).1:=by
  intro e
  obtain⟨arr,t,h11⟩:=h8.cells
  rw[← e,h.heap] at h11
  cases h11
 simp only[Xu hne]
theorem Rel.adoptRow{st:St}{a:Act}{id:Nat}{xs:List (List D)}{q:Nat×Nat}(hr:Rel c st a w σ φ)(hv:RowV σ w k b xs q)(hlt:Nat.blt id 1000000=true)(hm1:br id st.fr=false)(hm2:aN id st.sto=false)
  (hown:∀ id o p,look st.sto id=some o→φ id=some p→p.1≠q.1) (hn:c.w0.heap.size≤q.1∨c.M q.1):Rel c ⟨st.fr,(id,.row k b xs)::st.sto⟩ a w σ (cq φ id (some q)):=by
 have hE:Ext (·=id) φ (cq φ id (some q)) st.sto ((id,.row k b xs)::st.sto):=Ext.add
 refine⟨hr.le,hr.fresh,⟨hr.inv.sig,fun i e hi=>?_,fun i i' e e' p p' hi hi' hne hp hp'=>?_⟩,fun i e p hi hp=>?_,fun t v hv=>?_,hr.defers,hr.size,hr.fra,fun i hi=>by
  have:i≠id:=by have:=W6 hlt;omega
  rw[aL this];exact hr.pin i hi⟩
 ·rcases ah hi with⟨rfl,rfl⟩|⟨hne,hi⟩
  ·exact hv.to az
  ·exact (hr.inv.obj _ _ hi).ext (Sig.le_refl _) hE (fun j hj=>by cases hj;exact fG hm2 hi) (aL hne) fun _ _ _=>⟨rfl,rfl⟩
 ·rcases ah hi with⟨rfl,rfl⟩|⟨_,_⟩
  ·rw[az] at hp;cases hp
   rcases ah hi' with⟨rfl,rfl⟩|⟨hn',hi'⟩
   ·exact absurd rfl hne
   ·rw[aL hn'] at hp'
    exact fun e=>hown _ _ _ hi' hp' e.symm
  ·rename_i hn1 hi1
   rcases ah hi' with⟨h3,h4⟩|⟨hn',hi'⟩
   ·subst h3;subst h4
    rw[az] at hp';cases hp'
    rw[aL hn1] at hp
    exact hown _ _ _ hi1 hp
   ·rw[aL hn1] at hp;rw[aL hn'] at hp'
    exact hr.inv.inj _ _ _ _ _ _ hi1 hi' hne hp hp'
 ·rcases ah hi with⟨rfl,rfl⟩|⟨hn',hi⟩
  ·rw[az] at hp;cases hp
   exact hn
  ·rw[aL hn'] at hp
   exact hr.mine _ _ _ hi hp
 ·obtain⟨u,hu,hru⟩:=hr.slot t v hv
  exact⟨u,hu,hru.ext (Sig.le_refl _) hE fun j hj=>by cases hj;exact dP hm1 hv⟩
theorem Rel.sealBlock{st:St}{a:Act}{X:Nat}{arr:Array Value}{t:TypeId}(hr:Rel c st a w σ φ)(hh:w.heap[X]?=some (.cells arr t (0,0)))(hs:σ X=none)(hown:∀ id o p,look st.sto id=some o→φ id=some p→p.1≠X)(hn:c.w0.heap.size≤X∨c.M X) :
  Rel c st a w (eS σ X arr) φ:=by
 have hle:σ.le (eS σ X arr):=kI (.inl hs)
 have hval:∀ b,b≠X→eS σ X arr b=σ b:=fun b hb=>by simp[eS,hb]
 refine⟨Sig.le_trans hr.le hle,fun b hb=>?_,⟨fun b cs hb=>?_,fun i e hi=>?_,hr.inv.inj⟩,hr.mine,fun s v hv=>?_,hr.defers,hr.size,hr.fra,hr.pin⟩
 ·by_cases he:b=X
  ·subst he;exact .inr hn
  ·rw[hval b he] at hb;exact hr.fresh b hb
 ·by_cases he:b=X
  ·subst he
   simp[eS] at hb
   subst hb
   exact⟨t,_,hh⟩
  ·rw[hval b he] at hb;exact hr.inv.sig b cs hb
 ·exact (hr.inv.obj i e hi).ext (X:=fun _=>False) hle (Ext.refl _ _) (fun j hj=>hj.elim) rfl fun B' cc hB'=>⟨rfl,by rw[hval _ (hown i e _ hi hB')]⟩
 ·obtain⟨u,hu,hru⟩:=hr.slot s v hv
  exact⟨u,hu,hru.ext hle (Ext.refl _ _) fun j hj=>hj.elim⟩
theorem lD{F:Fence}{n:Nat}{ops:Array Oper}{Q:Exit→Act→World→Prop}:∀ {l1 l2:List Oper} {a:Act} {w:World},wpListIn F n P ops (Exit.then (fun a w=>wpListIn F n P ops Q l2 a w) (fun _ _ _=>False)) l1 a w→wpListIn F n P ops Q (l1++l2) a w
 | [],l2,a,w,h=>h
 | o::l1,l2,a,w,h=>by
   simp only[wpListIn,XL] at h ⊢
   split
   ·rename_i hw
    rw[if_pos hw] at h
    unfold Oper.wpIn at *
    refine⟨h.1,?_⟩
    have hh:=h.2
    have ih:=fun a w=>lD (l1:=l1) (l2:=l2) (a:=a) (w:=w) (F:=F) (n:=n) (ops:=ops) (Q:=Q)
    generalize (o.semAt F.round a.eval).run P w=r at *
    cases r with
    | ok x w' =>
      cases x<;>simp only[Oper.uponIn] at hh ⊢ <;>
       first
        | exact ih _ _ hh
        | exact⟨hh.1,CallsIn.mono hh.2 (fun e w'' he=>by cases e<;>first|exact ih _ _ he|exact he.elim|exact (he.elim fun _ h=>h.elim fun _ h=>h.elim))⟩
        | exact⟨hh.1,RowsIn.mono hh.2 (fun _ _ he=>ih _ _ he)⟩
        | exact⟨hh.1,RoundIn.mono hh.2 (fun e w'' he=>by cases e<;>first|exact ih _ _ he|exact he.elim|exact (he.elim fun _ h=>h.elim fun _ h=>h.elim))⟩
    | halt x w'=>cases x<;>simp only[Oper.uponIn] at hh ⊢<;>exact hh.elim
   ·rename_i hw
    rw[if_neg hw] at h
    exact⟨h.1,lD h.2⟩
theorem Gg{F:Fence}{kk:Nat}{body:Code}{Q:Exit→Act→World→Prop}{a:Act}(J:Nat→Act→World→Prop)(n0:Nat)(h0:J n0 a w)
  (hround:∀ n a w,J n a w→body.wpIn F kk P (Exit.then (fun a' w'=>∃ m,m<n∧J m a' w') Q) a w):(Code.loop body).wpIn F kk P Q a w:=by
 have hμ:∀ (a:Act) (w:World),∃ m:Nat,∀ n,J n a w→m≤n∧J m a w:=by
  intro a w
  by_cases hex:∃ n,J n a w
  ·obtain⟨n,hn⟩:=hex
   induction n using Nat.strongRecOn with
   | _ n ih =>
     by_cases hs:∃ m,m<n∧J m a w
     ·obtain⟨m,hm,h⟩:=hs
      exact ih m hm h
     ·refine⟨n,fun k hk=>⟨?_,hn⟩⟩
      rcases XM k n with h|h
      ·exact absurd ⟨k,h,hk⟩ hs
      ·exact h
  ·exact⟨0,fun n hn=>absurd ⟨n,hn⟩ hex⟩
 have hμ':=fun a=>Classical.axiomOfChoice (hμ a)
 obtain⟨μ,hμ''⟩:=Classical.axiomOfChoice hμ'
 refine wpIn_loop (fun a w=>∃ n,J n a w) μ ⟨n0,h0⟩ ?_
 rintro a w ⟨n,hn⟩
 obtain⟨hle,hJ⟩:=hμ'' a w n hn
 refine wpIn_mono (hround _ a w hJ) fun e a' w' h=>?_
 cases e with
 | normal =>
   obtain⟨m,hm,hJ'⟩:=h
   have:=hμ'' a' w' m hJ'
   exact⟨⟨m,hJ'⟩,by omega⟩
 | _=>exact h
theorem Al.sealB{st:St}{a:Act}(hr:Rel c st a w σ φ)(h:Al (fun X=>c.w0.heap.size≤X∨c.M X) σ φ st.sto w k b B (fun _=>False) ks R bs ents):∀ m,m≤ks.length →
  ∃ σ',Rel c st a w σ' φ∧σ.le σ'∧(∀ i,m≤i→i<ks.length→σ' (bs i).1=none)∧∀ (i:Nat) (x:List Int) (e:MapEntry),i<m→ks[i]?=some x→ents[i]?=some e→Rep σ' (.sl k b (R x)) e.val
 | 0,_=>⟨σ,hr,Sig.le_refl _,fun i _ hi=>by
   have he:i<ents.length:=by rw[← h.len];exact hi
   exact (h.row i _ _ (fun h=>h) (Xf hi) (Xf he)).2.1.sig,fun i x e hi=>by omega⟩
 | m+1,hm=>by
   obtain⟨σ1,h1,h2,h3,h4⟩:=Al.sealB hr h m (by omega)
   have he:m<ents.length:=by rw[← h.len];omega
   have hx:=Xf (l:=ks) (i:=m) (by omega)
   have hy:=Xf (l:=ents) (i:=m) he
   obtain⟨h5,h6,h7,h8⟩:=h.row m _ _ (fun h=>h) hx hy
   have hs:=h3 m (Xc _) (by omega)
   have h6':=h6
   rcases h6' with⟨_,h6'⟩|⟨X,cap,arr,t,vs,h9,h10,h11,h12,h13,h14,h15,h16,h17,h18⟩
   ·cases h6'
   have hX:bs m=(X,cap):=Option.some.inj h9
   simp only[hX] at h5 h7 h8 hs
   refine⟨eS σ1 X arr,h1.sealBlock h10 hs h8 h7,Sig.le_trans h2 (kI (.inl hs)),fun i hi hi2=>?_,fun i x e hi hxi hei=>?_⟩
   ·have hne:(bs i).1≠X:=by
     have:=h.dis i m hi2 (by omega) (by omega) (fun h=>h) (fun h=>h)
     rw[hX] at this;exact this
    simp only[eS,hne,if_false]
    exact h3 i (by omega) hi2
   ·by_cases him:i=m
    ·subst him
     rw[hx] at hxi;cases hxi
     rw[hy] at hei;cases hei
     rw[h5]
     refine .sl vs h12 h13 h14 h15 (fun _=>⟨X,0,arr,rfl,by simp[eS],fun i j hi hj=>by rw[Xp];exact h16 i j hi hj⟩) fun i j x d hx hd=>(h17 i j x d hx hd).mono (Sig.le_trans h2 (kI (.inl hs)))
    ·exact (h4 i x e (by omega) hxi hei).mono (kI (.inl hs))
theorem Al.close{fr:List (Nat×AV)}{a:Act}{sm mid:Nat}{ks:List (List Int)}(hr:Rel c ⟨(sm,.one (.d (.raw (.map (some B)))))::fr,sto⟩ a w σ φ)(h:Al (fun X=>c.w0.heap.size≤X∨c.M X) σ φ sto w k b B (fun _=>False) ks R bs ents)
  (hlt:Nat.blt mid 1000000=true) (hm1:br mid fr=false) (hm2:aN mid sto=false) :
  ∃ σ' φ',Rel c ⟨(sm,.one (.mapr mid))::fr,(mid,.map true false (dH (fun j=>.sl k b (R (at_ ks j))) ks 0))::sto⟩ a w σ' φ':=by
 obtain⟨σ',h1,h2,_,h4⟩:=h.sealB hr ks.length (Xc _)
 have hE:Ext (·=mid) φ (cq φ mid (some (B,0))) sto ((mid,.map true false (dH (fun j=>.sl k b (R (at_ ks j))) ks 0))::sto):=Ext.add
 have hsB:σ' B=none:=by
  cases hx:σ' B with
  | none=>rfl
  | some cs =>
    obtain⟨t,f,h5⟩:=h1.inv.sig B cs hx
    rw[h.heap] at h5;cases h5
 have hlen:(dH (fun j=>D.sl k b (R (at_ ks j))) ks 0).length=ents.length:=by
  rw[← h.len]
  have:∀ (f:Nat→D) (l:List (List Int)) (n:Nat),(dH f l n).length=l.length:=by
   intro f l
   induction l with
   | nil=>intro n;rfl
   | cons x r ih=>intro n;simp only[dH,Xq,ih]
  exact this _ _ _
 have hobj:ObjRep σ' (cq φ mid (some (B,0))) ((mid,.map true false (dH (fun j=>.sl k b (R (at_ ks j))) ks 0))::sto) w mid (.map true false (dH (fun j=>.sl k b (R (at_ ks j))) ks 0)):=by
  refine⟨B,0,ents,az,by rw[hlen];exact h.heap,yc h.len (fun i x e hx he=>⟨(h.key i x e hx he).1.mono h2,by have:=(h.key i x e hx he).2;omega⟩) fun i e he=>?_,hsB⟩
  have hi:i<ks.length:=by rw[h.len];exact (W8.1 he).1
  rw[Xp]
  exact⟨h4 i _ e hi (ea hi) he,trivial⟩
 refine⟨σ',cq φ mid (some (B,0)),h1.le,h1.fresh,⟨h1.inv.sig,fun i e hi=>?_,fun i i' e e' p p' hi hi' hne hp hp'=>?_⟩,fun i e p hi hp=>?_,fun t v hv=>?_,h1.defers,h1.size,h1.fra,fun i hi=>by
  have:i≠mid:=by have:=W6 hlt;omega
  rw[aL this];exact h1.pin i hi⟩
 ·rcases ah hi with⟨rfl,rfl⟩|⟨hne,hi⟩
  ·exact hobj
  ·exact (h1.inv.obj _ _ hi).ext (Sig.le_refl _) hE (fun j hj=>by cases hj;exact fG hm2 hi) (aL hne) fun _ _ _=>⟨rfl,rfl⟩
 ·rcases ah hi with⟨rfl,rfl⟩|⟨hn1,hi1⟩
  ·rw[az] at hp;cases hp
   rcases ah hi' with⟨rfl,rfl⟩|⟨hn',hi'⟩
   ·exact absurd rfl hne
   ·rw[aL hn'] at hp'
    exact fun e=>h.own _ _ _ hi' hp' e.symm
  ·rcases ah hi' with⟨h3,h5⟩|⟨hn',hi'⟩
   ·subst h3;subst h5
    rw[az] at hp';cases hp'
    rw[aL hn1] at hp
    exact h.own _ _ _ hi1 hp
   ·rw[aL hn1] at hp;rw[aL hn'] at hp'
    exact h1.inv.inj _ _ _ _ _ _ hi1 hi' hne hp hp'
 ·rcases ah hi with⟨rfl,rfl⟩|⟨hn',hi⟩
  ·rw[az] at hp;cases hp
   exact h.nw
  ·rw[aL hn'] at hp
   exact h1.mine _ _ _ hi hp
 ·rcases ah hv with⟨rfl,rfl⟩|⟨hne,hv⟩
  ·obtain⟨u,hu,hru⟩:=h1.slot t (.one (.d (.raw (.map (some B))))) aH
   refine⟨u,hu,?_⟩
   have hru:=RepC.d_inv hru
   cases hru
   exact RepC.mapr aH az
  ·obtain⟨u,hu,hru⟩:=h1.slot t v (by rw[aP hne];exact hv)
   exact⟨u,hu,hru.ext (Sig.le_refl _) hE fun j hj=>by cases hj;exact dP hm1 hv⟩
def kS(pl:Nat→List Int):Nat→List (List Int)
 | 0=>[]
 | k+1=>match bC (pl k) (kS pl k) 0 with
   | some _=>kS pl k
   | none=>kS pl k++[pl k]
def rS(pl:Nat→List Int)(cell:Nat→List D):Nat→List Int→List (List D)
 | 0,_=>[]
 | k+1,x=>if pl k==x then rS pl cell k x++[cell k] else rS pl cell k x
theorem wP{pl:Nat→List Int}:∀ {k:Nat} {x:List Int},x∈kS pl k→∃ i,i<k∧pl i=x
 | 0,x,h=>by simp[kS] at h
 | k+1,x,h=>by
   simp only[kS] at h
   split at h
   ·obtain⟨i,h1,h2⟩:=wP h
    exact⟨i,by omega,h2⟩
   ·rcases XF.1 h with h|h
    ·obtain⟨i,h1,h2⟩:=wP h
     exact⟨i,by omega,h2⟩
    ·simp at h
     exact⟨k,by omega,h.symm⟩
theorem whereK_none{x:List Int}:∀ {ks:List (List Int)} {n:Nat},bC x ks n=none→x ∉ ks
 | [],_,_=>by simp
 | y::r,n,h=>by
   simp only[bC] at h
   split at h
   ·cases h
   ·rename_i hb
    intro hm
    rcases Xo.1 hm with rfl|hm
    ·simp at hb
    ·exact whereK_none h hm
theorem vp{pl:Nat→List Int}:∀ {k:Nat},(kS pl k).Nodup
 | 0=>by simp[kS]
 | k+1=>by
   simp only[kS]
   split
   ·exact vp
   ·rename_i h
    refine List.nodup_append.2 ⟨vp,by simp,fun a ha b hb=>?_⟩
    simp at hb
    subst hb
    rintro rfl
    exact whereK_none h ha
theorem B1{pl:Nat→List Int}:∀ {k:Nat},(kS pl k).length≤k
 | 0=>by simp[kS]
 | k+1=>by
   have:=B1 (pl:=pl) (k:=k)
   simp only[kS]
   split
   ·omega
   ·simp;omega
theorem Is{pl:Nat→List Int}{cell:Nat→List D}{x:List Int}:∀ {k:Nat},(rS pl cell k x).length≤k
 | 0=>by simp[rS]
 | k+1=>by
   have:=Is (pl:=pl) (cell:=cell) (x:=x) (k:=k)
   simp only[rS]
   split
   ·simp;omega
   ·omega
theorem B2{pl:Nat→List Int}{cell:Nat→List D}{x:List Int}:∀ {k:Nat},x ∉ kS pl k→rS pl cell k x=[]
 | 0,_=>rfl
 | k+1,h=>by
   have hx:(pl k==x)=false:=by
    cases hb:(pl k==x) with
    | false=>rfl
    | true =>
      have:=eq_of_beq hb
      subst this
      exfalso
      apply h
      simp only[kS]
      split
      ·rename_i j hj
       exact List.mem_of_getElem? (mV hj).2
      ·simp
   simp only[rS,hx]
   refine B2 fun hm=>h ?_
   simp only[kS]
   split
   ·exact hm
   ·exact XF.2 (.inl hm)
theorem OkC.use{code:Code}{Q:Exit→St→Prop}{a:Act}{Z:Exit→Act→World→Prop}(h:OkC P c code st Q)(hr:Rel c st a w σ φ)(hz:∀ e a' w' st' σ' φ',Q e st'→RelE c e st' a' w' σ' φ'→Z e a' w'):code.wpIn (fnc c) 0 P Z a w :=
 wpIn_mono (h a w σ φ hr) fun e a' w' ⟨st',σ',φ',h1,h2⟩=>hz e a' w' st' σ' φ' h1 h2
def Bot(_:Exit)(_:St):Prop:=False
end Go.Abs
namespace Go.Abs
open Go
variable {P:Program} {V:Env} {T:Tab} {st:St} {σ σ':Sig} {φ φ':Pl} {w w':World}
theorem GJ{e:Exit}{f:St→Prop}{s:St}(h:av f Bot e s):e=.normal∧f s:=by
 cases e<;>first|exact⟨rfl,h⟩|exact absurd h (fun h=>h.elim)
theorem mk0{c:Ctx}{a:Act}(h:c.mks=[])(hr:Rel c st a w σ φ):({ a with defers:=[] }:Act)=a:=by
 have:a.defers=[]:=hr.defers.trans h
 rw[← this]
theorem zI{α:Type}{x:α}:∀ {l:List α} {i j:Nat},l.Nodup→l[i]?=some x→l[j]?=some x→i=j
 | [],_,_,_,h,_=>by simp at h
 | a::l,0,0,_,_,_=>rfl
 | a::l,i+1,j+1,hn,h1,h2=>by
   rw[Ys] at hn
   exact congrArg (·+1) (zI hn.2 (by simpa using h1) (by simpa using h2))
 | a::l,0,j+1,hn,h1,h2=>by
   rw[Ys] at hn
   simp at h1;subst h1
   exact absurd (List.mem_of_getElem? (by simpa using h2)) hn.1
 | a::l,i+1,0,hn,h1,h2=>by
   rw[Ys] at hn
   simp at h2;subst h2
   exact absurd (List.mem_of_getElem? (by simpa using h1)) hn.1
theorem HM{c:Ctx}{bl b3 i17 sm mid idr kk bb N r:Nat}{RA RC RX RY RD:Code}{ops:Array Oper}{l1 l3:List Oper}{oe os:Oper}{t t2:TypeId}{m:MTy}{x1 x2 y1 y2 y3:Operand}{de:Nat}{fr kept:List (Nat×AV)}{sto sto1:Sto}{Q:Exit→St→Prop}
  (hmk:c.mks=[]) (hM:MOk P t m) (hms:m.ks=pk) (hkg:m.kg=true) (hvg:m.vg=false) (hz:m.z=[.nil])
  (pl:Nat→List Int) (cell:Nat→List D) (L:Nat→List (Nat×AV)) (F F2:Nat→Nat→List (Nat×AV)) (F3:Nat→Nat→Nat→Nat→List (Nat×AV)) (S S2:Nat→Sto)
  (hN:N≤100000000) (hr4:r≤4) (hpl:∀ k,k<N→(pl k).length=r)
  (hops:ops.toList=l1++oe::(l3++[os]))
  (hf:look fr sm=some (.one (.mapr mid))) (hl:look sto mid=some (.map true false [])) (hsL:SubL fr (L 0)) (hsk:SubL fr kept) (hst:SubL sto sto1)
  (hlt:Nat.blt mid 1000000=true) (hmL:br mid (L 0)=false) (hmk1:br mid kept=false) (hms1:aN mid sto1=false) (hml:look sto1 mid=none)
  (H1:∀ k,k≤N→∀ (B:Nat) (w0:World) (σ0:Sig) (φ0:Pl) (M:Nat→Prop),OkC P ⟨w0,σ0,φ0,M,c.n,c.rd,[]⟩ RA ⟨(sm,.one (.d (.raw (.map (some B)))))::(L k++kept),sto1⟩ (av (fun s1=>OkC P ⟨w0,σ0,φ0,M,c.n,c.rd,[]⟩ RC s1 (fun e s2 =>
   (e=.exit bl∧k=N∧SubL s2.fr ((sm,.one (.d (.raw (.map (some B)))))::kept)∧SubL s2.sto sto1)∨(e=.normal∧k<N∧OkC P ⟨w0,σ0,φ0,M,c.n,c.rd,[]⟩ RX s2 (av (fun s3=>OkC P ⟨w0,σ0,φ0,M,c.n,c.rd,[]⟩ RY s3 (av (fun s4=>SubL s4.fr (F k B)∧SubL s4.sto (S k)) Bot)) Bot)))) Bot))
  (H2:∀ k,k<N→∀ (B:Nat) (w0:World) (σ0:Sig) (φ0:Pl) (M:Nat→Prop),aa P ⟨w0,σ0,φ0,M,c.n,c.rd,[]⟩ ops l1 ⟨F k B,S k⟩ (fun s=>SubL s.fr (F2 k B)∧SubL s.sto (S2 k)))
  (hoe:oe.op=.mapEntry t x1 x2) (hge:oe.guard=none) (hde:oe.dst=some de) (hdn:Nat.blt de c.n=true)
  (he1:∀ k B,ev ⟨F2 k B,S2 k⟩ x1=some (.one (.d (.raw (.map (some B)))))) (he2:∀ k B,ev ⟨F2 k B,S2 k⟩ x2=some (lS (pl k)))
  (hlr:Nat.blt idr 1000000=true) (hrF:∀ k B,br idr (F2 k B)=false) (hrS:∀ k,aN idr (S2 k)=false) (hr1:look sto1 idr=none)
  (H3:∀ k,k<N→∀ (B j:Nat) (xs:List (List D)),xs.length≤N→∀ (w0:World) (σ0:Sig) (φ0:Pl) (M:Nat→Prop),aa P ⟨w0,σ0,φ0,M,c.n,c.rd,[]⟩ ops l3 ⟨(de,.tup [(false,[.own idr xs.length]),(false,[.d (.int .i64 j)])])::F2 k B,(idr,.row kk bb xs)::S2 k⟩
   (fun s=>SubL s.fr (F3 k B j xs.length)∧look s.sto idr=some (.row kk bb (xs++[cell k]))∧SubL s.sto sto1))
  (hos:os.op=.entryStore t2 y1 y2 y3) (hgs:os.guard=none) (hds:os.dst=none)
  (hs1:∀ k B j n s,ev ⟨F3 k B j n,s⟩ y1=some (.one (.d (.raw (.map (some B)))))) (hs2:∀ k B j n s,ev ⟨F3 k B j n,s⟩ y2=some (.one (.d (.int .i64 j)))) (hs3:∀ k B j n s,ev ⟨F3 k B j n,s⟩ y3=some (.one (.own idr (n+1))))
  (H4:∀ k,k<N→∀ (B j n:Nat) (w0:World) (σ0:Sig) (φ0:Pl) (M:Nat→Prop),OkC P ⟨w0,σ0,φ0,M,c.n,c.rd,[]⟩ RD ⟨F3 k B j n,sto1⟩ (av (fun s=>SubL s.fr ((sm,.one (.d (.raw (.map (some B)))))::(L (k+1)++kept))∧SubL s.sto sto1) Bot))
  (hQ:Q (.exit bl) ⟨(sm,.one (.mapr mid))::kept,(mid,.map true false (dH (fun j=>.sl kk bb (rS pl cell N (at_ (kS pl N) j))) (kS pl N) 0))::sto1⟩) :
  OkC P c (.loop (.seq RA (.seq RC (.seq (.block b3 (.seq RX (.seq RY (.region i17 ops false)))) RD)))) ⟨fr,sto⟩ Q:=by
 intro a w σ φ hr
 have hap:∀ {f a b:List (Nat×AV)},SubL f a→SubL f b→SubL f (a++b):=by
  intro f a b h1 h2
  induction a with
  | nil=>exact h2
  | cons p r ih=>exact⟨h1.1,ih h1.2⟩
 have hmen:∀ {f g:List (Nat×AV)},br mid f=false→br mid g=false→br mid (f++g)=false:=by
  intro f g h1 h2
  induction f with
  | nil=>exact h2
  | cons p r ih =>
    obtain⟨s,v⟩:=p
    simp only[br,XL,XA] at h1 ⊢
    exact⟨h1.1,ih h1.2⟩
 -- the map's block
 obtain⟨B,cap,hB⟩:∃ B cap,φ mid=some (B,cap)∧w.heap[B]?=some (.map #[] 0):=by
  obtain⟨B,cc,ents,h1,h2,h3,h4⟩:=hr.inv.obj _ _ hl
  refine⟨B,cc,h1,?_⟩
  cases ents with
  | nil=>exact h2
  | cons e r=>exact h3.elim
 have h0:Rel c ⟨(sm,.one (.d (.raw (.map (some B)))))::(L 0++kept),sto1⟩ a w σ φ:=by
  have h1:Rel c ⟨fr,sto1⟩ a w σ φ:=hr.dropTo fun i e h=>hst.look h
  refine⟨h1.le,h1.fresh,h1.inv,h1.mine,fun s v hv=>?_,h1.defers,h1.size,h1.fra,h1.pin⟩
  rcases ah hv with⟨rfl,rfl⟩|⟨_,hv⟩
  ·obtain⟨u,hu,hru⟩:=hr.slot _ _ hf
   refine⟨u,hu,?_⟩
   have hru:RepC σ φ sto (.mapr mid) u:=hru
   cases hru with
   | dead hx _=>simp[bY,cy hl] at hx
   | mapr h2 h3 =>
     rw[hB.1] at h3;cases h3
     exact .d (.raw rfl)
  ·exact h1.slot s v ((hap hsL hsk).look hv)
 have hal0:Al (fun X=>c.w0.heap.size≤X∨c.M X) σ φ sto1 w kk bb B (fun _=>False) (kS pl 0) (rS pl cell 0) (fun _=>(0,0)) []:=by
  refine⟨hB.2,rfl,fun i x e h=>by simp[kS] at h,fun i x e _ h=>by simp[kS] at h,fun i j h=>by simp[kS] at h,fun id o p ho hp=>?_,hr.mine _ _ _ hl hB.1⟩
  have hne:id≠mid:=by rintro rfl;rw[hml] at ho;cases ho
  exact hr.inv.inj _ _ _ _ _ _ (hst.look ho) hl hne hp hB.1
 refine Gg (fun n a w=>∃ k σ φ ents bs,n=N-k∧k≤N∧Rel c ⟨(sm,.one (.d (.raw (.map (some B)))))::(L k++kept),sto1⟩ a w σ φ∧Al (fun X=>c.w0.heap.size≤X∨c.M X) σ φ sto1 w kk bb B (fun _=>False) (kS pl k) (rS pl cell k) bs ents)
  N ⟨0,σ,φ,[],fun _=>(0,0),rfl,Xk _,h0,hal0⟩ ?_
 clear h0 hal0 hB hr
 rintro n a w ⟨k,σ,φ,ents,bs,rfl,hkN,hr,hal⟩
 have hr2:=hr.anew [] c.rd
 rw[mk0 hmk hr] at hr2
 refine wpIn_seq ((H1 k hkN B w σ φ _).use hr2 fun e a1 w1 st1 σ1 φ1 hq hre=>?_)
 obtain⟨rfl,hq⟩:=GJ hq
 refine wpIn_seq (hq.use (hre.rel (by simp)) fun e a2 w2 st2 σ2 φ2 hq hre=>?_)
 have backD:∀ {st':St} {a':Act} {w':World} {σ':Sig} {φ':Pl} {st0:St} {a0:Act} {wx:World} {σx:Sig} {φx:Pl},Rel c st0 a0 wx σx φx→Rel ⟨wx,σx,φx,MOf φx st0.sto,c.n,c.rd,[]⟩ st' a' w' σ' φ'→Rel c st' a' w' σ' φ':=by
  intro st' a' w' σ' φ' st0 a0 wx σx φx h1 h2
  have h3:=Rel.back h1 h2
  have hd:a'.defers=[]:=h2.defers
  have h4:({ a' with defers:=c.mks }:Act)=a':=by rw[hmk,← hd]
  rwa [h4] at h3
 rcases hq with⟨rfl,hkN2,hs1',hs2'⟩|⟨rfl,hkN2,hq⟩
 ·have h3:=hre.rel (by simp)
  have h4:=hal.keep h3
  have h5:=backD hr h3
  obtain⟨f2,s2⟩:=st2
  have h6:Rel c ⟨(sm,.one (.d (.raw (.map (some B)))))::kept,sto1⟩ a2 w2 σ2 φ2:=by
   have h7:=h5.dropTo (s':=sto1) fun i e h=>hs2'.look h
   exact⟨h7.le,h7.fresh,h7.inv,h7.mine,fun s v hv=>h7.slot s v (hs1'.look hv),h7.defers,h7.size,h7.fra,h7.pin⟩
  obtain⟨σ',φ',h8⟩:=(h4.sub fun i e h=>hs2'.look h).close h6 hlt hmk1 hms1
  rw[hkN2] at h8
  exact⟨_,σ',φ',hQ,.inl h8⟩
 refine wpIn_seq (wpIn_block (wpIn_seq (hq.use (hre.rel (by simp)) fun e a3 w3 st3 σ3 φ3 hq hre=>?_)))
 obtain⟨rfl,hq⟩:=GJ hq
 refine wpIn_seq (hq.use (hre.rel (by simp)) fun e a4 w4 st4 σ4 φ4 hq hre=>?_)
 obtain⟨rfl,hs1',hs2'⟩:=GJ hq
 have hr4':=hre.rel (by simp)
 obtain⟨σ5,φ5,hr5⟩:=uN (st':=⟨F k B,S k⟩) hs1' hs2' a4 w4 σ4 φ4 hr4'
 clear hs1' hs2' hr4' hre hq
 refine wpIn_region_list ?_
 rw[hops]
 refine lD (H2 k hkN2 B w σ φ _ a4 w4 σ5 φ5 _ hr5 fun a5 w5 σ6 φ6 st6 hK hr6=>?_)
 obtain⟨σ7,φ7,hr7⟩:=uN (st':=⟨F2 k B,S2 k⟩) hK.1 hK.2 a5 w5 σ6 φ6 hr6
 have hal7:=hal.keep hr7
 have hb7:=backD hr hr7
 clear hr7 hr6 hK hr5 hr2 hr hal
 have hv1:a5.eval x1=.map (some B):=by
  have h3:=aD hb7 (he1 k B)
  replace h3:=RepC.d_inv h3
  generalize a5.eval x1=v1 at h3
  cases h3;rfl
 have hv2:RepD σ7 true (fE (pl k)) (a5.eval x2):=ny (g:=true) (v:=lS (pl k)) rfl (aD hb7 (he2 k B))
 have hpk:(pl k).length=r:=hpl k hkN2
 have hE:=Ag (P:=P) (t:=t) hM hms hkg hvg hz hal7 hv2 (by omega) (fun y hy=>by
  obtain⟨i,h1,h2⟩:=wP hy
  rw[← h2,hpl i (by omega),hpk])
 -- the rest, from the entry on
 have rest:∀ (ents1:List MapEntry) (j:Nat) (e1:MapEntry) (xs:List (List D)) (φ8:Pl) (v1:Value),xs.length≤N→j<N→ents1[j]?=some e1→xs=rS pl cell k (pl k)→(kS pl (k+1))[j]?=some (pl k) →
   Rel c ⟨F2 k B,(idr,.row kk bb xs)::S2 k⟩ a5 { w5 with heap:=w5.heap.setIfInBounds B (.map ents1.toArray ents1.length) } σ7 φ8→RepC σ7 φ8 ((idr,.row kk bb xs)::S2 k) (.own idr xs.length) v1 →
   Al (fun X=>c.w0.heap.size≤X∨c.M X) σ7 φ8 ((idr,.row kk bb xs)::S2 k) { w5 with heap:=w5.heap.setIfInBounds B (.map ents1.toArray ents1.length) } kk bb B (·=j) (kS pl (k+1)) (rS pl cell k) bs ents1 →
   (Instr.mapEntry t (.map (some B)) (a5.eval x2)).run P w5=.ok (.tuple #[v1,goInt j]) { w5 with heap:=w5.heap.setIfInBounds B (.map ents1.toArray ents1.length) } →
   wpListIn (fnc c) 0 P ops (Exit.inBlock b3 (Exit.then (RD.wpIn (fnc c) 0 P (Exit.then (fun a' w'=>∃ m,m<N-k∧∃ k σ φ ents bs,m=N-k∧k≤N∧Rel c ⟨(sm,.one (.d (.raw (.map (some B)))))::(L k++kept),sto1⟩ a' w' σ φ∧Al (fun X=>c.w0.heap.size≤X∨c.M X) σ φ sto1 w' kk bb B (fun _=>False) (kS pl k) (rS pl cell k) bs ents)
    (fun e a' w'=>∃ st' σ' φ',Q e st'∧RelE c e st' a' w' σ' φ'))) (Exit.then (fun a' w'=>∃ m,m<N-k∧∃ k σ φ ents bs,m=N-k∧k≤N∧Rel c ⟨(sm,.one (.d (.raw (.map (some B)))))::(L k++kept),sto1⟩ a' w' σ φ∧Al (fun X=>c.w0.heap.size≤X∨c.M X) σ φ sto1 w' kk bb B (fun _=>False) (kS pl k) (rS pl cell k) bs ents)
    (fun e a' w'=>∃ st' σ' φ',Q e st'∧RelE c e st' a' w' σ' φ')))) (oe::(l3++[os])) a5 w5:=by
  intro ents1 j e1 xs φ8 v1 hxs hjN he1' hxr hkj hr8 hv8 hal8 hrun
  refine sj (o:=oe) (w':={ w5 with heap:=w5.heap.setIfInBounds B (.map ents1.toArray ents1.length) }) hge (u:=.tuple #[v1,goInt j]) ?_ ?_
  ·simp only[execOp,hoe,hv1,Xl,hrun];rfl
  generalize hw6:({ w5 with heap:=w5.heap.setIfInBounds B (.map ents1.toArray ents1.length) }:World)=w6 at hr8 hal8
  have hr9:=hr8.put (dst:=oe.dst) (v:=.tup [(false,[.own idr xs.length]),(false,[.d (.int .i64 j)])]) (u:=.tuple #[v1,goInt j]) (by rw[hde];exact hdn)
   ⟨[v1,goInt j],rfl,⟨⟨hv8,trivial⟩,⟨⟨.d (.int (by simp only[inR,IntKind.min,IntKind.max,IntKind.signed,IntKind.bits,if_true];omega)),trivial⟩,trivial⟩⟩⟩
  generalize a5.put oe.dst (.tuple #[v1,goInt j])=a6 at hr9 ⊢
  rw[hde] at hr9
  have hra:=hr9.anew [] c.rd
  rw[mk0 hmk hr9] at hra
  refine lD (H3 k hkN2 B j xs hxs w6 σ7 φ8 _ a6 w6 σ7 φ8 _ hra fun a7 w7 σ9 φ9 st9 hK hr10=>?_)
  obtain⟨hK1,hK2,hK3⟩:=hK
  have hal9:=hal8.keep hr10
  have hb9:=backD hr9 hr10
  clear hr10 hra hr9 hr8 hal8
  have e1v:a7.eval y1=.map (some B):=by
   have h3:=hb9
   obtain⟨f9,s9⟩:=st9
   have h3:=aD (st:=⟨F3 k B j xs.length,s9⟩) (⟨hb9.le,hb9.fresh,hb9.inv,hb9.mine,fun s v hv=>hb9.slot s v (hK1.look hv),hb9.defers,hb9.size,hb9.fra,hb9.pin⟩:Rel c ⟨F3 k B j xs.length,s9⟩ a7 w7 σ9 φ9) (hs1 k B j xs.length s9)
   replace h3:=RepC.d_inv h3
   generalize a7.eval y1=v1 at h3
   cases h3;rfl
  have e2v:a7.eval y2=goInt j:=by
   obtain⟨f9,s9⟩:=st9
   have h3:=aD (st:=⟨F3 k B j xs.length,s9⟩) (⟨hb9.le,hb9.fresh,hb9.inv,hb9.mine,fun s v hv=>hb9.slot s v (hK1.look hv),hb9.defers,hb9.size,hb9.fra,hb9.pin⟩:Rel c ⟨F3 k B j xs.length,s9⟩ a7 w7 σ9 φ9) (hs2 k B j xs.length s9)
   replace h3:=RepC.d_inv h3
   generalize a7.eval y2=v1 at h3
   cases h3;rfl
  have e3v:∃ q,φ9 idr=some q∧a7.eval y3=.slice (some ⟨q.1,0,none⟩) (xs.length+1) q.2:=by
   obtain⟨f9,s9⟩:=st9
   have h3:=aD (st:=⟨F3 k B j xs.length,s9⟩) (⟨hb9.le,hb9.fresh,hb9.inv,hb9.mine,fun s v hv=>hb9.slot s v (hK1.look hv),hb9.defers,hb9.size,hb9.fra,hb9.pin⟩:Rel c ⟨F3 k B j xs.length,s9⟩ a7 w7 σ9 φ9) (hs3 k B j xs.length s9)
   have h3:RepC σ9 φ9 s9 (.own idr (xs.length+1)) (a7.eval y3):=h3
   generalize a7.eval y3=v1 at h3
   cases h3 with
   | dead hx _=>simp[bY,cy hK2] at hx
   | own h5 h6 h7=>exact⟨_,h7,rfl⟩
  obtain⟨q,hq1,hq2⟩:=e3v
  have hrow9:RowV σ9 w7 kk bb (xs++[cell k]) q:=RowV.of (hb9.inv.obj _ _ hK2) hq1
  have hbs:∀ (i:Nat) (e:MapEntry),ents1[i]?=some e→e.born=i:=fun i e he=>by
   have hi:i<(kS pl (k+1)).length:=by rw[hal9.len];exact (W8.1 he).1
   exact (hal9.key i _ e (Xf hi) he).2
  have hrunS:=wO (P:=P) (t:=t2) (v:=a7.eval y3) hal9.heap hbs he1'
  refine wpListIn_plain hgs fun K' hK'=>⟨fun f _=>iL c f,?_⟩
  have hexr:(execOp a7.eval os).run P w7=.ok .skip { w7 with heap:=w7.heap.setIfInBounds B (.map (ents1.set j { e1 with val:=a7.eval y3 }).toArray (ents1.set j { e1 with val:=a7.eval y3 }).length) }:=by
   simp only[execOp,hos,e1v,e2v,Xl,hrunS];rfl
  rw[jx (by simp) hexr]
  refine hK' _ _ (wpListIn_nil ?_)
  rw[hds]
  generalize hents2:ents1.set j { e1 with val:=a7.eval y3 }=ents2
  have hlen2:ents2.length=ents1.length:=by rw[← hents2];simp
  have hB9:=hb9.setMap (o2:=.map ents2.toArray ents2.length) hal9.heap (fun _ _ _ h=>by cases h) hal9.own hal9.nw
  -- the row is nobody's again
  have hne1:∀ id o p,look sto1 id=some o→φ9 id=some p→p.1≠q.1:=fun id o p ho hp=>by
   have hne:id≠idr:=by rintro rfl;rw[hr1] at ho;cases ho
   exact hb9.inv.inj _ _ _ _ _ _ (hK3.look ho) hK2 hne hp hq1
  have hal10:Al (fun X=>c.w0.heap.size≤X∨c.M X) σ9 φ9 sto1 { w7 with heap:=w7.heap.setIfInBounds B (.map ents2.toArray ents2.length) } kk bb B (fun _=>False) (kS pl (k+1)) (rS pl cell (k+1)) (fun i=>if i=j then q else bs i) ents2:=by
   have hg:∀ i,i≠j→ents2[i]?=ents1[i]?:=fun i hi=>by rw[← hents2,List.getElem?_set_ne (fun e=>hi e.symm)]
   have hgj:ents2[j]?=some { e1 with val:=a7.eval y3 }:=by
    rw[← hents2,List.getElem?_set_self (W8.1 he1').1]
   have hsub:=hal9.sub (sto':=sto1) fun i e h=>hK3.look h
   have hm:=hsub.setMap (ents2:=ents2) (ks2:=kS pl (k+1)) (hole2:=(·=j)) (by rw[hlen2];exact hal9.len) (fun i x e hx he=>by
    by_cases hi:i=j
    ·subst hi
     rw[hgj] at he;cases he
     exact hal9.key i x e1 hx he1'
    ·rw[hg i hi] at he;exact hal9.key i x e hx he) (fun i x e h1 hx he=>⟨h1,hx,by rw[hg i h1] at he;exact he⟩) (fun i hi h1=>⟨hi,h1⟩)
   refine⟨hm.heap,hm.len,hm.key,fun i x e _ hx he=>?_,fun i i' hi hi' hne _ _=>?_,hm.own,hm.nw⟩
   ·by_cases hi:i=j
    ·subst hi
     rw[hkj] at hx;cases hx
     rw[hgj] at he;cases he
     have hR:rS pl cell (k+1) (pl k)=xs++[cell k]:=by simp[rS,hxr]
     simp only[if_true,hR]
     refine⟨by rw[hq2];simp,hrow9.keep (Sig.le_refl _) ?_ hrow9.sig,hb9.mine _ _ _ hK2 hq1,hne1⟩
     have hne:B≠q.1:=by
      intro e
      obtain⟨arr,t,h11⟩:=hrow9.cells
      rw[← e,hal9.heap] at h11
      cases h11
     simp only[Xu hne]
    ·have hxk:(pl k==x)=false:=by
      cases hb:(pl k==x) with
      | false=>rfl
      | true =>
        have:=eq_of_beq hb
        subst this
        exfalso
        exact hi (zI (vp (pl:=pl) (k:=k+1)) hx hkj)
     have hR:rS pl cell (k+1) x=rS pl cell k x:=by simp[rS,hxk]
     simp only[hi,if_false,hR]
     exact hm.row i x e hi hx he
   ·have ho9:∀ i,i<(kS pl (k+1)).length→i≠j→q.1≠(bs i).1:=fun i hi hij=>by
     have he:i<ents1.length:=by rw[← hal9.len];exact hi
     exact (hal9.row i _ _ hij (Xf hi) (Xf he)).2.2.2 _ _ _ hK2 hq1
    by_cases h1:i=j
    ·subst h1
     simp only[if_true,fun e=>hne (Eq.symm e),if_false]
     have h2:¬ i'=i:=fun e=>hne e.symm
     simp only[h2,if_false]
     exact ho9 i' hi' h2
    ·by_cases h2:i'=j
     ·subst h2
      simp only[if_true,h1,if_false]
      exact fun e=>ho9 i hi h1 e.symm
     ·simp only[h1,h2,if_false]
      exact hm.dis i i' hi hi' hne h1 h2
  have hb10:Rel c ⟨F3 k B j xs.length,sto1⟩ a7 { w7 with heap:=w7.heap.setIfInBounds B (.map ents2.toArray ents2.length) } σ9 φ9:=by
   obtain⟨f9,s9⟩:=st9
   have h7:=hB9.dropTo (s':=sto1) fun i e h=>hK3.look h
   have h8:Rel c ⟨f9,s9⟩ a7 _ σ9 φ9:=hB9
   exact⟨h7.le,h7.fresh,h7.inv,h7.mine,fun s v hv=>h7.slot s v (hK1.look hv),h7.defers,h7.size,h7.fra,h7.pin⟩
  generalize ({ w7 with heap:=w7.heap.setIfInBounds B (.map ents2.toArray ents2.length) }:World)=w8 at hb10 hal10
  have hrb:=hb10.anew [] c.rd
  rw[mk0 hmk hb10] at hrb
  have ha7:(a7.put none undef)=a7:=rfl
  rw[ha7]
  show RD.wpIn (fnc c) 0 P _ a7 w8
  refine (H4 k hkN2 B j xs.length w8 σ9 φ9 _).use hrb fun e a11 w11 st11 σ11 φ11 hq hre=>?_
  obtain⟨rfl,hs1',hs2'⟩:=GJ hq
  have h3:=hre.rel (by simp)
  have h4:=hal10.keep h3
  have h5:=backD hb10 h3
  refine⟨N-(k+1),by omega,k+1,σ11,φ11,ents2,_,rfl,by omega,?_,h4.sub fun i e h=>hs2'.look h⟩
  obtain⟨f2,s2⟩:=st11
  have h7:=h5.dropTo (s':=sto1) fun i e h=>hs2'.look h
  exact⟨h7.le,h7.fresh,h7.inv,h7.mine,fun s v hv=>h7.slot s v (hs1'.look hv),h7.defers,h7.size,h7.fra,h7.pin⟩
 cases hwk:bC (pl k) (kS pl k) 0 with
 | some j =>
   obtain⟨e1,he1',hrun⟩:=hE.1 j hwk
   have hkk:kS pl (k+1)=kS pl k:=by simp only[kS,hwk]
   have hkj:=(mV hwk).2
   rw[Nat.sub_zero] at hkj
   obtain⟨h6,h7,h8,h9⟩:=hal7.row j _ e1 (fun h=>h) hkj he1'
   have hjl:j<ents.length:=(W8.1 he1').1
   have hjk:j<k:=by
    have h1:=B1 (pl:=pl) (k:=k)
    rw[hal7.len] at h1;omega
   have hl7:(rS pl cell k (pl k)).length≤N:=by
    have:=Is (pl:=pl) (cell:=cell) (x:=pl k) (k:=k)
    omega
   have hBne:B≠(bs j).1:=by
    intro e
    obtain⟨arr,t,h11⟩:=h7.cells
    rw[← e,hal7.heap] at h11
    cases h11
   have hw6:=hb7.setMap (o2:=.map ents.toArray ents.length) hal7.heap (fun _ _ _ h=>by cases h) hal7.own hal7.nw
   have hrow6:RowV σ7 { w5 with heap:=w5.heap.setIfInBounds B (.map ents.toArray ents.length) } kk bb (rS pl cell k (pl k)) (bs j):=h7.keep (Sig.le_refl _) (by simp only[Xu hBne]) h7.sig
   have had:=hw6.adoptRow hrow6 hlr (hrF k B) (hrS k) h9 h8
   have hm:=hal7.setMap (ents2:=ents) (ks2:=kS pl k) (hole2:=(·=j)) hal7.len hal7.key (fun i x e h1 hx he=>⟨fun h=>h,hx,he⟩) (fun i hi h1=>⟨hi,fun h=>h⟩)
   refine rest ents j e1 (rS pl cell k (pl k)) _ e1.val hl7 (by omega) he1' rfl (by rw[hkk];exact hkj) had ?_ ?_ hrun
   ·rw[h6]
    exact .own aH (Xc _) az
   ·rw[hkk]
    refine⟨hm.heap,hm.len,hm.key,fun i x e h1 hx he=>?_,hm.dis,fun id o p ho hp=>?_,hm.nw⟩
    ·obtain⟨g1,g2,g3,g4⟩:=hm.row i x e h1 hx he
     refine⟨g1,g2,g3,fun id o p ho hp=>?_⟩
     rcases ah ho with⟨rfl,rfl⟩|⟨hne,ho⟩
     ·rw[az] at hp;cases hp
      have hi:i<(kS pl k).length:=(W8.1 hx).1
      exact hal7.dis j i (by rw[hal7.len];exact hjl) hi (fun e=>h1 e.symm) (fun h=>h) (fun h=>h)
     ·rw[aL hne] at hp
      exact g4 id o p ho hp
    ·rcases ah ho with⟨rfl,rfl⟩|⟨hne,ho⟩
     ·rw[az] at hp;cases hp
      exact fun e=>hBne e.symm
     ·rw[aL hne] at hp
      exact hm.own id o p ho hp
 | none =>
   have hrun:=hE.2 hwk
   have hkk:kS pl (k+1)=kS pl k++[pl k]:=by simp only[kS,hwk]
   have hxs:rS pl cell k (pl k)=[]:=B2 (whereK_none hwk)
   have hlen:=hal7.len
   have hw6:=hb7.setMap (o2:=.map (ents++[sN (a5.eval x2) ents.length]).toArray (ents++[sN (a5.eval x2) ents.length]).length) hal7.heap (fun _ _ _ h=>by cases h) hal7.own hal7.nw
   have had:=hw6.nilRow (k:=kk) (b:=bb) hlr (hrF k B) (hrS k)
   have hjk:ents.length≤k:=by
    have h1:=B1 (pl:=pl) (k:=k)
    omega
   have hm:=hal7.setMap (ents2:=ents++[sN (a5.eval x2) ents.length]) (ks2:=kS pl k++[pl k]) (hole2:=(·=ents.length)) (by simp[hlen]) (fun i x e hx he=>by
    rcases XM i ents.length with hi|hi
    ·rw[Xw hi] at he
     rw[Xw (by omega)] at hx
     exact hal7.key i x e hx he
    ·have hi2:i=ents.length:=by
      have:=(W8.1 he).1
      simp at this;omega
     subst hi2
     rw[Xy (Xc _)] at he
     rw[← hlen,Xy (Xc _)] at hx
     simp at he hx
     subst he;subst hx
     exact⟨hv2,rfl⟩) (fun i x e h1 hx he=>by
    have hi:i<ents.length:=by
     have:=(W8.1 he).1
     simp at this;omega
    rw[Xw hi] at he
    rw[Xw (by omega)] at hx
    exact⟨fun h=>h,hx,he⟩) (fun i hi h1=>⟨by simp at hi;omega,fun h=>h⟩)
   refine rest (ents++[sN (a5.eval x2) ents.length]) ents.length (sN (a5.eval x2) ents.length) [] _ (.slice none 0 0) (Xk _) (by omega) (by simp) hxs.symm (by rw[hkk,← hlen];simp) had ?_ ?_ hrun
   ·exact .ownNil aH az
   ·rw[hkk]
    refine⟨hm.heap,hm.len,hm.key,fun i x e h1 hx he=>?_,hm.dis,fun id o p ho hp=>?_,hm.nw⟩
    ·obtain⟨g1,g2,g3,g4⟩:=hm.row i x e h1 hx he
     refine⟨g1,g2,g3,fun id o p ho hp=>?_⟩
     rcases ah ho with⟨rfl,rfl⟩|⟨hne,ho⟩
     ·rw[az] at hp;cases hp
     ·rw[aL hne] at hp
      exact g4 id o p ho hp
    ·rcases ah ho with⟨rfl,rfl⟩|⟨hne,ho⟩
     ·rw[az] at hp;cases hp
     ·rw[aL hne] at hp
      exact hm.own id o p ho hp
theorem JY{c:Ctx}{s1 s2 i m:Nat}{x:AV}{t:Bool×List AC}{fr:List (Nat×AV)}{sto:Sto}:Imp c ⟨(s1,x)::(s2,.tup [(false,[.own i m]),t])::fr,sto⟩ ⟨(s1,x)::(s2,.tup [(false,[.junk]),t])::fr,sto⟩:=fun a w σ φ hr=>by
 refine⟨σ,φ,⟨hr.le,hr.fresh,hr.inv,hr.mine,fun s v hv=>?_,hr.defers,hr.size,hr.fra,hr.pin⟩⟩
 rcases ah hv with⟨rfl,rfl⟩|⟨hne,hv⟩
 ·exact hr.slot _ _ aH
 rcases ah hv with⟨rfl,rfl⟩|⟨hne2,hv⟩
 ·obtain⟨u,hu,vs,rfl,h⟩:=hr.slot s (.tup [(false,[.own i m]),t]) ((aP hne).trans aH)
  match vs,h with
  | v::r,h=>exact⟨_,hu,v::r,rfl,⟨⟨.junk (RepC.oneCell h.1.1),trivial⟩,h.2⟩⟩
 ·exact hr.slot s v ((aP hne).trans ((aP hne2).trans hv))
end Go.Abs
