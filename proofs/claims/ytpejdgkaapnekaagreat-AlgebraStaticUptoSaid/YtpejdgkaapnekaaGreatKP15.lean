import Derived.Test.YtpejdgkaapnekaaGreatRows
import Derived.Deep.Slices
import Derived.Deep.DeepHandedRow
import Derived.ReadAgain
import Derived.MapPlaces
import Derived.WalkKit
import Derived.ProofKit
import Derived.OpenShut
import Derived.JoinedCond
import Derived.Test.YtpejdgkaapnekaaGreatKP14
import Derived.Test.YtpejdgkaapnekaaGreatKP13
set_option linter.unusedVariables false
set_option linter.unusedSimpArgs false
set_option maxHeartbeats 1000000
namespace Go.Proofs.YtpejdgkaapnekaaGreat
open Go Go.Abs
attribute [local irreducible] aa OkC ak av aq aI
set_option maxRecDepth 10000
theorem TY(k n d:Int)(s:List UInt8):CallA Tryz.prog 225 [.agg [.d (.int .i64 k),.d (.int .i64 n),.d (.int .i64 d),.d (.str s)]] [] (.one (.d (.int .i64 (if mO k n d s then 0 else 2)))) []:=by
 refine enter af Tryz.func225 rfl (by decide +kernel) rfl fun hok w0 σ0 φ0 M=>?_
 repeat' (first|(refine h1H ?_;(refine h0H ?_;refine ae J J J J J J J J (Kt _ _ _ _) J ?_))|refine wG ?_|(refine h2H ?_;refine aj J (fun h=>?_) (fun h=>?_)))
 all_goals (try (((simp_all[au,W7])<;>exact wL);done))
theorem OK(k n d:Int)(s:List UInt8)(t:Int):CallA Tryz.prog 215 [.agg [.d (.int .i64 k),.d (.int .i64 n),.d (.int .i64 d),.d (.str s)],.one (.d (.int .i64 t))] [] (.one (.d (.bool (ml k n d s t)))) []:=by
 refine enter af Tryz.func215 rfl (by decide +kernel) rfl fun hok w0 σ0 φ0 M=>?_
 clear hok
 repeat' (first|(refine h1H ?_;(refine h0H ?_;refine ae J J J J J J J J (Kt _ _ _ _) J ?_))|refine wG ?_|(refine h1H ?_;(refine dv ?_;refine bx J J J J (fun h=>?_) (fun h=>?_)))|(refine h2H ?_;refine aj J (fun h=>?_) (fun h=>?_)))
 all_goals (try (((simp_all[ml,au,W7])<;>exact wL);done))
 all_goals (by_cases hk:k=0<;>simp_all[ml,mO])
 all_goals omega
structure Cell where
 at':List Int
 vals:List Val
 deriving Inhabited
def al(c:Cell):List D:=[ar c.at',aY c.vals]
def aC(l:List Cell):D:=.sl 2 48 (l.map al)
def fR:List Attr→List Val→Int
 | a::ats,v::vs=>if !ml v.kind v.num v.den v.str a.type then 12 else fR ats vs
 | _,_=>0
def eV(ds:List Dim)(ats:List Attr)(at':List Int)(vs:List Val):Int :=
 if (at'.length:Int)≠ds.length∨(vs.length:Int)≠ats.length then 13 else if !ofF ds at' then 3 else fR ats vs
theorem SX(ds:List Dim)(ats:List Attr)(at':List Int)(vs:List Val):CallA Tryz.prog 161 [.one (.d (ai ds)),.one (.d (ao ats)),.agg [.d (ar at'),.d (aY vs)]] [] (.one (.d (.int .i64 (eV ds ats at' vs)))) []:=by
 refine enter af Tryz.func161 rfl (by decide +kernel) rfl fun hok w0 σ0 φ0 M=>?_
 have h1:=hok.1.sl.1;have h2:=hok.2.1.sl.1;have h3:=OkD.sl (hok.2.2.1 (.d (ar at')) (by simp));have h4:=OkD.sl (hok.2.2.1 (.d (aY vs)) (by simp));clear hok
 replace h3:=h3.1;replace h4:=h4.1;simp only[WZ] at h1 h2 h3 h4
 repeat' (first|(refine h1H ?_;(refine h0H ?_;refine ae J J J J J J J J (JZ _ _) J ?_))|(refine h4H ?_;(refine h3H ?_;refine d_l J J (bM J J J J J J (OK _ _ _ _ _) J) ?_))|refine wG ?_|(refine h1H ?_;(refine dv ?_;refine bx J J J J (fun h=>?_) (fun h=>?_)))|(refine h2H ?_;first|refine aj J (fun h=>?_) (fun h=>?_)|refine cu 6 J [(1,_),(29,_),(30,_)] (q3Q J J J) (fun (k:Nat)=>[(31,.one (.d (.int .i64 k)))]) (fun (k:Nat)=>k≤vs.length∧at'.length=ds.length∧vs.length=ats.length∧ofF ds at'=true∧eV ds ats at' vs=fR (ats.drop k) (vs.drop k)) (fun (k:Nat)=>vs.length-k) 0 (q1Q J) ?_ (fun k ⟨hk,hq,hq2,hof,hs⟩=>?_))|(show Exists _;refine Exists.intro (k+1) ⟨?_,?_,wK,(q1Q J),(q3Q J J J)⟩))
 all_goals (try (((simp_all[eV,fR,au,W7])<;>exact wL);done))
def eN(ds:List Dim)(ats:List Attr):Option (List Int)→List Cell→Int
 | _,[]=>0
 | none,c::r=>if eV ds ats c.at' c.vals≠0 then eV ds ats c.at' c.vals else eN ds ats (some c.at') r
 | some p,c::r=>if eV ds ats c.at' c.vals≠0 then eV ds ats c.at' c.vals else if bH p c.at'=0 then 5 else if 0<bH p c.at' then 2 else eN ds ats (some c.at') r
def bf(ds:List Dim)(ats:List Attr)(cs:List Cell):Int:=if bo ds ats≠0 then bo ds ats else if 4096<(cs.length:Int) then 9 else eN ds ats none cs
def pv(cs:List Cell)(k:Nat):Option (List Int):=if k=0 then none else some (at_ cs ((k:Int)-1).toNat).at'
theorem D4{cs:List Cell}:pv cs 0=none:=rfl
theorem HF{cs:List Cell}{k:Nat}(h:¬ k=0):pv cs k=some (at_ cs ((k:Int)-1).toNat).at':=by simp[pv,h]
theorem D5{cs:List Cell}{k:Nat}:pv cs (k+1)=some (at_ cs k).at':=by
 have:(((k+1:Nat):Int)-1).toNat=k:=by omega
 rw[HF (by omega),this]
theorem Du{ds:List Dim}{ats:List Attr}{p:Option (List Int)}{c:Cell}{r:List Cell}(h:eV ds ats c.at' c.vals≠0):eN ds ats p (c::r)=eV ds ats c.at' c.vals:=by cases p<;>simp[eN,h]
theorem vU:∀ {a b:List Int},bH a b=0∨bH a b=1∨bH a b=-1
 | [],[]=>by simp[bH]
 | [],_::_=>by simp[bH]
 | _::_,[]=>by simp[bH]
 | x::xs,y::ys=>by
   simp only[bH]
   split
   ·simp
   ·split
    ·simp
    ·exact vU
theorem JN{a b:List Int}:0<bH a b↔bH a b=1:=by
 rcases vU (a:=a) (b:=b) with h|h|h<;>simp[h]
end Go.Proofs.YtpejdgkaapnekaaGreat
namespace Go.Proofs.YtpejdgkaapnekaaGreat
open Go Go.Abs
def ltC(x y:Cell):Prop:=bH x.at' y.at'<0
def leC(x y:Cell):Bool:=decide (bH x.at' y.at'≤0)
def cE(x y:Cell):Prop:=x.at'≠y.at'
def cg(cs:List Cell):List Cell:=cs.mergeSort leC
theorem fD(cs:List Cell):(cg cs).Perm cs:=List.mergeSort_perm cs leC
theorem ze{x y z:Cell}(h1:ltC x y)(h2:ltC y z):ltC x z:=by
 unfold ltC at *
 have h:=iI x.at' y.at' z.at' (by omega) (by omega)
 have:=h.2
 by_cases h0:bH x.at' z.at'=0
 ·have:=this h0;omega
 ·omega
theorem FU{x:Cell}(h:ltC x x):False:=by
 unfold ltC at h;rw[oA] at h;omega
theorem Km{x y:Cell}(h:ltC x y):cE x y:=fun e=>by
 unfold ltC at h;rw[e,oA] at h;omega
theorem rT{x y:Cell}(h:¬ bH y.at' x.at'<0)(hd:cE x y):ltC x y:=by
 have h1:=jk x.at' y.at'
 unfold ltC
 by_cases h0:bH x.at' y.at'=0
 ·exact absurd (Eo _ _ h0) hd
 ·omega
theorem FV:∀ {x y:Cell},cE x y→cE y x:=fun h e=>h e.symm
theorem mu:∀ {l m:List Cell},l.Perm m→l.Pairwise ltC→m.Pairwise ltC→l=m
 | [],m,hp,_,_=>(List.nil_perm.1 hp).symm ▸ rfl
 | x::l,[],hp,_,_=>by have:=hp.length_eq;simp at this
 | x::l,y::m,hp,h1,h2=>by
   rw[List.pairwise_cons] at h1 h2
   have hxy:x=y:=by
    have hx:x∈y::m:=hp.mem_iff.1 Xd
    have hy:y∈x::l:=hp.mem_iff.2 Xd
    rcases Xo.1 hx with e|hx
    ·exact e
    ·rcases Xo.1 hy with e|hy
     ·exact e.symm
     ·exact (FU (ze (h1.1 y hy) (h2.1 x hx))).elim
   subst hxy
   rw[mu (hp.cons_inv) h1.2 h2.2]
theorem bW{l:List Cell}(h:l.Pairwise ltC):l.Pairwise cE:=h.imp Km
theorem zf{l m:List Cell}(hp:l.Perm m)(h:m.Pairwise cE):l.Pairwise cE:=(hp.pairwise_iff (fun h=>FV h)).2 h
theorem fT{cs:List Cell}(h:cs.Pairwise cE):(cg cs).Pairwise ltC:=by
 have h1:(cg cs).Pairwise fun a b=>leC a b=true:=List.pairwise_mergeSort (le:=leC) (fun a b c h1 h2=>by
  simp only[leC,Yi] at *
  exact (iI _ _ _ h1 h2).1) (fun a b=>by
  have:=jk a.at' b.at'
  simp only[leC,Xs,Yi];omega) cs
 have h2:=zf (fD cs) h
 refine (h1.and h2).imp fun {a b} h=>?_
 have hl:bH a.at' b.at'≤0:=by simpa[leC] using h.1
 refine rT ?_ h.2
 have:=jk a.at' b.at'
 omega
theorem Hu{cs:List Cell}(h:cs.Pairwise cE):∀ l:List Cell,l.Perm cs→l.Pairwise (fun x y=>¬ bH y.at' x.at'<0)→l=cg cs:=fun l hp hs =>
 mu (hp.trans (fD cs).symm) ((hs.and (zf hp h)).imp fun {a b} h=>rT h.1 h.2) (fT h)
theorem BA{cs:List Cell}(h:cs.Pairwise ltC):cg cs=cs:=mu (fD cs) (fT (bW h)) h
theorem eE(cs:List Cell):(cg cs).length=cs.length:=(fD cs).length_eq
theorem BB{cs ds:List Cell}(p:Cell→Bool)(h:cs.Pairwise cE)(hd:ds.Pairwise ltC)(he:(cs.filter p).Perm ds):(cg cs).filter p=ds :=
 mu (((fD cs).filter p).trans he) ((fT h).filter p) hd
theorem sy{ds:List Dim}{ats:List Attr}:∀ {cs:List Cell} {p:List Int},eN ds ats (some p) cs=0→(∀ c∈cs,bH p c.at'<0)∧cs.Pairwise ltC∧∀ c∈cs,eV ds ats c.at' c.vals=0
 | [],p,_=>⟨by simp,.nil,by simp⟩
 | c::r,p,h=>by
   simp only[eN] at h
   split at h
   ·rename_i h1;exact absurd h h1
   split at h
   ·omega
   split at h
   ·omega
   rename_i h1 h2 h3
   have hlt:bH p c.at'<0:=by omega
   obtain⟨i1,i2,i3⟩:=sy h
   refine⟨fun x hx=>?_,List.pairwise_cons.2 ⟨i1,i2⟩,fun x hx=>?_⟩
   ·rcases Xo.1 hx with rfl|hx
    ·exact hlt
    ·exact ze (x:=⟨p,[]⟩) (y:=c) hlt (i1 x hx)
   ·rcases Xo.1 hx with rfl|hx
    ·simpa using h1
    ·exact i3 x hx
theorem BC{ds:List Dim}{ats:List Attr}{cs:List Cell}(h:eN ds ats none cs=0):cs.Pairwise ltC∧∀ c∈cs,eV ds ats c.at' c.vals=0:=by
 cases cs with
 | nil=>exact⟨.nil,by simp⟩
 | cons c r =>
   simp only[eN] at h
   split at h
   ·rename_i h1;exact absurd h h1
   rename_i h1
   obtain⟨i1,i2,i3⟩:=sy h
   refine⟨List.pairwise_cons.2 ⟨i1,i2⟩,fun x hx=>?_⟩
   rcases Xo.1 hx with rfl|hx
   ·simpa using h1
   ·exact i3 x hx
structure OkA (ds:List Dim) (ats:List Attr) (cs:List Cell):Prop where
 sch:bo ds ats=0
 few:cs.length≤4096
 srt:cs.Pairwise ltC
 cel:∀ c∈cs,eV ds ats c.at' c.vals=0
theorem okA{ds:List Dim}{ats:List Attr}{cs:List Cell}(h:bf ds ats cs=0):OkA ds ats cs:=by
 unfold bf at h
 split at h
 ·rename_i h1;exact absurd h h1
 split at h
 ·omega
 rename_i h1 h2
 obtain⟨h3,h4⟩:=BC h
 exact⟨by simpa using h1,by omega,h3,h4⟩
theorem wz{ds:List Dim}{ats:List Attr}:∀ {cs:List Cell} {p:Option (List Int)},(∀ q,p=some q→∀ c∈cs,bH q c.at'<0)→cs.Pairwise ltC→(∀ c∈cs,eV ds ats c.at' c.vals=0)→eN ds ats p cs=0
 | [],p,_,_,_=>by cases p<;>rfl
 | c::r,p,h1,h2,h3=>by
   rw[List.pairwise_cons] at h2
   have h4:=h3 c Xd
   have ih:eN ds ats (some c.at') r=0:=wz (fun q e x hx=>by cases e;exact h2.1 x hx) h2.2 (fun x hx=>h3 x (Xa _ hx))
   cases p with
   | none=>simp only[eN,h4,ne_eq,not_true_eq_false,if_false,ih]
   | some q =>
     have h5:=h1 q rfl c Xd
     simp only[eN,h4,ne_eq,not_true_eq_false,if_false,ih]
     rw[if_neg (by omega),if_neg (by omega)]
theorem jh{ds:List Dim}{ats:List Attr}{cs:List Cell}(h:OkA ds ats cs):bf ds ats cs=0:=by
 unfold bf
 rw[if_neg (by simp[h.sch]),if_neg (by have:=h.few;omega)]
 exact wz (fun q e=>by cases e) h.srt h.cel
theorem bA{ds:List Dim}{ats:List Attr}(h:bo ds ats=0):cY ds=0∧1≤ats.length∧ats.length≤6∧fb (ds.map Dim.name) ats=0:=by
 unfold bo at h
 split at h
 ·rename_i h1;exact absurd h h1
 split at h
 ·omega
 rename_i h1 h2
 exact⟨by simpa using h1,by omega,by omega,h⟩
theorem zg:∀ {ds:List Dim} {met:List (List UInt8)},kc met ds=0→(∀ d∈ds,ic d.lo d.hi=true∧cW d.name=true∧d.name ∉ met)∧(ds.map Dim.name).Nodup
 | [],met,_=>⟨by simp,by simp⟩
 | d::r,met,h=>by
   simp only[kc] at h
   split at h
   ·omega
   split at h
   ·omega
   rename_i h1 h2
   obtain⟨i1,i2⟩:=zg h
   simp only[Xs,Xe,not_or,Bool.not_eq_false,XZ,List.contains_eq_mem,Yi,Yj] at h1
   refine⟨fun x hx=>?_,?_⟩
   ·rcases Xo.1 hx with rfl|hx
    ·exact⟨by simpa using h2,h1.1,h1.2⟩
    ·obtain⟨j1,j2,j3⟩:=i1 x hx
     exact⟨j1,j2,fun hm=>j3 (XF.2 (.inl hm))⟩
   ·rw[XK,Ys]
    refine⟨fun hm=>?_,i2⟩
    obtain⟨x,hx,he⟩:=Xj.1 hm
    exact (i1 x hx).2.2 (by rw[he];simp)
theorem fp{ds:List Dim}(h:cY ds=0):1≤ds.length∧ds.length≤4∧(∀ d∈ds,ic d.lo d.hi=true∧cW d.name=true)∧(ds.map Dim.name).Nodup:=by
 unfold cY at h
 split at h
 ·omega
 rename_i h1
 obtain⟨h2,h3⟩:=zg h
 exact⟨by omega,by omega,fun d hd=>⟨(h2 d hd).1,(h2 d hd).2.1⟩,h3⟩
theorem boundsF_ok{lo hi:Int}:ic lo hi=true↔-1073741824≤lo∧lo≤1073741824∧lo≤hi∧hi≤1073741825:=by
 simp only[ic,WX,Yi];omega
theorem cellF_ok{ds:List Dim}{ats:List Attr}{at':List Int}{vs:List Val}:eV ds ats at' vs=0↔at'.length=ds.length∧vs.length=ats.length∧bF ds at'=true∧fR ats vs=0:=by
 unfold eV
 constructor
 ·intro h
  split at h
  ·omega
  rename_i h1
  have e1:at'.length=ds.length:=by omega
  split at h
  ·omega
  rename_i h2
  refine⟨e1,by omega,?_,h⟩
  simpa[ofF,e1] using h2
 ·rintro ⟨h1,h2,h3,h4⟩
  rw[if_neg (by omega),if_neg (by simp[ofF,h1,h3])]
  exact h4
theorem cw:∀ {ds:List Dim} {xs:List Int},xs.length=ds.length→(bF ds xs=true↔∀ i,i<ds.length→(at_ ds i).lo≤at_ xs i∧at_ xs i≤dW (at_ ds i).hi)
 | [],[],_=>by simp[bF]
 | d::ds,x::xs,h=>by
   have ih:=cw (ds:=ds) (xs:=xs) (by simpa using h)
   simp only[bF,WX,Yi,ih]
   constructor
   ·rintro ⟨⟨h1,h2⟩,h3⟩ i hi
    cases i with
    | zero=>exact⟨h1,h2⟩
    | succ i=>exact h3 i (by simpa using hi)
   ·intro h4
    exact⟨⟨(h4 0 (by simp)).1,(h4 0 (by simp)).2⟩,fun i hi=>h4 (i+1) (by simpa using hi)⟩
 | [],_::_,h=>by simp at h
 | _::_,[],h=>by simp at h
end Go.Proofs.YtpejdgkaapnekaaGreat
namespace Go.Proofs.YtpejdgkaapnekaaGreat
open Go Go.Abs
attribute [local irreducible] aa OkC ak av aq aI
set_option maxRecDepth 10000
theorem za{s:List UInt8}:cW s=true↔(1≤s.length∧s.length≤12)∧lX (at_ s 0).toNat=true∧∀ j,j<s.length→nZ (at_ s j).toNat=true:=by
 simp only[cW,WX,Yi,XY,and_assoc]
 refine and_congr_right fun _=>and_congr_right fun _=>and_congr_right fun _=>⟨fun h j hj=>h _ (aU hj),fun h x hx=>?_⟩
 obtain⟨j,hj⟩:=List.getElem?_of_mem hx
 have hl:=(W8.1 hj).1
 rw[ea hl] at hj
 rw[← Option.some.inj hj];exact h j hl
theorem sq(s:List UInt8):CallA Tryz.prog 142 [.one (.d (.str s))] [] (.one (.d (.bool (cW s)))) []:=by
 refine enter af Tryz.func142 rfl (by decide +kernel) rfl fun hok w0 σ0 φ0 M=>?_
 have h1:=hok.1.str;clear hok
 repeat' (first|refine wG ?_|(refine h1H ?_;(refine dv ?_;refine bx J J J J (fun h=>?_) (fun h=>?_)))|(refine h2H ?_;first|refine aj J (fun h=>?_) (fun h=>?_)|refine cu 4 J [(15,_),(16,_)] (q2Q J J) (fun (k:Nat)=>[(17,.one (.d (.int .i64 k)))]) (fun (k:Nat)=>k≤s.length∧1≤s.length∧s.length≤12∧(0<k→lX (at_ s 0).toNat=true)∧(∀ j,j<k→nZ (at_ s j).toNat=true)) (fun (k:Nat)=>s.length-k) 0 (q1Q J) ?_ (fun k ⟨hk,hq,hq2,hf,hs⟩=>?_))|(show Exists _;refine Exists.intro (k+1) ⟨?_,?_,wK,(q1Q J),(q2Q J J)⟩))
 all_goals (try simp only[a0A,a1A,a2A,Bool.not_eq_false',a3A,a4A,a5A,a7A,a8A,a9A,O4,O5,vc] at *)
 all_goals first
  | omega
  | (refine⟨by omega,by omega,by omega,?_,?_⟩
     ·intro hk0
      by_cases h0:0<k
      ·exact hf h0
      ·have hk0':k=0:=by omega
       subst hk0'
       simp only[lX,WX,Yi];omega
     ·intro j hj
      rcases XM j k with hjk|hjk
      ·exact hs j hjk
      ·have hje:j=k:=by omega
       subst hje
       simp only[nZ,lX,Xs,WX,Yi];omega)
  | (congr 3;symm;rw[Bool.eq_false_iff,ne_eq,za];rintro ⟨hlen,h0,hj⟩
     first
      | omega
      | (have hjk:=hj k (by omega)
         simp only[nZ,lX,Xs,WX,Yi] at hjk h0
         by_cases hk0:k=0
         ·subst hk0;omega
         ·omega))
  | (congr 3;symm;rw[za];exact⟨⟨hq,hq2⟩,hf (by omega),fun j hj=>hs j (by omega)⟩)
  | (refine⟨by omega,by omega,by omega,fun h=>by omega,fun j hj=>by omega⟩)
theorem LJ(ds:List Dim)(hne:cY ds≠0):CallA Tryz.prog 190 [.one (.d (ai ds)),.one (.mapr 1000000)] [(1000000,.map false false (dT []))] (.one (.d (.int .i64 (cY ds)))) []:=by
 refine enter af Tryz.func190 rfl (by decide +kernel) rfl fun hok w0 σ0 φ0 M=>?_
 have h1:=hok.1.sl.1;clear hok;simp only[WZ] at h1
 repeat' (first|(refine h1H ?_;(refine h0H ?_;refine ae J J J J J J J J (sq _) J ?_))|refine wG ?_|(refine h1H ?_;(refine dv ?_;refine bx J J J J (fun h=>?_) (fun h=>?_)))|(refine h2H ?_;first|refine aj J (fun h=>?_) (fun h=>?_)|refine cm 4 J [(1,_),(15,_),(16,_)] (q3Q J J J) (fun (p:Nat×List (List UInt8))=>[(17,.one (.d (.int .i64 (p.1:Int))))]) (fun (p:Nat×List (List UInt8))=>[(1000000,.map false false (dT p.2))]) (fun (p:Nat×List (List UInt8))=>p.1≤ds.length∧(1:Int)≤ds.length∧(ds.length:Int)≤4∧cY ds=kc p.2 (ds.drop p.1)) (fun (p:Nat×List (List UInt8))=>ds.length-p.1) (0,[]) (q1Q J) wK ?_ (fun p ⟨hk,hq,hq2,hs⟩=>?_))|(show Exists _;refine Exists.intro ((p.1+1,p.2++[(at_ ds p.1).name])) ⟨?_,?_,wK,(q1Q J),(q3Q J J J)⟩))
 all_goals (try (((simp_all[cY,kc,ic,au,W7])<;>exact wL);done))
theorem LK(ds:List Dim)(he:cY ds=0):CallA Tryz.prog 190 [.one (.d (ai ds)),.one (.mapr 1000000)] [(1000000,.map false false (dT []))] (.one (.d (.int .i64 0))) [(1000000,.map false false (dT (ds.map Dim.name)))]:=by
 refine enter af Tryz.func190 rfl (by decide +kernel) rfl fun hok w0 σ0 φ0 M=>?_
 have h1:=hok.1.sl.1;clear hok;simp only[WZ] at h1
 repeat' (first|(refine h1H ?_;(refine h0H ?_;refine ae J J J J J J J J (sq _) J ?_))|refine wG ?_|(refine h1H ?_;(refine dv ?_;refine bx J J J J (fun h=>?_) (fun h=>?_)))|(refine h2H ?_;first|refine aj J (fun h=>?_) (fun h=>?_)|refine cm 4 J [(1,_),(15,_),(16,_)] (q3Q J J J) (fun (p:Nat×List (List UInt8))=>[(17,.one (.d (.int .i64 (p.1:Int))))]) (fun (p:Nat×List (List UInt8))=>[(1000000,.map false false (dT p.2))]) (fun (p:Nat×List (List UInt8))=>p.1≤ds.length∧kc p.2 (ds.drop p.1)=0∧p.2=(ds.take p.1).map Dim.name) (fun (p:Nat×List (List UInt8))=>ds.length-p.1) (0,[]) (q1Q J) wK ?_ (fun p ⟨hk,hs,hm⟩=>?_))|(show Exists _;refine Exists.intro ((p.1+1,p.2++[(at_ ds p.1).name])) ⟨?_,?_,wK,(q1Q J),(q3Q J J J)⟩))
 all_goals (try (((simp_all[cY,kc,ic,ez,au,W7])<;>exact wL);done))
 ·have hl:ds.length≤p.1:=by simpa using h
  have hp:p.2=ds.map Dim.name:=by rw[hm,WY hl]
  rw[hp]
  exact kB (.inl rfl) rfl rfl rfl (q1Q rfl)
theorem Rk(ds:List Dim)(ats:List Attr)(hne:cY ds≠0):CallA Tryz.prog 108 [.one (.d (ai ds)),.one (.d (ao ats))] [] (.one (.d (.int .i64 (bo ds ats)))) []:=by
 refine enter af Tryz.func108 rfl (by decide +kernel) rfl fun hok w0 σ0 φ0 M=>?_
 clear hok
 repeat' (first|refine wG ?_)
 refine cS 16 [(1000000,0)] (rav':=.one (.d (.int .i64 (cY ds)))) (LJ ds hne) rfl rfl rfl rfl rfl rfl ⟨⟨0,rfl,rfl⟩,trivial⟩ trivial rfl rfl rfl rfl ?_
 repeat' (first|refine wG ?_|(refine h1H ?_;(refine dv ?_;refine bx J J J J (fun h=>?_) (fun h=>?_)))|(refine h2H ?_;refine aj J (fun h=>?_) (fun h=>?_)))
 all_goals (try (((simp_all[bo,au,W7])<;>exact wL);done))
theorem Rm(ds:List Dim)(ats:List Attr)(he:cY ds=0):CallA Tryz.prog 108 [.one (.d (ai ds)),.one (.d (ao ats))] [] (.one (.d (.int .i64 (bo ds ats)))) []:=by
 refine enter af Tryz.func108 rfl (by decide +kernel) rfl fun hok w0 σ0 φ0 M=>?_
 have h1:=hok.2.1.sl.1;clear hok;simp only[WZ] at h1
 repeat' (first|refine wG ?_)
 refine cS 16 [(1000000,0)] (rav':=.one (.d (.int .i64 0))) (LK ds he) rfl rfl rfl rfl rfl rfl ⟨⟨0,rfl,rfl⟩,trivial⟩ ⟨fun i e h1 h2=>?_,trivial⟩ rfl rfl rfl rfl ?_
 ·have h1':some 0=some i:=h1
  cases h1'
  have h2':some (AObj.map false false (dT []))=some e:=h2
  cases h2'
  exact⟨rfl,rfl⟩
 repeat' (first|(refine h1H ?_;(refine h0H ?_;refine ae J J J J J J J J (sq _) J ?_))|refine wG ?_|(refine h1H ?_;(refine dv ?_;refine bx J J J J (fun h=>?_) (fun h=>?_)))|(refine h2H ?_;first|refine aj J (fun h=>?_) (fun h=>?_)|refine cm 8 J [(5,_),(24,_),(25,_)] (q3Q J J J) (fun (p:Nat×List (List UInt8))=>[(26,.one (.d (.int .i64 (p.1:Int))))]) (fun (p:Nat×List (List UInt8))=>[(0,.map false false (dT p.2))]) (fun (p:Nat×List (List UInt8))=>p.1≤ats.length∧cY ds=0∧(1:Int)≤ats.length∧(ats.length:Int)≤6∧bo ds ats=fb p.2 (ats.drop p.1)) (fun (p:Nat×List (List UInt8))=>ats.length-p.1) (0,ds.map Dim.name) (q1Q J) wK ?_ (fun p ⟨hk,hd,hq,hq2,hs⟩=>?_))|(show Exists _;refine Exists.intro ((p.1+1,p.2++[(at_ ats p.1).name])) ⟨?_,?_,wK,(q1Q J),(q3Q J J J)⟩))
 all_goals (try (((simp_all[bo,fb,au,W7])<;>exact wL);done))
theorem Kq(ds:List Dim)(ats:List Attr):CallA Tryz.prog 108 [.one (.d (ai ds)),.one (.d (ao ats))] [] (.one (.d (.int .i64 (bo ds ats)))) []:=by
 by_cases h:cY ds=0
 ·exact Rm ds ats h
 ·exact Rk ds ats h
theorem c59(ds:List Dim)(ats:List Attr)(cs:List Cell):CallA Tryz.prog 59 [.agg [.d (ai ds),.d (ao ats),.d (aC cs)]] [] (.one (.d (.int .i64 (bf ds ats cs)))) []:=by
 refine enter af Tryz.func59 rfl (by decide +kernel) rfl fun hok w0 σ0 φ0 M=>?_
 have h1:=(OkD.sl (hok.1 (.d (aC cs)) (by simp))).1;clear hok;simp only[WZ] at h1
 repeat' (first|(refine h1H ?_;(refine h0H ?_;first|refine ae J J J J J J J J (Kq _ _) J ?_|refine ae J J J J J J J J (SX _ _ _ _) J ?_))|(refine h4H ?_;(refine h3H ?_;refine d_l J J (bM J J J J J J (c35 _ _) J) ?_))|refine wG ?_|(refine h2H ?_;first|refine aj J (fun h=>?_) (fun h=>?_)|refine cu 7 J [(1,_),(20,_),(21,_)] (q3Q J J J) (fun (k:Nat)=>[(22,.one (.d (.int .i64 k)))]) (fun (k:Nat)=>k≤cs.length∧bo ds ats=0∧(cs.length:Int)≤4096∧bf ds ats cs=eN ds ats (pv cs k) (cs.drop k)) (fun (k:Nat)=>cs.length-k) 0 (q1Q J) ?_ (fun k ⟨hk,hsc,hq,hs⟩=>?_))|(show Exists _;refine Exists.intro (k+1) ⟨?_,?_,wK,(q1Q J),(q3Q J J J)⟩))
 all_goals (try (((simp_all[bf,eN,D4,HF,D5,JN,au,W7])<;>exact wL);done))
 ·rename_i hlt
  have hk':k<cs.length:=by simpa using hlt
  have hb:eV ds ats (at_ cs k).at' (at_ cs k).vals≠0:=by simpa using h
  rw[hs,au hk',Du hb];simp
 ·rename_i hlt hc
  have hk':k<cs.length:=by simpa using hlt
  have hk0:k=0:=by simpa using h
  have hb:eV ds ats (at_ cs k).at' (at_ cs k).vals=0:=by simpa using hc
  refine⟨by omega,hsc,hq,?_⟩
  rw[hs,au hk',D5]
  subst hk0
  simp[eN,hb,D4]
def fl{α:Type}(p:α→α→Bool):List α→List α→Bool
 | x::a,y::b=>if p x y then fl p a b else false
 | _,_=>true
def bP{α:Type}(p:α→α→Bool)(a b:List α):Bool:=if (a.length:Int)≠b.length then false else fl p a b
def jP(x y:Val):Bool:=c9 (aB x) (aB y)
def fY(x y:Dim):Bool:=c9 (ax x) (ax y)
def ej(x y:Attr):Bool:=c9 (aS x) (aS y)
def mT(x y:Cell):Bool:=bP (fun x y=>x==y) x.at' y.at'&&bP jP x.vals y.vals
end Go.Proofs.YtpejdgkaapnekaaGreat
namespace Go.Proofs.YtpejdgkaapnekaaGreat
open Go Go.Abs
theorem c5{α:Type}[Inhabited α]:∀ {l m:List α},l.length=m.length→(∀ i,i<l.length→at_ l i=at_ m i)→l=m
 | [],[],_,_=>rfl
 | x::l,y::m,h,he=>by
   have h0:x=y:=he 0 (by simp)
   rw[h0,c5 (l:=l) (m:=m) (by simpa using h) fun i hi=>he (i+1) (by simpa using hi)]
 | [],_::_,h,_=>by simp at h
 | _::_,[],h,_=>by simp at h
theorem fP{α:Type}[Inhabited α]{l:List α}{k i:Nat}{x:α}(h:i<l.length):at_ (l.set k x) i=if i=k then x else at_ l i:=by
 simp only[at_,Xi,List.getElem?_set]
 by_cases e:k=i
 ·subst e;simp[h]
 ·rw[if_neg e,if_neg (fun h=>e h.symm)]
theorem cv{α:Type}[Inhabited α]{l:List α}{x:α}(h:x∈l):∃ i,i<l.length∧at_ l i=x:=by
 obtain⟨i,hi⟩:=List.getElem?_of_mem h
 have hl:=(W8.1 hi).1
 exact⟨i,hl,by rw[ea hl] at hi;exact Option.some.inj hi⟩
theorem qo{α β γ:Type}[Inhabited α][Inhabited β][Inhabited γ]{f:α→β→γ}{l:List α}{m:List β}{i:Nat}(h:i<l.length)(h':i<m.length):at_ (l.zipWith f m) i=f (at_ l i) (at_ m i):=by
 simp[at_,Xi,List.getElem?_zipWith,h,h']
theorem Dim.ext{a b:Dim}(h1:a.name=b.name)(h2:a.lo=b.lo)(h3:a.hi=b.hi):a=b:=by cases a;cases b;simp_all
structure Arr where
 dims:List Dim
 attrs:List Attr
 cells:List Cell
 deriving Inhabited
def IT(a:Arr):List D:=[ai a.dims,ao a.attrs,aC a.cells]
def xT(l:List Arr):D:=.sl 3 72 (l.map IT)
def aO(a:Arr):AV:=.agg [.d (ai a.dims),.d (ao a.attrs),.d (aC a.cells)]
theorem xg{α:Type}[Inhabited α]{p:α→α→Bool}:∀ {a b:List α},a.length=b.length→(fl p a b=true↔∀ i,i<a.length→p (at_ a i) (at_ b i)=true)
 | [],[],_=>by simp[fl]
 | x::a,y::b,h=>by
   have ih:=xg (p:=p) (a:=a) (b:=b) (by simpa using h)
   simp only[fl]
   constructor
   ·intro h1 i hi
    split at h1
    ·rename_i h2
     cases i with
     | zero=>exact h2
     | succ i=>exact ih.1 h1 i (by simpa using hi)
    ·cases h1
   ·intro h1
    have h0:p x y=true:=h1 0 (by simp)
    rw[if_pos h0]
    exact ih.2 fun i hi=>h1 (i+1) (by simpa using hi)
 | [],_::_,h=>by simp at h
 | _::_,[],h=>by simp at h
theorem sameF_all{α:Type}[Inhabited α]{p:α→α→Bool}{a b:List α}:bP p a b=true↔a.length=b.length∧∀ i,i<a.length→p (at_ a i) (at_ b i)=true:=by
 unfold bP
 by_cases h:a.length=b.length
 ·rw[if_neg (by omega),xg h]
  exact Iff.intro (fun h1=>And.intro h h1) (fun h1=>h1.2)
 ·rw[if_pos (by omega)]
  exact Iff.intro (fun h1=>by cases h1) (fun h1=>absurd h1.1 h)
theorem fq{α:Type}[Inhabited α]{p:α→α→Bool}(hp:∀ x y,p x y=true↔x=y){a b:List α}:bP p a b=true↔a=b:=by
 rw[sameF_all]
 constructor
 ·rintro ⟨h1,h2⟩
  exact c5 h1 fun i hi=>(hp _ _).1 (h2 i hi)
 ·rintro rfl
  exact⟨rfl,fun i hi=>(hp _ _).2 rfl⟩
theorem I4(x y:Int):(x==y)=true↔x=y:=by simp
theorem rZ(x y:Dim):fY x y=true↔x=y:=by
 cases x;cases y
 simp[fY,ax,c9,eqD]
theorem jC(x y:Attr):ej x y=true↔x=y:=by
 cases x;cases y
 simp[ej,aS,c9,eqD]
theorem I5(x y:Val):jP x y=true↔x=y:=by
 cases x;cases y
 simp[jP,aB,c9,eqD]
theorem GL(x y:Cell):mT x y=true↔x=y:=by
 cases x;cases y
 simp[mT,fq I4,fq I5]
def cn(ds:List Dim)(ats:List Attr)(cs:List Cell):Option Arr×Int:=if 4096<(cs.length:Int) then (none,9) else (some ⟨ds,ats,cg cs⟩,0)
def aV(ds:List Dim)(name:List UInt8):Int:=aK (fun a:Dim=>a.name==name) ds 0
def eh(a b:List Dim):Bool:=bP (fun x y=>x.name==y.name) a b
theorem ku{α:Type}[Inhabited α]{p:α→Bool}:∀ {l:List α} {j:Nat},¬ aK p l j<0→∃ k:Nat,aK p l j=((j+k:Nat):Int)∧k<l.length∧p (at_ l k)=true∧∀ i,i<k→p (at_ l i)=false
 | [],j,h=>by simp[aK] at h
 | x::l,j,h=>by
   simp only[aK] at h ⊢
   by_cases hp:p x=true
   ·rw[if_pos hp] at h ⊢
    exact⟨0,by simp,by simp,hp,fun i hi=>by omega⟩
   ·rw[if_neg hp] at h ⊢
    obtain⟨k,h1,h2,h3,h4⟩:=ku h
    refine⟨k+1,by rw[h1];omega,by simpa using h2,h3,fun i hi=>?_⟩
    cases i with
    | zero=>exact Bool.eq_false_iff.2 hp
    | succ i=>exact h4 i (by omega)
theorem kA{ds:List Dim}{name:List UInt8}(h:¬ aV ds name<0):∃ k:Nat,aV ds name=(k:Int)∧k<ds.length∧(at_ ds k).name=name∧∀ i,i<k→(at_ ds i).name≠name:=by
 obtain⟨k,h1,h2,h3,h4⟩:=ku h
 refine⟨k,by unfold aV;rw[h1];simp,h2,by simpa using h3,fun i hi=>by simpa using h4 i hi⟩
theorem uU{ds:List Dim}(h:(ds.map Dim.name).Nodup){i j:Nat}(hi:i<ds.length)(hj:j<ds.length)(he:(at_ ds i).name=(at_ ds j).name):i=j:=by
 have h1:at_ (ds.map Dim.name) i=at_ (ds.map Dim.name) j:=by rw[bj hi,bj hj,he]
 have e1:=ea (l:=ds.map Dim.name) (i:=i) (by simpa using hi)
 have e2:=ea (l:=ds.map Dim.name) (i:=j) (by simpa using hj)
 rw[h1,← e2] at e1
 exact (List.getElem?_inj (by simpa using hi) h).1 e1
section
variable {a:Arr}
theorem OkA.dims(h:OkA a.dims a.attrs a.cells):1≤a.dims.length∧a.dims.length≤4∧(∀ i,i<a.dims.length→(-1073741824≤(at_ a.dims i).lo∧(at_ a.dims i).lo≤1073741824∧(at_ a.dims i).lo≤(at_ a.dims i).hi∧(at_ a.dims i).hi≤1073741825)∧cW (at_ a.dims i).name=true)∧(a.dims.map Dim.name).Nodup:=by
 obtain⟨h1,h2,h3,h4⟩:=fp (bA h.sch).1
 exact⟨h1,h2,fun i hi=>⟨boundsF_ok.1 (h3 _ (aU hi)).1,(h3 _ (aU hi)).2⟩,h4⟩
end
end Go.Proofs.YtpejdgkaapnekaaGreat
namespace Go.Proofs.YtpejdgkaapnekaaGreat
open Go Go.Abs
attribute [local irreducible] aa OkC ak av aq aI
set_option maxRecDepth 10000
inductive Scalar where
 | mk (op:Int) (name:List UInt8) (val:Val) (args:List Scalar)
 deriving Inhabited
def Scalar.op:Scalar→Int|.mk o _ _ _=>o
def Scalar.name:Scalar→List UInt8|.mk _ n _ _=>n
def Scalar.val:Scalar→Val|.mk _ _ v _=>v
def Scalar.args:Scalar→List Scalar|.mk _ _ _ a=>a
theorem Scalar.args_lt:∀ {s x:Scalar},x∈s.args→SizeOf.sizeOf x<SizeOf.sizeOf s
 | .mk o n v a,x,h=>by
   have:=List.sizeOf_lt_of_mem (show x∈a from h)
   simp;omega
theorem Scalar.ind{Q:Scalar→Prop}(h:∀ s:Scalar,(∀ x∈s.args,Q x)→Q s)(s:Scalar):Q s :=
 h s fun x hx=>have:=Scalar.args_lt hx;Scalar.ind h x
termination_by SizeOf.sizeOf s
mutual
def vt:Scalar→List D
 | .mk o n v a=>[.int .i64 o,.str n,.int .i64 v.kind,.int .i64 v.num,.int .i64 v.den,.str v.str,.sl 7 88 (Av a)]
def Av:List Scalar→List (List D)
 | []=>[]
 | s::r=>vt s::Av r
end
theorem zF:∀ (l:List Scalar),Av l=l.map vt
 | []=>rfl
 | s::r=>by simp[Av,zF r]
def dD(l:List Scalar):D:=.sl 7 88 (l.map vt)
def sE(s:Scalar):List D:=[.int .i64 s.op,.str s.name,.int .i64 s.val.kind,.int .i64 s.val.num,.int .i64 s.val.den,.str s.val.str,dD s.args]
def fc(s:Scalar):AV:=.agg [.d (.int .i64 s.op),.d (.str s.name),.d (.int .i64 s.val.kind),.d (.int .i64 s.val.num),.d (.int .i64 s.val.den),.d (.str s.val.str),.d (dD s.args)]
theorem xJ:∀ (s:Scalar),vt s=sE s
 | .mk o n v a=>by simp[vt,sE,Scalar.op,Scalar.name,Scalar.val,Scalar.args,dD,zF]
theorem EW{l:List Scalar}{i:Nat}(h:i<l.length):(l.map vt)[i]?=some (sE (at_ l i)):=by rw[dZ h,xJ]
end Go.Proofs.YtpejdgkaapnekaaGreat
namespace Go.Proofs.YtpejdgkaapnekaaGreat
open Go Go.Abs
open Go.ChangeShapes Go.WideShapes Go.ChangeAt Go.RowKit
section
variable {H:Type} {en:TypeId×Value→H} {W:World}
theorem vw(d:DataW H):1≤Rows.uptoBulk d:=by
 cases d with
 | lit l=>cases l<;>simp[Rows.uptoBulk]
 | _=>simp[Rows.uptoBulk]
theorem rH{d:DataW H}:∀ {l:List (DataW H)},d∈l→Rows.uptoBulk d≤Rows.uptoBulkAll l
 | [],h=>by simp at h
 | x::r,h=>by
   simp only[Rows.uptoBulkAll]
   rcases Xo.1 h with rfl|h
   ·omega
   ·have:=rH h;omega
theorem Ch:∀ (l:List (DataW H)),l.length≤Rows.uptoBulkAll l
 | []=>by simp[Rows.uptoBulkAll]
 | x::r=>by have:=vw x;have:=Ch r;simp only[Rows.uptoBulkAll,Xq];omega
def sg(W:World):Sig:=fun b=>match W.heap[b]? with|some (.cells cs _ _)=>some cs|_=>none
theorem EY{b:Nat}{cs:Array Value}(h:sg W b=some cs):∃ t f,W.heap[b]?=some (.cells cs t f):=by
 unfold sg at h
 split at h
 ·rename_i c t f hh;cases h;exact⟨t,f,hh⟩
 ·cases h
theorem O6(φ:Pl):HInv (sg W) φ [] W:=⟨fun b cs h=>EY h,fun i e h=>by simp[Abs.look] at h,fun i i' e e' p p' h=>by simp[Abs.look] at h⟩
def Rd(en:TypeId×Value→H)(W:World)(N:Nat)(t:TypeId){α:Type}(f:α→List D)(Q:α→Prop):Prop :=
 ∀ (fuel:Nat) (cs:List Value) (x:DataW H×List MemPlace),DataW.trod en Tryz.prog W 0 (fun _=>true) true fuel t cs=some x→Rows.uptoBulk x.1≤N→∃ a:α,Q a∧All2 (Rep (sg W)) (f a) cs
def yes{α:Type}(_:α):Prop:=True
theorem Rd.mono{N M:Nat}{t:TypeId}{α:Type}{f:α→List D}{Q:α→Prop}(h:Rd en W N t f Q)(hm:M≤N):Rd en W M t f Q:=fun fuel cs x hx hb=>h fuel cs x hx (by omega)
theorem ke{N:Nat}{t:TypeId}(ht:Tryz.prog.underlying t=some (.int .i64)):Rd en W N t (fun n:Int=>[.int .i64 n]) yes:=by
 intro fuel cs x h _
 obtain⟨n,rfl,_,hw⟩:=DataW.trod_int ht h
 have hw':=bounds_i64 hw
 refine⟨n,trivial,.int ?_,trivial⟩
 simp only[inR,IntKind.min,IntKind.max,IntKind.signed,IntKind.bits,if_true]
 omega
theorem su{N:Nat}{t:TypeId}(hN:N≤1048576)(ht:Tryz.prog.underlying t=some .string):Rd en W N t (fun s:List UInt8=>[.str s]) yes:=by
 intro fuel cs x h hb
 obtain⟨s,rfl,rfl,_⟩:=DataW.trod_string ht h
 simp only[Rows.uptoBulk] at hb
 have:=Rep.str (σ:=sg W) (s:=s.data.toList) (by omega)
 refine⟨s.data.toList,trivial,?_,trivial⟩
 simpa using this
def GI{α:Type}(N:Nat)(Q:α→Prop)(l:List α):Prop:=l.length≤N∧∀ x∈l,Q x
theorem gK{N k b:Nat}{t e:TypeId}{α:Type}[Inhabited α]{f:α→List D}{Q:α→Prop}(hN:N≤1048575)(hb:b≤1000)(hk:0<k)(ht:Tryz.prog.underlying t=some (.slice e))(hc:Tryz.prog.cellsOf e=k)(he:Rd en W N e f Q):Rd en W (N+1) t (fun l:List α=>[.sl k b (l.map f)]) (GI N Q):=by
 intro fuel cs x h hbk
 rcases Deep.open_slice ht h with⟨rfl,rfl⟩|⟨a,len,cap,m,n,Dd,Pl,rfl,_,hl,_,hm,rfl,hel⟩
 ·refine⟨[],⟨by simp,by simp⟩,?_,trivial⟩
  exact .sl (fun _ _=>undef) (by simp) (by simp) (by simp) (by simp) (by simp) (by simp)
 ·simp only[if_true] at hm
  subst hm
  rw[hc] at hel
  simp only[Rows.uptoBulk] at hbk
  have hlen:len≤N:=by
   have:=Ch ((List.range len).map Dd)
   simp only[WZ,List.length_range] at this
   omega
  have hpart:∀ i,i<len→Rows.uptoBulk (Dd i)≤N:=by
   intro i hi
   have:=rH (d:=Dd i) (l:=(List.range len).map Dd) (Xj.2 ⟨i,List.mem_range.2 hi,rfl⟩)
   omega
  obtain⟨g,hg⟩:=Deep.choose_lt (n:=len) (p:=fun i (y:α)=>Q y∧∃ cs',W.cells? 0 (a.add (i*k)) k=some cs'∧All2 (Rep (sg W)) (f y) cs') (fun i hi=>by
   obtain⟨cs',h1,h2⟩:=hel i (by omega)
   obtain⟨y,hq,hy⟩:=he _ _ _ h2 (hpart i hi)
   exact⟨y,hq,cs',h1,hy⟩)
  have hcell:∀ i,i<len→∀ j,j<k→∃ v,W.cell? ((a.add (i*k)).add j)=some v∧∀ d,(f (g i))[j]?=some d→Rep (sg W) d v:=by
   intro i hi j hj
   obtain⟨_,cs',h1,h2⟩:=hg i hi
   obtain⟨_,h3,h4⟩:=World.cells?_some h1
   have h5:cs'[j]?=some (cs'[j]'(by omega)):=Xf (by omega)
   refine⟨_,(h4 j hj).trans h5,fun d hd=>?_⟩
   obtain⟨v,hv,hr⟩:=h2.get hd
   rw[h5] at hv;cases hv;exact hr
  have hfl:∀ i,i<len→(f (g i)).length=k:=by
   intro i hi
   obtain⟨_,cs',h1,h2⟩:=hg i hi
   rw[h2.length];exact (World.cells?_some h1).2.1
  have hadd:∀ i j,i<len→j<k→a.spot=none→((a.add (i*k)).add j)=⟨a.block,a.off+i*k+j,none⟩:=by
   intro i j _ _ hs
   obtain⟨B,o,sp⟩:=a
   simp only at hs
   subst hs
   by_cases h1:i*k=0<;>by_cases h2:j=0<;>simp[Addr.add,h1,h2]
  have hA:0<len→∃ cells:Array Value,a.spot=none∧sg W a.block=some cells:=by
   intro h0
   obtain⟨v,hv,_⟩:=hcell 0 h0 0 hk
   have e0:((a.add (0*k)).add 0)=a:=by simp[Addr.add]
   rw[e0] at hv
   unfold World.cell? at hv
   unfold sg
   split at hv
   ·rename_i c t2 f2 hh
    rw[hh]
    split at hv
    ·cases hv
    ·rename_i hs
     exact⟨c,by simpa using hs,rfl⟩
   ·cases hv
  refine⟨(List.range len).map g,⟨by simpa using hlen,fun y hy=>?_⟩,?_,trivial⟩
  ·obtain⟨i,hi,rfl⟩:=Xj.1 hy
   exact (hg i (List.mem_range.1 hi)).1
  have hll:(((List.range len).map g).map f).length=len:=by simp
  have key:Rep (sg W) (.sl k b (((List.range len).map g).map f)) (.slice (some a) (((List.range len).map g).map f).length m):=by
   refine .sl (fun i j=>(W.cell? ((a.add (i*k)).add j)).getD undef) (by rw[hll];exact hl) (by rw[hll];omega) (by
    rw[hll]
    have:len*b≤1048576*1000:=Nat.mul_le_mul (by omega) hb
    omega) (fun x hx=>?_) (fun h0=>?_) (fun i j x d hx hd=>?_)
   ·simp only[Xj,List.mem_range] at hx
    obtain⟨y,⟨i,hi,rfl⟩,rfl⟩:=hx
    exact hfl i hi
   ·rw[hll] at h0
    obtain⟨cells,hs,hsg⟩:=hA h0
    refine⟨a.block,a.off,cells,?_,hsg,fun i j hi hj=>?_⟩
    ·obtain⟨B,o,sp⟩:=a;simp only at hs;subst hs;rfl
    ·rw[hll] at hi
     obtain⟨v,hv,_⟩:=hcell i hi j hj
     rw[hv]
     rw[hadd i j hi hj hs] at hv
     obtain⟨t2,f2,hh⟩:=EY hsg
     simp only[World.cell?,hh] at hv
     simpa using hv
   ·simp only[X1,Option.map_eq_some_iff] at hx
    obtain⟨y,⟨i',hi',rfl⟩,rfl⟩:=hx
    have hi:i<len:=by
     have:=(W8.1 hi').1
     simpa using this
    have hii:i'=i:=by simpa[List.getElem?_range hi] using hi'.symm
    subst hii
    have hj:j<k:=by rw[← hfl i' hi];exact (W8.1 hd).1
    obtain⟨v,hv,hr⟩:=hcell i' hi j hj
    rw[hv]
    exact hr d hd
  rw[hll] at key
  exact key
theorem fw{R:D→Value→Prop}{a b:List D}{cs:List Value}{o n m:Nat}(h1:All2 R a ((cs.drop o).take n))(h2:All2 R b ((cs.drop (o+n)).take m)):All2 R (a++b) ((cs.drop o).take (n+m)):=by
 rw[List.take_add,List.drop_drop]
 exact h1.append h2
theorem dC{N:Nat}{t u:TypeId}{fs:Array Field}{fuel:Nat}{cs:List Value}{x:DataW H×List MemPlace}(ht:Tryz.prog.underlying t=some (.struct fs))(h:DataW.trod en Tryz.prog W 0 (fun _=>true) true fuel t cs=some x)(hb:Rows.uptoBulk x.1≤N+1)
  (i:Nat) {fd:Field} (hf:fs[i]?=some fd) {α:Type} {f:α→List D} {Q:α→Prop} (hr:Rd en W N fd.type f Q) {c:Nat} (hc:Tryz.prog.cellsOf fd.type=c):∃ a,Q a∧All2 (Rep (sg W)) (f a) ((cs.drop fd.offset).take c):=by
 subst hc
 obtain⟨xs,n,_,rfl,_,hl,hx⟩:=DataW.trod_struct ht h
 have h2:=hx i fd hf
 have hi:i<xs.length:=by rw[hl];exact (Xm.1 hf).1
 rw[Xf hi] at h2
 refine hr _ _ _ h2 ?_
 have:=rH (d:=(xs[i]).1) (l:=xs.map (·.1)) (Xj.2 ⟨_,List.getElem_mem hi,rfl⟩)
 simp only[Rows.uptoBulk] at hb
 omega
theorem qs{t:TypeId}{fs:Array Field}{fuel:Nat}{cs:List Value}{x:DataW H×List MemPlace}(ht:Tryz.prog.underlying t=some (.struct fs))(h:DataW.trod en Tryz.prog W 0 (fun _=>true) true fuel t cs=some x):cs.length=Tryz.prog.cellsOf t:=by
 obtain⟨_,_,_,_,hl,_⟩:=DataW.trod_struct ht h
 exact hl
theorem mR:Tryz.prog.cellsOf 3=1:=by kernel_rfl
theorem wU:Tryz.prog.cellsOf 2=1:=by kernel_rfl
theorem sr:Tryz.prog.cellsOf 9=1:=by kernel_rfl
theorem yk:Tryz.prog.cellsOf 28=4:=by kernel_rfl
theorem M6:Tryz.prog.cellsOf 29=1:=by kernel_rfl
theorem EZ:Tryz.prog.cellsOf 31=7:=by kernel_rfl
theorem E0:Tryz.prog.cellsOf 82=2:=by kernel_rfl
theorem xK:Tryz.prog.cellsOf 53=3:=by kernel_rfl
theorem M7:Tryz.prog.cellsOf 22=1:=by kernel_rfl
theorem M8:Tryz.prog.cellsOf 23=1:=by kernel_rfl
theorem M9:Tryz.prog.cellsOf 24=1:=by kernel_rfl
theorem Na:Tryz.prog.cellsOf 26=3:=by kernel_rfl
theorem oz{R:D→Value→Prop}{a:List D}{cs:List Value}{n:Nat}(h:All2 R a ((cs.drop 0).take n))(hl:cs.length=n):All2 R a cs:=by
 rw[List.drop_zero,WY (by omega)] at h;exact h
theorem IS{N:Nat}(hN:N≤1048575):Rd en W (N+1) 28 (fun v:Val=>[.int .i64 v.kind,.int .i64 v.num,.int .i64 v.den,.str v.str]) yes:=by
 intro fuel cs x h hb
 obtain⟨k,_,hk⟩:=dC (u:=0) Tryz.underlying28 h hb 0 rfl (ke Tryz.underlying3) mR
 obtain⟨n,_,hn⟩:=dC (u:=0) Tryz.underlying28 h hb 1 rfl (ke Tryz.underlying2) wU
 obtain⟨d,_,hd⟩:=dC (u:=0) Tryz.underlying28 h hb 2 rfl (ke Tryz.underlying2) wU
 obtain⟨s,_,hs⟩:=dC (u:=0) Tryz.underlying28 h hb 3 rfl (su (by omega) Tryz.underlying9) sr
 exact⟨⟨k,n,d,s⟩,trivial,oz (fw (fw (fw hk hn) hd) hs) ((qs Tryz.underlying28 h).trans yk)⟩
theorem H6{N:Nat}(hN:N≤1048575):Rd en W (N+1) 53 ax yes:=by
 intro fuel cs x h hb
 obtain⟨s,_,hs⟩:=dC (u:=0) Tryz.underlying53 h hb 0 rfl (su (by omega) Tryz.underlying9) sr
 obtain⟨k,_,hk⟩:=dC (u:=0) Tryz.underlying53 h hb 1 rfl (ke Tryz.underlying3) mR
 obtain⟨n,_,hn⟩:=dC (u:=0) Tryz.underlying53 h hb 2 rfl (ke Tryz.underlying3) mR
 exact⟨⟨s,k,n⟩,trivial,oz (fw (fw hs hk) hn) ((qs Tryz.underlying53 h).trans xK)⟩
theorem Nu{N:Nat}(hN:N≤1048575):Rd en W (N+1) 82 aS yes:=by
 intro fuel cs x h hb
 obtain⟨s,_,hs⟩:=dC (u:=0) Tryz.underlying82 h hb 0 rfl (su (by omega) Tryz.underlying9) sr
 obtain⟨k,_,hk⟩:=dC (u:=0) Tryz.underlying82 h hb 1 rfl (ke Tryz.underlying3) mR
 exact⟨⟨s,k⟩,trivial,oz (fw hs hk) ((qs Tryz.underlying82 h).trans E0)⟩
theorem H5:∀ (N:Nat),N≤1048576→Rd en W N 31 vt yes:=by
 intro N
 induction N using Nat.strongRecOn with
 | _ N ih =>
   intro hN fuel cs x h hb
   have h1:=vw x.1
   obtain⟨xs,n0,_,hx,_,hl,hfx⟩:=DataW.trod_struct Tryz.underlying31 h
   obtain⟨M,rfl⟩:∃ M,N=M+1:=⟨N-1,by omega⟩
   obtain⟨o,_,ho⟩:=dC (u:=0) Tryz.underlying31 h hb 0 rfl (ke Tryz.underlying3) mR
   obtain⟨s,_,hs⟩:=dC (u:=0) Tryz.underlying31 h hb 1 rfl (su (by omega) Tryz.underlying9) sr
   have hM:1≤M:=by
    have hi:0<xs.length:=by rw[hl];decide
    have h3:=rH (d:=(xs[0]).1) (l:=xs.map (·.1)) (Xj.2 ⟨_,List.getElem_mem hi,rfl⟩)
    have h4:=vw (xs[0]).1
    rw[hx] at hb
    simp only[Rows.uptoBulk] at hb
    omega
   obtain⟨L,rfl⟩:∃ L,M=L+1:=⟨M-1,by omega⟩
   obtain⟨v,_,hv⟩:=dC (u:=0) Tryz.underlying31 h hb 2 rfl (IS (N:=L) (by omega)) yk
   obtain⟨l,_,hlst⟩:=dC (u:=0) Tryz.underlying31 h hb 3 rfl (gK (k:=7) (b:=88) (by omega) (by omega) (by omega) Tryz.underlying29 EZ (ih L (by omega) (by omega))) M6
   refine⟨.mk o s v l,trivial,?_⟩
   rw[xJ]
   exact oz (fw (fw (fw ho hs) hv) hlst) ((qs Tryz.underlying31 h).trans EZ)
theorem Nv:Tryz.prog.cellsOf 37=1:=by kernel_rfl
theorem Nx:Tryz.prog.cellsOf 54=1:=by kernel_rfl
theorem E5:Tryz.prog.cellsOf 56=2:=by kernel_rfl
def KH(N:Nat)(c:Cell):Prop:=c.at'.length≤N∧c.vals.length≤N
theorem Ny{N:Nat}(hN:N≤1048573):Rd en W (N+3) 56 al (KH (N+1)):=by
 intro fuel cs x h hb
 obtain⟨a,qa,ha⟩:=dC (u:=0) Tryz.underlying56 h hb 0 rfl (gK (f:=aA) (N:=N+1) (k:=1) (b:=8) (by omega) (by omega) (by omega) Tryz.underlying37 mR (ke Tryz.underlying3)) Nv
 obtain⟨v,qv,hv⟩:=dC (u:=0) Tryz.underlying56 h hb 1 rfl (gK (f:=aB) (N:=N+1) (k:=4) (b:=40) (by omega) (by omega) (by omega) Tryz.underlying54 yk (IS (by omega))) Nx
 exact⟨⟨a,v⟩,⟨qa.1,qv.1⟩,oz (fw ha hv) ((qs Tryz.underlying56 h).trans E5)⟩
def VB(N:Nat)(a:Arr):Prop:=GI N yes a.dims∧GI N yes a.attrs∧GI N (KH N) a.cells
theorem H0{N:Nat}(hN:N≤1048571):Rd en W (N+5) 26 IT (VB (N+3)):=by
 intro fuel cs x h hb
 obtain⟨d,qd,hd⟩:=dC (u:=0) Tryz.underlying26 h hb 0 rfl (gK (f:=ax) (N:=N+3) (k:=3) (b:=32) (by omega) (by omega) (by omega) Tryz.underlying22 xK (H6 (by omega))) M7
 obtain⟨a,qa,ha⟩:=dC (u:=0) Tryz.underlying26 h hb 1 rfl (gK (f:=aS) (N:=N+3) (k:=2) (b:=24) (by omega) (by omega) (by omega) Tryz.underlying23 E0 (Nu (by omega))) M8
 obtain⟨c,qc,hc⟩:=dC (u:=0) Tryz.underlying26 h hb 2 rfl (gK (f:=al) (N:=N+3) (k:=2) (b:=48) (by omega) (by omega) (by omega) Tryz.underlying24 E5 (Ny (by omega))) M9
 exact⟨⟨d,a,c⟩,⟨qd,qa,qc.1,fun x hx=>by have:=qc.2 x hx;unfold KH at *;omega⟩,oz (fw (fw hd ha) hc) ((qs Tryz.underlying26 h).trans Na)⟩
theorem q8{P:Program}{t:TypeId}{fs:Array Field}{r:Reach}{base:Nat}{v:Value}(ht:P.underlying t=some (.struct fs))(h:Value.okWide P W r base t v):∃ cs:List Value,v=.agg cs.toArray:=by
 unfold Value.okWide at h
 rw[ht] at h
 obtain⟨cs,rfl,_⟩:=h
 exact⟨cs.toList,by simp⟩
theorem Bt{W':World}:∀ {ts:List TypeId} {vs:List Value} {ds:List (DataW H)} {ps:List MemPlace},DataW.TrodAll en Tryz.prog W 0 (fun _=>true) true ts vs ds ps→(∀ p∈ps,W.sameAt W' p)→DataW.TrodAll en Tryz.prog W' 0 (fun _=>true) true ts vs ds ps
 | [],[],[],_,h,_=>h
 | _::_,_::_,_::_,_,⟨p,q,⟨n,h1⟩,h2,e⟩,hs=>⟨p,q,⟨n,DataW.trod_carry n _ _ _ h1 fun x hx=>hs x (by rw[e];exact List.mem_append_left _ hx)⟩,Bt h2 fun x hx=>hs x (by rw[e];exact List.mem_append_right _ hx),e⟩
theorem own:ownKnob Tryz.prog.godebug=none:=by kernel_rfl
theorem To:Kids Tryz.prog (·<Tryz.prog.types.size):=kids_rows (by kernel_rfl) (by kernel_rfl)
set_option maxRecDepth 100000 in
theorem Tp:∀ t e,t<Tryz.prog.types.size→Tryz.prog.underlying t=some (.slice e)→0<Tryz.prog.cellsOf e:=slices_full_of Tryz.prog (by kernel_rfl)
theorem zH{W':World}(h:Kept (MOf (fun _=>none) []) W W'):∀ b,b<W.heap.size→W'.heap[b]?=W.heap[b]?:=fun b hb=>h.block b hb (by rintro ⟨id,e,p,h1,_⟩;simp[Abs.look] at h1)
theorem MQ{W':World}(h:Kept (MOf (fun _=>none) []) W W')(may:MemPlace→Prop):W.keptBut W' may :=
 ⟨h.os,h.output,fun i hi=>by rw[zH h i hi];exact (World.keptBut_refl W may).2.2 i hi⟩
theorem J9{W':World}(h:Kept (MOf (fun _=>none) []) W W'){p:MemPlace}(hp:p.block<W.heap.size):W.sameAt W' p:=by
 have hb:=zH h p.block hp
 cases p with
 | cell b off=>show W'.cell? ⟨b,off,none⟩=W.cell? ⟨b,off,none⟩;unfold World.cell?;rw[show W'.heap[b]?=W.heap[b]? from hb]
 | map b=>exact hb
theorem mK{σ:Sig}{φ:Pl}{sto:Sto}:∀ {ds:List D} {vs:List Value},All2 (Rep σ) ds vs→All2 (RepC σ φ sto) (ds.map .d) vs
 | [],[],_=>trivial
 | d::r,v::vs,h=>⟨.d h.1,mK h.2⟩
 | [],_::_,h=>h.elim
 | _::_,[],h=>h.elim
theorem tsz:Nat.blt 300 Tryz.prog.types.size=true:=by kernel_rfl
theorem few{t:Nat}(h:t≤300):t<Tryz.prog.types.size:=by have:=Yb.mp tsz;omega
theorem Ka{W':World}{base:Nat}{sp:Nat→Bool}{held:Bool}(b:Bool):DataW.Trod en Tryz.prog W' base sp held 4 (.bool b) (.lit (.bool b)) []:=⟨1,by simp[DataW.trod,Value.cells,Tryz.underlying4]⟩
end
end Go.Proofs.YtpejdgkaapnekaaGreat
namespace Go.Proofs.YtpejdgkaapnekaaGreat
open Go Go.Abs
attribute [local irreducible] aa OkC ak av aq aI
set_option maxRecDepth 10000
mutual
def PB:Scalar→Int→Int
 | .mk _ _ _ a,most=>EA a 1 most
def EA:List Scalar→Int→Int→Int
 | [],n,_=>n
 | x::r,n,most=>if n≤most then EA r (n+PB x (most-n)) most else n
end
theorem TA(nm:List UInt8)(lo hi:Int):CallA Tryz.prog 139 [.agg [.d (.str nm),.d (.int .i64 lo),.d (.int .i64 hi)]] [] (.one (.d (.str nm))) []:=by
 refine enter af Tryz.func139 rfl (by decide +kernel) rfl fun hok w0 σ0 φ0 M=>?_
 repeat' (first|refine wG ?_)
 all_goals (try (((simp_all[au,W7])<;>exact wL);done))
theorem TB(nm:List UInt8)(t:Int):CallA Tryz.prog 151 [.agg [.d (.str nm),.d (.int .i64 t)]] [] (.one (.d (.str nm))) []:=by
 refine enter af Tryz.func151 rfl (by decide +kernel) rfl fun hok w0 σ0 φ0 M=>?_
 repeat' (first|refine wG ?_)
 all_goals (try (((simp_all[au,W7])<;>exact wL);done))
theorem TC(nm name:List UInt8)(lo hi:Int):CallA Tryz.prog 245 [.agg [.d (.str nm),.d (.int .i64 lo),.d (.int .i64 hi)],.one (.d (.ptr [.fn 139 []])),.one (.d (.ptr [.str name]))] [] (.one (.d (.bool (nm==name)))) []:=by
 refine enter af Tryz.func245 rfl (by decide +kernel) rfl fun hok w0 σ0 φ0 M=>?_
 repeat' (first|(refine h4H ?_;(refine h3H ?_;refine d_l J J (bM J J J J J J (TA _ _ _) J) ?_))|refine wG ?_)
 all_goals (try (((simp_all[au,W7])<;>exact wL);done))
theorem TE(nm name:List UInt8)(t:Int):CallA Tryz.prog 251 [.agg [.d (.str nm),.d (.int .i64 t)],.one (.d (.ptr [.fn 151 []])),.one (.d (.ptr [.str name]))] [] (.one (.d (.bool (nm==name)))) []:=by
 refine enter af Tryz.func251 rfl (by decide +kernel) rfl fun hok w0 σ0 φ0 M=>?_
 repeat' (first|(refine h4H ?_;(refine h3H ?_;refine d_l J J (bM J J J J J J (TB _ _) J) ?_))|refine wG ?_)
 all_goals (try (((simp_all[au,W7])<;>exact wL);done))
theorem Kj(f:FuncId)(caps:List D)(p:Dim→Bool)(hp:∀ d:Dim,CallA Tryz.prog f ([.agg [.d (.str d.name),.d (.int .i64 d.lo),.d (.int .i64 d.hi)]]++caps.map fun x=>.one (.d x)) [] (.one (.d (.bool (p d)))) [])(l:List Dim) :
  CallA Tryz.prog 244 [.one (.d (ai l)),.one (.d (.fn f caps))] [] (.one (.d (.int .i64 (aK p l 0)))) []:=by
 refine enter af Tryz.func244 rfl (by decide +kernel) rfl fun hok w0 σ0 φ0 M=>?_
 have h1:=hok.1.sl;clear hok;simp only[WZ] at h1;replace h1:=h1.1
 repeat' (first|(refine h1H ?_;(refine h0H ?_;refine ae J J J J J J J J (hp _) J ?_))|refine wG ?_|(refine h2H ?_;first|refine aj J (fun h=>?_) (fun h=>?_)|refine cu 2 J [(0,_),(1,_),(7,_)] (q3Q J J J) (fun (k:Nat)=>[(8,.one (.d (.int .i64 k)))]) (fun (k:Nat)=>k≤l.length∧aK p l 0=aK p (l.drop k) k) (fun (k:Nat)=>l.length-k) 0 (q1Q J) ?_ (fun k ⟨hk,hs⟩=>?_))|(show Exists _;refine Exists.intro (k+1) ⟨?_,?_,wK,(q1Q J),(q3Q J J J)⟩))
 all_goals (try (((simp_all[aK,au,W7])<;>exact wL);done))
theorem Kk(f:FuncId)(caps:List D)(p:Attr→Bool)(hp:∀ d:Attr,CallA Tryz.prog f ([.agg [.d (.str d.name),.d (.int .i64 d.type)]]++caps.map fun x=>.one (.d x)) [] (.one (.d (.bool (p d)))) [])(l:List Attr) :
  CallA Tryz.prog 250 [.one (.d (ao l)),.one (.d (.fn f caps))] [] (.one (.d (.int .i64 (aK p l 0)))) []:=by
 refine enter af Tryz.func250 rfl (by decide +kernel) rfl fun hok w0 σ0 φ0 M=>?_
 have h1:=hok.1.sl;clear hok;simp only[WZ] at h1;replace h1:=h1.1
 repeat' (first|(refine h1H ?_;(refine h0H ?_;refine ae J J J J J J J J (hp _) J ?_))|refine wG ?_|(refine h2H ?_;first|refine aj J (fun h=>?_) (fun h=>?_)|refine cu 2 J [(0,_),(1,_),(7,_)] (q3Q J J J) (fun (k:Nat)=>[(8,.one (.d (.int .i64 k)))]) (fun (k:Nat)=>k≤l.length∧aK p l 0=aK p (l.drop k) k) (fun (k:Nat)=>l.length-k) 0 (q1Q J) ?_ (fun k ⟨hk,hs⟩=>?_))|(show Exists _;refine Exists.intro (k+1) ⟨?_,?_,wK,(q1Q J),(q3Q J J J)⟩))
 all_goals (try (((simp_all[aK,au,W7])<;>exact wL);done))
theorem OQ(l:List Dim)(name:List UInt8):CallA Tryz.prog 195 [.one (.d (ai l)),.one (.d (.str name)),.one (.d (.fn 139 []))] [] (.one (.d (.int .i64 (aK (fun a:Dim=>a.name==name) l 0)))) []:=by
 refine enter af Tryz.func195 rfl (by decide +kernel) rfl fun hok w0 σ0 φ0 M=>?_
 repeat' (first|(refine h1H ?_;(refine h0H ?_;refine ae J J J J J J J J (Kj _ _ _ (fun d=>TC _ name _ _) _) J ?_))|refine wG ?_)
 all_goals (try (((simp_all[au,W7])<;>exact wL);done))
theorem OW(l:List Attr)(name:List UInt8):CallA Tryz.prog 207 [.one (.d (ao l)),.one (.d (.str name)),.one (.d (.fn 151 []))] [] (.one (.d (.int .i64 (aK (fun a:Attr=>a.name==name) l 0)))) []:=by
 refine enter af Tryz.func207 rfl (by decide +kernel) rfl fun hok w0 σ0 φ0 M=>?_
 repeat' (first|(refine h1H ?_;(refine h0H ?_;refine ae J J J J J J J J (Kk _ _ _ (fun d=>TE _ name _) _) J ?_))|refine wG ?_)
 all_goals (try (((simp_all[au,W7])<;>exact wL);done))
theorem nU(ds:List Dim)(ats:List Attr)(cs:D)(name:List UInt8):CallA Tryz.prog 126 [.agg [.d (ai ds),.d (ao ats),.d cs],.one (.d (.str name))] [] (.one (.d (.int .i64 (aK (fun a:Dim=>a.name==name) ds 0)))) []:=by
 refine enter af Tryz.func126 rfl (by decide +kernel) rfl fun hok w0 σ0 φ0 M=>?_
 repeat' (first|(refine h1H ?_;(refine h0H ?_;refine ae J J J J J J J J (OQ _ _) J ?_))|refine wG ?_)
 all_goals (try (((simp_all[au,W7])<;>exact wL);done))
theorem xO(ds:List Dim)(ats:List Attr)(cs:D)(name:List UInt8):CallA Tryz.prog 148 [.agg [.d (ai ds),.d (ao ats),.d cs],.one (.d (.str name))] [] (.one (.d (.int .i64 (aK (fun a:Attr=>a.name==name) ats 0)))) []:=by
 refine enter af Tryz.func148 rfl (by decide +kernel) rfl fun hok w0 σ0 φ0 M=>?_
 repeat' (first|(refine h1H ?_;(refine h0H ?_;refine ae J J J J J J J J (OW _ _) J ?_))|refine wG ?_)
 all_goals (try (((simp_all[au,W7])<;>exact wL);done))
theorem TZ(f:FuncId)(caps:List D)(p:Scalar→Bool)(hp:∀ d:Scalar,CallA Tryz.prog f ([fc d]++caps.map fun x=>.one (.d x)) [] (.one (.d (.bool (p d)))) [])(l:List Scalar) :
  CallA Tryz.prog 263 [.one (.d (dD l)),.one (.d (.fn f caps))] [] (.one (.d (.int .i64 (aK p l 0)))) []:=by
 refine enter af Tryz.func263 rfl (by decide +kernel) rfl fun hok w0 σ0 φ0 M=>?_
 have h1:=hok.1.sl;clear hok;simp only[WZ] at h1;replace h1:=h1.1
 repeat' (first|(refine h1H ?_;(refine h0H ?_;refine ae J J J J J J J J (hp _) J ?_))|refine wG ?_|(refine h2H ?_;first|refine aj J (fun h=>?_) (fun h=>?_)|refine cu 2 J [(0,_),(1,_),(7,_)] (q3Q J J J) (fun (k:Nat)=>[(8,.one (.d (.int .i64 k)))]) (fun (k:Nat)=>k≤l.length∧aK p l 0=aK p (l.drop k) k) (fun (k:Nat)=>l.length-k) 0 (q1Q J) ?_ (fun k ⟨hk,hs⟩=>?_))|(show Exists _;refine Exists.intro (k+1) ⟨?_,?_,wK,(q1Q J),(q3Q J J J)⟩))
 all_goals (try (((simp_all[aK,au,W7])<;>exact wL);done))
theorem Et{α:Type}{p:α→Bool}:∀ {l:List α} {k:Nat},decide (0≤aK p l k)=l.any p
 | [],k=>by simp[aK]
 | x::r,k=>by
   have ih:=Et (p:=p) (l:=r) (k:=k+1)
   simp only[aK,List.any_cons,← ih]
   by_cases hx:p x=true<;>simp[hx]
theorem T1(f:FuncId)(caps:List D)(p:Scalar→Bool)(hp:∀ d:Scalar,CallA Tryz.prog f ([fc d]++caps.map fun x=>.one (.d x)) [] (.one (.d (.bool (p d)))) [])(l:List Scalar) :
  CallA Tryz.prog 222 [.one (.d (dD l)),.one (.d (.fn f caps))] [] (.one (.d (.bool (l.any p)))) []:=by
 refine enter af Tryz.func222 rfl (by decide +kernel) rfl fun hok w0 σ0 φ0 M=>?_
 clear hok
 repeat' (first|(refine h1H ?_;(refine h0H ?_;refine ae J J J J J J J J (TZ f caps p hp _) J ?_))|refine wG ?_)
 all_goals (rw[← Et (k:=0)])
def oX:Nat→Scalar→Bool
 | 0,_=>true
 | m+1,s=>s.args.any (oX m)
theorem T4(m:Nat)(hm:m≤12)(hd:∀ s z,z=(m:Int)→CallA Tryz.prog 172 [fc s,.one (.d (.int .i64 z))] [] (.one (.d (.bool (oX m s)))) [])(s:Scalar)(y:Int)(hy:y=m+1) :
  CallA Tryz.prog 223 [fc s,.one (.d (.ptr [.int .i64 y]))] [] (.one (.d (.bool (oX m s)))) []:=by
 refine enter af Tryz.func223 rfl (by decide +kernel) rfl fun hok w0 σ0 φ0 M=>?_
 clear hok
 repeat' (first|(refine h1H ?_;(refine h0H ?_;refine ae J J J J J J J J (hd _ _ (by omega)) J ?_))|refine wG ?_)
 all_goals (try (((simp_all[au,W7])<;>exact wL);done))
theorem Ps:∀ (m:Nat) (s:Scalar) (z:Int),z=m→m≤12→CallA Tryz.prog 172 [fc s,.one (.d (.int .i64 z))] [] (.one (.d (.bool (oX m s)))) []
 | 0,s,z,hz,hm=>by
   subst hz
   refine enter af Tryz.func172 rfl (by decide +kernel) rfl fun hok w0 σ0 φ0 M=>?_
   clear hok
   repeat' (first|refine wG ?_)
   all_goals (try (((simp_all[oX,au,W7])<;>exact wL);done))
 | m+1,s,z,hz,hm=>by
   have hz:z=m+1:=by omega
   refine enter af Tryz.func172 rfl (by decide +kernel) rfl fun hok w0 σ0 φ0 M=>?_
   clear hok
   repeat' (first|(refine h1H ?_;(refine h0H ?_;refine ae J J J J J J J J (T1 _ _ (oX m) (fun d=>T4 m (by omega) (fun s z hz=>Ps m s z hz (by omega)) d _ hz) _) J ?_))|refine wG ?_|(refine h1H ?_;(refine dv ?_;refine bx J J J J (fun h=>?_) (fun h=>?_))))
   all_goals (try (((simp_all[oX,au,W7])<;>exact wL);done))
def mq(op:Int):Int:=if 4≤op∧op≤8 then 1 else if 9≤op∧op≤21 then 2 else if op=22 then 3 else 0
def Aq(v:Val):Bool:=v.kind==0&&(v.num==0&&(v.den==0&&v.str==[]))
theorem Bv{v:Val}:c9 [.int .i64 v.kind,.int .i64 v.num,.int .i64 v.den,.str v.str] [.int .i64 0,.int .i64 0,.int .i64 0,.str []]=Aq v:=by
 simp[c9,eqD,Aq]
def fh(s:Scalar):Bool :=
 if s.op=1 then mO s.val.kind s.val.num s.val.den s.val.str&&(!(s.val.kind==0)&&(s.name==[]&&(s.args.length:Int)==0))
 else if s.op=2∨s.op=3 then Aq s.val&&(s.args.length:Int)==0
 else decide (0<mq s.op)&&(Aq s.val&&(s.name==[]&&(s.args.length:Int)==mq s.op))
mutual
def gu:Scalar→Bool
 | .mk o n v a=>fh (.mk o n v a)&&mS a
def mS:List Scalar→Bool
 | []=>true
 | x::r=>gu x&&mS r
end
theorem oT:∀ {s:Scalar},gu s=(fh s&&mS s.args)
 | .mk _ _ _ _=>by simp[gu,Scalar.args]
end Go.Proofs.YtpejdgkaapnekaaGreat
namespace Go.Proofs.YtpejdgkaapnekaaGreat
open Go Go.Abs
mutual
def bB:Scalar→List Scalar
 | .mk o n v a=>bk a++[.mk o n v a]
def bk:List Scalar→List Scalar
 | []=>[]
 | x::r=>bB x++bk r
end
theorem gM:∀ {s:Scalar},bB s=bk s.args++[s]
 | .mk _ _ _ _=>by simp[bB,Scalar.args]
theorem xh:∀ (l:List Scalar),(∀ x∈l,gu x=(bB x).all fh)→mS l=(bk l).all fh
 | [],_=>by simp[mS,bk]
 | x::r,h=>by
   simp only[mS,bk,List.all_append,h x (by simp),xh r fun y hy=>h y (by simp[hy])]
theorem I3(s:Scalar):gu s=(bB s).all fh:=by
 induction s using Scalar.ind with
 | h s ih =>
   rw[oT,gM,xh s.args ih]
   simp[Bool.and_comm]
def mX:List Scalar→Int→Bool→Int
 | [],_,r=>if r then 0 else 2
 | x::l,n,r=>if 64<n+1 then 9 else mX l (n+1) (r&&fh x)
theorem zR:∀ (l:List Scalar) (n:Int) (r:Bool),n≤64→(64<n+(l.length:Int)→mX l n r=9)∧(¬ 64<n+(l.length:Int)→mX l n r=if r&&l.all fh then 0 else 2)
 | [],n,r,hn=>by
   simp only[mX,List.length_nil,List.all_nil,Bool.and_true]
   exact⟨fun h=>absurd h (by omega),fun _=>trivial⟩
 | x::l,n,r,hn=>by
   simp only[mX,Xq,List.all_cons]
   by_cases h:64<n+1
   ·rw[if_pos h]
    exact⟨fun _=>rfl,fun h2=>absurd h2 (by omega)⟩
   ·rw[if_neg h]
    have ih:=zR l (n+1) (r&&fh x) (by omega)
    rw[Bool.and_assoc] at ih
    exact⟨fun h2=>ih.1 (by omega),fun h2=>ih.2 (by omega)⟩
def gz(s:Scalar):Int:=if oX 12 s then 10 else mX (bB s) 0 true
end Go.Proofs.YtpejdgkaapnekaaGreat
