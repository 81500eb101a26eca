import Derived.Test.YtpejdgkaapnekaaGreatKP15
import Derived.Test.YtpejdgkaapnekaaGreatKP14
set_option linter.unusedVariables false
set_option linter.unusedSimpArgs false
set_option maxHeartbeats 1000000
namespace Go.Proofs.YtpejdgkaapnekaaGreat
open Go Go.Abs
attribute [local irreducible] aa OkC ak av aq aI
set_option maxRecDepth 10000
def bV{α β:Type}(F:α→β→Bool×α):List β→α→Bool×α
 | [],a=>(true,a)
 | x::l,a=>if (F a x).1 then bV F l (F a x).2 else (false,(F a x).2)
def dQ{α β:Type}(F:α→β→Bool×α)(ok:α→β→Prop):List β→α→Prop
 | [],_=>True
 | x::l,a=>ok a x∧((F a x).1=true→dQ F ok l (F a x).2)
theorem fS{α β:Type}{F:α→β→Bool×α}:∀ {l m:List β} {a:α},bV F (l++m) a=if (bV F l a).1 then bV F m (bV F l a).2 else bV F l a
 | [],_,_=>by simp[bV]
 | x::l,m,a=>by
   simp only[XL,bV]
   split
   ·exact fS
   ·simp
theorem o3{α β:Type}{F:α→β→Bool×α}{ok:α→β→Prop}:∀ {l m:List β} {a:α},dQ F ok (l++m) a→dQ F ok l a∧((bV F l a).1=true→dQ F ok m (bV F l a).2)
 | [],_,_,h=>⟨trivial,fun _=>h⟩
 | x::l,m,a,h=>by
   simp only[XL,dQ] at h
   simp only[dQ,bV]
   refine⟨⟨h.1,fun h1=>(o3 (h.2 h1)).1⟩,fun h1=>?_⟩
   by_cases hx:(F a x).1=true
   ·rw[if_pos hx] at h1 ⊢;exact (o3 (h.2 hx)).2 h1
   ·rw[if_neg hx] at h1;simp at h1
theorem ug:∀ {l:List Scalar} {x:Scalar},bk (l++[x])=bk l++bB x
 | [],x=>by simp[bk]
 | y::r,x=>by simp[bk,ug,X5]
theorem DG{l:List Scalar}{k:Nat}(h:k<l.length):bk (l.take (k+1))=bk (l.take k)++bB (at_ l k):=by
 rw[ez h,ug]
theorem uh{l:List Scalar}{k:Nat}(h:k<l.length):bk (l.drop k)=bB (at_ l k)++bk (l.drop (k+1)):=by
 rw[au h];rfl
theorem Ip{α:Type}{F:α→Scalar→Bool×α}{l:List Scalar}{k:Nat}(h:k≤l.length){m:List Scalar}{a0 a:α}(hr:bV F (bk (l.take k)) a0=(true,a)):bV F (bk l++m) a0=bV F (bk (l.drop k)++m) a:=by
 have e:bk l=bk (l.take k)++bk (l.drop k):=by
  have h2:∀ (x y:List Scalar),bk (x++y)=bk x++bk y:=by
   intro x
   induction x with
   | nil=>intro y;simp[bk]
   | cons c r ih=>intro y;simp[bk,ih,X5]
  rw[← h2,X8]
 rw[e,X5,fS,hr]
 simp
theorem Uf{α:Type}(E:α→Sto)(hE:FamW E)(F:α→Scalar→Bool×α)(ok:α→Scalar→Prop)
  (hY:∀ a x,ok a x→YieldA Tryz.prog 1000000 [fc x] (E a) (.one (.d (.bool (F a x).1))) (E (F a x).2)) (s:Scalar) :
  ∀ a0,dQ F ok (bB s) a0→CallA Tryz.prog 217 [fc s,.one (.yl 1000000)] (E a0) (.one (.d (.bool (bV F (bB s) a0).1))) (E (bV F (bB s) a0).2):=by
 induction s using Scalar.ind with
 | h s ih =>
   intro a0 hok0
   rw[gM] at hok0 ⊢
   obtain⟨hok1,hok2⟩:=o3 hok0
   refine enter af Tryz.func217 rfl (by decide +kernel) rfl fun hok w0 σ0 φ0 M=>?_
   have h1:=(OkD.sl (hok.1 (.d (dD s.args)) (by simp))).1;clear hok;simp only[WZ] at h1
   repeat' (first|(refine h1H ?_;(refine Ug ?_;refine OD [] 0 (hE.big _) (hE.ins _) J J J J J J J J ?_))|refine wG ?_)
   refine D9 hE (fun (p:Nat×α)=>p.2) [(0,_)] [(1,_),(2,_),(8,_),(9,_)] (q4Q rfl rfl rfl rfl) (fun (p:Nat×α)=>[(10,.one (.d (.int .i64 (p.1:Int))))])
    (fun p=>p.1≤s.args.length∧bV F (bk (s.args.take p.1)) a0=(true,p.2)∧dQ F ok (bk (s.args.drop p.1)) p.2) (fun p=>s.args.length-p.1) (0,a0) rfl rfl (q1Q rfl) ?_ (fun p ⟨hk,hr,ho⟩=>?_)
   ·exact⟨Xk _,rfl,hok1⟩
   ·repeat' (first|(refine h1H ?_;(refine Uh ?_;refine JQ af [(0,_)] 1 (hE.big _) (hE.ins _) J J J J J J J ?_))|refine wG ?_|(refine h2H ?_;refine aj J (fun h=>?_) (fun h=>?_)))
    ·have hk':p.1<s.args.length:=by simpa using h
     rw[uh hk'] at ho
     obtain⟨ho1,ho2⟩:=o3 ho
     have hrun:bV F (bk s.args++[s]) a0=if (bV F (bB (at_ s.args p.1)) p.2).1 then bV F (bk (s.args.drop (p.1+1))++[s]) (bV F (bB (at_ s.args p.1)) p.2).2 else bV F (bB (at_ s.args p.1)) p.2:=by
      rw[Ip (F:=F) hk (m:=[s]) hr,uh hk',X5];exact fS
     refine Ex [(1,_),(0,_)] (ih (at_ s.args p.1) (aU hk') p.2 ho1) (hE.big _) (hE.big _) (hE.ins _) (hE.ins _) (hE.lp _) (hE.lp _) rfl rfl rfl rfl rfl rfl rfl (by simp[dU,dG,fc,fi,bY,LF (hE.lp _)]) rfl rfl ?_
     repeat' (first|refine wG ?_|(refine h2H ?_;refine aj J (fun h=>?_) (fun h=>?_)))
     ·have hb':¬ (bV F (bB (at_ s.args p.1)) p.2).1=true:=by simpa using h
      rw[if_neg hb'] at hrun
      refine oL [(1,_),(0,_)] (.inl rfl) rfl rfl rfl ?_ rfl (hE.big _) (hE.nd _)
      rw[hrun]
      refine⟨?_,rfl⟩
      simp at hb'
      rw[hb']
     ·have hb':(bV F (bB (at_ s.args p.1)) p.2).1=true:=by simpa using h
      refine⟨(p.1+1,(bV F (bB (at_ s.args p.1)) p.2).2),[(1,_),(0,_)],⟨by show p.1+1≤_;omega,?_,ho2 hb'⟩,by show s.args.length-(p.1+1)<s.args.length-p.1;omega,rfl,rfl,ab rfl aW,ab rfl aW,ab rfl (q3Q rfl rfl rfl)⟩
      show bV F (bk (s.args.take (p.1+1))) a0=_
      rw[DG hk',fS,hr]
      simp only[if_true]
      rw[← hb']
    ·have hk':p.1=s.args.length:=by
      have:¬ p.1<s.args.length:=by simpa using h
      omega
     rw[hk',XT] at hr
     rw[hr] at hok2
     have hf:bV F (bk s.args++[s]) a0=F p.2 s:=by
      rw[fS,hr]
      simp only[if_true,bV]
      split
      ·rename_i hb;rw[← hb]
      ·rename_i hb;simp at hb;rw[← hb]
     refine BT [(0,_)] (hY p.2 s (hok2 rfl).1) (hE.big _) (hE.big _) (hE.ins _) (hE.ins _) (hE.lp _) (hE.lp _) rfl rfl rfl rfl rfl rfl rfl rfl (by simp[dU,dG,fc,fi,bY]) rfl rfl ?_
     repeat' (first|refine wG ?_)
     refine oL [(0,_)] (.inl rfl) rfl rfl rfl ?_ rfl (hE.big _) (hE.nd _)
     rw[hf]
     exact⟨rfl,rfl⟩
theorem Kw{α:Type}(E:α→Sto)(hE:FamW E)(F:α→Scalar→Bool×α)(ok:α→Scalar→Prop)
  (hY:∀ a x,ok a x→YieldA Tryz.prog 1000000 [fc x] (E a) (.one (.d (.bool (F a x).1))) (E (F a x).2)) (s:Scalar) (a0:α) (h0:dQ F ok (bB s) a0) :
  CallA Tryz.prog 216 [.one (.yl 1000000),.one (.d (.ptr (sE s)))] (E a0) (.tup []) (E (bV F (bB s) a0).2):=by
 refine enter af Tryz.func216 rfl (by decide +kernel) rfl fun hok w0 σ0 φ0 M=>?_
 clear hok
 repeat' (first|refine wG ?_)
 refine Ex [] (Uf E hE F ok hY s a0 h0) (hE.big _) (hE.big _) (hE.ins _) (hE.ins _) (hE.lp _) (hE.lp _) rfl rfl rfl rfl rfl rfl rfl (by simp[dU,dG,fc,fi,bY,LF (hE.lp _)]) rfl rfl ?_
 repeat' (first|refine wG ?_)
 exact oL [] (.inr rfl) rfl rfl rfl ⟨rfl,rfl⟩ rfl (hE.big _) (hE.nd _)
theorem Kv(s:Scalar):CallA Tryz.prog 162 [fc s] [] (.one (.d (.fn 216 [.ptr (sE s)]))) []:=by
 refine enter af Tryz.func162 rfl (by decide +kernel) rfl fun hok w0 σ0 φ0 M=>?_
 clear hok
 repeat' (first|refine wG ?_)
 all_goals first|rfl|trace_state
def eK(t:Int):Bool:=t==2||t==3
def cR(a b:Int):Int:=if a=b then a else if eK a&&eK b then 3 else 0
def cI(op:Int)(a b c:Int):Int :=
 if (op=4∧a=1)∨op=7 then 1
 else if op=5∧eK a=true then a
 else if (op=6∧eK a=true)∨op=8 then 2
 else if 9≤op∧op≤11∧eK a=true∧eK b=true then cR a b
 else if op=12∧eK a=true∧eK b=true then 3
 else if 13≤op∧op≤18∧cR a b≠0 then 1
 else if (op=19∨op=20)∧a=1∧b=1 then 1
 else if op=21 then cR a b
 else if op=22∧a=1 then cR b c
 else 0
theorem Cg{op:Int}(h:4≤op∧op≤22):op=4∨op=5∨op=6∨op=7∨op=8∨op=9∨op=10∨op=11∨op=12∨op=13∨op=14∨op=15∨op=16∨op=17∨op=18∨op=19∨op=20∨op=21∨op=22:=by omega
theorem J8(t:Int):CallA Tryz.prog 301 [.one (.d (.int .i64 t))] [] (.one (.d (.bool (eK t)))) []:=by
 refine enter af Tryz.func301 rfl (by decide +kernel) rfl fun hok w0 σ0 φ0 M=>?_
 clear hok
 repeat' (first|refine wG ?_|(refine h1H ?_;(refine dv ?_;refine bx J J J J (fun h=>?_) (fun h=>?_))))
 all_goals (try (((simp_all[eK,au,W7])<;>exact wL);done))
theorem OX(l:D)(t:Int):CallA Tryz.prog 357 [.one (.d l),.one (.d (.ptr [.int .i64 t]))] [] (.one (.d (.int .i64 t))) []:=by
 refine enter af Tryz.func357 rfl (by decide +kernel) rfl fun hok w0 σ0 φ0 M=>?_
 clear hok
 repeat' (first|refine wG ?_)
 all_goals (try (((simp_all[au,W7])<;>exact wL);done))
theorem Tk(l:List Int)(hl:1≤l.length):CallA Tryz.prog 303 [.one (.d (ar l))] [] (.one (.d (.int .i64 (if at_ l 0=1 then 1 else 0)))) []:=by
 refine enter af Tryz.func303 rfl (by decide +kernel) rfl fun hok w0 σ0 φ0 M=>?_
 clear hok
 repeat' (first|refine wG ?_|(refine h2H ?_;refine aj J (fun h=>?_) (fun h=>?_)))
 all_goals (try (((simp_all[au,W7])<;>exact wL);done))
theorem Bs(l:List Int)(hl:2≤l.length):CallA Tryz.prog 307 [.one (.d (ar l))] [] (.one (.d (.int .i64 (cR (at_ l ((l.length:Int)-2).toNat) (at_ l ((l.length:Int)-1).toNat))))) []:=by
 refine enter af Tryz.func307 rfl (by decide +kernel) rfl fun hok w0 σ0 φ0 M=>?_
 have h1:=hok.1.sl.1;clear hok;simp only[WZ] at h1
 repeat' (first|(refine h1H ?_;(refine h0H ?_;refine ae J J J J J J J J (J8 _) J ?_))|refine wG ?_|(refine h1H ?_;(refine dv ?_;refine bx J J J J (fun h=>?_) (fun h=>?_)))|(refine h2H ?_;refine aj J (fun h=>?_) (fun h=>?_)))
 all_goals (try (((simp_all[cR,au,W7])<;>exact wL);done))
theorem OY(l:List Int)(hl:1≤l.length):CallA Tryz.prog 300 [.one (.d (ar l))] [] (.one (.d (.int .i64 (if eK (at_ l 0) then at_ l 0 else 0)))) []:=by
 refine enter af Tryz.func300 rfl (by decide +kernel) rfl fun hok w0 σ0 φ0 M=>?_
 clear hok
 repeat' (first|(refine h1H ?_;(refine h0H ?_;refine ae J J J J J J J J (J8 _) J ?_))|refine wG ?_|(refine h2H ?_;refine aj J (fun h=>?_) (fun h=>?_)))
 all_goals (try (((simp_all[au,W7])<;>exact wL);done))
theorem FP(l:List Int)(hl:2≤l.length):CallA Tryz.prog 305 [.one (.d (ar l))] [] (.one (.d (.int .i64 (if eK (at_ l 0) then cR (at_ l ((l.length:Int)-2).toNat) (at_ l ((l.length:Int)-1).toNat) else 0)))) []:=by
 refine enter af Tryz.func305 rfl (by decide +kernel) rfl fun hok w0 σ0 φ0 M=>?_
 clear hok
 repeat' (first|(refine h1H ?_;(refine h0H ?_;first|refine ae J J J J J J J J (J8 _) J ?_|refine ae J J J J J J J J (Bs _ (by omega)) J ?_))|refine wG ?_|(refine h2H ?_;refine aj J (fun h=>?_) (fun h=>?_)))
 all_goals (try (((simp_all[au,W7])<;>exact wL);done))
theorem Tl(l:List Int)(hl:2≤l.length):CallA Tryz.prog 306 [.one (.d (ar l))] [] (.one (.d (.int .i64 (if at_ l 0=1 then cR (at_ l ((l.length:Int)-2).toNat) (at_ l ((l.length:Int)-1).toNat) else 0)))) []:=by
 refine enter af Tryz.func306 rfl (by decide +kernel) rfl fun hok w0 σ0 φ0 M=>?_
 clear hok
 repeat' (first|(refine h1H ?_;(refine h0H ?_;refine ae J J J J J J J J (Bs _ (by omega)) J ?_))|refine wG ?_|(refine h2H ?_;refine aj J (fun h=>?_) (fun h=>?_)))
 all_goals (try (((simp_all[au,W7])<;>exact wL);done))
theorem Tm(l:List Int)(hl:2≤l.length):CallA Tryz.prog 304 [.one (.d (ar l))] [] (.one (.d (.int .i64 (if (if eK (at_ l 0) then cR (at_ l ((l.length:Int)-2).toNat) (at_ l ((l.length:Int)-1).toNat) else 0)=0 then 0 else 3)))) []:=by
 refine enter af Tryz.func304 rfl (by decide +kernel) rfl fun hok w0 σ0 φ0 M=>?_
 clear hok
 repeat' (first|(refine h1H ?_;(refine h0H ?_;refine ae J J J J J J J J (FP _ (by omega)) J ?_))|refine wG ?_|(refine h2H ?_;refine aj J (fun h=>?_) (fun h=>?_)))
 all_goals (try (((simp_all[au,W7])<;>exact wL);done))
theorem xH(l:List Int)(hl:2≤l.length):CallA Tryz.prog 363 [.one (.d (ar l))] [] (.one (.d (.int .i64 (if cR (at_ l ((l.length:Int)-2).toNat) (at_ l ((l.length:Int)-1).toNat)=0 then 0 else 1)))) []:=by
 refine enter af Tryz.func363 rfl (by decide +kernel) rfl fun hok w0 σ0 φ0 M=>?_
 clear hok
 repeat' (first|(refine h1H ?_;(refine h0H ?_;refine ae J J J J J J J J (Bs _ (by omega)) J ?_))|refine wG ?_|(refine h2H ?_;refine aj J (fun h=>?_) (fun h=>?_)))
 all_goals (try (((simp_all[au,W7])<;>exact wL);done))
theorem MP{l:List Int}(h:OkD (ar l)){i:Nat}(hi:i<l.length):-9223372036854775808≤at_ l i∧at_ l i≤9223372036854775807 :=
 OkD.i64 ((h.sl.2.2 (aA (at_ l i)) (List.mem_map_of_mem (aU hi))).2 (.int .i64 (at_ l i)) (by simp[aA]))
theorem OZ(l:List Int)(hl:2≤l.length):CallA Tryz.prog 366 [.one (.d (ar l))] [] (.one (.d (.int .i64 (if at_ l 0=1 then cR (at_ l ((l.length:Int)-2).toNat) (at_ l ((l.length:Int)-1).toNat) else 0)))) []:=by
 refine enter af Tryz.func366 rfl (by decide +kernel) rfl fun hok w0 σ0 φ0 M=>?_
 have hs:-9223372036854775808≤cR (at_ l ((l.length:Int)-2).toNat) (at_ l ((l.length:Int)-1).toNat)∧cR (at_ l ((l.length:Int)-2).toNat) (at_ l ((l.length:Int)-1).toNat)≤9223372036854775807:=by
  have:=MP hok.1 (i:=((l.length:Int)-2).toNat) (by omega)
  unfold cR;split
  ·exact this
  ·split<;>omega
 clear hok
 repeat' (first|(refine h1H ?_;(refine h0H ?_;refine ae J J J J J J J J (Bs _ (by omega)) J ?_))|refine wG ?_|(refine h2H ?_;refine aj J (fun h=>?_) (fun h=>?_)))
 all_goals (try (((simp_all[au,W7])<;>exact wL);done))
theorem Tn(l:List Int)(hl:1≤l.length):CallA Tryz.prog 302 [.one (.d (ar l)),.one (.d (.ptr [.fn 300 []]))] [] (.one (.d (.int .i64 (min (if eK (at_ l 0) then at_ l 0 else 0) 2)))) []:=by
 refine enter af Tryz.func302 rfl (by decide +kernel) rfl fun hok w0 σ0 φ0 M=>?_
 clear hok
 repeat' (first|(refine h1H ?_;(refine h0H ?_;refine ae J J J J J J J J (OY l hl) J ?_))|refine wG ?_)
 all_goals (try (((simp_all[au,W7])<;>exact wL);done))
end Go.Proofs.YtpejdgkaapnekaaGreat
namespace Go.Proofs.YtpejdgkaapnekaaGreat
open Go Go.Abs
def pF(k:Nat)(d:Int)(x:List Int):List Int:=x.set k (at_ x k+d)
def eY(k:Nat)(d:Int)(c:Cell):Cell:=⟨pF k d c.at',c.vals⟩
theorem B8:∀ {k:Nat} {d:Int} {x y:List Int},k<x.length→x.length=y.length→bH (pF k d x) (pF k d y)=bH x y
 | _,d,[],_,h,_=>by simp at h
 | _,d,_::_,[],_,h=>by simp at h
 | 0,d,a::x,b::y,_,_=>by
   show bH ((a+d)::x) ((b+d)::y)=_
   simp only[bH]
   by_cases h1:a<b
   ·rw[if_pos h1,if_pos (by omega)]
   ·rw[if_neg h1,if_neg (by omega)]
    by_cases h2:b<a
    ·rw[if_pos h2,if_pos (by omega)]
    ·rw[if_neg h2,if_neg (by omega)]
 | k+1,d,a::x,b::y,h,h'=>by
   have ih:=B8 (k:=k) (d:=d) (x:=x) (y:=y) (by simpa using h) (by simpa using h')
   show bH (a::pF k d x) (b::pF k d y)=_
   simp only[bH,ih]
theorem EU{k:Nat}{d:Int}{x:List Int}:(pF k d x).length=x.length:=by simp[pF]
theorem PZ{k:Nat}{d:Int}{x:List Int}{i:Nat}(h:i<x.length):at_ (pF k d x) i=if i=k then at_ x k+d else at_ x i:=fP h
def rC(d:Dim)(b:Int×Int):Dim:=⟨d.name,max d.lo b.1,min d.hi b.2⟩
def cQ(ds:List Dim)(lo hi:List Int):List Dim:=ds.zipWith rC (lo.zip hi)
def okD(d:Dim):Bool:=!decide (dW d.hi<d.lo)
def gD(a:Arr)(lo hi:List Int):Option Arr×Int :=
 if bf a.dims a.attrs a.cells≠0 then (none,2)
 else if (lo.length:Int)≠a.dims.length∨(hi.length:Int)≠a.dims.length then (none,13)
 else if !(cQ a.dims lo hi).all okD then (none,3)
 else cn (cQ a.dims lo hi) a.attrs (a.cells.filter fun c=>bF (cQ a.dims lo hi) c.at')
def byF(a b:Arr)(k:Nat):Int:=(at_ a.dims k).hi-(at_ b.dims k).lo+1
def dj(a b:Arr)(k:Nat):Dim:=⟨(at_ b.dims k).name,(at_ a.dims k).lo,(at_ b.dims k).hi+byF a b k⟩
def iy(a b:Arr)(name:List UInt8):Option Arr×Int :=
 if bf a.dims a.attrs a.cells≠0∨bf b.dims b.attrs b.cells≠0 then (none,2)
 else if aV a.dims name<0 then (none,11)
 else if !eh a.dims b.dims then (none,13)
 else if !bP fY (a.dims.set (aV a.dims name).toNat (at_ b.dims (aV a.dims name).toNat)) b.dims∨(at_ a.dims (aV a.dims name).toNat).hi=1073741825∨(at_ b.dims (aV a.dims name).toNat).hi=1073741825 then (none,13)
 else if !bP ej a.attrs b.attrs then (none,12)
 else if 1073741824<(dj a b (aV a.dims name).toNat).hi then (none,3)
 else cn (a.dims.set (aV a.dims name).toNat (dj a b (aV a.dims name).toNat)) a.attrs (a.cells++b.cells.map (eY (aV a.dims name).toNat (byF a b (aV a.dims name).toNat)))
structure Cat (a b:Arr) (name:List UInt8) (k:Nat):Prop where
 oka:OkA a.dims a.attrs a.cells
 okb:OkA b.dims b.attrs b.cells
 hk:k<a.dims.length
 nm:(at_ a.dims k).name=name
 bef:∀ i,i<k→(at_ a.dims i).name≠name
 len:a.dims.length=b.dims.length
 nms:∀ i,i<a.dims.length→(at_ a.dims i).name=(at_ b.dims i).name
 oth:∀ i,i<a.dims.length→i≠k→at_ a.dims i=at_ b.dims i
 ha:(at_ a.dims k).hi≤1073741824
 hb:(at_ b.dims k).hi≤1073741824
 att:a.attrs=b.attrs
 hc:(dj a b k).hi≤1073741824
section
variable {a b:Arr} {name:List UInt8} {k:Nat}
def ij(a b:Arr)(k:Nat):Arr:=⟨a.dims.set k (dj a b k),a.attrs,cg (a.cells++b.cells.map (eY k (byF a b k)))⟩
theorem kx{h:Int}(hh:h≤1073741824):dW h=h:=by unfold dW;omega
theorem Cat.bounds(h:Cat a b name k):(at_ a.dims k).lo≤(at_ a.dims k).hi∧(at_ b.dims k).lo≤(at_ b.dims k).hi∧-1073741824≤(at_ a.dims k).lo∧-1073741824≤(at_ b.dims k).lo:=by
 have h1:=(h.oka.dims.2.2.1 k h.hk).1
 have h2:=(h.okb.dims.2.2.1 k (by rw[← h.len];exact h.hk)).1
 omega
theorem Cat.acell(h:Cat a b name k){c:Cell}(hc:c∈a.cells):c.at'.length=a.dims.length∧c.vals.length=a.attrs.length∧fR a.attrs c.vals=0∧∀ i,i<a.dims.length→(at_ a.dims i).lo≤at_ c.at' i∧at_ c.at' i≤dW (at_ a.dims i).hi:=by
 obtain⟨h1,h2,h3,h4⟩:=cellF_ok.1 (h.oka.cel c hc)
 exact⟨h1,h2,h4,(cw h1).1 h3⟩
theorem Cat.bcell(h:Cat a b name k){c:Cell}(hc:c∈b.cells):c.at'.length=a.dims.length∧c.vals.length=a.attrs.length∧fR a.attrs c.vals=0∧∀ i,i<a.dims.length→(at_ b.dims i).lo≤at_ c.at' i∧at_ c.at' i≤dW (at_ b.dims i).hi:=by
 obtain⟨h1,h2,h3,h4⟩:=cellF_ok.1 (h.okb.cel c hc)
 rw[h.att,h.len]
 exact⟨h1,h2,h4,(cw h1).1 h3⟩
theorem Cat.moved(h:Cat a b name k){c:Cell}(hc:c∈b.cells){i:Nat}(hi:i<a.dims.length):at_ (eY k (byF a b k) c).at' i=if i=k then at_ c.at' k+byF a b k else at_ c.at' i :=
 PZ (by rw[(h.bcell hc).1];exact hi)
theorem Cat.far(h:Cat a b name k){c:Cell}(hc:c∈b.cells):(at_ a.dims k).hi+1≤at_ (eY k (byF a b k) c).at' k∧at_ (eY k (byF a b k) c).at' k≤(dj a b k).hi:=by
 rw[h.moved hc h.hk,if_pos rfl]
 have h1:=(h.bcell hc).2.2.2 k h.hk
 rw[kx h.hb] at h1
 unfold byF dj byF at *
 dsimp only
 omega
theorem Cat.near(h:Cat a b name k){c:Cell}(hc:c∈a.cells):at_ c.at' k≤(at_ a.dims k).hi:=by
 have h1:=(h.acell hc).2.2.2 k h.hk
 rw[kx h.ha] at h1
 exact h1.2
theorem Cat.bsrt(h:Cat a b name k):(b.cells.map (eY k (byF a b k))).Pairwise ltC:=by
 rw[X4]
 refine List.Pairwise.imp_of_mem (fun {x y} hx hy hxy=>?_) h.okb.srt
 have h1:=(h.bcell hx).1
 have h2:=(h.bcell hy).1
 unfold ltC at hxy ⊢
 show bH (pF k _ x.at') (pF k _ y.at')<0
 rw[B8 (by rw[h1];exact h.hk) (by rw[h1,h2])]
 exact hxy
theorem Cat.diff(h:Cat a b name k):(a.cells++b.cells.map (eY k (byF a b k))).Pairwise cE:=by
 refine List.pairwise_append.2 ⟨bW h.oka.srt,bW h.bsrt,fun x hx y hy e=>?_⟩
 obtain⟨c,hc,rfl⟩:=Xj.1 hy
 have h1:=h.near hx
 have h2:=(h.far hc).1
 rw[e] at h1
 omega
theorem Cat.cdim(h:Cat a b name k){i:Nat}(hi:i<a.dims.length):at_ (ij a b k).dims i=if i=k then dj a b k else at_ a.dims i:=fP hi
theorem zB:∀ {ds:List Dim} {met:List (List UInt8)},(∀ d∈ds,ic d.lo d.hi=true∧cW d.name=true∧d.name ∉ met)→(ds.map Dim.name).Nodup→kc met ds=0
 | [],met,_,_=>rfl
 | d::r,met,h,hn=>by
   obtain⟨h1,h2,h3⟩:=h d Xd
   rw[XK,Ys] at hn
   simp only[kc,h1,h2]
   rw[if_neg (by simp[h3]),if_neg (by simp)]
   refine zB (fun x hx=>?_) hn.2
   obtain⟨j1,j2,j3⟩:=h x (Xa _ hx)
   refine⟨j1,j2,fun hm=>?_⟩
   rcases XF.1 hm with hm|hm
   ·exact j3 hm
   ·have e:x.name=d.name:=by simpa using hm
    exact hn.1 (Xj.2 ⟨x,hx,e⟩)
theorem fy{ds:List Dim}{ats:List Attr}(h1:1≤ds.length)(h2:ds.length≤4)(h3:∀ d∈ds,ic d.lo d.hi=true∧cW d.name=true)(h4:(ds.map Dim.name).Nodup)(h5:1≤ats.length)(h6:ats.length≤6)(h7:fb (ds.map Dim.name) ats=0):bo ds ats=0:=by
 have hd:cY ds=0:=by
  unfold cY
  rw[if_neg (by omega)]
  exact zB (fun d hd=>⟨(h3 d hd).1,(h3 d hd).2,by simp⟩) h4
 unfold bo
 rw[if_neg (by simp[hd]),if_neg (by omega)]
 exact h7
theorem Cat.cnames(h:Cat a b name k):(ij a b k).dims.map Dim.name=a.dims.map Dim.name:=by
 refine c5 (by simp[ij]) fun i hi=>?_
 have hi':i<a.dims.length:=by simpa[ij] using hi
 rw[bj (by simpa[ij] using hi),bj hi',h.cdim hi']
 split
 ·rename_i e;subst e;exact (h.nms i hi').symm
 ·rfl
theorem Cat.okc(h:Cat a b name k)(hl:a.cells.length+b.cells.length≤4096):OkA (ij a b k).dims (ij a b k).attrs (ij a b k).cells:=by
 obtain⟨d1,d2,d3,d4⟩:=h.oka.dims
 obtain⟨s1,s2,s3,s4⟩:=bA h.oka.sch
 have hcl:(ij a b k).dims.length=a.dims.length:=by simp[ij]
 have hbn:=h.bounds
 refine⟨fy (by omega) (by omega) (fun d hd=>?_) (by rw[h.cnames];exact d4) s2 s3 (by rw[h.cnames];exact s4),?_,fT h.diff,fun c hc=>?_⟩
 ·obtain⟨i,hi,rfl⟩:=cv hd
  rw[hcl] at hi
  have hh:=h.hc
  obtain⟨e1,e2⟩:=d3 i hi
  rw[h.cdim hi]
  split
  ·rename_i e;subst e
   refine⟨boundsF_ok.2 ?_,?_⟩
   ·unfold dj byF at *;dsimp only at *;omega
   ·show cW (at_ b.dims i).name=true
    rw[← h.nms i hi];exact e2
  ·exact⟨boundsF_ok.2 e1,e2⟩
 ·show (cg _).length≤4096
  rw[eE,W9,WZ];exact hl
 ·have hc':=(fD _).mem_iff.1 hc
  rcases XF.1 hc' with hc'|hc'
  ·obtain⟨e1,e2,e3,e4⟩:=h.acell hc'
   refine cellF_ok.2 ⟨by rw[hcl];exact e1,e2,(cw (by rw[hcl];exact e1)).2 fun i hi=>?_,e3⟩
   rw[hcl] at hi
   rw[h.cdim hi]
   have e5:=e4 i hi
   split
   ·rename_i e;subst e
    rw[kx h.ha] at e5
    rw[kx h.hc]
    unfold dj byF;dsimp only;omega
   ·exact e5
  ·obtain⟨c0,hc0,rfl⟩:=Xj.1 hc'
   obtain⟨e1,e2,e3,e4⟩:=h.bcell hc0
   have hlen:(eY k (byF a b k) c0).at'.length=a.dims.length:=by rw[← e1];exact EU
   refine cellF_ok.2 ⟨by rw[hcl];exact hlen,e2,(cw (by rw[hcl];exact hlen)).2 fun i hi=>?_,e3⟩
   rw[hcl] at hi
   rw[h.cdim hi]
   split
   ·rename_i e;subst e
    have hf:=h.far hc0
    rw[kx h.hc]
    refine⟨?_,hf.2⟩
    show (at_ a.dims i).lo≤_
    omega
   ·rename_i e
    rw[h.moved hc0 hi,if_neg e,h.oth i hi e]
    exact e4 i hi
theorem Cat.first(h:Cat a b name k)(hl:a.cells.length+b.cells.length≤4096)(h2:a.cells.length≤4096) :
  gD (ij a b k) ((ij a b k).dims.map Dim.lo) (((ij a b k).dims.map Dim.hi).set k (at_ a.dims k).hi)=(some a,0):=by
 have hcl:(ij a b k).dims.length=a.dims.length:=by simp[ij]
 obtain⟨d1,d2,d3,d4⟩:=h.oka.dims
 have hbn:=h.bounds
 have hcut:cQ (ij a b k).dims ((ij a b k).dims.map Dim.lo) (((ij a b k).dims.map Dim.hi).set k (at_ a.dims k).hi)=a.dims:=by
  refine c5 (by simp[cQ,hcl]) fun i hi=>?_
  have hi':i<a.dims.length:=by simp[cQ,hcl] at hi;exact hi
  have hi2:i<(ij a b k).dims.length:=by rw[hcl];exact hi'
  unfold cQ
  rw[qo hi2 (by simp[hcl,hi']),List.zip,qo (by simp[hcl,hi']) (by simp[hcl,hi']),bj hi2,fP (by simp[hcl,hi']),bj hi2,h.cdim hi']
  unfold rC
  by_cases e:i=k
  ·subst e
   rw[if_pos rfl,if_pos rfl]
   refine Dim.ext ?_ ?_ ?_
   ·exact (h.nms i hi').symm
   ·show max (at_ a.dims i).lo (at_ a.dims i).lo=_;omega
   ·show min ((at_ b.dims i).hi+byF a b i) (at_ a.dims i).hi=_;unfold byF;omega
  ·rw[if_neg e,if_neg e]
   refine Dim.ext rfl ?_ ?_
   ·show max _ _=_;omega
   ·show min _ _=_;omega
 unfold gD
 rw[if_neg (by rw[jh (h.okc hl)];simp),if_neg (by simp),hcut,if_neg ?_]
 ·have hf:(ij a b k).cells.filter (fun c=>bF a.dims c.at')=a.cells:=by
   refine BB _ h.diff h.oka.srt ?_
   rw[List.filter_append,List.filter_eq_self.2 fun c hc=>(cw (h.acell hc).1).2 (h.acell hc).2.2.2,List.filter_eq_nil_iff.2,Yt]
   ·intro c hc hw
    obtain⟨c0,hc0,rfl⟩:=Xj.1 hc
    have hlen:(eY k (byF a b k) c0).at'.length=a.dims.length:=by rw[← (h.bcell hc0).1];exact EU
    have h3:=(cw hlen).1 hw k h.hk
    have h4:=(h.far hc0).1
    rw[kx h.ha] at h3
    omega
  rw[hf]
  unfold cn
  rw[if_neg (by omega),BA h.oka.srt]
  rfl
 ·simp only[Xe,Bool.not_eq_false,XY,okD,Yj]
  intro d hd
  obtain⟨i,hi,rfl⟩:=cv hd
  have:=(d3 i hi).1
  unfold dW;omega
end
end Go.Proofs.YtpejdgkaapnekaaGreat
