import Derived.Laws.BytesArg
import Derived.Laws.Concat
import Derived.Test.YtpejdgkaapnekaaGreatIP17
import Derived.Test.YtpejdgkaapnekaaGreatIP15
import Derived.Test.YtpejdgkaapnekaaGreatIKZ
import Derived.Test.YtpejdgkaapnekaaGreatIP16
import Derived.Test.YtpejdgkaapnekaaGreatIP14
import Derived.Test.YtpejdgkaapnekaaGreatIP13
import Derived.Test.YtpejdgkaapnekaaGreatIP18
import Derived.Test.YtpejdgkaapnekaaGreatIP20
set_option linter.unusedVariables false
set_option linter.unusedSimpArgs false
set_option maxHeartbeats 1000000
namespace Go.Proofs.YtpejdgkaapnekaaGreat
open Go Go.Abs
attribute [local irreducible] aa OkC ah av aq aP
set_option maxRecDepth 10000
theorem c37(a:Arr)(hd:a.dims.length≤1000)(ha:a.attrs.length≤1000):CallA Tryz.prog 37 [bB a] [] (.tup [(false,[.d (dj (a.dims.map Dim.name))]),(false,[.d (dj (a.attrs.map Attr.name))])]) []:=by
 unfold bB
 refine enter ag Tryz.func37 rfl (by decide +kernel) rfl fun hok w0 σ0 φ0 M=>?_
 clear hok
 repeat' (first|(refine h2H ?_;refine bG (bA (dl:=[10,11]) J) (cr ?_))|refine wG ?_|(refine h2H ?_;first|refine aA J (fun h=>?_) (fun h=>?_)|refine eh 3 J (dQ (s:=4) (id:=10) (k:=1) (b:=16) J J J J) [(1,_),(5,_),(11,_),(12,_)] (q4Q J J J J) (fun (bN:Bool×Bool) (p:Nat×List (List D))=>[(4,.one (.own 10 p.1)),(13,.one (.d (.int .i64 (p.1:Int))))]) (fun (bN:Bool×Bool) (p:Nat×List (List D))=>[(10,.row 1 16 p.2),(0,.box [.d (ar a.dims),.d (al a.attrs),.d (aG a.cells)])]) (fun (p:Nat×List (List D))=>p.1≤a.dims.length∧p.2=(a.dims.take p.1).map (fun d=>bp d.name)) (fun (p:Nat×List (List D))=>a.dims.length-p.1) (0,[]) (q2Q J J) wK (fun b y=>by obtain⟨b1,b2⟩:=b;cases b1<;>cases b2<;>first|exact Imp.refl _|exact ei qN (by kernel_rfl)) ?_ (fun p ⟨hp1,hp2⟩=>?_)|refine eh 8 J (dQ (s:=5) (id:=11) (k:=1) (b:=16) J J J J) [(4,_),(24,_),(25,_)] (q3Q J J J) (fun (bN:Bool×Bool) (q:Nat×List (List D))=>[(5,.one (.own 11 q.1)),(26,.one (.d (.int .i64 (q.1:Int))))]) (fun (bN:Bool×Bool) (q:Nat×List (List D))=>[(11,.row 1 16 q.2),(10,.row 1 16 p.2),(0,.box [.d (ar a.dims),.d (al a.attrs),.d (aG a.cells)])]) (fun (q:Nat×List (List D))=>q.1≤a.attrs.length∧q.2=(a.attrs.take q.1).map (fun d=>bp d.name)) (fun (q:Nat×List (List D))=>a.attrs.length-q.1) (0,[]) (q2Q J J) wK (fun b y=>by obtain⟨b1,b2⟩:=b;cases b1<;>cases b2<;>first|exact Imp.refl _|exact ei qN (by kernel_rfl)) ?_ (fun q ⟨hq1,hq2⟩=>?_))|(show Exists _;first|refine Exists.intro ((q.1+1,q.2.take q.1++[bp (at_ a.attrs q.1).name])) (Exists.intro (false,false) ⟨?_,?_,wK,(q2Q J J),(q3Q J J J)⟩)|refine Exists.intro ((p.1+1,p.2.take p.1++[bp (at_ a.dims p.1).name])) (Exists.intro (false,false) ⟨?_,?_,wK,(q2Q J J),(q4Q J J J J)⟩)))
 ·exact⟨Hi _,rfl⟩
 ·have hlt:p.1<a.dims.length:=by simpa using h
  exact⟨hlt,il (fun d:Dim=>bp d.name) a.dims hp2 hlt⟩
 ·have hlt:p.1<a.dims.length:=by simpa using h
  show a.dims.length-(p.1+1)<a.dims.length-p.1
  omega
 ·exact⟨Hi _,rfl⟩
 ·have hlt:q.1<a.attrs.length:=by simpa using h
  exact⟨hlt,il (fun d:Attr=>bp d.name) a.attrs hq2 hlt⟩
 ·have hlt:q.1<a.attrs.length:=by simpa using h
  show a.attrs.length-(q.1+1)<a.attrs.length-q.1
  omega
 ·have hpn:p.1=a.dims.length:=by
   have:a.dims.length≤p.1:=by simpa using ‹decide ((p.1:Int)<((a.dims.map aN).length:Int))=false›
   omega
  have hqn:q.1=a.attrs.length:=by
   have:a.attrs.length≤q.1:=by simpa using ‹decide ((q.1:Int)<((a.attrs.map aL).length:Int))=false›
   omega
  have e1:p.2.take p.1=(a.dims.map Dim.name).map bp:=by
   rw[G1 (by rw[hp2];simp;omega),hp2,hpn,List.take_length,HM];rfl
  have e2:q.2.take q.1=(a.attrs.map Attr.name).map bp:=by
   rw[G1 (by rw[hq2];simp;omega),hq2,hqn,List.take_length,HM];rfl
  show AV.tup [(false,[.d (.sl 1 16 (p.2.take p.1))]),(false,[.d (.sl 1 16 (q.2.take q.1))])]=_
  rw[e1,e2]
  rfl
theorem c19:CallA Tryz.prog 19 [] [] (.one (.d (.bool true))) []:=F0
theorem Di(a:Arr)(h:ba a=0):CallA Tryz.prog 32 [bB a,bB a] [] (.one (.d (.bool true))) []:=by
 have h1:=c32 a a
 have e:p3 a a=true:=by
  unfold p3
  rw[(j5 zh).2 rfl,(j5 xK).2 rfl,(j5 xL).2 rfl,h]
  rfl
 rw[e] at h1
 exact h1
end Go.Proofs.YtpejdgkaapnekaaGreat
namespace Go.Proofs.YtpejdgkaapnekaaGreat
open Go Go.Abs
def cL(c:Cell):List Cell→List Cell
 | []=>[c]
 | x::r=>if aT x.at' c.at'<0 then x::cL c r else if aT x.at' c.at'=0 then c::r else c::x::r
end Go.Proofs.YtpejdgkaapnekaaGreat
namespace Go.Abs
open Go
variable {V:Env} {st:St} {o:Oper}
end Go.Abs
namespace Go.Proofs.YtpejdgkaapnekaaGreat
open Go Go.Abs
attribute [local irreducible] aa OkC ah av aq aP
set_option maxRecDepth 10000
mutual
def C7:Scalar→Int→Int
 | .mk _ _ _ a,most=>vP a 1 most
def vP:List Scalar→Int→Int→Int
 | [],n,_=>n
 | x::r,n,most=>if n≤most then vP r (n+C7 x (most-n)) most else n
end
def Bj(op:Int):Int:=if 4≤op∧op≤8 then 1 else if 9≤op∧op≤21 then 2 else if op=22 then 3 else 0
def Bk(v:Val):Bool:=v.kind==0&&(v.num==0&&(v.den==0&&v.str==[]))
def DR(s:Scalar):Bool :=
 if s.op=1 then mO s.val.kind s.val.num s.val.den s.val.str&&(!(s.val.kind==0)&&(s.name==[]&&(s.args.length:Int)==0))
 else if s.op=2∨s.op=3 then Bk s.val&&(s.args.length:Int)==0
 else decide (0<Bj s.op)&&(Bk s.val&&(s.name==[]&&(s.args.length:Int)==Bj s.op))
mutual
def DB:Scalar→Bool
 | .mk o n v a=>DR (.mk o n v a)&&zJ a
def zJ:List Scalar→Bool
 | []=>true
 | x::r=>DB x&&zJ r
end
end Go.Proofs.YtpejdgkaapnekaaGreat
namespace Go.Proofs.YtpejdgkaapnekaaGreat
open Go Go.Abs
mutual
def D7:Scalar→List Scalar
 | .mk o n v a=>zw a++[.mk o n v a]
def zw:List Scalar→List Scalar
 | []=>[]
 | x::r=>D7 x++zw r
end
end Go.Proofs.YtpejdgkaapnekaaGreat
namespace Go.Proofs.YtpejdgkaapnekaaGreat
open Go Go.Abs
attribute [local irreducible] aa OkC ah av aq aP
set_option maxRecDepth 10000
end Go.Proofs.YtpejdgkaapnekaaGreat
namespace Go.Proofs.YtpejdgkaapnekaaGreat
open Go Go.Abs
attribute [local irreducible] aa OkC ah av aq aP OkR wM pF vw CC
set_option maxRecDepth 10000
end Go.Proofs.YtpejdgkaapnekaaGreat
namespace Go.Proofs.YtpejdgkaapnekaaGreat
open Go Go.Abs
attribute [local irreducible] aa OkC ah av aq aP
set_option maxRecDepth 10000
end Go.Proofs.YtpejdgkaapnekaaGreat
namespace Go.Proofs.YtpejdgkaapnekaaGreat
open Go Go.Abs
attribute [local irreducible] aa OkC ah av aq aP
set_option maxRecDepth 10000
theorem DW(ds:List Dim)(names:List (List UInt8))(hn:names.length≤1048576)(h:df ds [] names=none):CallA Tryz.prog 138 [.one (.d (ar ds)),.one (.d (dj names)),.one (.d (.fn 139 []))] [] (.tup [(false,[.d .nil]),(false,[.d (.bool false)])]) []:=by
 have h1:=CM ds names hn
 rw[h] at h1;exact h1
theorem DX(ds:List Dim)(names:List (List UInt8))(hn:names.length≤1048576)(ks:List Int)(h:df ds [] names=some ks):CallA Tryz.prog 138 [.one (.d (ar ds)),.one (.d (dj names)),.one (.d (.fn 139 []))] [] (.tup [(false,[.d (aC ks)]),(false,[.d (.bool true)])]) []:=by
 have h1:=CM ds names hn
 rw[h] at h1;exact h1
theorem vb(a:Arr)(names:List (List UInt8)) :
  ((!bj [a])=true∧(dm a.dims a.attrs a.cells != 0)=true∧dp a names=(none,2)) ∨
  ((!bj [a])=false∧(dm a.dims a.attrs a.cells != 0)=false∧(((names.map bp).length:Int) != ((a.dims.map aN).length:Int))=true∧dp a names=(none,13)) ∨
  ((!bj [a])=false∧(dm a.dims a.attrs a.cells != 0)=false∧(((names.map bp).length:Int) != ((a.dims.map aN).length:Int))=false∧df a.dims [] names=none∧names.length=a.dims.length∧dp a names=(none,11)) ∨
  ((!bj [a])=false∧(dm a.dims a.attrs a.cells != 0)=false∧(((names.map bp).length:Int) != ((a.dims.map aN).length:Int))=false∧df a.dims [] names=some (ixs a.dims names)∧Tran a names∧dp a names=(some (ee a names),0)):=by
 by_cases hc:ba a=0
 rotate_left
 ·exact .inl ⟨by simp[bj,hc],by unfold ba at hc;simp[hc],by unfold dp;rw[if_pos hc]⟩
 have hv:(!bj [a])=false:=by simp[bj,hc]
 have hw:(dm a.dims a.attrs a.cells != 0)=false:=by unfold ba at hc;simp[hc]
 by_cases h2:names.length=a.dims.length
 rotate_left
 ·exact .inr (.inl ⟨hv,hw,by simp;omega,by unfold dp;rw[if_neg (by simp[hc]),if_pos (by omega)]⟩)
 have hb:(((names.map bp).length:Int) != ((a.dims.map aN).length:Int))=false:=by simp;omega
 rcases mZ a names hc with⟨e,he,h3⟩|⟨hT,h3⟩
 ·cases hs:df a.dims [] names with
  | none=>exact .inr (.inr (.inl ⟨hv,hw,hb,rfl,h2,by unfold dp;rw[if_neg (by simp[hc]),if_neg (by omega),hs]⟩))
  | some ks =>
    unfold dp at h3
    rw[if_neg (by simp[hc]),if_neg (by omega),hs] at h3
    simp only[dH] at h3
    rw[if_neg (by rw[G2];have:=(okA hc).few;omega)] at h3
    simp at h3
 ·exact .inr (.inr (.inr ⟨hv,hw,hb,by have:=tL (acc:=[]) hT.all (by simpa using hT.nd);simpa[ixs] using this,hT,h3⟩))
section
variable {a:Arr} {names:List (List UInt8)}
theorem Tran.rng(h:Tran a names):∀ i,i<(ixs a.dims names).length→0≤at_ (ixs a.dims names) i∧(at_ (ixs a.dims names) i).toNat<a.dims.length:=fun i hi=>by
 rw[dB] at hi
 obtain⟨k,h1,h2,_⟩:=h.ix hi
 rw[h1];exact⟨by omega,by simpa using h2⟩
theorem Tran.rngc(h:Tran a names){j:Nat}(hj:j<a.cells.length):∀ i,i<(ixs a.dims names).length→0≤at_ (ixs a.dims names) i∧(at_ (ixs a.dims names) i).toNat<(at_ a.cells j).at'.length:=fun i hi=>by
 rw[h.cell (aW hj)];exact h.rng i hi
end
set_option maxHeartbeats 4000000 in
theorem c42(a:Arr)(names:List (List UInt8))(hnn:names.length≤1048576):CallA Tryz.prog 42 [bB a,.one (.d (dj names))] [] (gl (dp a names)) []:=by
 unfold bB
 refine enter ag Tryz.func42 rfl (by decide +kernel) rfl fun hok w0 σ0 φ0 M=>?_
 clear hok
 rcases vb a names with⟨hv,hw,e⟩|⟨hv,hw,hb,e⟩|⟨hv,hw,hb,hs,hl,e⟩|⟨hv,hw,hb,hs,hT,e⟩
 all_goals rw[e]
 rotate_right
 have hcn:=hT.oka.few
 have hkn:(ixs a.dims names).length≤1000:=by rw[dB,hT.len];have:=hT.oka.dims.2.1;omega
 repeat' (first|(refine h1H ?_;(refine h0H ?_;first|refine cm [2] J J J J J J J J J (c96 [a]) J ?_|refine aj J J J J J J J J (DW a.dims names hnn (by assumption)) J ?_|refine bF 16 J J J J J J J J (DX a.dims names hnn _ (by assumption)) J J J ?_))|(refine h4H ?_;(refine h3H ?_;first|refine ef 16 J J J J J J J J (wR (at_ a.cells (p.1:Int).toNat).at' (ixs a.dims names) hkn (hT.rngc wB)) J J ?_|refine ef 16 J J J J J J J J (tk a.dims (ixs a.dims names) hkn hT.rng) J J ?_|refine vG 16 [10] J J J J J J J J J (zV (af a.dims (ixs a.dims names)) a.attrs (a.cells.map (jl (ixs a.dims names))) _ _ (rZ hT) (by rw[G2];omega) J (by rw[hr,G1 (by simp;omega),G1 wB,HM];rfl)) J J ?_))|refine wG ?_|(refine h2H ?_;first|refine aA J (fun h=>?_) (fun h=>?_)|refine eh 10 J (dQ (s:=8) (id:=10) (k:=2) (b:=48) J J J J) [(2,_),(4,_),(6,_),(36,_),(37,_)] (q5Q J J J J J) (fun (bN:Bool×Bool) (p:Nat×List (List D))=>[(8,.one (.own (nmA bN) p.1)),(38,.one (.d (.int .i64 (p.1:Int))))]) (fun (bN:Bool×Bool) (p:Nat×List (List D))=>[((nmA bN),.row 2 48 p.2),(0,.box [.d (ar a.dims),.d (al a.attrs),.d (aG a.cells)]),(1,.box [.d .nil,.d .nil,.d .nil])]) (fun (p:Nat×List (List D))=>p.1≤a.cells.length∧p.2=(a.cells.take p.1).map (fun c=>ay (jl (ixs a.dims names) c))) (fun (p:Nat×List (List D))=>a.cells.length-p.1) (0,[]) (q2Q J J) wK (fun b y=>by obtain⟨b1,b2⟩:=b;cases b1<;>cases b2<;>first|exact Imp.refl _|exact ei qN (by kernel_rfl)) ?_ (fun p ⟨hk,hr⟩=>?_))|(show Exists _;refine Exists.intro ((p.1+1,p.2.take p.1++[ay (jl (ixs a.dims names) (at_ a.cells p.1))])) (Exists.intro (true,false) ⟨?_,?_,wK,(q2Q J J),(q5Q J J J J J)⟩)))
 all_goals first
  | rfl
  | exact⟨Hi _,rfl⟩
  | (have hlt:p.1<a.cells.length:=by simpa using h
     exact⟨hlt,il (fun c=>ay (jl (ixs a.dims names) c)) a.cells hr hlt⟩)
  | (have hlt:p.1<a.cells.length:=by simpa using h
     show a.cells.length-(p.1+1)<a.cells.length-p.1
     omega)
  | trace_state
end Go.Proofs.YtpejdgkaapnekaaGreat
namespace Go.Abs
open Go
variable {P:Program} {c:Ctx} {T:Tab} {σ:Sig} {φ:Pl} {w:World}
theorem xC(hT:aD P T){o:Oper}{st:St}{src dst:TypeId}{x:Operand}{id n:Nat}{xs:List (List D)}{ns:List Int}(ho:o.op=.convert src dst x)(hd:aw c.n o.dst=true)
  (ht:(fl T src&&dD T dst)=true) (hx:ev st x=some (.one (.own id n))) (hl:look st.sto id=some (.row 1 1 xs)) (hxs:xs=ns.map fun n=>[.int .u8 n]) (hn:n=ns.length) :
  Loc P c o st ⟨.one (.d (.str (ns.map fun n=>UInt8.ofNat n.toNat))),[],[id],[]⟩:=by
 intro st2 hs hi _ ops rest K hk
 have hx2:ev st2 x=some (.one (.own id n)):=by
  rw[c5 hs (by simp[ho,Op.operands])];exact hx
 have hl2:look st2.sto id=some (.row 1 1 xs):=(hi id (by simp)).trans hl
 refine aJ rfl fun a w σ φ hr=>?_
 rw[GZ] at ht
 have hdst:=kr hT ht.2
 have ht2:=ht.1
 unfold fl at ht2
 split at ht2<;>(try (simp at ht2;done))
 rename_i e sz b z hlk
 split at ht2<;>(try (simp at ht2;done))
 rename_i k sz2 b2 z2 hlk2
 obtain rfl:=dM ht2
 obtain⟨_,u,_,_,hu,_,_,_,hk1,_⟩:=(hT src _ hlk).ex
 obtain⟨_,u2,_,_,hu2,_,_,_,hk2,_⟩:=(hT e _ hlk2).ex
 simp only[cX] at hk1 hk2
 subst hk1 hk2
 have h1:RepC σ φ st2.sto (.own id n) (a.eval x):=ak hr hx2
 generalize hux:a.eval x=ux at h1
 have key:∀ s:ByteArray,(convert src dst ux).run P w=.ok (.string s) w→s=⟨(ns.map fun n=>UInt8.ofNat n.toNat).toArray⟩→ns.length<2^48→∃ u w' st' σ' φ',(execOp a.eval { o with guard:=none }).run P w=.ok (.value u) w'∧Rel c st' (a.put o.dst u) w' σ' φ'∧aa P c ops rest st' K:=by
  intro s hrun hse hlen
  subst hse
  exact⟨_,w,_,σ,φ,by simp[execOp,ho,hux,hrun],hr.put (v:=.one (.d (.str (ns.map fun n=>UInt8.ofNat n.toNat)))) hd (RepC.d (.str (by simpa using hlen))),hk⟩
 cases h1 with
 | dead hxx _=>simp[bm,bn hl2] at hxx
 | ownNil h hp =>
   have h0:ns=[]:=List.eq_nil_of_length_eq_zero hn.symm
   subst h0
   exact key _ (run_convert_bytes_nil w src e hu hu2 _ _ dst hdst) rfl (by simp)
 | own hl' hn' hp =>
   rename_i B cap xs'
   rw[hl2] at hl';cases hl'
   rcases hr.inv.obj id _ hl2 with⟨_,hp0⟩|⟨B',cap',arr,t,vs,hp',hh,hsz,hc,h48,_,_,hcell,hrep,_⟩
   ·rw[hp] at hp0;cases hp0
   rw[hp] at hp';cases hp'
   have hlen:xs.length=ns.length:=by rw[hxs];simp
   refine key _ (run_convert_bytes_arg w src e hu hu2 B 0 n cap ns hn.symm (fun i hi=>?_) dst hdst) rfl (by omega)
   rw[dz hh]
   have hi':i<xs.length:=by omega
   have h3:=hcell i 0 hi' (by omega)
   rw[show 0+i=i*1+0 by omega,h3]
   have h4:xs[i]?=some [.int .u8 (ns.getD i 0)]:=by
    rw[hxs]
    have:i<ns.length:=by omega
    simp[List.getD,this]
   have h5:=hrep i 0 _ _ h4 rfl
   generalize vs i 0=v at h5
   cases h5
   rfl
theorem AF{ops:Array Oper}{st0:St}{rest:List Oper}{fr:List (Nat×AV)}{sto:Sto}{acc:List Tr}{K:St→Prop}{o:Oper}(hT:aD P T){d:Nat}{src dst:TypeId}{x:Operand}{id n:Nat}{xs:List (List D)}(ns:List Int)(ho:o.op=.convert src dst x)(hg:o.guard=none)(hdst:o.dst=some d)(hd:Nat.blt d c.n=true)
  (ht:(fl T src&&dD T dst)=true) (hx:ev ⟨fr,sto⟩ x=some (.one (.own id n))) (hl:look sto id=some (.row 1 1 xs)) (hxs:xs=ns.map fun n=>[.int .u8 n]) (hn:n=ns.length)
  (k:ah P c ops st0 rest ⟨(d,.one (.d (.str (ns.map fun n=>UInt8.ofNat n.toNat))))::fr,sto⟩ (⟨.one (.d (.str (ns.map fun n=>UInt8.ofNat n.toNat))),[],[id],[]⟩::acc) K):ah P c ops st0 (o::rest) ⟨fr,sto⟩ acc K :=
 ji hg (xC hT ho (by rw[hdst];exact hd) ht hx hl hxs hn) (by rw[hdst];exact k)
theorem BY{o:Oper}{st:St}{t ty:TypeId}{x y:Operand}{s u:List UInt8}(ho:o.op=.binOp .add t x y ty)(hd:aw c.n o.dst=true)
  (hx:ev st x=some (.one (.d (.str s)))) (hy:ev st y=some (.one (.d (.str u)))) (hl:s.length+u.length≤1000000):Loc P c o st ⟨.one (.d (.str (s++u))),[],[],[]⟩:=by
 intro st2 hs hi _ ops rest K hk
 have hx2:ev st2 x=some (.one (.d (.str s))):=by rw[c5 hs (by simp[ho,Op.operands])];exact hx
 have hy2:ev st2 y=some (.one (.d (.str u))):=by rw[c5 hs (by simp[ho,Op.operands])];exact hy
 refine aJ rfl fun a w σ φ hr=>?_
 obtain⟨hxe,hx48⟩:=nt hr hx2
 obtain⟨hye,hy48⟩:=nt hr hy2
 have hrun:=run_string_add_sum (P:=P) (w:=w) ⟨s.toArray⟩ ⟨u.toArray⟩ (by simp[ByteArray.size];omega)
 have he:(⟨s.toArray⟩:ByteArray)++⟨u.toArray⟩=⟨(s++u).toArray⟩:=by
  apply ByteArray.ext
  simp
 rw[he] at hrun
 exact⟨_,w,_,σ,φ,by simp[execOp,ho,hxe,hye,bk,binOp,hrun],hr.put (v:=.one (.d (.str (s++u)))) hd (RepC.d (.str (by simp;omega))),hk⟩
theorem DU{ops:Array Oper}{st0:St}{rest:List Oper}{fr:List (Nat×AV)}{sto:Sto}{acc:List Tr}{K:St→Prop}{o:Oper}{d:Nat}{t ty:TypeId}{x y:Operand}{s u:List UInt8}(ho:o.op=.binOp .add t x y ty)(hg:o.guard=none)(hdst:o.dst=some d)(hd:Nat.blt d c.n=true)
  (hx:ev ⟨fr,sto⟩ x=some (.one (.d (.str s)))) (hy:ev ⟨fr,sto⟩ y=some (.one (.d (.str u)))) (hl:s.length+u.length≤1000000)
  (k:ah P c ops st0 rest ⟨(d,.one (.d (.str (s++u))))::fr,sto⟩ (⟨.one (.d (.str (s++u))),[],[],[]⟩::acc) K):ah P c ops st0 (o::rest) ⟨fr,sto⟩ acc K :=
 ji hg (BY ho (by rw[hdst];exact hd) hx hy hl) (by rw[hdst];exact k)
end Go.Abs
namespace Go.Proofs.YtpejdgkaapnekaaGreat
open Go Go.Abs
attribute [local irreducible] aa OkC ah av aq aP
set_option maxRecDepth 10000
def jcN(k:Nat):Nat:=if k=0 then 54 else 56
theorem xQ(k:Nat)(a b:Arr):CallA Tryz.prog (jcN k) [bB a,bB b] [] (gl (jcF k a b)) []:=by
 unfold jcN jcF
 by_cases h:k=0
 ·rw[if_pos h,if_pos h];exact c54 a b
 ·rw[if_neg h,if_neg h];exact c56 a b
theorem D2{k:Nat}(h:k<2):([[.fn 54 []],[.fn 56 []]]:List (List D))[((k:Nat):Int).toNat]?=some [.fn (jcN k) []]:=by
 match k,h with
 | 0,_=>rfl
 | 1,_=>rfl
theorem gh{P:Program}{f:FuncId}{args:List AV}{r:Option Arr×Int}{y:Arr}(h:CallA P f args [] (gl r) [])(e:r=(some y,0)):CallA P f args [] (.tup [(true,[.d (ar y.dims),.d (al y.attrs),.d (aG y.cells)]),(false,[.d (.int .i64 0)])]) []:=by
 rw[e] at h;exact h
theorem si{P:Program}{f:FuncId}{args:List AV}{r:Option Arr×Int}{e:Int}(h:CallA P f args [] (gl r) [])(he:r=(none,e)):CallA P f args [] (.tup [(true,[.d .nil,.d .nil,.d .nil]),(false,[.d (.int .i64 e)])]) []:=by
 rw[he] at h;exact h
theorem re{x:Arr}(h:ba x=0):x.dims.length≤1000∧x.attrs.length≤1000:=by
 have hA:=okA h
 have:=hA.dims.2.1
 have:=(aV hA.sch).2.2.1
 omega
theorem Dt(x:Arr)(h:ba x=0):CallA Tryz.prog 37 [bB x] [] (.tup [(false,[.d (dj (x.dims.map Dim.name))]),(false,[.d (dj (x.attrs.map Attr.name))])]) []:=c37 x (re h).1 (re h).2
theorem ur{x:Arr}(h:ba x=0):(jJ x).length≤1048576∧(lX x).length≤1048576:=by
 have:=re h
 unfold jJ lX
 rw[G2,G2];omega
structure Err2 (r s:Option Arr×Int) (e:Int):Prop where
 eqx:r=(none,e)
 eqy:s=(none,e)
theorem Cj(k:Nat){a b:Arr}(ha:ba a=0)(hb:ba b=0)(la:a.cells.length≤60)(lb:b.cells.length≤60):(∃ e:Int,(e != e)=false∧(e != 0)=true∧Err2 (jcF k a b) (jcF k b a) e)∨∃ x y z,TwoR (jcF k a b) (jcF k b a) x y z:=by
 rcases CK k ha hb la lb with⟨e,h1,h2,h3⟩|h
 ·exact .inl ⟨e,by simp,by simpa using h1,h2,h3⟩
 ·exact .inr h
def twN(i:Nat):List UInt8:=[122,122]++[IntKind.u8.wrap (48+(i:Int))].map fun n=>UInt8.ofNat n.toNat
def twA(a:Arr):List Attr:=(List.range a.attrs.length).map fun i=>⟨twN i,(at_ a.attrs i).type⟩
def Du(a:Arr):Arr:=⟨a.dims,twA a,a.cells⟩
def dbl(a:Arr):Arr:=⟨a.dims,a.attrs++twA a,a.cells.map jc⟩
def zzN(s:List UInt8):Bool:=((s.length:Int)==3)&&((s.drop 0).take (2-0)==[122,122])
theorem rh{a:Arr}:(twA a).length=a.attrs.length:=by simp[twA]
theorem D3{i:Nat}:zzN (twN i)=true:=by simp[zzN,twN]
theorem wg{a:Arr}(ha:ba a=0)(h6:decide ((6:Int)<((a.attrs.map aL).length:Int)*2)=false)(hc:(dm a.dims (twA a) a.cells != 0)=false){i:Nat}(hz:∀ j,j<i→zzN (at_ (a.attrs.map Attr.name) j)=false)
  (hi:decide ((i:Int)<(((a.attrs.map Attr.name).map bp).length:Int))=false):eC a (Du a)=(some (dbl a),0)∧ed (dbl a) (lX a)=(some a,0):=by
 refine Aj (twA a) ha (by show dm _ _ _=0;simpa using hc) rh (by simp at h6;omega) fun n hn hm=>?_
 obtain⟨j,hj,rfl⟩:=bt hn
 obtain⟨x,hx,he⟩:=Hh.1 hm
 obtain⟨k,hk,rfl⟩:=Hh.1 hx
 have h1:=hz j (by simp at hi hj;omega)
 rw[← he] at h1
 rw[show (Attr.mk (twN k) (at_ a.attrs k).type).name=twN k from rfl,D3] at h1
 cases h1
theorem Dv{a:Arr}{n:Nat}{r:List (List D)}(hr:r=((twA a).take n).map aL)(h:decide ((n:Int)<((a.attrs.map aL).length:Int))=false):List.take n r=(twA a).map aL:=by
 have hl:=rh (a:=a)
 have hn:(twA a).length≤n:=by simp at h;omega
 rw[hr,G1 hn,G1 (by simpa using hn)]
theorem Ck{a:Arr}{n:Nat}{r:List (List D)}(hr:r=((twA a).take n).map aL)(h:n<a.attrs.length):r.take n++[[.str (twN n),.int .i64 (at_ a.attrs n).type]]=((twA a).take (n+1)).map aL:=by
 have h2:=il aL (twA a) hr (by rw[rh];exact h)
 have e:at_ (twA a) n=⟨twN n,(at_ a.attrs n).type⟩:=by
  unfold twA
  rw[aK (by simpa using h),mJ h]
 rw[e] at h2
 exact h2
theorem wh{s:List (List UInt8)}{i:Nat}(hz:∀ j,j<i→zzN (at_ s j)=false)(h:zzN (at_ s (i:Int).toNat)=false):∀ j,j<i+1→zzN (at_ s j)=false:=fun j hj=>by
 by_cases e:j=i
 ·subst e;exact h
 ·exact hz j (by omega)
theorem Dw{s:List UInt8}(h:((s.length:Int)==3)=false):zzN s=false:=by unfold zzN;rw[h];rfl
theorem Dx{s:List UInt8}(h:((s.drop 0).take (2-0)==[122,122])=false):zzN s=false:=by unfold zzN;rw[h,Bool.and_false]
theorem lt2{i:Nat}(h:decide ((i:Int)<((2:Nat):Int))=true):i<2:=by simp at h;omega
theorem GM{s:List UInt8}(h:((s.length:Int)==3)=true):2≤s.length:=by simp at h;omega
set_option maxHeartbeats 8000000 in
theorem c16(a b:Arr):CallA Tryz.prog 16 [bB a,bB b] [] (.one (.d (.bool true))) []:=by
 unfold bB
 refine enter ag Tryz.func16 rfl (by decide +kernel) rfl fun hok w0 σ0 φ0 M=>?_
 clear hok
 by_cases hv1:(decide ((60:Int)<(a.cells.length:Int))||ba a != 0)=true
 ·repeat' (first|(refine h1H ?_;(refine h0H ?_;first|refine aj J J J J J J J J (c31 _ _) J ?_|refine aj J J J J J J J J (c19) J ?_))|refine wG ?_)
  all_goals first
   | rfl
   | trace_state
 have hv1:(decide ((60:Int)<(a.cells.length:Int))||ba a != 0)=false:=by simpa using hv1
 by_cases hv2:(decide ((60:Int)<(b.cells.length:Int))||ba b != 0)=true
 ·repeat' (first|(refine h1H ?_;(refine h0H ?_;first|refine aj J J J J J J J J (c31 _ _) J ?_|refine aj J J J J J J J J (c19) J ?_))|refine wG ?_)
  all_goals first
   | rfl
   | trace_state
 have hv2:(decide ((60:Int)<(b.cells.length:Int))||ba b != 0)=false:=by simpa using hv2
 have ha:ba a=0∧a.cells.length≤60:=by
  simp only[Hx,bne_eq_false_iff_eq,HY] at hv1
  omega
 have hb:ba b=0∧b.cells.length≤60:=by
  simp only[Hx,bne_eq_false_iff_eq,HY] at hv2
  omega
 have ha6:a.attrs.length≤6:=(aV (okA ha.1).sch).2.2.1
 have hlc:((((a.cells.map jc).map ay).length:Int) != ((a.cells.map ay).length:Int))=false:=by simp
 repeat' (first|(refine h1H ?_;(refine GN ?_;refine s_e envOk J J J (dK J J J J (D2 wB) J) ?_))|(refine h1H ?_;(refine GO ?_;(fail_if_success (have:=hx));(rcases Cj i ha.1 hb.1 ha.2 hb.2 with⟨e,hee,he0,hx⟩|⟨x,y,z,hx⟩)))|(refine h1H ?_;(refine GP ?_;refine lD ag J J J J J (l:=0) (h:=2) J ⟨_,_,rfl,rfl⟩ (by omega) (GM (by assumption)) ?_))|(refine h1H ?_;(refine h0H ?_;first|refine aj J J J J J J J J (c31 _ _) J ?_|refine aj J J J J J J J J (c19) J ?_|refine aj J J J J J J J J (si (xQ _ a b) hx.eqx) J ?_|refine aj J J J J J J J J (si (xQ _ b a) hx.eqy) J ?_|refine aj J J J J J J J J (Di x hx.ok) J ?_|refine aj J J J J J J J J (c59 a.dims (twA a) a.cells) J ?_|refine aj J J J J J J J J (Di a ha.1) J ?_|refine bF 16 J J J J J J J J (gh (xQ _ a b) hx.eqx) J J J ?_|refine bF 16 J J J J J J J J (gh (xQ _ b a) hx.eqy) J J J ?_|refine bF 16 J J J J J J J J (Dt x hx.ok) J J J ?_|refine bF 16 J J J J J J J J (gh (c42 y (jJ x) (ur hx.ok).1) hx.tr) J J J ?_|refine bF 16 J J J J J J J J (gh (c50 z (lX x) (ur hx.ok).2) hx.pr) J J J ?_|refine bF 16 J J J J J J J J (Dt a ha.1) J J J ?_|refine bF 16 J J J J J J J J (gh (c54 a (Du a)) (wg ha.1 (by assumption) (by assumption) hz (by assumption)).1) J J J ?_|refine bF 16 J J J J J J J J (gh (c50 (dbl a) (lX a) (ur ha.1).2) (wg ha.1 (by assumption) (by assumption) hz (by assumption)).2) J J J ?_))|(refine h2H ?_;(show OkC _ _ (Code.region 27 _ _) (St.mk (_::_::_::_) _) _;refine bG (st':=⟨[(2,.one (.ref 0 0)),(15,.one (.ref 3 0))],[(3,.box [.d (ar a.dims),.d (al (twA a)),.d (aG a.cells)]),(0,.box [.d (ar a.dims),.d (al a.attrs),.d (aG a.cells)])]⟩) (Imp.trans (bA (dl:=[10]) J) (qG (q2Q J J) (ae (congrArg (fun x=>some (AObj.box [.d (ar a.dims),.d (D.sl 2 24 x),.d (aG a.cells)])) (Dv hr (by assumption))) (q1Q J)))) ?_))|(refine h4H ?_;(refine ET ?_;refine AF ag [IntKind.u8.wrap (48+(p.1:Int))] J J J J J J J J J ?_))|(refine h4H ?_;(refine EU ?_;refine DU J J J J J J (by simp) ?_))|refine wG ?_|(refine h1H ?_;(refine h9H ?_;refine cq J J J J (fun h=>?_) (fun h=>?_)))|(refine h2H ?_;first|refine aA J (fun h=>?_) (fun h=>?_)|refine c9 4 J [(2,_),(3,_),(32,_),(33,_)] (q4Q J J J J) (fun (i:Nat)=>[(34,.one (.d (.int .i64 (i:Int))))]) (fun (i:Nat)=>i≤2) (fun (i:Nat)=>2-i) 0 (q1Q J) ?_ (fun i hi=>?_)|refine eh 23 J (gm 3 1 10 (k:=2) (b:=24) J J (by kernel_rfl)) [(2,_),(15,_),(95,_)] (q3Q J J J) (fun (bN:Bool×Bool) (p:Nat×List (List D))=>[(96,.one (.d (.int .i64 (p.1:Int))))]) (fun (bN:Bool×Bool) (p:Nat×List (List D))=>[(3,.box [.d (ar a.dims),.own (nmA bN) p.1,.d (aG a.cells)]),((nmA bN),.row 2 24 p.2),(2,.row 1 8 [[.fn 54 []],[.fn 56 []]]),(1,.box [.d (ar b.dims),.d (al b.attrs),.d (aG b.cells)]),(0,.box [.d (ar a.dims),.d (al a.attrs),.d (aG a.cells)])]) (fun (p:Nat×List (List D))=>p.1≤a.attrs.length∧p.2=((twA a).take p.1).map aL) (fun (p:Nat×List (List D))=>a.attrs.length-p.1) (0,[]) (q1Q J) wK (fun b y=>by obtain⟨b1,b2⟩:=b;cases b1<;>cases b2<;>first|exact Imp.refl _|exact ei qN (by kernel_rfl)) ?_ (fun p ⟨hk,hr⟩=>?_)|refine c9 31 J [(2,_),(15,_),(18,_),(127,_),(128,_)] (q5Q J J J J J) (fun (k:Nat)=>[(129,.one (.d (.int .i64 (k:Int))))]) (fun (k:Nat)=>k≤a.attrs.length∧(∀ j,j<k→zzN (at_ (a.attrs.map Attr.name) j)=false)) (fun (k:Nat)=>a.attrs.length-k) 0 (q1Q J) ?_ (fun k ⟨hk2,hz⟩=>?_))|(show Exists _;first|refine Exists.intro (k+1) ⟨?_,?_,wK,(q1Q J),(q5Q J J J J J)⟩|refine Exists.intro ((p.1+1,p.2.take p.1++[[.str (twN p.1),.int .i64 (at_ a.attrs p.1).type]])) (Exists.intro (true,false) ⟨?_,?_,wK,(q1Q J),(q3Q J J J)⟩)|refine Exists.intro (i+1) ⟨?_,?_,wK,(q1Q J),(q4Q J J J J)⟩))
 all_goals first
  | rfl
  | exact Hi _
  | (have hlt:i<2:=lt2 (by assumption)
     first|exact hlt|(show 2-(i+1)<2-i;omega))
  | exact⟨Hi _,rfl⟩
  | exact⟨Hi _,fun j hj=>absurd hj (Nat.not_lt_zero j)⟩
  | (have hlt:p.1<a.attrs.length:=by simpa using ‹decide ((p.1:Int)<((a.attrs.map aL).length:Int))=true›
     first|exact⟨hlt,Ck hr hlt⟩|(show a.attrs.length-(p.1+1)<a.attrs.length-p.1;omega))
  | (have hlt:k<a.attrs.length:=by simpa using ‹decide ((k:Int)<(((a.attrs.map Attr.name).map bp).length:Int))=true›
     first|(show a.attrs.length-(k+1)<a.attrs.length-k;omega)|exact⟨hlt,wh hz (Dw (by assumption))⟩|exact⟨hlt,wh hz (Dx (by assumption))⟩)
  | skip
end Go.Proofs.YtpejdgkaapnekaaGreat
namespace Go.Proofs.YtpejdgkaapnekaaGreat
open Go Go.Abs
open Go.ChangeShapes Go.WideShapes Go.ChangeAt Go.RowKit
set_option maxRecDepth 100000 in
theorem qX(H:Type)(en:TypeId×Value→H)(W:World)(base:Nat)(args:Array Value)(ds gs:List (DataW H))(before:List MemPlace)
  (hval:∀ (j:Nat) t v,Tryz.f16.params[j]?=some t→args[j]?=some v→Value.okWide Tryz.prog W .any base t v)
  (hW:DataW.Whole en Tryz.prog Tryz.f16.params.toList Rows.algebraJoinsSpec.vars false W args.toList ds gs before) (hk:Rows.uptoSmall H (ds++gs)=true) :
  Calls Tryz.prog 16 args W fun e W'=>∃ v,e=.returned v∧Rows.algebraJoinsSpec.post en Tryz.prog Tryz.f16 false true false false W args v W':=by
 have hW':=hW
 obtain⟨p,q,hA0,hV,rfl,hfz,hnd⟩:=hW
 have hA:DataW.TrodAll en Tryz.prog W 0 (fun _=>true) true Tryz.f16.params.toList args.toList ds p:=hA0
 rw[Tryz.params16] at hA hval
 obtain⟨v0,vs0,d0,ds0,p0,q0,hargs,rfl,rfl,h0,r0⟩:=trodAll_cons hA
 obtain⟨v1,vs1,d1,ds1,p1,q1,rfl,rfl,rfl,h1,r1⟩:=trodAll_cons r0
 obtain⟨rfl,rfl,rfl⟩:=trodAll_nil r1
 obtain rfl:args=#[v0,v1]:=by cases args;simp_all
 obtain⟨rfl,rfl⟩:=trodVars_none hV
 obtain⟨cs0,rfl⟩:=qf Tryz.underlying26 (hval 0 26 v0 rfl rfl)
 obtain⟨cs1,rfl⟩:=qf Tryz.underlying26 (hval 1 26 v1 rfl rfl)
 have hbk:(Rows.uptoBulk d0+(Rows.uptoBulk d1))≤1048576:=by
  simpa[Rows.uptoSmall,Rows.uptoBulkAll] using hk
 obtain⟨f0,h0⟩:=h0
 obtain⟨f1,h1⟩:=h1
 obtain⟨a0,hl0,ha0⟩:=zd (N:=1048571) (by omega) f0 _ _ h0 (by show Rows.uptoBulk d0≤_;omega)
 obtain⟨a1,hl1,ha1⟩:=zd (N:=1048571) (by omega) f1 _ _ h1 (by show Rows.uptoBulk d1≤_;omega)
 refine ((c16 a0 a1 ).run W (sg W) (fun _=>none) [.agg cs0.toArray,.agg cs1.toArray] (Df _) ⟨⟨cs0,rfl,jD ha0⟩,⟨cs1,rfl,jD ha1⟩,trivial⟩).mono fun e W' ⟨v,σ',φ',he,hret⟩=>?_
 subst he
 have hv:v=.bool true:=by
  have h2:=RepC.d_inv hret.rep
  cases h2;rfl
 subst hv
 have hsame:∀ p∈p0++(p1++[]),W.sameAt W' p:=fun p hp=>AK hret.kept (hW'.lt p (by simpa using hp))
 have hAk:=uc hA0 hsame
 exact⟨_,rfl,_,_,_,[],_,[],hW',trodAll_mk1 (AL true),DataW.TrodAll.respare F5 F6 (by
   rw[Tryz.params16]
   intro t ht
   have ht':t=26∨t=26:=by simpa using ht
   rcases ht' with rfl|rfl<;>exact few (by omega)) hAk (fun p hp=>by
    have:=hW'.lt p (by simpa using hp)
    simpa using this),rfl,B9 hret.kept _,fun h=>by cases h⟩
end Go.Proofs.YtpejdgkaapnekaaGreat
