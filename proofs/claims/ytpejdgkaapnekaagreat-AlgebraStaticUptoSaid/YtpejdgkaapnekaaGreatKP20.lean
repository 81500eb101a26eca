import Derived.Test.YtpejdgkaapnekaaGreatKP19
import Derived.Test.YtpejdgkaapnekaaGreatKP18
import Derived.Test.YtpejdgkaapnekaaGreatKP3
set_option linter.unusedVariables false
set_option linter.unusedSimpArgs false
set_option maxHeartbeats 1000000
namespace Go.Proofs.YtpejdgkaapnekaaGreat
open Go Go.Abs
attribute [local irreducible] aa OkC ak av aq aI
set_option maxRecDepth 10000
def smT(r x:Int):Int:=IntKind.u64.wrap ((BitVec.ofInt IntKind.u64.bits (IntKind.u64.wrap (r*2^min (Int.toNat 32) IntKind.u64.bits)) ||| BitVec.ofInt IntKind.u64.bits (IntKind.u64.wrap x)).toNat:Int)
theorem yy{a b:Nat}(ha:a<4294967296)(hb:b<4294967296):((BitVec.ofInt 64 ((a:Int)*4294967296) ||| BitVec.ofInt 64 (b:Int)).toNat)=a*4294967296+b:=by
 rw[BitVec.toNat_or]
 have e1:(BitVec.ofInt 64 ((a:Int)*4294967296)).toNat=a*4294967296:=by rw[BitVec.toNat_ofInt];simp;omega
 have e2:(BitVec.ofInt 64 (b:Int)).toNat=b:=by rw[BitVec.toNat_ofInt];simp;omega
 rw[e1,e2]
 have h:=Nat.shiftLeft_add_eq_or_of_lt (i:=32) (b:=b) (by omega) a
 rw[Nat.shiftLeft_eq] at h
 exact h.symm
theorem vR{r x:Int}(hr:0≤r∧r<4294967296)(hx:0≤x∧x<4294967296):smT r x=r*4294967296+x:=by
 obtain⟨a,rfl⟩:=Xh hr.1
 obtain⟨b,rfl⟩:=Xh hx.1
 unfold smT
 rw[show ((a:Int)*2^min (Int.toNat 32) IntKind.u64.bits)=(a:Int)*4294967296 from rfl,ed (v:=(a:Int)*4294967296) (by omega) (by omega),ed (v:=(b:Int)) (by omega) (by omega)]
 have h:=yy (a:=a) (b:=b) (by omega) (by omega)
 rw[show ((BitVec.ofInt IntKind.u64.bits ((a:Int)*4294967296) ||| BitVec.ofInt IntKind.u64.bits (b:Int)).toNat)=a*4294967296+b from h]
 rw[ed (by omega) (by omega)]
 omega
theorem AD{r x d:Int}(hd:0<d∧d<4294967296)(hr:0≤r∧r<d)(hx:0≤x∧x<4294967296):0≤smT r x∧IntKind.u64.wrap (smT r x / d)=smT r x / d∧0≤smT r x / d∧smT r x / d<4294967296:=by
 have e:=vR (r:=r) (x:=x) ⟨hr.1,by omega⟩ hx
 have h0:0≤smT r x:=by omega
 have h1:0≤smT r x / d:=Int.ediv_nonneg h0 (by omega)
 have h2:smT r x / d<4294967296:=by
  refine Int.ediv_lt_of_lt_mul hd.1 ?_
  rw[e]
  have:(r+1)*4294967296≤d*4294967296:=Int.mul_le_mul_of_nonneg_right (by omega) (by omega)
  have e2:4294967296*d=d*4294967296:=XI _ _
  omega
 exact⟨h0,ed h1 (by omega),h1,h2⟩
theorem Oo{X L:List Int}{R:List (List D)}{i:Int}{r d:Int}(hX:Dg X)(hd:0<d∧d<4294967296)(h0:0≤i)(h1:i<(X.length:Int))(hr:R=L.map aw)(hl:R.length=X.length)(hL:Dg L)(hc:0≤r∧r<d)
  (hv:ag (X.drop (i+1).toNat)=ag (L.drop (i+1).toNat)*d+r) :
  -1≤i-1∧i-1<(X.length:Int)∧R.set i.toNat [.int .u32 (IntKind.u32.wrap (smT r (at_ X i.toNat) / d))]=(L.set i.toNat (IntKind.u32.wrap (smT r (at_ X i.toNat) / d))).map aw∧(R.set i.toNat [.int .u32 (IntKind.u32.wrap (smT r (at_ X i.toNat) / d))]).length=X.length ∧
  Dg (L.set i.toNat (IntKind.u32.wrap (smT r (at_ X i.toNat) / d)))∧(0≤smT r (at_ X i.toNat) % d∧smT r (at_ X i.toNat) % d<d) ∧
  ag (X.drop (i-1+1).toNat)=ag ((L.set i.toNat (IntKind.u32.wrap (smT r (at_ X i.toNat) / d))).drop (i-1+1).toNat)*d+smT r (at_ X i.toNat) % d:=by
 have hLl:L.length=X.length:=by rw[hr] at hl;simpa using hl
 obtain⟨k,rfl⟩:=Xh h0
 simp only[Xr]
 have hk:k<X.length:=by omega
 have hkL:k<L.length:=by omega
 obtain⟨a1,a2,a3,a4⟩:=AD hd hc (hX.at hk)
 have ew:IntKind.u32.wrap (smT r (at_ X k) / d)=smT r (at_ X k) / d:=by rw[j5];omega
 rw[ew]
 refine⟨by omega,by omega,by rw[hr,XW];rfl,by simpa using hl,hL.set ⟨a3,a4⟩,⟨Int.emod_nonneg _ (by omega),Int.emod_lt_of_pos _ hd.1⟩,?_⟩
 rw[show ((k:Int)-1+1).toNat=k by omega,au hk,au (l:=L.set k _) (by simpa using hkL)]
 rw[show ((k:Int)+1).toNat=k+1 by omega] at hv
 have e1:at_ (L.set k (smT r (at_ X k) / d)) k=smT r (at_ X k) / d:=by simp[at_,hkL]
 rw[e1,List.drop_set_of_lt (by omega)]
 simp only[ag]
 rw[hv]
 have e2:=vR (r:=r) (x:=at_ X k) ⟨hc.1,by omega⟩ (hX.at hk)
 have e3:=Int.mul_ediv_add_emod (smT r (at_ X k)) d
 generalize smT r (at_ X k)=T at e2 e3 ⊢
 generalize T / d=q at e3 ⊢
 generalize T % d=m at e3 ⊢
 generalize ag (L.drop (k+1))=N
 have e4:(q+4294967296*N)*d=d*q+4294967296*(N*d):=by rw[Int.add_mul,XI q d,Xx]
 rw[e4,XS]
 omega
theorem JC{X L:List Int}{i r d:Int}(hd:0<d)(h0:¬ 0≤i)(h1:-1≤i)(hc:0≤r∧r<d)(hv:ag (X.drop (i+1).toNat)=ag (L.drop (i+1).toNat)*d+r):ag L=ag X / d∧r=ag X % d:=by
 rw[show (i+1).toNat=0 by omega,List.drop_zero,List.drop_zero] at hv
 have:=Int.ediv_emod_unique (a:=ag X) (b:=d) (q:=ag L) (r:=r) hd
 have h:=this.2 ⟨by rw[hv,XI d];omega,hc.1,hc.2⟩
 exact⟨h.1.symm,h.2.symm⟩
set_option maxHeartbeats 1000000 in
theorem Si(X:List Int)(d:Int)(hX:Dg X)(hn:X.length≤400)(hd:0<d∧d<4294967296):CallA Tryz.prog 371 [.one (.d (fA X)),.one (.d (.int .u32 d))] [] (.tup [(false,[.d (bJ (ag X / d).toNat)]),(false,[.d (.int .u32 (ag X % d))])]) []:=by
 refine enter af Tryz.func371 rfl (by decide +kernel) rfl fun hok w0 σ0 φ0 M=>?_
 clear hok
 repeat' (first|(refine h1H ?_;(refine h6H ?_;refine eG envOk 10 J J J (bZ (n:=X.length) J J J J J (by simp) (by simp) (by omega) (W6 J)) J J ?_))|(refine h1H ?_;(refine Py ?_;refine s_e envOk J J J (nu J J J J (AD hd hc (hX.at (show p.1.toNat<X.length from wB))).1 hd.1 (AD hd hc (hX.at (show p.1.toNat<X.length from wB))).2.1) ?_))|(refine h1H ?_;(refine WT ?_;refine s_e envOk J J J (rA J J J J (AD hd hc (hX.at (show p.1.toNat<X.length from wB))).1 hd.1) ?_))|(refine h1H ?_;(refine h0H ?_;refine eP 40 [10] J J J J J J J J J (oQ _ p.2.2.1 _ (xN hr hl2) hL (congrArg Int.toNat (JC hd.1 (Yh h) hk hc hv).1)) J J J ?_))|refine wG ?_|(refine h2H ?_;first|refine aj J (fun h=>?_) (fun h=>?_)|refine cm 4 J [(0,_),(1,_),(6,_)] (q3Q J J J) (fun (p:Int×Int×List Int×List (List D))=>[(8,.one (.d (.int .i64 p.1))),(7,.one (.d (.int .u64 p.2.1)))]) (fun (p:Int×Int×List Int×List (List D))=>[(10,.row 1 4 p.2.2.2)]) (fun (p:Int×Int×List Int×List (List D))=>-1≤p.1∧p.1<(X.length:Int)∧p.2.2.2=p.2.2.1.map aw∧p.2.2.2.length=X.length∧Dg p.2.2.1∧(0≤p.2.1∧p.2.1<d)∧ag (X.drop (p.1+1).toNat)=ag (p.2.2.1.drop (p.1+1).toNat)*d+p.2.1) (fun (p:Int×Int×List Int×List (List D))=>(p.1+1).toNat) ((((X.map aw).length:Int)-1),0,List.replicate X.length 0,List.replicate X.length [.int .u32 0]) (q2Q J J) wK ?_ (fun p ⟨hk,hk2,hr,hl2,hL,hc,hv⟩=>?_))|(show Exists _;refine Exists.intro (((p.1-1),smT p.2.1 (at_ X p.1.toNat) % d,p.2.2.1.set p.1.toNat (IntKind.u32.wrap (smT p.2.1 (at_ X p.1.toNat) / d)),p.2.2.2.set p.1.toNat [.int .u32 (IntKind.u32.wrap (smT p.2.1 (at_ X p.1.toNat) / d))])) ⟨?_,?_,wK,(q2Q J J),(q3Q J J J)⟩))
 ·refine⟨by simp;omega,by simp;omega,by simp[aw],by simp,Dg.zeros _,⟨Int.le_refl _,hd.1⟩,?_⟩
  show ag (X.drop ((((X.map aw).length:Int)-1+1).toNat))=ag ((List.replicate X.length 0).drop ((((X.map aw).length:Int)-1+1).toNat))*d+0
  rw[WZ,show ((X.length:Int)-1+1).toNat=X.length by omega,List.drop_length,W7 (by simp)]
  simp[ag]
 ·exact Oo hX hd (Yg h) hk2 hr hl2 hL hc hv
 ·have h0:0≤p.1:=Yg h
  show (p.1-1+1).toNat<(p.1+1).toNat
  omega
 ·show AV.tup [(false,[.d (bJ (ag X / d).toNat)]),(false,[.d (.int .u32 p.2.1)])]=_
  rw[(JC hd.1 (Yh h) hk hc hv).2]
theorem Tw(n d:Nat)(hn:(dig n).length≤400)(hd:0<d∧d<4294967296):CallA Tryz.prog 371 [.one (.d (bJ n)),.one (.d (.int .u32 d))] [] (.tup [(false,[.d (bJ (n / d))]),(false,[.d (.int .u32 (n % d:Nat))])]) []:=by
 obtain⟨a1,a2,a3⟩:=dt n
 have:=Si (dig n) d a1 hn (by omega)
 rwa [a2,show ((n:Int) / (d:Int)).toNat=n / d by rw[← Int.natCast_ediv];rfl,show ((n:Int) % (d:Int))=((n % d:Nat):Int) from (Int.natCast_emod n d).symm] at this
def wid:Nat→Nat→List Int
 | 0,_=>[]
 | w+1,n=>((n % 4294967296:Nat):Int)::wid w (n / 4294967296)
theorem gk:∀ (w n:Nat),(wid w n).length=w
 | 0,_=>rfl
 | w+1,n=>by simp[wid,gk w]
theorem nP:∀ {l:List Int},Dg l→wid l.length (ag l).toNat=l
 | [],_=>rfl
 | d::r,h=>by
   obtain⟨h1,h2⟩:=h.cons
   have hb:=(eo h2).1
   have ih:=nP h2
   simp only[Xq,wid,ag]
   rw[show (d+4294967296*ag r).toNat / 4294967296=(ag r).toNat by omega,ih,show (((d+4294967296*ag r).toNat % 4294967296:Nat):Int)=d by omega]
def shV(d s:Int):Int:=IntKind.u64.wrap (IntKind.u64.wrap d*2^min s.toNat IntKind.u64.bits)
def shO(o v:Int):Int:=IntKind.u32.wrap ((BitVec.ofInt IntKind.u32.bits o ||| BitVec.ofInt IntKind.u32.bits (IntKind.u32.wrap v)).toNat:Int)
theorem gV{L:List Int}{R:List (List D)}{k:Nat}{x:Int}(hr:R=L.map aw):R.set k [.int .u32 x]=(L.set k x).map aw:=by rw[hr,XW];rfl
theorem HQ{a b s:Nat}(ha:a<2^s):a ||| b*2^s=a+b*2^s:=by
 have h:=Nat.shiftLeft_add_eq_or_of_lt ha b
 rw[Nat.shiftLeft_eq] at h
 rw[Nat.or_comm,← h,Nat.add_comm]
theorem QP{o d:Int}{s:Nat}(hs:s≤31)(ho:0≤o∧o<2^s)(hd:0≤d∧d<4294967296) :
  shV d s=d*2^s∧0≤shV d s∧(shV d s).fdiv (2^min (Int.toNat 32) IntKind.u64.bits)=d*2^s / 4294967296∧d*2^s / 4294967296<2^s∧0≤d*2^s / 4294967296 ∧
  shO o (shV d s)=o+d*2^s % 4294967296∧0≤o+d*2^s % 4294967296∧o+d*2^s % 4294967296<4294967296:=by
 obtain⟨a,rfl⟩:=Xh ho.1
 obtain⟨b,rfl⟩:=Xh hd.1
 have h2:(2:Int)^s=((2^s:Nat):Int):=by simp
 have ha:a<2^s:=by have:=ho.2;rw[h2] at this;omega
 have hb:b<4294967296:=by omega
 have hp:2^s≤2147483648:=Nat.pow_le_pow_right (by omega) hs
 have hv:shV (b:Int) s=((b*2^s:Nat):Int):=by
  unfold shV
  have hm:min ((s:Int)).toNat IntKind.u64.bits=s:=by
   show min s 64=s;omega
  have hbd:b*2^s≤4294967295*2147483648:=Nat.mul_le_mul (by omega) hp
  rw[ed (v:=(b:Int)) (by omega) (by omega),hm,h2,← Ya,ed (by omega) (by omega)]
 have hsp:2^32=2^(32-s)*2^s:=by rw[← Nat.pow_add];congr 1;omega
 have hlo:b*2^s % 4294967296=(b % 2^(32-s))*2^s:=by
  rw[show (4294967296:Nat)=2^(32-s)*2^s from hsp,Nat.mul_mod_mul_right]
 have hhi:b*2^s / 4294967296=b / 2^(32-s):=by
  rw[show (4294967296:Nat)=2^(32-s)*2^s from hsp,Nat.mul_div_mul_right _ _ (Nat.two_pow_pos s)]
 have hhl:b / 2^(32-s)<2^s:=by
  refine Yc ?_
  rw[← hsp];omega
 have hlb:(b % 2^(32-s))*2^s+2^s≤4294967296:=by
  have h1:b % 2^(32-s)+1≤2^(32-s):=Nat.mod_lt _ (Nat.two_pow_pos _)
  have h3:=Xn (2^s) h1
  rw[← hsp,X2,Nat.one_mul] at h3
  exact h3
 have hO:shO (a:Int) (shV (b:Int) s)=((a+b*2^s % 4294967296:Nat):Int):=by
  unfold shO
  rw[hv]
  generalize b*2^s=v at hlo ⊢
  simp only[j5]
  have e1:(BitVec.ofInt 32 (a:Int)).toNat=a:=by rw[BitVec.toNat_ofInt];simp;omega
  have e2:(BitVec.ofInt 32 ((v:Int) % 4294967296)).toNat=v % 4294967296:=by rw[BitVec.toNat_ofInt];simp;omega
  have e3:(BitVec.ofInt 32 (a:Int) ||| BitVec.ofInt 32 ((v:Int) % 4294967296)).toNat=a+v % 4294967296:=by
   rw[BitVec.toNat_or,e1,e2,hlo,HQ ha]
  rw[show ((BitVec.ofInt IntKind.u32.bits (a:Int) ||| BitVec.ofInt IntKind.u32.bits ((v:Int) % 4294967296)).toNat)=a+v % 4294967296 from e3]
  rw[hlo];omega
 rw[hO,hv,Bm,h2,← Ya]
 refine⟨rfl,by omega,by omega,?_,by omega,by omega,by omega,?_⟩
 ·rw[show ((b*2^s:Nat):Int) / 4294967296=((b*2^s / 4294967296:Nat):Int) by omega,hhi];omega
 ·rw[show ((b*2^s:Nat):Int) % 4294967296=((b*2^s % 4294967296:Nat):Int) by omega,hlo];omega
theorem D6{X L:List Int}{R:List (List D)}{k s:Nat}(hX:Dg X)(hs:s≤31)(hk:k<X.length)(hr:R=L.map aw)(hl:R.length=X.length+1)(hL:Dg L)(ho:at_ L k<2^s)(hv:ag (L.take k)+pw k*at_ L k=ag (X.take k)*2^s) :
  k+1≤X.length∧(R.set k [.int .u32 (shO (at_ L k) (shV (at_ X k) s))]).set (k+1) [.int .u32 (IntKind.u32.wrap ((shV (at_ X k) s).fdiv (2^min (Int.toNat 32) IntKind.u64.bits)))]=((L.set k (shO (at_ L k) (shV (at_ X k) s))).set (k+1) (IntKind.u32.wrap ((shV (at_ X k) s).fdiv (2^min (Int.toNat 32) IntKind.u64.bits)))).map aw ∧
  ((R.set k [.int .u32 (shO (at_ L k) (shV (at_ X k) s))]).set (k+1) [.int .u32 (IntKind.u32.wrap ((shV (at_ X k) s).fdiv (2^min (Int.toNat 32) IntKind.u64.bits)))]).length=X.length+1 ∧
  Dg ((L.set k (shO (at_ L k) (shV (at_ X k) s))).set (k+1) (IntKind.u32.wrap ((shV (at_ X k) s).fdiv (2^min (Int.toNat 32) IntKind.u64.bits)))) ∧
  at_ ((L.set k (shO (at_ L k) (shV (at_ X k) s))).set (k+1) (IntKind.u32.wrap ((shV (at_ X k) s).fdiv (2^min (Int.toNat 32) IntKind.u64.bits)))) (k+1)<2^s ∧
  ag (((L.set k (shO (at_ L k) (shV (at_ X k) s))).set (k+1) (IntKind.u32.wrap ((shV (at_ X k) s).fdiv (2^min (Int.toNat 32) IntKind.u64.bits)))).take (k+1))+pw (k+1)*at_ ((L.set k (shO (at_ L k) (shV (at_ X k) s))).set (k+1) (IntKind.u32.wrap ((shV (at_ X k) s).fdiv (2^min (Int.toNat 32) IntKind.u64.bits)))) (k+1)=ag (X.take (k+1))*2^s:=by
 have hLl:L.length=X.length+1:=by rw[hr] at hl;simpa using hl
 have hkL:k<L.length:=by omega
 obtain⟨a1,a2,a3,a4,a5,a6,a7,a8⟩:=QP (o:=at_ L k) (d:=at_ X k) hs ⟨(hL.at hkL).1,ho⟩ (hX.at hk)
 have hp:(2:Int)^s≤2147483648:=by
  have:=Nat.pow_le_pow_right (n:=2) (by omega) hs
  have h2:(2:Int)^s=((2^s:Nat):Int):=by simp
  omega
 have ew:IntKind.u32.wrap ((shV (at_ X k) s).fdiv (2^min (Int.toNat 32) IntKind.u64.bits))=at_ X k*2^s / 4294967296:=by rw[j5,a3];omega
 rw[ew,a6]
 have e1:at_ ((L.set k (at_ L k+at_ X k*2^s % 4294967296)).set (k+1) (at_ X k*2^s / 4294967296)) (k+1)=at_ X k*2^s / 4294967296:=by
  have:k+1<L.length:=by omega
  simp[at_,this]
 rw[e1]
 refine⟨hk,by rw[hr];simp only[XW];rfl,by simpa using hl,(hL.set ⟨a7,a8⟩).set ⟨a5,by omega⟩,a4,?_⟩
 have hs2:k<(L.set k (at_ L k+at_ X k*2^s % 4294967296)).length:=by simpa using hkL
 rw[List.take_set_of_le (Xc _),bK hs2,List.take_set_of_le (Xc _),bK hk,dX]
 have e2:at_ (L.set k (at_ L k+at_ X k*2^s % 4294967296)) k=at_ L k+at_ X k*2^s % 4294967296:=by simp[at_,hkL]
 rw[e2,Int.add_mul,← hv,Xx (pw k) (at_ X k)]
 generalize at_ X k*2^s=v
 have e3:v % 4294967296+4294967296*(v / 4294967296)=v:=by omega
 have e4:pw k*(v % 4294967296)+4294967296*pw k*(v / 4294967296)=pw k*v:=by
  conv=>rhs;rw[← e3]
  rw[XS,XI 4294967296 (pw k),Xx]
 rw[XS]
 omega
set_option maxHeartbeats 1000000 in
theorem QQ(X:List Int)(s:Nat)(hX:Dg X)(hn:X.length≤400)(hs:s≤31):CallA Tryz.prog 373 [.one (.d (fA X)),.one (.d (.int .i64 s))] [] (.one (.d (fA (wid (X.length+1) (ag X*2^s).toNat)))) []:=by
 refine enter af Tryz.func373 rfl (by decide +kernel) rfl fun hok w0 σ0 φ0 M=>?_
 clear hok
 repeat' (first|(refine h1H ?_;(refine h6H ?_;refine eG envOk 10 J J J (bZ (n:=X.length+1) J J J J J (by simp) (by simp) (by omega) (W6 J)) J J ?_))|(refine h1H ?_;(refine h7H ?_;refine jJ envOk J J (cx J J J J J J J J J (eO (gV hr) (by simp only[List.length_set,Xr];first|omega|(simp at h;omega))) J) ?_))|(refine h2H ?_;refine bm (bq (dl:=[10]) J) (cr ?_))|refine wG ?_|(refine h2H ?_;first|refine aj J (fun h=>?_) (fun h=>?_)|refine cm 3 J [(1,_),(5,_),(13,_),(14,_)] (q4Q J J J J) (fun (p:Nat×List Int×List (List D))=>[(15,.one (.d (.int .i64 (p.1:Int))))]) (fun (p:Nat×List Int×List (List D))=>[(10,.row 1 4 p.2.2)]) (fun (p:Nat×List Int×List (List D))=>p.1≤X.length∧p.2.2=p.2.1.map aw∧p.2.2.length=X.length+1∧Dg p.2.1∧at_ p.2.1 p.1<2^s∧ag (p.2.1.take p.1)+pw p.1*at_ p.2.1 p.1=ag (X.take p.1)*2^s) (fun (p:Nat×List Int×List (List D))=>X.length-p.1) (0,List.replicate (X.length+1) 0,List.replicate (X.length+1) [.int .u32 0]) (q1Q J) wK ?_ (fun p ⟨hk,hr,hl2,hL,ho,hv⟩=>?_))|(show Exists _;refine Exists.intro ((p.1+1,(p.2.1.set p.1 (shO (at_ p.2.1 p.1) (shV (at_ X p.1) s))).set (p.1+1) (IntKind.u32.wrap ((shV (at_ X p.1) s).fdiv (2^min (Int.toNat 32) IntKind.u64.bits))),(p.2.2.set p.1 [.int .u32 (shO (at_ p.2.1 p.1) (shV (at_ X p.1) s))]).set (p.1+1) [.int .u32 (IntKind.u32.wrap ((shV (at_ X p.1) s).fdiv (2^min (Int.toNat 32) IntKind.u64.bits)))])) ⟨?_,?_,wK,(q1Q J),(q4Q J J J J)⟩))
 ·have hp:(0:Int)<2^s:=Int.pow_pos (by omega)
  have e0:at_ (List.replicate (X.length+1) (0:Int)) 0=0:=by simp[at_]
  exact⟨Xk _,by simp[aw],by simp,Dg.zeros _,by show at_ (List.replicate (X.length+1) (0:Int)) 0<2^s;rw[e0];exact hp,by
   show ag ((List.replicate (X.length+1) (0:Int)).take 0)+pw 0*at_ (List.replicate (X.length+1) (0:Int)) 0=ag (X.take 0)*2^s
   rw[e0];simp[ag]⟩
 ·exact D6 hX hs (by simpa using h) hr hl2 hL ho hv
 ·have hlt:p.1<X.length:=by simpa using h
  show X.length-(p.1+1)<X.length-p.1
  omega
 ·have hge:X.length≤p.1:=by simpa using h
  have e:p.1=X.length:=by omega
  have hLl:p.2.1.length=X.length+1:=by rw[hr] at hl2;simpa using hl2
  rw[e,WY (Xc _),← bK (by omega),WY (by omega)] at hv
  show AV.one (.d (.sl 1 4 (p.2.2.take (X.length+1))))=_
  rw[← hv,← hLl,nP hL,WY (by omega),hr];rfl
theorem Ta(n s:Nat)(hn:(dig n).length≤400)(hs:s≤31):CallA Tryz.prog 373 [.one (.d (bJ n)),.one (.d (.int .i64 s))] [] (.one (.d (fA (wid ((dig n).length+1) (n*2^s))))) []:=by
 obtain⟨a1,a2,a3⟩:=dt n
 have:=QQ (dig n) s a1 hn hs
 rwa [a2,show ((n:Int)*2^s).toNat=n*2^s by
  rw[show ((n:Int)*2^s)=((n*2^s:Nat):Int) by simp];rfl] at this
set_option maxHeartbeats 1000000 in
theorem QL(X:List Int)(s:Nat)(hX:Dg X)(hn:X.length≤400)(hs:s≤31):CallA Tryz.prog 373 [.one (.d (fA X)),.one (.d (.int .i64 s))] [] (.one (.own 10 (X.length+1))) [(10,.row 1 4 ((wid (X.length+1) (ag X*2^s).toNat).map aw))]:=by
 refine enter af Tryz.func373 rfl (by decide +kernel) rfl fun hok w0 σ0 φ0 M=>?_
 clear hok
 repeat' (first|(refine h1H ?_;(refine h6H ?_;refine eG envOk 10 J J J (bZ (n:=X.length+1) J J J J J (by simp) (by simp) (by omega) (W6 J)) J J ?_))|(refine h1H ?_;(refine h7H ?_;refine jJ envOk J J (cx J J J J J J J J J (eO (gV hr) (by simp only[List.length_set,Xr];first|omega|(simp at h;omega))) J) ?_))|refine wG ?_|(refine h2H ?_;first|refine aj J (fun h=>?_) (fun h=>?_)|refine cm 3 J [(1,_),(5,_),(13,_),(14,_)] (q4Q J J J J) (fun (p:Nat×List Int×List (List D))=>[(15,.one (.d (.int .i64 (p.1:Int))))]) (fun (p:Nat×List Int×List (List D))=>[(10,.row 1 4 p.2.2)]) (fun (p:Nat×List Int×List (List D))=>p.1≤X.length∧p.2.2=p.2.1.map aw∧p.2.2.length=X.length+1∧Dg p.2.1∧at_ p.2.1 p.1<2^s∧ag (p.2.1.take p.1)+pw p.1*at_ p.2.1 p.1=ag (X.take p.1)*2^s) (fun (p:Nat×List Int×List (List D))=>X.length-p.1) (0,List.replicate (X.length+1) 0,List.replicate (X.length+1) [.int .u32 0]) (q1Q J) wK ?_ (fun p ⟨hk,hr,hl2,hL,ho,hv⟩=>?_))|(show Exists _;refine Exists.intro ((p.1+1,(p.2.1.set p.1 (shO (at_ p.2.1 p.1) (shV (at_ X p.1) s))).set (p.1+1) (IntKind.u32.wrap ((shV (at_ X p.1) s).fdiv (2^min (Int.toNat 32) IntKind.u64.bits))),(p.2.2.set p.1 [.int .u32 (shO (at_ p.2.1 p.1) (shV (at_ X p.1) s))]).set (p.1+1) [.int .u32 (IntKind.u32.wrap ((shV (at_ X p.1) s).fdiv (2^min (Int.toNat 32) IntKind.u64.bits)))])) ⟨?_,?_,wK,(q1Q J),(q4Q J J J J)⟩))
 ·have hp:(0:Int)<2^s:=Int.pow_pos (by omega)
  have e0:at_ (List.replicate (X.length+1) (0:Int)) 0=0:=by simp[at_]
  exact⟨Xk _,by simp[aw],by simp,Dg.zeros _,by show at_ (List.replicate (X.length+1) (0:Int)) 0<2^s;rw[e0];exact hp,by
   show ag ((List.replicate (X.length+1) (0:Int)).take 0)+pw 0*at_ (List.replicate (X.length+1) (0:Int)) 0=ag (X.take 0)*2^s
   rw[e0];simp[ag]⟩
 ·exact D6 hX hs (by simpa using h) hr hl2 hL ho hv
 ·have hlt:p.1<X.length:=by simpa using h
  show X.length-(p.1+1)<X.length-p.1
  omega
 ·have hge:X.length≤p.1:=by simpa using h
  have e:p.1=X.length:=by omega
  have hLl:p.2.1.length=X.length+1:=by rw[hr] at hl2;simpa using hl2
  rw[e,WY (Xc _),← bK (by omega),WY (by omega)] at hv
  have e2:wid (X.length+1) (ag X*2^s).toNat=p.2.1:=by rw[← hv,← hLl,nP hL]
  rw[e2]
  exact kB (.inl rfl) rfl rfl rfl (ab (congrArg (fun x=>some (AObj.row 1 4 x)) hr) aW)
theorem vV{l:List Int}{k:Nat}(h:Dg l)(hk:k≤l.length)(hl:k=0∨at_ l (k-1)≠0):dig (ag (l.take k)).toNat=l.take k:=by
 refine uM (h.take k) ?_
 rcases Yd k with h0|h0
 ·exact .inl (by rw[h0,List.take_zero])
 ·refine .inr ?_
  have e:(l.take k).length=k:=by simp;omega
  rw[e]
  have e2:at_ (l.take k) (k-1)=at_ l (k-1):=by
   simp only[at_,Xi]
   rw[List.getElem?_take_of_lt (by omega)]
  rw[e2]
  exact hl.resolve_left (by omega)
theorem QM(l:List Int)(n:Nat)(hn:n≤l.length)(h:Dg l)(hl:l.length≤1000):CallA Tryz.prog 374 [.one (.own 1000000 n)] [(1000000,.row 1 4 (l.map aw))] (.one (.own 1000000 (dig (ag (l.take n)).toNat).length)) [(1000000,.row 1 4 (l.map aw))]:=by
 refine enter af Tryz.func374 rfl (by decide +kernel) rfl fun hok w0 σ0 φ0 M=>?_
 clear hok
 repeat' (first|(refine h1H ?_;(refine h8H ?_;refine s_e envOk J J J (gi J J J J J J wB wB (by simp;omega)) ?_))|(refine h1H ?_;(refine h9H ?_;refine s_e envOk J J J (cz J J J J (dZ (show ((k:Int)-1).toNat<l.length from wB)) J) ?_))|refine wG ?_|(refine h1H ?_;(refine dv ?_;refine bx J J J J (fun h=>?_) (fun h=>?_)))|(refine h2H ?_;first|refine aj J (fun h=>?_) (fun h=>?_)|refine cm 1 J [] aW (fun (k:Nat)=>[(0,.one (.own 1000000 k))]) (fun (k:Nat)=>[(1000000,.row 1 4 (l.map aw))]) (fun (k:Nat)=>k≤n∧ag (l.take k)=ag (l.take n)) (fun (k:Nat)=>k) n (q1Q J) wK ?_ (fun k ⟨hk,hv⟩=>?_))|(show Exists _;refine Exists.intro (((k:Int)-1).toNat) ⟨?_,?_,wK,(q1Q J),aW⟩))
 ·exact⟨Xc _,rfl⟩
 ·have h0:(0:Int)<(k:Int):=Yg ‹decide (_<_)=true›
  have e:((k:Int)-1).toNat=k-1:=by omega
  rw[e]
  have hz:=yU (l:=l) (k:=k-1) (by omega) (by rw[← e];simpa using h)
  rw[show k-1+1=k by omega] at hz
  exact⟨by omega,by rw[← hz,hv]⟩
 ·have h0:(0:Int)<(k:Int):=Yg ‹decide (_<_)=true›
  omega
 ·have e:((k:Int)-1).toNat=k-1:=by omega
  rw[← hv,vV ‹Dg l› (by omega) (.inr (by rw[← e];simpa using h)),XU,Nat.min_eq_left (by omega)]
 ·have h0:¬ (0:Int)<(k:Int):=Yh (by simpa using h)
  rw[← hv,vV ‹Dg l› (by omega) (.inl (by omega)),XU,Nat.min_eq_left (by omega)]
end Go.Proofs.YtpejdgkaapnekaaGreat
namespace Go.Proofs.YtpejdgkaapnekaaGreat
open Go Go.Abs
theorem Ov{q v u V U E v' u':Nat}(hv:v=V*E+v')(hu:u=U*E+u')(hu':u'<E)(h:q*v≤u):q*V≤U:=by
 have h1:q*V*E≤q*v:=by rw[hv,Nat.mul_add,Nat.mul_assoc];omega
 have h2:u<(U+1)*E:=by rw[hu,X2,Nat.one_mul];omega
 have h3:q*V*E<(U+1)*E:=by omega
 have:=Nat.lt_of_mul_lt_mul_right h3
 omega
theorem Ow{x v u V U E v' u':Nat}(hv:v=V*E+v')(hv':v'<E)(hu:u=U*E+u')(h:x*(V+1)≤U):x*v≤u:=by
 have h1:x*v≤x*((V+1)*E):=Nat.mul_le_mul_left x (by rw[hv,X2,Nat.one_mul];omega)
 have h2:x*((V+1)*E)≤U*E:=by rw[← Nat.mul_assoc];exact Xn E h
 omega
structure Guess (t v1 v2 u2 q qh rh:Nat):Prop where
 eq:qh*v1+rh=t
 ge:q≤qh
theorem DV{t v1 v2 u2 q B:Nat}(hB:0<B)(h1:0<v1)(h2:v2<B)(h3:u2<B)(h:q*(v1*B+v2)≤t*B+u2):Guess t v1 v2 u2 q (t / v1) (t % v1):=by
 refine⟨by rw[Yo];exact Nat.div_add_mod t v1,(Nat.le_div_iff_mul_le h1).2 ?_⟩
 have h4:q*v1*B≤t*B+u2:=Xg (by rw[Nat.mul_add,Nat.mul_assoc];omega) h
 have h5:q*v1*B<(t+1)*B:=by rw[X2,Nat.one_mul];omega
 have:=Nat.lt_of_mul_lt_mul_right h5
 omega
theorem G4{t v1 v2 u2 q qh rh B:Nat}(g:Guess t v1 v2 u2 q qh rh)(hq:q<B)(h:q*(v1*B+v2)≤t*B+u2)(ht:B≤qh∨rh*B+u2<qh*v2):q<qh∧Guess t v1 v2 u2 q (qh-1) (rh+v1):=by
 have hlt:q<qh:=by
  refine Nat.lt_of_le_of_ne g.ge fun e=>?_
  rcases ht with ht|ht
  ·omega
  ·subst e
   have e1:q*(v1*B+v2)=q*v1*B+q*v2:=by rw[Nat.mul_add,Nat.mul_assoc]
   have e2:t*B=q*v1*B+rh*B:=by rw[← g.eq,X2]
   omega
 refine⟨hlt,?_,by omega⟩
 have:=g.eq
 obtain⟨k,rfl⟩:∃ k,qh=k+1:=⟨qh-1,by omega⟩
 rw[X2,Nat.one_mul] at this
 rw[Nat.add_sub_cancel]
 omega
theorem G5{t v1 v2 u2 q qh rh B:Nat}(g:Guess t v1 v2 u2 q qh rh)(hB:0<B)(h1:0<v1)(hqB:qh<B)(ht:qh*v2≤rh*B+u2):(qh-1)*(v1*B+v2+1)≤t*B+u2:=by
 rcases Yd qh with h0|h0
 ·subst h0;simp
 ·obtain⟨k,rfl⟩:∃ k,qh=k+1:=⟨qh-1,by omega⟩
  have e:=g.eq
  rw[Nat.add_sub_cancel]
  have e1:k*(v1*B+v2+1)=k*v1*B+k*v2+k:=by rw[Nat.mul_add,Nat.mul_add,Nat.mul_assoc,Nat.mul_one]
  have e2:t*B=k*v1*B+v1*B+rh*B:=by rw[← e,X2,X2,X2,Nat.one_mul]
  have e3:(k+1)*v2=k*v2+v2:=by rw[X2,Nat.one_mul]
  have e4:B≤v1*B:=Nat.le_mul_of_pos_left B h1
  omega
theorem G6{t v1 v2 u2 q qh rh B:Nat}(g:Guess t v1 v2 u2 q qh rh)(h2:v2<B)(hqB:qh≤B)(hr:B≤rh):qh*(v1*B+v2+1)≤t*B+u2:=by
 have e:=g.eq
 have e1:qh*(v1*B+v2+1)=qh*v1*B+qh*(v2+1):=by rw[Nat.add_assoc,Nat.mul_add,Nat.mul_assoc]
 have e2:t*B=qh*v1*B+rh*B:=by rw[← e,X2]
 have e3:qh*(v2+1)≤qh*B:=Nat.mul_le_mul_left qh h2
 have e4:qh*B≤B*B:=Xn B hqB
 have e5:B*B≤rh*B:=Xn B hr
 omega
theorem Ht{u0 u1 v1 B:Nat}(h1:0<v1)(hu0:u0≤v1)(hu1:u1<B)(hn:B≤2*v1):(u0*B+u1) / v1≤B+1:=by
 refine Nat.le_of_lt_succ ((Nat.div_lt_iff_lt_mul h1).2 ?_)
 have e1:u0*B≤v1*B:=Xn B hu0
 have e2:(B+1).succ*v1=v1*B+2*v1:=by rw[Nat.succ_mul,X2,Yo B v1];omega
 omega
def mdT(c g y:Int):Int:=IntKind.u64.wrap (c+IntKind.u64.wrap (g*IntKind.u64.wrap y))
theorem P5{c x y:Int}(hc:0≤c∧c<4294967296)(hx:0≤x∧x<4294967296)(hy:0≤y∧y<4294967296):mdT c x y=c+x*y∧0≤c+x*y∧c+x*y≤18446744073709551615:=by
 have h:=Cl hx hy
 unfold mdT
 rw[ed hy.1 (by omega),ed h.1 (by omega),ed (by omega) (by omega)]
 omega
theorem sx{l:List Int}{k:Nat}{x:Int}(h:k<l.length):at_ (l.set k x) k=x:=by simp[at_,h]
theorem E6{l:List Int}{k:Nat}(h:Dg l)(hz:∀ t,k≤t→at_ l t=0):ag l<pw k:=by
 have e:ag l=ag (l.take k)+pw (l.take k).length*ag (l.drop k):=by rw[← lM,X8]
 have e2:∀ (m:List Int),(∀ t,at_ m t=0)→ag m=0:=by
  intro m
  induction m with
  | nil=>intro _;rfl
  | cons d r ih =>
    intro hm
    have h0:d=0:=hm 0
    have h1:=ih (fun t=>hm (t+1))
    simp only[ag,h0,h1];rfl
 rw[e2 (l.drop k) (fun t=>by
  have:=hz (k+t) (by omega)
  simp only[at_,Xi,XC] at this ⊢
  exact this)] at e
 have h1:=(eo (h.take k)).2
 have h2:pw (l.take k).length≤pw k:=by
  obtain⟨m,hm⟩:∃ m,k=(l.take k).length+m:=⟨k-(l.take k).length,by simp;omega⟩
  have hp:=fQ m
  conv=>rhs;rw[hm,jj]
  have:=XG (show 1≤pw m by omega) (X7 (fQ (l.take k).length))
  omega
 omega
theorem NA{V L:List Int}{R:List (List D)}{N:Nat}{lo j n:Nat}{qh b c K:Int}(hV:Dg V)(hq:0≤qh∧qh<4294967296)(hn:V.length=n)(hj:j<n)(hlo:lo+n+1≤N)(hr:R=L.map aw)(hl:R.length=N)(hL:Dg L)(hb:0≤b∧b≤1)(hc:0≤c∧c<4294967296)
  (hz:∀ t,lo+n+1≤t→at_ L t=0) (hv:ag L+pw lo*(qh*ag (V.take j))=K+pw (lo+j)*(b+c)) :
  j+1≤n∧R.set (lo+j) [.int .u32 ((at_ L (lo+j)-IntKind.u32.wrap (mdT c qh (at_ V j))-b) % 4294967296)]=(L.set (lo+j) ((at_ L (lo+j)-IntKind.u32.wrap (mdT c qh (at_ V j))-b) % 4294967296)).map aw ∧
  (R.set (lo+j) [.int .u32 ((at_ L (lo+j)-IntKind.u32.wrap (mdT c qh (at_ V j))-b) % 4294967296)]).length=N∧Dg (L.set (lo+j) ((at_ L (lo+j)-IntKind.u32.wrap (mdT c qh (at_ V j))-b) % 4294967296)) ∧
  (0≤(if at_ L (lo+j)<IntKind.u32.wrap (mdT c qh (at_ V j))+b then (1:Int) else 0)∧(if at_ L (lo+j)<IntKind.u32.wrap (mdT c qh (at_ V j))+b then (1:Int) else 0)≤1) ∧
  (0≤(mdT c qh (at_ V j)).fdiv (2^min (Int.toNat 32) IntKind.u64.bits)∧(mdT c qh (at_ V j)).fdiv (2^min (Int.toNat 32) IntKind.u64.bits)<4294967296) ∧
  (∀ t,lo+n+1≤t→at_ (L.set (lo+j) ((at_ L (lo+j)-IntKind.u32.wrap (mdT c qh (at_ V j))-b) % 4294967296)) t=0) ∧
  ag (L.set (lo+j) ((at_ L (lo+j)-IntKind.u32.wrap (mdT c qh (at_ V j))-b) % 4294967296))+pw lo*(qh*ag (V.take (j+1)))=K+pw (lo+(j+1))*((if at_ L (lo+j)<IntKind.u32.wrap (mdT c qh (at_ V j))+b then (1:Int) else 0)+(mdT c qh (at_ V j)).fdiv (2^min (Int.toNat 32) IntKind.u64.bits)):=by
 have hLl:L.length=N:=by rw[hr] at hl;simpa using hl
 have hk:lo+j<L.length:=by omega
 obtain⟨e,h0,h1⟩:=P5 hc hq (hV.at (i:=j) (by omega))
 have hx:=hL.at hk
 rw[j5,Bm]
 refine⟨hj,gV hr,by simpa using hl,hL.set (by omega),by split<;>omega,by omega,fun t ht=>by rw[fH (by omega)];exact hz t ht,?_⟩
 rw[l9 hk,bK (by omega),show lo+(j+1)=(lo+j)+1 by omega,dX]
 generalize mdT c qh (at_ V j)=T at e ⊢
 have e1:(at_ L (lo+j)-T % 4294967296-b) % 4294967296=at_ L (lo+j)-T % 4294967296-b+4294967296*(if at_ L (lo+j)<T % 4294967296+b then (1:Int) else 0):=by split<;>omega
 rw[e1]
 generalize (if at_ L (lo+j)<T % 4294967296+b then (1:Int) else 0)=b'
 have e3:T % 4294967296+4294967296*(T / 4294967296)=T:=by omega
 generalize T % 4294967296=r at e3 ⊢
 generalize T / 4294967296=q at e3 ⊢
 have e5:pw lo*(qh*(ag (V.take j)+pw j*at_ V j))=pw lo*(qh*ag (V.take j))+pw (lo+j)*(qh*at_ V j):=by
  rw[XS,XS,jj,Xx (pw lo) (pw j),Int.mul_left_comm qh (pw j)]
 have e6:qh*at_ V j=r+4294967296*q-c:=by omega
 rw[e5,e6]
 generalize pw (lo+j)=P at hv ⊢
 generalize at_ L (lo+j)=x
 rw[show x-r-b+4294967296*b'-x=4294967296*b'-(r+b) by omega,show r+4294967296*q-c=4294967296*q+(r-c) by omega]
 have e7:P*(4294967296*b'-(r+b))=4294967296*P*b'-P*(r+b):=by rw[Int.mul_sub,← Xx,XI P 4294967296]
 have e8:P*(4294967296*q+(r-c))=4294967296*P*q+P*(r-c):=by rw[XS,← Xx,XI P 4294967296]
 have e9:4294967296*P*(b'+q)=4294967296*P*b'+4294967296*P*q:=XS _ _ _
 rw[e7,e8,e9]
 simp only[XS,Int.mul_sub] at hv ⊢
 omega
theorem P6{V L:List Int}{R:List (List D)}{N:Nat}{lo n:Nat}{qh b c K:Int}(hn:V.length=n)(hlo:lo+n+1≤N)(hr:R=L.map aw)(hl:R.length=N)(hL:Dg L)(hb:0≤b∧b≤1)(hc:0≤c∧c<4294967296)
  (hz:∀ t,lo+n+1≤t→at_ L t=0) (hv:ag L+pw lo*(qh*ag (V.take n))=K+pw (lo+n)*(b+c)) :
  R.set (lo+n) [.int .u32 ((at_ L (lo+n)-c-b) % 4294967296)]=(L.set (lo+n) ((at_ L (lo+n)-c-b) % 4294967296)).map aw ∧
  (R.set (lo+n) [.int .u32 ((at_ L (lo+n)-c-b) % 4294967296)]).length=N∧Dg (L.set (lo+n) ((at_ L (lo+n)-c-b) % 4294967296)) ∧
  (∀ t,lo+n+1≤t→at_ (L.set (lo+n) ((at_ L (lo+n)-c-b) % 4294967296)) t=0) ∧
  ag (L.set (lo+n) ((at_ L (lo+n)-c-b) % 4294967296))+pw lo*(qh*ag V)=K+pw (lo+n+1)*(if at_ L (lo+n)<c+b then (1:Int) else 0):=by
 have hLl:L.length=N:=by rw[hr] at hl;simpa using hl
 have hk:lo+n<L.length:=by omega
 have hx:=hL.at hk
 refine⟨gV hr,by simpa using hl,hL.set (by omega),fun t ht=>by rw[fH (by omega)];exact hz t ht,?_⟩
 rw[WY (by omega)] at hv
 rw[l9 hk,dX]
 have e1:(at_ L (lo+n)-c-b) % 4294967296=at_ L (lo+n)-c-b+4294967296*(if at_ L (lo+n)<c+b then (1:Int) else 0):=by split<;>omega
 rw[e1]
 generalize (if at_ L (lo+n)<c+b then (1:Int) else 0)=b'
 generalize pw (lo+n)=P at hv ⊢
 generalize at_ L (lo+n)=x
 rw[show x-c-b+4294967296*b'-x=4294967296*b'-(b+c) by omega]
 have e7:P*(4294967296*b'-(b+c))=4294967296*P*b'-P*(b+c):=by rw[Int.mul_sub,← Xx,XI P 4294967296]
 rw[e7]
 omega
theorem NB{V L:List Int}{R:List (List D)}{N:Nat}{lo j n:Nat}{s K:Int}(hV:Dg V)(hn:V.length=n)(hj:j<n)(hlo:lo+n+1≤N)(hr:R=L.map aw)(hl:R.length=N)(hL:Dg L)(hs:0≤s∧s≤1)
  (hz:∀ t,lo+n+1≤t→at_ L t=0) (hv:ag L+pw (lo+j)*s=K+pw lo*ag (V.take j)) :
  j+1≤n∧R.set (lo+j) [.int .u32 ((at_ L (lo+j)+at_ V j+s) % 4294967296)]=(L.set (lo+j) ((at_ L (lo+j)+at_ V j+s) % 4294967296)).map aw ∧
  (R.set (lo+j) [.int .u32 ((at_ L (lo+j)+at_ V j+s) % 4294967296)]).length=N∧Dg (L.set (lo+j) ((at_ L (lo+j)+at_ V j+s) % 4294967296)) ∧
  (0≤(at_ L (lo+j)+at_ V j+s) / 4294967296∧(at_ L (lo+j)+at_ V j+s) / 4294967296≤1)∧(∀ t,lo+n+1≤t→at_ (L.set (lo+j) ((at_ L (lo+j)+at_ V j+s) % 4294967296)) t=0) ∧
  ag (L.set (lo+j) ((at_ L (lo+j)+at_ V j+s) % 4294967296))+pw (lo+(j+1))*((at_ L (lo+j)+at_ V j+s) / 4294967296)=K+pw lo*ag (V.take (j+1)):=by
 have hLl:L.length=N:=by rw[hr] at hl;simpa using hl
 have hk:lo+j<L.length:=by omega
 have hx:=hL.at hk
 have hy:=hV.at (i:=j) (by omega)
 refine⟨hj,gV hr,by simpa using hl,hL.set (by omega),by omega,fun t ht=>by rw[fH (by omega)];exact hz t ht,?_⟩
 rw[l9 hk,bK (by omega),show lo+(j+1)=(lo+j)+1 by omega,dX,XS (pw lo),← Xx (pw lo),← jj]
 have e3:(at_ L (lo+j)+at_ V j+s) % 4294967296-at_ L (lo+j)=at_ V j+s-4294967296*((at_ L (lo+j)+at_ V j+s) / 4294967296):=by omega
 rw[e3]
 generalize (at_ L (lo+j)+at_ V j+s) / 4294967296=q
 generalize pw (lo+j)=P at hv ⊢
 have e7:P*(at_ V j+s-4294967296*q)=P*at_ V j+P*s-4294967296*P*q:=by rw[Int.mul_sub,XS,← Xx,XI P 4294967296]
 rw[e7]
 omega
theorem P7{V L:List Int}{R:List (List D)}{N:Nat}{lo n:Nat}{s K:Int}(hn:V.length=n)(hlo:lo+n+1≤N)(hr:R=L.map aw)(hl:R.length=N)(hL:Dg L)(hs:0≤s∧s≤1)
  (hz:∀ t,lo+n+1≤t→at_ L t=0) (hv:ag L+pw (lo+n)*s=K+pw lo*ag (V.take n)) :
  R.set (lo+n) [.int .u32 (IntKind.u32.wrap (at_ L (lo+n)+s))]=(L.set (lo+n) (IntKind.u32.wrap (at_ L (lo+n)+s))).map aw∧(L.set (lo+n) (IntKind.u32.wrap (at_ L (lo+n)+s))).length=N ∧
  Dg (L.set (lo+n) (IntKind.u32.wrap (at_ L (lo+n)+s)))∧(∀ t,lo+n+1≤t→at_ (L.set (lo+n) (IntKind.u32.wrap (at_ L (lo+n)+s))) t=0) ∧
  ∃ k:Int,0≤k∧k≤1∧ag (L.set (lo+n) (IntKind.u32.wrap (at_ L (lo+n)+s)))+pw (lo+n+1)*k=K+pw lo*ag V:=by
 have hLl:L.length=N:=by rw[hr] at hl;simpa using hl
 have hk:lo+n<L.length:=by omega
 have hx:=hL.at hk
 rw[j5]
 refine⟨gV hr,by simpa using hLl,hL.set (by omega),fun t ht=>by rw[fH (by omega)];exact hz t ht,(at_ L (lo+n)+s) / 4294967296,by omega,by omega,?_⟩
 rw[WY (by omega)] at hv
 rw[l9 hk,dX]
 have e3:(at_ L (lo+n)+s) % 4294967296-at_ L (lo+n)=s-4294967296*((at_ L (lo+n)+s) / 4294967296):=by omega
 rw[e3]
 generalize (at_ L (lo+n)+s) / 4294967296=q
 generalize pw (lo+n)=P at hv ⊢
 have e7:P*(s-4294967296*q)=P*s-4294967296*P*q:=by rw[Int.mul_sub,← Xx,XI P 4294967296]
 rw[e7]
 omega
theorem KI{N M L P q qh:Int}(hM:0<M)(hq:q=N / M)(h1:q≤qh)(hL:0≤L)(hv:L+qh*M=N):qh=q∧L=N % M:=by
 have h2:qh≤N / M:=(Int.le_ediv_iff_mul_le hM).2 (by omega)
 have e:qh=q:=by omega
 have:=Int.emod_def N M
 refine⟨e,?_⟩
 rw[this,← hq,← e,XI M qh];omega
theorem NC{N M L P q qh:Int}(hM:0<M)(hq:q=N / M)(h2:qh≤q+1)(h1:q≤qh)(hL:L<P)(hv:L+qh*M=N+P):qh=q+1:=by
 refine Classical.byContradiction fun hc=>?_
 have e:qh=q:=by omega
 have h3:=Int.ediv_mul_le N (b:=M) (by omega)
 rw[← hq,← e] at h3
 omega
theorem ND{N M L L2 P q qh k:Int}(hM:0<M)(hP:M≤P)(hq:q=N / M)(h1:qh=q+1)(hv:L+qh*M=N+P)(hk:0≤k∧k≤1)(hL2:0≤L2∧L2<P)(hv2:L2+P*k=L+M):L2=N % M:=by
 have e:=Int.emod_def N M
 rw[← hq,XI] at e
 have b1:=Int.emod_nonneg N (show M≠0 by omega)
 have b2:=Int.emod_lt_of_pos N hM
 rw[h1,Int.add_mul,Int.one_mul] at hv
 have hk':k=0∨k=1:=by omega
 rcases hk' with rfl|rfl
 ·rw[Int.mul_zero] at hv2;omega
 ·rw[Int.mul_one] at hv2;omega
end Go.Proofs.YtpejdgkaapnekaaGreat
namespace Go.Abs
open Go
variable {P:Program} {V:Env} {T:Tab} {st:St} {o:Oper} {σ:Sig} {φ:Pl} {sto:Sto}
theorem oc{t e:TypeId}{x y:Operand}{id lo m k k' b b':Nat}{ik:IntKind}{i:Int}{xs:List (List D)}{z:List D}(ho:o.op=.indexAddr t x y)(ht:bc V.T t=some (e,k',b',z))(hx:ev st x=some (.one (.sub id lo m)))
  (hl:look st.sto id=some (.row k b xs)) (hk:Nat.beq k k'=true) (hy:ev st y=some (.one (.d (.int ik i)))) (h0:0≤i) (hm:i<(m:Int)):aR V st o 0=some ⟨.one (.rref id (lo+i.toNat) 0),[],[]⟩:=by
 simp only[aR,dg,cL,ho,df,qY,hx,hy,ht,hl,hk,h0,hm,decide_true,Yf,XV]
theorem MV{w:World}(hI:HInv σ φ sto w){id n:Nat}{v:Value}(hin:bw sto id=true)(h:RepC σ φ sto (.own id n) v):RepC σ φ sto (.sub id 0 n) v:=by
 cases h with
 | ownNil h hp=>exact RepC.sub h (Xk _) (Xc _) (fun hc=>absurd hc (by omega))
 | own h hn hp =>
   rcases hI.obj _ _ h with⟨h1,h2⟩|⟨B',cap',arr,t,vs,h1,_,_,h2,_⟩
   ·rw[h2] at hp;cases hp
   ·rw[hp] at h1;cases h1
    exact RepC.sub h (by omega) (by omega) (fun _=>⟨_,_,hp,by simp⟩)
 | dead hx _=>simp[bY,hin] at hx
end Go.Abs
namespace Go.Proofs.YtpejdgkaapnekaaGreat
open Go Go.Abs
attribute [local irreducible] aa OkC ak av aq aI
set_option maxRecDepth 10000
theorem nK{t w1 w2 x2 qq:Nat}{p:Int×Int}(hp1:0≤p.1∧p.1≤4294967297)(hp2:0≤p.2∧p.2<4294967296)(hG:Guess t w1 w2 x2 qq p.1.toNat p.2.toNat)(hqB:qq<4294967296)(hle:qq*(w1*4294967296+w2)≤t*4294967296+x2)
  (ht:4294967296≤p.1∨p.2*4294967296+x2<p.1*w2):(qq:Int)<p.1∧Guess t w1 w2 x2 qq (p.1-1).toNat (p.2+w1).toNat:=by
 obtain⟨a,b⟩:=p
 obtain⟨m,rfl⟩:=Xh hp1.1
 obtain⟨k,rfl⟩:=Xh hp2.1
 simp only[Xr] at hG ht ⊢
 have:=G4 hG hqB hle (by
  rcases ht with ht|ht
  ·exact .inl (by omega)
  ·refine .inr ?_
   rw[show (m:Int)*(w2:Int)=((m*w2:Nat):Int) by simp] at ht
   omega)
 rw[show ((m:Int)-1).toNat=m-1 by omega,show ((k:Int)+(w1:Int)).toNat=k+w1 by omega]
 exact⟨by omega,this.2⟩
theorem Fk{t w1 w2 x2 qq:Nat}{p:Int×Int}(hp1:0≤p.1∧p.1≤4294967297)(h:(qq:Int)<p.1∧Guess t w1 w2 x2 qq (p.1-1).toNat (p.2+w1).toNat)(hp2:0≤p.2)(hlt:p.2+w1<4294967296) :
  (0≤p.1-1∧p.1-1≤4294967297)∧(0≤p.2+w1∧p.2+w1<4294967296)∧Guess t w1 w2 x2 qq (p.1-1).toNat (p.2+w1).toNat:=⟨by omega,by omega,h.2⟩
theorem ifb{c:Prop}[Decidable c](h:((if c then (1:Int) else 0)==0)=false):(if c then (1:Int) else 0)=1:=by
 by_cases hc:c
 ·simp[hc]
 ·simp[hc] at h
def Hid(p:Prop):Prop:=p
def yH(qq:Nat)(qh:Int):Prop:=(qq:Int)≤qh∧qh≤qq+1∧0≤qh∧qh<4294967296
theorem Fl{t w1 w2 x2 qq:Nat}{p:Int×Int}(hp1:0≤p.1∧p.1≤4294967297)(h:(qq:Int)<p.1∧Guess t w1 w2 x2 qq (p.1-1).toNat (p.2+w1).toNat)(hw2:w2<4294967296)(hge:4294967296≤p.2+w1)(hqB:qq<4294967296)
  (hup:∀ x,x*(w1*4294967296+w2+1)≤t*4294967296+x2→x≤qq):yH qq (p.1-1):=by
 have:=hup _ (G6 h.2 hw2 (by omega) (by omega))
 have:=h.2.ge
 unfold yH
 omega
theorem Ob{t w1 w2 x2 qq:Nat}{p:Int×Int}(hp1:0≤p.1∧p.1≤4294967297)(hp2:0≤p.2∧p.2<4294967296)(hG:Guess t w1 w2 x2 qq p.1.toNat p.2.toNat)(hw1:0<w1)(hlt:p.1<4294967296)(hle:p.1*w2≤p.2*4294967296+x2)
  (hup:∀ x,x*(w1*4294967296+w2+1)≤t*4294967296+x2→x≤qq):yH qq p.1:=by
 obtain⟨a,b⟩:=p
 obtain⟨m,rfl⟩:=Xh hp1.1
 obtain⟨k,rfl⟩:=Xh hp2.1
 simp only[Xr] at hG hlt hle ⊢
 have:=hup _ (G5 hG (by omega) hw1 (by omega) (by
   rw[show (m:Int)*(w2:Int)=((m*w2:Nat):Int) by simp] at hle
   omega))
 have:=hG.ge
 unfold yH
 omega
theorem WR(v:Int):0≤IntKind.u32.wrap v∧IntKind.u32.wrap v<4294967296:=by rw[j5];omega
theorem n9{L:List Int}{R:List (List D)}{N:Nat}(hr:R=L.map aw)(hl:R.length=N):L.length=N:=by rw[hr] at hl;simpa using hl
theorem nk{l:List Int}{k:Nat}(h:Dg l)(hv:ag l<pw k):∀ t,k≤t→at_ l t=0:=by
 intro t ht
 by_cases hl:t<l.length
 ·have h1:=bK hl
  have h2:=(eo (h.take t)).1
  have h3:=h.at hl
  have e:ag l=ag (l.take (t+1))+pw (l.take (t+1)).length*ag (l.drop (t+1)):=by rw[← lM,X8]
  have h4:=(eo (h.drop (t+1))).1
  have h5:=Int.mul_nonneg (X7 (fQ (l.take (t+1)).length)) h4
  refine Classical.byContradiction fun hc=>?_
  have h6:=XG (show 1≤at_ l t by omega) (X7 (fQ t))
  have h7:pw k≤pw t:=by
   obtain⟨m,rfl⟩:∃ m,t=k+m:=⟨t-k,by omega⟩
   rw[jj]
   have:=XG (show 1≤pw m by have:=fQ m;omega) (X7 (fQ k))
   omega
  omega
 ·exact qj (Yp hl)
theorem Oc{V L R:List Int}{W:List (List D)}{N:Nat}{lo n qq:Nat}{qh M:Int}(hM:M=pw lo*ag V)(hM0:0<M)(hqq:(qq:Int)=ag R / M)(ho:yH qq qh)(hr:W=L.map aw)(hl:W.length=R.length)(hL:Dg L){b:Int}
  (hb:b=0) (hv:ag L+pw lo*(qh*ag V)=ag R+pw (lo+n+1)*b):IntKind.u32.wrap qh=qq∧W=(wid R.length (ag R % M).toNat).map aw:=by
 subst hb
 have e:pw lo*(qh*ag V)=qh*M:=by rw[hM,Int.mul_left_comm]
 rw[Int.mul_zero,Int.add_zero,e] at hv
 have h:=KI (P:=0) hM0 hqq ho.1 (eo hL).1 hv
 have hq:=ho.2.2
 refine⟨by rw[j5,← h.1];omega,?_⟩
 rw[hr,← h.2,← n9 hr hl,nP hL]
theorem Od{V L L2 R:List Int}{W W2:List (List D)}{N:Nat}{lo n qq:Nat}{qh M k:Int}(hM:M=pw lo*ag V)(hM0:0<M)(hMP:M≤pw (lo+n+1))(hqq:(qq:Int)=ag R / M)(ho:yH qq qh)(hL:Dg L)(hz:∀ t,lo+n+1≤t→at_ L t=0){b:Int}
  (hb:b=1) (hv:ag L+pw lo*(qh*ag V)=ag R+pw (lo+n+1)*b) (hr2:W2=L2.map aw) (hl2:L2.length=R.length) (hL2:Dg L2) (hz2:∀ t,lo+n+1≤t→at_ L2 t=0) (hk:0≤k∧k≤1) (hv2:ag L2+pw (lo+n+1)*k=ag L+pw lo*ag V) :
  IntKind.u32.wrap (IntKind.u32.wrap qh-1)=qq∧W2=(wid R.length (ag R % M).toNat).map aw:=by
 subst hb
 have e:pw lo*(qh*ag V)=qh*M:=by rw[hM,Int.mul_left_comm]
 rw[Int.mul_one,e] at hv
 rw[← hM] at hv2
 have h1:=NC hM0 hqq ho.2.1 ho.1 (E6 hL hz) hv
 have h2:=ND hM0 hMP hqq h1 hv hk ⟨(eo hL2).1,E6 hL2 hz2⟩ hv2
 have hq:=ho.2.2
 refine⟨by simp only[j5];omega,?_⟩
 rw[hr2,← h2,← hl2,nP hL2]
set_option maxHeartbeats 2000000 in
theorem QI(V R:List Int)(VR:List (List D))(lo:Nat)(hVR:VR=V.map aw)(hn:VR.length=V.length)(hn2:2≤VR.length)(hn3:VR.length≤400)(hlo:lo+VR.length+1≤R.length)(hR:R.length≤1000)(hV:Dg V)(hRd:Dg R)(t w1 w2 x2 qq:Nat)
  (E1:IntKind.u64.wrap (at_ V ((VR.length:Int)-1).toNat)=(w1:Int)) (E2:IntKind.u64.wrap (at_ V ((VR.length:Int)-2).toNat)=(w2:Int)) (E3h:Hid (at_ R (lo+((VR.length:Int)-2).toNat)=(x2:Int))) (hw1:0<w1) (hw1b:w1<4294967296) (hw2:w2<4294967296) (hx2:x2<4294967296) (htop:t / w1≤4294967297)
  (E4:smT (IntKind.u64.wrap (at_ R (lo+VR.length))) (at_ R (lo+((VR.length:Int)-1).toNat))=(t:Int)) (hqB:qq<4294967296) (hle:qq*(w1*4294967296+w2)≤t*4294967296+x2) (hup:∀ x,x*(w1*4294967296+w2+1)≤t*4294967296+x2→x≤qq)
  (MM:Int) (hM:MM=pw lo*ag V) (hM0:0<MM) (hMP:MM≤pw (lo+VR.length+1)) (hqq:(qq:Int)=ag R / MM) (hzR:∀ t,lo+VR.length+1≤t→at_ R t=0) :
  CallA Tryz.prog 375 [.one (.sub 1000000 lo (VR.length+1)),.one (.d (.sl 1 4 VR))] [(1000000,.row 1 4 (R.map aw))] (.one (.d (.int .u32 qq))) [(1000000,.row 1 4 ((wid R.length (ag R % MM).toNat).map aw))]:=by
 have hv1:0<IntKind.u64.wrap (at_ V ((VR.length:Int)-1).toNat):=by rw[E1];omega
 have hq0:0≤smT (IntKind.u64.wrap (at_ R (lo+VR.length))) (at_ R (lo+((VR.length:Int)-1).toNat)):=by rw[E4];omega
 have htw:(t:Int) / (w1:Int)=((t / w1:Nat):Int):=(Int.natCast_ediv t w1).symm
 have htm:(t:Int) % (w1:Int)=((t % w1:Nat):Int):=(Int.natCast_emod t w1).symm
 have hqw:IntKind.u64.wrap (smT (IntKind.u64.wrap (at_ R (lo+VR.length))) (at_ R (lo+((VR.length:Int)-1).toNat)) / IntKind.u64.wrap (at_ V ((VR.length:Int)-1).toNat))=smT (IntKind.u64.wrap (at_ R (lo+VR.length))) (at_ R (lo+((VR.length:Int)-1).toNat)) / IntKind.u64.wrap (at_ V ((VR.length:Int)-1).toNat):=by
  rw[E1,E4,htw];exact ed (Yq _) (by have h:=htop;generalize t / w1=a at h ⊢;omega)
 have hv1b:IntKind.u64.wrap (at_ V ((VR.length:Int)-1).toNat)<4294967296:=by rw[E1];omega
 refine enter af Tryz.func375 rfl (by decide +kernel) rfl fun hok w0 σ0 φ0 M=>?_
 clear hok
 have htest:∀ {p:Int×Int} {b:Bool},0≤p.1→0≤p.2∧p.2<4294967296→decide (4294967296≤p.1)=false→decide (smT p.2 (at_ R (lo+((VR.length:Int)-2).toNat))<IntKind.u64.wrap (p.1*IntKind.u64.wrap (at_ V ((VR.length:Int)-2).toNat)))=b→decide (p.2*4294967296+x2<p.1*w2)=b:=by
  intro p b h0 hp h1 h2
  have h1:=Yh h1
  have hm:=Cl (x:=p.1) (y:=(w2:Int)) (by omega) (by omega)
  have E3:at_ R (lo+((VR.length:Int)-2).toNat)=(x2:Int):=E3h
  rw[E2,E3,vR hp (by omega),ed hm.1 (by omega)] at h2
  exact h2
 repeat' (first|(refine h1H ?_;(refine nW ?_;refine s_e envOk J J J (dr J J J J J (by omega) (eO hVR (by omega))) ?_))|(refine h4H ?_;(refine FG ?_;first|refine d_e envOk J J J (oc J J J J J J (by omega) (by omega)) ?_|refine d_e envOk J J J (dr J J J J J (by omega) (eO hVR (by omega))) ?_))|(refine h4H ?_;(refine Pk ?_;refine d_e envOk J J J (nu J J J J hq0 hv1 hqw) ?_))|(refine h4H ?_;(refine Ks ?_;refine d_e envOk J J J (rA J J J J hq0 hv1) ?_))|refine wG ?_|(refine h2H ?_;first|refine aj J (fun h=>?_) (fun h=>?_)|refine cm 4 J [(0,_),(1,_),(5,_)] (q3Q J J J) (fun (p:Int×Int)=>[(7,.one (.d (.int .u64 p.1))),(8,.one (.d (.int .u64 p.2)))]) (fun (p:Int×Int)=>[(1000000,.row 1 4 (R.map aw))]) (fun (p:Int×Int)=>(0≤p.1∧p.1≤4294967297)∧(0≤p.2∧p.2<4294967296)∧Guess t w1 w2 x2 qq p.1.toNat p.2.toNat) (fun (p:Int×Int)=>p.1.toNat) (smT (IntKind.u64.wrap (at_ R (lo+VR.length))) (at_ R (lo+((VR.length:Int)-1).toNat)) / IntKind.u64.wrap (at_ V ((VR.length:Int)-1).toNat),smT (IntKind.u64.wrap (at_ R (lo+VR.length))) (at_ R (lo+((VR.length:Int)-1).toNat)) % IntKind.u64.wrap (at_ V ((VR.length:Int)-1).toNat)) (q2Q J J) wK ?_ (fun p ⟨hp1,hp2,hG⟩=>?_))|(refine h4H ?_;(refine OO ?_;refine Ei J J (fun h=>?_) (fun h=>?_)))|(show Exists _;first|refine Exists.intro (((p.1-1),p.2+IntKind.u64.wrap (at_ V ((VR.length:Int)-1).toNat))) ⟨?_,?_,wK,(q2Q J J),(q3Q J J J)⟩|refine Exists.intro ((IntKind.u64.wrap (p.1-1),p.2+IntKind.u64.wrap (at_ V ((VR.length:Int)-1).toNat))) ⟨?_,?_,wK,(q2Q J J),(q3Q J J J)⟩))
 ·show (0≤_ / _∧_ / _≤_)∧(0≤_ % _∧_ % _<_)∧Guess t w1 w2 x2 qq (Int.toNat (_ / _)) (Int.toNat (_ % _))
  rw[E1,E4,htw,htm]
  have h1:t % w1<w1:=Nat.mod_lt _ hw1
  refine⟨by generalize t / w1=a at htop ⊢;omega,by generalize t % w1=a at h1 ⊢;omega,DV (B:=4294967296) (by omega) hw1 hw2 hx2 hle⟩
 rename_i h1 h2
 have st:=nK hp1 hp2 hG hqB hle (.inr (Yg (htest hp1.1 hp2 h1 h2)))
 have out:=Fl hp1 st hw2 (by have h:=Yg h;rw[E1] at h;exact h) hqB hup
 have e:IntKind.u64.wrap (p.1-1)=p.1-1:=ed (by omega) (by omega)
 rw[← e] at out
 generalize IntKind.u64.wrap (p.1-1)=qh at out ⊢
 clear h1 h2 h e st
 rotate_left
 ·rename_i h1 h2
  have st:=nK hp1 hp2 hG hqB hle (.inr (Yg (htest hp1.1 hp2 h1 h2)))
  have e:IntKind.u64.wrap (p.1-1)=p.1-1:=ed (by omega) (by omega)
  show (0≤_∧_≤_)∧(0≤p.2+IntKind.u64.wrap _∧p.2+IntKind.u64.wrap _<_)∧Guess t w1 w2 x2 qq (IntKind.u64.wrap (p.1-1)).toNat (p.2+IntKind.u64.wrap _).toNat
  have h:=Yh h
  rw[E1] at h ⊢
  rw[e]
  exact Fk hp1 st hp2.1 (by omega)
 ·rename_i h1 h2
  have st:=nK hp1 hp2 hG hqB hle (.inr (Yg (htest hp1.1 hp2 h1 h2)))
  have e:IntKind.u64.wrap (p.1-1)=p.1-1:=ed (by omega) (by omega)
  show (IntKind.u64.wrap (p.1-1)).toNat<p.1.toNat
  omega
 rename_i h1
 have out:=Ob hp1 hp2 hG hw1 (by have:=Yh h1;omega) (by have:=Yh (htest hp1.1 hp2 h1 h);omega) hup
 generalize p.1=qh at out ⊢
 clear h1 h
 rotate_left
 rename_i h1
 have st:=nK hp1 hp2 hG hqB hle (.inl (by simpa using h1))
 have out:=Fl hp1 st hw2 (by have h:=Yg h;rw[E1] at h;exact h) hqB hup
 generalize p.1-1=qh at out ⊢
 clear h1 h st
 rotate_left
 ·rename_i h1
  have st:=nK hp1 hp2 hG hqB hle (.inl (by simpa using h1))
  show (0≤_∧_≤_)∧(0≤p.2+IntKind.u64.wrap _∧p.2+IntKind.u64.wrap _<_)∧Guess t w1 w2 x2 qq (p.1-1).toNat (p.2+IntKind.u64.wrap _).toNat
  have h:=Yh h
  rw[E1] at h ⊢
  exact Fk hp1 st hp2.1 (by omega)
 ·rename_i h1
  have st:=nK hp1 hp2 hG hqB hle (.inl (by simpa using h1))
  show (p.1-1).toNat<p.1.toNat
  omega
 all_goals clear hp1 hp2 hG htest hq0 hqw hv1 hv1b
 all_goals have top:∀ r:Nat×Int×Int×List Int×List (List D),r.1≤VR.length→VR.length≤r.1→r.2.2.2.2=r.2.2.2.1.map aw→r.2.2.2.2.length=R.length→Dg r.2.2.2.1→(0≤r.2.1∧r.2.1≤1)→(0≤r.2.2.1∧r.2.2.1<4294967296)→(∀ t,lo+VR.length+1≤t→at_ r.2.2.2.1 t=0)→ag r.2.2.2.1+pw lo*(qh*ag (V.take r.1))=ag R+pw (lo+r.1)*(r.2.1+r.2.2.1)→_ :=
  fun r h1 h2 hr hl hL hb hc hz hv=>P6 hn.symm hlo hr hl hL hb hc hz (by rw[show r.1=VR.length from Nat.le_antisymm h1 h2] at hv;exact hv)
 repeat' (first|(refine h1H ?_;(refine nW ?_;first|refine s_e envOk J J J (oc J J J J J J (by omega) (by omega)) ?_|refine s_e envOk J J J (dr J J J J J wB (eO hVR wB)) ?_))|(refine h1H ?_;(refine h0H ?_;first|refine ae J J J J J J J J (FQ _ _ _ (hL.at (Xz (show lo+r.1<R.length from (by omega)) (Nat.le_of_eq (n9 hr hl).symm))) (WR _) hb) J ?_|refine ae J J J J J J J J (FQ _ _ _ (hL.at (Xz (show lo+VR.length<R.length from (by omega)) (Nat.le_of_eq (n9 hr hl).symm))) hc hb) J ?_))|(refine h4H ?_;(refine FG ?_;first|refine d_e envOk J J J (oc J J J J J J (by omega) (by omega)) ?_|refine d_e envOk J J J (dr J J J J J wB (eO hVR wB)) ?_))|(refine h4H ?_;(refine h3H ?_;refine d_l J J (bM J J J J J J (Bz _ _ _ (hL4.at (Xz (show lo+w.1<R.length from wB) (Nat.le_of_eq (n9 hr4 hl4).symm))) (hV.at (Xz (show w.1<VR.length from wB) (Nat.le_of_eq hn))) hb4) J) ?_))|refine wG ?_|(refine h2H ?_;first|refine aj J (fun h=>?_) (fun h=>?_)|refine cm 21 J [(0,_),(1,_),(5,_),(7,_),(127,_)] (q5Q J J J J J) (fun (w:Nat×Int×List Int×List (List D))=>[(128,.one (.d (.int .i64 (w.1:Int)))),(12,.one (.d (.int .u32 w.2.1)))]) (fun (w:Nat×Int×List Int×List (List D))=>[(1000000,.row 1 4 w.2.2.2)]) (fun (w:Nat×Int×List Int×List (List D))=>w.1≤VR.length∧w.2.2.2=w.2.2.1.map aw∧w.2.2.2.length=R.length∧Dg w.2.2.1∧(0≤w.2.1∧w.2.1≤1)∧(∀ t,lo+VR.length+1≤t→at_ w.2.2.1 t=0)∧ag w.2.2.1+pw (lo+w.1)*w.2.1=ag (r.2.2.2.1.set (lo+VR.length) ((at_ r.2.2.2.1 (lo+VR.length)-r.2.2.1-r.2.1) % 4294967296))+pw lo*ag (V.take w.1)) (fun (w:Nat×Int×List Int×List (List D))=>VR.length-w.1) (0,0,r.2.2.2.1.set (lo+VR.length) ((at_ r.2.2.2.1 (lo+VR.length)-r.2.2.1-r.2.1) % 4294967296),r.2.2.2.2.set (lo+VR.length) [.int .u32 ((at_ r.2.2.2.1 (lo+VR.length)-r.2.2.1-r.2.1) % 4294967296)]) (q2Q J J) wK ?_ (fun w ⟨hj4,hr4,hl4,hL4,hb4,hz4,hv4⟩=>?_)|refine cm 10 J [(0,_),(1,_),(5,_),(7,_),(79,_)] (q5Q J J J J J) (fun (r:Nat×Int×Int×List Int×List (List D))=>[(80,.one (.d (.int .i64 (r.1:Int)))),(9,.one (.d (.int .u32 r.2.1))),(10,.one (.d (.int .u64 r.2.2.1)))]) (fun (r:Nat×Int×Int×List Int×List (List D))=>[(1000000,.row 1 4 r.2.2.2.2)]) (fun (r:Nat×Int×Int×List Int×List (List D))=>r.1≤VR.length∧r.2.2.2.2=r.2.2.2.1.map aw∧r.2.2.2.2.length=R.length∧Dg r.2.2.2.1∧(0≤r.2.1∧r.2.1≤1)∧(0≤r.2.2.1∧r.2.2.1<4294967296)∧(∀ t,lo+VR.length+1≤t→at_ r.2.2.2.1 t=0)∧ag r.2.2.2.1+pw lo*(qh*ag (V.take r.1))=ag R+pw (lo+r.1)*(r.2.1+r.2.2.1)) (fun (r:Nat×Int×Int×List Int×List (List D))=>VR.length-r.1) (0,0,0,R,R.map aw) (q3Q J J J) wK ?_ (fun r ⟨hj,hr,hl,hL,hb,hc,hz,hv⟩=>?_))|(show Exists _;first|refine Exists.intro ((r.1+1,(if at_ r.2.2.2.1 (lo+r.1)<IntKind.u32.wrap (mdT r.2.2.1 qh (at_ V r.1))+r.2.1 then 1 else 0),(mdT r.2.2.1 qh (at_ V r.1)).fdiv (2^min (Int.toNat 32) IntKind.u64.bits),r.2.2.2.1.set (lo+r.1) ((at_ r.2.2.2.1 (lo+r.1)-IntKind.u32.wrap (mdT r.2.2.1 qh (at_ V r.1))-r.2.1) % 4294967296),r.2.2.2.2.set (lo+r.1) [.int .u32 ((at_ r.2.2.2.1 (lo+r.1)-IntKind.u32.wrap (mdT r.2.2.1 qh (at_ V r.1))-r.2.1) % 4294967296)])) ⟨?_,?_,wK,(q3Q J J J),(q5Q J J J J J)⟩|refine Exists.intro ((w.1+1,(at_ w.2.2.1 (lo+w.1)+at_ V w.1+w.2.1) / 4294967296,w.2.2.1.set (lo+w.1) ((at_ w.2.2.1 (lo+w.1)+at_ V w.1+w.2.1) % 4294967296),w.2.2.2.set (lo+w.1) [.int .u32 ((at_ w.2.2.1 (lo+w.1)+at_ V w.1+w.2.1) % 4294967296)])) ⟨?_,?_,wK,(q2Q J J),(q5Q J J J J J)⟩))
 all_goals first
  | exact⟨Xk _,rfl,by simp,hRd,⟨Int.le_refl _,by show (0:Int)≤1;omega⟩,⟨Int.le_refl _,by show (0:Int)<4294967296;omega⟩,hzR,by
    show ag R+pw lo*(qh*ag (V.take 0))=ag R+pw (lo+0)*(0+0)
    rw[List.take_zero];simp[ag]⟩
  | exact NA hV out.2.2 hn.symm (by simpa using h) hlo hr hl hL hb hc hz hv
  | (have hlt:r.1<VR.length:=by simpa using h
     show VR.length-(r.1+1)<VR.length-r.1
     omega)
  | (obtain⟨t1,t2,t3,t4,t5⟩:=top r hj (by simpa using ‹decide ((r.1:Int)<(VR.length:Int))=false›) hr hl hL hb hc hz hv
     exact⟨Xk _,t1,t2,t3,⟨Int.le_refl _,by show (0:Int)≤1;omega⟩,t4,by
      show _+pw (lo+0)*0=_+pw lo*ag (V.take 0)
      rw[List.take_zero];simp[ag]⟩)
  | exact NB hV hn.symm (by simpa using h) hlo hr4 hl4 hL4 hb4 hz4 hv4
  | (have hlt:w.1<VR.length:=by simpa using h
     show VR.length-(w.1+1)<VR.length-w.1
     omega)
  | (obtain⟨t1,t2,t3,t4,t5⟩:=top r hj (by simpa using ‹decide ((r.1:Int)<(VR.length:Int))=false›) hr hl hL hb hc hz hv
     obtain⟨f1,f2⟩:=Oc (N:=0) hM hM0 hqq out t1 t2 t3 (eq_of_beq ‹((if at_ r.2.2.2.1 (lo+(VR.length:Int).toNat)<r.2.2.1+r.2.1 then (1:Int) else 0)==0)=true›) t5
     exact kB (.inl rfl) rfl rfl (congrArg (fun x=>AV.one (.d (.int .u32 x))) f1) (ab (congrArg (fun x=>some (AObj.row 1 4 x)) f2) aW))
  | (obtain⟨t1,t2,t3,t4,t5⟩:=top r hj (by simpa using ‹decide ((r.1:Int)<(VR.length:Int))=false›) hr hl hL hb hc hz hv
     have ew:w.1=VR.length:=Nat.le_antisymm hj4 (by simpa using h)
     rw[ew] at hv4
     obtain⟨u1,u2,u3,u4,k,u5,u6,u7⟩:=P7 hn.symm hlo hr4 hl4 hL4 hb4 hz4 hv4
     obtain⟨f1,f2⟩:=Od (W:=[]) (N:=0) hM hM0 hMP hqq out t3 t4 (ifb ‹((if at_ r.2.2.2.1 (lo+(VR.length:Int).toNat)<r.2.2.1+r.2.1 then (1:Int) else 0)==0)=false›) t5 u1 u2 u3 u4 ⟨u5,u6⟩ u7
     exact kB (.inl rfl) rfl rfl (congrArg (fun x=>AV.one (.d (.int .u32 x))) f1) (ab (congrArg (fun x=>some (AObj.row 1 4 x)) f2) aW))
  | skip
end Go.Proofs.YtpejdgkaapnekaaGreat
namespace Go.Proofs.YtpejdgkaapnekaaGreat
open Go Go.Abs
theorem Hr{V:List Int}{n:Nat}(hn:V.length=n+2):ag V=ag (V.take n)+pw n*(at_ V n+4294967296*at_ V (n+1)):=by
 have h1:=bK (l:=V) (k:=n+1) (by omega)
 have h2:=bK (l:=V) (k:=n) (by omega)
 rw[show n+1+1=V.length by omega,XT,h2,dX] at h1
 rw[h1,XS,← Xx,XI (pw n) 4294967296]
 omega
theorem Hs{R:List Int}{k:Nat}(h:k+2<R.length)(hz:∀ t,k+3≤t→at_ R t=0):ag R=ag (R.take k)+pw k*(at_ R k+4294967296*(at_ R (k+1)+4294967296*at_ R (k+2))):=by
 have h0:ag R=ag (R.take (k+3)):=by
  have e:ag R=ag (R.take (k+3))+pw (R.take (k+3)).length*ag (R.drop (k+3)):=by rw[← lM,X8]
  have e2:∀ (m:List Int),(∀ t,at_ m t=0)→ag m=0:=by
   intro m
   induction m with
   | nil=>intro _;rfl
   | cons d r ih =>
     intro hm
     have h0:d=0:=hm 0
     have h1:=ih (fun t=>hm (t+1))
     simp only[ag,h0,h1];rfl
  rw[e2 (R.drop (k+3)) (fun t=>by
   have:=hz (k+3+t) (by omega)
   simp only[at_,Xi,XC] at this ⊢
   exact this)] at e
  omega
 have h1:=bK (l:=R) (k:=k+2) (by omega)
 have h2:=bK (l:=R) (k:=k+1) (by omega)
 have h3:=bK (l:=R) (k:=k) (by omega)
 rw[show k+2+1=k+3 by omega] at h1
 rw[show k+1+1=k+2 by omega] at h2
 rw[h0,h1,h2,h3,show pw (k+2)=4294967296*(4294967296*pw k) by rw[dX,dX],dX k,XS,XS,XS]
 have e1:4294967296*pw k*at_ R (k+1)=pw k*(4294967296*at_ R (k+1)):=by rw[XI 4294967296 (pw k),Xx]
 have e2:4294967296*(4294967296*pw k)*at_ R (k+2)=pw k*(4294967296*(4294967296*at_ R (k+2))):=by
  rw[← Xx 4294967296 4294967296,XI _ (pw k),Xx,← Xx 4294967296 4294967296]
 rw[e1,e2]
 omega
theorem QH{a b:Nat}(h:a≤b):pw a≤pw b:=by
 obtain⟨m,rfl⟩:∃ m,b=a+m:=⟨b-a,by omega⟩
 rw[jj]
 have:=XG (show 1≤pw m by have:=fQ m;omega) (X7 (fQ a))
 omega
theorem Sr(V R:List Int)(lo m:Nat)(hn:V.length=m+2)(hn3:V.length≤400)(hlo:lo+V.length+1≤R.length)(hR:R.length≤1000)(hV:Dg V)(hRd:Dg R)(htop:2147483648≤at_ V (m+1))(hlt:ag R<pw (lo+1)*ag V) :
  CallA Tryz.prog 375 [.one (.sub 1000000 lo (V.length+1)),.one (.d (fA V))] [(1000000,.row 1 4 (R.map aw))] (.one (.d (.int .u32 (ag R / (pw lo*ag V))))) [(1000000,.row 1 4 ((wid R.length (ag R % (pw lo*ag V)).toNat).map aw))]:=by
 have hVb:=eo hV
 have hv2:=Hr hn
 have hRb:=eo hRd
 have hw1:=hV.at (i:=m+1) (by omega)
 have hw2:=hV.at (i:=m) (by omega)
 have hlt2:ag R<pw (lo+V.length+1):=by
  refine Int.lt_of_lt_of_le hlt ?_
  rw[show lo+V.length+1=(lo+1)+V.length by omega,jj (lo+1)]
  exact XG (X7 hVb.2) (X7 (fQ _))
 have hzR:=nk hRd hlt2
 have hr3:=Hs (R:=R) (k:=lo+m) (by omega) (fun t ht=>hzR t (by omega))
 have hu0:=hRd.at (i:=lo+m+2) (by omega)
 have hu1:=hRd.at (i:=lo+m+1) (by omega)
 have hx2:=hRd.at (i:=lo+m) (by omega)
 have hR':=eo (hRd.take (lo+m))
 have hV':=eo (hV.take m)
 rw[show (R.take (lo+m)).length=lo+m by simp;omega] at hR'
 rw[show (V.take m).length=m by simp;omega] at hV'
 have hpm:=fQ m
 have hpl:=fQ lo
 have hMe:pw lo*ag V=pw lo*ag (V.take m)+pw (lo+m)*(at_ V m+4294967296*at_ V (m+1)):=by rw[hv2,XS,jj,Xx]
 have hMl:pw lo*ag (V.take m)<pw (lo+m):=by rw[jj];exact Int.mul_lt_mul_of_pos_left hV'.2 hpl
 have hMl0:=Int.mul_nonneg (X7 hpl) hV'.1
 have hlt3:ag R<pw lo*ag V*4294967296:=by rw[dX] at hlt;rw[XI (pw lo*ag V),← Xx];exact hlt
 have hP:=fQ (lo+m)
 -- whole numbers
 generalize hd1:at_ V (m+1)=d1 at *
 generalize hd2:at_ V m=d2 at *
 generalize hd3:at_ R (lo+m)=d3 at *
 generalize hd4:at_ R (lo+m+1)=d4 at *
 generalize hd5:at_ R (lo+m+2)=d5 at *
 obtain⟨w1,rfl⟩:=Xh hw1.1
 obtain⟨w2,rfl⟩:=Xh hw2.1
 obtain⟨x2,rfl⟩:=Xh hx2.1
 obtain⟨u1,rfl⟩:=Xh hu1.1
 obtain⟨u0,rfl⟩:=Xh hu0.1
 have hM0:0<pw lo*ag V:=by
  have:=XG (show 1≤(w2:Int)+4294967296*(w1:Int) by omega) (X7 hP)
  omega
 have hMP:pw lo*ag V≤pw (lo+V.length+1):=by
  rw[show lo+V.length+1=lo+(V.length+1) by omega,jj]
  exact XG (Int.le_trans (X7 hVb.2) (QH (by omega))) (X7 hpl)
 obtain⟨E,hE⟩:=Xh (X7 hP)
 obtain⟨a,ha⟩:=Xh hMl0
 obtain⟨b,hb⟩:=Xh hR'.1
 obtain⟨MM,hMM⟩:=Xh (X7 hM0)
 obtain⟨NN,hNN⟩:=Xh hRb.1
 have hMn:MM=(w1*4294967296+w2)*E+a:=by
  have:(MM:Int)=(((w1*4294967296+w2)*E+a:Nat):Int):=by
   rw[← hMM,hMe,ha,hE]
   simp only[Int.natCast_add,Ya,show ((4294967296:Nat):Int)=4294967296 from rfl]
   rw[XI (E:Int),XI 4294967296 (w1:Int),Int.add_comm (w2:Int)]
   omega
  exact Int.ofNat_inj.1 this
 have hNn:NN=((u0*4294967296+u1)*4294967296+x2)*E+b:=by
  have:(NN:Int)=((((u0*4294967296+u1)*4294967296+x2)*E+b:Nat):Int):=by
   rw[← hNN,hr3,hb,hE]
   simp only[Int.natCast_add,Ya,show ((4294967296:Nat):Int)=4294967296 from rfl]
   rw[XI (E:Int),show ((x2:Int)+4294967296*((u1:Int)+4294967296*(u0:Int)))=(((u0:Int)*4294967296+(u1:Int))*4294967296+(x2:Int)) by omega]
   omega
  exact Int.ofNat_inj.1 this
 have hEa:a<E:=by rw[ha,hE] at hMl;omega
 have hEb:b<E:=by rw[hb,hE] at hR';omega
 have hMp:0<MM:=by rw[hMM] at hM0;omega
 have hNM:NN<MM*4294967296:=by rw[hNN,hMM] at hlt3;omega
 have hqB:NN / MM<4294967296:=Yc hNM
 have hq1:NN / MM*(w1*4294967296+w2)≤(u0*4294967296+u1)*4294967296+x2:=Ov hMn hNn hEb (Nat.div_mul_le_self NN MM)
 have hup:∀ x,x*(w1*4294967296+w2+1)≤(u0*4294967296+u1)*4294967296+x2→x≤NN / MM:=fun x hx=>(Nat.le_div_iff_mul_le hMp).2 (Ow hMn hEa hNn hx)
 have hu0w:u0≤w1:=by
  refine Yp fun hc=>?_
  have h1:MM<(w1+1)*4294967296*E:=by
   have:(w1*4294967296+w2+1)*E≤(w1+1)*4294967296*E:=Xn E (by omega)
   rw[X2 _ 1,Nat.one_mul] at this
   omega
  have h2:u0*4294967296*4294967296*E≤NN:=by
   have:u0*4294967296*4294967296*E≤((u0*4294967296+u1)*4294967296+x2)*E:=Xn E (by omega)
   omega
  have h3:(w1+1)*4294967296*4294967296*E≤u0*4294967296*4294967296*E:=Xn E (Xn _ (Xn _ hc))
  have h4:(w1+1)*4294967296*4294967296*E=(w1+1)*4294967296*E*4294967296:=by rw[Nat.mul_right_comm]
  omega
 have hqe:(ag R / (pw lo*ag V))=((NN / MM:Nat):Int):=by rw[hNN,hMM];exact (Int.natCast_ediv _ _).symm
 have:=QI V R (V.map aw) lo rfl (by simp) (by simp;omega) (by simpa using hn3) (by simpa using hlo) hR hV hRd (u0*4294967296+u1) w1 w2 x2 (NN / MM)
  (by rw[WZ,show ((V.length:Int)-1).toNat=m+1 by omega,hd1];exact ed (by omega) (by omega))
  (by rw[WZ,show ((V.length:Int)-2).toNat=m by omega,hd2];exact ed (by omega) (by omega))
  (by show at_ R _=_;rw[WZ,show ((V.length:Int)-2).toNat=m by omega,hd3])
  (by omega) (by omega) (by omega) (by omega) (Ht (B:=4294967296) (by omega) hu0w (by omega) (by omega))
  (by rw[WZ,show ((V.length:Int)-1).toNat=m+1 by omega,← Nat.add_assoc,hd4,show lo+V.length=lo+m+2 by omega,hd5,ed (v:=(u0:Int)) (by omega) (by omega),vR (by omega) (by omega),Int.natCast_add,Ya];rfl)
  hqB hq1 hup (pw lo*ag V) rfl hM0 (by simpa using hMP) hqe.symm (by simpa using hzR)
 rw[hqe]
 rw[WZ] at this
 exact this
end Go.Proofs.YtpejdgkaapnekaaGreat
