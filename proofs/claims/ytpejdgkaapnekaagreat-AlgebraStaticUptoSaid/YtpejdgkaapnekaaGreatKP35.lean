import Derived.Test.YtpejdgkaapnekaaGreatKP34
import Derived.Test.YtpejdgkaapnekaaGreatKP23
import Derived.Test.YtpejdgkaapnekaaGreatKP32
import Derived.Test.YtpejdgkaapnekaaGreatKP18
import Derived.Test.YtpejdgkaapnekaaGreatKKZ
import Derived.Test.YtpejdgkaapnekaaGreatKP33
set_option linter.unusedVariables false
set_option linter.unusedSimpArgs false
set_option maxHeartbeats 1000000
namespace Go.Proofs.YtpejdgkaapnekaaGreat
open Go Go.Abs
attribute [local irreducible] aa OkC ak av aq aI
set_option maxRecDepth 10000
section
variable {P:Program} {c:Ctx} {fr:List (Nat×AV)} {sto:Sto} {ops:Array Oper} {o:Oper} {rest:List Oper} {K:St→Prop} {st0:St} {acc:List Tr}
theorem Fe(k:Nat){d:Nat}{fop:Operand}{args:Array Operand}{ats:Array TypeId}{f:FuncId}{caps:List D}{avs avs':List AV}{rav rav':AV}{rsto sto':Sto}{tr:Tr}
  (ho:o.op=.call { callee:=.value fop,args:=args,argTypes:=ats }) (hg:o.guard=none) (hdst:o.dst=some d) (hd:Nat.blt d c.n=true) (hf:ev ⟨fr,sto⟩ fop=some (.one (.d (.fn f caps))))
  (ha:evL ⟨fr,sto⟩ args.toList=some avs) (hD:c8 avs=true) (hap:(avs++caps.map fun x=>.one (.d x))=avs') (hC:CallA P f avs' [] rav rsto)
  (hk:(c7 [] rsto&&Nat.ble (k+16) 1000000&&dG rsto rav&&bt rsto rsto)=true) (ht:k6 k [] [] rav rsto=tr) (hr:tr.v=rav') (hw:dh tr.wr sto=sto')
  (h:ak P c ops st0 rest ⟨(d,rav')::fr,sto'⟩ (tr::acc) K):ak P c ops st0 (o::rest) ⟨fr,sto⟩ acc K:=by
 subst hap;subst hr;subst hw;subst ht
 refine mi hg (sA k ho (by rw[hdst];exact hd) hf ha hD hC hk) ?_
 rw[hdst];exact h
end
theorem RR(l:List Val)(hne:0<l.length):CallA Tryz.prog 144 [.one (.d (aY l))] [] (.one (.own 0 l.length)) [(0,.row 4 40 (l.map aB))]:=by
 refine enter af Tryz.func144 rfl (by decide +kernel) rfl fun hok w0 σ0 φ0 M=>?_
 have h1:=hok.1.sl;clear hok;simp only[WZ] at h1
 repeat' (first|(refine h1H ?_;(refine h5H ?_;refine dz af J J J J J J (fun r hr=>?_)))|(refine h1H ?_;(refine h0H ?_;refine c6 af J J J J J (id:=0) J J J J J J J (by simp only[WZ,Xp];omega) (by simp only[WZ,Xp];omega) ?_))|refine wG ?_|(refine h2H ?_;refine aj J (fun h=>?_) (fun h=>?_)))
 ·have e:=hr (by simpa using h)
  simp only[List.map_eq_nil_iff] at e
  subst e;simp at hne
 ·simp
def pj(a:Arr)(s:Scalar)(c:Cell):Cell:=⟨c.at',c.vals++[iH a.dims a.attrs c.at' c.vals s]⟩
def nN(a:Arr)(name:List UInt8)(t:Int):List Attr:=a.attrs++[⟨name,t⟩]
def gE(a:Arr)(name:List UInt8)(s:Scalar):Option Arr×Int :=
 if aF a≠0 then (none,2) else if !cW name||cC a name then (none,11) else if a.attrs.length=6 then (none,9)
 else if (b8 a.dims a.attrs a.cells s).2≠0 then (none,(b8 a.dims a.attrs a.cells s).2)
 else cn a.dims (nN a name (b8 a.dims a.attrs a.cells s).1) (a.cells.map (pj a s))
theorem I8(a:Arr)(name:List UInt8)(s:Scalar) :
  ((!aG [a])=true∧gE a name s=(none,2)) ∨
  ((!aG [a])=false∧(!cW name)=true∧gE a name s=(none,11)) ∨
  ((!aG [a])=false∧(!cW name)=false∧cC a name=true∧gE a name s=(none,11)) ∨
  ((!aG [a])=false∧(!cW name)=false∧cC a name=false∧(((a.attrs.map aS).length:Int)==6)=true∧gE a name s=(none,9)) ∨
  ((!aG [a])=false∧(!cW name)=false∧cC a name=false∧(((a.attrs.map aS).length:Int)==6)=false∧((b8 a.dims a.attrs a.cells s).2 != 0)=true∧gE a name s=(none,(b8 a.dims a.attrs a.cells s).2)) ∨
  ((!aG [a])=false∧(!cW name)=false∧cC a name=false∧(((a.attrs.map aS).length:Int)==6)=false∧((b8 a.dims a.attrs a.cells s).2 != 0)=false∧(b8 a.dims a.attrs a.cells s).2=0∧gE a name s=(some ⟨a.dims,nN a name (b8 a.dims a.attrs a.cells s).1,cg (a.cells.map (pj a s))⟩,0)):=by
 by_cases hc:aF a=0
 rotate_left
 ·exact .inl ⟨by simp[aG,hc],by unfold gE;rw[if_pos hc]⟩
 have hv:(!aG [a])=false:=by simp[aG,hc]
 refine .inr ?_
 cases h1:cW name
 ·exact .inl ⟨hv,rfl,by unfold gE;rw[if_neg (by simpa using hc),if_pos (by simp[h1])]⟩
 refine .inr ?_
 cases h2:cC a name
 rotate_left
 ·exact .inl ⟨hv,rfl,rfl,by unfold gE;rw[if_neg (by simpa using hc),if_pos (by simp[h2])]⟩
 refine .inr ?_
 have h12:¬ (!cW name||cC a name)=true:=by simp[h1,h2]
 by_cases h3:a.attrs.length=6
 ·exact .inl ⟨hv,rfl,rfl,by simp[h3],by unfold gE;rw[if_neg (by simpa using hc),if_neg h12,if_pos h3]⟩
 refine .inr ?_
 have h3':(((a.attrs.map aS).length:Int)==6)=false:=by simp;omega
 by_cases h4:(b8 a.dims a.attrs a.cells s).2=0
 rotate_left
 ·exact .inl ⟨hv,rfl,rfl,h3',by simp[h4],by unfold gE;rw[if_neg (by simpa using hc),if_neg h12,if_neg h3,if_pos h4]⟩
 refine .inr ⟨hv,rfl,rfl,h3',by simp[h4],h4,?_⟩
 unfold gE
 rw[if_neg (by simpa using hc),if_neg h12,if_neg h3,if_neg (by simpa using h4)]
 unfold cn
 rw[if_neg (by have:=(okA hc).few;rw[WZ];omega)]
theorem WG(ds:List Dim)(ats:List Attr)(cs:List Cell)(zs ys:List (List D))(hd:cs.Pairwise cE)(hf:cs.length≤4096)(hz:zs=ats.map aS)(hy:ys=cs.map al):CallA Tryz.prog 99 [.one (.d (ai ds)),.one (.d (.sl 2 24 zs)),.one (.d (.sl 2 48 ys))] [] (.tup [(true,[.d (ai ds),.d (ao ats),.d (aC (cg cs))]),(false,[.d (.int .i64 0)])]) []:=by
 subst hz;exact po ds ats cs _ ys hd hf rfl hy
theorem K7(l:List Val)(v:Val):List.take l.length (l.map aB)++[aB v]=(l++[v]).map aB:=by
 rw[WY (by simp),XB];rfl
theorem K8(a:Arr)(name:List UInt8)(t:Int){n:Nat}(hn:a.attrs.length+1≤n):List.take n (List.take a.attrs.length (a.attrs.map aS)++[[.str name,.int .i64 t]])=(nN a name t).map aS:=by
 rw[WY (by simp;omega),WY (by simp)]
 simp[nN,aS]
theorem N1{l:List Cell}{n:Nat}{r:List (List D)}(hr:r=(l.take n).map al)(h:l.length≤n):r.take n=l.map al:=by
 rw[hr,WY h,WY (by simpa using h)]
theorem N2{a:Arr}{s:Scalar}{n:Nat}{r:List (List D)}(hr:r=((a.cells.map (pj a s)).take n).map al)(h:n<a.cells.length):r.take n++[[ar (at_ a.cells n).at',.sl 4 40 (List.take ((at_ a.cells n).vals.length+1) (List.take (at_ a.cells n).vals.length ((at_ a.cells n).vals.map aB)++[aB (iH a.dims a.attrs (at_ a.cells n).at' (at_ a.cells n).vals s)]))]]=((a.cells.map (pj a s)).take (n+1)).map al:=by
 have e:=fL al (a.cells.map (pj a s)) hr (by simpa using h)
 rw[bj h] at e
 have e2:List.take ((at_ a.cells n).vals.length+1) (((at_ a.cells n).vals++[iH a.dims a.attrs (at_ a.cells n).at' (at_ a.cells n).vals s]).map aB)=((at_ a.cells n).vals++[iH a.dims a.attrs (at_ a.cells n).at' (at_ a.cells n).vals s]).map aB:=WY (by simp)
 rw[← e,K7,e2]
 rfl
set_option maxHeartbeats 8000000 in
theorem c44(a:Arr)(name:List UInt8)(s:Scalar):CallA Tryz.prog 44 [aO a,.one (.d (.str name)),fc s] [] (dE (gE a name s)) []:=by
 unfold aO
 refine enter af Tryz.func44 rfl (by decide +kernel) rfl fun hok w0 σ0 φ0 M=>?_
 clear hok
 rcases I8 a name s with⟨hv,e⟩|⟨hv,hb1,e⟩|⟨hv,hb1,hb2,e⟩|⟨hv,hb1,hb2,hb3,e⟩|⟨hv,hb1,hb2,hb3,hb4,e⟩|⟨hv,hb1,hb2,hb3,hb4,ht,e⟩
 all_goals rw[e]
 rotate_right
 ·obtain⟨hck,hp,hsz,hn⟩:=yg ht
  have hA:=okA hck
  have hcl:∀ i,i<a.cells.length→(at_ a.cells i).at'.length=a.dims.length∧(at_ a.cells i).vals.length=a.attrs.length:=fun i hi =>
   let h:=cellF_ok.1 (hA.cel _ (aU hi));⟨h.1,h.2.1⟩
  have hna:0<a.attrs.length:=(bA hA.sch).2.1
  have hvl:∀ i,i<a.cells.length→0<(at_ a.cells i).vals.length:=fun i hi=>by rw[(hcl i hi).2];exact hna
  have hvs:∀ i,i<a.cells.length→(at_ a.cells i).vals.length≤100000000:=fun i hi=>by have:=(bA hA.sch).2.2.1;rw[(hcl i hi).2];omega
  have ha6:=(bA hA.sch).2.2.1
  have hdf:(a.cells.map (pj a s)).Pairwise cE:=X4.2 ((bW hA.srt).imp fun h=>h)
  have hff:(a.cells.map (pj a s)).length≤4096:=by rw[WZ];exact hA.few
  have hcn:a.cells.length≤4096:=hA.few
  repeat' (first|(refine h1H ?_;(refine h0H ?_;first|refine aT [3] J J J J J J J J J (c96 [a]) J ?_|refine ae J J J J J J J J (sq _) J ?_|refine ae J J J J J J J J (vE a _) J ?_|refine ae J J J J J J J J (c20 _ _ _ _) J ?_))|(refine h2H ?_;(show OkC _ _ (Code.region 15 _ _) _ _;refine bm (bq (dl:=[11]) J) ?_))|(refine h4H ?_;(refine h3H ?_;first|refine dV envOk 11 J J J (b5 (i:=40) J J J J J J J J (show a.attrs.length≤100000000 from (by omega)) (W6 J) (W6 J)) J J ?_|refine dV envOk 11 J J J (b5 (i:=40) J J J J J J J J (hvs _ wB) (W6 J) (W6 J)) J J ?_|refine Fe 40 J J J J J J J J (RR _ (hvl _ wB)) J J J J ?_|refine Fe 40 J J J J J J J J (tv a.attrs hna) J J J J ?_|refine p8 60 [11,20] J J J J J J J J J (WG a.dims (nN a name (b8 a.dims a.attrs a.cells s).1) (a.cells.map (pj a s)) _ _ hdf hff (K8 a name _ (by simp)) (N1 hq3 wB)) J J ?_|refine d_l J J (bM J J J J J J (Qv _ _ _ _ _ _ hp hsz hn (hcl _ wB).1 (hcl _ wB).2) J) ?_))|refine wG ?_|(refine h2H ?_;first|refine aj J (fun h=>?_) (fun h=>?_)|refine ep 12 J (dm (s:=10) (id:=20) (k:=2) (b:=48) J J J J) [(1,_),(3,_),(5,_),(6,_),(8,_),(47,_),(48,_)] (q7Q J J J J J J J) (fun (bN:Bool×Bool) (q:Nat×List (List D))=>[(10,.one (.own 20 q.1)),(49,.one (.d (.int .i64 (q.1:Int))))]) (fun (bN:Bool×Bool) (q:Nat×List (List D))=>[(20,.row 2 48 q.2),(0,.box [.d (ai a.dims),.d (ao a.attrs),.d (aC a.cells)]),(1,.box [.d (.int .i64 s.op),.d (.str s.name),.d (.int .i64 s.val.kind),.d (.int .i64 s.val.num),.d (.int .i64 s.val.den),.d (.str s.val.str),.d (dD s.args)]),(2,.box [.d .nil,.d .nil,.d .nil])]) (fun (q:Nat×List (List D))=>q.1≤a.cells.length∧q.2=((a.cells.map (pj a s)).take q.1).map al) (fun (q:Nat×List (List D))=>a.cells.length-q.1) (0,[]) (q2Q J J) wK (fun b y=>by obtain⟨b1,b2⟩:=b;cases b1<;>cases b2<;>first|exact Imp.refl _|exact eu qN (by kernel_rfl)) ?_ (fun q ⟨hq1,hq3⟩=>?_))|(show Exists _;refine Exists.intro ((q.1+1,q.2.take q.1++[[ar (at_ a.cells q.1).at',.sl 4 40 (List.take ((at_ a.cells q.1).vals.length+1) (List.take (at_ a.cells q.1).vals.length ((at_ a.cells q.1).vals.map aB)++[aB (iH a.dims a.attrs (at_ a.cells q.1).at' (at_ a.cells q.1).vals s)]))]])) (Exists.intro (false,false) ⟨?_,?_,wK,(q2Q J J),(q7Q J J J J J J J)⟩)))
  all_goals first
   | rfl
   | exact⟨Xk _,rfl⟩
   | (have hlt:q.1<a.cells.length:=by simpa using h
      exact⟨hlt,N2 hq3 hlt⟩)
   | (have hlt:q.1<a.cells.length:=by simpa using h
      show a.cells.length-(q.1+1)<a.cells.length-q.1
      omega)
   | skip
 repeat' (first|(refine h1H ?_;(refine h0H ?_;first|refine aT [3] J J J J J J J J J (c96 [a]) J ?_|refine ae J J J J J J J J (sq _) J ?_|refine ae J J J J J J J J (vE a _) J ?_|refine ae J J J J J J J J (c20 _ _ _ _) J ?_))|refine wG ?_)
 all_goals rfl
end Go.Proofs.YtpejdgkaapnekaaGreat
namespace Go.Proofs.YtpejdgkaapnekaaGreat
open Go Go.Abs
attribute [local irreducible] aa OkC ak av aq aI
set_option maxRecDepth 10000
theorem Uo(a:Arr)(h:aF a=0):CallA Tryz.prog 32 [aO a,aO a] [] (.one (.d (.bool true))) []:=by
 have h1:=c32 a a
 have e:wF a a=true:=by
  unfold wF
  rw[(fq rZ).2 rfl,(fq jC).2 rfl,(fq GL).2 rfl,h]
  rfl
 rw[e] at h1
 exact h1
theorem Ma(l:List Cell):CallA Tryz.prog 128 [.one (.d (aC l))] [] (.one (.own 0 l.length)) [(0,.row 2 48 (l.map al))]:=by
 refine enter af Tryz.func128 rfl (by decide +kernel) rfl fun hok w0 σ0 φ0 M=>?_
 have h1:=hok.1.sl;clear hok;simp only[WZ] at h1
 by_cases hl:l=[]
 ·subst hl
  repeat' (first|(refine h1H ?_;(refine h5H ?_;refine dz af J J J J J J (fun r hr=>?_)))|(refine h1H ?_;(refine h0H ?_;refine c6 af J J J J J (id:=0) J J J J J J J (by simp only[WZ,Xp];omega) (by simp only[WZ,Xp];omega) ?_))|(refine h2H ?_;refine bm (dm (s:=2) (id:=0) (k:=2) (b:=48) J J J J) (cr ?_))|refine wG ?_|(refine h2H ?_;refine aj J (fun h=>?_) (fun h=>?_)))
  all_goals rfl
 ·repeat' (first|(refine h1H ?_;(refine h5H ?_;refine dz af J J J J J J (fun r hr=>?_)))|(refine h1H ?_;(refine h0H ?_;refine c6 af J J J J J (id:=0) J J J J J J J (by simp only[WZ,Xp];omega) (by simp only[WZ,Xp];omega) ?_))|(refine h2H ?_;refine bm (dm (s:=2) (id:=0) (k:=2) (b:=48) J J J J) (cr ?_))|refine wG ?_|(refine h2H ?_;refine aj J (fun h=>?_) (fun h=>?_)))
  ·have e:=hr (by simpa using h)
   simp only[List.map_eq_nil_iff] at e
   exact absurd e hl
  ·simp
theorem Ml(l:List Int):CallA Tryz.prog 129 [.one (.d (ar l))] [] (.one (.own 0 l.length)) [(0,.row 1 8 (l.map aA))]:=by
 refine enter af Tryz.func129 rfl (by decide +kernel) rfl fun hok w0 σ0 φ0 M=>?_
 have h1:=hok.1.sl;clear hok;simp only[WZ] at h1
 by_cases hl:l=[]
 ·subst hl
  repeat' (first|(refine h1H ?_;(refine h5H ?_;refine dz af J J J J J J (fun r hr=>?_)))|(refine h1H ?_;(refine h0H ?_;refine c6 af J J J J J (id:=0) J J J J J J J (by simp only[WZ,Xp];omega) (by simp only[WZ,Xp];omega) ?_))|(refine h2H ?_;refine bm (dm (s:=2) (id:=0) (k:=1) (b:=8) J J J J) (cr ?_))|refine wG ?_|(refine h2H ?_;refine aj J (fun h=>?_) (fun h=>?_)))
  all_goals rfl
 ·repeat' (first|(refine h1H ?_;(refine h5H ?_;refine dz af J J J J J J (fun r hr=>?_)))|(refine h1H ?_;(refine h0H ?_;refine c6 af J J J J J (id:=0) J J J J J J J (by simp only[WZ,Xp];omega) (by simp only[WZ,Xp];omega) ?_))|(refine h2H ?_;refine bm (dm (s:=2) (id:=0) (k:=1) (b:=8) J J J J) (cr ?_))|refine wG ?_|(refine h2H ?_;refine aj J (fun h=>?_) (fun h=>?_)))
  ·have e:=hr (by simpa using h)
   simp only[List.map_eq_nil_iff] at e
   exact absurd e hl
  ·simp
theorem tT(xs:List (List D))(a b:List Dim)(hx:xs=a.map ax):CallA Tryz.prog 120 [.one (.d (.sl 3 32 xs)),.one (.d (ai b))] [] (.one (.d (.bool (bP fY a b)))) []:=by
 subst hx;exact Pm a b
theorem rQ(ds:List Dim)(ats:List Attr)(cs:D)(name:List UInt8)(k:Nat)(h:aV ds name=(k:Int)):CallA Tryz.prog 126 [.agg [.d (ai ds),.d (ao ats),.d cs],.one (.d (.str name))] [] (.one (.d (.int .i64 (k:Int)))) []:=by
 have h1:=nU ds ats cs name
 unfold aV at h
 rw[h] at h1
 exact h1
theorem fm{α:Type}{f:α→List D}{l:List α}{k n:Nat}{x:α}(hn:l.length≤n):List.take n ((l.map f).set k (f x))=(l.set k x).map f:=by
 rw[WY (by simpa using hn),← XW]
set_option maxHeartbeats 4000000 in
theorem c34(a b:Arr)(name:List UInt8)(hfew:a.cells.length+b.cells.length≤4096):CallA Tryz.prog 34 [aO a,aO b,.one (.d (.str name))] [] (dE (iy a b name)) []:=by
 unfold aO
 refine enter af Tryz.func34 rfl (by decide +kernel) rfl fun hok w0 σ0 φ0 M=>?_
 clear hok
 by_cases hc:aF a=0∧aF b=0
 rotate_left
 ·have hv:(!aG [a,b])=true:=by
   simp only[aG,List.all_cons,List.all_nil,Bool.and_true,Xe,Bool.and_eq_false_iff,Yk]
   omega
  have e:iy a b name=(none,2):=by
   unfold iy
   rw[if_pos (by unfold aF at hc;omega)]
  rw[e]
  repeat' (first|(refine h1H ?_;(refine h0H ?_;refine aT [3] J J J J J J J J J (c96 [a,b]) J ?_))|refine wG ?_)
  all_goals rfl
 have hv:(!aG [a,b])=false:=by simp[aG,hc.1,hc.2]
 have hA:=okA hc.1
 have hB:=okA hc.2
 have hne:0<a.dims.length:=by have:=hA.dims.1;omega
 have hcc:¬ (bf a.dims a.attrs a.cells≠0∨bf b.dims b.attrs b.cells≠0):=by unfold aF at hc;omega
 by_cases hd:aV a.dims name<0
 ·have hb0:decide (aK (fun a:Dim=>a.name==name) a.dims 0<0)=true:=by simpa[aV] using hd
  have e:iy a b name=(none,11):=by
   unfold iy
   rw[if_neg hcc,if_pos hd]
  rw[e]
  repeat' (first|(refine h1H ?_;(refine h0H ?_;first|refine aT [3] J J J J J J J J J (c96 [a,b]) J ?_|refine ae J J J J J J J J (nU _ _ _ _) J ?_))|refine wG ?_)
  all_goals rfl
 obtain⟨k,hk,hk2,hk3,hk4⟩:=kA hd
 have hb0:decide (((k:Nat):Int)<0)=false:=by simp
 by_cases hal:eh a.dims b.dims=true
 rotate_left
 ·have hb1:(!eh a.dims b.dims)=true:=by simpa using hal
  have e:iy a b name=(none,13):=by
   unfold iy
   rw[if_neg hcc,if_neg hd,if_pos hb1]
  rw[e]
  repeat' (first|(refine h1H ?_;(refine h0H ?_;first|refine aT [3] J J J J J J J J J (c96 [a,b]) J ?_|refine cS 10 [] (rav':=.one (.own 10 a.dims.length)) (kU a.dims hne) J J J J J J trivial b7 J J J J ?_|refine ae J J J J J J J J (sB _ _) J ?_|refine ae J J J J J J J J (rQ _ _ _ _ k hk) J ?_))|refine wG ?_)
  all_goals rfl
 have hb1:(!eh a.dims b.dims)=false:=by simpa using hal
 have hlen:a.dims.length=b.dims.length:=(sameF_all.1 hal).1
 have hkb:k<b.dims.length:=by omega
 have ba:-1073741824≤(at_ a.dims ((k:Nat):Int).toNat).lo∧(at_ a.dims ((k:Nat):Int).toNat).lo≤1073741824∧(at_ a.dims ((k:Nat):Int).toNat).lo≤(at_ a.dims ((k:Nat):Int).toNat).hi∧(at_ a.dims ((k:Nat):Int).toNat).hi≤1073741825:=(hA.dims.2.2.1 k hk2).1
 have bb:-1073741824≤(at_ b.dims ((k:Nat):Int).toNat).lo∧(at_ b.dims ((k:Nat):Int).toNat).lo≤1073741824∧(at_ b.dims ((k:Nat):Int).toNat).lo≤(at_ b.dims ((k:Nat):Int).toNat).hi∧(at_ b.dims ((k:Nat):Int).toNat).hi≤1073741825:=(hB.dims.2.2.1 k hkb).1
 have hcat:iy a b name=if !bP fY (a.dims.set k (at_ b.dims k)) b.dims∨(at_ a.dims k).hi=1073741825∨(at_ b.dims k).hi=1073741825 then (none,13)
   else if !bP ej a.attrs b.attrs then (none,12)
   else if 1073741824<(dj a b k).hi then (none,3)
   else cn (a.dims.set k (dj a b k)) a.attrs (a.cells++b.cells.map (eY k (byF a b k))):=by
  unfold iy
  rw[if_neg hcc,if_neg hd,if_neg (by simpa using hal),hk,Xr]
 by_cases hs:bP fY (a.dims.set k (at_ b.dims k)) b.dims=true∧(at_ a.dims k).hi≠1073741825∧(at_ b.dims k).hi≠1073741825
 rotate_left
 ·have e:iy a b name=(none,13):=by
   rw[hcat,if_pos]
   by_cases h1:bP fY (a.dims.set k (at_ b.dims k)) b.dims=true
   ·by_cases h2:(at_ a.dims k).hi=1073741825
    ·exact .inr (.inl h2)
    ·exact .inr (.inr (Classical.byContradiction fun h3=>hs ⟨h1,h2,h3⟩))
   ·exact .inl (by simpa using h1)
  rw[e]
  by_cases hs1:bP fY (a.dims.set k (at_ b.dims k)) b.dims=true
  ·have hb2:(!bP fY (a.dims.set k (at_ b.dims k)) b.dims)=false:=by simp[hs1]
   by_cases hs2:(at_ a.dims k).hi=1073741825
   ·have hb3:((at_ a.dims ((k:Nat):Int).toNat).hi==1073741825)=true:=by simpa using hs2
    repeat' (first|(refine h1H ?_;(refine h0H ?_;first|refine aT [3] J J J J J J J J J (c96 [a,b]) J ?_|refine cS 10 [] (rav':=.one (.own 10 a.dims.length)) (kU a.dims hne) J J J J J J trivial b7 J J J J ?_|refine aT [10] J J J J J J J J J (tT _ (a.dims.set k (at_ b.dims k)) b.dims (fm (Xc _))) J ?_|refine ae J J J J J J J J (sB _ _) J ?_|refine ae J J J J J J J J (rQ _ _ _ _ k hk) J ?_))|refine wG ?_)
    all_goals rfl
   ·have hb3:((at_ a.dims ((k:Nat):Int).toNat).hi==1073741825)=false:=by simpa using hs2
    have hb4:((at_ b.dims ((k:Nat):Int).toNat).hi==1073741825)=true:=by
     have:(at_ b.dims k).hi=1073741825:=Classical.byContradiction fun h3=>hs ⟨hs1,hs2,h3⟩
     simpa using this
    repeat' (first|(refine h1H ?_;(refine h0H ?_;first|refine aT [3] J J J J J J J J J (c96 [a,b]) J ?_|refine cS 10 [] (rav':=.one (.own 10 a.dims.length)) (kU a.dims hne) J J J J J J trivial b7 J J J J ?_|refine aT [10] J J J J J J J J J (tT _ (a.dims.set k (at_ b.dims k)) b.dims (fm (Xc _))) J ?_|refine ae J J J J J J J J (sB _ _) J ?_|refine ae J J J J J J J J (rQ _ _ _ _ k hk) J ?_))|refine wG ?_)
    all_goals rfl
  ·have hb2:(!bP fY (a.dims.set k (at_ b.dims k)) b.dims)=true:=by simp[hs1]
   repeat' (first|(refine h1H ?_;(refine h0H ?_;first|refine aT [3] J J J J J J J J J (c96 [a,b]) J ?_|refine cS 10 [] (rav':=.one (.own 10 a.dims.length)) (kU a.dims hne) J J J J J J trivial b7 J J J J ?_|refine aT [10] J J J J J J J J J (tT _ (a.dims.set k (at_ b.dims k)) b.dims (fm (Xc _))) J ?_|refine ae J J J J J J J J (sB _ _) J ?_|refine ae J J J J J J J J (rQ _ _ _ _ k hk) J ?_))|refine wG ?_)
   all_goals rfl
 obtain⟨hs1,hs2,hs3⟩:=hs
 have hb2:(!bP fY (a.dims.set k (at_ b.dims k)) b.dims)=false:=by simp[hs1]
 have hb3:((at_ a.dims ((k:Nat):Int).toNat).hi==1073741825)=false:=by simpa using hs2
 have hb4:((at_ b.dims ((k:Nat):Int).toNat).hi==1073741825)=false:=by simpa using hs3
 rw[if_neg (by simp[hs1,hs2,hs3])] at hcat
 by_cases hat:bP ej a.attrs b.attrs=true
 rotate_left
 ·have hb5:(!bP ej a.attrs b.attrs)=true:=by simp[hat]
  rw[if_pos hb5] at hcat
  rw[hcat]
  repeat' (first|(refine h1H ?_;(refine h0H ?_;first|refine aT [3] J J J J J J J J J (c96 [a,b]) J ?_|refine cS 10 [] (rav':=.one (.own 10 a.dims.length)) (kU a.dims hne) J J J J J J trivial b7 J J J J ?_|refine aT [10] J J J J J J J J J (tT _ (a.dims.set k (at_ b.dims k)) b.dims (fm (Xc _))) J ?_|refine ae J J J J J J J J (sB _ _) J ?_|refine ae J J J J J J J J (BI _ _) J ?_|refine ae J J J J J J J J (rQ _ _ _ _ k hk) J ?_))|refine wG ?_)
  all_goals rfl
 have hb5:(!bP ej a.attrs b.attrs)=false:=by simp[hat]
 rw[if_neg (by simp[hat])] at hcat
 by_cases hmx:1073741824<(at_ b.dims k).hi+((at_ a.dims k).hi-(at_ b.dims k).lo+1)
 ·have hb6:decide (1073741824<(at_ b.dims ((k:Nat):Int).toNat).hi+((at_ a.dims ((k:Nat):Int).toNat).hi-(at_ b.dims ((k:Nat):Int).toNat).lo+1))=true:=by simpa using hmx
  rw[if_pos (by unfold dj byF;exact hmx)] at hcat
  rw[hcat]
  repeat' (first|(refine h1H ?_;(refine h0H ?_;first|refine aT [3] J J J J J J J J J (c96 [a,b]) J ?_|refine cS 10 [] (rav':=.one (.own 10 a.dims.length)) (kU a.dims hne) J J J J J J trivial b7 J J J J ?_|refine aT [10] J J J J J J J J J (tT _ (a.dims.set k (at_ b.dims k)) b.dims (fm (Xc _))) J ?_|refine ae J J J J J J J J (sB _ _) J ?_|refine ae J J J J J J J J (BI _ _) J ?_|refine ae J J J J J J J J (rQ _ _ _ _ k hk) J ?_))|refine wG ?_)
  all_goals rfl
 have hb6:decide (1073741824<(at_ b.dims ((k:Nat):Int).toNat).hi+((at_ a.dims ((k:Nat):Int).toNat).hi-(at_ b.dims ((k:Nat):Int).toNat).lo+1))=false:=by simpa using hmx
 rw[if_neg (by unfold dj byF;exact hmx)] at hcat
 have hda:=(hA.dims.2.2.1 k hk2).1
 have hdb:=(hB.dims.2.2.1 k hkb).1
 have hset:=(fq rZ).1 hs1
 have hC:Cat a b name k:=⟨hA,hB,hk2,hk3,hk4,hlen,fun i hi=>by simpa using (sameF_all.1 hal).2 i hi,fun i hi hne2=>by
  have:=congrArg (fun l=>at_ l i) hset
  rw[fP hi,if_neg hne2] at this
  exact this,by omega,by omega,(fq jC).1 hat,by unfold dj byF;dsimp only;omega⟩
 have hll:(a.cells++b.cells.map (eY k (byF a b k))).length≤4096:=by rw[W9,WZ];exact hfew
 have hres:iy a b name=(some ⟨a.dims.set k (dj a b k),a.attrs,cg (a.cells++b.cells.map (eY k (byF a b k)))⟩,0):=by
  rw[hcat];unfold cn;rw[if_neg (by omega)]
 rw[hres]
 have hbl:∀ i,i<b.cells.length→(at_ b.cells i).at'.length=a.dims.length:=fun i hi=>(hC.bcell (aU hi)).1
 have hbk:∀ i,i<b.cells.length→((k:Nat):Int)<((at_ b.cells i).at'.length:Int):=fun i hi=>by rw[hbl i hi];omega
 have hbk2:∀ i,i<b.cells.length→((k:Nat):Int).toNat<(at_ b.cells i).at'.length:=fun i hi=>by rw[hbl i hi];omega
 have had:∀ i,i<b.cells.length→IntKind.i64.wrap (at_ (at_ b.cells i).at' ((k:Nat):Int).toNat+((at_ a.dims ((k:Nat):Int).toNat).hi-(at_ b.dims ((k:Nat):Int).toNat).lo+1))=at_ (at_ b.cells i).at' ((k:Nat):Int).toNat+((at_ a.dims ((k:Nat):Int).toNat).hi-(at_ b.dims ((k:Nat):Int).toNat).lo+1):=fun i hi=>by
  have h:=(hC.bcell (aU hi)).2.2.2 k hk2
  rw[kx hC.hb] at h
  refine fx ?_ ?_<;>(simp only[Xr];omega)
 have hX:List.take a.dims.length ((((a.dims.map ax).set k [.str (at_ b.dims k).name,.int .i64 (at_ b.dims k).lo,.int .i64 (at_ b.dims k).hi]).set k [.str (at_ b.dims k).name,.int .i64 (at_ a.dims k).lo,.int .i64 (at_ b.dims k).hi]).set k [.str (at_ b.dims k).name,.int .i64 (at_ a.dims k).lo,.int .i64 ((at_ b.dims k).hi+((at_ a.dims k).hi-(at_ b.dims k).lo+1))])=(a.dims.set k (dj a b k)).map ax:=by
  rw[List.set_set,List.set_set]
  exact fm (x:=dj a b k) (Xc _)
 repeat' (first|(refine h1H ?_;(refine h0H ?_;first|refine aT [3] J J J J J J J J J (c96 [a,b]) J ?_|refine cS 10 [] (rav':=.one (.own 10 a.dims.length)) (kU a.dims hne) J J J J J J trivial b7 J J J J ?_|refine aT [10] J J J J J J J J J (tT _ (a.dims.set k (at_ b.dims k)) b.dims (fm (Xc _))) J ?_|refine cS 30 [] (rav':=.one (.own 30 a.cells.length)) (Ma a.cells) J J J J J J trivial b7 J J J J ?_|refine cS 50 [] (rav':=.one (.own 50 _)) (Ml _) J J J J J J trivial b7 J J J J ?_))|(refine h1H ?_;(refine nW ?_;refine s_e envOk J J J (ia J J J J J J (Yq _) (hbk _ wB)) ?_))|(refine h1H ?_;(refine h9H ?_;refine s_e envOk J J J (cz J J J J (dZ (hbk2 _ wB)) J) ?_))|(refine h1H ?_;(refine h7H ?_;refine jJ envOk J J (cx J J J J J J J J J (dZ (hbk2 _ wB)) J) ?_))|(refine h1H ?_;(refine WQ ?_;refine s_e envOk J J J (kP J J J J (had _ wB)) ?_))|(refine h1H ?_;(refine h0H ?_;first|refine eP 70 [10,30] J J J J J J J J J (po (a.dims.set k (dj a b k)) a.attrs (a.cells++b.cells.map (eY k (byF a b k))) _ _ hC.diff hll hX (by rw[WY (by omega),hq3,WY wB])) J J J ?_|refine ae J J J J J J J J (sB _ _) J ?_|refine ae J J J J J J J J (BI _ _) J ?_|refine ae J J J J J J J J (rQ _ _ _ _ k hk) J ?_))|refine wG ?_|(refine h2H ?_;first|refine aj J (fun h=>?_) (fun h=>?_)|refine cm 20 J [(3,_),(6,_),(8,_),(9,_),(10,_),(125,_),(126,_)] (q7Q J J J J J J J) (fun (q:Nat×List (List D))=>[(11,.one (.own 30 (a.cells.length+q.1))),(127,.one (.d (.int .i64 (q.1:Int))))]) (fun (q:Nat×List (List D))=>[(10,.row 3 32 ((((a.dims.map ax).set k [.str (at_ b.dims k).name,.int .i64 (at_ b.dims k).lo,.int .i64 (at_ b.dims k).hi]).set k [.str (at_ b.dims k).name,.int .i64 (at_ a.dims k).lo,.int .i64 (at_ b.dims k).hi]).set k [.str (at_ b.dims k).name,.int .i64 (at_ a.dims k).lo,.int .i64 ((at_ b.dims k).hi+((at_ a.dims k).hi-(at_ b.dims k).lo+1))])),(30,.row 2 48 q.2),(0,.box [.d (ai a.dims),.d (ao a.attrs),.d (aC a.cells)]),(1,.box [.d (ai b.dims),.d (ao b.attrs),.d (aC b.cells)]),(2,.box [.d .nil,.d .nil,.d .nil])]) (fun (q:Nat×List (List D))=>q.1≤b.cells.length∧q.2.length=a.cells.length+q.1∧q.2=(a.cells++(b.cells.take q.1).map (eY k (byF a b k))).map al) (fun (q:Nat×List (List D))=>b.cells.length-q.1) (0,a.cells.map al) (q2Q J J) wK ?_ (fun q ⟨hq1,hq2,hq3⟩=>?_))|(show Exists _;refine Exists.intro ((q.1+1,q.2.take (a.cells.length+q.1)++[[.sl 1 8 (List.take (at_ b.cells q.1).at'.length (((at_ b.cells q.1).at'.map aA).set k [.int .i64 (at_ (at_ b.cells q.1).at' k+((at_ a.dims k).hi-(at_ b.dims k).lo+1))])),aY (at_ b.cells q.1).vals]])) ⟨?_,?_,wK,(q2Q J J),(q7Q J J J J J J J)⟩))
 ·exact⟨Xk _,by simp,by simp⟩
 ·have hlt:q.1<b.cells.length:=by simpa using h
  have e:[D.sl 1 8 (List.take (at_ b.cells q.1).at'.length (((at_ b.cells q.1).at'.map aA).set k [.int .i64 (at_ (at_ b.cells q.1).at' k+((at_ a.dims k).hi-(at_ b.dims k).lo+1))])),aY (at_ b.cells q.1).vals]=al (eY k (byF a b k) (at_ b.cells q.1)):=by
   rw[show List.take (at_ b.cells q.1).at'.length (((at_ b.cells q.1).at'.map aA).set k [.int .i64 (at_ (at_ b.cells q.1).at' k+((at_ a.dims k).hi-(at_ b.dims k).lo+1))])=_ from fm (f:=aA) (x:=at_ (at_ b.cells q.1).at' k+((at_ a.dims k).hi-(at_ b.dims k).lo+1)) (Xc _)]
   rfl
  refine⟨hlt,?_,?_⟩
  ·show (q.2.take (a.cells.length+q.1)++[_]).length=a.cells.length+(q.1+1)
   rw[W9,XU];simp[hq2];omega
  ·show q.2.take (a.cells.length+q.1)++[_]=List.map al (a.cells++List.map _ (List.take (q.1+1) b.cells))
   rw[WY (by omega),hq3,e,ez hlt,XB (f:=eY k (byF a b k)),← X5,XB (f:=al) (l₁:=a.cells++List.map (eY k (byF a b k)) (List.take q.1 b.cells))]
   rfl
 ·have hlt:q.1<b.cells.length:=by simpa using h
  show b.cells.length-(q.1+1)<b.cells.length-q.1
  omega
 ·rfl
theorem MG(ad bd:List Dim)(n:Nat)(h:inD ad (at_ bd n).name=true):(nf ad bd (n+1)).map aA=(nf ad bd n).map aA++[[.int .i64 (aV ad (at_ bd n).name)]]:=by
 unfold nf;rw[oN,if_pos h];simp[aA]
theorem MH(ad bd:List Dim)(n:Nat)(h:inD ad (at_ bd n).name=true):(ng ad bd (n+1)).map aA=(ng ad bd n).map aA++[[.int .i64 (n:Int)]]:=by
 unfold ng;rw[oN,if_pos h];simp[aA]
theorem MI(ad bd:List Dim)(n:Nat)(h:inD ad (at_ bd n).name=false):(lk ad bd (n+1)).map aA=(lk ad bd n).map aA++[[.int .i64 (n:Int)]]:=by
 unfold lk;rw[yX,if_neg (by simp[h])];simp[aA]
theorem J4(ad bd:List Dim)(n:Nat)(h:inD ad (at_ bd n).name=false):nf ad bd (n+1)=nf ad bd n:=by
 unfold nf;rw[oN,if_neg (by simp[h])]
theorem J5(ad bd:List Dim)(n:Nat)(h:inD ad (at_ bd n).name=false):ng ad bd (n+1)=ng ad bd n:=by
 unfold ng;rw[oN,if_neg (by simp[h])]
theorem J6(ad bd:List Dim)(n:Nat)(h:inD ad (at_ bd n).name=true):lk ad bd (n+1)=lk ad bd n:=by
 unfold lk;rw[yX,if_pos h]
def nT(ad bd:List Dim):AV:=.agg [.d (ar (aZ ad bd)),.d (ar (cU ad bd)),.d (ar (bE ad bd))]
set_option maxHeartbeats 4000000 in
theorem sh(a b:Arr)(hb:b.dims.length≤1000):CallA Tryz.prog 155 [aO a,aO b] [] (nT a.dims b.dims) []:=by
 unfold aO nT
 refine enter af Tryz.func155 rfl (by decide +kernel) rfl fun hok w0 σ0 φ0 M=>?_
 clear hok
 repeat' (first|(refine h1H ?_;(refine h0H ?_;refine ae J J J J J J J J (nU _ _ _ _) J ?_))|(refine h2H ?_;refine bm (bq (dl:=[10,12,14]) J) (cr ?_))|refine wG ?_|(refine h2H ?_;first|refine aj J (fun h=>?_) (fun h=>?_)|refine ep 3 J (Imp.trans (jE 3 0 10 (k:=1) (b:=8) J J (by kernel_rfl)) (Imp.trans (jE 3 1 12 (k:=1) (b:=8) J J (by kernel_rfl)) (jE 3 2 14 (k:=1) (b:=8) J J (by kernel_rfl)))) [(2,_),(4,_),(5,_),(10,_),(11,_)] (q5Q J J J J J) (fun (bN:Bool×Bool) (p:Nat×Nat×Nat×List (List D)×List (List D)×List (List D))=>[(12,.one (.d (.int .i64 (p.1:Int))))]) (fun (bN:Bool×Bool) (p:Nat×Nat×Nat×List (List D)×List (List D)×List (List D))=>[(3,.box [.own (nmA bN) p.2.1,.own (nmB bN) p.2.1,.own 14 p.2.2.1]),((nmA bN),.row 1 8 p.2.2.2.1),((nmB bN),.row 1 8 p.2.2.2.2.1),(14,.row 1 8 p.2.2.2.2.2),(2,.box [.d .nil,.d .nil,.d .nil]),(0,.box [.d (ai a.dims),.d (ao a.attrs),.d (aC a.cells)]),(1,.box [.d (ai b.dims),.d (ao b.attrs),.d (aC b.cells)])]) (fun (p:Nat×Nat×Nat×List (List D)×List (List D)×List (List D))=>p.1≤b.dims.length∧p.2.1≤p.1∧p.2.2.1≤p.1∧p.2.2.2.1=(nf a.dims b.dims p.1).map aA∧p.2.2.2.2.1=(ng a.dims b.dims p.1).map aA∧p.2.2.2.2.2=(lk a.dims b.dims p.1).map aA∧p.2.2.2.1.length=p.2.1∧p.2.2.2.2.1.length=p.2.1∧p.2.2.2.2.2.length=p.2.2.1) (fun (p:Nat×Nat×Nat×List (List D)×List (List D)×List (List D))=>b.dims.length-p.1) (0,0,0,[],[],[]) (q1Q J) wK (fun b y=>by obtain⟨b1,b2⟩:=b;cases b1<;>cases b2<;>first|exact Imp.refl _|exact eu qN (by kernel_rfl)) ?_ (fun p ⟨hk,hn1,hn2,hr1,hr2,hr3,hl1,hl2,hl3⟩=>?_))|(show Exists _;first|refine Exists.intro ((p.1+1,p.2.1+1,p.2.2.1,p.2.2.2.1.take p.2.1++[[.int .i64 (aK (fun d:Dim=>d.name==(at_ b.dims p.1).name) a.dims 0)]],p.2.2.2.2.1.take p.2.1++[[.int .i64 (p.1:Int)]],p.2.2.2.2.2)) (Exists.intro (true,true) ⟨?_,?_,wK,(q1Q J),(q5Q J J J J J)⟩)|refine Exists.intro ((p.1+1,p.2.1,p.2.2.1+1,p.2.2.2.1,p.2.2.2.2.1,p.2.2.2.2.2.take p.2.2.1++[[.int .i64 (p.1:Int)]])) (Exists.intro (false,false) ⟨?_,?_,wK,(q1Q J),(q5Q J J J J J)⟩)))
 all_goals first
  | exact⟨Xk _,Xc _,Xc _,rfl,rfl,rfl,rfl,rfl,rfl⟩
  | (have hlt:p.1<b.dims.length:=by simpa using ‹decide ((p.1:Int)<((b.dims.map ax).length:Int))=true›
     show b.dims.length-(p.1+1)<b.dims.length-p.1
     omega)
  | (have hlt:p.1<b.dims.length:=by simpa using ‹decide ((p.1:Int)<((b.dims.map ax).length:Int))=true›
     have hin:inD a.dims (at_ b.dims p.1).name=true:=h
     refine⟨hlt,by show p.2.1+1≤p.1+1;omega,by show p.2.2.1≤p.1+1;omega,?_,?_,?_,?_,?_,hl3⟩
     ·show List.take p.2.1 p.2.2.2.1++_=(nf a.dims b.dims (p.1+1)).map aA
      rw[MG _ _ _ hin,← hr1,WY (by omega)];rfl
     ·show List.take p.2.1 p.2.2.2.2.1++_=(ng a.dims b.dims (p.1+1)).map aA
      rw[MH _ _ _ hin,← hr2,WY (by omega)]
     ·show p.2.2.2.2.2=(lk a.dims b.dims (p.1+1)).map aA
      rw[J6 _ _ _ hin];exact hr3
     ·show (List.take p.2.1 p.2.2.2.1++_).length=p.2.1+1
      rw[WY (by omega),W9,hl1];rfl
     ·show (List.take p.2.1 p.2.2.2.2.1++_).length=p.2.1+1
      rw[WY (by omega),W9,hl2];rfl)
  | (have hlt:p.1<b.dims.length:=by simpa using ‹decide ((p.1:Int)<((b.dims.map ax).length:Int))=true›
     have hin:inD a.dims (at_ b.dims p.1).name=false:=h
     refine⟨hlt,by show p.2.1≤p.1+1;omega,by show p.2.2.1+1≤p.1+1;omega,?_,?_,?_,hl1,hl2,?_⟩
     ·show p.2.2.2.1=(nf a.dims b.dims (p.1+1)).map aA
      rw[J4 _ _ _ hin];exact hr1
     ·show p.2.2.2.2.1=(ng a.dims b.dims (p.1+1)).map aA
      rw[J5 _ _ _ hin];exact hr2
     ·show List.take p.2.2.1 p.2.2.2.2.2++_=(lk a.dims b.dims (p.1+1)).map aA
      rw[MI _ _ _ hin,← hr3,WY (by omega)]
     ·show (List.take p.2.2.1 p.2.2.2.2.2++_).length=p.2.2.1+1
      rw[WY (by omega),W9,hl3];rfl)
  | (have he:p.1=b.dims.length:=by
      have:¬ p.1<b.dims.length:=by simpa using h
      omega
     rw[he] at hr1 hr2 hr3
     show AV.agg [.d (.sl 1 8 (p.2.2.2.1.take p.2.1)),.d (.sl 1 8 (p.2.2.2.2.1.take p.2.1)),.d (.sl 1 8 (p.2.2.2.2.2.take p.2.2.1))]=_
     rw[WY (by omega),WY (by omega),WY (by omega),hr1,hr2,hr3]
     rfl)
theorem Wz(nm:List UInt8)(lo hi:Int):CallA Tryz.prog 213 [.agg [.d (.str nm),.d (.int .i64 lo),.d (.int .i64 hi)]] [] (.one (.d (.bool (decide (hi<lo))))) []:=by
 refine enter af Tryz.func213 rfl (by decide +kernel) rfl fun hok w0 σ0 φ0 M=>?_
 clear hok
 repeat' (first|refine wG ?_)
 all_goals rfl
theorem RO(ds:List Dim):CallA Tryz.prog 201 [.one (.d (ai ds)),.one (.d (.fn 213 []))] [] (.one (.d (.bool (ds.any pn)))) []:=by
 refine enter af Tryz.func201 rfl (by decide +kernel) rfl fun hok w0 σ0 φ0 M=>?_
 clear hok
 repeat' (first|(refine h1H ?_;(refine h0H ?_;refine ae J J J J J J J J (Kj _ _ _ (fun d=>Wz _ _ _) _) J ?_))|refine wG ?_)
 all_goals (rw[si];rfl)
theorem WA(b:Arr)(nm:List UInt8)(t:Int):CallA Tryz.prog 211 [.agg [.d (.str nm),.d (.int .i64 t)],.one (.d (.ptr [ai b.dims,ao b.attrs,aC b.cells]))] [] (.one (.d (.bool (cC b nm)))) []:=by
 refine enter af Tryz.func211 rfl (by decide +kernel) rfl fun hok w0 σ0 φ0 M=>?_
 clear hok
 repeat' (first|(refine h1H ?_;(refine h0H ?_;refine ae J J J J J J J J (vE b _) J ?_))|refine wG ?_)
 all_goals rfl
theorem WB(b:Arr)(nm:List UInt8)(t:Int):CallA Tryz.prog 212 [.agg [.d (.str nm),.d (.int .i64 t)],.one (.d (.ptr [ai b.dims,ao b.attrs,aC b.cells]))] [] (.one (.d (.bool (cC b nm)))) []:=by
 refine enter af Tryz.func212 rfl (by decide +kernel) rfl fun hok w0 σ0 φ0 M=>?_
 clear hok
 repeat' (first|(refine h1H ?_;(refine h0H ?_;refine ae J J J J J J J J (vE b _) J ?_))|refine wG ?_)
 all_goals rfl
theorem RP(b:Arr)(l:List Attr):CallA Tryz.prog 210 [.one (.d (ao l)),.one (.d (.fn 211 [.ptr [ai b.dims,ao b.attrs,aC b.cells]]))] [] (.one (.d (.bool (l.any fun x=>cC b x.name)))) []:=by
 refine enter af Tryz.func210 rfl (by decide +kernel) rfl fun hok w0 σ0 φ0 M=>?_
 clear hok
 repeat' (first|(refine h1H ?_;(refine h0H ?_;refine ae J J J J J J J J (Kk _ _ _ (fun d=>WA b _ _) _) J ?_))|refine wG ?_)
 all_goals (rw[si])
theorem RQ(b:Arr)(l:List Attr):CallA Tryz.prog 210 [.one (.d (ao l)),.one (.d (.fn 212 [.ptr [ai b.dims,ao b.attrs,aC b.cells]]))] [] (.one (.d (.bool (l.any fun x=>cC b x.name)))) []:=by
 refine enter af Tryz.func210 rfl (by decide +kernel) rfl fun hok w0 σ0 φ0 M=>?_
 clear hok
 repeat' (first|(refine h1H ?_;(refine h0H ?_;refine ae J J J J J J J J (Kk _ _ _ (fun d=>WB b _ _) _) J ?_))|refine wG ?_)
 all_goals (rw[si])
theorem Mi(b:Arr)(l:List Attr)(e:Bool)(h:(l.any fun x=>cC b x.name)=e):CallA Tryz.prog 210 [.one (.d (ao l)),.one (.d (.fn 211 [.ptr [ai b.dims,ao b.attrs,aC b.cells]]))] [] (.one (.d (.bool e))) []:=by
 subst h;exact RP b l
theorem TX(a b:Arr):CallA Tryz.prog 156 [aO a,aO b] [] (.one (.d (.bool (cM a b||cM b a)))) []:=by
 unfold aO
 cases h1:a.attrs.any fun x=>cC b x.name with
 | true =>
   have e:(cM a b||cM b a)=true:=by unfold cM;rw[h1];rfl
   rw[e]
   refine enter af Tryz.func156 rfl (by decide +kernel) rfl fun hok w0 σ0 φ0 M=>?_
   clear hok
   repeat' (first|(refine h1H ?_;(refine Qp ?_;first|refine cV (bq (dl:=[1]) J) ?_|refine cV (bq (dl:=[0]) J) ?_))|(refine h1H ?_;(refine h0H ?_;refine ae J J J J J J J J (Mi b a.attrs _ h1) J ?_))|refine wG ?_)
   all_goals rfl
 | false =>
   have e:(cM a b||cM b a)=(b.attrs.any fun x=>cC a x.name):=by unfold cM;rw[h1];rfl
   rw[e]
   refine enter af Tryz.func156 rfl (by decide +kernel) rfl fun hok w0 σ0 φ0 M=>?_
   clear hok
   repeat' (first|(refine h1H ?_;(refine Qp ?_;first|refine cV (bq (dl:=[1]) J) ?_|refine cV (bq (dl:=[0]) J) ?_))|(refine h1H ?_;(refine h0H ?_;first|refine ae J J J J J J J J (Mi b a.attrs _ h1) J ?_|refine ae J J J J J J J J (RQ a b.attrs) J ?_))|refine wG ?_)
   all_goals rfl
end Go.Proofs.YtpejdgkaapnekaaGreat
namespace Go.Proofs.YtpejdgkaapnekaaGreat
open Go Go.Abs
attribute [local irreducible] aa OkC ak av aq aI
set_option maxRecDepth 10000
theorem Cd{V:Env}{st:St}{o:Oper}{t id:Nat}{m:MTy}{x y:Operand}{a:List Int}{f:Nat→D}{ks:List (List Int)}(ho:o.op=.lookup t x y false)(hm:Abs.look V.M t=some m)(hms:m.ks=pk)(hk:m.kg=true)(hv:m.vg=false)(hz:m.z=[.bool false])
  (hx:ev st x=some (.one (.mapr id))) (hl:Abs.look st.sto id=some (.map true false (dH f ks 0))) (hy:ev st y=some (lS a)) (h4:a.length≤4) (hks:∀ k∈ks,k.length=a.length)
  (hw:bC a ks 0=none):aR V st o 0=some ⟨.one (.d (.bool false)),[],[]⟩ :=
 iU ho hm hms hk hv hx hl hy h4 hks (by rw[hw,hz];rfl)
theorem Ce{V:Env}{st:St}{o:Oper}{t id j:Nat}{m:MTy}{x y:Operand}{a:List Int}{f:Nat→D}{ks:List (List Int)}(ho:o.op=.lookup t x y false)(hm:Abs.look V.M t=some m)(hms:m.ks=pk)(hk:m.kg=true)(hv:m.vg=false)
  (hx:ev st x=some (.one (.mapr id))) (hl:Abs.look st.sto id=some (.map true false (dH f ks 0))) (hy:ev st y=some (lS a)) (h4:a.length≤4) (hks:∀ k∈ks,k.length=a.length)
  (hw:bC a ks 0=some j):aR V st o 0=some ⟨.one (.d (f j)),[],[]⟩ :=
 iU ho hm hms hk hv hx hl hy h4 hks (by rw[hw];rfl)
theorem whereK_none{x:List Int}:∀ {ks:List (List Int)} {n:Nat},bC x ks n=none↔∀ k∈ks,k≠x
 | [],n=>by simp[bC]
 | k::r,n=>by
   simp only[bC]
   split
   ·rename_i h
    constructor
    ·intro h2;cases h2
    ·intro h2;exact absurd (by simpa using h) (h2 k Xd)
   ·rename_i h
    rw[whereK_none]
    constructor
    ·intro h2 y hy
     rcases Xo.1 hy with rfl|hy
     ·simpa using h
     ·exact h2 y hy
    ·intro h2 y hy;exact h2 y (Xa _ hy)
def j7(ds es:List Dim)(k:Nat):List Dim:=(List.range ds.length).map fun i=>if i<k then my (at_ ds i) (at_ es i) else at_ ds i
section
variable {ds es:List Dim} {k:Nat}
theorem kz:(j7 ds es k).length=ds.length:=by simp[j7]
theorem qp{i:Nat}(h:i<ds.length):at_ (j7 ds es k) i=if i<k then my (at_ ds i) (at_ es i) else at_ ds i:=by
 unfold j7;rw[bj (by simpa using h),Cf h]
theorem IK:j7 ds es 0=ds:=c5 kz fun i hi=>by rw[kz] at hi;rw[qp hi,if_neg (by omega)]
theorem KD(hl:ds.length=es.length):j7 ds es ds.length=ek ds es:=c5 (by rw[kz];simp[ek];omega) fun i hi=>by
 rw[kz] at hi
 rw[qp hi,if_pos hi]
 unfold ek
 rw[qo hi (by omega)]
theorem IL(h:k<ds.length)(x:List D):(((j7 ds es k).map ax).set k x).set k (ax (my (at_ ds k) (at_ es k)))=(j7 ds es (k+1)).map ax:=by
 rw[List.set_set,← XW]
 congr 1
 refine c5 (by simp[kz]) fun i hi=>?_
 have hi':i<ds.length:=by simpa[kz] using hi
 rw[fP (by rw[kz];exact hi'),qp hi',qp hi']
 by_cases e:i=k
 ·subst e;simp
 ·by_cases h1:i<k
  ·rw[if_neg e,if_pos h1,if_pos (by omega)]
  ·rw[if_neg e,if_neg h1,if_neg (by omega)]
end
theorem IM(a b:Arr) :
  ((!aG [a,b])=true∧ji a b=(none,2)) ∨
  ((!aG [a,b])=false∧(!eh a.dims b.dims)=true∧ji a b=(none,13)) ∨
  ((!aG [a,b])=false∧(!eh a.dims b.dims)=false∧(!bP ej a.attrs b.attrs)=true∧ji a b=(none,12)) ∨
  ((!aG [a,b])=false∧(!eh a.dims b.dims)=false∧(!bP ej a.attrs b.attrs)=false∧Mrg a b):=by
 by_cases hc:aF a≠0∨aF b≠0
 ·refine .inl ⟨?_,by unfold ji;rw[if_pos hc]⟩
  simp only[aG,List.all_cons,List.all_nil,Bool.and_true,Xe,Bool.and_eq_false_iff,Yk]
  exact hc
 have h1:aF a=0:=by omega
 have h2:aF b=0:=by omega
 have hv:(!aG [a,b])=false:=by simp[aG,h1,h2]
 cases h3:eh a.dims b.dims
 ·exact .inr (.inl ⟨hv,rfl,by unfold ji;rw[if_neg hc,if_pos (by simp[h3])]⟩)
 cases h4:bP ej a.attrs b.attrs
 ·exact .inr (.inr (.inl ⟨hv,rfl,rfl,by unfold ji;rw[if_neg hc,if_neg (by simp[h3]),if_pos (by simp[h4])]⟩))
 ·exact .inr (.inr (.inr ⟨hv,rfl,rfl,okA h1,okA h2,alike_iff.1 h3,(fq jC).1 h4⟩))
theorem new_iff{l:List Cell}{c:Cell}:bC c.at' (l.map Cell.at') 0=none↔iA l c=true:=by
 rw[whereK_none,newC_iff]
 constructor
 ·rintro h ⟨y,hy,he⟩;exact h _ (Xj.2 ⟨y,hy,rfl⟩) he
 ·intro h k hk he
  obtain⟨y,hy,rfl⟩:=Xj.1 hk
  exact h ⟨y,hy,he⟩
theorem M4{l:List Cell}{ks:List (List Int)}{q:Nat}(hd:l.Pairwise cE)(h:ks=(l.take q).map Cell.at')(hq:q<l.length):bC (at_ l q).at' ks 0=none:=by
 rw[whereK_none]
 intro k hk
 rw[h] at hk
 obtain⟨y,hy,rfl⟩:=Xj.1 hk
 have h2:(l.take (q+1)).Pairwise cE:=hd.sublist (List.take_sublist _ _)
 rw[ez hq,List.pairwise_append] at h2
 exact h2.2.2 y hy _ (by simp)
set_option maxHeartbeats 8000000 in
theorem c47(a b:Arr)(hcl:a.cells.length+b.cells.length≤4096):CallA Tryz.prog 47 [aO a,aO b] [] (dE (ji a b)) []:=by
 unfold aO
 refine enter af Tryz.func47 rfl (by decide +kernel) rfl fun hok w0 σ0 φ0 M=>?_
 clear hok
 rcases IM a b with⟨hv,e⟩|⟨hv,hb1,e⟩|⟨hv,hb1,hb2,e⟩|⟨hv,hb1,hb2,hM⟩
 all_goals (try rw[e])
 rotate_right
 have e:=MZ hM hcl
 have hne:0<a.dims.length:=by have:=hM.oka.dims.1;omega
 have hlen:=hM.len
 have hb4:=hM.okb.dims.2.1
 have hca:=hM.oka.few
 have hcb:=hM.okb.few
 have hd4:=hM.oka.dims.2.1
 have hdf:=bW hM.oka.srt
 have hnl:∀ j,j<a.cells.length→(at_ a.cells j).at'.length=a.dims.length:=fun j hj=>(cellF_ok.1 (hM.oka.cel _ (aU hj))).1
 have hml:∀ j,j<b.cells.length→(at_ b.cells j).at'.length=a.dims.length:=fun j hj=>(cellF_ok.1 (hM.okb.cel _ (aU hj))).1.trans hlen.symm
 have hn4:∀ j,j<a.cells.length→(at_ a.cells j).at'.length≤4:=fun j hj=>by rw[hnl j hj];exact hd4
 have hm4:∀ j,j<b.cells.length→(at_ b.cells j).at'.length≤4:=fun j hj=>by rw[hml j hj];exact hd4
 have hfl:(a.cells++b.cells.filter (iA a.cells)).length≤4096:=by
  have:=XO (iA a.cells) b.cells
  rw[W9];omega
 repeat' (first|(refine h1H ?_;(refine h0H ?_;first|refine aT [3] J J J J J J J J J (c96 [a,b]) J ?_|refine cS 10 [] (rav':=.one (.own 10 a.dims.length)) (kU a.dims hne) J J J J J J trivial b7 J J J J ?_|refine cS 30 [] (rav':=.one (.own 30 a.cells.length)) (Ma a.cells) J J J J J J trivial b7 J J J J ?_))|(refine h1H ?_;(refine P3 ?_;refine eG envOk 14 J J J J J J ?_))|(refine h1H ?_;(refine P4 ?_;refine jJ envOk J J (wS J J J J J J J J J J (hn4 _ wB) (fun k hk=>(hq3 k hk).trans (hnl _ wB).symm) (M4 hdf hq2 wB) J) ?_))|(refine h1H ?_;(refine KF ?_;first|refine s_e envOk J J J (Cd J J J J J J J J J (hm4 _ wB) (fun k hk=>(hq3 k hk).trans (hml _ wB).symm) (by assumption)) ?_|refine s_e envOk J J J (Ce J J J J J J J J (hm4 _ wB) (fun k hk=>(hq3 k hk).trans (hml _ wB).symm) (by assumption)) ?_|((fail_if_success (have:=hwk));(rcases zD (bC (at_ b.cells (r.1:Int).toNat).at' q.2 0) with hwk|⟨j,hwk⟩))))|(refine h1H ?_;(refine h0H ?_;first|refine eP 70 [10,30] J J J J J J J J J (po (ek a.dims b.dims) a.attrs (a.cells++b.cells.filter (iA a.cells)) _ _ (BS hM) hfl (by rw[WY (by omega),hr,show p.1=a.dims.length from wB,KD hlen]) (by rw[WY (by omega),hr4,WY wB])) J J J ?_|refine ae J J J J J J J J (sB _ _) J ?_|refine ae J J J J J J J J (BI _ _) J ?_|refine ae J J J J J J J J (Bf _ (hn4 _ wB)) J ?_|refine ae J J J J J J J J (Bf _ (hm4 _ wB)) J ?_))|refine wG ?_|(refine h2H ?_;first|refine aj J (fun h=>?_) (fun h=>?_)|refine cm 9 J [(2,_),(3,_),(4,_),(6,_),(42,_),(43,_)] (q6Q J J J J J J) (fun (p:Nat×List (List D))=>[(44,.one (.d (.int .i64 (p.1:Int))))]) (fun (p:Nat×List (List D))=>[(10,.row 3 32 p.2),(0,.box [.d (ai a.dims),.d (ao a.attrs),.d (aC a.cells)]),(1,.box [.d (ai b.dims),.d (ao b.attrs),.d (aC b.cells)]),(2,.box [.d .nil,.d .nil,.d .nil])]) (fun (p:Nat×List (List D))=>p.1≤b.dims.length∧p.2.length=a.dims.length∧p.2=(j7 a.dims b.dims p.1).map ax) (fun (p:Nat×List (List D))=>b.dims.length-p.1) (0,a.dims.map ax) (q1Q J) wK ?_ (fun p ⟨hk,hln,hr⟩=>?_)|refine cm 15 J [(2,_),(3,_),(4,_),(6,_),(9,_),(76,_),(77,_)] (q7Q J J J J J J J) (fun (q:Nat×List (List Int))=>[(78,.one (.d (.int .i64 (q.1:Int))))]) (fun (q:Nat×List (List Int))=>[(14,.map true false (dH (fun _=>.bool true) q.2 0)),(10,.row 3 32 p.2),(0,.box [.d (ai a.dims),.d (ao a.attrs),.d (aC a.cells)]),(1,.box [.d (ai b.dims),.d (ao b.attrs),.d (aC b.cells)]),(2,.box [.d .nil,.d .nil,.d .nil])]) (fun (q:Nat×List (List Int))=>q.1≤a.cells.length∧q.2=(a.cells.take q.1).map Cell.at'∧(∀ k∈q.2,k.length=a.dims.length)) (fun (q:Nat×List (List Int))=>a.cells.length-q.1) (0,[]) (q1Q J) wK ?_ (fun q ⟨hq1,hq2,hq3⟩=>?_)|refine cm 21 J [(2,_),(4,_),(6,_),(9,_),(91,_),(92,_)] (q6Q J J J J J J) (fun (r:Nat×Nat×List (List D))=>[(12,.one (.own 30 r.2.1)),(93,.one (.d (.int .i64 (r.1:Int))))]) (fun (r:Nat×Nat×List (List D))=>[(30,.row 2 48 r.2.2),(14,.map true false (dH (fun _=>.bool true) q.2 0)),(10,.row 3 32 p.2),(0,.box [.d (ai a.dims),.d (ao a.attrs),.d (aC a.cells)]),(1,.box [.d (ai b.dims),.d (ao b.attrs),.d (aC b.cells)]),(2,.box [.d .nil,.d .nil,.d .nil])]) (fun (r:Nat×Nat×List (List D))=>r.1≤b.cells.length∧r.2.1=r.2.2.length∧r.2.1≤a.cells.length+r.1∧r.2.2=(a.cells++(b.cells.take r.1).filter (iA a.cells)).map al) (fun (r:Nat×Nat×List (List D))=>b.cells.length-r.1) (0,a.cells.length,a.cells.map al) (q2Q J J) wK ?_ (fun r ⟨hr1,hr2,hr3,hr4⟩=>?_))|(show Exists _;first|refine Exists.intro ((r.1+1,r.2.1+1,r.2.2.take r.2.1++[al (at_ b.cells r.1)])) ⟨?_,?_,wK,(q2Q J J),(q6Q J J J J J J)⟩|refine Exists.intro ((r.1+1,r.2)) ⟨?_,?_,wK,(q2Q J J),(q6Q J J J J J J)⟩|refine Exists.intro ((q.1+1,q.2++[(at_ a.cells q.1).at'])) ⟨?_,?_,wK,(q1Q J),(q7Q J J J J J J J)⟩|refine Exists.intro ((p.1+1,(p.2.set p.1 [.str (at_ (j7 a.dims b.dims p.1) p.1).name,.int .i64 (min (at_ (j7 a.dims b.dims p.1) p.1).lo (at_ b.dims p.1).lo),.int .i64 (at_ (j7 a.dims b.dims p.1) p.1).hi]).set p.1 [.str (at_ (j7 a.dims b.dims p.1) p.1).name,.int .i64 (min (at_ (j7 a.dims b.dims p.1) p.1).lo (at_ b.dims p.1).lo),.int .i64 (max (at_ (j7 a.dims b.dims p.1) p.1).hi (at_ b.dims p.1).hi)])) ⟨?_,?_,wK,(q1Q J),(q6Q J J J J J J)⟩))
 all_goals first
  | rfl
  | exact⟨Xk _,by simp,by show a.dims.map ax=_;rw[IK]⟩
  | exact⟨Xk _,rfl,fun k hk=>by cases hk⟩
  | exact⟨Xk _,by simp,by simp,by simp⟩
  | (have hlt:p.1<b.dims.length:=by simpa using h
     refine⟨hlt,by simp[hln],?_⟩
     show ((p.2.set p.1 _).set p.1 _)=_
     have em:at_ (j7 a.dims b.dims p.1) p.1=at_ a.dims p.1:=by rw[qp (by omega),if_neg (Nat.lt_irrefl _)]
     rw[em,hr]
     exact IL (by omega) _)
  | (have hlt:p.1<b.dims.length:=by simpa using h
     show b.dims.length-(p.1+1)<b.dims.length-p.1
     omega)
  | (have hlt:q.1<a.cells.length:=by simpa using h
     refine⟨hlt,?_,fun k hk=>?_⟩
     ·show q.2++[_]=(a.cells.take (q.1+1)).map Cell.at'
      rw[ez hlt,XB,hq2];rfl
     ·rcases XF.1 hk with hk|hk
      ·exact hq3 k hk
      ·rw[X6.1 hk];exact hnl _ hlt)
  | (have hlt:q.1<a.cells.length:=by simpa using h
     show a.cells.length-(q.1+1)<a.cells.length-q.1
     omega)
  | (have hlt:r.1<b.cells.length:=by simpa using ‹decide ((r.1:Int)<((b.cells.map al).length:Int))=true›
     show b.cells.length-(r.1+1)<b.cells.length-r.1
     omega)
  | skip
 ·have hlt:r.1<b.cells.length:=by simpa using h
  have hqn:q.2=a.cells.map Cell.at':=by rw[hq2,WY (by simpa using ‹decide ((q.1:Int)<((a.cells.map al).length:Int))=false›)]
  have hnw:iA a.cells (at_ b.cells r.1)=true:=by rw[hqn] at hwk;exact new_iff.1 hwk
  refine⟨hlt,?_,by show r.2.1+1≤a.cells.length+(r.1+1);omega,?_⟩
  ·show r.2.1+1=(r.2.2.take r.2.1++[_]).length
   rw[W9,XU];simp[hr2]
  ·show r.2.2.take r.2.1++[_]=List.map al (a.cells++List.filter (iA a.cells) (b.cells.take (r.1+1)))
   rw[WY (by omega),hr4,mA hlt,if_pos hnw,← X5]
   simp only[XB,XK,List.map_nil]
 ·have hlt:r.1<b.cells.length:=by simpa using h
  have hqn:q.2=a.cells.map Cell.at':=by rw[hq2,WY (by simpa using ‹decide ((q.1:Int)<((a.cells.map al).length:Int))=false›)]
  have hnw:¬ iA a.cells (at_ b.cells r.1)=true:=fun hx=>by
   have h2:=new_iff.2 hx
   rw[← hqn] at h2
   have h3:bC (at_ b.cells r.1).at' q.2 0=some j:=hwk
   rw[h2] at h3;cases h3
  refine⟨hlt,hr2,by show r.2.1≤a.cells.length+(r.1+1);omega,?_⟩
  show r.2.2=List.map al (a.cells++List.filter (iA a.cells) (b.cells.take (r.1+1)))
  rw[mA hlt,if_neg hnw,Yt]
  exact hr4
 ·rw[e];rfl
end Go.Proofs.YtpejdgkaapnekaaGreat
