import Derived.Test.YtpejdgkaapnekaaGreatIP18
import Derived.Test.YtpejdgkaapnekaaGreatIP17
import Derived.Test.YtpejdgkaapnekaaGreatIP15
import Derived.Test.YtpejdgkaapnekaaGreatIP16
set_option linter.unusedVariables false
set_option linter.unusedSimpArgs false
set_option maxHeartbeats 1000000
namespace Go.Abs
open Go
variable {P:Program} {V:Env} {T:Tab} {st:St} {σ σ':Sig} {φ φ':Pl} {w w':World}
theorem xJ{e:Exit}{f:St→Prop}{s:St}(h:av f Bot e s):e=.normal∧f s:=by
 cases e<;>first|exact⟨rfl,h⟩|exact absurd h (fun h=>h.elim)
theorem mk0{c:Ctx}{a:Act}(h:c.mks=[])(hr:Rel c st a w σ φ):({ a with defers:=[] }:Act)=a:=by
 have:a.defers=[]:=hr.defers.trans h
 rw[← this]
theorem sa{α:Type}{x:α}:∀ {l:List α} {i j:Nat},l.Nodup→l[i]?=some x→l[j]?=some x→i=j
 | [],_,_,_,h,_=>by simp at h
 | a::l,0,0,_,_,_=>rfl
 | a::l,i+1,j+1,hn,h1,h2=>by
   rw[H5] at hn
   exact congrArg (·+1) (sa hn.2 (by simpa using h1) (by simpa using h2))
 | a::l,0,j+1,hn,h1,h2=>by
   rw[H5] at hn
   simp at h1;subst h1
   exact absurd (List.mem_of_getElem? (by simpa using h2)) hn.1
 | a::l,i+1,0,hn,h1,h2=>by
   rw[H5] at hn
   simp at h2;subst h2
   exact absurd (List.mem_of_getElem? (by simpa using h1)) hn.1
theorem yH{c:Ctx}{bl b3 i17 sm mid idr kk bb N r:Nat}{RA RC RX RY RD:Code}{ops:Array Oper}{l1 l3:List Oper}{oe os:Oper}{t t2:TypeId}{m:MTy}{x1 x2 y1 y2 y3:Operand}{de:Nat}{fr kept:List (Nat×AV)}{sto sto1:Sto}{Q:Exit→St→Prop}
  (hmk:c.mks=[]) (hM:MOk P t m) (hms:m.ks=pk) (hkg:m.kg=true) (hvg:m.vg=false) (hz:m.z=[.nil])
  (pl:Nat→List Int) (cell:Nat→List D) (L:Nat→List (Nat×AV)) (F F2:Nat→Nat→List (Nat×AV)) (F3:Nat→Nat→Nat→Nat→List (Nat×AV)) (S S2:Nat→Sto)
  (hN:N≤100000000) (hr4:r≤4) (hpl:∀ k,k<N→(pl k).length=r)
  (hops:ops.toList=l1++oe::(l3++[os]))
  (hf:look fr sm=some (.one (.mapr mid))) (hl:look sto mid=some (.map true false [])) (hsL:SubL fr (L 0)) (hsk:SubL fr kept) (hst:SubL sto sto1)
  (hlt:Nat.blt mid 1000000=true) (hmL:aQ mid (L 0)=false) (hmk1:aQ mid kept=false) (hms1:aF mid sto1=false) (hml:look sto1 mid=none)
  (H1:∀ k,k≤N→∀ (B:Nat) (w0:World) (σ0:Sig) (φ0:Pl) (M:Nat→Prop),OkC P ⟨w0,σ0,φ0,M,c.n,c.rd,[]⟩ RA ⟨(sm,.one (.d (.raw (.map (some B)))))::(L k++kept),sto1⟩ (av (fun s1=>OkC P ⟨w0,σ0,φ0,M,c.n,c.rd,[]⟩ RC s1 (fun e s2 =>
   (e=.exit bl∧k=N∧SubL s2.fr ((sm,.one (.d (.raw (.map (some B)))))::kept)∧SubL s2.sto sto1)∨(e=.normal∧k<N∧OkC P ⟨w0,σ0,φ0,M,c.n,c.rd,[]⟩ RX s2 (av (fun s3=>OkC P ⟨w0,σ0,φ0,M,c.n,c.rd,[]⟩ RY s3 (av (fun s4=>SubL s4.fr (F k B)∧SubL s4.sto (S k)) Bot)) Bot)))) Bot))
  (H2:∀ k,k<N→∀ (B:Nat) (w0:World) (σ0:Sig) (φ0:Pl) (M:Nat→Prop),aa P ⟨w0,σ0,φ0,M,c.n,c.rd,[]⟩ ops l1 ⟨F k B,S k⟩ (fun s=>SubL s.fr (F2 k B)∧SubL s.sto (S2 k)))
  (hoe:oe.op=.mapEntry t x1 x2) (hge:oe.guard=none) (hde:oe.dst=some de) (hdn:Nat.blt de c.n=true)
  (he1:∀ k B,ev ⟨F2 k B,S2 k⟩ x1=some (.one (.d (.raw (.map (some B)))))) (he2:∀ k B,ev ⟨F2 k B,S2 k⟩ x2=some (oY (pl k)))
  (hlr:Nat.blt idr 1000000=true) (hrF:∀ k B,aQ idr (F2 k B)=false) (hrS:∀ k,aF idr (S2 k)=false) (hr1:look sto1 idr=none)
  (H3:∀ k,k<N→∀ (B j:Nat) (xs:List (List D)),xs.length≤N→∀ (w0:World) (σ0:Sig) (φ0:Pl) (M:Nat→Prop),aa P ⟨w0,σ0,φ0,M,c.n,c.rd,[]⟩ ops l3 ⟨(de,.tup [(false,[.own idr xs.length]),(false,[.d (.int .i64 j)])])::F2 k B,(idr,.row kk bb xs)::S2 k⟩
   (fun s=>SubL s.fr (F3 k B j xs.length)∧look s.sto idr=some (.row kk bb (xs++[cell k]))∧SubL s.sto sto1))
  (hos:os.op=.entryStore t2 y1 y2 y3) (hgs:os.guard=none) (hds:os.dst=none)
  (hs1:∀ k B j n s,ev ⟨F3 k B j n,s⟩ y1=some (.one (.d (.raw (.map (some B)))))) (hs2:∀ k B j n s,ev ⟨F3 k B j n,s⟩ y2=some (.one (.d (.int .i64 j)))) (hs3:∀ k B j n s,ev ⟨F3 k B j n,s⟩ y3=some (.one (.own idr (n+1))))
  (H4:∀ k,k<N→∀ (B j n:Nat) (w0:World) (σ0:Sig) (φ0:Pl) (M:Nat→Prop),OkC P ⟨w0,σ0,φ0,M,c.n,c.rd,[]⟩ RD ⟨F3 k B j n,sto1⟩ (av (fun s=>SubL s.fr ((sm,.one (.d (.raw (.map (some B)))))::(L (k+1)++kept))∧SubL s.sto sto1) Bot))
  (hQ:Q (.exit bl) ⟨(sm,.one (.mapr mid))::kept,(mid,.map true false (dC (fun j=>.sl kk bb (rS pl cell N (at_ (kS pl N) j))) (kS pl N) 0))::sto1⟩) :
  OkC P c (.loop (.seq RA (.seq RC (.seq (.block b3 (.seq RX (.seq RY (.region i17 ops false)))) RD)))) ⟨fr,sto⟩ Q:=by
 intro a w σ φ hr
 have hap:∀ {f a b:List (Nat×AV)},SubL f a→SubL f b→SubL f (a++b):=by
  intro f a b h1 h2
  induction a with
  | nil=>exact h2
  | cons p r ih=>exact⟨h1.1,ih h1.2⟩
 have hmen:∀ {f g:List (Nat×AV)},aQ mid f=false→aQ mid g=false→aQ mid (f++g)=false:=by
  intro f g h1 h2
  induction f with
  | nil=>exact h2
  | cons p r ih =>
    obtain⟨s,v⟩:=p
    simp only[aQ,HF,Hx] at h1 ⊢
    exact⟨h1.1,ih h1.2⟩
 -- the map's block
 obtain⟨B,cap,hB⟩:∃ B cap,φ mid=some (B,cap)∧w.heap[B]?=some (.map #[] 0):=by
  obtain⟨B,cc,ents,h1,h2,h3,h4⟩:=hr.inv.obj _ _ hl
  refine⟨B,cc,h1,?_⟩
  cases ents with
  | nil=>exact h2
  | cons e r=>exact h3.elim
 have h0:Rel c ⟨(sm,.one (.d (.raw (.map (some B)))))::(L 0++kept),sto1⟩ a w σ φ:=by
  have h1:Rel c ⟨fr,sto1⟩ a w σ φ:=hr.dropTo fun i e h=>hst.look h
  refine⟨h1.le,h1.fresh,h1.inv,h1.mine,fun s v hv=>?_,h1.defers,h1.size,h1.fra,h1.pin⟩
  rcases ab hv with⟨rfl,rfl⟩|⟨_,hv⟩
  ·obtain⟨u,hu,hru⟩:=hr.slot _ _ hf
   refine⟨u,hu,?_⟩
   have hru:RepC σ φ sto (.mapr mid) u:=hru
   cases hru with
   | dead hx _=>simp[bm,bn hl] at hx
   | mapr h2 h3 =>
     rw[hB.1] at h3;cases h3
     exact .d (.raw rfl)
  ·exact h1.slot s v ((hap hsL hsk).look hv)
 have hal0:Al (fun X=>c.w0.heap.size≤X∨c.M X) σ φ sto1 w kk bb B (fun _=>False) (kS pl 0) (rS pl cell 0) (fun _=>(0,0)) []:=by
  refine⟨hB.2,rfl,fun i x e h=>by simp[kS] at h,fun i x e _ h=>by simp[kS] at h,fun i j h=>by simp[kS] at h,fun id o p ho hp=>?_,hr.mine _ _ _ hl hB.1⟩
  have hne:id≠mid:=by rintro rfl;rw[hml] at ho;cases ho
  exact hr.inv.inj _ _ _ _ _ _ (hst.look ho) hl hne hp hB.1
 refine xg (fun n a w=>∃ k σ φ ents bs,n=N-k∧k≤N∧Rel c ⟨(sm,.one (.d (.raw (.map (some B)))))::(L k++kept),sto1⟩ a w σ φ∧Al (fun X=>c.w0.heap.size≤X∨c.M X) σ φ sto1 w kk bb B (fun _=>False) (kS pl k) (rS pl cell k) bs ents)
  N ⟨0,σ,φ,[],fun _=>(0,0),rfl,Hi _,h0,hal0⟩ ?_
 clear h0 hal0 hB hr
 rintro n a w ⟨k,σ,φ,ents,bs,rfl,hkN,hr,hal⟩
 have hr2:=hr.anew [] c.rd
 rw[mk0 hmk hr] at hr2
 refine wpIn_seq ((H1 k hkN B w σ φ _).use hr2 fun e a1 w1 st1 σ1 φ1 hq hre=>?_)
 obtain⟨rfl,hq⟩:=xJ hq
 refine wpIn_seq (hq.use (hre.rel (by simp)) fun e a2 w2 st2 σ2 φ2 hq hre=>?_)
 have backD:∀ {st':St} {a':Act} {w':World} {σ':Sig} {φ':Pl} {st0:St} {a0:Act} {wx:World} {σx:Sig} {φx:Pl},Rel c st0 a0 wx σx φx→Rel ⟨wx,σx,φx,MOf φx st0.sto,c.n,c.rd,[]⟩ st' a' w' σ' φ'→Rel c st' a' w' σ' φ':=by
  intro st' a' w' σ' φ' st0 a0 wx σx φx h1 h2
  have h3:=Rel.back h1 h2
  have hd:a'.defers=[]:=h2.defers
  have h4:({ a' with defers:=c.mks }:Act)=a':=by rw[hmk,← hd]
  rwa [h4] at h3
 rcases hq with⟨rfl,hkN2,hs1',hs2'⟩|⟨rfl,hkN2,hq⟩
 ·have h3:=hre.rel (by simp)
  have h4:=hal.keep h3
  have h5:=backD hr h3
  obtain⟨f2,s2⟩:=st2
  have h6:Rel c ⟨(sm,.one (.d (.raw (.map (some B)))))::kept,sto1⟩ a2 w2 σ2 φ2:=by
   have h7:=h5.dropTo (s':=sto1) fun i e h=>hs2'.look h
   exact⟨h7.le,h7.fresh,h7.inv,h7.mine,fun s v hv=>h7.slot s v (hs1'.look hv),h7.defers,h7.size,h7.fra,h7.pin⟩
  obtain⟨σ',φ',h8⟩:=(h4.sub fun i e h=>hs2'.look h).close h6 hlt hmk1 hms1
  rw[hkN2] at h8
  exact⟨_,σ',φ',hQ,.inl h8⟩
 refine wpIn_seq (wpIn_block (wpIn_seq (hq.use (hre.rel (by simp)) fun e a3 w3 st3 σ3 φ3 hq hre=>?_)))
 obtain⟨rfl,hq⟩:=xJ hq
 refine wpIn_seq (hq.use (hre.rel (by simp)) fun e a4 w4 st4 σ4 φ4 hq hre=>?_)
 obtain⟨rfl,hs1',hs2'⟩:=xJ hq
 have hr4':=hre.rel (by simp)
 obtain⟨σ5,φ5,hr5⟩:=oT (st':=⟨F k B,S k⟩) hs1' hs2' a4 w4 σ4 φ4 hr4'
 clear hs1' hs2' hr4' hre hq
 refine wpIn_region_list ?_
 rw[hops]
 refine gL (H2 k hkN2 B w σ φ _ a4 w4 σ5 φ5 _ hr5 fun a5 w5 σ6 φ6 st6 hK hr6=>?_)
 obtain⟨σ7,φ7,hr7⟩:=oT (st':=⟨F2 k B,S2 k⟩) hK.1 hK.2 a5 w5 σ6 φ6 hr6
 have hal7:=hal.keep hr7
 have hb7:=backD hr hr7
 clear hr7 hr6 hK hr5 hr2 hr hal
 have hv1:a5.eval x1=.map (some B):=by
  have h3:=ak hb7 (he1 k B)
  replace h3:=RepC.d_inv h3
  generalize a5.eval x1=v1 at h3
  cases h3;rfl
 have hv2:RepD σ7 true (dW (pl k)) (a5.eval x2):=jq (g:=true) (v:=oY (pl k)) rfl (ak hb7 (he2 k B))
 have hpk:(pl k).length=r:=hpl k hkN2
 have hE:=sD (P:=P) (t:=t) hM hms hkg hvg hz hal7 hv2 (by omega) (fun y hy=>by
  obtain⟨i,h1,h2⟩:=p6 hy
  rw[← h2,hpl i (by omega),hpk])
 -- the rest, from the entry on
 have rest:∀ (ents1:List MapEntry) (j:Nat) (e1:MapEntry) (xs:List (List D)) (φ8:Pl) (v1:Value),xs.length≤N→j<N→ents1[j]?=some e1→xs=rS pl cell k (pl k)→(kS pl (k+1))[j]?=some (pl k) →
   Rel c ⟨F2 k B,(idr,.row kk bb xs)::S2 k⟩ a5 { w5 with heap:=w5.heap.setIfInBounds B (.map ents1.toArray ents1.length) } σ7 φ8→RepC σ7 φ8 ((idr,.row kk bb xs)::S2 k) (.own idr xs.length) v1 →
   Al (fun X=>c.w0.heap.size≤X∨c.M X) σ7 φ8 ((idr,.row kk bb xs)::S2 k) { w5 with heap:=w5.heap.setIfInBounds B (.map ents1.toArray ents1.length) } kk bb B (·=j) (kS pl (k+1)) (rS pl cell k) bs ents1 →
   (Instr.mapEntry t (.map (some B)) (a5.eval x2)).run P w5=.ok (.tuple #[v1,goInt j]) { w5 with heap:=w5.heap.setIfInBounds B (.map ents1.toArray ents1.length) } →
   wpListIn (fnc c) 0 P ops (Exit.inBlock b3 (Exit.then (RD.wpIn (fnc c) 0 P (Exit.then (fun a' w'=>∃ m,m<N-k∧∃ k σ φ ents bs,m=N-k∧k≤N∧Rel c ⟨(sm,.one (.d (.raw (.map (some B)))))::(L k++kept),sto1⟩ a' w' σ φ∧Al (fun X=>c.w0.heap.size≤X∨c.M X) σ φ sto1 w' kk bb B (fun _=>False) (kS pl k) (rS pl cell k) bs ents)
    (fun e a' w'=>∃ st' σ' φ',Q e st'∧RelE c e st' a' w' σ' φ'))) (Exit.then (fun a' w'=>∃ m,m<N-k∧∃ k σ φ ents bs,m=N-k∧k≤N∧Rel c ⟨(sm,.one (.d (.raw (.map (some B)))))::(L k++kept),sto1⟩ a' w' σ φ∧Al (fun X=>c.w0.heap.size≤X∨c.M X) σ φ sto1 w' kk bb B (fun _=>False) (kS pl k) (rS pl cell k) bs ents)
    (fun e a' w'=>∃ st' σ' φ',Q e st'∧RelE c e st' a' w' σ' φ')))) (oe::(l3++[os])) a5 w5:=by
  intro ents1 j e1 xs φ8 v1 hxs hjN he1' hxr hkj hr8 hv8 hal8 hrun
  refine mR (o:=oe) (w':={ w5 with heap:=w5.heap.setIfInBounds B (.map ents1.toArray ents1.length) }) hge (u:=.tuple #[v1,goInt j]) ?_ ?_
  ·simp only[execOp,hoe,hv1,Hj,hrun];rfl
  generalize hw6:({ w5 with heap:=w5.heap.setIfInBounds B (.map ents1.toArray ents1.length) }:World)=w6 at hr8 hal8
  have hr9:=hr8.put (dst:=oe.dst) (v:=.tup [(false,[.own idr xs.length]),(false,[.d (.int .i64 j)])]) (u:=.tuple #[v1,goInt j]) (by rw[hde];exact hdn)
   ⟨[v1,goInt j],rfl,⟨⟨hv8,trivial⟩,⟨⟨.d (.int (by simp only[inR,IntKind.min,IntKind.max,IntKind.signed,IntKind.bits,if_true];omega)),trivial⟩,trivial⟩⟩⟩
  generalize a5.put oe.dst (.tuple #[v1,goInt j])=a6 at hr9 ⊢
  rw[hde] at hr9
  have hra:=hr9.anew [] c.rd
  rw[mk0 hmk hr9] at hra
  refine gL (H3 k hkN2 B j xs hxs w6 σ7 φ8 _ a6 w6 σ7 φ8 _ hra fun a7 w7 σ9 φ9 st9 hK hr10=>?_)
  obtain⟨hK1,hK2,hK3⟩:=hK
  have hal9:=hal8.keep hr10
  have hb9:=backD hr9 hr10
  clear hr10 hra hr9 hr8 hal8
  have e1v:a7.eval y1=.map (some B):=by
   have h3:=hb9
   obtain⟨f9,s9⟩:=st9
   have h3:=ak (st:=⟨F3 k B j xs.length,s9⟩) (⟨hb9.le,hb9.fresh,hb9.inv,hb9.mine,fun s v hv=>hb9.slot s v (hK1.look hv),hb9.defers,hb9.size,hb9.fra,hb9.pin⟩:Rel c ⟨F3 k B j xs.length,s9⟩ a7 w7 σ9 φ9) (hs1 k B j xs.length s9)
   replace h3:=RepC.d_inv h3
   generalize a7.eval y1=v1 at h3
   cases h3;rfl
  have e2v:a7.eval y2=goInt j:=by
   obtain⟨f9,s9⟩:=st9
   have h3:=ak (st:=⟨F3 k B j xs.length,s9⟩) (⟨hb9.le,hb9.fresh,hb9.inv,hb9.mine,fun s v hv=>hb9.slot s v (hK1.look hv),hb9.defers,hb9.size,hb9.fra,hb9.pin⟩:Rel c ⟨F3 k B j xs.length,s9⟩ a7 w7 σ9 φ9) (hs2 k B j xs.length s9)
   replace h3:=RepC.d_inv h3
   generalize a7.eval y2=v1 at h3
   cases h3;rfl
  have e3v:∃ q,φ9 idr=some q∧a7.eval y3=.slice (some ⟨q.1,0,none⟩) (xs.length+1) q.2:=by
   obtain⟨f9,s9⟩:=st9
   have h3:=ak (st:=⟨F3 k B j xs.length,s9⟩) (⟨hb9.le,hb9.fresh,hb9.inv,hb9.mine,fun s v hv=>hb9.slot s v (hK1.look hv),hb9.defers,hb9.size,hb9.fra,hb9.pin⟩:Rel c ⟨F3 k B j xs.length,s9⟩ a7 w7 σ9 φ9) (hs3 k B j xs.length s9)
   have h3:RepC σ9 φ9 s9 (.own idr (xs.length+1)) (a7.eval y3):=h3
   generalize a7.eval y3=v1 at h3
   cases h3 with
   | dead hx _=>simp[bm,bn hK2] at hx
   | own h5 h6 h7=>exact⟨_,h7,rfl⟩
  obtain⟨q,hq1,hq2⟩:=e3v
  have hrow9:RowV σ9 w7 kk bb (xs++[cell k]) q:=RowV.of (hb9.inv.obj _ _ hK2) hq1
  have hbs:∀ (i:Nat) (e:MapEntry),ents1[i]?=some e→e.born=i:=fun i e he=>by
   have hi:i<(kS pl (k+1)).length:=by rw[hal9.len];exact (G7.1 he).1
   exact (hal9.key i _ e (He hi) he).2
  have hrunS:=p5 (P:=P) (t:=t2) (v:=a7.eval y3) hal9.heap hbs he1'
  refine wpListIn_plain hgs fun K' hK'=>⟨fun f _=>fj c f,?_⟩
  have hexr:(execOp a7.eval os).run P w7=.ok .skip { w7 with heap:=w7.heap.setIfInBounds B (.map (ents1.set j { e1 with val:=a7.eval y3 }).toArray (ents1.set j { e1 with val:=a7.eval y3 }).length) }:=by
   simp only[execOp,hos,e1v,e2v,Hj,hrunS];rfl
  rw[gb (by simp) hexr]
  refine hK' _ _ (wpListIn_nil ?_)
  rw[hds]
  generalize hents2:ents1.set j { e1 with val:=a7.eval y3 }=ents2
  have hlen2:ents2.length=ents1.length:=by rw[← hents2];simp
  have hB9:=hb9.setMap (o2:=.map ents2.toArray ents2.length) hal9.heap (fun _ _ _ h=>by cases h) hal9.own hal9.nw
  -- the row is nobody's again
  have hne1:∀ id o p,look sto1 id=some o→φ9 id=some p→p.1≠q.1:=fun id o p ho hp=>by
   have hne:id≠idr:=by rintro rfl;rw[hr1] at ho;cases ho
   exact hb9.inv.inj _ _ _ _ _ _ (hK3.look ho) hK2 hne hp hq1
  have hal10:Al (fun X=>c.w0.heap.size≤X∨c.M X) σ9 φ9 sto1 { w7 with heap:=w7.heap.setIfInBounds B (.map ents2.toArray ents2.length) } kk bb B (fun _=>False) (kS pl (k+1)) (rS pl cell (k+1)) (fun i=>if i=j then q else bs i) ents2:=by
   have hg:∀ i,i≠j→ents2[i]?=ents1[i]?:=fun i hi=>by rw[← hents2,List.getElem?_set_ne (fun e=>hi e.symm)]
   have hgj:ents2[j]?=some { e1 with val:=a7.eval y3 }:=by
    rw[← hents2,List.getElem?_set_self (G7.1 he1').1]
   have hsub:=hal9.sub (sto':=sto1) fun i e h=>hK3.look h
   have hm:=hsub.setMap (ents2:=ents2) (ks2:=kS pl (k+1)) (hole2:=(·=j)) (by rw[hlen2];exact hal9.len) (fun i x e hx he=>by
    by_cases hi:i=j
    ·subst hi
     rw[hgj] at he;cases he
     exact hal9.key i x e1 hx he1'
    ·rw[hg i hi] at he;exact hal9.key i x e hx he) (fun i x e h1 hx he=>⟨h1,hx,by rw[hg i h1] at he;exact he⟩) (fun i hi h1=>⟨hi,h1⟩)
   refine⟨hm.heap,hm.len,hm.key,fun i x e _ hx he=>?_,fun i i' hi hi' hne _ _=>?_,hm.own,hm.nw⟩
   ·by_cases hi:i=j
    ·subst hi
     rw[hkj] at hx;cases hx
     rw[hgj] at he;cases he
     have hR:rS pl cell (k+1) (pl k)=xs++[cell k]:=by simp[rS,hxr]
     simp only[if_true,hR]
     refine⟨by rw[hq2];simp,hrow9.keep (Sig.le_refl _) ?_ hrow9.sig,hb9.mine _ _ _ hK2 hq1,hne1⟩
     have hne:B≠q.1:=by
      intro e
      obtain⟨arr,t,h11⟩:=hrow9.cells
      rw[← e,hal9.heap] at h11
      cases h11
     simp only[Hs hne]
    ·have hxk:(pl k==x)=false:=by
      cases hb:(pl k==x) with
      | false=>rfl
      | true =>
        have:=eq_of_beq hb
        subst this
        exfalso
        exact hi (sa (pf (pl:=pl) (k:=k+1)) hx hkj)
     have hR:rS pl cell (k+1) x=rS pl cell k x:=by simp[rS,hxk]
     simp only[hi,if_false,hR]
     exact hm.row i x e hi hx he
   ·have ho9:∀ i,i<(kS pl (k+1)).length→i≠j→q.1≠(bs i).1:=fun i hi hij=>by
     have he:i<ents1.length:=by rw[← hal9.len];exact hi
     exact (hal9.row i _ _ hij (He hi) (He he)).2.2.2 _ _ _ hK2 hq1
    by_cases h1:i=j
    ·subst h1
     simp only[if_true,fun e=>hne (Eq.symm e),if_false]
     have h2:¬ i'=i:=fun e=>hne e.symm
     simp only[h2,if_false]
     exact ho9 i' hi' h2
    ·by_cases h2:i'=j
     ·subst h2
      simp only[if_true,h1,if_false]
      exact fun e=>ho9 i hi h1 e.symm
     ·simp only[h1,h2,if_false]
      exact hm.dis i i' hi hi' hne h1 h2
  have hb10:Rel c ⟨F3 k B j xs.length,sto1⟩ a7 { w7 with heap:=w7.heap.setIfInBounds B (.map ents2.toArray ents2.length) } σ9 φ9:=by
   obtain⟨f9,s9⟩:=st9
   have h7:=hB9.dropTo (s':=sto1) fun i e h=>hK3.look h
   have h8:Rel c ⟨f9,s9⟩ a7 _ σ9 φ9:=hB9
   exact⟨h7.le,h7.fresh,h7.inv,h7.mine,fun s v hv=>h7.slot s v (hK1.look hv),h7.defers,h7.size,h7.fra,h7.pin⟩
  generalize ({ w7 with heap:=w7.heap.setIfInBounds B (.map ents2.toArray ents2.length) }:World)=w8 at hb10 hal10
  have hrb:=hb10.anew [] c.rd
  rw[mk0 hmk hb10] at hrb
  have ha7:(a7.put none undef)=a7:=rfl
  rw[ha7]
  show RD.wpIn (fnc c) 0 P _ a7 w8
  refine (H4 k hkN2 B j xs.length w8 σ9 φ9 _).use hrb fun e a11 w11 st11 σ11 φ11 hq hre=>?_
  obtain⟨rfl,hs1',hs2'⟩:=xJ hq
  have h3:=hre.rel (by simp)
  have h4:=hal10.keep h3
  have h5:=backD hb10 h3
  refine⟨N-(k+1),by omega,k+1,σ11,φ11,ents2,_,rfl,by omega,?_,h4.sub fun i e h=>hs2'.look h⟩
  obtain⟨f2,s2⟩:=st11
  have h7:=h5.dropTo (s':=sto1) fun i e h=>hs2'.look h
  exact⟨h7.le,h7.fresh,h7.inv,h7.mine,fun s v hv=>h7.slot s v (hs1'.look hv),h7.defers,h7.size,h7.fra,h7.pin⟩
 cases hwk:cA (pl k) (kS pl k) 0 with
 | some j =>
   obtain⟨e1,he1',hrun⟩:=hE.1 j hwk
   have hkk:kS pl (k+1)=kS pl k:=by simp only[kS,hwk]
   have hkj:=(iS hwk).2
   rw[Nat.sub_zero] at hkj
   obtain⟨h6,h7,h8,h9⟩:=hal7.row j _ e1 (fun h=>h) hkj he1'
   have hjl:j<ents.length:=(G7.1 he1').1
   have hjk:j<k:=by
    have h1:=tT (pl:=pl) (k:=k)
    rw[hal7.len] at h1;omega
   have hl7:(rS pl cell k (pl k)).length≤N:=by
    have:=y7 (pl:=pl) (cell:=cell) (x:=pl k) (k:=k)
    omega
   have hBne:B≠(bs j).1:=by
    intro e
    obtain⟨arr,t,h11⟩:=h7.cells
    rw[← e,hal7.heap] at h11
    cases h11
   have hw6:=hb7.setMap (o2:=.map ents.toArray ents.length) hal7.heap (fun _ _ _ h=>by cases h) hal7.own hal7.nw
   have hrow6:RowV σ7 { w5 with heap:=w5.heap.setIfInBounds B (.map ents.toArray ents.length) } kk bb (rS pl cell k (pl k)) (bs j):=h7.keep (Sig.le_refl _) (by simp only[Hs hBne]) h7.sig
   have had:=hw6.adoptRow hrow6 hlr (hrF k B) (hrS k) h9 h8
   have hm:=hal7.setMap (ents2:=ents) (ks2:=kS pl k) (hole2:=(·=j)) hal7.len hal7.key (fun i x e h1 hx he=>⟨fun h=>h,hx,he⟩) (fun i hi h1=>⟨hi,fun h=>h⟩)
   refine rest ents j e1 (rS pl cell k (pl k)) _ e1.val hl7 (by omega) he1' rfl (by rw[hkk];exact hkj) had ?_ ?_ hrun
   ·rw[h6]
    exact .own ao (Hb _) ai
   ·rw[hkk]
    refine⟨hm.heap,hm.len,hm.key,fun i x e h1 hx he=>?_,hm.dis,fun id o p ho hp=>?_,hm.nw⟩
    ·obtain⟨g1,g2,g3,g4⟩:=hm.row i x e h1 hx he
     refine⟨g1,g2,g3,fun id o p ho hp=>?_⟩
     rcases ab ho with⟨rfl,rfl⟩|⟨hne,ho⟩
     ·rw[ai] at hp;cases hp
      have hi:i<(kS pl k).length:=(G7.1 hx).1
      exact hal7.dis j i (by rw[hal7.len];exact hjl) hi (fun e=>h1 e.symm) (fun h=>h) (fun h=>h)
     ·rw[au hne] at hp
      exact g4 id o p ho hp
    ·rcases ab ho with⟨rfl,rfl⟩|⟨hne,ho⟩
     ·rw[ai] at hp;cases hp
      exact fun e=>hBne e.symm
     ·rw[au hne] at hp
      exact hm.own id o p ho hp
 | none =>
   have hrun:=hE.2 hwk
   have hkk:kS pl (k+1)=kS pl k++[pl k]:=by simp only[kS,hwk]
   have hxs:rS pl cell k (pl k)=[]:=tU (whereK_none hwk)
   have hlen:=hal7.len
   have hw6:=hb7.setMap (o2:=.map (ents++[ni (a5.eval x2) ents.length]).toArray (ents++[ni (a5.eval x2) ents.length]).length) hal7.heap (fun _ _ _ h=>by cases h) hal7.own hal7.nw
   have had:=hw6.nilRow (k:=kk) (b:=bb) hlr (hrF k B) (hrS k)
   have hjk:ents.length≤k:=by
    have h1:=tT (pl:=pl) (k:=k)
    omega
   have hm:=hal7.setMap (ents2:=ents++[ni (a5.eval x2) ents.length]) (ks2:=kS pl k++[pl k]) (hole2:=(·=ents.length)) (by simp[hlen]) (fun i x e hx he=>by
    rcases HG i ents.length with hi|hi
    ·rw[Hu hi] at he
     rw[Hu (by omega)] at hx
     exact hal7.key i x e hx he
    ·have hi2:i=ents.length:=by
      have:=(G7.1 he).1
      simp at this;omega
     subst hi2
     rw[Hv (Hb _)] at he
     rw[← hlen,Hv (Hb _)] at hx
     simp at he hx
     subst he;subst hx
     exact⟨hv2,rfl⟩) (fun i x e h1 hx he=>by
    have hi:i<ents.length:=by
     have:=(G7.1 he).1
     simp at this;omega
    rw[Hu hi] at he
    rw[Hu (by omega)] at hx
    exact⟨fun h=>h,hx,he⟩) (fun i hi h1=>⟨by simp at hi;omega,fun h=>h⟩)
   refine rest (ents++[ni (a5.eval x2) ents.length]) ents.length (ni (a5.eval x2) ents.length) [] _ (.slice none 0 0) (Hi _) (by omega) (by simp) hxs.symm (by rw[hkk,← hlen];simp) had ?_ ?_ hrun
   ·exact .ownNil ao ai
   ·rw[hkk]
    refine⟨hm.heap,hm.len,hm.key,fun i x e h1 hx he=>?_,hm.dis,fun id o p ho hp=>?_,hm.nw⟩
    ·obtain⟨g1,g2,g3,g4⟩:=hm.row i x e h1 hx he
     refine⟨g1,g2,g3,fun id o p ho hp=>?_⟩
     rcases ab ho with⟨rfl,rfl⟩|⟨hne,ho⟩
     ·rw[ai] at hp;cases hp
     ·rw[au hne] at hp
      exact g4 id o p ho hp
    ·rcases ab ho with⟨rfl,rfl⟩|⟨hne,ho⟩
     ·rw[ai] at hp;cases hp
     ·rw[au hne] at hp
      exact hm.own id o p ho hp
theorem Ad{c:Ctx}{s1 s2 i m:Nat}{x:AV}{t:Bool×List AC}{fr:List (Nat×AV)}{sto:Sto}:Imp c ⟨(s1,x)::(s2,.tup [(false,[.own i m]),t])::fr,sto⟩ ⟨(s1,x)::(s2,.tup [(false,[.junk]),t])::fr,sto⟩:=fun a w σ φ hr=>by
 refine⟨σ,φ,⟨hr.le,hr.fresh,hr.inv,hr.mine,fun s v hv=>?_,hr.defers,hr.size,hr.fra,hr.pin⟩⟩
 rcases ab hv with⟨rfl,rfl⟩|⟨hne,hv⟩
 ·exact hr.slot _ _ ao
 rcases ab hv with⟨rfl,rfl⟩|⟨hne2,hv⟩
 ·obtain⟨u,hu,vs,rfl,h⟩:=hr.slot s (.tup [(false,[.own i m]),t]) ((ax hne).trans ao)
  match vs,h with
  | v::r,h=>exact⟨_,hu,v::r,rfl,⟨⟨.junk (RepC.oneCell h.1.1),trivial⟩,h.2⟩⟩
 ·exact hr.slot s v ((ax hne).trans ((ax hne2).trans hv))
end Go.Abs
namespace Go.Proofs.YtpejdgkaapnekaaGreat
open Go Go.Abs
attribute [local irreducible] aa OkC ah av aq aP
set_option maxRecDepth 10000
section
variable {ds:List Dim} {lo hi:List Int} {k:Nat}
end
end Go.Proofs.YtpejdgkaapnekaaGreat
namespace Go.Proofs.YtpejdgkaapnekaaGreat
open Go Go.Abs
attribute [local irreducible] aa OkC ah av aq aP
set_option maxRecDepth 10000
theorem Ea(l:List Int):CallA Tryz.prog 129 [.one (.d (aC l))] [] (.one (.own 0 l.length)) [(0,.row 1 8 (l.map aH))]:=by
 refine enter ag Tryz.func129 rfl (by decide +kernel) rfl fun hok w0 σ0 φ0 M=>?_
 have h1:=hok.1.sl;clear hok;simp only[G2] at h1
 by_cases hl:l=[]
 ·subst hl
  repeat' (first|(refine h1H ?_;(refine h5H ?_;refine cD ag J J J J J J (fun r hr=>?_)))|(refine h1H ?_;(refine h0H ?_;refine ct ag J J J J J (id:=0) J J J J J J J (by simp only[G2,Hn];omega) (by simp only[G2,Hn];omega) ?_))|(refine h2H ?_;refine bG (dQ (s:=2) (id:=0) (k:=1) (b:=8) J J J J) (cr ?_))|refine wG ?_|(refine h2H ?_;refine aA J (fun h=>?_) (fun h=>?_)))
  all_goals rfl
 ·repeat' (first|(refine h1H ?_;(refine h5H ?_;refine cD ag J J J J J J (fun r hr=>?_)))|(refine h1H ?_;(refine h0H ?_;refine ct ag J J J J J (id:=0) J J J J J J J (by simp only[G2,Hn];omega) (by simp only[G2,Hn];omega) ?_))|(refine h2H ?_;refine bG (dQ (s:=2) (id:=0) (k:=1) (b:=8) J J J J) (cr ?_))|refine wG ?_|(refine h2H ?_;refine aA J (fun h=>?_) (fun h=>?_)))
  ·have e:=hr (by simpa using h)
   simp only[List.map_eq_nil_iff] at e
   exact absurd e hl
  ·simp
end Go.Proofs.YtpejdgkaapnekaaGreat
namespace Go.Proofs.YtpejdgkaapnekaaGreat
open Go Go.Abs
attribute [local irreducible] aa OkC ah av aq aP
set_option maxRecDepth 10000
theorem whereK_none{x:List Int}:∀ {ks:List (List Int)} {n:Nat},cA x ks n=none↔∀ k∈ks,k≠x
 | [],n=>by simp[cA]
 | k::r,n=>by
   simp only[cA]
   split
   ·rename_i h
    constructor
    ·intro h2;cases h2
    ·intro h2;exact absurd (by simpa using h) (h2 k Hc)
   ·rename_i h
    rw[whereK_none]
    constructor
    ·intro h2 y hy
     rcases Hm.1 hy with rfl|hy
     ·simpa using h
     ·exact h2 y hy
    ·intro h2 y hy;exact h2 y (G9 _ hy)
section
variable {ds es:List Dim} {k:Nat}
end
end Go.Proofs.YtpejdgkaapnekaaGreat
namespace Go.Proofs.YtpejdgkaapnekaaGreat
open Go Go.Abs
attribute [local irreducible] aa OkC ah av aq aP
set_option maxRecDepth 10000
section
variable {P:Program} {c:Ctx} {fr:List (Nat×AV)} {sto:Sto} {ops:Array Oper} {o:Oper} {rest:List Oper} {K:St→Prop} {st0:St} {acc:List Tr}
theorem eO(k:Nat){d:Nat}{fop:Operand}{args:Array Operand}{ats:Array TypeId}{f:FuncId}{caps:List D}{avs avs':List AV}{rav rav':AV}{rsto sto':Sto}{tr:Tr}
  (ho:o.op=.call { callee:=.value fop,args:=args,argTypes:=ats }) (hg:o.guard=none) (hdst:o.dst=some d) (hd:Nat.blt d c.n=true) (hf:ev ⟨fr,sto⟩ fop=some (.one (.d (.fn f caps))))
  (ha:evL ⟨fr,sto⟩ args.toList=some avs) (hD:bS avs=true) (hap:(avs++caps.map fun x=>.one (.d x))=avs') (hC:CallA P f avs' [] rav rsto)
  (hk:(bY [] rsto&&Nat.ble (k+16) 1000000&&cE rsto rav&&bg rsto rsto)=true) (ht:iK k [] [] rav rsto=tr) (hr:tr.v=rav') (hw:bT tr.wr sto=sto')
  (h:ah P c ops st0 rest ⟨(d,rav')::fr,sto'⟩ (tr::acc) K):ah P c ops st0 (o::rest) ⟨fr,sto⟩ acc K:=by
 subst hap;subst hr;subst hw;subst ht
 refine ji hg (rX k ho (by rw[hdst];exact hd) hf ha hD hC hk) ?_
 rw[hdst];exact h
end
theorem Bh(xs:List (List D))(ds:List Dim)(hx:xs=ds.map aN):CallA Tryz.prog 201 [.one (.d (.sl 3 32 xs)),.one (.d (.fn 213 []))] [] (.one (.d (.bool (ds.any gZ)))) []:=by
 subst hx;exact D4 ds
theorem By{pl:Nat→List Int}{cell:Nat→List D}{x:List Int}:∀ {n:Nat},rS pl cell n x=((List.range n).filter fun k=>pl k==x).map cell
 | 0=>rfl
 | n+1=>by
   rw[List.range_succ,List.filter_append,Hy,← By (n:=n)]
   simp only[rS]
   cases h:(pl n==x)<;>simp[h]
theorem Ba{α:Type}[Inhabited α]{p:α→Bool}:∀ {l:List α},(((List.range l.length).filter fun k=>p (at_ l k)).map fun k=>at_ l k)=l.filter p:=by
 intro l
 have h:(List.range l.length).map (fun k=>at_ l k)=l:=cF (by simp) fun i hi=>by
  have hi':i<l.length:=by simpa using hi
  rw[aK (by simpa using hi'),mJ hi']
 conv=>rhs;rw[← h]
 rw[List.filter_map]
 rfl
theorem DE(a b:Arr)(c:Cell):rS (fun k=>af (at_ b.cells k).at' (bH a.dims b.dims)) (fun k=>ay (at_ b.cells k)) b.cells.length (af c.at' (az a.dims b.dims))=(b.cells.filter (br a.dims b.dims c)).map ay:=by
 rw[By]
 have e:=Ba (p:=fun d:Cell=>af d.at' (bH a.dims b.dims)==af c.at' (az a.dims b.dims)) (l:=b.cells)
 have e2:b.cells.filter (br a.dims b.dims c)=b.cells.filter (fun d:Cell=>af d.at' (bH a.dims b.dims)==af c.at' (az a.dims b.dims)):=by
  congr 1
  funext d
  unfold br
  rw[HK];simp only[beq_iff_eq];exact eq_comm
 rw[e2,← e,HM]
 rfl
section
variable {P:Program} {V:Env} {T:Tab} {w0:World} {σ0:Sig} {φ0:Pl} {M:Nat→Prop} {n:Nat} {rd:Option Nat} {mk:List Deferred} {ops:Array Oper} {o:Oper} {rest:List Oper} {fr:List (Nat×AV)} {sto:Sto} {K:St→Prop}
theorem Cr(hV:EnvOk P V){d id t N:Nat}{m:MTy}{x y:Operand}{p:List Int}{pl:Nat→List Int}{cell:Nat→List D}{X:List (List D)}(hg:o.guard=none)(hdst:o.dst=some d)(hd:Nat.blt d n=true)
  (ho:o.op=.lookup t x y false) (hm:Abs.look V.M t=some m) (hms:m.ks=pk) (hk:m.kg=true) (hv:m.vg=false) (hz:m.z=[.nil])
  (hx:ev ⟨fr,sto⟩ x=some (.one (.mapr id))) (hl:Abs.look sto id=some (.map true false (dC (fun j=>.sl 2 48 (rS pl cell N (at_ (kS pl N) j))) (kS pl N) 0))) (hy:ev ⟨fr,sto⟩ y=some (oY p)) (h4:p.length≤4) (hks:∀ k,k<N→(pl k).length=p.length)
  (hX:rS pl cell N p=X) (h:aa P ⟨w0,σ0,φ0,M,n,rd,mk⟩ ops rest ⟨(d,.one (.d (.sl 2 48 X)))::fr,sto⟩ K):aa P ⟨w0,σ0,φ0,M,n,rd,mk⟩ ops (o::rest) ⟨fr,sto⟩ K:=by
 have hks2:∀ k∈kS pl N,k.length=p.length:=fun k hk=>by
  obtain⟨i,h1,h2⟩:=p6 hk
  rw[← h2];exact hks i h1
 cases hw:cA p (kS pl N) 0 with
 | some j =>
   have hat:at_ (kS pl N) j=p:=by
    have h1:=(iS hw).2
    rw[Nat.sub_zero] at h1
    have h2:=(G7.1 h1).1
    rw[cv h2] at h1
    exact Option.some.inj h1
   refine s_e hV hg hdst hd (oM (v:=.one (.d (.sl 2 48 X))) ho hm hms hk hv hx hl hy h4 hks2 (by rw[hw];simp only[hat,hX];rfl)) h
 | none =>
   have hnil:X=[]:=by
    rw[← hX]
    refine tU ?_
    exact Abs.whereK_none hw
   subst hnil
   refine s_e hV hg hdst hd (oM (v:=.one (.d .nil)) ho hm hms hk hv hx hl hy h4 hks2 (by rw[hw,hz];rfl)) ?_
   refine bX (k6 (s:=d) (k:=2) (b:=48) (by simp[Abs.look,HH])) (bX (fun a w σ φ hr=>?_) h)
   refine⟨σ,φ,⟨hr.le,hr.fresh,hr.inv,hr.mine,fun s v hv=>hr.slot s v ?_,hr.defers,hr.size,hr.fra,hr.pin⟩⟩
   simp only[Abs.look] at hv ⊢
   cases hb:Nat.beq d s<;>simp only[hb,HW,HV] at hv ⊢
   ·exact hv
   ·exact hv
end
abbrev kG(a b:Arr):List (Nat×AV):=[(99,.one (.d (aG b.cells))),(100,.one (.d (.int .i64 ((b.cells.map ay).length:Int)))),(3,.one (.ref 0 0)),(4,.one (.ref 1 0)),(5,.one (.ref 2 0)),(6,.one (.ref 3 0)),(8,.one (.own 7 (a.dims.length+((af b.dims (aO a.dims b.dims)).map aN).length))),(9,.one (.own 8 (a.attrs.length+(b.attrs.map aL).length)))]
abbrev sG(a b:Arr)(xs:List (List D)):Sto:=[(7,.row 3 32 xs),(8,.row 2 24 (List.take a.attrs.length (a.attrs.map aL)++b.attrs.map aL)),(3,.box [.d .nil,.d .nil,.d .nil]),(2,.box [.d (aC (az a.dims b.dims)),.d (aC (bH a.dims b.dims)),.d (aC (aO a.dims b.dims))]),(1,.box [.d (ar b.dims),.d (al b.attrs),.d (aG b.cells)]),(0,.box [.d (ar a.dims),.d (al a.attrs),.d (aG a.cells)])]
theorem yF(a b:Arr) :
  (decide (4<((a.dims.length+((af b.dims (aO a.dims b.dims)).map aN).length:Nat):Int))=true∧cu a b=(none,9)) ∨
  (decide (4<((a.dims.length+((af b.dims (aO a.dims b.dims)).map aN).length:Nat):Int))=false∧decide (6<((a.attrs.length+(b.attrs.map aL).length:Nat):Int))=true∧cu a b=(none,9)) ∨
  (decide (4<((a.dims.length+((af b.dims (aO a.dims b.dims)).map aN).length:Nat):Int))=false∧decide (6<((a.attrs.length+(b.attrs.map aL).length:Nat):Int))=false∧(aI a.dims b.dims).any gZ=true∧cu a b=(none,3)) ∨
  (decide (4<((a.dims.length+((af b.dims (aO a.dims b.dims)).map aN).length:Nat):Int))=false∧decide (6<((a.attrs.length+(b.attrs.map aL).length:Nat):Int))=false∧(aI a.dims b.dims).any gZ=false∧cu a b=dH (aI a.dims b.dims) (a.attrs++b.attrs) (cB a b)):=by
 have e1:((aI a.dims b.dims).length:Int)=((a.dims.length+((af b.dims (aO a.dims b.dims)).map aN).length:Nat):Int):=by unfold aI;simp
 have e2:((a.attrs++b.attrs).length:Int)=((a.attrs.length+(b.attrs.map aL).length:Nat):Int):=by simp
 rw[← e1,← e2]
 by_cases h1:4<((aI a.dims b.dims).length:Int)
 ·exact .inl ⟨by simpa using h1,by unfold cu;rw[if_pos (.inl h1)]⟩
 by_cases h2:6<((a.attrs++b.attrs).length:Int)
 ·exact .inr (.inl ⟨decide_eq_false h1,decide_eq_true h2,by unfold cu;rw[if_pos (.inr h2)]⟩)
 have h12:¬ (4<((aI a.dims b.dims).length:Int)∨6<((a.attrs++b.attrs).length:Int)):=fun h=>h.elim h1 h2
 cases h3:(aI a.dims b.dims).any gZ
 ·exact .inr (.inr (.inr ⟨decide_eq_false h1,decide_eq_false h2,rfl,by unfold cu;rw[if_neg h12,if_neg (by simp[h3])]⟩))
 ·exact .inr (.inr (.inl ⟨decide_eq_false h1,decide_eq_false h2,rfl,by unfold cu;rw[if_neg h12,if_pos h3]⟩))
theorem yG{ad bd:List Dim}{i x:Nat}(h:i<(az ad bd).length):at_ (az ad bd) i<((ad.length+x:Nat):Int):=by
 have:=k9 i h
 omega
theorem lj{ad bd:List Dim}{i:Nat}{xs:List (List D)}(hl:xs.length=ad.length+(aO ad bd).length)(h:i<(az ad bd).length):(at_ (az ad bd) i).toNat<xs.length:=by
 have:=k9 i h
 omega
theorem pH{ad bd:List Dim}{i:Nat}(h:i<(az ad bd).length):0≤at_ (bH ad bd) i∧(at_ (bH ad bd) i).toNat<bd.length:=vB i (by rw[k7,← eN];exact h)
def lV(ad bd:List Dim)(m:Nat)(hi:Bool):List D :=
 [.str (at_ (dJ ad bd m) (at_ (az ad bd) m).toNat).name,.int .i64 (max (at_ (dJ ad bd m) (at_ (az ad bd) m).toNat).lo (at_ bd (at_ (bH ad bd) m).toNat).lo),
  .int .i64 (if hi then min (at_ (dJ ad bd m) (at_ (az ad bd) m).toNat).hi (at_ bd (at_ (bH ad bd) m).toNat).hi else (at_ (dJ ad bd m) (at_ (az ad bd) m).toNat).hi)]
theorem GX(ds:List Dim)(ats:List Attr)(cs:List Cell)(xs zs ys:List (List D))(hd:cs.Pairwise cx)(hf:cs.length≤4096)(hx:xs=ds.map aN)(hz:zs=ats.map aL)(hy:ys=cs.map ay):CallA Tryz.prog 99 [.one (.d (.sl 3 32 xs)),.one (.d (.sl 2 24 zs)),.one (.d (.sl 2 48 ys))] [] (.tup [(true,[.d (ar ds),.d (al ats),.d (aG (bI cs))]),(false,[.d (.int .i64 0)])]) []:=by
 subst hz;exact zV ds ats cs xs ys hd hf hx hy
theorem Eb(l:List Val)(hne:0<l.length):CallA Tryz.prog 144 [.one (.d (cR l))] [] (.one (.own 0 l.length)) [(0,.row 4 40 (l.map bW))]:=by
 refine enter ag Tryz.func144 rfl (by decide +kernel) rfl fun hok w0 σ0 φ0 M=>?_
 have h1:=hok.1.sl;clear hok;simp only[G2] at h1
 repeat' (first|(refine h1H ?_;(refine h5H ?_;refine cD ag J J J J J J (fun r hr=>?_)))|(refine h1H ?_;(refine h0H ?_;refine ct ag J J J J J (id:=0) J J J J J J J (by simp only[G2,Hn];omega) (by simp only[G2,Hn];omega) ?_))|refine wG ?_|(refine h2H ?_;refine aA J (fun h=>?_) (fun h=>?_)))
 ·have e:=hr (by simpa using h)
  simp only[List.map_eq_nil_iff] at e
  subst e;simp at hne
 ·simp
theorem wk{a b:Arr}{i n:Nat}(hi:a.cells.length≤i)(h2:n=(jN a b i 0).length)(h3:n≤4096):(cB a b).length≤4096:=by
 rw[yE hi] at h2;omega
theorem Ct{a b:Arr}{i n:Nat}{rows:List (List D)}(hi:a.cells.length≤i)(h2:n=(jN a b i 0).length)(h4:rows=(jN a b i 0).map ay):List.take n rows=(cB a b).map ay:=by
 rw[h4,G1 (by rw[G2];omega),yE hi]
theorem Cu{a b:Arr}:List.take (a.attrs.length+(b.attrs.map aL).length) (List.take a.attrs.length (a.attrs.map aL)++b.attrs.map aL)=(a.attrs++b.attrs).map aL:=by
 rw[G1 (l:=a.attrs.map aL) (by simp),G1 (by simp),Hy]
theorem Cv{a b:Arr}{xs:List (List D)}{m:Nat}(hn:(a.dims.map Dim.name).Nodup)(hl:xs.length=a.dims.length+(aO a.dims b.dims).length)(hx:xs=(dJ a.dims b.dims m).map aN)(hm:m=(az a.dims b.dims).length):List.take (a.dims.length+((af b.dims (aO a.dims b.dims)).map aN).length) xs=(aI a.dims b.dims).map aN:=by
 rw[G1 (by rw[hl,G2,bc];exact Hb _),hx,hm,oW hn]
theorem pz{a b:Arr}{c:Cell}:(fG a b c).length=(b.cells.filter (br a.dims b.dims c)).length:=by simp[fG]
theorem Cw{ad bd:List Dim}(c d:Cell):[D.sl 1 8 (List.take (c.at'.length+((af d.at' (aO ad bd)).map aH).length) (List.take c.at'.length (c.at'.map aH)++(af d.at' (aO ad bd)).map aH)),D.sl 4 40 (List.take (c.vals.length+(d.vals.map bW).length) (List.take c.vals.length (c.vals.map bW)++d.vals.map bW))]=ay (fb ad bd c d):=by
 rw[G1 (l:=c.at'.map aH) (by simp),G1 (l:=c.vals.map bW) (by simp),G1 (by simp),G1 (by simp),← Hy,← Hy]
 rfl
theorem DF{a b:Arr}{i j n:Nat}{rows:List (List D)}(hj:j<(b.cells.filter (br a.dims b.dims (at_ a.cells i))).length)(h2:n=(jN a b i j).length)(h4:rows=(jN a b i j).map ay) :
  n+1=(jN a b i (j+1)).length∧List.take n rows++[ay (fb a.dims b.dims (at_ a.cells i) (at_ (b.cells.filter (br a.dims b.dims (at_ a.cells i))) j))]=(jN a b i (j+1)).map ay:=by
 have e:=CH (a:=a) (b:=b) (i:=i) (j:=j) (by rw[pz];exact hj)
 refine⟨by rw[e,G8,h2];rfl,?_⟩
 rw[e,Hy,h4,G1 (by rw[G2];omega)]
 unfold fG
 rw[aK hj]
 rfl
theorem Cx{a b:Arr}{i j:Nat}(hi:i<a.cells.length)(hj:j<(b.cells.filter (br a.dims b.dims (at_ a.cells i))).length)(h:(jN a b i j).length=4096):dH (aI a.dims b.dims) (a.attrs++b.attrs) (cB a b)=(none,9):=by
 have h1:=DK (a:=a) (b:=b) hi (j:=j)
 rw[pz] at h1
 unfold dH
 rw[if_pos (by omega)]
noncomputable def Cy:Code:=match Tryz.f157.body with
 | some (.seq _ (.seq _ (.seq _ (.seq _ (.seq _ (.seq _ (.seq _ (.seq _ t))))))))=>t
 | _=>.skip
abbrev mG(a b:Arr):AObj:=.map true false (dC (fun j=>.sl 2 48 (rS (fun k=>af (at_ b.cells k).at' (bH a.dims b.dims)) (fun k=>ay (at_ b.cells k)) b.cells.length (at_ (kS (fun k=>af (at_ b.cells k).at' (bH a.dims b.dims)) b.cells.length) j))) (kS (fun k=>af (at_ b.cells k).at' (bH a.dims b.dims)) b.cells.length) 0)
set_option maxHeartbeats 4000000 in
theorem DL(a b:Arr)(ha:OkA a.dims a.attrs a.cells)(hb:OkA b.dims b.attrs b.cells){xs:List (List D)}{m:Nat}(hr:xs=(dJ a.dims b.dims m).map aN)(hrl2:xs.length=a.dims.length+(aO a.dims b.dims).length)(hpe:m=(az a.dims b.dims).length)
  {w0:World} {σ0:Sig} {φ0:Pl} {M:Nat→Prop}:OkC Tryz.prog ⟨w0,σ0,φ0,M,Tryz.f157.ntmps,none,[]⟩ Cy ⟨(12,.one (.mapr 4))::kG a b,(4,mG a b)::sG a b xs⟩ (aP tab Tryz.f157.results.toList (gl (dH (aI a.dims b.dims) (a.attrs++b.attrs) (cB a b))) []):=by
 have hna:0<a.dims.length:=by have:=ha.dims.1;omega
 have hnt:0<a.attrs.length:=(aV ha.sch).2.1
 have hb4:=hb.dims.2.1
 have ha4:=ha.dims.2.1
 have ha6:=(aV ha.sch).2.2.1
 have hb6:=(aV hb.sch).2.2.1
 have hrl0:(aO a.dims b.dims).length≤b.dims.length:=by rw[nL];exact vA
 have hrl:(aO a.dims b.dims).length≤1000:=by omega
 have hlb:(az a.dims b.dims).length≤b.dims.length:=by rw[eN];exact vz
 have hnd:(a.dims.map Dim.name).Nodup:=ha.dims.2.2.2
 have hlr:(bH a.dims b.dims).length=(az a.dims b.dims).length:=by rw[k7,eN]
 have hfew:=hb.few
 have hln:(az a.dims b.dims).length≤1000:=by omega
 have hr4L:∀ {x:List Int},(af x (az a.dims b.dims)).length≤4:=by intro x;rw[bc];omega
 have hLR:∀ {x y:List Int},(af x (bH a.dims b.dims)).length=(af y (az a.dims b.dims)).length:=by intro x y;rw[bc,bc,hlr]
 have hclA:∀ k,k<a.cells.length→∀ i,i<(az a.dims b.dims).length→0≤at_ (az a.dims b.dims) i∧(at_ (az a.dims b.dims) i).toNat<(at_ a.cells k).at'.length:=fun k hk i hi=>by
  rw[(cellF_ok.1 (ha.cel _ (aW hk))).1];exact k9 i hi
 have hvlA:∀ k,k<a.cells.length→0<(at_ a.cells k).vals.length:=fun k hk=>by rw[(cellF_ok.1 (ha.cel _ (aW hk))).2.1];exact hnt
 have hatA:∀ k,k<a.cells.length→(at_ a.cells k).at'.length≤100000000:=fun k hk=>by rw[(cellF_ok.1 (ha.cel _ (aW hk))).1];omega
 have hvsA:∀ k,k<a.cells.length→(at_ a.cells k).vals.length≤100000000:=fun k hk=>by rw[(cellF_ok.1 (ha.cel _ (aW hk))).2.1];omega
 have hpkR:∀ {x:List Int},((af x (aO a.dims b.dims)).map aH).length≤10000000:=by intro x;rw[G2,bc];omega
 have hclR:∀ (p:Cell→Bool) k,k<(b.cells.filter p).length→∀ i,i<(aO a.dims b.dims).length→0≤at_ (aO a.dims b.dims) i∧(at_ (aO a.dims b.dims) i).toNat<(at_ (b.cells.filter p) k).at'.length:=fun p k hk i hi=>by
  rw[(cellF_ok.1 (hb.cel _ (H0.1 (aW hk)).1)).1];exact lf i hi
 have hvsB:∀ (p:Cell→Bool) k,k<(b.cells.filter p).length→((at_ (b.cells.filter p) k).vals.map bW).length≤10000000:=fun p k hk=>by
  rw[G2,(cellF_ok.1 (hb.cel _ (H0.1 (aW hk)).1)).2.1];omega
 have hfa:=ha.few
 have hfl:∀ p:Cell→Bool,(b.cells.filter p).length≤b.cells.length:=fun p=>List.length_filter_le p b.cells
 repeat' (first|(refine h1H ?_;(refine GY ?_;refine Cr envOk J J J J J J J J J J J J hr4L (fun k hk=>hLR) (DE a b (at_ a.cells (u.1:Int).toNat)) ?_))|(refine h1H ?_;(refine h0H ?_;first|refine BF 70 [7,8,10] J J J J J J J J J (GX (aI a.dims b.dims) (a.attrs++b.attrs) (cB a b) _ _ _ (lS ha hb) (wk wB hu2 hu3) (Cv hnd hrl2 hr hpe) Cu (Ct wB hu2 hu4)) J J J ?_|refine aj J J J J J J J J (CI (af (at_ a.cells (u.1:Int).toNat).at' (az a.dims b.dims)) hr4L) J ?_|refine bF 16 J J J J J J J J (wR (at_ a.cells (u.1:Int).toNat).at' (az a.dims b.dims) hln (hclA _ wB)) J J J ?_))|(refine h2H ?_;(show OkC _ _ (Code.region 29 _ _) (St.mk _ (bT _ _)) _;refine bG (oT (st':=⟨[(16,.one (.own 11 (v.2.1+1))),(136,_),(5,_),(6,_),(8,_),(9,_),(12,_),(18,_),(121,_),(122,_),(123,_),(134,_),(135,_)],[(11,.row 2 48 (List.take v.2.1 v.2.2++[[.sl 1 8 (List.take ((at_ a.cells u.1).at'.length+((af (at_ (b.cells.filter (br a.dims b.dims (at_ a.cells (u.1:Int).toNat))) (v.1:Int).toNat).at' (aO a.dims b.dims)).map aH).length) (List.take (at_ a.cells u.1).at'.length ((at_ a.cells u.1).at'.map aH)++(af (at_ (b.cells.filter (br a.dims b.dims (at_ a.cells (u.1:Int).toNat))) (v.1:Int).toNat).at' (aO a.dims b.dims)).map aH)),.sl 4 40 (List.take ((at_ a.cells u.1).vals.length+((at_ (b.cells.filter (br a.dims b.dims (at_ a.cells (u.1:Int).toNat))) (v.1:Int).toNat).vals.map bW).length) (List.take (at_ a.cells u.1).vals.length ((at_ a.cells u.1).vals.map bW)++(at_ (b.cells.filter (br a.dims b.dims (at_ a.cells (u.1:Int).toNat))) (v.1:Int).toNat).vals.map bW))]])),(0,_),(4,_),(7,_),(8,_),(3,_),(2,_),(1,_)]⟩) (Ac J J J J J J J J J J J J J) (q8Q J J J J J J J J)) ?_))|(refine h4H ?_;(refine h3H ?_;first|refine eO 40 J J J J J J J J (Ea _) J J J J ?_|refine eO 60 J J J J J J J J (Eb _ (hvlA _ wB)) J J J J ?_|refine ef 80 J J J J J J J J (wR (at_ (b.cells.filter (br a.dims b.dims (at_ a.cells (u.1:Int).toNat))) (v.1:Int).toNat).at' (aO a.dims b.dims) hrl (hclR _ _ wB)) J J ?_|refine dF envOk 13 J J J (bM (i:=40) J J J J J J J J (hatA _ wB) hpkR (G5 J)) J J ?_|refine dF envOk 14 J J J (bM (i:=60) J J J J J J J J (hvsA _ wB) (hvsB _ _ wB) (G5 J)) J J ?_))|(refine h4H ?_;(refine EW ?_;refine dF envOk 9 (v:=.one (.own 9 1)) (wr:=[(9,some (.row 2 48 [[.sl 1 8 (List.take ((at_ a.cells u.1).at'.length+((af (at_ (b.cells.filter (br a.dims b.dims (at_ a.cells (u.1:Int).toNat))) (v.1:Int).toNat).at' (aO a.dims b.dims)).map aH).length) (List.take (at_ a.cells u.1).at'.length ((at_ a.cells u.1).at'.map aH)++(af (at_ (b.cells.filter (br a.dims b.dims (at_ a.cells (u.1:Int).toNat))) (v.1:Int).toNat).at' (aO a.dims b.dims)).map aH)),.sl 4 40 (List.take ((at_ a.cells u.1).vals.length+((at_ (b.cells.filter (br a.dims b.dims (at_ a.cells (u.1:Int).toNat))) (v.1:Int).toNat).vals.map bW).length) (List.take (at_ a.cells u.1).vals.length ((at_ a.cells u.1).vals.map bW)++(at_ (b.cells.filter (br a.dims b.dims (at_ a.cells (u.1:Int).toNat))) (v.1:Int).toNat).vals.map bW))]])),(13,none),(14,none)]) (nw:=[9]) J J J J J J ?_))|refine wG ?_|(refine h2H ?_;first|refine aA J (fun h=>?_) (fun h=>?_)|refine eh 21 J (dQ (s:=16) (id:=10) (k:=2) (b:=48) J J J J) [(5,_),(6,_),(8,_),(9,_),(12,_),(121,_),(122,_)] (q7Q J J J J J J J) (fun (bN:Bool×Bool) (u:Nat×Nat×List (List D))=>[(16,.one (.own (nmA bN) u.2.1)),(123,.one (.d (.int .i64 (u.1:Int))))]) (fun (bN:Bool×Bool) (u:Nat×Nat×List (List D))=>[((nmA bN),.row 2 48 u.2.2),(4,mG a b),(7,.row 3 32 xs),(8,.row 2 24 (List.take a.attrs.length (a.attrs.map aL)++b.attrs.map aL)),(3,.box [.d .nil,.d .nil,.d .nil]),(2,.box [.d (aC (az a.dims b.dims)),.d (aC (bH a.dims b.dims)),.d (aC (aO a.dims b.dims))]),(1,.box [.d (ar b.dims),.d (al b.attrs),.d (aG b.cells)])]) (fun (u:Nat×Nat×List (List D))=>u.1≤a.cells.length∧u.2.1=(jN a b u.1 0).length∧u.2.1≤4096∧u.2.2=(jN a b u.1 0).map ay) (fun (u:Nat×Nat×List (List D))=>a.cells.length-u.1) (0,0,[]) (q2Q J J) wK (fun b y=>by obtain⟨b1,b2⟩:=b;cases b1<;>cases b2<;>first|exact Imp.refl _|exact ei qN (by kernel_rfl)) ?_ (fun u ⟨hu1,hu2,hu3,hu4⟩=>?_)|refine eh 24 J (Imp.refl _) [(5,_),(6,_),(8,_),(9,_),(12,_),(18,_),(121,_),(122,_),(123,_),(134,_),(135,_)] (Dk J J J J J J J J J J J) (fun (bN:Bool×Bool) (v:Nat×Nat×List (List D))=>[(16,.one (.own (nmA bN) v.2.1)),(136,.one (.d (.int .i64 (v.1:Int))))]) (fun (bN:Bool×Bool) (v:Nat×Nat×List (List D))=>[((nmA bN),.row 2 48 v.2.2),(0,.box [.d (aC (at_ a.cells u.1).at'),.d (cR (at_ a.cells u.1).vals)]),(4,mG a b),(7,.row 3 32 xs),(8,.row 2 24 (List.take a.attrs.length (a.attrs.map aL)++b.attrs.map aL)),(3,.box [.d .nil,.d .nil,.d .nil]),(2,.box [.d (aC (az a.dims b.dims)),.d (aC (bH a.dims b.dims)),.d (aC (aO a.dims b.dims))]),(1,.box [.d (ar b.dims),.d (al b.attrs),.d (aG b.cells)])]) (fun (v:Nat×Nat×List (List D))=>v.1≤(b.cells.filter (br a.dims b.dims (at_ a.cells u.1))).length∧v.2.1=(jN a b u.1 v.1).length∧v.2.1≤4096∧v.2.2=(jN a b u.1 v.1).map ay∧(b.cells.filter (br a.dims b.dims (at_ a.cells u.1))).length≤4096) (fun (v:Nat×Nat×List (List D))=>(b.cells.filter (br a.dims b.dims (at_ a.cells u.1))).length-v.1) (0,u.2) (q2Q J J) wK (fun b y=>by obtain⟨b1,b2⟩:=b;cases b1<;>cases b2<;>first|exact Imp.refl _|exact ei qN (by kernel_rfl)) ?_ (fun v ⟨hv1,hv2,hv3,hv4,hv5⟩=>?_))|(show Exists _;first|refine Exists.intro ((v.1+1,v.2.1+1,v.2.2.take v.2.1++[[.sl 1 8 (List.take ((at_ a.cells u.1).at'.length+((af (at_ (b.cells.filter (br a.dims b.dims (at_ a.cells u.1))) v.1).at' (aO a.dims b.dims)).map aH).length) (List.take (at_ a.cells u.1).at'.length ((at_ a.cells u.1).at'.map aH)++(af (at_ (b.cells.filter (br a.dims b.dims (at_ a.cells u.1))) v.1).at' (aO a.dims b.dims)).map aH)),.sl 4 40 (List.take ((at_ a.cells u.1).vals.length+((at_ (b.cells.filter (br a.dims b.dims (at_ a.cells u.1))) v.1).vals.map bW).length) (List.take (at_ a.cells u.1).vals.length ((at_ a.cells u.1).vals.map bW)++(at_ (b.cells.filter (br a.dims b.dims (at_ a.cells u.1))) v.1).vals.map bW))]])) (Exists.intro (true,false) ⟨?_,?_,wK,(q2Q J J),(Dk J J J J J J J J J J J)⟩)|refine Exists.intro ((u.1+1,v.2)) (Exists.intro (false,false) ⟨?_,?_,wK,(q2Q J J),(q7Q J J J J J J J)⟩)))
 ·exact⟨Hi _,by show 0=(jN a b 0 0).length;rw[vD];rfl,Hi _,by show []=(jN a b 0 0).map ay;rw[vD];rfl⟩
 ·exact⟨Hi _,hu2,hu3,hu4,Hf (hfl _) hfew⟩
 ·have hlt:v.1<(b.cells.filter (br a.dims b.dims (at_ a.cells u.1))).length:=by simpa using ‹decide ((v.1:Int)<(((b.cells.filter (br a.dims b.dims (at_ a.cells (u.1:Int).toNat))).map ay).length:Int))=true›
  have hui:u.1<a.cells.length:=by simpa using ‹decide ((u.1:Int)<((a.cells.map ay).length:Int))=true›
  have hv:v.2.1=4096:=by
   have h':((v.2.1:Int)==4096)=true:=h
   rw[beq_iff_eq] at h';omega
  rw[Cx hui hlt (by omega)]
  rfl
 ·have hlt:v.1<(b.cells.filter (br a.dims b.dims (at_ a.cells u.1))).length:=by simpa using ‹decide ((v.1:Int)<(((b.cells.filter (br a.dims b.dims (at_ a.cells (u.1:Int).toNat))).map ay).length:Int))=true›
  have hv:v.2.1≠4096:=by
   have h':((v.2.1:Int)==4096)=false:=h
   rw[beq_eq_false_iff_ne] at h';omega
  obtain⟨e1,e2⟩:=DF hlt hv2 hv4
  rw[← Cw] at e2
  exact⟨hlt,e1,by show v.2.1+1≤4096;omega,e2,hv5⟩
 ·have hlt:v.1<(b.cells.filter (br a.dims b.dims (at_ a.cells u.1))).length:=by simpa using ‹decide ((v.1:Int)<(((b.cells.filter (br a.dims b.dims (at_ a.cells (u.1:Int).toNat))).map ay).length:Int))=true›
  show (b.cells.filter (br a.dims b.dims (at_ a.cells u.1))).length-(v.1+1)<(b.cells.filter (br a.dims b.dims (at_ a.cells u.1))).length-v.1
  omega
 ·have hui:u.1<a.cells.length:=by simpa using ‹decide ((u.1:Int)<((a.cells.map ay).length:Int))=true›
  have hge:¬ v.1<(b.cells.filter (br a.dims b.dims (at_ a.cells u.1))).length:=by simpa using ‹decide ((v.1:Int)<(((b.cells.filter (br a.dims b.dims (at_ a.cells (u.1:Int).toNat))).map ay).length:Int))=false›
  have e:=BE (a:=a) (b:=b) hui (j:=v.1) (by rw[pz];omega)
  exact⟨hui,by rw[← e];exact hv2,hv3,by rw[← e];exact hv4⟩
 ·have hui:u.1<a.cells.length:=by simpa using ‹decide ((u.1:Int)<((a.cells.map ay).length:Int))=true›
  show a.cells.length-(u.1+1)<a.cells.length-u.1
  omega
 ·have hge:a.cells.length≤u.1:=by simpa using h
  have hf:=wk hge hu2 hu3
  unfold dH
  rw[if_neg (by omega)]
  rfl
end Go.Proofs.YtpejdgkaapnekaaGreat
namespace Go.Proofs.YtpejdgkaapnekaaGreat
open Go Go.Abs
attribute [local irreducible] aa OkC ah av aq aP
set_option maxRecDepth 10000
theorem tg{ad bd:List Dim}{m:Nat}{xs:List (List D)}(hn:(ad.map Dim.name).Nodup)(hnb:(bd.map Dim.name).Nodup)(h:m<(az ad bd).length)(hr:xs=(dJ ad bd m).map aN)(hl:xs.length=ad.length+(aO ad bd).length) :
  m+1≤(az ad bd).length∧(xs.set (at_ (az ad bd) m).toNat (lV ad bd m false)).set (at_ (az ad bd) m).toNat (lV ad bd m true)=(dJ ad bd (m+1)).map aN∧((xs.set (at_ (az ad bd) m).toNat (lV ad bd m false)).set (at_ (az ad bd) m).toNat (lV ad bd m true)).length=ad.length+(aO ad bd).length:=by
 obtain⟨k,j,h1,h2,h3,h4,h5,h6⟩:=yD hn hnb h
 refine⟨h,?_,by simp[hl]⟩
 rw[List.set_set,hr,h6,List.map_set]
 unfold lV
 rw[h1,h2]
 simp only[Hp,h5]
 rfl
set_option maxHeartbeats 2000000 in
theorem Es(a b:Arr)(ha:OkA a.dims a.attrs a.cells)(hb:OkA b.dims b.attrs b.cells):CallA Tryz.prog 157 [bB a,bB b,jH a.dims b.dims] [] (gl (cu a b)) []:=by
 unfold bB jH
 refine enter ag Tryz.func157 rfl (by decide +kernel) rfl fun hok w0 σ0 φ0 M=>?_
 clear hok
 have hna:0<a.dims.length:=by have:=ha.dims.1;omega
 have hnt:0<a.attrs.length:=(aV ha.sch).2.1
 have hb4:=hb.dims.2.1
 have ha4:=ha.dims.2.1
 have ha6:=(aV ha.sch).2.2.1
 have hb6:=(aV hb.sch).2.2.1
 have hrl0:(aO a.dims b.dims).length≤b.dims.length:=by rw[nL];exact vA
 have hrl:(aO a.dims b.dims).length≤1000:=by omega
 have hyP:((af b.dims (aO a.dims b.dims)).map aN).length≤10000000:=by rw[G2,bc];omega
 have hyT:(b.attrs.map aL).length≤10000000:=by rw[G2];omega
 have hlb:(az a.dims b.dims).length≤b.dims.length:=by rw[eN];exact vz
 have hnd:(a.dims.map Dim.name).Nodup:=ha.dims.2.2.2
 have hndb:(b.dims.map Dim.name).Nodup:=hb.dims.2.2.2
 have hlr:(bH a.dims b.dims).length=(az a.dims b.dims).length:=by rw[k7,eN]
 rcases yF a b with⟨hb1,e⟩|⟨hb1,hb2,e⟩|⟨hb1,hb2,hb3,e⟩|⟨hb1,hb2,hb3,e⟩
 all_goals (try rw[e])
 rotate_right
 ·repeat' (first|(refine h1H ?_;(refine h0H ?_;refine cm [7] J J J J J J J J J (Bh _ (aI a.dims b.dims) (by rw[G1 (by rw[hrl2,G2,bc];exact Hb _),hr,show p.1=(az a.dims b.dims).length from wB,oW hnd])) J ?_))|(refine h4H ?_;(refine h6H ?_;first|refine d_e envOk J J J (gD J J J J J J (k9 _ wB).1 (yG wB)) ?_|refine d_e envOk J J J (dS J J J J J (pH wB).1 (eJ (pH wB).2)) ?_))|(refine h4H ?_;(refine h7H ?_;refine d_e envOk J J J (dK J J J J (ia hr (lj hrl2 wB)) J) ?_))|(refine h4H ?_;(refine h8H ?_;first|refine fX envOk J J (cj J J J J J J J J J (ia hr (lj hrl2 wB)) J) ?_|refine fX envOk J J (cj J J J J J J J J J (lk (lj hrl2 wB)) J) ?_))|(refine h4H ?_;(refine h3H ?_;first|refine eO 40 J J J J J J J J (wE a.dims hna) J J J J ?_|refine eO 60 J J J J J J J J (sJ a.attrs hnt) J J J J ?_|refine ef 80 J J J J J J J J (tk b.dims (aO a.dims b.dims) hrl lf) J J ?_|refine dF envOk 7 J J J (bM (i:=40) J J J J J J J J (show a.dims.length≤100000000 from (by omega)) hyP (G5 J)) J J ?_|refine dF envOk 8 J J J (bM (i:=60) J J J J J J J J (show a.attrs.length≤100000000 from (by omega)) hyT (G5 J)) J J ?_))|refine wG ?_|(refine h2H ?_;first|refine aA J (fun h=>?_) (fun h=>?_)|refine fy 6 J [(3,_),(4,_),(5,_),(6,_),(8,_),(9,_),(46,_),(47,_)] (q8Q J J J J J J J J) (fun (p:Nat×List (List D))=>[(48,.one (.d (.int .i64 (p.1:Int))))]) (fun (p:Nat×List (List D))=>[(7,.row 3 32 p.2),(8,.row 2 24 (List.take a.attrs.length (a.attrs.map aL)++b.attrs.map aL)),(3,.box [.d .nil,.d .nil,.d .nil]),(2,.box [.d (aC (az a.dims b.dims)),.d (aC (bH a.dims b.dims)),.d (aC (aO a.dims b.dims))]),(1,.box [.d (ar b.dims),.d (al b.attrs),.d (aG b.cells)]),(0,.box [.d (ar a.dims),.d (al a.attrs),.d (aG a.cells)])]) (fun (p:Nat×List (List D))=>p.1≤(az a.dims b.dims).length∧p.2=(dJ a.dims b.dims p.1).map aN∧p.2.length=a.dims.length+(aO a.dims b.dims).length) (fun (p:Nat×List (List D))=>(az a.dims b.dims).length-p.1) (0,List.take a.dims.length (a.dims.map aN)++(af b.dims (aO a.dims b.dims)).map aN) (q1Q J) wK ?_ (fun p ⟨hk,hr,hrl2⟩=>?_))|(show Exists _;refine Exists.intro ((p.1+1,(p.2.set (at_ (az a.dims b.dims) p.1).toNat (lV a.dims b.dims p.1 false)).set (at_ (az a.dims b.dims) p.1).toNat (lV a.dims b.dims p.1 true))) ⟨?_,?_,wK,(q1Q J),(q8Q J J J J J J J J)⟩))
  ·exact⟨Hi _,by show List.take a.dims.length (a.dims.map aN)++_=_;rw[G1 (by simp),rD,Hy],by show (List.take a.dims.length (a.dims.map aN)++_).length=_;rw[G1 (by simp),G8,G2,G2,bc]⟩
  ·have hlt:p.1<(az a.dims b.dims).length:=by simpa using h
   exact tg hnd hndb hlt hr hrl2
  ·have hlt:p.1<(az a.dims b.dims).length:=by simpa using h
   show (az a.dims b.dims).length-(p.1+1)<(az a.dims b.dims).length-p.1
   omega
  ·have hpe:p.1=(az a.dims b.dims).length:=by
    have:¬ p.1<(az a.dims b.dims).length:=by simpa using h
    omega
   have hcl:∀ k,k<b.cells.length→∀ i,i<(bH a.dims b.dims).length→0≤at_ (bH a.dims b.dims) i∧(at_ (bH a.dims b.dims) i).toNat<(at_ b.cells k).at'.length:=fun k hk i hi=>by
    rw[(cellF_ok.1 (hb.cel _ (aW hk))).1];exact vB i hi
   have hfew:=hb.few
   have hrn:(bH a.dims b.dims).length≤1000:=by omega
   have hr4:∀ {x:List Int},(af x (bH a.dims b.dims)).length≤4:=by intro x;rw[bc];omega
   refine yH (bl:=2) (sm:=12) (mid:=4) (idr:=40) (kk:=2) (bb:=48) (N:=b.cells.length) (r:=(bH a.dims b.dims).length) (de:=116) (m:={ kt:=121,et:=24,kg:=true,ks:=pk,vg:=false,z:=[D.nil] })
    (kept:=kG a b) (l1:=[_,_,_,_]) (l3:=[_,_,_]) (sto1:=sG a b p.2)
    rfl (envOk.M 197 _ rfl) rfl rfl rfl rfl (fun k=>af (at_ b.cells k).at' (bH a.dims b.dims)) (fun k=>ay (at_ b.cells k)) (fun k=>[(101,.one (.d (.int .i64 (k:Int))))])
    (fun k B=>(14,.one (.ref 4 0))::(15,.one (.ref 5 0))::(101,.one (.d (.int .i64 (k:Int))))::(12,.one (.d (.raw (.map (some B)))))::kG a b)
    (fun k B=>(115,.one (.own 6 1))::(112,oY (af (at_ b.cells k).at' (bH a.dims b.dims)))::(111,.one (.d (.raw (.map (some B)))))::(101,.one (.d (.int .i64 (k:Int))))::(12,.one (.d (.raw (.map (some B)))))::kG a b)
    (fun k B j n=>(118,.one (.d (.int .i64 (j:Int))))::(117,.one (.own 40 (n+1)))::(111,.one (.d (.raw (.map (some B)))))::(101,.one (.d (.int .i64 (k:Int))))::(12,.one (.d (.raw (.map (some B)))))::kG a b)
    (fun k=>(5,.box [.d (.int .i64 (at_ (af (at_ b.cells k).at' (bH a.dims b.dims)) 0)),.d (.int .i64 (at_ (af (at_ b.cells k).at' (bH a.dims b.dims)) 1)),.d (.int .i64 (at_ (af (at_ b.cells k).at' (bH a.dims b.dims)) 2)),.d (.int .i64 (at_ (af (at_ b.cells k).at' (bH a.dims b.dims)) 3))])::(4,.box [.d (aC (at_ b.cells k).at'),.d (cR (at_ b.cells k).vals)])::sG a b p.2)
    (fun k=>(6,.row 2 48 [ay (at_ b.cells k)])::sG a b p.2)
    (by have:=hb.few;omega) (by rw[k7,← eN];omega) (fun k hk=>bc) rfl rfl rfl ?_ ?_ ?_ rfl rfl rfl rfl rfl ?_ ?_ rfl rfl rfl rfl (fun _ _=>rfl) (fun _ _=>rfl) rfl (fun _ _=>rfl) (fun _=>rfl) rfl ?_ rfl rfl rfl (fun _ _ _ _ _=>rfl) (fun _ _ _ _ _=>rfl) (fun _ _ _ _ _=>rfl) ?_ ?_
   ·exact (q1Q rfl)
   ·exact (q8Q rfl rfl rfl rfl rfl rfl rfl rfl)
   ·exact (q6Q rfl rfl rfl rfl rfl rfl)
   ·intro k hk B w0 σ0 φ0 M
    repeat' (first|refine wG ?_|(refine h2H ?_;refine aA J (fun h=>?_) (fun h=>?_)))
    ·have hlt:k<b.cells.length:=by simpa using h
     refine .inr ⟨rfl,hlt,?_⟩
     repeat' (first|(refine h1H ?_;(refine h0H ?_;first|refine aj J J J J J J J J (CI (af (at_ b.cells (k:Int).toNat).at' (bH a.dims b.dims)) hr4) J ?_|refine bF 16 J J J J J J J J (wR (at_ b.cells (k:Int).toNat).at' (bH a.dims b.dims) hrn (hcl _ (by omega))) J J J ?_))|refine wG ?_)
     exact⟨(Et rfl rfl rfl rfl rfl rfl rfl rfl rfl rfl rfl rfl),(q8Q rfl rfl rfl rfl rfl rfl rfl rfl)⟩
    ·refine .inl ⟨rfl,?_,(q9Q rfl rfl rfl rfl rfl rfl rfl rfl rfl),(q6Q rfl rfl rfl rfl rfl rfl)⟩
     have:¬ k<b.cells.length:=by simpa using h
     omega
   ·intro k hk B w0 σ0 φ0 M
    repeat' (first|refine wG ?_)
    exact⟨(Ac rfl rfl rfl rfl rfl rfl rfl rfl rfl rfl rfl rfl rfl),(q7Q rfl rfl rfl rfl rfl rfl rfl)⟩
   ·intro k hk B j xs hxs w0 σ0 φ0 M
    repeat' (first|(refine h1H ?_;(refine h0H ?_;refine bX Ad ?_))|refine wG ?_)
    exact⟨(Ac rfl rfl rfl rfl rfl rfl rfl rfl rfl rfl rfl rfl rfl),by show some (AObj.row 2 48 (List.take xs.length xs++_))=_;rw[List.take_length];rfl,(q6Q rfl rfl rfl rfl rfl rfl)⟩
   ·intro k hk B j m w0 σ0 φ0 M
    repeat' (first|refine wG ?_)
    exact⟨(Eu rfl rfl rfl rfl rfl rfl rfl rfl rfl rfl),(q6Q rfl rfl rfl rfl rfl rfl)⟩
   ·exact vF rfl (yI (DL a b ha hb hr hrl2 hpe))
 ·repeat' (first|(refine h4H ?_;(refine h3H ?_;first|refine eO 40 J J J J J J J J (wE a.dims hna) J J J J ?_|refine eO 60 J J J J J J J J (sJ a.attrs hnt) J J J J ?_|refine ef 80 J J J J J J J J (tk b.dims (aO a.dims b.dims) hrl lf) J J ?_|refine dF envOk 7 J J J (bM (i:=40) J J J J J J J J (show a.dims.length≤100000000 from (by omega)) hyP (G5 J)) J J ?_|refine dF envOk 8 J J J (bM (i:=60) J J J J J J J J (show a.attrs.length≤100000000 from (by omega)) hyT (G5 J)) J J ?_))|refine wG ?_)
  rfl
 ·repeat' (first|(refine h4H ?_;(refine h3H ?_;first|refine eO 40 J J J J J J J J (wE a.dims hna) J J J J ?_|refine eO 60 J J J J J J J J (sJ a.attrs hnt) J J J J ?_|refine ef 80 J J J J J J J J (tk b.dims (aO a.dims b.dims) hrl lf) J J ?_|refine dF envOk 7 J J J (bM (i:=40) J J J J J J J J (show a.dims.length≤100000000 from (by omega)) hyP (G5 J)) J J ?_|refine dF envOk 8 J J J (bM (i:=60) J J J J J J J J (show a.attrs.length≤100000000 from (by omega)) hyT (G5 J)) J J ?_))|refine wG ?_)
  rfl
 ·repeat' (first|(refine h1H ?_;(refine h0H ?_;refine cm [7] J J J J J J J J J (Bh _ (aI a.dims b.dims) (by rw[G1 (by rw[hrl2,G2,bc];exact Hb _),hr,show p.1=(az a.dims b.dims).length from wB,oW hnd])) J ?_))|(refine h4H ?_;(refine h6H ?_;first|refine d_e envOk J J J (gD J J J J J J (k9 _ wB).1 (yG wB)) ?_|refine d_e envOk J J J (dS J J J J J (pH wB).1 (eJ (pH wB).2)) ?_))|(refine h4H ?_;(refine h7H ?_;refine d_e envOk J J J (dK J J J J (ia hr (lj hrl2 wB)) J) ?_))|(refine h4H ?_;(refine h8H ?_;first|refine fX envOk J J (cj J J J J J J J J J (ia hr (lj hrl2 wB)) J) ?_|refine fX envOk J J (cj J J J J J J J J J (lk (lj hrl2 wB)) J) ?_))|(refine h4H ?_;(refine h3H ?_;first|refine eO 40 J J J J J J J J (wE a.dims hna) J J J J ?_|refine eO 60 J J J J J J J J (sJ a.attrs hnt) J J J J ?_|refine ef 80 J J J J J J J J (tk b.dims (aO a.dims b.dims) hrl lf) J J ?_|refine dF envOk 7 J J J (bM (i:=40) J J J J J J J J (show a.dims.length≤100000000 from (by omega)) hyP (G5 J)) J J ?_|refine dF envOk 8 J J J (bM (i:=60) J J J J J J J J (show a.attrs.length≤100000000 from (by omega)) hyT (G5 J)) J J ?_))|refine wG ?_|(refine h2H ?_;first|refine aA J (fun h=>?_) (fun h=>?_)|refine fy 6 J [(3,_),(4,_),(5,_),(6,_),(8,_),(9,_),(46,_),(47,_)] (q8Q J J J J J J J J) (fun (p:Nat×List (List D))=>[(48,.one (.d (.int .i64 (p.1:Int))))]) (fun (p:Nat×List (List D))=>[(7,.row 3 32 p.2),(8,.row 2 24 (List.take a.attrs.length (a.attrs.map aL)++b.attrs.map aL)),(3,.box [.d .nil,.d .nil,.d .nil]),(2,.box [.d (aC (az a.dims b.dims)),.d (aC (bH a.dims b.dims)),.d (aC (aO a.dims b.dims))]),(1,.box [.d (ar b.dims),.d (al b.attrs),.d (aG b.cells)]),(0,.box [.d (ar a.dims),.d (al a.attrs),.d (aG a.cells)])]) (fun (p:Nat×List (List D))=>p.1≤(az a.dims b.dims).length∧p.2=(dJ a.dims b.dims p.1).map aN∧p.2.length=a.dims.length+(aO a.dims b.dims).length) (fun (p:Nat×List (List D))=>(az a.dims b.dims).length-p.1) (0,List.take a.dims.length (a.dims.map aN)++(af b.dims (aO a.dims b.dims)).map aN) (q1Q J) wK ?_ (fun p ⟨hk,hr,hrl2⟩=>?_))|(show Exists _;refine Exists.intro ((p.1+1,(p.2.set (at_ (az a.dims b.dims) p.1).toNat (lV a.dims b.dims p.1 false)).set (at_ (az a.dims b.dims) p.1).toNat (lV a.dims b.dims p.1 true))) ⟨?_,?_,wK,(q1Q J),(q8Q J J J J J J J J)⟩))
  ·exact⟨Hi _,by show List.take a.dims.length (a.dims.map aN)++_=_;rw[G1 (by simp),rD,Hy],by show (List.take a.dims.length (a.dims.map aN)++_).length=_;rw[G1 (by simp),G8,G2,G2,bc]⟩
  ·have hlt:p.1<(az a.dims b.dims).length:=by simpa using h
   exact tg hnd hndb hlt hr hrl2
  ·have hlt:p.1<(az a.dims b.dims).length:=by simpa using h
   show (az a.dims b.dims).length-(p.1+1)<(az a.dims b.dims).length-p.1
   omega
  ·rfl
end Go.Proofs.YtpejdgkaapnekaaGreat
