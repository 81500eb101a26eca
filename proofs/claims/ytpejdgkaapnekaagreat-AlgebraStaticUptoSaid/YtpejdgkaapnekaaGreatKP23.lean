import Derived.Shelf.SlSortCmp.WholeK
import Derived.Shelf.SlSortCmp.NoneTotal
import Derived.Test.YtpejdgkaapnekaaGreatKP18
import Derived.Test.YtpejdgkaapnekaaGreatKP22
import Derived.Test.YtpejdgkaapnekaaGreatKP15
import Derived.Test.YtpejdgkaapnekaaGreatKP19
import Derived.Test.YtpejdgkaapnekaaGreatKTab
import Derived.Test.YtpejdgkaapnekaaGreatKP13
set_option linter.unusedVariables false
set_option linter.unusedSimpArgs false
set_option maxHeartbeats 1000000
namespace Go.Proofs.YtpejdgkaapnekaaGreat
open Go Go.Abs
attribute [local irreducible] aa OkC ak av aq aI OkR tt dp jM xy
set_option maxRecDepth 10000
def km(li:LI)(fr:List (Nat×AV))(A:List D)(r:Nat)(a:List Int×Bool×Int):Sto :=
 [(1000000,.loop li fr (FX a.2.1) (xV a.2.1)),(1000001,.box (A.map .d)),(1000002,.box [.d (.int .i64 0)]),(1000003,.box [.d (.int .i64 a.2.2)]),(1000004,.box [.own r a.1.length]),(r,.row 1 8 (a.1.map aA))]
theorem rp{s:Sto}:∀ {A:List D},fi s (A.map .d)=true
 | []=>rfl
 | x::r=>by simp only[XK,fi,bY,rp (A:=r),XV]
theorem Rn(li:LI)(fr:List (Nat×AV))(A:List D)(hf:∀ a,iC (km li fr A 2000000 a) fr=true):FamW (km li fr A 2000000):=by
 refine⟨fun a i e h=>?_,fun a=>?_,fun a=>⟨li,fr,FX a.2.1,xV a.2.1,rfl⟩,fun a=>rfl⟩
 ·unfold km at h
  rcases ah h with⟨rfl,_⟩|⟨_,h⟩
  ·omega
  rcases ah h with⟨rfl,_⟩|⟨_,h⟩
  ·omega
  rcases ah h with⟨rfl,_⟩|⟨_,h⟩
  ·omega
  rcases ah h with⟨rfl,_⟩|⟨_,h⟩
  ·omega
  rcases ah h with⟨rfl,_⟩|⟨_,h⟩
  ·omega
  rcases ah h with⟨rfl,_⟩|⟨_,h⟩
  ·omega
  ·exact nomatch h
 ·show (iC (km li fr A 2000000 a) fr&&(fi (km li fr A 2000000 a) (A.map .d)&&_))=true
  rw[hf a,rp];rfl
theorem y88{li:LI}{fr:List (Nat×AV)}{A:List D}(ds:List Dim)(ats:List Attr)(a:List Int×Bool×Int)(x:Scalar)(hok:re a x)
  (hps:(ka li.n li.params.toList&&Nat.beq li.params.toList.length 1)=true)
  (h:∀ (l:List Int),l.length≤64→(4≤x.op→x.args.length≤l.length)→fh x=true→∀ (w0:World) (σ0:Sig) (φ0:Pl) (M:Nat→Prop) (B:Nat),OkC Tryz.prog ⟨w0,σ0,φ0,M,li.n,some B,[]⟩ li.assign ⟨gX li.params.toList [fc x] fr,km li fr A 2000000 (l,false,0)⟩
   (jM Tryz.prog 1000000 ⟨w0,σ0,φ0,M,li.n,some B,[]⟩ li.body (.one (.d (.bool (F88 ds ats (l,false,0) x).1))) (km li fr A 2000000 (F88 ds ats (l,false,0) x).2))) :
  YieldA Tryz.prog 1000000 [fc x] (km li fr A 2000000 a) (.one (.d (.bool (F88 ds ats a x).1))) (km li fr A 2000000 (F88 ds ats a x).2):=by
 obtain⟨l,d,e⟩:=a
 obtain⟨rfl,rfl,hp,h64,hargs⟩:d=false∧e=0∧fh x=true∧l.length≤64∧(4≤x.op→x.args.length≤l.length):=hok
 exact oM ⟨by omega,by omega⟩ rfl hps (h l h64 hargs hp)
def q88(i:Nat):Nat:=bif Nat.beq i 1000005 then 2000000 else i
def p88(i:Nat):Nat:=bif Nat.beq i 2000000 then 5 else i
theorem BJ{sto:Sto}{li:LI}{fr:List (Nat×AV)}{A:List D}{l:List Int}{t:Int}{m:Nat}(hm:m≤l.length)(h1:Abs.look sto 1000000=some (.loop li fr .ready none))(h2:Abs.look sto 1000001=some (.box (A.map .d)))(h3:Abs.look sto 1000002=some (.box [.d (.int .i64 0)]))
  (h4:Abs.look sto 1000003=some (.box [.d (.int .i64 0)])) (h5:Abs.look sto 1000004=some (.box [.own 2000000 (m+1)])) (h6:Abs.look sto 2000000=some (.row 1 8 ((l.map aA).take m++[[.int .i64 t]]))):SubL sto (km li fr A 2000000 (l.take m++[t],false,0)):=by
 refine⟨h1,h2,h3,h4,?_,?_,trivial⟩
 ·rw[h5];simp[Nat.min_eq_left hm]
 ·rw[h6];simp[aA,List.map_take]
theorem FY{sto:Sto}{li:LI}{fr:List (Nat×AV)}{A:List D}{l:List Int}{t:Int}(h1:Abs.look sto 1000000=some (.loop li fr .ready none))(h2:Abs.look sto 1000001=some (.box (A.map .d)))(h3:Abs.look sto 1000002=some (.box [.d (.int .i64 0)]))
  (h4:Abs.look sto 1000003=some (.box [.d (.int .i64 0)])) (h5:Abs.look sto 1000004=some (.box [.own 2000000 (l.length+1)])) (h6:Abs.look sto 2000000=some (.row 1 8 ((l.map aA).take l.length++[[.int .i64 t]]))):SubL sto (km li fr A 2000000 (l++[t],false,0)):=by
 have:=BJ (Xc _) h1 h2 h3 h4 h5 h6
 rwa [XT] at this
set_option maxHeartbeats 4000000 in
theorem c88(ds:List Dim)(ats:List Attr)(cs:D)(s:Scalar)(hp:gu s=true)(hsz:(bB s).length≤64):CallA Tryz.prog 88 [.agg [.d (ai ds),.d (ao ats),.d cs],fc s] [] (ie (dM dN ds ats s)) []:=by
 obtain⟨h0,hrun⟩:=TH (ds:=ds) (ats:=ats) s hp [] (by simp;omega)
 obtain⟨⟨l',d',e'⟩,hR⟩:∃ a,(bV (F88 ds ats) (bB s) ([],false,0)).2=a:=⟨_,rfl⟩
 have hend:(d'=true∧e'=(dM dN ds ats s).2∧e'≠0)∨(d'=false∧e'=0∧(dM dN ds ats s).2=0∧l'=[(dM dN ds ats s).1]):=by
  by_cases hz:(dM dN ds ats s).2=0
  ·rw[if_pos hz] at hrun
   rw[hrun] at hR
   cases hR
   exact .inr ⟨rfl,rfl,hz,rfl⟩
  ·rw[if_neg hz] at hrun
   obtain⟨l2,hrun⟩:=hrun
   rw[hrun] at hR
   cases hR
   exact .inl ⟨rfl,rfl,hz⟩
 refine enter af Tryz.func88 rfl (by decide +kernel) rfl fun hok w0 σ0 φ0 M=>?_
 have hats:ats.length<281474976710656:=by
  have:=(OkD.sl (hok.1 (.d (ao ats)) (by simp))).1;simpa using this
 clear hok
 repeat' (first|(refine h1H ?_;(refine h0H ?_;refine aM 16 J J J J J J J J (Kv _) J J J ?_))|refine wG ?_)
 ·have hC:=fun li fr hf hY=>Kw (km li fr [ai ds,ao ats,cs] 2000000) (Rn li fr _ hf) (F88 ds ats) re hY s ([],false,0) h0
  rw[hR] at hC
  refine Eu (wI 4 5 (k:=1) (b:=8) rfl rfl) ?_
  refine oH (f:=216) (caps:=[.ptr (sE s)]) (rav:=.tup []) [0,2,3,4,5] 10 rfl rfl rfl rfl (sF q88 p88 (hC _ _ (fun a=>?_) (fun a x hok=>?_)) rfl rfl rfl rfl rfl rfl rfl) (by cases d'<;>rfl) (fun h=>?_) (fun h=>?_)
  ·rfl
  ·refine y88 ds ats a x hok rfl fun l h64 hargs hpx w0 σ0 φ0 M B=>?_
   clear hC hend hR hrun h0 hok a
   by_cases h1:x.op=1
   ·have e:F88 ds ats (l,false,0) x=(true,(l++[dN x.val],false,0)):=by simp[F88,h1]
    have hb1:(x.op==1)=true:=by simp[h1]
    rw[e]
    repeat' (first|(refine h1H ?_;(refine h0H ?_;first|refine fV af J J J J J J J J J J J J J (by show List.length l≤100000000;omega) (W6 J) (W6 J) ?_|refine ae J J J J J J J J (T5 _ _ _ _) J ?_))|refine wG ?_|(show dp _ _ _ _ _;refine gj J ?_ ?_))
    ·rfl
    ·exact FY (by kernel_rfl) (by kernel_rfl) (by kernel_rfl) (by kernel_rfl) (by kernel_rfl) (by kernel_rfl)
   have hb1:(x.op==1)=false:=by simp[h1]
   by_cases h2:x.op=2
   ·have hb2:(x.op==2)=true:=by simp[h2]
    by_cases hi:atI ats x.name<0
    ·have e:F88 ds ats (l,false,0) x=(false,(l,true,11)):=by simp[F88,h2,mI,hi]
     have hd:decide (aK (fun a:Attr=>a.name==x.name) ats 0<0)=true:=by simpa[atI] using hi
     rw[e]
     repeat' (first|(refine h1H ?_;(refine h0H ?_;refine ae J J J J J J J J (xO _ _ _ _) J ?_))|refine wG ?_|(show dp _ _ _ _ _;refine pR J J ?_ ?_))
     ·rfl
     ·exact ab (by kernel_rfl) (ab (by kernel_rfl) (ab (by kernel_rfl) (ab (by kernel_rfl) (ab (by kernel_rfl) (ab (by kernel_rfl) aW)))))
    ·have e:F88 ds ats (l,false,0) x=(true,(l++[(at_ ats (atI ats x.name).toNat).type],false,0)):=by simp[F88,h2,mI,hi]
     have hd:decide (aK (fun a:Attr=>a.name==x.name) ats 0<0)=false:=by simpa[atI] using hi
     have hr:=mr (p:=fun a:Attr=>a.name==x.name) (l:=ats) (k:=0) (by simpa[atI] using hi)
     obtain⟨hr1,hr2⟩:=hr
     rw[e]
     repeat' (first|(refine h1H ?_;(refine h0H ?_;first|refine fV af J J J J J J J J J J J J J (by show List.length l≤100000000;omega) (W6 J) (W6 J) ?_|refine ae J J J J J J J J (xO _ _ _ _) J ?_))|refine wG ?_|(show dp _ _ _ _ _;refine gj J ?_ ?_))
     ·rfl
     ·exact FY (by kernel_rfl) (by kernel_rfl) (by kernel_rfl) (by kernel_rfl) (by kernel_rfl) (by kernel_rfl)
   have hb2:(x.op==2)=false:=by simp[h2]
   by_cases h3:x.op=3
   ·have hb3:(x.op==3)=true:=by simp[h3]
    by_cases hi:ph ds x.name<0
    ·have e:F88 ds ats (l,false,0) x=(false,(l,true,11)):=by simp[F88,h3,oy,hi]
     have hd:decide (aK (fun a:Dim=>a.name==x.name) ds 0<0)=true:=by simpa[ph] using hi
     rw[e]
     repeat' (first|(refine h1H ?_;(refine h0H ?_;refine ae J J J J J J J J (nU _ _ _ _) J ?_))|refine wG ?_|(show dp _ _ _ _ _;refine pR J J ?_ ?_))
     ·rfl
     ·exact ab (by kernel_rfl) (ab (by kernel_rfl) (ab (by kernel_rfl) (ab (by kernel_rfl) (ab (by kernel_rfl) (ab (by kernel_rfl) aW)))))
    ·have e:F88 ds ats (l,false,0) x=(true,(l++[2],false,0)):=by simp[F88,h3,oy,hi]
     have hd:decide (aK (fun a:Dim=>a.name==x.name) ds 0<0)=false:=by simpa[ph] using hi
     rw[e]
     repeat' (first|(refine h1H ?_;(refine h0H ?_;first|refine fV af J J J J J J J J J J J J J (by show List.length l≤100000000;omega) (W6 J) (W6 J) ?_|refine ae J J J J J J J J (nU _ _ _ _) J ?_))|refine wG ?_|(show dp _ _ _ _ _;refine gj J ?_ ?_))
     ·rfl
     ·exact FY (by kernel_rfl) (by kernel_rfl) (by kernel_rfl) (by kernel_rfl) (by kernel_rfl) (by kernel_rfl)
   have hb3:(x.op==3)=false:=by simp[h3]
   obtain⟨hop,hlen⟩:=oS hpx h1 h2 h3
   have hal:=hargs hop.1
   obtain⟨m,hm⟩:∃ m:Nat,l.length=m+x.args.length:=⟨l.length-x.args.length,by omega⟩
   have hml:l.length-x.args.length=m:=by omega
   have hsub:((l.length:Int)-(x.args.length:Int))=(m:Int):=by omega
   have hC:=T6 x.op (l.drop m) hop (by simp;omega)
   repeat' (first|refine wG ?_)
   simp only[WZ]
   rw[hsub]
   rcases Yd m with h0|h0
   ·have hC':CallA Tryz.prog 175 [.one (.d (.int .i64 x.op)),.one (.d (.sl 1 8 ((l.map aA).take l.length)))] [] (ie (ch x.op (l.drop m))) []:=by
     have e1:ar (l.drop m)=.sl 1 8 ((l.map aA).take l.length):=by rw[WY (by simp)];simp[ar,h0]
     rw[e1] at hC;exact hC
    refine d_e envOk rfl rfl rfl (qm rfl rfl rfl (by rw[h0];rfl) rfl rfl (by simp)) ?_
    refine tE [2000000] rfl rfl rfl rfl rfl rfl rfl rfl rfl hC' rfl ?_
    ·by_cases hz:(ch x.op (l.drop m)).2=0
     ·have hbz:((ch x.op (l.drop m)).2 != 0)=false:=by simp[hz]
      have e:F88 ds ats (l,false,0) x=(true,(l.take m++[(ch x.op (l.drop m)).1],false,0)):=by
       simp only[F88];rw[if_neg h1,if_neg h2,if_neg h3,hml];simp[hz]
      rw[e]
      repeat' (first|refine wG ?_)
      refine d_e envOk rfl rfl rfl (gi rfl rfl rfl rfl rfl rfl (by omega) (by show Int.toNat (m:Int)≤List.length l;omega) (by simp)) ?_
      repeat' (first|(refine h1H ?_;(refine h0H ?_;refine fV af J J J J J J J J J J J J J (by show Int.toNat (m:Int)≤100000000;omega) (W6 J) (W6 J) ?_))|refine wG ?_|(show dp _ _ _ _ _;refine gj J ?_ ?_))
      ·rfl
      ·exact BJ (by omega) (by kernel_rfl) (by kernel_rfl) (by kernel_rfl) (by kernel_rfl) (by kernel_rfl) (by kernel_rfl)
     ·have hbz:((ch x.op (l.drop m)).2 != 0)=true:=by simp[hz]
      have e:F88 ds ats (l,false,0) x=(false,(l,true,(ch x.op (l.drop m)).2)):=by
       simp only[F88];rw[if_neg h1,if_neg h2,if_neg h3,hml];simp[hz]
      rw[e]
      repeat' (first|refine wG ?_|(show dp _ _ _ _ _;refine pR J J ?_ ?_))
      ·rfl
      ·exact ab (by kernel_rfl) (ab (by kernel_rfl) (ab (by kernel_rfl) (ab (by kernel_rfl) (ab (by kernel_rfl) (ab (by kernel_rfl) aW)))))
   ·have hC':CallA Tryz.prog 175 [.one (.d (.int .i64 x.op)),.one (.d (.sl 1 8 (((l.map aA).drop m).take (l.length-m))))] [] (ie (ch x.op (l.drop m))) []:=by
     have e1:ar (l.drop m)=.sl 1 8 (((l.map aA).drop m).take (l.length-m)):=by
      rw[WY (by simp)];simp[ar,List.map_drop]
     rw[e1] at hC;exact hC
    refine d_e envOk rfl rfl rfl (rV rfl rfl rfl rfl rfl rfl (by omega) (by show Int.toNat (m:Int)≤List.length l;omega) (by simp)) ?_
    refine tE [2000000] rfl rfl rfl rfl rfl rfl rfl rfl rfl hC' rfl ?_
    ·by_cases hz:(ch x.op (l.drop m)).2=0
     ·have hbz:((ch x.op (l.drop m)).2 != 0)=false:=by simp[hz]
      have e:F88 ds ats (l,false,0) x=(true,(l.take m++[(ch x.op (l.drop m)).1],false,0)):=by
       simp only[F88];rw[if_neg h1,if_neg h2,if_neg h3,hml];simp[hz]
      rw[e]
      repeat' (first|refine wG ?_)
      refine d_e envOk rfl rfl rfl (gi rfl rfl rfl rfl rfl rfl (by omega) (by show Int.toNat (m:Int)≤List.length l;omega) (by simp)) ?_
      repeat' (first|(refine h1H ?_;(refine h0H ?_;refine fV af J J J J J J J J J J J J J (by show Int.toNat (m:Int)≤100000000;omega) (W6 J) (W6 J) ?_))|refine wG ?_|(show dp _ _ _ _ _;refine gj J ?_ ?_))
      ·rfl
      ·exact BJ (by omega) (by kernel_rfl) (by kernel_rfl) (by kernel_rfl) (by kernel_rfl) (by kernel_rfl) (by kernel_rfl)
     ·have hbz:((ch x.op (l.drop m)).2 != 0)=true:=by simp[hz]
      have e:F88 ds ats (l,false,0) x=(false,(l,true,(ch x.op (l.drop m)).2)):=by
       simp only[F88];rw[if_neg h1,if_neg h2,if_neg h3,hml];simp[hz]
      rw[e]
      repeat' (first|refine wG ?_|(show dp _ _ _ _ _;refine pR J J ?_ ?_))
      ·rfl
      ·exact ab (by kernel_rfl) (ab (by kernel_rfl) (ab (by kernel_rfl) (ab (by kernel_rfl) (ab (by kernel_rfl) (ab (by kernel_rfl) aW)))))
  ·rcases hend with⟨rfl,_⟩|⟨rfl,rfl,hz,rfl⟩
   ·exact nomatch h
   rintro ⟨w1,σ1,φ1,M1,n1,rd1,mk1⟩ ⟨hn,hrd,_⟩
   dsimp only at hn hrd
   subst hn hrd
   refine bm (uX (s':=[(2,.box [.d (.int .i64 0)]),(3,.box [.d (.int .i64 0)]),(4,.box [.own 16 1]),(16,.row 1 8 [[.int .i64 (dM dN ds ats s).1]])]) (ab (by kernel_rfl) (ab (by kernel_rfl) (ab (by kernel_rfl) (ab (by kernel_rfl) aW))))) ?_
   repeat' (first|refine wG ?_)
   simp[ie,hz]
  ·rcases hend with⟨rfl,rfl,hz⟩|⟨rfl,_⟩
   ·repeat' (first|refine wG ?_)
    show AV.tup [(false,[.d (.int .i64 0)]),(false,[.d (.int .i64 (dM dN ds ats s).2)])]=_
    simp[ie,Kl hz]
   ·exact nomatch h
end Go.Proofs.YtpejdgkaapnekaaGreat
namespace Go.Proofs.YtpejdgkaapnekaaGreat
open Go Go.Abs
attribute [local irreducible] aa OkC ak av aq aI
set_option maxRecDepth 10000
theorem Ox(l:List Int):CallA Tryz.prog 129 [.one (.d (ar l))] [] (.one (.d (ar l))) []:=by
 refine enter af Tryz.func129 rfl (by decide +kernel) rfl fun hok w0 σ0 φ0 M=>?_
 have h1:=hok.1.sl;clear hok;simp only[WZ] at h1
 repeat' (first|(refine h1H ?_;(refine h5H ?_;refine dz af J J J J J J (fun r hr=>?_)))|(refine h1H ?_;(refine h0H ?_;refine c6 af J J J J J (id:=0) J J J J J J J (by simp only[WZ,Xp];omega) (by simp only[WZ,Xp];omega) ?_))|(refine h2H ?_;first|refine bm (bq (dl:=[0]) J) (cr ?_)|refine bm (nH (s:=2) (k:=1) (b:=8) J) (cr ?_))|refine wG ?_|(refine h2H ?_;refine aj J (fun h=>?_) (fun h=>?_)))
 ·have e:=hr (by simpa using h)
  simp only[ar,e]
 ·simp only[eH,ar,WZ,Xp,List.take_nil,X3]
  exact congrArg (fun x=>AV.one (AC.d (D.sl _ _ x))) (WY (by simp))
theorem Oy(l:List Val):CallA Tryz.prog 144 [.one (.d (aY l))] [] (.one (.d (aY l))) []:=by
 refine enter af Tryz.func144 rfl (by decide +kernel) rfl fun hok w0 σ0 φ0 M=>?_
 have h1:=hok.1.sl;clear hok;simp only[WZ] at h1
 repeat' (first|(refine h1H ?_;(refine h5H ?_;refine dz af J J J J J J (fun r hr=>?_)))|(refine h1H ?_;(refine h0H ?_;refine c6 af J J J J J (id:=0) J J J J J J J (by simp only[WZ,Xp];omega) (by simp only[WZ,Xp];omega) ?_))|(refine h2H ?_;first|refine bm (bq (dl:=[0]) J) (cr ?_)|refine bm (nH (s:=2) (k:=4) (b:=40) J) (cr ?_))|refine wG ?_|(refine h2H ?_;refine aj J (fun h=>?_) (fun h=>?_)))
 ·have e:=hr (by simpa using h)
  simp only[aY,e]
 ·simp only[eH,aY,WZ,Xp,List.take_nil,X3]
  exact congrArg (fun x=>AV.one (AC.d (D.sl _ _ x))) (WY (by simp))
theorem c97(l:List Dim):CallA Tryz.prog 97 [.one (.d (ai l))] [] (.one (.d (ai l))) []:=by
 refine enter af Tryz.func97 rfl (by decide +kernel) rfl fun hok w0 σ0 φ0 M=>?_
 have h1:=hok.1.sl;clear hok;simp only[WZ] at h1
 repeat' (first|(refine h1H ?_;(refine h5H ?_;refine dz af J J J J J J (fun r hr=>?_)))|(refine h1H ?_;(refine h0H ?_;refine c6 af J J J J J (id:=0) J J J J J J J (by simp only[WZ,Xp];omega) (by simp only[WZ,Xp];omega) ?_))|(refine h2H ?_;first|refine bm (bq (dl:=[0]) J) (cr ?_)|refine bm (nH (s:=2) (k:=3) (b:=32) J) (cr ?_))|refine wG ?_|(refine h2H ?_;refine aj J (fun h=>?_) (fun h=>?_)))
 ·have e:=hr (by simpa using h)
  simp only[ai,e]
 ·simp only[eH,ai,WZ,Xp,List.take_nil,X3]
  exact congrArg (fun x=>AV.one (AC.d (D.sl _ _ x))) (WY (by simp))
theorem Sv(l:List Attr):CallA Tryz.prog 145 [.one (.d (ao l))] [] (.one (.d (ao l))) []:=by
 refine enter af Tryz.func145 rfl (by decide +kernel) rfl fun hok w0 σ0 φ0 M=>?_
 have h1:=hok.1.sl;clear hok;simp only[WZ] at h1
 repeat' (first|(refine h1H ?_;(refine h5H ?_;refine dz af J J J J J J (fun r hr=>?_)))|(refine h1H ?_;(refine h0H ?_;refine c6 af J J J J J (id:=0) J J J J J J J (by simp only[WZ,Xp];omega) (by simp only[WZ,Xp];omega) ?_))|(refine h2H ?_;first|refine bm (bq (dl:=[0]) J) (cr ?_)|refine bm (nH (s:=2) (k:=2) (b:=24) J) (cr ?_))|refine wG ?_|(refine h2H ?_;refine aj J (fun h=>?_) (fun h=>?_)))
 ·have e:=hr (by simpa using h)
  simp only[ao,e]
 ·simp only[eH,ao,WZ,Xp,List.take_nil,X3]
  exact congrArg (fun x=>AV.one (AC.d (D.sl _ _ x))) (WY (by simp))
end Go.Proofs.YtpejdgkaapnekaaGreat
namespace Go.Abs
open Go Go.Shelf Go.RowKit Go.Lib Go.Sort Go.Proofs
variable {P:Program} {σ:Sig} {φ:Pl} {w:World}
theorem mK{σ:Sig}{φ:Pl}{sto:Sto}:∀ {ds:List D} {vs:List Value},All2 (Rep σ) ds vs→All2 (RepC σ φ sto) (ds.map AC.d) vs
 | [],[],_=>trivial
 | _::_,_::_,h=>⟨.d h.1,mK h.2⟩
 | [],_::_,h=>h.elim
 | _::_,[],h=>h.elim
theorem r8:∀ {ds:List D} {vs:List Value},All2 (Rep σ) ds vs→∀ v∈vs,v.oneCell=true
 | [],[],_,v,hv=>by simp at hv
 | _::_,_::_,h,v,hv=>by
   rcases Xo.1 hv with rfl|hv
   ·exact h.1.oneCell
   ·exact r8 h.2 v hv
 | [],_::_,h,_,_=>h.elim
 | _::_,[],h,_,_=>h.elim
theorem HD{M:Nat→Prop}{w w':World}(h:Kept M w w')(hM:∀ b,¬ M b):∃ q os,w'=grow (w.drewN q) os:=by
 refine⟨w'.drawn-w.drawn,w'.heap.extract w.heap.size w'.heap.size,?_⟩
 have hh:w'.heap=w.heap++w'.heap.extract w.heap.size w'.heap.size:=by
  refine Array.ext_getElem? fun i=>?_
  by_cases hi:i<w.heap.size
  ·rw[Array.getElem?_append_left hi];exact h.block i hi (hM i)
  ·rw[Array.getElem?_append_right (by omega),Array.getElem?_extract]
   have:=h.size
   by_cases hi2:i<w'.heap.size
   ·rw[if_pos (by omega)];congr 1;omega
   ·rw[if_neg (by omega)];exact Array.getElem?_eq_none (by omega)
 have h1:=h.os;have h2:=h.tape;have h3:=h.output;have h4:=h.drawn
 cases w;cases w'
 simp only[grow,World.drewN] at *
 subst h1 h2 h3
 congr 1
 omega
theorem tW{enc:Value→Value}{w:World}{B off b:Nat}{d:Array Value}(h:b≠B):(putRow enc w B off d).heap[b]?=w.heap[b]?:=by
 simp only[putRow,mapBlock,Array.getElem?_modify,if_neg (Ne.symm h)]
theorem lg{α:Type}[Inhabited α]{enc:α→List Value}{k:Nat}{w:World}{B off m b:Nat}{d:Array α}{os:Array Obj}(hb:b<w.heap.size)(h:b≠B) :
  (sortWorldK enc k w B off m d os).heap[b]?=w.heap[b]?:=by
 unfold sortWorldK grow putRowK
 show ((putRow id (Sort.ahead w m) B off (flatK enc k d)).heap++os)[b]?=_
 rw[Array.getElem?_append_left (by rw[Go.Sort.size_putRow];exact hb),tW h]
 rfl
theorem Ac{α:Type}[Inhabited α]{enc:α→List Value}{k:Nat}{w:World}{B off m:Nat}{d:Array α}{os:Array Obj}{arr:Array Value}{t:TypeId}{fr:Nat×Nat}(h:w.heap[B]?=some (.cells arr t fr)) :
  (sortWorldK enc k w B off m d os).heap[B]?=some (.cells (putCells id off (flatK enc k d) arr) t fr):=by
 unfold sortWorldK grow putRowK
 show ((putRow id (Sort.ahead w m) B off (flatK enc k d)).heap++os)[B]?=_
 have hB:=(Xm.1 h).1
 rw[Array.getElem?_append_left (by rw[Go.Sort.size_putRow];exact hB)]
 simp only[putRow,mapBlock,Array.getElem?_modify,if_true]
 show (w.heap[B]?).map _=_
 rw[h];rfl
theorem HE{α:Type}[Inhabited α]{enc:α→List Value}{k:Nat}{w:World}{B off m:Nat}{d:Array α}{os:Array Obj} :
  w.heap.size≤(sortWorldK enc k w B off m d os).heap.size:=by
 unfold sortWorldK grow putRowK
 show w.heap.size≤((putRow id (Sort.ahead w m) B off (flatK enc k d)).heap++os).size
 rw[Array.size_append,Go.Sort.size_putRow]
 exact Nat.le_add_right _ _
section
variable {C:Type}
abbrev El(σ:Sig)(k:Nat)(encC:C→List D):={ p:C×List Value // p.2.length=k∧All2 (Rep σ) (encC p.1) p.2 }
set_option maxHeartbeats 1000000 in
theorem FB{ρ:Ren}(L:SlLaysF0.n6 P ρ)(k b:Nat)(hk0:0<k)(aE:∀ w,(isAgg (ρ.t 24)).run P w=.ok true w)(zE:∀ w,(Go.sizeOf (ρ.t 24)).run P w=.ok k w)
  (encC:C→List D) (hk:∀ x,(encC x).length=k) (cf:C→C→Int) (h1:∀ x,¬ cf x x<0) (h2:∀ x y z,cf x y<0→cf y z<0→cf x z<0) (h3:∀ x y z,¬ cf x y<0→¬ cf y z<0→¬ cf x z<0)
  (g:Nat) (hg:∀ x y,CallA P g [.agg ((encC x).map .d),.agg ((encC y).map .d)] [] (.one (.d (.int .i64 (cf x y)))) [])
  (eg:∀ args w,(callFunc g args).run P w=.ok (.enter g args) w)
  (hfn : ∃ fn, P.funcs[ρ.f 6]? = some fn ∧ (fn.name == "runtime.NumGoroutine") = false ∧ fn.body.isSome = true)
  (id:Nat) (cs ss:List C) (hu:∀ l:List C,l.Perm cs→l.Pairwise (fun x y=>¬ cf y x<0)→l=ss) :
  CallA P (ρ.f 6) [.one (.own id cs.length),.one (.d (.fn g []))] [(id,.row k b (cs.map encC))] (.tup []) [(id,.row k b (ss.map encC))]:=by
 refine⟨hfn,fun w σ φ vs hI hA=>?_⟩
 match vs,hA with
 | [v0,v1],hA =>
 obtain⟨hv0,hv1,_⟩:=hA
 have ev1:v1=.func (.func g) #[] #[]:=by
  have hv1:RepC σ φ _ (.d (.fn g [])) v1:=hv1
  cases hv1.d_inv with
  | fn ws hl _ =>
    have:ws=[]:=List.eq_nil_of_length_eq_zero (by simpa using hl)
    subst this;rfl
 subst ev1
 have hlook:look [(id,AObj.row k b (cs.map encC))] id=some (.row k b (cs.map encC)):=by simp[look]
 have hobj:=hI.obj id _ hlook
 by_cases hn:cs=[]
 ·subst hn
  have hss:ss=[]:=(hu [] (List.Perm.refl _) .nil).symm
  subst hss
  have ev0:∃ p c,v0=.slice p 0 c:=by
   have hv0:RepC σ φ _ (.own id 0) v0:=hv0
   cases hv0 with
   | ownNil=>exact⟨_,_,rfl⟩
   | own=>exact⟨_,_,rfl⟩
   | dead hx=>simp[bY,bw,look] at hx
  obtain⟨p,c,rfl⟩:=ev0
  refine (AnyF.slices_SortFunc_none L p c _ w).mono ?_
  rintro e w' ⟨rfl,rfl⟩
  exact⟨_,σ,φ,rfl,Sig.le_refl _,fun b hb=>.inl hb,hI,⟨[],rfl,trivial⟩,fun i e p h1 h2=>.inr ⟨i,e,p,h1,h2,rfl⟩,fun _ _=>rfl,⟨rfl,rfl,rfl,Xc _,Xc _,fun _ _ _=>rfl⟩⟩
 ·have hn0:0<cs.length:=List.length_pos_iff.2 hn
  have hv0:RepC σ φ _ (.own id cs.length) v0:=hv0
  obtain⟨B,cap0,rfl,hφ⟩:∃ B cap,v0=.slice (some ⟨B,0,none⟩) cs.length cap∧φ id=some (B,cap):=by
   revert hv0;generalize cs.length=m at hn0 ⊢;intro hv0
   cases hv0 with
   | ownNil=>omega
   | own _ _ hp=>exact⟨_,_,rfl,hp⟩
   | dead hx=>simp[bY,bw,look] at hx
  rcases hobj with⟨he,_⟩|⟨B',cap,arr,t,vf,hφ',hheap,hsz,hle,h48,hb47,hlen,hcell,hrep,hσ⟩
  ·simp at he;exact absurd he hn
  rw[hφ] at hφ';cases hφ'
  simp only[WZ] at hle h48 hb47 hcell
  have hB:B<w.heap.size:=(Xm.1 hheap).1
  have hel:∀ i (hi:i<cs.length),((List.range k).map (vf i)).length=k∧All2 (Rep σ) (encC cs[i]) ((List.range k).map (vf i)):=by
   intro i hi
   refine⟨by simp,All2.of_get (by simp[hk]) fun j x v hx hv=>?_⟩
   have hj:j<k:=by have:=(W8.1 hx).1;rwa [hk] at this
   have hv':v=vf i j:=by
    rw[X1,List.getElem?_range hj] at hv;simpa using hv.symm
   subst hv'
   exact hrep i j _ _ (by rw[X1,Xf hi];rfl) hx
  let mk:(i:Nat)→i<cs.length→El σ k encC:=fun i hi=>⟨(cs[i],(List.range k).map (vf i)),hel i hi⟩
  haveI:Inhabited (El σ k encC):=⟨mk 0 hn0⟩
  let d:Array (El σ k encC):=Array.ofFn (n:=cs.length) fun i=>mk i.1 i.2
  have hds:d.size=cs.length:=by simp[d]
  have hdg:∀ i (hi:i<cs.length),d[i]! = mk i hi:=by
   intro i hi;rw[getElem!_pos d i (by omega)];simp[d]
  have hdl:d.toList.map (fun x=>x.1.1)=cs:=by
   refine List.ext_getElem (by simp[hds]) fun i h4 h5=>?_
   simp[d,mk]
  let enc:El σ k encC→List Value:=fun x=>x.1.2
  let cf':El σ k encC→El σ k encC→Int:=fun x y=>cf x.1.1 y.1.1
  have hO:SWO (ltOf cf') :=
   ⟨fun x=>by simpa[ltOf,cf'] using h1 x.1.1,fun x y z=>by simpa[ltOf,cf'] using h2 x.1.1 y.1.1 z.1.1,fun x y z=>by simpa[ltOf,cf'] using h3 x.1.1 y.1.1 z.1.1⟩
  have hHK:HoldsK enc k w B 0 d:=by
   intro j hj
   rw[size_flatK,hds] at hj
   have hj1:j / k<cs.length:=Yc (by rwa [Yo] at hj)
   have hj2:j % k<k:=Nat.mod_lt _ hk0
   have hc:=hcell (j / k) (j % k) hj1 hj2
   rw[Nat.div_add_mod' j k] at hc
   rw[get_flatK enc k d j (by rw[hds];exact hj),hdg _ hj1]
   have e:(enc (mk (j / k) hj1))[j % k]! = vf (j / k) (j % k):=by
    rw[getElem!_pos _ _ (by simp[enc,mk];exact hj2)];simp[enc,mk]
   rw[e]
   refine⟨?_,?_⟩
   ·simp only[World.cell?,hheap,Xp]
    simpa using hc
   ·simp[World.frozen?,hheap]
  have hsig:∀ (m:Nat) (os:Array Obj) (dk:Array (El σ k encC)),HInv σ φ [] (sortWorldK enc k w B 0 m dk os):=by
   intro m os dk
   refine⟨fun b cs' hb=>?_,fun i e h=>by simp[look] at h,fun i i' e e' p p' h=>by simp[look] at h⟩
   obtain⟨t',f',hh⟩:=hI.sig b cs' hb
   refine⟨t',f',?_⟩
   rw[lg (Xm.1 hh).1 (by rintro rfl;rw[hσ] at hb;cases hb)]
   exact hh
  have hcmp:CmpLays P g #[] enc k cf' B 0 d.size w:=by
   intro m os dk _ x y
   have hr:=(hg x.1.1 y.1.1).run (sortWorldK enc k w B 0 m dk os) σ φ [.agg (enc x).toArray,.agg (enc y).toArray] (hsig m os dk) ⟨⟨_,rfl,mK x.2.2⟩,⟨_,rfl,mK y.2.2⟩,trivial⟩
   refine Calls.mono hr ?_
   rintro e w' ⟨v,σ',φ',rfl,hret⟩
   obtain⟨q,os',hq⟩:=HD hret.kept (fun b hb=>by obtain⟨i,e,p,h,_⟩:=hb;simp[look] at h)
   have hv:v=.int .i64 (cf x.1.1 y.1.1):=by
    have h:RepC σ' φ' [] (.d (.int .i64 (cf x.1.1 y.1.1))) v:=hret.rep
    cases h.d_inv;rfl
   exact⟨by rw[hv],q,os',hq⟩
  have hS:=AnyQ.slices_SortFunc L k aE zE enc (fun x=>x.2.1) (fun x v hv=>qL (r8 x.2.2 v hv)) cf' hO g #[] B 0 cap0 d w eg hcmp hHK hB (by omega)
  rw[hds] at hS
  refine Calls.mono hS ?_
  rintro e w' ⟨rfl,d',n',os,hperm,hsorted,rfl⟩
  have hd's:d'.size=cs.length:=hperm.1.trans hds
  have hpl:d'.toList.Perm d.toList:=by
   have h:=hperm.2.2
   have e1:d'.extract 0 cs.length=d':=by rw[← hd's];simp
   have e2:d.extract 0 cs.length=d:=by rw[← hds];simp
   rwa [e1,e2] at h
  have hl:d'.toList.map (fun x=>x.1.1)=ss:=by
   refine hu _ (hdl ▸ hpl.map _) ?_
   rw[X4,List.pairwise_iff_getElem]
   intro i j hi hj hij
   have h:=hsorted i j (Xk _) hij (by simpa[hd's] using hj)
   simp only[Array.length_toList] at hi hj
   rw[getElem!_pos d' i hi,getElem!_pos d' j hj] at h
   simpa[ltOf,cf'] using h
  have hssl:ss.length=cs.length:=by rw[← hl];simp[hd's]
  have hget:∀ i (hi:i<cs.length) (x:C),ss[i]?=some x→d'[i]!.1.1=x:=by
   intro i hi x hx
   rw[← hl,X1,XP,Array.getElem?_eq_getElem (by omega)] at hx
   rw[getElem!_pos d' i (by omega)]
   simpa using hx
  have hmine:MOf φ [(id,AObj.row k b (cs.map encC))] B:=⟨id,_,_,hlook,hφ,rfl⟩
  refine⟨_,σ,φ,rfl,Sig.le_refl _,fun b hb=>.inl hb,⟨fun b cs' hb=>?_,fun i e hi=>?_,fun i i' e e' p p' hi hi' hne=>?_⟩,⟨[],rfl,trivial⟩,fun i e p hi hp=>.inr ?_,fun _ _=>rfl,⟨rfl,rfl,rfl,HE,Nat.le_add_right _ _,fun b hb hM=>lg hb (by rintro rfl;exact hM hmine)⟩⟩
  ·obtain⟨t',f',hh⟩:=hI.sig b cs' hb
   refine⟨t',f',?_⟩
   rw[lg (Xm.1 hh).1 (by rintro rfl;rw[hσ] at hb;cases hb)]
   exact hh
  ·rcases ah hi with⟨rfl,rfl⟩|⟨_,hi⟩
   ·refine .inr ⟨B,cap0,putCells _root_.id 0 (flatK enc k d') arr,t,fun i j=>(enc d'[i]!)[j]!,hφ,Ac hheap,by simp[putCells,hsz],by simpa[hssl] using hle,by simpa[hssl] using h48,by simpa[hssl] using hb47,fun x hx=>?_,fun i j hi hj=>?_,fun i j x dd hx hdd=>?_,hσ⟩
    ·obtain⟨c,_,rfl⟩:=Xj.1 hx;exact hk c
    ·simp only[WZ,hssl] at hi
     have hlt:i*k+j<cs.length*k:=by
      have:=Xn k (show i+1≤cs.length from hi);rw[X2,Nat.one_mul] at this;omega
     have hc:=hcell i j hi hj
     simp only[putCells,Array.getElem?_mapIdx,hc,Option.map_some,size_flatK,hd's,Xk,true_and,Xp,hlt,if_true,Nat.sub_zero]
     rw[get_flatK enc k d' _ (by rw[hd's];exact hlt)]
     have e1:(i*k+j) / k=i:=(blk_iff k i _ hk0).1 ⟨by omega,by omega⟩
     have e2:(i*k+j) % k=j:=by rw[Nat.mod_eq_sub_div_mul,e1];omega
     rw[e1,e2];rfl
    ·rw[X1] at hx
     cases hs:ss[i]? with
     | none=>rw[hs] at hx;simp at hx
     | some c =>
       rw[hs] at hx;simp at hx;subst hx
       have hi:i<cs.length:=by rw[← hssl];exact (W8.1 hs).1
       have e1:=hget i hi c hs
       have ha:=(d'[i]!).2.2
       rw[e1] at ha
       obtain⟨v,hv,hr⟩:=ha.get hdd
       have:(enc d'[i]!)[j]! = v:=by
        have hv2:=(W8.1 hv)
        exact (getElem!_pos (enc d'[i]!) j hv2.1).trans hv2.2
       show Rep σ dd ((enc d'[i]!)[j]!)
       rw[this];exact hr
   ·simp[look] at hi
  ·rcases ah hi with⟨rfl,_⟩|⟨_,hi⟩
   ·rcases ah hi' with⟨rfl,_⟩|⟨_,hi'⟩
    ·exact absurd rfl hne
    ·simp[look] at hi'
   ·simp[look] at hi
  ·rcases ah hi with⟨rfl,_⟩|⟨_,hi⟩
   ·rw[hφ] at hp;cases hp;exact hmine
   ·simp[look] at hi
end
end Go.Abs
namespace Go.Proofs.YtpejdgkaapnekaaGreat
open Go Go.Proofs Go.Shelf
def Ic:Go.Shelf.Ren:=⟨fun|6=>181|15=>219|14=>231|28=>261|29=>262|20=>271|21=>272|22=>273|23=>274|24=>275|25=>276|26=>277|27=>278|46=>338|47=>295|48=>296|49=>339|50=>340|57=>368|n=>n,fun|22=>24|24=>56|25=>172|3=>3|39=>192|0=>0|53=>251|55=>253|4=>4|46=>244|45=>243|50=>119|5=>5|9=>9|66=>278|70=>282|76=>302|77=>303|n=>n,fun|n=>n⟩
theorem QK:Go.Proofs.SlLaysF0.n6 Tryz.prog Ic:={
 mixed:=by kernel_rfl
 f6:=⟨Tryz.f181.name,by decide,Tryz.func181.trans (congrArg some (by kernel_rfl))⟩
 f14:=⟨Tryz.f231.name,by decide,Tryz.func231.trans (congrArg some (by kernel_rfl))⟩
 f15:=Tryz.func219.trans (congrArg some (by kernel_rfl))
 f20:=⟨Tryz.f271.name,by decide,Tryz.func271.trans (congrArg some (by kernel_rfl))⟩
 f21:=⟨Tryz.f272.name,by decide,Tryz.func272.trans (congrArg some (by kernel_rfl))⟩
 f22:=⟨Tryz.f273.name,by decide,Tryz.func273.trans (congrArg some (by kernel_rfl))⟩
 f23:=⟨Tryz.f274.name,by decide,Tryz.func274.trans (congrArg some (by kernel_rfl))⟩
 f24:=⟨Tryz.f275.name,by decide,Tryz.func275.trans (congrArg some (by kernel_rfl))⟩
 f25:=⟨Tryz.f276.name,by decide,Tryz.func276.trans (congrArg some (by kernel_rfl))⟩
 f26:=⟨Tryz.f277.name,by decide,Tryz.func277.trans (congrArg some (by kernel_rfl))⟩
 f27:=⟨Tryz.f278.name,by decide,Tryz.func278.trans (congrArg some (by kernel_rfl))⟩
 f28:=Tryz.func261.trans (congrArg some (by kernel_rfl))
 f29:=Tryz.func262.trans (congrArg some (by kernel_rfl))
 f46:=⟨Tryz.f338.name,by decide,Tryz.func338.trans (congrArg some (by kernel_rfl))⟩
 f47:=Tryz.func295.trans (congrArg some (by kernel_rfl))
 f48:=Tryz.func296.trans (congrArg some (by kernel_rfl))
 f49:=⟨Tryz.f339.name,by decide,Tryz.func339.trans (congrArg some (by kernel_rfl))⟩
 f50:=⟨Tryz.f340.name,by decide,Tryz.func340.trans (congrArg some (by kernel_rfl))⟩
 f57:=⟨Tryz.f368.name,by decide,Tryz.func368.trans (congrArg some (by kernel_rfl))⟩
 t0:=Tryz.underlying0
 a0:=Tryz.isAgg0
 z0:=Tryz.sizeOf0
 v0:=Tryz.zeroValue0
 t3:=Tryz.underlying3
 a3:=Tryz.isAgg3
 z3:=Tryz.sizeOf3
 v3:=Tryz.zeroValue3
 t4:=Tryz.underlying4
 a4:=Tryz.isAgg4
 z4:=Tryz.sizeOf4
 v4:=Tryz.zeroValue4
 t5:=Tryz.underlying5
 a5:=Tryz.isAgg5
 z5:=Tryz.sizeOf5
 v5:=Tryz.zeroValue5
 t9:=Tryz.underlying9
 a9:=Tryz.isAgg9
 z9:=Tryz.sizeOf9
 v9:=Tryz.zeroValue9
 t22:=Tryz.underlying24
 a22:=Tryz.isAgg24
 z22:=Tryz.sizeOf24
 v22:=Tryz.zeroValue24
 t25:=Tryz.underlying172
 a25:=Tryz.isAgg172
 z25:=Tryz.sizeOf172
 v25:=Tryz.zeroValue172
 t39:=Tryz.underlying192
 a39:=Tryz.isAgg192
 z39:=Tryz.sizeOf192
 v39:=Tryz.zeroValue192
 t45:=Tryz.underlying243
 a45:=Tryz.isAgg243
 z45:=Tryz.sizeOf243
 v45:=Tryz.zeroValue243
 t46:=Tryz.underlying244
 a46:=Tryz.isAgg244
 z46:=Tryz.sizeOf244
 v46:=Tryz.zeroValue244
 t50:=Tryz.underlying119
 a50:=Tryz.isAgg119
 z50:=Tryz.sizeOf119
 v50:=Tryz.zeroValue119
 t53:=Tryz.underlying251
 a53:=Tryz.isAgg251
 z53:=Tryz.sizeOf251
 v53:=Tryz.zeroValue251
 t55:=Tryz.underlying253
 a55:=Tryz.isAgg253
 z55:=Tryz.sizeOf253
 v55:=Tryz.zeroValue253
 t66:=Tryz.underlying278
 a66:=Tryz.isAgg278
 z66:=Tryz.sizeOf278
 v66:=Tryz.zeroValue278
 t70:=Tryz.underlying282
 a70:=Tryz.isAgg282
 z70:=Tryz.sizeOf282
 v70:=Tryz.zeroValue282
 t76:=Tryz.underlying302
 a76:=Tryz.isAgg302
 z76:=Tryz.sizeOf302
 v76:=Tryz.zeroValue302
 t77:=Tryz.underlying303
 a77:=Tryz.isAgg303
 z77:=Tryz.sizeOf303
 v77:=Tryz.zeroValue303 }
end Go.Proofs.YtpejdgkaapnekaaGreat
namespace Go.Proofs.YtpejdgkaapnekaaGreat
open Go Go.Abs
attribute [local irreducible] aa OkC ak av aq aI
set_option maxRecDepth 10000
def FA(x:Cell):AV:=.agg ((al x).map .d)
theorem SA(x y:Cell):CallA Tryz.prog 182 [FA x,FA y] [] (.one (.d (.int .i64 (bH x.at' y.at')))) []:=by
 unfold FA al
 simp only[XK,List.map_nil]
 refine enter af Tryz.func182 rfl (by decide +kernel) rfl fun hok w0 σ0 φ0 M=>?_
 clear hok
 repeat' (first|(refine h1H ?_;(refine h0H ?_;refine ae J J J J J J J J (c35 _ _) J ?_))|refine wG ?_)
 all_goals (try (((simp_all[au,W7])<;>exact wL);done))
theorem Ss(id:Nat)(cs ss:List Cell)(hu:∀ l:List Cell,l.Perm cs→l.Pairwise (fun x y=>¬ bH y.at' x.at'<0)→l=ss) :
  CallA Tryz.prog 181 [.one (.own id cs.length),.one (.d (.fn 182 []))] [(id,.row 2 48 (cs.map al))] (.tup []) [(id,.row 2 48 (ss.map al))]:=by
 refine FB QK 2 48 (by omega) Tryz.isAgg56 Tryz.sizeOf56 al (fun _=>rfl) (fun x y=>bH x.at' y.at') (fun x=>by rw[oA];omega) (fun x y z h1 h2=>?_) (fun x y z h1 h2=>?_) 182 SA
  (enters_of Tryz.func182 (by kernel_rfl) rfl) ⟨Tryz.f181,Tryz.func181,by kernel_rfl,by kernel_rfl⟩ id cs ss hu
 ·have:=iI x.at' y.at' z.at' (by omega) (by omega)
  omega
 ·have h3:=jk x.at' y.at'
  have h4:=jk y.at' z.at'
  have h5:=jk x.at' z.at'
  have:=iI z.at' y.at' x.at' (by omega) (by omega)
  omega
theorem QJ(id n:Nat)(cs:List Cell)(rows:List (List D))(hr:rows=cs.map al)(hn:n=cs.length)(hd:cs.Pairwise cE) :
  CallA Tryz.prog 181 [.one (.own id n),.one (.d (.fn 182 []))] [(id,.row 2 48 rows)] (.tup []) [(id,.row 2 48 ((cg cs).map al))]:=by
 subst hr;subst hn
 exact Ss id cs (cg cs) (Hu hd)
theorem Hv{w0:World}{σ0:Sig}{φ0:Pl}{M:Nat→Prop}{n:Nat}{rd:Option Nat}{mk:List Deferred}{ops:Array Oper}{o:Oper}{rest:List Oper}{fr:List (Nat×AV)}{sto:Sto}{K:St→Prop}{d m:Nat}{fop x y:Operand}{ats:Array TypeId}{rows:List (List D)}(id:Nat)(cs:List Cell)
  (ho:o.op=.call { callee:=.value fop,args:=⟨[x,y]⟩,argTypes:=ats }) (hg:o.guard=none) (hdst:o.dst=some d) (hdn:Nat.blt d n=true) (hf:ev ⟨fr,sto⟩ fop=some (.one (.d (.fn 181 [])))) (hx:ev ⟨fr,sto⟩ x=some (.one (.own id m))) (hy:ev ⟨fr,sto⟩ y=some (.one (.d (.fn 182 []))))
  (hl:Abs.look sto id=some (.row 2 48 rows)) (hr:rows=cs.map al) (hn:m=cs.length) (hd:cs.Pairwise cE) (hfr:nF 16 ⟨fr,sto⟩=true)
  (h:aa Tryz.prog ⟨w0,σ0,φ0,M,n,rd,mk⟩ ops rest ⟨(d,.tup [])::fr,cD id (.row 2 48 ((cg cs).map al)) (del id sto)⟩ K):aa Tryz.prog ⟨w0,σ0,φ0,M,n,rd,mk⟩ ops (o::rest) ⟨fr,sto⟩ K:=by
 refine cS 16 [(1000000,id)] (rav':=.tup []) (sto':=cD id (.row 2 48 ((cg cs).map al)) (del id sto)) (QJ 1000000 m cs rows hr hn hd) ho hg hdst hdn hf ?_ ⟨⟨id,rfl,hl⟩,trivial⟩ ⟨fun i e h1 h2=>?_,trivial⟩ rfl hfr rfl rfl h
 ·show evL ⟨fr,sto⟩ [x,y]=_
  simp only[evL,hx,hy]
  rfl
 ·have e1:some id=some i:=h1
  cases e1
  rw[hl] at h2
  cases h2
  refine⟨rfl,rfl,?_⟩
  rw[hr,WZ,WZ,eE]
  exact Xc _
theorem uH{α β:Type}[Inhabited α](f:α→β)(l:List α){k:Nat}(h:k<l.length):((l.take k).map f).take k++[f (at_ l k)]=(l.take (k+1)).map f:=by
 rw[List.take_succ_eq_append_getElem h,XB,WY (by simp;omega)]
 simp[at_,h]
def dE:Option Arr×Int→AV
 | (none,e)=>.tup [(true,[.d .nil,.d .nil,.d .nil]),(false,[.d (.int .i64 e)])]
 | (some a,e)=>.tup [(true,[.d (ai a.dims),.d (ao a.attrs),.d (aC a.cells)]),(false,[.d (.int .i64 e)])]
theorem AO{α β:Type}(f:α→β){l:List α}{k:Nat}(h:l.length≤k):(l.take k).map f=l.map f:=by rw[WY h]
theorem c99(ds:List Dim)(ats:List Attr)(cs:List Cell)(hd:cs.Pairwise cE):CallA Tryz.prog 99 [.one (.d (ai ds)),.one (.d (ao ats)),.one (.d (aC cs))] [] (dE (cn ds ats cs)) []:=by
 refine enter af Tryz.func99 rfl (by decide +kernel) rfl fun hok w0 σ0 φ0 M=>?_
 have h1:=hok.2.2.1.sl;clear hok;simp only[WZ] at h1;replace h1:=h1.1
 by_cases h4:4096<(cs.length:Int)
 ·have hb:decide (4096<((cs.map al).length:Int))=true:=by simpa using h4
  simp only[cn,if_pos h4,dE]
  repeat' (first|refine wG ?_)
  all_goals rfl
 ·have hb:decide (4096<((cs.map al).length:Int))=false:=by simpa using h4
  simp only[cn,if_neg h4,dE]
  repeat' (first|(refine h1H ?_;(refine h0H ?_;first|refine Hv 10 cs J J J J J J J J (hr.trans (AO _ (by first|omega|(simp only[Yi,Yj,WZ] at *;omega)))) (by first|omega|(simp only[Yi,Yj,WZ] at *;omega)) hd J ?_|refine aM 16 J J J J J J J J (c97 _) J J J ?_|refine aM 16 J J J J J J J J (Sv _) J J J ?_))|(refine h2H ?_;refine bm (bq (dl:=[10]) J) (cr ?_))|(refine h4H ?_;(refine h3H ?_;first|refine bz 16 J J J J J J J J (Ox _) J J ?_|refine bz 16 J J J J J J J J (Oy _) J J ?_))|refine wG ?_|(refine h2H ?_;first|refine aj J (fun h=>?_) (fun h=>?_)|refine ep 5 J (jE 1 2 10 (k:=2) (b:=48) J J (by kernel_rfl)) [(6,_),(8,_),(20,_),(21,_)] (q4Q J J J J) (fun (bN:Bool×Bool) (p:Nat×List (List D))=>[(22,.one (.d (.int .i64 (p.1:Int))))]) (fun (bN:Bool×Bool) (p:Nat×List (List D))=>[(1,.box [.d (ai ds),.d (ao ats),.own (nmA bN) p.1]),((nmA bN),.row 2 48 p.2),(0,.box [.d .nil,.d .nil,.d .nil])]) (fun (p:Nat×List (List D))=>p.1≤cs.length∧p.2=(cs.take p.1).map al) (fun (p:Nat×List (List D))=>cs.length-p.1) (0,[]) (q1Q J) wK (fun b y=>by obtain⟨b1,b2⟩:=b;cases b1<;>cases b2<;>first|exact Imp.refl _|exact eu qN (by kernel_rfl)) ?_ (fun p ⟨hk,hr⟩=>?_))|(show Exists _;refine Exists.intro ((p.1+1,p.2.take p.1++[al (at_ cs p.1)])) (Exists.intro (true,false) ⟨?_,?_,wK,(q1Q J),(q4Q J J J J)⟩)))
  ·exact⟨Xk _,rfl⟩
  ·have hlt:p.1<cs.length:=by simpa using h
   exact⟨hlt,by show p.2.take p.1++_=_;rw[hr];exact uH _ _ hlt⟩
  ·have hlt:p.1<cs.length:=by simpa using h
   show cs.length-(p.1+1)<cs.length-p.1
   omega
  ·have hge:cs.length≤p.1:=by simpa using h
   show AV.tup [(true,[.d (ai ds),.d (ao ats),.d (.sl 2 48 (((cg cs).map al).take p.1))]),_]=_
   rw[WY (by simp only[WZ,eE];exact hge)]
   rfl
theorem kU(l:List Dim)(hne:0<l.length):CallA Tryz.prog 97 [.one (.d (ai l))] [] (.one (.own 0 l.length)) [(0,.row 3 32 (l.map ax))]:=by
 refine enter af Tryz.func97 rfl (by decide +kernel) rfl fun hok w0 σ0 φ0 M=>?_
 have h1:=hok.1.sl;clear hok;simp only[WZ] at h1
 repeat' (first|(refine h1H ?_;(refine h5H ?_;refine dz af J J J J J J (fun r hr=>?_)))|(refine h1H ?_;(refine h0H ?_;refine c6 af J J J J J (id:=0) J J J J J J J (by simp only[WZ,Xp];omega) (by simp only[WZ,Xp];omega) ?_))|refine wG ?_|(refine h2H ?_;refine aj J (fun h=>?_) (fun h=>?_)))
 ·have e:=hr (by simpa using h)
  simp only[List.map_eq_nil_iff] at e
  subst e;simp at hne
 ·simp
theorem Sw(ds:List Dim)(xs:List (List D))(at':List Int)(hx:xs=ds.map ax)(hl:at'.length=ds.length):CallA Tryz.prog 98 [.one (.d (.sl 3 32 xs)),.one (.d (ar at'))] [] (.one (.d (.bool (bF ds at')))) []:=by
 subst hx;exact c98 ds at' hl
theorem Sz(ds:List Dim)(ats:List Attr)(cs:List Cell)(xs ys:List (List D))(hd:cs.Pairwise cE)(hx:xs=ds.map ax)(hy:ys=cs.map al):CallA Tryz.prog 99 [.one (.d (.sl 3 32 xs)),.one (.d (ao ats)),.one (.d (.sl 2 48 ys))] [] (dE (cn ds ats cs)) []:=by
 subst hx;subst hy;exact c99 ds ats cs hd
theorem po(ds:List Dim)(ats:List Attr)(cs:List Cell)(xs ys:List (List D))(hd:cs.Pairwise cE)(hf:cs.length≤4096)(hx:xs=ds.map ax)(hy:ys=cs.map al):CallA Tryz.prog 99 [.one (.d (.sl 3 32 xs)),.one (.d (ao ats)),.one (.d (.sl 2 48 ys))] [] (.tup [(true,[.d (ai ds),.d (ao ats),.d (aC (cg cs))]),(false,[.d (.int .i64 0)])]) []:=by
 have h:=Sz ds ats cs xs ys hd hx hy
 unfold cn at h
 rw[if_neg (by omega)] at h
 exact h
def Pn(v:Val):AV:=.agg [.d (.int .i64 v.kind),.d (.int .i64 v.num),.d (.int .i64 v.den),.d (.str v.str)]
def Po(s:Int×Bool):AV:=.agg [.d (.int .i64 s.1),.d (.bool s.2)]
def ib(s:Int×Bool):List D:=[.int .i64 s.1,.bool s.2]
def nI(l:List (Int×Bool)):D:=.sl 2 16 (l.map ib)
def okS(s:Int×Bool)(c:Cell):Prop:=0≤s.1∧(s.2=true→s.1.toNat<c.at'.length)∧(s.2=false→s.1.toNat<c.vals.length)
theorem Pp(n:Int):CallA Tryz.prog 185 [.one (.d (.int .i64 n))] [] (Pn ⟨2,n,1,[]⟩) []:=by
 refine enter af Tryz.func185 rfl (by decide +kernel) rfl fun hok w0 σ0 φ0 M=>?_
 clear hok
 repeat' (first|refine wG ?_)
 all_goals rfl
theorem OJ(s:Int×Bool)(c:Cell)(h:okS s c):CallA Tryz.prog 110 [Po s,.agg [.d (ar c.at'),.d (aY c.vals)]] [] (Pn (ofS s c)) []:=by
 obtain⟨i,b⟩:=s
 obtain⟨h0,h1,h2⟩:=h
 unfold Po
 refine enter af Tryz.func110 rfl (by decide +kernel) rfl fun hok w0 σ0 φ0 M=>?_
 clear hok
 dsimp only at h0 h1 h2
 cases b with
 | true =>
   replace h1:=h1 rfl
   clear h2
   repeat' (first|(refine h1H ?_;(refine h0H ?_;refine ae J J J J J J J J (Pp _) J ?_))|refine wG ?_)
   all_goals rfl
 | false =>
   replace h2:=h2 rfl
   clear h1
   repeat' (first|refine wG ?_)
   all_goals rfl
theorem Pq(a:Arr)(name:List UInt8):CallA Tryz.prog 107 [aO a,.one (.d (.str name))] [] (.tup [(true,[.d (.int .i64 (bO a.dims a.attrs name).1),.d (.bool (bO a.dims a.attrs name).2)]),(false,[.d (.bool (decide (0≤(bO a.dims a.attrs name).1)))])]) []:=by
 unfold aO
 refine enter af Tryz.func107 rfl (by decide +kernel) rfl fun hok w0 σ0 φ0 M=>?_
 clear hok
 by_cases hd:aV a.dims name<0
 ·have hb:decide (0≤aK (fun a:Dim=>a.name==name) a.dims 0)=false:=by
   have h:=hd
   unfold aV at h
   simp;omega
  unfold bO
  rw[if_pos hd]
  repeat' (first|(refine h1H ?_;(refine h0H ?_;first|refine ae J J J J J J J J (nU _ _ _ _) J ?_|refine ae J J J J J J J J (xO _ _ _ _) J ?_))|refine wG ?_)
  all_goals rfl
 ·have hb:decide (0≤aK (fun a:Dim=>a.name==name) a.dims 0)=true:=by
   have h:=hd
   unfold aV at h
   simp;omega
  unfold bO
  rw[if_neg hd]
  have hb':decide (0≤aV a.dims name)=true:=hb
  repeat' (first|(refine h1H ?_;(refine h0H ?_;refine ae J J J J J J J J (nU _ _ _ _) J ?_))|refine wG ?_)
  show _=AV.tup [(true,[.d (.int .i64 (aV a.dims name)),.d (.bool true)]),(false,[.d (.bool (decide (0≤aV a.dims name)))])]
  rw[hb']
  rfl
theorem Bf(x:List Int)(h:x.length≤4):CallA Tryz.prog 111 [.one (.d (ar x))] [] (lS x) []:=by
 refine enter af Tryz.func111 rfl (by decide +kernel) rfl fun hok w0 σ0 φ0 M=>?_
 clear hok
 match x,h with
 | [],_ =>
   repeat' (first|refine wG ?_)
   all_goals rfl
 | [a],_ =>
   repeat' (first|refine wG ?_)
   all_goals rfl
 | [a,b],_ =>
   repeat' (first|refine wG ?_)
   all_goals rfl
 | [a,b,c],_ =>
   repeat' (first|refine wG ?_)
   all_goals rfl
 | [a,b,c,d],_ =>
   repeat' (first|refine wG ?_)
   all_goals rfl
end Go.Proofs.YtpejdgkaapnekaaGreat
namespace Go.Proofs.YtpejdgkaapnekaaGreat
open Go Go.Abs
attribute [local irreducible] aa OkC ak av aq aI OkR tt dp jM xy
set_option maxRecDepth 10000
def gC(li:LI)(fr:List (Nat×AV))(A C:List D)(r:Nat)(l:List Val):Sto :=
 [(1000000,.loop li fr .ready none),(1000001,.box (A.map .d)),(1000002,.box (C.map .d)),(1000003,.box [.own r l.length]),(r,.row 4 40 (l.map aB))]
theorem QD(li:LI)(fr:List (Nat×AV))(A C:List D)(hf:∀ a,iC (gC li fr A C 2000000 a) fr=true):FamW (gC li fr A C 2000000):=by
 refine⟨fun a i e h=>?_,fun a=>?_,fun a=>⟨li,fr,.ready,none,rfl⟩,fun a=>rfl⟩
 ·unfold gC at h
  rcases ah h with⟨rfl,_⟩|⟨_,h⟩
  ·omega
  rcases ah h with⟨rfl,_⟩|⟨_,h⟩
  ·omega
  rcases ah h with⟨rfl,_⟩|⟨_,h⟩
  ·omega
  rcases ah h with⟨rfl,_⟩|⟨_,h⟩
  ·omega
  rcases ah h with⟨rfl,_⟩|⟨_,h⟩
  ·omega
  ·exact nomatch h
 ·show (iC (gC li fr A C 2000000 a) fr&&(fi (gC li fr A C 2000000 a) (A.map .d)&&(fi (gC li fr A C 2000000 a) (C.map .d)&&_)))=true
  rw[hf a,rp,rp];rfl
theorem WU{li:LI}{fr:List (Nat×AV)}{A C:List D}(ds:List Dim)(ats:List Attr)(at':List Int)(vs:List Val)(a:List Val)(x:Scalar)
  (hps:(ka li.n li.params.toList&&Nat.beq li.params.toList.length 1)=true)
  (h:∀ (w0:World) (σ0:Sig) (φ0:Pl) (M:Nat→Prop) (B:Nat),OkC Tryz.prog ⟨w0,σ0,φ0,M,li.n,some B,[]⟩ li.assign ⟨gX li.params.toList [fc x] fr,gC li fr A C 2000000 a⟩
   (jM Tryz.prog 1000000 ⟨w0,σ0,φ0,M,li.n,some B,[]⟩ li.body (.one (.d (.bool (fX ds ats at' vs a x).1))) (gC li fr A C 2000000 (fX ds ats at' vs a x).2))) :
  YieldA Tryz.prog 1000000 [fc x] (gC li fr A C 2000000 a) (.one (.d (.bool (fX ds ats at' vs a x).1))) (gC li fr A C 2000000 (fX ds ats at' vs a x).2) :=
 oM ⟨by omega,by omega⟩ rfl hps h
def WV(i:Nat):Nat:=bif Nat.beq i 2000000 then 5 else i
def WW(i:Nat):Nat:=bif Nat.beq i 1000004 then 2000000 else i
theorem yI{sto:Sto}{li:LI}{fr:List (Nat×AV)}{A C:List D}{l:List Val}{v:Val}{m:Nat}(hm:m≤l.length)(h1:Abs.look sto 1000000=some (.loop li fr .ready none))(h2:Abs.look sto 1000001=some (.box (A.map .d)))(h3:Abs.look sto 1000002=some (.box (C.map .d)))
  (h5:Abs.look sto 1000003=some (.box [.own 2000000 (m+1)])) (h6:Abs.look sto 2000000=some (.row 4 40 ((l.map aB).take m++[aB v]))):SubL sto (gC li fr A C 2000000 (l.take m++[v])):=by
 refine⟨h1,h2,h3,?_,?_,trivial⟩
 ·rw[h5];simp[Nat.min_eq_left hm]
 ·rw[h6];simp[List.map_take]
theorem Ha{sto:Sto}{li:LI}{fr:List (Nat×AV)}{A C:List D}{l:List Val}{v:Val}(h1:Abs.look sto 1000000=some (.loop li fr .ready none))(h2:Abs.look sto 1000001=some (.box (A.map .d)))(h3:Abs.look sto 1000002=some (.box (C.map .d)))
  (h5:Abs.look sto 1000003=some (.box [.own 2000000 (l.length+1)])) (h6:Abs.look sto 2000000=some (.row 4 40 ((l.map aB).take l.length++[aB v]))):SubL sto (gC li fr A C 2000000 (l++[v])):=by
 have:=yI (Xc _) h1 h2 h3 h5 h6
 rwa [XT] at this
set_option maxHeartbeats 4000000 in
theorem Qv(ds:List Dim)(ats:List Attr)(cs:D)(s:Scalar)(at':List Int)(vs:List Val)(hp:gu s=true)(hsz:(bB s).length≤64)(hn:∀ z∈bB s,yh ds ats z)(hat:at'.length=ds.length)(hvs:vs.length=ats.length) :
  CallA Tryz.prog 102 [.agg [.d (ai ds),.d (ao ats),.d cs],fc s,.agg [.d (ar at'),.d (aY vs)]] [] (b0 (iH ds ats at' vs s)) []:=by
 obtain⟨h0,hR⟩:=RF (ds:=ds) (ats:=ats) (at':=at') (vs:=vs) s hp hn [] (by simp;omega)
 refine enter af Tryz.func102 rfl (by decide +kernel) rfl fun hok w0 σ0 φ0 M=>?_
 clear hok
 repeat' (first|(refine h1H ?_;(refine h0H ?_;refine aM 16 J J J J J J J J (Kv _) J J J ?_))|refine wG ?_)
 have hC:=fun li fr hf hY=>Kw (gC li fr [ai ds,ao ats,cs] [ar at',aY vs] 2000000) (QD li fr _ _ hf) (fX ds ats at' vs) (xa ds ats) hY s [] h0
 rw[hR] at hC
 refine Eu (wI 4 5 (k:=4) (b:=40) rfl rfl) ?_
 refine oH (f:=216) (caps:=[.ptr (sE s)]) (rav:=.tup []) [0,2,4,5] 10 rfl rfl rfl rfl (sF WW WV (hC _ _ (fun a=>?_) (fun a x hok=>?_)) rfl rfl rfl rfl rfl rfl rfl) rfl (fun h=>?_) (fun h=>?_)
 ·rfl
 ·obtain⟨hnm,hpx,h64,hargs⟩:=hok
  refine WU ds ats at' vs a x rfl fun w0 σ0 φ0 M B=>?_
  clear hC hR h0
  by_cases h1:x.op=1
  ·have e:fX ds ats at' vs a x=(true,a++[x.val]):=by simp[fX,h1]
   have hb1:(x.op==1)=true:=by simp[h1]
   rw[e]
   repeat' (first|(refine h1H ?_;(refine h0H ?_;refine fV af J J J J J J J J J J J J J (by show List.length a≤100000000;omega) (W6 J) (W6 J) ?_))|refine wG ?_|(show dp _ _ _ _ _;refine gj J ?_ ?_))
   ·rfl
   ·exact Ha (by kernel_rfl) (by kernel_rfl) (by kernel_rfl) (by kernel_rfl) (by kernel_rfl)
  have hb1:(x.op==1)=false:=by simp[h1]
  by_cases h2:x.op=2
  ·have hb2:(x.op==2)=true:=by simp[h2]
   have e:fX ds ats at' vs a x=(true,a++[at_ vs (atI ats x.name).toNat]):=by simp[fX,h2]
   have hr0:=hnm.1 h2
   obtain⟨hr1,hr2⟩:=mr (p:=fun a:Attr=>a.name==x.name) (l:=ats) (k:=0) hr0
   rw[e]
   repeat' (first|(refine h1H ?_;(refine h0H ?_;refine fV af J J J J J J J J J J J J J (by show List.length a≤100000000;omega) (W6 J) (W6 J) ?_))|(refine h4H ?_;(refine h3H ?_;refine d_l J J (bM J J J J J J (xO _ _ _ _) J) ?_))|refine wG ?_|(show dp _ _ _ _ _;refine gj J ?_ ?_))
   ·rfl
   ·exact Ha (by kernel_rfl) (by kernel_rfl) (by kernel_rfl) (by kernel_rfl) (by kernel_rfl)
  have hb2:(x.op==2)=false:=by simp[h2]
  by_cases h3:x.op=3
  ·have hb3:(x.op==3)=true:=by simp[h3]
   have e:fX ds ats at' vs a x=(true,a++[⟨2,at_ at' (ph ds x.name).toNat,1,[]⟩]):=by simp[fX,h3]
   have hr0:=hnm.2 h3
   obtain⟨hr1,hr2⟩:=mr (p:=fun a:Dim=>a.name==x.name) (l:=ds) (k:=0) hr0
   rw[e]
   repeat' (first|(refine h1H ?_;(refine h0H ?_;refine fV af J J J J J J J J J J J J J (by show List.length a≤100000000;omega) (W6 J) (W6 J) ?_))|(refine h4H ?_;(refine h3H ?_;first|refine d_l J J (bM J J J J J J (nU _ _ _ _) J) ?_|refine d_l J J (bM J J J J J J (Pp _) J) ?_))|refine wG ?_|(show dp _ _ _ _ _;refine gj J ?_ ?_))
   ·rfl
   ·exact Ha (by kernel_rfl) (by kernel_rfl) (by kernel_rfl) (by kernel_rfl) (by kernel_rfl)
  have hb3:(x.op==3)=false:=by simp[h3]
  obtain⟨hop,hlen⟩:=oS hpx h1 h2 h3
  have hal:=hargs hop.1
  obtain⟨m,hm⟩:∃ m:Nat,a.length=m+x.args.length:=⟨a.length-x.args.length,by omega⟩
  have hml:a.length-x.args.length=m:=by omega
  have hsub:((a.length:Int)-(x.args.length:Int))=(m:Int):=by omega
  have hC:=WI x.op (a.drop m) hop (by simp;omega)
  have e:fX ds ats at' vs a x=(true,a.take m++[(doF x.op (a.drop m)).1]):=by
   simp only[fX];rw[if_neg h1,if_neg h2,if_neg h3,hml]
  rw[e]
  repeat' (first|refine wG ?_)
  simp only[WZ]
  rw[hsub]
  rcases Yd m with h0|h0
  ·have hC':CallA Tryz.prog 186 [.one (.d (.int .i64 x.op)),.one (.d (.sl 4 40 ((a.map aB).take a.length)))] [] (Cr (doF x.op (a.drop m))) []:=by
    have e1:aY (a.drop m)=.sl 4 40 ((a.map aB).take a.length):=by rw[WY (by simp)];simp[aY,h0]
    rw[e1] at hC;exact hC
   refine d_e envOk rfl rfl rfl (qm rfl rfl rfl (by rw[h0];rfl) rfl rfl (by simp)) ?_
   refine tE [2000000] rfl rfl rfl rfl rfl rfl rfl rfl rfl hC' rfl ?_
   repeat' (first|refine wG ?_)
   refine s_e envOk rfl rfl rfl (gi rfl rfl rfl rfl rfl rfl (by omega) (by show Int.toNat (m:Int)≤List.length a;omega) (by simp)) ?_
   repeat' (first|(refine h1H ?_;(refine h0H ?_;refine fV af J J J J J J J J J J J J J (by show Int.toNat (m:Int)≤100000000;omega) (W6 J) (W6 J) ?_))|refine wG ?_|(show dp _ _ _ _ _;refine gj J ?_ ?_))
   ·rfl
   ·exact yI (by omega) (by kernel_rfl) (by kernel_rfl) (by kernel_rfl) (by kernel_rfl) (by kernel_rfl)
  ·have hC':CallA Tryz.prog 186 [.one (.d (.int .i64 x.op)),.one (.d (.sl 4 40 (((a.map aB).drop m).take (a.length-m))))] [] (Cr (doF x.op (a.drop m))) []:=by
    have e1:aY (a.drop m)=.sl 4 40 (((a.map aB).drop m).take (a.length-m)):=by
     rw[WY (by simp)];simp[aY,List.map_drop]
    rw[e1] at hC;exact hC
   refine d_e envOk rfl rfl rfl (rV rfl rfl rfl rfl rfl rfl (by omega) (by show Int.toNat (m:Int)≤List.length a;omega) (by simp)) ?_
   refine tE [2000000] rfl rfl rfl rfl rfl rfl rfl rfl rfl hC' rfl ?_
   repeat' (first|refine wG ?_)
   refine s_e envOk rfl rfl rfl (gi rfl rfl rfl rfl rfl rfl (by omega) (by show Int.toNat (m:Int)≤List.length a;omega) (by simp)) ?_
   repeat' (first|(refine h1H ?_;(refine h0H ?_;refine fV af J J J J J J J J J J J J J (by show Int.toNat (m:Int)≤100000000;omega) (W6 J) (W6 J) ?_))|refine wG ?_|(show dp _ _ _ _ _;refine gj J ?_ ?_))
   ·rfl
   ·exact yI (by omega) (by kernel_rfl) (by kernel_rfl) (by kernel_rfl) (by kernel_rfl) (by kernel_rfl)
 ·rintro ⟨w1,σ1,φ1,M1,n1,rd1,mk1⟩ ⟨hn1,hrd,_⟩
  dsimp only at hn1 hrd
  subst hn1 hrd
  clear hC hR h0
  refine bm (lT (f':=[(6,.one (.ref 3 0)),(7,.one (.ref 4 0))]) (s':=[(3,.box [.d (.int .i64 0),.d (.int .i64 0),.d (.int .i64 0),.d (.str [])]),(4,.box [.own 16 1]),(16,.row 4 40 [aB (iH ds ats at' vs s)])]) (ab (by kernel_rfl) (ab (by kernel_rfl) aW)) (ab (by kernel_rfl) (ab (by kernel_rfl) (ab (by kernel_rfl) aW)))) ?_
  repeat' (first|(refine h1H ?_;(refine h9H ?_;refine s_e envOk J J J (cz J J J J J J) ?_))|refine wG ?_)
  rfl
 ·exact absurd h (by simp[gC])
end Go.Proofs.YtpejdgkaapnekaaGreat
namespace Go.Proofs.YtpejdgkaapnekaaGreat
open Go Go.Abs
attribute [local irreducible] aa OkC ak av aq aI
set_option maxRecDepth 10000
end Go.Proofs.YtpejdgkaapnekaaGreat
