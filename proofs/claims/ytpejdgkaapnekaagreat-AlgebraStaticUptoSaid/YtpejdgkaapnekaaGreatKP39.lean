import Derived.Test.YtpejdgkaapnekaaGreatKP15
import Derived.Test.YtpejdgkaapnekaaGreatKP38
set_option linter.unusedVariables false
set_option linter.unusedSimpArgs false
set_option maxHeartbeats 1000000
namespace Go.Proofs.YtpejdgkaapnekaaGreat
open Go Go.Abs
open Go.ChangeShapes Go.WideShapes Go.ChangeAt Go.RowKit
set_option maxRecDepth 100000 in
theorem wu(H:Type)(en:TypeId×Value→H)(W:World)(base:Nat)(args:Array Value)(ds gs:List (DataW H))(before:List MemPlace)
  (hval:∀ (j:Nat) t v,Tryz.f17.params[j]?=some t→args[j]?=some v→Value.okWide Tryz.prog W .any base t v)
  (hW:DataW.Whole en Tryz.prog Tryz.f17.params.toList Rows.algebraStaticSpec.vars false W args.toList ds gs before) (hk:Rows.uptoSmall H (ds++gs)=true) :
  Calls Tryz.prog 17 args W fun e W'=>∃ v,e=.returned v∧Rows.algebraStaticSpec.post en Tryz.prog Tryz.f17 false true false false W args v W':=by
 have hW':=hW
 obtain⟨p,q,hA0,hV,rfl,hfz,hnd⟩:=hW
 have hA:DataW.TrodAll en Tryz.prog W 0 (fun _=>true) true Tryz.f17.params.toList args.toList ds p:=hA0
 rw[Tryz.params17] at hA hval
 obtain⟨v0,vs0,d0,ds0,p0,q0,hargs,rfl,rfl,h0,r0⟩:=trodAll_cons hA
 obtain⟨v1,vs1,d1,ds1,p1,q1,rfl,rfl,rfl,h1,r1⟩:=trodAll_cons r0
 obtain⟨v2,vs2,d2,ds2,p2,q2,rfl,rfl,rfl,h2,r2⟩:=trodAll_cons r1
 obtain⟨v3,vs3,d3,ds3,p3,q3,rfl,rfl,rfl,h3,r3⟩:=trodAll_cons r2
 obtain⟨v4,vs4,d4,ds4,p4,q4,rfl,rfl,rfl,h4,r4⟩:=trodAll_cons r3
 obtain⟨v5,vs5,d5,ds5,p5,q5,rfl,rfl,rfl,h5,r5⟩:=trodAll_cons r4
 obtain⟨v6,vs6,d6,ds6,p6,q6,rfl,rfl,rfl,h6,r6⟩:=trodAll_cons r5
 obtain⟨rfl,rfl,rfl⟩:=trodAll_nil r6
 obtain rfl:args=#[v0,v1,v2,v3,v4,v5,v6]:=by cases args;simp_all
 obtain⟨rfl,rfl⟩:=trodVars_none hV
 obtain⟨cs0,rfl⟩:=q8 Tryz.underlying26 (hval 0 26 v0 rfl rfl)
 obtain⟨cs1,rfl⟩:=q8 Tryz.underlying26 (hval 1 26 v1 rfl rfl)
 obtain⟨s2,l2,cq2,rfl⟩:=okWide_slice Tryz.underlying37 (hval 2 37 v2 rfl rfl)
 obtain⟨s3,l3,cq3,rfl⟩:=okWide_slice Tryz.underlying37 (hval 3 37 v3 rfl rfl)
 obtain⟨cs4,rfl⟩:=q8 Tryz.underlying31 (hval 4 31 v4 rfl rfl)
 obtain⟨s5,l5,cq5,rfl⟩:=okWide_slice Tryz.underlying45 (hval 5 45 v5 rfl rfl)
 obtain⟨s6,l6,cq6,rfl⟩:=okWide_slice Tryz.underlying22 (hval 6 22 v6 rfl rfl)
 have hbk:(Rows.uptoBulk d0+(Rows.uptoBulk d1+(Rows.uptoBulk d2+(Rows.uptoBulk d3+(Rows.uptoBulk d4+(Rows.uptoBulk d5+(Rows.uptoBulk d6)))))))≤1048576:=by
  simpa[Rows.uptoSmall,Rows.uptoBulkAll] using hk
 obtain⟨f0,h0⟩:=h0
 obtain⟨f1,h1⟩:=h1
 obtain⟨f2,h2⟩:=h2
 obtain⟨f3,h3⟩:=h3
 obtain⟨f4,h4⟩:=h4
 obtain⟨f5,h5⟩:=h5
 obtain⟨f6,h6⟩:=h6
 obtain⟨a0,hl0,ha0⟩:=H0 (N:=1048571) (by omega) f0 _ _ h0 (by show Rows.uptoBulk d0≤_;omega)
 obtain⟨a1,hl1,ha1⟩:=H0 (N:=1048571) (by omega) f1 _ _ h1 (by show Rows.uptoBulk d1≤_;omega)
 obtain⟨a2,hl2,ha2⟩:=gK (f:=aA) (N:=1048575) (k:=1) (b:=8) (by omega) (by omega) (by omega) Tryz.underlying37 mR (ke Tryz.underlying3) f2 _ _ h2 (by show Rows.uptoBulk d2≤_;omega)
 obtain⟨a3,hl3,ha3⟩:=gK (f:=aA) (N:=1048575) (k:=1) (b:=8) (by omega) (by omega) (by omega) Tryz.underlying37 mR (ke Tryz.underlying3) f3 _ _ h3 (by show Rows.uptoBulk d3≤_;omega)
 obtain⟨a4,hl4,ha4⟩:=H5 1048576 (by omega) f4 _ _ h4 (by show Rows.uptoBulk d4≤_;omega)
 rw[xJ] at ha4
 obtain⟨a5,hl5,ha5⟩:=gK (f:=bX) (N:=1048575) (k:=1) (b:=16) (by omega) (by omega) (by omega) Tryz.underlying45 sr (su (by omega) Tryz.underlying9) f5 _ _ h5 (by show Rows.uptoBulk d5≤_;omega)
 obtain⟨a6,hl6,ha6⟩:=gK (f:=ax) (N:=1048575) (k:=3) (b:=32) (by omega) (by omega) (by omega) Tryz.underlying22 xK (H6 (by omega)) f6 _ _ h6 (by show Rows.uptoBulk d6≤_;omega)
 refine ((c17 a0 a1 a2 a3 a4 a5 a6).run W (sg W) (fun _=>none) [.agg cs0.toArray,.agg cs1.toArray,.slice s2 l2 cq2,.slice s3 l3 cq3,.agg cs4.toArray,.slice s5 l5 cq5,.slice s6 l6 cq6] (O6 _) ⟨⟨cs0,rfl,mK ha0⟩,⟨cs1,rfl,mK ha1⟩,RepC.d ha2.1,RepC.d ha3.1,⟨cs4,rfl,mK ha4⟩,RepC.d ha5.1,RepC.d ha6.1,trivial⟩).mono fun e W' ⟨v,σ',φ',he,hret⟩=>?_
 subst he
 have hv:v=.bool true:=by
  have h2:=RepC.d_inv hret.rep
  cases h2;rfl
 subst hv
 have hsame:∀ p∈p0++(p1++(p2++(p3++(p4++(p5++(p6++[])))))),W.sameAt W' p:=fun p hp=>J9 hret.kept (hW'.lt p (by simpa using hp))
 have hAk:=Bt hA0 hsame
 exact⟨_,rfl,_,_,_,[],_,[],hW',trodAll_mk1 (Ka true),DataW.TrodAll.respare To Tp (by
   rw[Tryz.params17]
   intro t ht
   have ht':t=26∨t=26∨t=37∨t=37∨t=31∨t=45∨t=22:=by simpa using ht
   rcases ht' with rfl|rfl|rfl|rfl|rfl|rfl|rfl<;>exact few (by omega)) hAk (fun p hp=>by
    have:=hW'.lt p (by simpa using hp)
    simpa using this),rfl,MQ hret.kept _,fun h=>by cases h⟩
end Go.Proofs.YtpejdgkaapnekaaGreat
