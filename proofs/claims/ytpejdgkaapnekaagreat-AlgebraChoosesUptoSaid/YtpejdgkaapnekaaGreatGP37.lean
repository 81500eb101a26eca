import Derived.Test.YtpejdgkaapnekaaGreatGP36
import Derived.Test.YtpejdgkaapnekaaGreatGP26
import Derived.Test.YtpejdgkaapnekaaGreatGP35
import Derived.Test.YtpejdgkaapnekaaGreatGP18
import Derived.Test.YtpejdgkaapnekaaGreatGP16
import Derived.Test.YtpejdgkaapnekaaGreatGP21
import Derived.Test.YtpejdgkaapnekaaGreatGP25
set_option linter.unusedVariables false
set_option linter.unusedSimpArgs false
set_option linter.unnecessarySimpa false
set_option maxHeartbeats 1000000
namespace Go.Proofs.YtpejdgkaapnekaaGreat
open Go Go.Abs
attribute [local irreducible] ac OkC ao ax ap aJ
set_option maxRecDepth 10000
set_option maxHeartbeats 2000000 in
theorem JF(l : List Val)(hl : l.length = 2) : CallA Tryz.prog 187 [.one (.d (.int .i64 9)),.one (.d (az l))] [] (cI (doF 9 l)) []:=by
 have h228 : CallA Tryz.prog 228 [.one (.d (.int .i64 9))] [] (.one (.d (.int .i64 2))) []:=fq 9
 have hlen : (((l.map ab).length : Int) != 2) = false:=by rw [List.length_map,hl]; rfl
 have hkc:=fu 9 ⟨by omega,by omega⟩ l hl
 have hsc:=fw 9 ⟨by omega,by omega⟩ l hl
 have hx : l.all al = true→kdF 9 l = true→aD l = none→(al (at_ l 0) = true∧(at_ l 0).kind = 2)∧(al (at_ l 1) = true∧(at_ l 1).kind = 2):=fun hr hk hm=>⟨kd1 (op:=0) hr hk hm (by omega),kd1 (op:=0) hr hk hm (by omega)⟩
 all_goals refine enter ae Tryz.func187 rfl (by decide +kernel) rfl fun hok w0 σ0 φ0 M=>?_
 all_goals clear hok
 repeat' (first|(refine h1H ?_; (refine h0H ?_; first|refine aa J J J J J J J J (h228) J ?_|refine aa J J J J J J J J (d9 _) J ?_|refine aa J J J J J J J J (hkc) J ?_|refine aa J J J J J J J J (hsc) J ?_|refine aa J J J J J J J J (B6 9 (cH (at_ l 0)) (cH (at_ l 1)) ⟨by omega,by omega⟩ (NumOk.w (ia (hx (aj hq ‹decide ((k : Int) < ((l.map ab).length : Int)) = false›) (by simpa using ‹(!kdF 9 l) = false›) (ar hq1 h)).1.1 (hx (aj hq ‹decide ((k : Int) < ((l.map ab).length : Int)) = false›) (by simpa using ‹(!kdF 9 l) = false›) (ar hq1 h)).1.2) (ia (hx (aj hq ‹decide ((k : Int) < ((l.map ab).length : Int)) = false›) (by simpa using ‹(!kdF 9 l) = false›) (ar hq1 h)).2.1 (hx (aj hq ‹decide ((k : Int) < ((l.map ab).length : Int)) = false›) (by simpa using ‹(!kdF 9 l) = false›) (ar hq1 h)).2.2)) (fun h=>by omega)) J ?_|refine aw 16 J J J J J J J J (eG (at_ l 0) (hx (aj hq ‹decide ((k : Int) < ((l.map ab).length : Int)) = false›) (by simpa using ‹(!kdF 9 l) = false›) (ar hq1 h)).1.1 (hx (aj hq ‹decide ((k : Int) < ((l.map ab).length : Int)) = false›) (by simpa using ‹(!kdF 9 l) = false›) (ar hq1 h)).1.2) J J J ?_|refine aw 16 J J J J J J J J (eG (at_ l 1) (hx (aj hq ‹decide ((k : Int) < ((l.map ab).length : Int)) = false›) (by simpa using ‹(!kdF 9 l) = false›) (ar hq1 h)).2.1 (hx (aj hq ‹decide ((k : Int) < ((l.map ab).length : Int)) = false›) (by simpa using ‹(!kdF 9 l) = false›) (ar hq1 h)).2.2) J J J ?_))|refine wG ?_|(refine h4H ?_; first|refine ag J (fun h=>?_) (fun h=>?_)|refine aB 4 J [(0,_),(1,_),(4,_)] (q3Q J J J) (fun (k : Nat)=>[(6,.one (.d (.int .i64 (k : Int))))]) (fun (k : Nat)=>k≤l.length∧l.all al = (l.drop k).all al) (fun (k : Nat)=>l.length - k) 0 (q1Q J) ?_ (fun k ⟨hk0,hq⟩=>?_)|refine aB 14 J [(0,_),(1,_),(4,_)] (q3Q J J J) (fun (j : Nat)=>[(9,.one (.d (.int .i64 (j : Int))))]) (fun (j : Nat)=>j≤l.length∧aD l = aD (l.drop j)) (fun (j : Nat)=>l.length - j) 0 (q1Q J) ?_ (fun j ⟨hk1,hq1⟩=>?_))|(show Exists _; first|refine Exists.intro (j + 1) ⟨?_,?_,wK,(q1Q J),(q3Q J J J)⟩|refine Exists.intro (k + 1) ⟨?_,?_,wK,(q1Q J),(q3Q J J J)⟩))
 all_goals first
  | exact ⟨Nat.zero_le _,rfl⟩
  | exact fS (dM hq (by simpa using ‹decide ((k : Int) < ((l.map ab).length : Int)) = true›) (by rw [← ne2]; exact h))
  | (have hlt : k < l.length:=by simpa using ‹decide ((k : Int) < ((l.map ab).length : Int)) = true›
     exact ⟨hlt,dN hq hlt (by rw [← ne2]; exact h)⟩)
  | (have hlt : k < l.length:=by simpa using ‹decide ((k : Int) < ((l.map ab).length : Int)) = true›
     show l.length - (k + 1) < l.length - k
     omega)
  | exact fT (aj hq ‹decide ((k : Int) < ((l.map ab).length : Int)) = false›) h
  | exact ey (rv:=vP3 (arW 9 (cH (at_ l 0)) (cH (at_ l 1)))) (aj hq ‹decide ((k : Int) < ((l.map ab).length : Int)) = false›) ‹(!kdF 9 l) = false› (.inr (ar hq1 h)) rfl
  | exact iZ (aj hq ‹decide ((k : Int) < ((l.map ab).length : Int)) = false›) ‹(!kdF 9 l) = false› rfl hq1 (by simpa using ‹decide ((j : Int) < ((l.map ab).length : Int)) = true›) h
  | (have hlt : j < l.length:=by simpa using ‹decide ((j : Int) < ((l.map ab).length : Int)) = true›
     exact ⟨hlt,hq1.trans (cA hlt h)⟩)
  | (have hlt : j < l.length:=by simpa using ‹decide ((j : Int) < ((l.map ab).length : Int)) = true›
     show l.length - (j + 1) < l.length - j
     omega)
  | skip
set_option maxHeartbeats 2000000 in
theorem HO(l : List Val)(hl : l.length = 2) : CallA Tryz.prog 187 [.one (.d (.int .i64 10)),.one (.d (az l))] [] (cI (doF 10 l)) []:=by
 have h228 : CallA Tryz.prog 228 [.one (.d (.int .i64 10))] [] (.one (.d (.int .i64 2))) []:=fq 10
 have hlen : (((l.map ab).length : Int) != 2) = false:=by rw [List.length_map,hl]; rfl
 have hkc:=fu 10 ⟨by omega,by omega⟩ l hl
 have hsc:=fw 10 ⟨by omega,by omega⟩ l hl
 have hx : l.all al = true→kdF 10 l = true→aD l = none→(al (at_ l 0) = true∧(at_ l 0).kind = 2)∧(al (at_ l 1) = true∧(at_ l 1).kind = 2):=fun hr hk hm=>⟨kd1 (op:=0) hr hk hm (by omega),kd1 (op:=0) hr hk hm (by omega)⟩
 all_goals refine enter ae Tryz.func187 rfl (by decide +kernel) rfl fun hok w0 σ0 φ0 M=>?_
 all_goals clear hok
 repeat' (first|(refine h1H ?_; (refine h0H ?_; first|refine aa J J J J J J J J (h228) J ?_|refine aa J J J J J J J J (d9 _) J ?_|refine aa J J J J J J J J (hkc) J ?_|refine aa J J J J J J J J (hsc) J ?_|refine aa J J J J J J J J (B6 10 (cH (at_ l 0)) (cH (at_ l 1)) ⟨by omega,by omega⟩ (NumOk.w (ia (hx (aj hq ‹decide ((k : Int) < ((l.map ab).length : Int)) = false›) (by simpa using ‹(!kdF 10 l) = false›) (ar hq1 h)).1.1 (hx (aj hq ‹decide ((k : Int) < ((l.map ab).length : Int)) = false›) (by simpa using ‹(!kdF 10 l) = false›) (ar hq1 h)).1.2) (ia (hx (aj hq ‹decide ((k : Int) < ((l.map ab).length : Int)) = false›) (by simpa using ‹(!kdF 10 l) = false›) (ar hq1 h)).2.1 (hx (aj hq ‹decide ((k : Int) < ((l.map ab).length : Int)) = false›) (by simpa using ‹(!kdF 10 l) = false›) (ar hq1 h)).2.2)) (fun h=>by omega)) J ?_|refine aw 16 J J J J J J J J (eG (at_ l 0) (hx (aj hq ‹decide ((k : Int) < ((l.map ab).length : Int)) = false›) (by simpa using ‹(!kdF 10 l) = false›) (ar hq1 h)).1.1 (hx (aj hq ‹decide ((k : Int) < ((l.map ab).length : Int)) = false›) (by simpa using ‹(!kdF 10 l) = false›) (ar hq1 h)).1.2) J J J ?_|refine aw 16 J J J J J J J J (eG (at_ l 1) (hx (aj hq ‹decide ((k : Int) < ((l.map ab).length : Int)) = false›) (by simpa using ‹(!kdF 10 l) = false›) (ar hq1 h)).2.1 (hx (aj hq ‹decide ((k : Int) < ((l.map ab).length : Int)) = false›) (by simpa using ‹(!kdF 10 l) = false›) (ar hq1 h)).2.2) J J J ?_))|refine wG ?_|(refine h4H ?_; first|refine ag J (fun h=>?_) (fun h=>?_)|refine aB 4 J [(0,_),(1,_),(4,_)] (q3Q J J J) (fun (k : Nat)=>[(6,.one (.d (.int .i64 (k : Int))))]) (fun (k : Nat)=>k≤l.length∧l.all al = (l.drop k).all al) (fun (k : Nat)=>l.length - k) 0 (q1Q J) ?_ (fun k ⟨hk0,hq⟩=>?_)|refine aB 14 J [(0,_),(1,_),(4,_)] (q3Q J J J) (fun (j : Nat)=>[(9,.one (.d (.int .i64 (j : Int))))]) (fun (j : Nat)=>j≤l.length∧aD l = aD (l.drop j)) (fun (j : Nat)=>l.length - j) 0 (q1Q J) ?_ (fun j ⟨hk1,hq1⟩=>?_))|(show Exists _; first|refine Exists.intro (j + 1) ⟨?_,?_,wK,(q1Q J),(q3Q J J J)⟩|refine Exists.intro (k + 1) ⟨?_,?_,wK,(q1Q J),(q3Q J J J)⟩))
 all_goals first
  | exact ⟨Nat.zero_le _,rfl⟩
  | exact fS (dM hq (by simpa using ‹decide ((k : Int) < ((l.map ab).length : Int)) = true›) (by rw [← ne2]; exact h))
  | (have hlt : k < l.length:=by simpa using ‹decide ((k : Int) < ((l.map ab).length : Int)) = true›
     exact ⟨hlt,dN hq hlt (by rw [← ne2]; exact h)⟩)
  | (have hlt : k < l.length:=by simpa using ‹decide ((k : Int) < ((l.map ab).length : Int)) = true›
     show l.length - (k + 1) < l.length - k
     omega)
  | exact fT (aj hq ‹decide ((k : Int) < ((l.map ab).length : Int)) = false›) h
  | exact ey (rv:=vP3 (arW 10 (cH (at_ l 0)) (cH (at_ l 1)))) (aj hq ‹decide ((k : Int) < ((l.map ab).length : Int)) = false›) ‹(!kdF 10 l) = false› (.inr (ar hq1 h)) rfl
  | exact iZ (aj hq ‹decide ((k : Int) < ((l.map ab).length : Int)) = false›) ‹(!kdF 10 l) = false› rfl hq1 (by simpa using ‹decide ((j : Int) < ((l.map ab).length : Int)) = true›) h
  | (have hlt : j < l.length:=by simpa using ‹decide ((j : Int) < ((l.map ab).length : Int)) = true›
     exact ⟨hlt,hq1.trans (cA hlt h)⟩)
  | (have hlt : j < l.length:=by simpa using ‹decide ((j : Int) < ((l.map ab).length : Int)) = true›
     show l.length - (j + 1) < l.length - j
     omega)
  | skip
set_option maxHeartbeats 2000000 in
theorem HP(l : List Val)(hl : l.length = 2) : CallA Tryz.prog 187 [.one (.d (.int .i64 11)),.one (.d (az l))] [] (cI (doF 11 l)) []:=by
 have h228 : CallA Tryz.prog 228 [.one (.d (.int .i64 11))] [] (.one (.d (.int .i64 2))) []:=fq 11
 have hlen : (((l.map ab).length : Int) != 2) = false:=by rw [List.length_map,hl]; rfl
 have hkc:=fu 11 ⟨by omega,by omega⟩ l hl
 have hsc:=fw 11 ⟨by omega,by omega⟩ l hl
 have hx : l.all al = true→kdF 11 l = true→aD l = none→(al (at_ l 0) = true∧(at_ l 0).kind = 2)∧(al (at_ l 1) = true∧(at_ l 1).kind = 2):=fun hr hk hm=>⟨kd1 (op:=0) hr hk hm (by omega),kd1 (op:=0) hr hk hm (by omega)⟩
 all_goals refine enter ae Tryz.func187 rfl (by decide +kernel) rfl fun hok w0 σ0 φ0 M=>?_
 all_goals clear hok
 repeat' (first|(refine h1H ?_; (refine h0H ?_; first|refine aa J J J J J J J J (h228) J ?_|refine aa J J J J J J J J (d9 _) J ?_|refine aa J J J J J J J J (hkc) J ?_|refine aa J J J J J J J J (hsc) J ?_|refine aa J J J J J J J J (B6 11 (cH (at_ l 0)) (cH (at_ l 1)) ⟨by omega,by omega⟩ (NumOk.w (ia (hx (aj hq ‹decide ((k : Int) < ((l.map ab).length : Int)) = false›) (by simpa using ‹(!kdF 11 l) = false›) (ar hq1 h)).1.1 (hx (aj hq ‹decide ((k : Int) < ((l.map ab).length : Int)) = false›) (by simpa using ‹(!kdF 11 l) = false›) (ar hq1 h)).1.2) (ia (hx (aj hq ‹decide ((k : Int) < ((l.map ab).length : Int)) = false›) (by simpa using ‹(!kdF 11 l) = false›) (ar hq1 h)).2.1 (hx (aj hq ‹decide ((k : Int) < ((l.map ab).length : Int)) = false›) (by simpa using ‹(!kdF 11 l) = false›) (ar hq1 h)).2.2)) (fun h=>by omega)) J ?_|refine aw 16 J J J J J J J J (eG (at_ l 0) (hx (aj hq ‹decide ((k : Int) < ((l.map ab).length : Int)) = false›) (by simpa using ‹(!kdF 11 l) = false›) (ar hq1 h)).1.1 (hx (aj hq ‹decide ((k : Int) < ((l.map ab).length : Int)) = false›) (by simpa using ‹(!kdF 11 l) = false›) (ar hq1 h)).1.2) J J J ?_|refine aw 16 J J J J J J J J (eG (at_ l 1) (hx (aj hq ‹decide ((k : Int) < ((l.map ab).length : Int)) = false›) (by simpa using ‹(!kdF 11 l) = false›) (ar hq1 h)).2.1 (hx (aj hq ‹decide ((k : Int) < ((l.map ab).length : Int)) = false›) (by simpa using ‹(!kdF 11 l) = false›) (ar hq1 h)).2.2) J J J ?_))|refine wG ?_|(refine h4H ?_; first|refine ag J (fun h=>?_) (fun h=>?_)|refine aB 4 J [(0,_),(1,_),(4,_)] (q3Q J J J) (fun (k : Nat)=>[(6,.one (.d (.int .i64 (k : Int))))]) (fun (k : Nat)=>k≤l.length∧l.all al = (l.drop k).all al) (fun (k : Nat)=>l.length - k) 0 (q1Q J) ?_ (fun k ⟨hk0,hq⟩=>?_)|refine aB 14 J [(0,_),(1,_),(4,_)] (q3Q J J J) (fun (j : Nat)=>[(9,.one (.d (.int .i64 (j : Int))))]) (fun (j : Nat)=>j≤l.length∧aD l = aD (l.drop j)) (fun (j : Nat)=>l.length - j) 0 (q1Q J) ?_ (fun j ⟨hk1,hq1⟩=>?_))|(show Exists _; first|refine Exists.intro (j + 1) ⟨?_,?_,wK,(q1Q J),(q3Q J J J)⟩|refine Exists.intro (k + 1) ⟨?_,?_,wK,(q1Q J),(q3Q J J J)⟩))
 all_goals first
  | exact ⟨Nat.zero_le _,rfl⟩
  | exact fS (dM hq (by simpa using ‹decide ((k : Int) < ((l.map ab).length : Int)) = true›) (by rw [← ne2]; exact h))
  | (have hlt : k < l.length:=by simpa using ‹decide ((k : Int) < ((l.map ab).length : Int)) = true›
     exact ⟨hlt,dN hq hlt (by rw [← ne2]; exact h)⟩)
  | (have hlt : k < l.length:=by simpa using ‹decide ((k : Int) < ((l.map ab).length : Int)) = true›
     show l.length - (k + 1) < l.length - k
     omega)
  | exact fT (aj hq ‹decide ((k : Int) < ((l.map ab).length : Int)) = false›) h
  | exact ey (rv:=vP3 (arW 11 (cH (at_ l 0)) (cH (at_ l 1)))) (aj hq ‹decide ((k : Int) < ((l.map ab).length : Int)) = false›) ‹(!kdF 11 l) = false› (.inr (ar hq1 h)) rfl
  | exact iZ (aj hq ‹decide ((k : Int) < ((l.map ab).length : Int)) = false›) ‹(!kdF 11 l) = false› rfl hq1 (by simpa using ‹decide ((j : Int) < ((l.map ab).length : Int)) = true›) h
  | (have hlt : j < l.length:=by simpa using ‹decide ((j : Int) < ((l.map ab).length : Int)) = true›
     exact ⟨hlt,hq1.trans (cA hlt h)⟩)
  | (have hlt : j < l.length:=by simpa using ‹decide ((j : Int) < ((l.map ab).length : Int)) = true›
     show l.length - (j + 1) < l.length - j
     omega)
  | skip
set_option maxHeartbeats 2000000 in
theorem HQ(l : List Val)(hl : l.length = 2) : CallA Tryz.prog 187 [.one (.d (.int .i64 12)),.one (.d (az l))] [] (cI (doF 12 l)) []:=by
 have h228 : CallA Tryz.prog 228 [.one (.d (.int .i64 12))] [] (.one (.d (.int .i64 2))) []:=fq 12
 have hlen : (((l.map ab).length : Int) != 2) = false:=by rw [List.length_map,hl]; rfl
 have hkc:=fu 12 ⟨by omega,by omega⟩ l hl
 have hsc:=fw 12 ⟨by omega,by omega⟩ l hl
 have hx : l.all al = true→kdF 12 l = true→aD l = none→(al (at_ l 0) = true∧(at_ l 0).kind = 2)∧(al (at_ l 1) = true∧(at_ l 1).kind = 2):=fun hr hk hm=>⟨kd1 (op:=0) hr hk hm (by omega),kd1 (op:=0) hr hk hm (by omega)⟩
 by_cases hz : naV (at_ l 1) = 0
 all_goals refine enter ae Tryz.func187 rfl (by decide +kernel) rfl fun hok w0 σ0 φ0 M=>?_
 all_goals clear hok
 repeat' (first|(refine h1H ?_; (refine h0H ?_; first|refine aa J J J J J J J J (h228) J ?_|refine aa J J J J J J J J (d9 _) J ?_|refine aa J J J J J J J J (hkc) J ?_|refine aa J J J J J J J J (hsc) J ?_|refine aa J J J J J J J J (B6 12 (cH (at_ l 0)) (cH (at_ l 1)) ⟨by omega,by omega⟩ (NumOk.w (ia (hx (aj hq ‹decide ((k : Int) < ((l.map ab).length : Int)) = false›) (by simpa using ‹(!kdF 12 l) = false›) (ar hq1 h)).1.1 (hx (aj hq ‹decide ((k : Int) < ((l.map ab).length : Int)) = false›) (by simpa using ‹(!kdF 12 l) = false›) (ar hq1 h)).1.2) (ia (hx (aj hq ‹decide ((k : Int) < ((l.map ab).length : Int)) = false›) (by simpa using ‹(!kdF 12 l) = false›) (ar hq1 h)).2.1 (hx (aj hq ‹decide ((k : Int) < ((l.map ab).length : Int)) = false›) (by simpa using ‹(!kdF 12 l) = false›) (ar hq1 h)).2.2)) (fun _=>hz)) J ?_|refine aa J J J J J J J J (LA (cH (at_ l 0)) (cH (at_ l 1)) hz) J ?_|refine aw 16 J J J J J J J J (eG (at_ l 0) (hx (aj hq ‹decide ((k : Int) < ((l.map ab).length : Int)) = false›) (by simpa using ‹(!kdF 12 l) = false›) (ar hq1 h)).1.1 (hx (aj hq ‹decide ((k : Int) < ((l.map ab).length : Int)) = false›) (by simpa using ‹(!kdF 12 l) = false›) (ar hq1 h)).1.2) J J J ?_|refine aw 16 J J J J J J J J (eG (at_ l 1) (hx (aj hq ‹decide ((k : Int) < ((l.map ab).length : Int)) = false›) (by simpa using ‹(!kdF 12 l) = false›) (ar hq1 h)).2.1 (hx (aj hq ‹decide ((k : Int) < ((l.map ab).length : Int)) = false›) (by simpa using ‹(!kdF 12 l) = false›) (ar hq1 h)).2.2) J J J ?_))|refine wG ?_|(refine h4H ?_; first|refine ag J (fun h=>?_) (fun h=>?_)|refine aB 4 J [(0,_),(1,_),(4,_)] (q3Q J J J) (fun (k : Nat)=>[(6,.one (.d (.int .i64 (k : Int))))]) (fun (k : Nat)=>k≤l.length∧l.all al = (l.drop k).all al) (fun (k : Nat)=>l.length - k) 0 (q1Q J) ?_ (fun k ⟨hk0,hq⟩=>?_)|refine aB 14 J [(0,_),(1,_),(4,_)] (q3Q J J J) (fun (j : Nat)=>[(9,.one (.d (.int .i64 (j : Int))))]) (fun (j : Nat)=>j≤l.length∧aD l = aD (l.drop j)) (fun (j : Nat)=>l.length - j) 0 (q1Q J) ?_ (fun j ⟨hk1,hq1⟩=>?_))|(show Exists _; first|refine Exists.intro (j + 1) ⟨?_,?_,wK,(q1Q J),(q3Q J J J)⟩|refine Exists.intro (k + 1) ⟨?_,?_,wK,(q1Q J),(q3Q J J J)⟩))
 all_goals first
  | exact ⟨Nat.zero_le _,rfl⟩
  | exact fS (dM hq (by simpa using ‹decide ((k : Int) < ((l.map ab).length : Int)) = true›) (by rw [← ne2]; exact h))
  | (have hlt : k < l.length:=by simpa using ‹decide ((k : Int) < ((l.map ab).length : Int)) = true›
     exact ⟨hlt,dN hq hlt (by rw [← ne2]; exact h)⟩)
  | (have hlt : k < l.length:=by simpa using ‹decide ((k : Int) < ((l.map ab).length : Int)) = true›
     show l.length - (k + 1) < l.length - k
     omega)
  | exact fT (aj hq ‹decide ((k : Int) < ((l.map ab).length : Int)) = false›) h
  | exact ey (rv:=vP3 (arW 12 (cH (at_ l 0)) (cH (at_ l 1)))) (aj hq ‹decide ((k : Int) < ((l.map ab).length : Int)) = false›) ‹(!kdF 12 l) = false› (.inr (ar hq1 h)) (if_neg hz).symm
  | exact ey (rv:=⟨0,3,0,[]⟩) (aj hq ‹decide ((k : Int) < ((l.map ab).length : Int)) = false›) ‹(!kdF 12 l) = false› (.inr (ar hq1 h)) (if_pos hz).symm
  | exact iZ (aj hq ‹decide ((k : Int) < ((l.map ab).length : Int)) = false›) ‹(!kdF 12 l) = false› rfl hq1 (by simpa using ‹decide ((j : Int) < ((l.map ab).length : Int)) = true›) h
  | (have hlt : j < l.length:=by simpa using ‹decide ((j : Int) < ((l.map ab).length : Int)) = true›
     exact ⟨hlt,hq1.trans (cA hlt h)⟩)
  | (have hlt : j < l.length:=by simpa using ‹decide ((j : Int) < ((l.map ab).length : Int)) = true›
     show l.length - (j + 1) < l.length - j
     omega)
  | skip
set_option maxHeartbeats 2000000 in
theorem Hq(l : List Val)(hl : l.length = 2) : CallA Tryz.prog 187 [.one (.d (.int .i64 13)),.one (.d (az l))] [] (cI (doF 13 l)) []:=by
 have h228 : CallA Tryz.prog 228 [.one (.d (.int .i64 13))] [] (.one (.d (.int .i64 2))) []:=fq 13
 have hlen : (((l.map ab).length : Int) != 2) = false:=by rw [List.length_map,hl]; rfl
 have hkc:=fu 13 ⟨by omega,by omega⟩ l hl
 have hsc:=fw 13 ⟨by omega,by omega⟩ l hl
 have hx : l.all al = true→kdF 13 l = true→aD l = none→al (at_ l 0) = true∧al (at_ l 1) = true:=fun hr _ _=>⟨c7 hr (by omega),c7 hr (by omega)⟩
 by_cases hz : (at_ l 0).kind = 2
 all_goals refine enter ae Tryz.func187 rfl (by decide +kernel) rfl fun hok w0 σ0 φ0 M=>?_
 all_goals clear hok
 repeat' (first|(refine h1H ?_; (refine h0H ?_; first|refine aa J J J J J J J J (h228) J ?_|refine aa J J J J J J J J (d9 _) J ?_|refine aa J J J J J J J J (hkc) J ?_|refine aa J J J J J J J J (hsc) J ?_|refine aa J J J J J J J J (ln _ (hx (aj hq ‹decide ((k : Int) < ((l.map ab).length : Int)) = false›) (by simpa using ‹(!kdF 13 l) = false›) (ar hq1 h)).1 hz) J ?_|refine aw 16 J J J J J J J J (eG _ (hx (aj hq ‹decide ((k : Int) < ((l.map ab).length : Int)) = false›) (by simpa using ‹(!kdF 13 l) = false›) (ar hq1 h)).1 hz) J J J ?_))|(refine h3H ?_; (refine h2H ?_; first|refine d_l J J (aA J J J J J J (lc _) J) ?_|refine d_l J J (aA J J J J J J (uh (at_ l 0) (at_ l 1) (hx (aj hq ‹decide ((k : Int) < ((l.map ab).length : Int)) = false›) (by simpa using ‹(!kdF 13 l) = false›) (ar hq1 h)).1 (hx (aj hq ‹decide ((k : Int) < ((l.map ab).length : Int)) = false›) (by simpa using ‹(!kdF 13 l) = false›) (ar hq1 h)).2) J) ?_))|refine wG ?_|(refine h4H ?_; first|refine ag J (fun h=>?_) (fun h=>?_)|refine aB 4 J [(0,_),(1,_),(4,_)] (q3Q J J J) (fun (k : Nat)=>[(6,.one (.d (.int .i64 (k : Int))))]) (fun (k : Nat)=>k≤l.length∧l.all al = (l.drop k).all al) (fun (k : Nat)=>l.length - k) 0 (q1Q J) ?_ (fun k ⟨hk0,hq⟩=>?_)|refine aB 14 J [(0,_),(1,_),(4,_)] (q3Q J J J) (fun (j : Nat)=>[(9,.one (.d (.int .i64 (j : Int))))]) (fun (j : Nat)=>j≤l.length∧aD l = aD (l.drop j)) (fun (j : Nat)=>l.length - j) 0 (q1Q J) ?_ (fun j ⟨hk1,hq1⟩=>?_))|(show Exists _; first|refine Exists.intro (j + 1) ⟨?_,?_,wK,(q1Q J),(q3Q J J J)⟩|refine Exists.intro (k + 1) ⟨?_,?_,wK,(q1Q J),(q3Q J J J)⟩))
 all_goals first
  | exact ⟨Nat.zero_le _,rfl⟩
  | exact fS (dM hq (by simpa using ‹decide ((k : Int) < ((l.map ab).length : Int)) = true›) (by rw [← ne2]; exact h))
  | (have hlt : k < l.length:=by simpa using ‹decide ((k : Int) < ((l.map ab).length : Int)) = true›
     exact ⟨hlt,dN hq hlt (by rw [← ne2]; exact h)⟩)
  | (have hlt : k < l.length:=by simpa using ‹decide ((k : Int) < ((l.map ab).length : Int)) = true›
     show l.length - (k + 1) < l.length - k
     omega)
  | exact fT (aj hq ‹decide ((k : Int) < ((l.map ab).length : Int)) = false›) h
  | exact ey (rv:=ay (rO 13 (gE (at_ l 0) (at_ l 1)))) (aj hq ‹decide ((k : Int) < ((l.map ab).length : Int)) = false›) ‹(!kdF 13 l) = false› (.inr (ar hq1 h)) rfl
  | exact iZ (aj hq ‹decide ((k : Int) < ((l.map ab).length : Int)) = false›) ‹(!kdF 13 l) = false› rfl hq1 (by simpa using ‹decide ((j : Int) < ((l.map ab).length : Int)) = true›) h
  | (have hlt : j < l.length:=by simpa using ‹decide ((j : Int) < ((l.map ab).length : Int)) = true›
     exact ⟨hlt,hq1.trans (cA hlt h)⟩)
  | (have hlt : j < l.length:=by simpa using ‹decide ((j : Int) < ((l.map ab).length : Int)) = true›
     show l.length - (j + 1) < l.length - j
     omega)
  | skip
set_option maxHeartbeats 2000000 in
theorem Hr(l : List Val)(hl : l.length = 2) : CallA Tryz.prog 187 [.one (.d (.int .i64 14)),.one (.d (az l))] [] (cI (doF 14 l)) []:=by
 have h228 : CallA Tryz.prog 228 [.one (.d (.int .i64 14))] [] (.one (.d (.int .i64 2))) []:=fq 14
 have hlen : (((l.map ab).length : Int) != 2) = false:=by rw [List.length_map,hl]; rfl
 have hkc:=fu 14 ⟨by omega,by omega⟩ l hl
 have hsc:=fw 14 ⟨by omega,by omega⟩ l hl
 have hx : l.all al = true→kdF 14 l = true→aD l = none→al (at_ l 0) = true∧al (at_ l 1) = true:=fun hr _ _=>⟨c7 hr (by omega),c7 hr (by omega)⟩
 by_cases hz : (at_ l 0).kind = 2
 all_goals refine enter ae Tryz.func187 rfl (by decide +kernel) rfl fun hok w0 σ0 φ0 M=>?_
 all_goals clear hok
 repeat' (first|(refine h1H ?_; (refine h0H ?_; first|refine aa J J J J J J J J (h228) J ?_|refine aa J J J J J J J J (d9 _) J ?_|refine aa J J J J J J J J (hkc) J ?_|refine aa J J J J J J J J (hsc) J ?_|refine aa J J J J J J J J (ln _ (hx (aj hq ‹decide ((k : Int) < ((l.map ab).length : Int)) = false›) (by simpa using ‹(!kdF 14 l) = false›) (ar hq1 h)).1 hz) J ?_|refine aw 16 J J J J J J J J (eG _ (hx (aj hq ‹decide ((k : Int) < ((l.map ab).length : Int)) = false›) (by simpa using ‹(!kdF 14 l) = false›) (ar hq1 h)).1 hz) J J J ?_))|(refine h3H ?_; (refine h2H ?_; first|refine d_l J J (aA J J J J J J (lc _) J) ?_|refine d_l J J (aA J J J J J J (uh (at_ l 0) (at_ l 1) (hx (aj hq ‹decide ((k : Int) < ((l.map ab).length : Int)) = false›) (by simpa using ‹(!kdF 14 l) = false›) (ar hq1 h)).1 (hx (aj hq ‹decide ((k : Int) < ((l.map ab).length : Int)) = false›) (by simpa using ‹(!kdF 14 l) = false›) (ar hq1 h)).2) J) ?_))|refine wG ?_|(refine h4H ?_; first|refine ag J (fun h=>?_) (fun h=>?_)|refine aB 4 J [(0,_),(1,_),(4,_)] (q3Q J J J) (fun (k : Nat)=>[(6,.one (.d (.int .i64 (k : Int))))]) (fun (k : Nat)=>k≤l.length∧l.all al = (l.drop k).all al) (fun (k : Nat)=>l.length - k) 0 (q1Q J) ?_ (fun k ⟨hk0,hq⟩=>?_)|refine aB 14 J [(0,_),(1,_),(4,_)] (q3Q J J J) (fun (j : Nat)=>[(9,.one (.d (.int .i64 (j : Int))))]) (fun (j : Nat)=>j≤l.length∧aD l = aD (l.drop j)) (fun (j : Nat)=>l.length - j) 0 (q1Q J) ?_ (fun j ⟨hk1,hq1⟩=>?_))|(show Exists _; first|refine Exists.intro (j + 1) ⟨?_,?_,wK,(q1Q J),(q3Q J J J)⟩|refine Exists.intro (k + 1) ⟨?_,?_,wK,(q1Q J),(q3Q J J J)⟩))
 all_goals first
  | exact ⟨Nat.zero_le _,rfl⟩
  | exact fS (dM hq (by simpa using ‹decide ((k : Int) < ((l.map ab).length : Int)) = true›) (by rw [← ne2]; exact h))
  | (have hlt : k < l.length:=by simpa using ‹decide ((k : Int) < ((l.map ab).length : Int)) = true›
     exact ⟨hlt,dN hq hlt (by rw [← ne2]; exact h)⟩)
  | (have hlt : k < l.length:=by simpa using ‹decide ((k : Int) < ((l.map ab).length : Int)) = true›
     show l.length - (k + 1) < l.length - k
     omega)
  | exact fT (aj hq ‹decide ((k : Int) < ((l.map ab).length : Int)) = false›) h
  | exact ey (rv:=ay (rO 14 (gE (at_ l 0) (at_ l 1)))) (aj hq ‹decide ((k : Int) < ((l.map ab).length : Int)) = false›) ‹(!kdF 14 l) = false› (.inr (ar hq1 h)) rfl
  | exact iZ (aj hq ‹decide ((k : Int) < ((l.map ab).length : Int)) = false›) ‹(!kdF 14 l) = false› rfl hq1 (by simpa using ‹decide ((j : Int) < ((l.map ab).length : Int)) = true›) h
  | (have hlt : j < l.length:=by simpa using ‹decide ((j : Int) < ((l.map ab).length : Int)) = true›
     exact ⟨hlt,hq1.trans (cA hlt h)⟩)
  | (have hlt : j < l.length:=by simpa using ‹decide ((j : Int) < ((l.map ab).length : Int)) = true›
     show l.length - (j + 1) < l.length - j
     omega)
  | skip
set_option maxHeartbeats 2000000 in
theorem Hs(l : List Val)(hl : l.length = 2) : CallA Tryz.prog 187 [.one (.d (.int .i64 15)),.one (.d (az l))] [] (cI (doF 15 l)) []:=by
 have h228 : CallA Tryz.prog 228 [.one (.d (.int .i64 15))] [] (.one (.d (.int .i64 2))) []:=fq 15
 have hlen : (((l.map ab).length : Int) != 2) = false:=by rw [List.length_map,hl]; rfl
 have hkc:=fu 15 ⟨by omega,by omega⟩ l hl
 have hsc:=fw 15 ⟨by omega,by omega⟩ l hl
 have hx : l.all al = true→kdF 15 l = true→aD l = none→al (at_ l 0) = true∧al (at_ l 1) = true:=fun hr _ _=>⟨c7 hr (by omega),c7 hr (by omega)⟩
 by_cases hz : (at_ l 0).kind = 2
 all_goals refine enter ae Tryz.func187 rfl (by decide +kernel) rfl fun hok w0 σ0 φ0 M=>?_
 all_goals clear hok
 repeat' (first|(refine h1H ?_; (refine h0H ?_; first|refine aa J J J J J J J J (h228) J ?_|refine aa J J J J J J J J (d9 _) J ?_|refine aa J J J J J J J J (hkc) J ?_|refine aa J J J J J J J J (hsc) J ?_|refine aa J J J J J J J J (ln _ (hx (aj hq ‹decide ((k : Int) < ((l.map ab).length : Int)) = false›) (by simpa using ‹(!kdF 15 l) = false›) (ar hq1 h)).1 hz) J ?_|refine aw 16 J J J J J J J J (eG _ (hx (aj hq ‹decide ((k : Int) < ((l.map ab).length : Int)) = false›) (by simpa using ‹(!kdF 15 l) = false›) (ar hq1 h)).1 hz) J J J ?_))|(refine h3H ?_; (refine h2H ?_; first|refine d_l J J (aA J J J J J J (lc _) J) ?_|refine d_l J J (aA J J J J J J (uh (at_ l 0) (at_ l 1) (hx (aj hq ‹decide ((k : Int) < ((l.map ab).length : Int)) = false›) (by simpa using ‹(!kdF 15 l) = false›) (ar hq1 h)).1 (hx (aj hq ‹decide ((k : Int) < ((l.map ab).length : Int)) = false›) (by simpa using ‹(!kdF 15 l) = false›) (ar hq1 h)).2) J) ?_))|refine wG ?_|(refine h4H ?_; first|refine ag J (fun h=>?_) (fun h=>?_)|refine aB 4 J [(0,_),(1,_),(4,_)] (q3Q J J J) (fun (k : Nat)=>[(6,.one (.d (.int .i64 (k : Int))))]) (fun (k : Nat)=>k≤l.length∧l.all al = (l.drop k).all al) (fun (k : Nat)=>l.length - k) 0 (q1Q J) ?_ (fun k ⟨hk0,hq⟩=>?_)|refine aB 14 J [(0,_),(1,_),(4,_)] (q3Q J J J) (fun (j : Nat)=>[(9,.one (.d (.int .i64 (j : Int))))]) (fun (j : Nat)=>j≤l.length∧aD l = aD (l.drop j)) (fun (j : Nat)=>l.length - j) 0 (q1Q J) ?_ (fun j ⟨hk1,hq1⟩=>?_))|(show Exists _; first|refine Exists.intro (j + 1) ⟨?_,?_,wK,(q1Q J),(q3Q J J J)⟩|refine Exists.intro (k + 1) ⟨?_,?_,wK,(q1Q J),(q3Q J J J)⟩))
 all_goals first
  | exact ⟨Nat.zero_le _,rfl⟩
  | exact fS (dM hq (by simpa using ‹decide ((k : Int) < ((l.map ab).length : Int)) = true›) (by rw [← ne2]; exact h))
  | (have hlt : k < l.length:=by simpa using ‹decide ((k : Int) < ((l.map ab).length : Int)) = true›
     exact ⟨hlt,dN hq hlt (by rw [← ne2]; exact h)⟩)
  | (have hlt : k < l.length:=by simpa using ‹decide ((k : Int) < ((l.map ab).length : Int)) = true›
     show l.length - (k + 1) < l.length - k
     omega)
  | exact fT (aj hq ‹decide ((k : Int) < ((l.map ab).length : Int)) = false›) h
  | exact ey (rv:=ay (rO 15 (gE (at_ l 0) (at_ l 1)))) (aj hq ‹decide ((k : Int) < ((l.map ab).length : Int)) = false›) ‹(!kdF 15 l) = false› (.inr (ar hq1 h)) rfl
  | exact iZ (aj hq ‹decide ((k : Int) < ((l.map ab).length : Int)) = false›) ‹(!kdF 15 l) = false› rfl hq1 (by simpa using ‹decide ((j : Int) < ((l.map ab).length : Int)) = true›) h
  | (have hlt : j < l.length:=by simpa using ‹decide ((j : Int) < ((l.map ab).length : Int)) = true›
     exact ⟨hlt,hq1.trans (cA hlt h)⟩)
  | (have hlt : j < l.length:=by simpa using ‹decide ((j : Int) < ((l.map ab).length : Int)) = true›
     show l.length - (j + 1) < l.length - j
     omega)
  | skip
set_option maxHeartbeats 2000000 in
theorem Ht(l : List Val)(hl : l.length = 2) : CallA Tryz.prog 187 [.one (.d (.int .i64 16)),.one (.d (az l))] [] (cI (doF 16 l)) []:=by
 have h228 : CallA Tryz.prog 228 [.one (.d (.int .i64 16))] [] (.one (.d (.int .i64 2))) []:=fq 16
 have hlen : (((l.map ab).length : Int) != 2) = false:=by rw [List.length_map,hl]; rfl
 have hkc:=fu 16 ⟨by omega,by omega⟩ l hl
 have hsc:=fw 16 ⟨by omega,by omega⟩ l hl
 have hx : l.all al = true→kdF 16 l = true→aD l = none→al (at_ l 0) = true∧al (at_ l 1) = true:=fun hr _ _=>⟨c7 hr (by omega),c7 hr (by omega)⟩
 by_cases hz : (at_ l 0).kind = 2
 all_goals refine enter ae Tryz.func187 rfl (by decide +kernel) rfl fun hok w0 σ0 φ0 M=>?_
 all_goals clear hok
 repeat' (first|(refine h1H ?_; (refine h0H ?_; first|refine aa J J J J J J J J (h228) J ?_|refine aa J J J J J J J J (d9 _) J ?_|refine aa J J J J J J J J (hkc) J ?_|refine aa J J J J J J J J (hsc) J ?_|refine aa J J J J J J J J (ln _ (hx (aj hq ‹decide ((k : Int) < ((l.map ab).length : Int)) = false›) (by simpa using ‹(!kdF 16 l) = false›) (ar hq1 h)).1 hz) J ?_|refine aw 16 J J J J J J J J (eG _ (hx (aj hq ‹decide ((k : Int) < ((l.map ab).length : Int)) = false›) (by simpa using ‹(!kdF 16 l) = false›) (ar hq1 h)).1 hz) J J J ?_))|(refine h3H ?_; (refine h2H ?_; first|refine d_l J J (aA J J J J J J (lc _) J) ?_|refine d_l J J (aA J J J J J J (uh (at_ l 0) (at_ l 1) (hx (aj hq ‹decide ((k : Int) < ((l.map ab).length : Int)) = false›) (by simpa using ‹(!kdF 16 l) = false›) (ar hq1 h)).1 (hx (aj hq ‹decide ((k : Int) < ((l.map ab).length : Int)) = false›) (by simpa using ‹(!kdF 16 l) = false›) (ar hq1 h)).2) J) ?_))|refine wG ?_|(refine h4H ?_; first|refine ag J (fun h=>?_) (fun h=>?_)|refine aB 4 J [(0,_),(1,_),(4,_)] (q3Q J J J) (fun (k : Nat)=>[(6,.one (.d (.int .i64 (k : Int))))]) (fun (k : Nat)=>k≤l.length∧l.all al = (l.drop k).all al) (fun (k : Nat)=>l.length - k) 0 (q1Q J) ?_ (fun k ⟨hk0,hq⟩=>?_)|refine aB 14 J [(0,_),(1,_),(4,_)] (q3Q J J J) (fun (j : Nat)=>[(9,.one (.d (.int .i64 (j : Int))))]) (fun (j : Nat)=>j≤l.length∧aD l = aD (l.drop j)) (fun (j : Nat)=>l.length - j) 0 (q1Q J) ?_ (fun j ⟨hk1,hq1⟩=>?_))|(show Exists _; first|refine Exists.intro (j + 1) ⟨?_,?_,wK,(q1Q J),(q3Q J J J)⟩|refine Exists.intro (k + 1) ⟨?_,?_,wK,(q1Q J),(q3Q J J J)⟩))
 all_goals first
  | exact ⟨Nat.zero_le _,rfl⟩
  | exact fS (dM hq (by simpa using ‹decide ((k : Int) < ((l.map ab).length : Int)) = true›) (by rw [← ne2]; exact h))
  | (have hlt : k < l.length:=by simpa using ‹decide ((k : Int) < ((l.map ab).length : Int)) = true›
     exact ⟨hlt,dN hq hlt (by rw [← ne2]; exact h)⟩)
  | (have hlt : k < l.length:=by simpa using ‹decide ((k : Int) < ((l.map ab).length : Int)) = true›
     show l.length - (k + 1) < l.length - k
     omega)
  | exact fT (aj hq ‹decide ((k : Int) < ((l.map ab).length : Int)) = false›) h
  | exact ey (rv:=ay (rO 16 (gE (at_ l 0) (at_ l 1)))) (aj hq ‹decide ((k : Int) < ((l.map ab).length : Int)) = false›) ‹(!kdF 16 l) = false› (.inr (ar hq1 h)) rfl
  | exact iZ (aj hq ‹decide ((k : Int) < ((l.map ab).length : Int)) = false›) ‹(!kdF 16 l) = false› rfl hq1 (by simpa using ‹decide ((j : Int) < ((l.map ab).length : Int)) = true›) h
  | (have hlt : j < l.length:=by simpa using ‹decide ((j : Int) < ((l.map ab).length : Int)) = true›
     exact ⟨hlt,hq1.trans (cA hlt h)⟩)
  | (have hlt : j < l.length:=by simpa using ‹decide ((j : Int) < ((l.map ab).length : Int)) = true›
     show l.length - (j + 1) < l.length - j
     omega)
  | skip
set_option maxHeartbeats 2000000 in
theorem Hu(l : List Val)(hl : l.length = 2) : CallA Tryz.prog 187 [.one (.d (.int .i64 17)),.one (.d (az l))] [] (cI (doF 17 l)) []:=by
 have h228 : CallA Tryz.prog 228 [.one (.d (.int .i64 17))] [] (.one (.d (.int .i64 2))) []:=fq 17
 have hlen : (((l.map ab).length : Int) != 2) = false:=by rw [List.length_map,hl]; rfl
 have hkc:=fu 17 ⟨by omega,by omega⟩ l hl
 have hsc:=fw 17 ⟨by omega,by omega⟩ l hl
 have hx : l.all al = true→kdF 17 l = true→aD l = none→al (at_ l 0) = true∧al (at_ l 1) = true:=fun hr _ _=>⟨c7 hr (by omega),c7 hr (by omega)⟩
 by_cases hz : (at_ l 0).kind = 2
 all_goals refine enter ae Tryz.func187 rfl (by decide +kernel) rfl fun hok w0 σ0 φ0 M=>?_
 all_goals clear hok
 repeat' (first|(refine h1H ?_; (refine h0H ?_; first|refine aa J J J J J J J J (h228) J ?_|refine aa J J J J J J J J (d9 _) J ?_|refine aa J J J J J J J J (hkc) J ?_|refine aa J J J J J J J J (hsc) J ?_|refine aa J J J J J J J J (ln _ (hx (aj hq ‹decide ((k : Int) < ((l.map ab).length : Int)) = false›) (by simpa using ‹(!kdF 17 l) = false›) (ar hq1 h)).1 hz) J ?_|refine aw 16 J J J J J J J J (eG _ (hx (aj hq ‹decide ((k : Int) < ((l.map ab).length : Int)) = false›) (by simpa using ‹(!kdF 17 l) = false›) (ar hq1 h)).1 hz) J J J ?_))|(refine h3H ?_; (refine h2H ?_; first|refine d_l J J (aA J J J J J J (lc _) J) ?_|refine d_l J J (aA J J J J J J (uh (at_ l 0) (at_ l 1) (hx (aj hq ‹decide ((k : Int) < ((l.map ab).length : Int)) = false›) (by simpa using ‹(!kdF 17 l) = false›) (ar hq1 h)).1 (hx (aj hq ‹decide ((k : Int) < ((l.map ab).length : Int)) = false›) (by simpa using ‹(!kdF 17 l) = false›) (ar hq1 h)).2) J) ?_))|refine wG ?_|(refine h4H ?_; first|refine ag J (fun h=>?_) (fun h=>?_)|refine aB 4 J [(0,_),(1,_),(4,_)] (q3Q J J J) (fun (k : Nat)=>[(6,.one (.d (.int .i64 (k : Int))))]) (fun (k : Nat)=>k≤l.length∧l.all al = (l.drop k).all al) (fun (k : Nat)=>l.length - k) 0 (q1Q J) ?_ (fun k ⟨hk0,hq⟩=>?_)|refine aB 14 J [(0,_),(1,_),(4,_)] (q3Q J J J) (fun (j : Nat)=>[(9,.one (.d (.int .i64 (j : Int))))]) (fun (j : Nat)=>j≤l.length∧aD l = aD (l.drop j)) (fun (j : Nat)=>l.length - j) 0 (q1Q J) ?_ (fun j ⟨hk1,hq1⟩=>?_))|(show Exists _; first|refine Exists.intro (j + 1) ⟨?_,?_,wK,(q1Q J),(q3Q J J J)⟩|refine Exists.intro (k + 1) ⟨?_,?_,wK,(q1Q J),(q3Q J J J)⟩))
 all_goals first
  | exact ⟨Nat.zero_le _,rfl⟩
  | exact fS (dM hq (by simpa using ‹decide ((k : Int) < ((l.map ab).length : Int)) = true›) (by rw [← ne2]; exact h))
  | (have hlt : k < l.length:=by simpa using ‹decide ((k : Int) < ((l.map ab).length : Int)) = true›
     exact ⟨hlt,dN hq hlt (by rw [← ne2]; exact h)⟩)
  | (have hlt : k < l.length:=by simpa using ‹decide ((k : Int) < ((l.map ab).length : Int)) = true›
     show l.length - (k + 1) < l.length - k
     omega)
  | exact fT (aj hq ‹decide ((k : Int) < ((l.map ab).length : Int)) = false›) h
  | exact ey (rv:=ay (rO 17 (gE (at_ l 0) (at_ l 1)))) (aj hq ‹decide ((k : Int) < ((l.map ab).length : Int)) = false›) ‹(!kdF 17 l) = false› (.inr (ar hq1 h)) rfl
  | exact iZ (aj hq ‹decide ((k : Int) < ((l.map ab).length : Int)) = false›) ‹(!kdF 17 l) = false› rfl hq1 (by simpa using ‹decide ((j : Int) < ((l.map ab).length : Int)) = true›) h
  | (have hlt : j < l.length:=by simpa using ‹decide ((j : Int) < ((l.map ab).length : Int)) = true›
     exact ⟨hlt,hq1.trans (cA hlt h)⟩)
  | (have hlt : j < l.length:=by simpa using ‹decide ((j : Int) < ((l.map ab).length : Int)) = true›
     show l.length - (j + 1) < l.length - j
     omega)
  | skip
set_option maxHeartbeats 2000000 in
theorem Hv(l : List Val)(hl : l.length = 2) : CallA Tryz.prog 187 [.one (.d (.int .i64 18)),.one (.d (az l))] [] (cI (doF 18 l)) []:=by
 have h228 : CallA Tryz.prog 228 [.one (.d (.int .i64 18))] [] (.one (.d (.int .i64 2))) []:=fq 18
 have hlen : (((l.map ab).length : Int) != 2) = false:=by rw [List.length_map,hl]; rfl
 have hkc:=fu 18 ⟨by omega,by omega⟩ l hl
 have hsc:=fw 18 ⟨by omega,by omega⟩ l hl
 have hx : l.all al = true→kdF 18 l = true→aD l = none→al (at_ l 0) = true∧al (at_ l 1) = true:=fun hr _ _=>⟨c7 hr (by omega),c7 hr (by omega)⟩
 by_cases hz : (at_ l 0).kind = 2
 all_goals refine enter ae Tryz.func187 rfl (by decide +kernel) rfl fun hok w0 σ0 φ0 M=>?_
 all_goals clear hok
 repeat' (first|(refine h1H ?_; (refine h0H ?_; first|refine aa J J J J J J J J (h228) J ?_|refine aa J J J J J J J J (d9 _) J ?_|refine aa J J J J J J J J (hkc) J ?_|refine aa J J J J J J J J (hsc) J ?_|refine aa J J J J J J J J (ln _ (hx (aj hq ‹decide ((k : Int) < ((l.map ab).length : Int)) = false›) (by simpa using ‹(!kdF 18 l) = false›) (ar hq1 h)).1 hz) J ?_|refine aw 16 J J J J J J J J (eG _ (hx (aj hq ‹decide ((k : Int) < ((l.map ab).length : Int)) = false›) (by simpa using ‹(!kdF 18 l) = false›) (ar hq1 h)).1 hz) J J J ?_))|(refine h3H ?_; (refine h2H ?_; first|refine d_l J J (aA J J J J J J (lc _) J) ?_|refine d_l J J (aA J J J J J J (uh (at_ l 0) (at_ l 1) (hx (aj hq ‹decide ((k : Int) < ((l.map ab).length : Int)) = false›) (by simpa using ‹(!kdF 18 l) = false›) (ar hq1 h)).1 (hx (aj hq ‹decide ((k : Int) < ((l.map ab).length : Int)) = false›) (by simpa using ‹(!kdF 18 l) = false›) (ar hq1 h)).2) J) ?_))|refine wG ?_|(refine h4H ?_; first|refine ag J (fun h=>?_) (fun h=>?_)|refine aB 4 J [(0,_),(1,_),(4,_)] (q3Q J J J) (fun (k : Nat)=>[(6,.one (.d (.int .i64 (k : Int))))]) (fun (k : Nat)=>k≤l.length∧l.all al = (l.drop k).all al) (fun (k : Nat)=>l.length - k) 0 (q1Q J) ?_ (fun k ⟨hk0,hq⟩=>?_)|refine aB 14 J [(0,_),(1,_),(4,_)] (q3Q J J J) (fun (j : Nat)=>[(9,.one (.d (.int .i64 (j : Int))))]) (fun (j : Nat)=>j≤l.length∧aD l = aD (l.drop j)) (fun (j : Nat)=>l.length - j) 0 (q1Q J) ?_ (fun j ⟨hk1,hq1⟩=>?_))|(show Exists _; first|refine Exists.intro (j + 1) ⟨?_,?_,wK,(q1Q J),(q3Q J J J)⟩|refine Exists.intro (k + 1) ⟨?_,?_,wK,(q1Q J),(q3Q J J J)⟩))
 all_goals first
  | exact ⟨Nat.zero_le _,rfl⟩
  | exact fS (dM hq (by simpa using ‹decide ((k : Int) < ((l.map ab).length : Int)) = true›) (by rw [← ne2]; exact h))
  | (have hlt : k < l.length:=by simpa using ‹decide ((k : Int) < ((l.map ab).length : Int)) = true›
     exact ⟨hlt,dN hq hlt (by rw [← ne2]; exact h)⟩)
  | (have hlt : k < l.length:=by simpa using ‹decide ((k : Int) < ((l.map ab).length : Int)) = true›
     show l.length - (k + 1) < l.length - k
     omega)
  | exact fT (aj hq ‹decide ((k : Int) < ((l.map ab).length : Int)) = false›) h
  | exact ey (rv:=ay (rO 18 (gE (at_ l 0) (at_ l 1)))) (aj hq ‹decide ((k : Int) < ((l.map ab).length : Int)) = false›) ‹(!kdF 18 l) = false› (.inr (ar hq1 h)) rfl
  | exact iZ (aj hq ‹decide ((k : Int) < ((l.map ab).length : Int)) = false›) ‹(!kdF 18 l) = false› rfl hq1 (by simpa using ‹decide ((j : Int) < ((l.map ab).length : Int)) = true›) h
  | (have hlt : j < l.length:=by simpa using ‹decide ((j : Int) < ((l.map ab).length : Int)) = true›
     exact ⟨hlt,hq1.trans (cA hlt h)⟩)
  | (have hlt : j < l.length:=by simpa using ‹decide ((j : Int) < ((l.map ab).length : Int)) = true›
     show l.length - (j + 1) < l.length - j
     omega)
  | skip
set_option maxHeartbeats 2000000 in
theorem HG(l : List Val)(hl : l.length = 2) : CallA Tryz.prog 187 [.one (.d (.int .i64 19)),.one (.d (az l))] [] (cI (doF 19 l)) []:=by
 have h228 : CallA Tryz.prog 228 [.one (.d (.int .i64 19))] [] (.one (.d (.int .i64 2))) []:=fq 19
 have hlen : (((l.map ab).length : Int) != 2) = false:=by rw [List.length_map,hl]; rfl
 have hkc:=fu 19 ⟨by omega,by omega⟩ l hl
 have hsc:=fw 19 ⟨by omega,by omega⟩ l hl
 have hx : l.all al = true→kdF 19 l = true→aD l = none→al (at_ l 0) = true∧(at_ l 0).kind = 1:=fun hr hk hm=>kd1 (op:=0) hr hk hm (by omega)
 all_goals refine enter ae Tryz.func187 rfl (by decide +kernel) rfl fun hok w0 σ0 φ0 M=>?_
 all_goals clear hok
 repeat' (first|(refine h1H ?_; (refine h0H ?_; first|refine aa J J J J J J J J (h228) J ?_|refine aa J J J J J J J J (d9 _) J ?_|refine aa J J J J J J J J (hkc) J ?_|refine aa J J J J J J J J (hsc) J ?_|refine aa J J J J J J J J (lc _) J ?_|refine aa J J J J J J J J (ln _ (hx (aj hq ‹decide ((k : Int) < ((l.map ab).length : Int)) = false›) (by simpa using ‹(!kdF 19 l) = false›) (ar hq1 h)).1 (xT (hx (aj hq ‹decide ((k : Int) < ((l.map ab).length : Int)) = false›) (by simpa using ‹(!kdF 19 l) = false›) (ar hq1 h)).2)) J ?_))|refine wG ?_|(refine h4H ?_; first|refine ag J (fun h=>?_) (fun h=>?_)|refine aB 4 J [(0,_),(1,_),(4,_)] (q3Q J J J) (fun (k : Nat)=>[(6,.one (.d (.int .i64 (k : Int))))]) (fun (k : Nat)=>k≤l.length∧l.all al = (l.drop k).all al) (fun (k : Nat)=>l.length - k) 0 (q1Q J) ?_ (fun k ⟨hk0,hq⟩=>?_)|refine aB 14 J [(0,_),(1,_),(4,_)] (q3Q J J J) (fun (j : Nat)=>[(9,.one (.d (.int .i64 (j : Int))))]) (fun (j : Nat)=>j≤l.length∧aD l = aD (l.drop j)) (fun (j : Nat)=>l.length - j) 0 (q1Q J) ?_ (fun j ⟨hk1,hq1⟩=>?_))|(show Exists _; first|refine Exists.intro (j + 1) ⟨?_,?_,wK,(q1Q J),(q3Q J J J)⟩|refine Exists.intro (k + 1) ⟨?_,?_,wK,(q1Q J),(q3Q J J J)⟩))
 all_goals first
  | exact ⟨Nat.zero_le _,rfl⟩
  | exact fS (dM hq (by simpa using ‹decide ((k : Int) < ((l.map ab).length : Int)) = true›) (by rw [← ne2]; exact h))
  | (have hlt : k < l.length:=by simpa using ‹decide ((k : Int) < ((l.map ab).length : Int)) = true›
     exact ⟨hlt,dN hq hlt (by rw [← ne2]; exact h)⟩)
  | (have hlt : k < l.length:=by simpa using ‹decide ((k : Int) < ((l.map ab).length : Int)) = true›
     show l.length - (k + 1) < l.length - k
     omega)
  | exact fT (aj hq ‹decide ((k : Int) < ((l.map ab).length : Int)) = false›) h
  | exact ey (rv:=ay false) (aj hq ‹decide ((k : Int) < ((l.map ab).length : Int)) = false›) ‹(!kdF 19 l) = false› (.inl rfl) (xU h)
  | exact DS (b:=false) (by simp) (aj hq ‹decide ((k : Int) < ((l.map ab).length : Int)) = false›) ‹(!kdF 19 l) = false› ‹(br (at_ l 0) (ay false) || br (at_ l 1) (ay false)) = false› hq1 (by simpa using ‹decide ((j : Int) < ((l.map ab).length : Int)) = true›) h
  | exact ey (rv:=ay true) (aj hq ‹decide ((k : Int) < ((l.map ab).length : Int)) = false›) ‹(!kdF 19 l) = false› (.inl rfl) ((by rw [(ar hq1 h)]; rfl : ay true = (aD l).getD (ay (!false))).trans (pA ‹(br (at_ l 0) (ay false) || br (at_ l 1) (ay false)) = false›))
  | exact iZ (aj hq ‹decide ((k : Int) < ((l.map ab).length : Int)) = false›) ‹(!kdF 19 l) = false› rfl hq1 (by simpa using ‹decide ((j : Int) < ((l.map ab).length : Int)) = true›) h
  | (have hlt : j < l.length:=by simpa using ‹decide ((j : Int) < ((l.map ab).length : Int)) = true›
     exact ⟨hlt,hq1.trans (cA hlt h)⟩)
  | (have hlt : j < l.length:=by simpa using ‹decide ((j : Int) < ((l.map ab).length : Int)) = true›
     show l.length - (j + 1) < l.length - j
     omega)
  | skip
set_option maxHeartbeats 2000000 in
theorem HH(l : List Val)(hl : l.length = 2) : CallA Tryz.prog 187 [.one (.d (.int .i64 20)),.one (.d (az l))] [] (cI (doF 20 l)) []:=by
 have h228 : CallA Tryz.prog 228 [.one (.d (.int .i64 20))] [] (.one (.d (.int .i64 2))) []:=fq 20
 have hlen : (((l.map ab).length : Int) != 2) = false:=by rw [List.length_map,hl]; rfl
 have hkc:=fu 20 ⟨by omega,by omega⟩ l hl
 have hsc:=fw 20 ⟨by omega,by omega⟩ l hl
 have hx : l.all al = true→kdF 20 l = true→aD l = none→al (at_ l 0) = true∧(at_ l 0).kind = 1:=fun hr hk hm=>kd1 (op:=0) hr hk hm (by omega)
 all_goals refine enter ae Tryz.func187 rfl (by decide +kernel) rfl fun hok w0 σ0 φ0 M=>?_
 all_goals clear hok
 repeat' (first|(refine h1H ?_; (refine h0H ?_; first|refine aa J J J J J J J J (h228) J ?_|refine aa J J J J J J J J (d9 _) J ?_|refine aa J J J J J J J J (hkc) J ?_|refine aa J J J J J J J J (hsc) J ?_|refine aa J J J J J J J J (lc _) J ?_|refine aa J J J J J J J J (ln _ (hx (aj hq ‹decide ((k : Int) < ((l.map ab).length : Int)) = false›) (by simpa using ‹(!kdF 20 l) = false›) (ar hq1 h)).1 (xT (hx (aj hq ‹decide ((k : Int) < ((l.map ab).length : Int)) = false›) (by simpa using ‹(!kdF 20 l) = false›) (ar hq1 h)).2)) J ?_))|refine wG ?_|(refine h4H ?_; first|refine ag J (fun h=>?_) (fun h=>?_)|refine aB 4 J [(0,_),(1,_),(4,_)] (q3Q J J J) (fun (k : Nat)=>[(6,.one (.d (.int .i64 (k : Int))))]) (fun (k : Nat)=>k≤l.length∧l.all al = (l.drop k).all al) (fun (k : Nat)=>l.length - k) 0 (q1Q J) ?_ (fun k ⟨hk0,hq⟩=>?_)|refine aB 14 J [(0,_),(1,_),(4,_)] (q3Q J J J) (fun (j : Nat)=>[(9,.one (.d (.int .i64 (j : Int))))]) (fun (j : Nat)=>j≤l.length∧aD l = aD (l.drop j)) (fun (j : Nat)=>l.length - j) 0 (q1Q J) ?_ (fun j ⟨hk1,hq1⟩=>?_))|(show Exists _; first|refine Exists.intro (j + 1) ⟨?_,?_,wK,(q1Q J),(q3Q J J J)⟩|refine Exists.intro (k + 1) ⟨?_,?_,wK,(q1Q J),(q3Q J J J)⟩))
 all_goals first
  | exact ⟨Nat.zero_le _,rfl⟩
  | exact fS (dM hq (by simpa using ‹decide ((k : Int) < ((l.map ab).length : Int)) = true›) (by rw [← ne2]; exact h))
  | (have hlt : k < l.length:=by simpa using ‹decide ((k : Int) < ((l.map ab).length : Int)) = true›
     exact ⟨hlt,dN hq hlt (by rw [← ne2]; exact h)⟩)
  | (have hlt : k < l.length:=by simpa using ‹decide ((k : Int) < ((l.map ab).length : Int)) = true›
     show l.length - (k + 1) < l.length - k
     omega)
  | exact fT (aj hq ‹decide ((k : Int) < ((l.map ab).length : Int)) = false›) h
  | exact ey (rv:=ay true) (aj hq ‹decide ((k : Int) < ((l.map ab).length : Int)) = false›) ‹(!kdF 20 l) = false› (.inl rfl) (xU h)
  | exact DS (b:=true) (by simp) (aj hq ‹decide ((k : Int) < ((l.map ab).length : Int)) = false›) ‹(!kdF 20 l) = false› ‹(br (at_ l 0) (ay true) || br (at_ l 1) (ay true)) = false› hq1 (by simpa using ‹decide ((j : Int) < ((l.map ab).length : Int)) = true›) h
  | exact ey (rv:=ay false) (aj hq ‹decide ((k : Int) < ((l.map ab).length : Int)) = false›) ‹(!kdF 20 l) = false› (.inl rfl) ((by rw [(ar hq1 h)]; rfl : ay false = (aD l).getD (ay (!true))).trans (pA ‹(br (at_ l 0) (ay true) || br (at_ l 1) (ay true)) = false›))
  | exact iZ (aj hq ‹decide ((k : Int) < ((l.map ab).length : Int)) = false›) ‹(!kdF 20 l) = false› rfl hq1 (by simpa using ‹decide ((j : Int) < ((l.map ab).length : Int)) = true›) h
  | (have hlt : j < l.length:=by simpa using ‹decide ((j : Int) < ((l.map ab).length : Int)) = true›
     exact ⟨hlt,hq1.trans (cA hlt h)⟩)
  | (have hlt : j < l.length:=by simpa using ‹decide ((j : Int) < ((l.map ab).length : Int)) = true›
     show l.length - (j + 1) < l.length - j
     omega)
  | skip
set_option maxHeartbeats 2000000 in
theorem HI(l : List Val)(hl : l.length = 2) : CallA Tryz.prog 187 [.one (.d (.int .i64 21)),.one (.d (az l))] [] (cI (doF 21 l)) []:=by
 have h228 : CallA Tryz.prog 228 [.one (.d (.int .i64 21))] [] (.one (.d (.int .i64 2))) []:=fq 21
 have hlen : (((l.map ab).length : Int) != 2) = false:=by rw [List.length_map,hl]; rfl
 have hkc:=fu 21 ⟨by omega,by omega⟩ l hl
 have hsc:=fw 21 ⟨by omega,by omega⟩ l hl
 all_goals refine enter ae Tryz.func187 rfl (by decide +kernel) rfl fun hok w0 σ0 φ0 M=>?_
 all_goals clear hok
 repeat' (first|(refine h1H ?_; (refine h0H ?_; first|refine aa J J J J J J J J (h228) J ?_|refine aa J J J J J J J J (d9 _) J ?_|refine aa J J J J J J J J (hkc) J ?_|refine aa J J J J J J J J (hsc) J ?_))|refine wG ?_|(refine h4H ?_; first|refine ag J (fun h=>?_) (fun h=>?_)|refine aB 4 J [(0,_),(1,_),(4,_)] (q3Q J J J) (fun (k : Nat)=>[(6,.one (.d (.int .i64 (k : Int))))]) (fun (k : Nat)=>k≤l.length∧l.all al = (l.drop k).all al) (fun (k : Nat)=>l.length - k) 0 (q1Q J) ?_ (fun k ⟨hk0,hq⟩=>?_))|(show Exists _; refine Exists.intro (k + 1) ⟨?_,?_,wK,(q1Q J),(q3Q J J J)⟩))
 all_goals first
  | exact ⟨Nat.zero_le _,rfl⟩
  | exact fS (dM hq (by simpa using ‹decide ((k : Int) < ((l.map ab).length : Int)) = true›) (by rw [← ne2]; exact h))
  | (have hlt : k < l.length:=by simpa using ‹decide ((k : Int) < ((l.map ab).length : Int)) = true›
     exact ⟨hlt,dN hq hlt (by rw [← ne2]; exact h)⟩)
  | (have hlt : k < l.length:=by simpa using ‹decide ((k : Int) < ((l.map ab).length : Int)) = true›
     show l.length - (k + 1) < l.length - k
     omega)
  | exact fT (aj hq ‹decide ((k : Int) < ((l.map ab).length : Int)) = false›) h
  | exact ey (rv:=(mF 21 l).1) (aj hq ‹decide ((k : Int) < ((l.map ab).length : Int)) = false›) ‹(!kdF 21 l) = false› (.inl rfl) rfl
  | skip
set_option maxHeartbeats 2000000 in
theorem HR(l : List Val)(hl : l.length = 3) : CallA Tryz.prog 187 [.one (.d (.int .i64 22)),.one (.d (az l))] [] (cI (doF 22 l)) []:=by
 have h228 : CallA Tryz.prog 228 [.one (.d (.int .i64 22))] [] (.one (.d (.int .i64 3))) []:=fq 22
 have hlen : (((l.map ab).length : Int) != 3) = false:=by rw [List.length_map,hl]; rfl
 have hkc:=JV l hl
 have hsc:=Kj l hl
 all_goals refine enter ae Tryz.func187 rfl (by decide +kernel) rfl fun hok w0 σ0 φ0 M=>?_
 all_goals clear hok
 repeat' (first|(refine h1H ?_; (refine h0H ?_; first|refine aa J J J J J J J J (h228) J ?_|refine aa J J J J J J J J (d9 _) J ?_|refine aa J J J J J J J J (hkc) J ?_|refine aa J J J J J J J J (hsc) J ?_))|refine wG ?_|(refine h4H ?_; first|refine ag J (fun h=>?_) (fun h=>?_)|refine aB 4 J [(0,_),(1,_),(4,_)] (q3Q J J J) (fun (k : Nat)=>[(6,.one (.d (.int .i64 (k : Int))))]) (fun (k : Nat)=>k≤l.length∧l.all al = (l.drop k).all al) (fun (k : Nat)=>l.length - k) 0 (q1Q J) ?_ (fun k ⟨hk0,hq⟩=>?_))|(show Exists _; refine Exists.intro (k + 1) ⟨?_,?_,wK,(q1Q J),(q3Q J J J)⟩))
 all_goals first
  | exact ⟨Nat.zero_le _,rfl⟩
  | exact fS (dM hq (by simpa using ‹decide ((k : Int) < ((l.map ab).length : Int)) = true›) (by rw [← ne2]; exact h))
  | (have hlt : k < l.length:=by simpa using ‹decide ((k : Int) < ((l.map ab).length : Int)) = true›
     exact ⟨hlt,dN hq hlt (by rw [← ne2]; exact h)⟩)
  | (have hlt : k < l.length:=by simpa using ‹decide ((k : Int) < ((l.map ab).length : Int)) = true›
     show l.length - (k + 1) < l.length - k
     omega)
  | exact fT (aj hq ‹decide ((k : Int) < ((l.map ab).length : Int)) = false›) h
  | exact ey (rv:=(mF 22 l).1) (aj hq ‹decide ((k : Int) < ((l.map ab).length : Int)) = false›) ‹(!kdF 22 l) = false› (.inl rfl) (Ie hl (aj hq ‹decide ((k : Int) < ((l.map ab).length : Int)) = false›) (by simpa using ‹(!kdF 22 l) = false›))
  | skip
end Go.Proofs.YtpejdgkaapnekaaGreat
namespace Go.Proofs.YtpejdgkaapnekaaGreat
open Go Go.Abs
theorem N3(op : Int)(l : List Val)(hop : 4≤op∧op≤22)(hl : (l.length : Int) = dq op) : CallA Tryz.prog 187 [.one (.d (.int .i64 op)),.one (.d (az l))] [] (cI (doF op l)) []:=by
 rcases oC hop with rfl | rfl | rfl | rfl | rfl | rfl | rfl | rfl | rfl | rfl | rfl | rfl | rfl | rfl | rfl | rfl | rfl | rfl | rfl <;> simp [dq] at hl
 ·exact JA l (by omega)
 ·exact JB l (by omega)
 ·exact JC l (by omega)
 ·exact JD l (by omega)
 ·exact JE l (by omega)
 ·exact JF l (by omega)
 ·exact HO l (by omega)
 ·exact HP l (by omega)
 ·exact HQ l (by omega)
 ·exact Hq l (by omega)
 ·exact Hr l (by omega)
 ·exact Hs l (by omega)
 ·exact Ht l (by omega)
 ·exact Hu l (by omega)
 ·exact Hv l (by omega)
 ·exact HG l (by omega)
 ·exact HH l (by omega)
 ·exact HI l (by omega)
 ·exact HR l (by omega)
end Go.Proofs.YtpejdgkaapnekaaGreat
namespace Go.Proofs.YtpejdgkaapnekaaGreat
open Go Go.Abs
attribute [local irreducible] ac OkC ao ax ap aJ
set_option maxRecDepth 10000
theorem AH{ds : List Dim}{ats : List Attr}{cs : List Cell}{s : Scalar}(h : (bT ds ats cs s).2 = 0) : cE ds ats cs = 0∧cW s = true∧(aS s).length≤64∧∀ z∈aS s,pI ds ats z:=by
 unfold bT at h
 by_cases h1 : cE ds ats cs = 0
 ·rw [if_neg (by simpa using h1)] at h
  by_cases h2 : fo s = 0
  ·rw [if_neg (by simpa using h2)] at h
   obtain ⟨hp,hsz⟩:=uR h2
   exact ⟨h1,hp,hsz,JZ s hp h⟩
  ·rw [if_pos h2] at h; exact absurd h h2
 ·rw [if_pos h1] at h; simp at h
end Go.Proofs.YtpejdgkaapnekaaGreat
namespace Go.Proofs.YtpejdgkaapnekaaGreat
open Go Go.Abs
attribute [local irreducible] ac OkC ao ax ap aJ
set_option maxRecDepth 10000
section
variable {src : List (Int×Bool)} {c : Cell} {k : Nat}
end
end Go.Proofs.YtpejdgkaapnekaaGreat
namespace Go.Proofs.YtpejdgkaapnekaaGreat
open Go Go.Abs
attribute [local irreducible] ac OkC ao ax ap aJ
set_option maxRecDepth 10000
theorem HT{α : Type}[Inhabited α](f : α→List D)(l : List α){n : Nat}{r : List (List D)}(h : r = (l.take n).map f)(hlt : n < l.length) : r.take n ++ [f (at_ l n)] = (l.take (n + 1)).map f:=by
 rw [h]; exact nZ f l hlt
section
variable {src kept : List (Int×Bool)} {ds : List Dim} {rule : Int} {c : Cell} {cs cs' l : List Cell} {x : List Int} {j : Nat}
end
end Go.Proofs.YtpejdgkaapnekaaGreat
