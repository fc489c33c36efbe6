/-
  Texts that belong together,in one file: U3,RN,LW,Sh9.
-/
import Derived.Test.YtpboiimemmfkiaaGreatDoorRp22
import Derived.Shelf.Strings.Search3
import Derived.Test.YtpboiimemmfkiaaGreatDoorProg
import Derived.Ground.NamesProg
import Derived.Shelf.Sort.Plain
set_option linter.unusedSimpArgs false
set_option linter.unusedVariables false
namespace Go.Proofs.YtpboiimemmfkiaaGreatDoor
open Go.Av Go.Shelf
def HasMax (G:Glob):Prop:=∃ m,G 5=some (.ip [dNum m])
end Go.Proofs.YtpboiimemmfkiaaGreatDoor
namespace Go.Proofs.YtpboiimemmfkiaaGreatDoor
open Go.Av
theorem renH_hlst {r r':Nat} (hr:r≠r') (l:List (Nat×Row)) (hl:∀ p∈l,p.1≠r'):renH r r' (hlst l)=hlst (l.map fun p=>(if p.1=r then r' else p.1,p.2.tr (renO r r') (renF r r'))):=by
 funext q
 unfold renH
 induction l with
 | nil=>simp [hlst,List.lookup]
 | cons p l ih=>
  have ih:=ih fun p hp=>hl p (by simp [hp])
  have hp:=hl p (by simp)
  obtain ⟨k,row⟩:=p
  simp only [hlst,List.lookup,List.map_cons] at ih ⊢
  by_cases h1:q=r'
  ·subst h1;simp only [if_true] at ih ⊢
   by_cases h2:k=r
   ·subst h2;simp
   ·have a1:(r == k)=false:=by simpa using fun e=>h2 e.symm
    have a2:(q == k)=false:=by simpa using fun e=>hp e.symm
    simp only [h2,if_false,a1,a2];exact ih
  ·simp only [h1,if_false] at ih ⊢
   by_cases h2:q=r
   ·subst h2;simp only [if_true] at ih ⊢
    by_cases h3:k=q
    ·have a1:(q == r')=false:=by simpa using h1
     simp only [h3,if_true,a1];exact ih
    ·have a1:(q == k)=false:=by simpa using fun e=>h3 e.symm
     simp only [h3,if_false,a1];exact ih
   ·simp only [h2,if_false] at ih ⊢
    by_cases h3:k=r
    ·have a1:(q == k)=false:=by rw [h3];simpa using h2
     have a2:(q == r')=false:=by simpa using h1
     simp only [h3,if_true,a2] at a1 ⊢;rw [a1];exact ih
    ·simp only [h3,if_false]
     by_cases h4:q=k
     ·subst h4;simp
     ·have a1:(q == k)=false:=by simpa using h4
      simp only [a1];exact ih
end Go.Proofs.YtpboiimemmfkiaaGreatDoor
namespace Go.Proofs.YtpboiimemmfkiaaGreatDoor
open Go.Av
theorem badGw_some (p:PgP) (k:Int) (s:Tx) (e:Ex):badG p ⟨k,s,some e⟩=if !(decide (1≤k) && decide (k≤6)) then 1 else if numP p s < 0 then 7 else if !decide (wantP k=(p.names.getD (numP p s).toNat ⟨[],0,0⟩).kind) then 1 else if (namesE true e).any fun s=>decide (numP p s < 0) then 7 else 0:=by
 have h:(decide (k < 1) || decide (k > 6)) = !(decide (1≤k) && decide (k≤6)):=by
  by_cases h1:1≤k<;>by_cases h2:k≤6<;>simp [h1,h2]<;>omega
 show (if decide (k < 1) || decide (k > 6) then (1:Int) else _)=_
 rw [h];simp only [Bool.not_eq_true',decide_eq_false_iff_not,ne_eq]
end Go.Proofs.YtpboiimemmfkiaaGreatDoor
namespace Go.Proofs
open Go.Shelf
def Tryz.lays189_ren:Go.Shelf.Ren:=⟨fun | 189=>146 | 125=>188 | 257=>187 | 128=>247 | 129=>248 | 294=>238 | 295=>239 | 296=>240 | 297=>241 | 298=>242 | 299=>243 | 216=>244 | 300=>245 | 301=>246 | 328=>277 | 329=>278 | 330=>279 | 331=>280 | 332=>281 | 215=>282 | 343=>307 | n=>n,fun | 28=>51 | 3=>3 | 46=>184 | 0=>0 | 51=>307 | 53=>310 | 4=>4 | 183=>341 | 182=>340 | 131=>243 | 5=>5 | 9=>9 | 218=>371 | 222=>375 | 228=>391 | 229=>392 | n=>n,fun | n=>n⟩
theorem Tryz.lays189:Go.Proofs.Lays.n189 Tryz.prog Tryz.lays189_ren:={
 mixed:=by kernel_rfl
 f125:=Tryz.func188.trans (congrArg some (by kernel_rfl))
 f128:=Tryz.func247.trans (congrArg some (by kernel_rfl))
 f129:=Tryz.func248.trans (congrArg some (by kernel_rfl))
 f189:=Tryz.func146.trans (congrArg some (by kernel_rfl))
 f215:=Tryz.func282.trans (congrArg some (by kernel_rfl))
 f216:=Tryz.func244.trans (congrArg some (by kernel_rfl))
 f257:=Tryz.func187.trans (congrArg some (by kernel_rfl))
 f294:=Tryz.func238.trans (congrArg some (by kernel_rfl))
 f295:=Tryz.func239.trans (congrArg some (by kernel_rfl))
 f296:=Tryz.func240.trans (congrArg some (by kernel_rfl))
 f297:=Tryz.func241.trans (congrArg some (by kernel_rfl))
 f298:=Tryz.func242.trans (congrArg some (by kernel_rfl))
 f299:=Tryz.func243.trans (congrArg some (by kernel_rfl))
 f300:=Tryz.func245.trans (congrArg some (by kernel_rfl))
 f301:=Tryz.func246.trans (congrArg some (by kernel_rfl))
 f328:=Tryz.func277.trans (congrArg some (by kernel_rfl))
 f329:=Tryz.func278.trans (congrArg some (by kernel_rfl))
 f330:=Tryz.func279.trans (congrArg some (by kernel_rfl))
 f331:=Tryz.func280.trans (congrArg some (by kernel_rfl))
 f332:=Tryz.func281.trans (congrArg some (by kernel_rfl))
 f343:=Tryz.func307.trans (congrArg some (by kernel_rfl))
 t0:=Tryz.underlying0
 a0:=Tryz.isAgg0
 z0:=Tryz.sizeOf0
 v0:=Tryz.zeroValue0
 t3:=Tryz.underlying3
 a3:=Tryz.isAgg3
 z3:=Tryz.sizeOf3
 v3:=Tryz.zeroValue3
 t4:=Tryz.underlying4
 a4:=Tryz.isAgg4
 z4:=Tryz.sizeOf4
 v4:=Tryz.zeroValue4
 t5:=Tryz.underlying5
 a5:=Tryz.isAgg5
 z5:=Tryz.sizeOf5
 v5:=Tryz.zeroValue5
 t9:=Tryz.underlying9
 a9:=Tryz.isAgg9
 z9:=Tryz.sizeOf9
 v9:=Tryz.zeroValue9
 t28:=Tryz.underlying51
 a28:=Tryz.isAgg51
 z28:=Tryz.sizeOf51
 v28:=Tryz.zeroValue51
 t46:=Tryz.underlying184
 a46:=Tryz.isAgg184
 z46:=Tryz.sizeOf184
 v46:=Tryz.zeroValue184
 t51:=Tryz.underlying307
 a51:=Tryz.isAgg307
 z51:=Tryz.sizeOf307
 v51:=Tryz.zeroValue307
 t53:=Tryz.underlying310
 a53:=Tryz.isAgg310
 z53:=Tryz.sizeOf310
 v53:=Tryz.zeroValue310
 t131:=Tryz.underlying243
 a131:=Tryz.isAgg243
 z131:=Tryz.sizeOf243
 v131:=Tryz.zeroValue243
 t182:=Tryz.underlying340
 a182:=Tryz.isAgg340
 z182:=Tryz.sizeOf340
 v182:=Tryz.zeroValue340
 t183:=Tryz.underlying341
 a183:=Tryz.isAgg341
 z183:=Tryz.sizeOf341
 v183:=Tryz.zeroValue341
 t218:=Tryz.underlying371
 a218:=Tryz.isAgg371
 z218:=Tryz.sizeOf371
 v218:=Tryz.zeroValue371
 t222:=Tryz.underlying375
 a222:=Tryz.isAgg375
 z222:=Tryz.sizeOf375
 v222:=Tryz.zeroValue375
 t228:=Tryz.underlying391
 a228:=Tryz.isAgg391
 z228:=Tryz.sizeOf391
 v228:=Tryz.zeroValue391
 t229:=Tryz.underlying392
 a229:=Tryz.isAgg392
 z229:=Tryz.sizeOf392
 v229:=Tryz.zeroValue392 }
end Go.Proofs
