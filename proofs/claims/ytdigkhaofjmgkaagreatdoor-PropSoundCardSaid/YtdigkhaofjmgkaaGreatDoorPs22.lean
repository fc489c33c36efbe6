/-
  Texts that belong together,in one file: U3,RN,LW,Sh9.
-/
import Derived.Test.YtdigkhaofjmgkaaGreatDoorPs21
import Derived.Shelf.Strings.Search3
import Derived.Sort.Walk0
set_option linter.unusedSimpArgs false
set_option linter.unusedVariables false
namespace Go.Proofs.YtdigkhaofjmgkaaGreatDoor
open Go.Av Go.Shelf
def nU (G:Yu):Prop:=∃ m,G 4=some (.ip [ab m])
end Go.Proofs.YtdigkhaofjmgkaaGreatDoor
namespace Go.Proofs.YtdigkhaofjmgkaaGreatDoor
open Go.Av
theorem abD {r r':Nat} (hr:r≠r') (l:List (Nat×Row)) (hl:∀ p∈l,p.1≠r'):abC r r' (ah l)=ah (l.map fun p=>(if p.1=r then r' else p.1,p.2.tr (gY r r') (gX r r'))):=by
 funext q;unfold abC
 induction l with
 | nil=>simp [ah,List.lookup]
 | cons p l ih=>
  have ih:=ih fun p hp=>hl p (by simp [hp]);have hp:=hl p (by simp);obtain ⟨k,row⟩:=p;simp only [ah,List.lookup,List.map_cons] at ih ⊢;by_cases h1:q=r'
  .subst h1;simp only [if_true] at ih ⊢;by_cases h2:k=r
   .subst h2;simp
   .have a1:(r == k)=false:=by simpa using fun e=>h2 e.symm
    have a2:(q == k)=false:=by simpa using fun e=>hp e.symm
    simp only [h2,if_false,a1,a2];exact ih
  .simp only [h1,if_false] at ih ⊢;by_cases h2:q=r
   .subst h2;simp only [if_true] at ih ⊢;by_cases h3:k=q
    .have a1:(q == r')=false:=by simpa using h1
     simp only [h3,if_true,a1];exact ih
    .have a1:(q == k)=false:=by simpa using fun e=>h3 e.symm
     simp only [h3,if_false,a1];exact ih
   .simp only [h2,if_false] at ih ⊢;by_cases h3:k=r
    .have a1:(q == k)=false:=by rw [h3];simpa using h2
     have a2:(q == r')=false:=by simpa using h1
     simp only [h3,if_true,a2] at a1 ⊢;rw [a1];exact ih
    .simp only [h3,if_false];by_cases h4:q=k
     .subst h4;simp
     .have a1:(q == k)=false:=by simpa using h4
      simp only [a1];exact ih
theorem DI (p:Yz) (k:Int) (s:Tx) (e:Ex):aaP p ⟨k,s,some e⟩=if !(decide (1<=k) && decide (k<=6)) then 1 else if YI p s < 0 then 7 else if !decide (jR k=(p.names.getD (YI p s).toNat ⟨[],0,0⟩).kind) then 1 else if (Zi true e).any fun s=>decide (YI p s < 0) then 7 else 0:=by
 have h:(decide (k < 1) || decide (k > 6)) = !(decide (1<=k) && decide (k<=6)):=by
  by_cases h1:1<=k<;>by_cases h2:k<=6<;>simp [h1,h2]<;>omega
 show (if decide (k < 1) || decide (k > 6) then (1:Int) else _)=_;rw [h];simp only [Bool.not_eq_true',decide_eq_false_iff_not,ne_eq]
end Go.Proofs.YtdigkhaofjmgkaaGreatDoor
namespace Go.Proofs
open Go.Shelf
def Tryz.G6:Go.Shelf.Ren:=⟨fun | 189=>128 | 125=>184 | 257=>183 | 128=>227 | 129=>228 | 294=>218 | 295=>219 | 296=>220 | 297=>221 | 298=>222 | 299=>223 | 216=>224 | 300=>225 | 301=>226 | 328=>247 | 329=>248 | 330=>249 | 331=>250 | 332=>251 | 215=>198 | 343=>273 | n=>n,fun | 28=>46 | 3=>3 | 46=>156 | 0=>0 | 51=>300 | 53=>303 | 4=>4 | 183=>324 | 182=>323 | 131=>202 | 5=>5 | 9=>9 | 218=>348 | 222=>352 | 228=>372 | 229=>373 | n=>n,fun | n=>n⟩
theorem Tryz.Q4:Go.Proofs.Lays.n189 Tryz.prog Tryz.G6:={
 mixed:=by kernel_rfl
 f125:=Tryz.func184.trans (congrArg some (by kernel_rfl))
 f128:=Tryz.func227.trans (congrArg some (by kernel_rfl))
 f129:=Tryz.func228.trans (congrArg some (by kernel_rfl))
 f189:=Tryz.func128.trans (congrArg some (by kernel_rfl))
 f215:=Tryz.func198.trans (congrArg some (by kernel_rfl))
 f216:=Tryz.func224.trans (congrArg some (by kernel_rfl))
 f257:=Tryz.func183.trans (congrArg some (by kernel_rfl))
 f294:=Tryz.func218.trans (congrArg some (by kernel_rfl))
 f295:=Tryz.func219.trans (congrArg some (by kernel_rfl))
 f296:=Tryz.func220.trans (congrArg some (by kernel_rfl))
 f297:=Tryz.func221.trans (congrArg some (by kernel_rfl))
 f298:=Tryz.func222.trans (congrArg some (by kernel_rfl))
 f299:=Tryz.func223.trans (congrArg some (by kernel_rfl))
 f300:=Tryz.func225.trans (congrArg some (by kernel_rfl))
 f301:=Tryz.func226.trans (congrArg some (by kernel_rfl))
 f328:=Tryz.func247.trans (congrArg some (by kernel_rfl))
 f329:=Tryz.func248.trans (congrArg some (by kernel_rfl))
 f330:=Tryz.func249.trans (congrArg some (by kernel_rfl))
 f331:=Tryz.func250.trans (congrArg some (by kernel_rfl))
 f332:=Tryz.func251.trans (congrArg some (by kernel_rfl))
 f343:=Tryz.func273.trans (congrArg some (by kernel_rfl))
 t0:=Tryz.underlying0
 a0:=Tryz.isAgg0
 z0:=Tryz.sizeOf0
 v0:=Tryz.zeroValue0
 t3:=Tryz.underlying3
 a3:=Tryz.isAgg3
 z3:=Tryz.sizeOf3
 v3:=Tryz.zeroValue3
 t4:=Tryz.underlying4
 a4:=Tryz.isAgg4
 z4:=Tryz.sizeOf4
 v4:=Tryz.zeroValue4
 t5:=Tryz.underlying5
 a5:=Tryz.isAgg5
 z5:=Tryz.sizeOf5
 v5:=Tryz.zeroValue5
 t9:=Tryz.underlying9
 a9:=Tryz.isAgg9
 z9:=Tryz.sizeOf9
 v9:=Tryz.zeroValue9
 t28:=Tryz.underlying46
 a28:=Tryz.isAgg46
 z28:=Tryz.sizeOf46
 v28:=Tryz.zeroValue46
 t46:=Tryz.underlying156
 a46:=Tryz.isAgg156
 z46:=Tryz.sizeOf156
 v46:=Tryz.zeroValue156
 t51:=Tryz.underlying300
 a51:=Tryz.isAgg300
 z51:=Tryz.sizeOf300
 v51:=Tryz.zeroValue300
 t53:=Tryz.underlying303
 a53:=Tryz.isAgg303
 z53:=Tryz.sizeOf303
 v53:=Tryz.zeroValue303
 t131:=Tryz.underlying202
 a131:=Tryz.isAgg202
 z131:=Tryz.sizeOf202
 v131:=Tryz.zeroValue202
 t182:=Tryz.underlying323
 a182:=Tryz.isAgg323
 z182:=Tryz.sizeOf323
 v182:=Tryz.zeroValue323
 t183:=Tryz.underlying324
 a183:=Tryz.isAgg324
 z183:=Tryz.sizeOf324
 v183:=Tryz.zeroValue324
 t218:=Tryz.underlying348
 a218:=Tryz.isAgg348
 z218:=Tryz.sizeOf348
 v218:=Tryz.zeroValue348
 t222:=Tryz.underlying352
 a222:=Tryz.isAgg352
 z222:=Tryz.sizeOf352
 v222:=Tryz.zeroValue352
 t228:=Tryz.underlying372
 a228:=Tryz.isAgg372
 z228:=Tryz.sizeOf372
 v228:=Tryz.zeroValue372
 t229:=Tryz.underlying373
 a229:=Tryz.isAgg373
 z229:=Tryz.sizeOf373
 v229:=Tryz.zeroValue373 }
end Go.Proofs
