/- Parts. -/
import Derived.Test.YtdigkhaofjmgkaaGreatDoorPs21
import Derived.Shelf.Strings.Search3
import Derived.Sort.Walk0
set_option linter.unusedSimpArgs false
set_option linter.unusedVariables false
open Go.Proofs.Tryz
namespace Go.Proofs.YtdigkhaofjmgkaaGreatDoor
open Go.Av Go.Shelf
def nU (G:Yt):Prop:=∃ m,G 4=some (.ip [ab m])
end Go.Proofs.YtdigkhaofjmgkaaGreatDoor
namespace Go.Proofs.YtdigkhaofjmgkaaGreatDoor
open Go.Av
theorem abC {r r':Nat} (hr:r≠r') (l:List (Nat×Row)) (hl:∀ p∈l,p.1≠r'):abB r r' (ah l)=ah (l.map fun p=>(if p.1=r then r' else p.1,p.2.tr (gY r r') (gX r r'))):=by
 funext q;unfold abB
 induction l with
 | nil=>simp[ah,List.lookup]
 | cons p l ih=>
  have ih:=ih fun p hp=>hl p (by simp[hp]);have hp:=hl p (by simp);obtain⟨k,row⟩:=p;simp only[ah,List.lookup,List.map_cons]at ih ⊢;by_cases h1:q=r'
  .subst h1;simp only[if_true]at ih ⊢;by_cases h2:k=r
   .subst h2;simp
   .have a1:(r == k)=false:=by simpa using fun e=>h2 e.symm
    have a2:(q == k)=false:=by simpa using fun e=>hp e.symm
    simp only[h2,if_false,a1,a2];exact ih
  .simp only[h1,if_false]at ih ⊢;by_cases h2:q=r
   .subst h2;simp only[if_true]at ih ⊢;by_cases h3:k=q
    .have a1:(q == r')=false:=by simpa using h1
     simp only[h3,if_true,a1];exact ih
    .have a1:(q == k)=false:=by simpa using fun e=>h3 e.symm
     simp only[h3,if_false,a1];exact ih
   .simp only[h2,if_false]at ih ⊢;by_cases h3:k=r
    .have a1:(q == k)=false:=by rw[h3];simpa using h2
     have a2:(q == r')=false:=by simpa using h1
     simp only[h3,if_true,a2]at a1 ⊢;rw[a1];exact ih
    .simp only[h3,if_false];by_cases h4:q=k
     .subst h4;simp
     .have a1:(q == k)=false:=by simpa using h4
      simp only[a1];exact ih
theorem DH (p:Yy) (k:Int) (s:Tx) (e:Ex):aaO p ⟨k,s,some e⟩=if !(decide (1<=k) && decide (k<=6)) then 1 else if YH p s < 0 then 7 else if !decide (jR k=(p.names.getD (YH p s).toNat ⟨[],0,0⟩).kind) then 1 else if (Zh true e).any fun s=>decide (YH p s < 0) then 7 else 0:=by
 have h:(decide (k < 1) || decide (k > 6)) = !(decide (1<=k) && decide (k<=6)):=by
  by_cases h1:1<=k<;>by_cases h2:k<=6<;>simp[h1,h2]<;>omega
 show (if decide (k < 1) || decide (k > 6) then (1:Int) else _)=_;rw[h];simp only[Bool.not_eq_true',decide_eq_false_iff_not,ne_eq]
end Go.Proofs.YtdigkhaofjmgkaaGreatDoor
namespace Go.Proofs
open Go.Shelf
def Tryz.G5:Go.Shelf.Ren:=⟨fun | 189=>128 | 125=>184 | 257=>183 | 128=>227 | 129=>228 | 294=>218 | 295=>219 | 296=>220 | 297=>221 | 298=>222 | 299=>223 | 216=>224 | 300=>225 | 301=>226 | 328=>247 | 329=>248 | 330=>249 | 331=>250 | 332=>251 | 215=>198 | 343=>273 | n=>n,fun | 28=>46 | 3=>3 | 46=>156 | 0=>0 | 51=>300 | 53=>303 | 4=>4 | 183=>324 | 182=>323 | 131=>202 | 5=>5 | 9=>9 | 218=>348 | 222=>352 | 228=>372 | 229=>373 | n=>n,fun | n=>n⟩
theorem Tryz.Q3:Go.Proofs.Lays.n189 prog Tryz.G5:={
 mixed:=by kernel_rfl
 f125:=func184.trans (congrArg some (by kernel_rfl))
 f128:=func227.trans (congrArg some (by kernel_rfl))
 f129:=func228.trans (congrArg some (by kernel_rfl))
 f189:=func128.trans (congrArg some (by kernel_rfl))
 f215:=func198.trans (congrArg some (by kernel_rfl))
 f216:=func224.trans (congrArg some (by kernel_rfl))
 f257:=func183.trans (congrArg some (by kernel_rfl))
 f294:=func218.trans (congrArg some (by kernel_rfl))
 f295:=func219.trans (congrArg some (by kernel_rfl))
 f296:=func220.trans (congrArg some (by kernel_rfl))
 f297:=func221.trans (congrArg some (by kernel_rfl))
 f298:=func222.trans (congrArg some (by kernel_rfl))
 f299:=func223.trans (congrArg some (by kernel_rfl))
 f300:=func225.trans (congrArg some (by kernel_rfl))
 f301:=func226.trans (congrArg some (by kernel_rfl))
 f328:=func247.trans (congrArg some (by kernel_rfl))
 f329:=func248.trans (congrArg some (by kernel_rfl))
 f330:=func249.trans (congrArg some (by kernel_rfl))
 f331:=func250.trans (congrArg some (by kernel_rfl))
 f332:=func251.trans (congrArg some (by kernel_rfl))
 f343:=func273.trans (congrArg some (by kernel_rfl))
 t0:=underlying0
 a0:=isAgg0
 z0:=sizeOf0
 v0:=zeroValue0
 t3:=underlying3
 a3:=isAgg3
 z3:=sizeOf3
 v3:=zeroValue3
 t4:=underlying4
 a4:=isAgg4
 z4:=sizeOf4
 v4:=zeroValue4
 t5:=underlying5
 a5:=isAgg5
 z5:=sizeOf5
 v5:=zeroValue5
 t9:=underlying9
 a9:=isAgg9
 z9:=sizeOf9
 v9:=zeroValue9
 t28:=underlying46
 a28:=isAgg46
 z28:=sizeOf46
 v28:=zeroValue46
 t46:=underlying156
 a46:=isAgg156
 z46:=sizeOf156
 v46:=zeroValue156
 t51:=underlying300
 a51:=isAgg300
 z51:=sizeOf300
 v51:=zeroValue300
 t53:=underlying303
 a53:=isAgg303
 z53:=sizeOf303
 v53:=zeroValue303
 t131:=underlying202
 a131:=isAgg202
 z131:=sizeOf202
 v131:=zeroValue202
 t182:=underlying323
 a182:=isAgg323
 z182:=sizeOf323
 v182:=zeroValue323
 t183:=underlying324
 a183:=isAgg324
 z183:=sizeOf324
 v183:=zeroValue324
 t218:=underlying348
 a218:=isAgg348
 z218:=sizeOf348
 v218:=zeroValue348
 t222:=underlying352
 a222:=isAgg352
 z222:=sizeOf352
 v222:=zeroValue352
 t228:=underlying372
 a228:=isAgg372
 z228:=sizeOf372
 v228:=zeroValue372
 t229:=underlying373
 a229:=isAgg373
 z229:=sizeOf373
 v229:=zeroValue373 }
