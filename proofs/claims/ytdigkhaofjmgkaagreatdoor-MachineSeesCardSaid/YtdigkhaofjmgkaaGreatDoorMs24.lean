/- Parts. -/
import Derived.Test.YtdigkhaofjmgkaaGreatDoorMs15
import Derived.Test.YtdigkhaofjmgkaaGreatDoorMs19
import Derived.Shelf.Strings.Search3
set_option linter.unusedSimpArgs false
set_option linter.unusedVariables false
open Go.Proofs.Tryz
namespace Go.Proofs
open Go.Shelf
def Tryz.IG:Go.Shelf.Ren:=⟨fun | 144=>195 | 143=>205 | 219=>234 | 217=>160 | 225=>261 | 224=>262 | 267=>263 | 266=>206 | 314=>278 | n=>n,fun | 9=>9 | 4=>4 | 3=>3 | 5=>5 | 46=>156 | 146=>301 | 51=>300 | n=>n,fun | 1=>4 | n=>n⟩
theorem Tryz.Sz:Go.Proofs.Lays.n144 prog Tryz.IG:={
 mixed:=by kernel_rfl
 f143:=func205.trans (congrArg some (by kernel_rfl))
 f144:=func195.trans (congrArg some (by kernel_rfl))
 f217:=func160.trans (congrArg some (by kernel_rfl))
 f219:=func234.trans (congrArg some (by kernel_rfl))
 f224:=func262.trans (congrArg some (by kernel_rfl))
 f225:=func261.trans (congrArg some (by kernel_rfl))
 f266:=func206.trans (congrArg some (by kernel_rfl))
 f267:=func263.trans (congrArg some (by kernel_rfl))
 f314:=func278.trans (congrArg some (by kernel_rfl))
 t3:=underlying3
 a3:=isAgg3
 z3:=sizeOf3
 v3:=zeroValue3
 t4:=underlying4
 a4:=isAgg4
 z4:=sizeOf4
 v4:=zeroValue4
 t5:=underlying5
 a5:=isAgg5
 z5:=sizeOf5
 v5:=zeroValue5
 t9:=underlying9
 a9:=isAgg9
 z9:=sizeOf9
 v9:=zeroValue9
 t46:=underlying156
 a46:=isAgg156
 z46:=sizeOf156
 v46:=zeroValue156
 t51:=underlying300
 a51:=isAgg300
 z51:=sizeOf300
 v51:=zeroValue300
 t146:=underlying301
 a146:=isAgg301
 z146:=sizeOf301
 v146:=zeroValue301
 g1:=by kernel_rfl }
end Go.Proofs
namespace Go.Proofs.YtdigkhaofjmgkaaGreatDoor
open Go.Av Go.Shelf
def acb (G:ao):Prop:=∃ m,G 4=some (.ip [ab m])
theorem W5 (G:ao) (hM:acb G) (a b:List UInt8) (ha:a.length < 2^30):ar prog G 195 [dS a,dS b] (.v (.bool (Lib.contains a b))):=by
 obtain⟨m,hm⟩:=hM;refine ar.nr (e7.of func195 rfl rfl) fun X w vs aK bC cq=>?_
 obtain⟨u,v,rfl⟩:∃ u v,vs = #[u,v]:=by
  match vs,aK with
  | ⟨[u,v]⟩,_=>exact⟨u,v,rfl⟩
 have hu:=(bC 0 u _ rfl rfl).scalar;have hv:=(bC 1 v _ rfl rfl).scalar;subst hu hv;obtain⟨b',off,f,hp,_,_,abf,hr⟩:=(cq _ _ hm).adp;have h0:=abf 0 (by simp);have h1:=(hr 0 _ rfl).scalar;rw[h1]at h0;injection hp with hp;injection hp with hp;injection hp with eh hp2 _;subst eh hp2;have fC:=Any.strings_Contains (P:=prog) (ρ:=Tryz.IG) { Tryz.Sz with } (bs a) (bs b) m w (by rw[bl];omega) h0;refine fC.mono fun e w' ⟨he,hw⟩=>⟨_,he,by rw[hw];exact bY.refl _,?_⟩;rw[ch,ch];exact .v _
