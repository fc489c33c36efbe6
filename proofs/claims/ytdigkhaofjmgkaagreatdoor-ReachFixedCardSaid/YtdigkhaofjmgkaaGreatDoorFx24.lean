/- Parts. -/
import Derived.Test.YtdigkhaofjmgkaaGreatDoorFx15
import Derived.Test.YtdigkhaofjmgkaaGreatDoorFx19
import Derived.Shelf.Strings.Search3
set_option linter.unusedSimpArgs false
set_option linter.unusedVariables false
open Go.Proofs.Tryz
namespace Go.Proofs
open Go.Shelf
def Tryz.J2:Go.Shelf.Ren:=⟨fun | 144=>195 | 143=>205 | 219=>234 | 217=>160 | 225=>261 | 224=>262 | 267=>263 | 266=>206 | 314=>278 | n=>n,fun | 9=>9 | 4=>4 | 3=>3 | 5=>5 | 46=>156 | 146=>301 | 51=>300 | n=>n,fun | 1=>4 | n=>n⟩
theorem Tryz.TW:Go.Proofs.Lays.n144 prog Tryz.J2:={
 mixed:=by kernel_rfl
 f143:=func205.trans (congrArg some (by kernel_rfl))
 f144:=func195.trans (congrArg some (by kernel_rfl))
 f217:=func160.trans (congrArg some (by kernel_rfl))
 f219:=func234.trans (congrArg some (by kernel_rfl))
 f224:=func262.trans (congrArg some (by kernel_rfl))
 f225:=func261.trans (congrArg some (by kernel_rfl))
 f266:=func206.trans (congrArg some (by kernel_rfl))
 f267:=func263.trans (congrArg some (by kernel_rfl))
 f314:=func278.trans (congrArg some (by kernel_rfl))
 t3:=underlying3
 a3:=isAgg3
 z3:=sizeOf3
 v3:=zeroValue3
 t4:=underlying4
 a4:=isAgg4
 z4:=sizeOf4
 v4:=zeroValue4
 t5:=underlying5
 a5:=isAgg5
 z5:=sizeOf5
 v5:=zeroValue5
 t9:=underlying9
 a9:=isAgg9
 z9:=sizeOf9
 v9:=zeroValue9
 t46:=underlying156
 a46:=isAgg156
 z46:=sizeOf156
 v46:=zeroValue156
 t51:=underlying300
 a51:=isAgg300
 z51:=sizeOf300
 v51:=zeroValue300
 t146:=underlying301
 a146:=isAgg301
 z146:=sizeOf301
 v146:=zeroValue301
 g1:=by kernel_rfl }
end Go.Proofs
namespace Go.Proofs.YtdigkhaofjmgkaaGreatDoor
open Go.Av Go.Shelf
def adP (G:aq):Prop:=∃ m,G 4=some (.ip [ab m])
theorem YG (G:aq) (hM:adP G) (a b:List UInt8) (ha:a.length < 2^30):ar prog G 195 [dS a,dS b] (.v (.bool (Lib.contains a b))):=by
 obtain⟨m,hm⟩:=hM;refine ar.nV (fe.of func195 rfl rfl) fun X w vs aK bD hgl=>?_
 obtain⟨u,v,rfl⟩:∃ u v,vs = #[u,v]:=by
  match vs,aK with
  | ⟨[u,v]⟩,_=>exact⟨u,v,rfl⟩
 have hu:=(bD 0 u _ rfl rfl).scalar;have hv:=(bD 1 v _ rfl rfl).scalar;subst hu hv;obtain⟨b',off,f,hp,_,_,cI,hr⟩:=(hgl _ _ hm).aeN;have h0:=cI 0 (by simp);have h1:=(hr 0 _ rfl).scalar;rw[h1]at h0;injection hp with hp;injection hp with hp;injection hp with hp1 ey _;subst hp1 ey;have fC:=Any.strings_Contains (P:=prog) (ρ:=Tryz.J2) { Tryz.TW with } (bs a) (bs b) m w (by rw[bl];omega) h0;refine fC.mono fun e w' ⟨he,hw⟩=>⟨_,he,by rw[hw];exact bZ.refl _,?_⟩;rw[cj,cj];exact .v _
