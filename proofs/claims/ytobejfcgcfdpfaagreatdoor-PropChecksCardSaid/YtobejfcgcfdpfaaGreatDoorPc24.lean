/- Parts. -/
import Derived.Test.YtobejfcgcfdpfaaGreatDoorPc15
import Derived.Test.YtobejfcgcfdpfaaGreatDoorPc19
import Derived.Shelf.Strings.Search3
set_option linter.unusedSimpArgs false
set_option linter.unusedVariables false
open Go.Proofs.Tryz
namespace Go.Proofs
open Go.Shelf
def Tryz.Uz:Go.Shelf.Ren:=⟨fun | 144=>122 | 143=>157 | 219=>197 | 217=>124 | 225=>224 | 224=>225 | 267=>226 | 266=>160 | 314=>238 | n=>n,fun | 9=>9 | 4=>4 | 3=>3 | 5=>5 | 46=>198 | 146=>235 | 51=>234 | n=>n,fun | 1=>4 | n=>n⟩
theorem Tryz.ad4:Go.Proofs.Lays.n144 prog Tryz.Uz:={
 mixed:=ah
 f143:=func157.trans aU
 f144:=func122.trans aU
 f217:=func124.trans aU
 f219:=func197.trans aU
 f224:=func225.trans aU
 f225:=func224.trans aU
 f266:=func160.trans aU
 f267:=func226.trans aU
 f314:=func238.trans aU
 t3:=underlying3
 a3:=isAgg3
 z3:=sizeOf3
 v3:=zeroValue3
 t4:=underlying4
 a4:=isAgg4
 z4:=sizeOf4
 v4:=zeroValue4
 t5:=underlying5
 a5:=isAgg5
 z5:=sizeOf5
 v5:=zeroValue5
 t9:=underlying9
 a9:=isAgg9
 z9:=sizeOf9
 v9:=zeroValue9
 t46:=underlying198
 a46:=isAgg198
 z46:=sizeOf198
 v46:=zeroValue198
 t51:=underlying234
 a51:=isAgg234
 z51:=sizeOf234
 v51:=zeroValue234
 t146:=underlying235
 a146:=isAgg235
 z146:=sizeOf235
 v146:=zeroValue235
 g1:=by kernel_rfl }
end Go.Proofs
namespace Go.Proofs.YtobejfcgcfdpfaaGreatDoor
open Go.Av Go.Shelf
def ky (G:aB):Prop:=∃ m,G 4=some (.ip [ab m])
theorem aiV (G:aB) (hM:ky G) (a b:List UInt8) (ha:a.length < 2^30):aD prog G 122 [dS a,dS b] (.v (.bool (Lib.contains a b))):=by
 obtain⟨m,hm⟩:=hM;refine aD.tS (iV.of func122 rfl rfl) fun X w vs bp bQ cW=>?_
 obtain⟨u,v,rfl⟩:∃ u v,vs = #[u,v]:=by
  match vs,bp with
  | ⟨[u,v]⟩,_=>exact⟨u,v,rfl⟩
 have hu:=(bQ 0 u _ rfl rfl).scalar;have hv:=(bQ 1 v _ rfl rfl).scalar;subst hu hv;obtain⟨b',off,f,hp,_,_,fJ,hr⟩:=(cW _ _ hm).sO;have h0:=fJ 0 ak;have h1:=(hr 0 _ rfl).scalar;rw[h1]at h0;injection hp with hp;injection hp with hp;injection hp with jv gZ _;subst jv gZ;have ju:=Any.strings_Contains (P:=prog) (ρ:=Tryz.Uz) { Tryz.ad4 with } (bs a) (bs b) m w (by rw[bX];omega) h0;refine ju.mono fun e w' ⟨he,hw⟩=>⟨_,he,by rw[hw];exact cX.refl _,?_⟩;rw[dM,dM];exact .v _
