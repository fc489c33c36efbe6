/- Parts. -/
import Derived.Test.YtoohljflflnbeaaGreatDoorBo15
import Derived.Test.YtoohljflflnbeaaGreatDoorBo19
import Derived.Shelf.Strings.Search3
set_option linter.unusedSimpArgs false
set_option linter.unusedVariables false
open Go.Proofs.Tryz
namespace Go.Proofs
open Go.Shelf
def Tryz.O3:Go.Shelf.Ren:=⟨fun | 144=>103 | 143=>171 | 219=>222 | 217=>224 | 225=>276 | 224=>277 | 267=>278 | 266=>281 | 314=>305 | n=>n,fun | 9=>9 | 4=>4 | 3=>3 | 5=>5 | 46=>205 | 146=>375 | 51=>374 | n=>n,fun | 1=>5 | n=>n⟩
theorem Tryz.aaH:Go.Proofs.Lays.n144 prog Tryz.O3:={
 mixed:=ah
 f143:=func171.trans aO
 f144:=func103.trans aO
 f217:=func224.trans aO
 f219:=func222.trans aO
 f224:=func277.trans aO
 f225:=func276.trans aO
 f266:=func281.trans aO
 f267:=func278.trans aO
 f314:=func305.trans aO
 t3:=underlying3
 a3:=isAgg3
 z3:=sizeOf3
 v3:=zeroValue3
 t4:=underlying4
 a4:=isAgg4
 z4:=sizeOf4
 v4:=zeroValue4
 t5:=underlying5
 a5:=isAgg5
 z5:=sizeOf5
 v5:=zeroValue5
 t9:=underlying9
 a9:=isAgg9
 z9:=sizeOf9
 v9:=zeroValue9
 t46:=underlying205
 a46:=isAgg205
 z46:=sizeOf205
 v46:=zeroValue205
 t51:=underlying374
 a51:=isAgg374
 z51:=sizeOf374
 v51:=zeroValue374
 t146:=underlying375
 a146:=isAgg375
 z146:=sizeOf375
 v146:=zeroValue375
 g1:=by kernel_rfl }
end Go.Proofs
namespace Go.Proofs.YtoohljflflnbeaaGreatDoor
open Go.Av Go.Shelf
def j3 (G:aC):Prop:=∃ m,G 5=some (.ip [ab m])
theorem adE (G:aC) (hM:j3 G) (a b:List UInt8) (ha:a.length < 2^30):aD prog G 103 [dS a,dS b] (.v (.bool (Lib.contains a b))):=by
 obtain⟨m,hm⟩:=hM;refine aD.rJ (gS.of func103 rfl rfl) fun X w vs bg cf dz=>?_
 obtain⟨u,v,rfl⟩:∃ u v,vs = #[u,v]:=by
  match vs,bg with
  | ⟨[u,v]⟩,_=>exact⟨u,v,rfl⟩
 have hu:=(cf 0 u _ rfl rfl).scalar;have hv:=(cf 1 v _ rfl rfl).scalar;subst hu hv;obtain⟨b',off,f,hp,_,_,ea,hr⟩:=(dz _ _ hm).qK;have h0:=ea 0 ak;have h1:=(hr 0 _ rfl).scalar;rw[h1]at h0;injection hp with hp;injection hp with hp;injection hp with eb fb _;subst eb fb;have iF:=Any.strings_Contains (P:=prog) (ρ:=Tryz.O3) { Tryz.aaH with } (bs a) (bs b) m w (by rw[bQ];omega) h0;refine iF.mono fun e w' ⟨he,hw⟩=>⟨_,he,by rw[hw];exact cR.refl _,?_⟩;rw[dk,dk];exact .v _
