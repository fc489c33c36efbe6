/- Parts. -/
import Derived.Test.YtoohljflflnbeaaGreatDoorSt20
import Derived.Shelf.Strings.Search3
set_option linter.unusedSimpArgs false
set_option linter.unusedVariables false
open Go.Proofs.Tryz
namespace Go.Proofs
open Go.Shelf
def Tryz.KT:Go.Shelf.Ren:=⟨fun | 144=>103 | 143=>171 | 219=>222 | 217=>224 | 225=>276 | 224=>277 | 267=>278 | 266=>281 | 314=>305 | n=>n,fun | 9=>9 | 4=>4 | 3=>3 | 5=>5 | 46=>205 | 146=>375 | 51=>374 | n=>n,fun | 1=>5 | n=>n⟩
theorem Tryz.T3:Go.Proofs.Lays.n144 prog Tryz.KT:={
 mixed:=ag
 f143:=func171.trans aW
 f144:=func103.trans aW
 f217:=func224.trans aW
 f219:=func222.trans aW
 f224:=func277.trans aW
 f225:=func276.trans aW
 f266:=func281.trans aW
 f267:=func278.trans aW
 f314:=func305.trans aW
 t3:=underlying3
 a3:=isAgg3
 z3:=sizeOf3
 v3:=zeroValue3
 t4:=underlying4
 a4:=isAgg4
 z4:=sizeOf4
 v4:=zeroValue4
 t5:=underlying5
 a5:=isAgg5
 z5:=sizeOf5
 v5:=zeroValue5
 t9:=underlying9
 a9:=isAgg9
 z9:=sizeOf9
 v9:=zeroValue9
 t46:=underlying205
 a46:=isAgg205
 z46:=sizeOf205
 v46:=zeroValue205
 t51:=underlying374
 a51:=isAgg374
 z51:=sizeOf374
 v51:=zeroValue374
 t146:=underlying375
 a146:=isAgg375
 z146:=sizeOf375
 v146:=zeroValue375
 g1:=by kernel_rfl }
end Go.Proofs
namespace Go.Proofs.YtoohljflflnbeaaGreatDoor
open Go.Av Go.Shelf
def nh (G:aF):Prop:=∃ m,G 5=some (.ip [ab m])
theorem WJ (G:aF) (hM:nh G) (a b:List UInt8) (ha:a.length < 2^30):aH prog G 103 [dS a,dS b] (.v (.bool (Lib.contains a b))):=by
 obtain⟨m,hm⟩:=hM;refine aH.pa (fU.of func103 rfl rfl) fun X w vs bc cm cY=>?_
 obtain⟨u,v,rfl⟩:∃ u v,vs = #[u,v]:=by
  match vs,bc with
  | ⟨[u,v]⟩,_=>exact⟨u,v,rfl⟩
 have hu:=(cm 0 u _ rfl rfl).scalar;have hv:=(cm 1 v _ rfl rfl).scalar;subst hu hv;obtain⟨b',off,f,hp,_,_,dW,hr⟩:=(cY _ _ hm).pV;have h0:=dW 0 al;have h1:=(hr 0 _ rfl).scalar;rw[h1]at h0;injection hp with hp;injection hp with hp;injection hp with ke jD _;subst ke jD;have fG:=Any.strings_Contains (P:=prog) (ρ:=Tryz.KT) { Tryz.T3 with } (bs a) (bs b) m w (by rw[bD];omega) h0;refine fG.mono fun e w' ⟨he,hw⟩=>⟨_,he,by rw[hw];exact cT.refl _,?_⟩;rw[cU,cU];exact .v _
