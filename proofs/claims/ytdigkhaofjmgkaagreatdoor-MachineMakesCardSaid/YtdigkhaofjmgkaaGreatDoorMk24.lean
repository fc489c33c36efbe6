/-
  Texts that belong together,in one file: Sh5,U3.
-/
import Derived.Test.YtdigkhaofjmgkaaGreatDoorMk15
import Derived.Test.YtdigkhaofjmgkaaGreatDoorMk19
import Derived.Shelf.Strings.Search3
set_option linter.unusedSimpArgs false
set_option linter.unusedVariables false
namespace Go.Proofs
open Go.Shelf
def Tryz.Ip:Go.Shelf.Ren:=⟨fun | 144=>195 | 143=>205 | 219=>234 | 217=>160 | 225=>261 | 224=>262 | 267=>263 | 266=>206 | 314=>278 | n=>n,fun | 9=>9 | 4=>4 | 3=>3 | 5=>5 | 46=>156 | 146=>301 | 51=>300 | n=>n,fun | 1=>4 | n=>n⟩
theorem Tryz.afR:Go.Proofs.Lays.n144 Tryz.prog Tryz.Ip:={
 mixed:=by kernel_rfl
 f143:=Tryz.func205.trans (congrArg some (by kernel_rfl))
 f144:=Tryz.func195.trans (congrArg some (by kernel_rfl))
 f217:=Tryz.func160.trans (congrArg some (by kernel_rfl))
 f219:=Tryz.func234.trans (congrArg some (by kernel_rfl))
 f224:=Tryz.func262.trans (congrArg some (by kernel_rfl))
 f225:=Tryz.func261.trans (congrArg some (by kernel_rfl))
 f266:=Tryz.func206.trans (congrArg some (by kernel_rfl))
 f267:=Tryz.func263.trans (congrArg some (by kernel_rfl))
 f314:=Tryz.func278.trans (congrArg some (by kernel_rfl))
 t3:=Tryz.underlying3
 a3:=Tryz.isAgg3
 z3:=Tryz.sizeOf3
 v3:=Tryz.zeroValue3
 t4:=Tryz.underlying4
 a4:=Tryz.isAgg4
 z4:=Tryz.sizeOf4
 v4:=Tryz.zeroValue4
 t5:=Tryz.underlying5
 a5:=Tryz.isAgg5
 z5:=Tryz.sizeOf5
 v5:=Tryz.zeroValue5
 t9:=Tryz.underlying9
 a9:=Tryz.isAgg9
 z9:=Tryz.sizeOf9
 v9:=Tryz.zeroValue9
 t46:=Tryz.underlying156
 a46:=Tryz.isAgg156
 z46:=Tryz.sizeOf156
 v46:=Tryz.zeroValue156
 t51:=Tryz.underlying300
 a51:=Tryz.isAgg300
 z51:=Tryz.sizeOf300
 v51:=Tryz.zeroValue300
 t146:=Tryz.underlying301
 a146:=Tryz.isAgg301
 z146:=Tryz.sizeOf301
 v146:=Tryz.zeroValue301
 g1:=by kernel_rfl }
end Go.Proofs
namespace Go.Proofs.YtdigkhaofjmgkaaGreatDoor
open Go.Av Go.Shelf
def abJ (G:ao):Prop:=∃ m,G 4=some (.ip [ab m])
theorem Wv (G:ao) (hM:abJ G) (a b:List UInt8) (ha:a.length < 2^30):aw Tryz.prog G 195 [dS a,dS b] (.v (.bool (Lib.contains a b))):=by
 obtain ⟨m,hm⟩:=hM;refine aw.mM (eU.of Tryz.func195 rfl rfl) fun X w vs aI bz b8=>?_
 obtain ⟨u,v,rfl⟩:∃ u v,vs = #[u,v]:=by
  match vs,aI with
  | ⟨[u,v]⟩,_=>exact ⟨u,v,rfl⟩
 have hu:=(bz 0 u _ rfl rfl).scalar;have hv:=(bz 1 v _ rfl rfl).scalar;subst hu hv;obtain ⟨b',off,f,hp,_,_,aaB,hr⟩:=(b8 _ _ hm).acF;have h0:=aaB 0 (by simp);have h1:=(hr 0 _ rfl).scalar;rw [h1] at h0;injection hp with hp;injection hp with hp;injection hp with gv eZ _;subst gv eZ;have fj:=Any.strings_Contains (P:=Tryz.prog) (ρ:=Tryz.Ip) { Tryz.afR with } (bs a) (bs b) m w (by rw [bh];omega) h0;refine fj.mono fun e w' ⟨he,hw⟩=>⟨_,he,by rw [hw];exact bU.refl _,?_⟩;rw [aao,aao];exact .v _
end Go.Proofs.YtdigkhaofjmgkaaGreatDoor
