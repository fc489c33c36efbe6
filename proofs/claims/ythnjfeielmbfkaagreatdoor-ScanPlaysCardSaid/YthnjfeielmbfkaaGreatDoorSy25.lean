/-
  Texts that belong together,in one file: Sh5,U3.
-/
import Derived.Test.YthnjfeielmbfkaaGreatDoorSy24
import Derived.Test.YthnjfeielmbfkaaGreatDoorProg
import Derived.Ground.NamesProg
import Derived.Shelf.Strings.Search3
set_option linter.unusedSimpArgs false
set_option linter.unusedVariables false
namespace Go.Proofs
open Go.Shelf
def Tryz.lays144_ren:Go.Shelf.Ren:=⟨fun | 144=>78 | 143=>130 | 219=>177 | 217=>132 | 225=>226 | 224=>227 | 267=>228 | 266=>180 | 314=>256 | n=>n,fun | 9=>9 | 4=>4 | 3=>3 | 5=>5 | 46=>120 | 146=>307 | 51=>304 | n=>n,fun | 1=>5 | n=>n⟩
theorem Tryz.lays144:Go.Proofs.Lays.n144 Tryz.prog Tryz.lays144_ren:={
 mixed:=by kernel_rfl
 f143:=Tryz.func130.trans (congrArg some (by kernel_rfl))
 f144:=Tryz.func78.trans (congrArg some (by kernel_rfl))
 f217:=Tryz.func132.trans (congrArg some (by kernel_rfl))
 f219:=Tryz.func177.trans (congrArg some (by kernel_rfl))
 f224:=Tryz.func227.trans (congrArg some (by kernel_rfl))
 f225:=Tryz.func226.trans (congrArg some (by kernel_rfl))
 f266:=Tryz.func180.trans (congrArg some (by kernel_rfl))
 f267:=Tryz.func228.trans (congrArg some (by kernel_rfl))
 f314:=Tryz.func256.trans (congrArg some (by kernel_rfl))
 t3:=Tryz.underlying3
 a3:=Tryz.isAgg3
 z3:=Tryz.sizeOf3
 v3:=Tryz.zeroValue3
 t4:=Tryz.underlying4
 a4:=Tryz.isAgg4
 z4:=Tryz.sizeOf4
 v4:=Tryz.zeroValue4
 t5:=Tryz.underlying5
 a5:=Tryz.isAgg5
 z5:=Tryz.sizeOf5
 v5:=Tryz.zeroValue5
 t9:=Tryz.underlying9
 a9:=Tryz.isAgg9
 z9:=Tryz.sizeOf9
 v9:=Tryz.zeroValue9
 t46:=Tryz.underlying120
 a46:=Tryz.isAgg120
 z46:=Tryz.sizeOf120
 v46:=Tryz.zeroValue120
 t51:=Tryz.underlying304
 a51:=Tryz.isAgg304
 z51:=Tryz.sizeOf304
 v51:=Tryz.zeroValue304
 t146:=Tryz.underlying307
 a146:=Tryz.isAgg307
 z146:=Tryz.sizeOf307
 v146:=Tryz.zeroValue307
 g1:=by kernel_rfl }
end Go.Proofs
namespace Go.Proofs.YthnjfeielmbfkaaGreatDoor
open Go.Av Go.Shelf
def HasMax (G:Glob):Prop:=∃ m,G 5=some (.ip [dNum m])
theorem scontains_spec (G:Glob) (hM:HasMax G) (a b:List UInt8) (ha:a.length < 2^30):PureC Tryz.prog G 78 [dS a,dS b] (.v (.bool (Lib.contains a b))):=by
 obtain ⟨m,hm⟩:=hM
 refine PureC.of_calls (Fun.of Tryz.func78 rfl rfl) fun X w vs hsz hrd hgl=>?_
 obtain ⟨u,v,rfl⟩:∃ u v,vs = #[u,v]:=by
  match vs,hsz with
  | ⟨[u,v]⟩,_=>exact ⟨u,v,rfl⟩
 have hu:=(hrd 0 u _ rfl rfl).scalar
 have hv:=(hrd 1 v _ rfl rfl).scalar
 subst hu hv
 obtain ⟨b',off,f,hp,_,_,hcell,hr⟩:=(hgl _ _ hm).ip_inv
 have h0:=hcell 0 (by simp)
 have h1:=(hr 0 _ rfl).scalar
 rw [h1] at h0
 injection hp with hp
 injection hp with hp
 injection hp with hp1 hp2 _
 subst hp1 hp2
 have hcon:=Any.strings_Contains (P:=Tryz.prog) (ρ:=Tryz.lays144_ren) { Tryz.lays144 with } (bs a) (bs b) m w (by rw [bs_size];omega) h0
 refine hcon.mono fun e w' ⟨he,hw⟩=>⟨_,he,by rw [hw];exact Grew.refl _,?_⟩;rw [bs_data,bs_data];exact .v _
end Go.Proofs.YthnjfeielmbfkaaGreatDoor
