/-
  Texts that belong together,in one file: LB2.
-/
import Derived.Test.YtdigkhaofjmgkaaGreatDoorMk32
import Derived.Test.YtdigkhaofjmgkaaGreatDoorMk34
import Derived.Laws.OwnMore
set_option linter.unusedSimpArgs false
set_option linter.unusedVariables false
namespace Go.Proofs.YtdigkhaofjmgkaaGreatDoor
open Go.Av Go.Shelf Go.RowKit
theorem Rw (w:World) (x:Nat) (hx:x<=1114111):Calls Tryz.prog 175 #[.int .i32 x] w fun e w'=>e = .returned (.bool (acG x))/\w'=w:=by
 go_enter Tryz.func175,Tryz.ntmps175
 go_wp2
 go_ret
 refine ⟨?_,rfl⟩;unfold acG;by_cases h:x=32
 .simp [h]
 .have h2:¬ ((x:Int)=32):=by omega
  simp [h,h2]
theorem Gp (G:ao) (t:Tx) (ht:t.length < 2^30):aw Tryz.prog G 174 [dS t,.fn (.func 175) []] (.sl (some true) ((fe t).map fun s=>[dS s])):=by
 refine zv (eU.of Tryz.func174 rfl rfl) fun X w vs ic aI bz b8=>?_
 obtain ⟨u,v,rfl⟩:∃ u v,vs = #[u,v]:=by
  match vs,aI with
  | ⟨[u,v]⟩,_=>exact ⟨u,v,rfl⟩
 have hu:=(bz 0 u _ rfl rfl).scalar;have hv:=bz 1 v _ rfl rfl;subst hu
 obtain rfl:v = .func (.func 175) #[] #[]:=by
  generalize hy:D.fn _ _=y at hv;cases hv<;>cases hy;rename_i arr hn _;obtain rfl:arr = #[]:=Array.size_eq_zero_iff.1 hn;rfl
 have hL:Lays.n229 Tryz.prog Tryz.Ix:={ Tryz.Se with };have hp:PredAtRunes Tryz.prog 175 #[] acG w:=fun W x hx _=>(Rw W x hx).mono fun e w' ⟨he,hw⟩=>⟨he,0,by rw [hw];rfl⟩;have fj:=Any.strings_FieldsFunc_runes hL 175 #[] (enters_of Tryz.func175 (by kernel_rfl) rfl) acG (bs t) w (by rw [bh];omega) hp (by kernel_rfl) (by kernel_rfl);refine fj.mono fun e w' ⟨A,he,hA,QJ,hB⟩=>⟨_,he,qq hB,?_⟩;rw [<- Gq,List.map_map]
 have hlen:(Lib.goFieldsP acG (bs t)).length=(fe t).length:=by rw [<- Gq,List.length_map]
 have jh:=Ao t;refine JN (fun hx=>by have:=ic _ hx;omega) (Nat.le_refl _) (by rw [hlen];unfold maxLen;omega) fun i hi=>?_;have hc:=QJ.cellAt i (by omega);rw [hc];simp [hi]
end Go.Proofs.YtdigkhaofjmgkaaGreatDoor
