/- Parts. -/
import Derived.Test.YtdigkhaofjmgkaaGreatDoorIs27
import Derived.Test.YtdigkhaofjmgkaaGreatDoorIs29
import Derived.Laws.OwnMore
set_option linter.unusedSimpArgs false
set_option linter.unusedVariables false
open Go.Proofs.Tryz
namespace Go.Proofs.YtdigkhaofjmgkaaGreatDoor
open Go.Av Go.Shelf Go.RowKit
theorem Q0 (w:World) (x:Nat) (hx:x<=1114111):Calls prog 175 #[.int .i32 x] w fun e w'=>e = .returned (.bool (k6 x))/\w'=w:=by
 go_enter func175,ntmps175
 go_wp2
 go_ret
 refine⟨?_,rfl⟩;unfold k6;by_cases h:x=32
 .simp[h]
 .have h2:¬ ((x:Int)=32):=by omega
  simp[h,h2]
theorem ES (G:YI) (t:Tx) (ht:t.length < 2^30):aq prog G 174 [dS t,.fn (.func 175) []] (.sl (some true) ((dW t).map fun s=>[dS s])):=by
 refine HZ (fo.of func174 rfl rfl) fun X w vs aae aK bq Y7=>?_
 obtain⟨u,v,rfl⟩:∃ u v,vs = #[u,v]:=by
  match vs,aK with
  | ⟨[u,v]⟩,_=>exact⟨u,v,rfl⟩
 have hu:=(bq 0 u _ rfl rfl).scalar;have hv:=bq 1 v _ rfl rfl;subst hu
 obtain rfl:v = .func (.func 175) #[] #[]:=by
  generalize hy:D.fn _ _=y at hv;cases hv<;>cases hy;rename_i arr hn _;obtain rfl:arr = #[]:=Array.size_eq_zero_iff.1 hn;rfl
 have hL:Lays.n229 prog Tryz.Hv:={ Tryz.SV with };have hp:PredAtRunes prog 175 #[] k6 w:=fun W x hx _=>(Q0 W x hx).mono fun e w' ⟨he,hw⟩=>⟨he,0,by rw[hw];rfl⟩;have aaU:=Any.strings_FieldsFunc_runes hL 175 #[] (enters_of func175 (by kernel_rfl) rfl) k6 (bs t) w (by rw[bC];omega) hp (by kernel_rfl) (by kernel_rfl);refine aaU.mono fun e w' ⟨A,he,hA,PS,hB⟩=>⟨_,he,sx hB,?_⟩;rw[<- ET,List.map_map]
 have hlen:(Lib.goFieldsP k6 (bs t)).length=(dW t).length:=by rw[<- ET,List.length_map]
 have ij:=Dp t;refine UP (fun hx=>by have:=aae _ hx;omega) (Nat.le_refl _) (by rw[hlen];unfold maxLen;omega) fun i hi=>?_;have hc:=PS.cellAt i (by omega);rw[hc];simp[hi]
