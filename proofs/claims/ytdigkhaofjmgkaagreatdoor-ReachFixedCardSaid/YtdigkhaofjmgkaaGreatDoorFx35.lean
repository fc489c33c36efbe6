/- Parts. -/
import Derived.Test.YtdigkhaofjmgkaaGreatDoorFx32
import Derived.Test.YtdigkhaofjmgkaaGreatDoorFx34
import Derived.Laws.OwnMore
set_option linter.unusedSimpArgs false
set_option linter.unusedVariables false
open Go.Proofs.Tryz
namespace Go.Proofs.YtdigkhaofjmgkaaGreatDoor
open Go.Av Go.Shelf Go.RowKit
theorem Ts (w:World) (x:Nat) (hx:x<=1114111):Calls prog 175 #[.int .i32 x] w fun e w'=>e = .returned (.bool (mT x))/\w'=w:=by
 go_enter func175,ntmps175
 go_wp2
 go_ret
 refine⟨?_,rfl⟩;unfold mT;by_cases h:x=32
 .simp[h]
 .have h2:¬ ((x:Int)=32):=by omega
  simp[h,h2]
theorem HG (G:aq) (t:Tx) (ht:t.length < 2^30):ar prog G 174 [dS t,.fn (.func 175) []] (.sl (some true) ((fz t).map fun s=>[dS s])):=by
 refine AM (fe.of func174 rfl rfl) fun X w vs iD aK bD hgl=>?_
 obtain⟨u,v,rfl⟩:∃ u v,vs = #[u,v]:=by
  match vs,aK with
  | ⟨[u,v]⟩,_=>exact⟨u,v,rfl⟩
 have hu:=(bD 0 u _ rfl rfl).scalar;have hv:=bD 1 v _ rfl rfl;subst hu
 obtain rfl:v = .func (.func 175) #[] #[]:=by
  generalize hy:D.fn _ _=y at hv;cases hv<;>cases hy;rename_i arr hn _;obtain rfl:arr = #[]:=Array.size_eq_zero_iff.1 hn;rfl
 have hL:Lays.n229 prog Tryz.J9:={ Tryz.T9 with };have hp:PredAtRunes prog 175 #[] mT w:=fun W x hx _=>(Ts W x hx).mono fun e w' ⟨he,hw⟩=>⟨he,0,by rw[hw];rfl⟩;have fC:=Any.strings_FieldsFunc_runes hL 175 #[] (enters_of func175 (by kernel_rfl) rfl) mT (bs t) w (by rw[bl];omega) hp (by kernel_rfl) (by kernel_rfl);refine fC.mono fun e w' ⟨A,he,hA,Sy,hB⟩=>⟨_,he,rL hB,?_⟩;rw[<- HH,abU]
 have hlen:(Lib.goFieldsP mT (bs t)).length=(fz t).length:=by rw[<- HH,ac1]
 have jT:=agP t;refine Li (fun hx=>by have:=iD _ hx;omega) (abL _) (by rw[hlen];unfold maxLen;omega) fun i hi=>?_;have hc:=Sy.cellAt i (by omega);rw[hc];simp[hi]
