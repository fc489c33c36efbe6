/- Parts. -/
import Derived.Test.YtdigkhaofjmgkaaGreatDoorMs32
import Derived.Test.YtdigkhaofjmgkaaGreatDoorMs34
import Derived.Laws.OwnMore
set_option linter.unusedSimpArgs false
set_option linter.unusedVariables false
open Go.Proofs.Tryz
namespace Go.Proofs.YtdigkhaofjmgkaaGreatDoor
open Go.Av Go.Shelf Go.RowKit
theorem R4 (w:World) (x:Nat) (hx:x<=1114111):Calls prog 175 #[.int .i32 x] w fun e w'=>e = .returned (.bool (mv x))/\w'=w:=by
 go_enter func175,ntmps175
 go_wp2
 go_ret
 refine⟨?_,rfl⟩;unfold mv;by_cases h:x=32
 .simp[h]
 .have h2:¬ ((x:Int)=32):=by omega
  simp[h,h2]
theorem Gt (G:ao) (t:Tx) (ht:t.length < 2^30):ar prog G 174 [dS t,.fn (.func 175) []] (.sl (some true) ((fy t).map fun s=>[dS s])):=by
 refine zK (e7.of func174 rfl rfl) fun X w vs iz aK bC cq=>?_
 obtain⟨u,v,rfl⟩:∃ u v,vs = #[u,v]:=by
  match vs,aK with
  | ⟨[u,v]⟩,_=>exact⟨u,v,rfl⟩
 have hu:=(bC 0 u _ rfl rfl).scalar;have hv:=bC 1 v _ rfl rfl;subst hu
 obtain rfl:v = .func (.func 175) #[] #[]:=by
  generalize hy:D.fn _ _=y at hv;cases hv<;>cases hy;rename_i arr hn _;obtain rfl:arr = #[]:=Array.size_eq_zero_iff.1 hn;rfl
 have hL:Lays.n229 prog Tryz.IP:={ Tryz.SM with };have hp:PredAtRunes prog 175 #[] mv w:=fun W x hx _=>(R4 W x hx).mono fun e w' ⟨he,hw⟩=>⟨he,0,by rw[hw];rfl⟩;have fC:=Any.strings_FieldsFunc_runes hL 175 #[] (enters_of func175 (by kernel_rfl) rfl) mv (bs t) w (by rw[bl];omega) hp (by kernel_rfl) (by kernel_rfl);refine fC.mono fun e w' ⟨A,he,hA,Q9,hB⟩=>⟨_,he,ad6 hB,?_⟩;rw[<- Gu,List.map_map]
 have hlen:(Lib.goFieldsP mv (bs t)).length=(fy t).length:=by rw[<- Gu,List.length_map]
 have jS:=afp t;refine J7 (fun hx=>by have:=iz _ hx;omega) (Nat.le_refl _) (by rw[hlen];unfold maxLen;omega) fun i hi=>?_;have hc:=Q9.cellAt i (by omega);rw[hc];simp[hi]
