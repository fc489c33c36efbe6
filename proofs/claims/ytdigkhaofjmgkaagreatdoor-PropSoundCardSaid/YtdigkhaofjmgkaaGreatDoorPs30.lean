/- Parts. -/
import Derived.Test.YtdigkhaofjmgkaaGreatDoorPs27
import Derived.Test.YtdigkhaofjmgkaaGreatDoorPs29
import Derived.Laws.OwnMore
set_option linter.unusedSimpArgs false
set_option linter.unusedVariables false
open Go.Proofs.Tryz
namespace Go.Proofs.YtdigkhaofjmgkaaGreatDoor
open Go.Av Go.Shelf Go.RowKit
theorem Qx (w:World) (x:Nat) (hx:x<=1114111):Calls prog 175 #[.int .i32 x] w fun e w'=>e = .returned (.bool (kW x))/\w'=w:=by
 go_enter func175,ntmps175
 go_wp2
 go_ret
 refine⟨?_,rfl⟩;unfold kW;by_cases h:x=32
 .simp[h]
 .have h2:¬ ((x:Int)=32):=by omega
  simp[h,h2]
theorem EB (G:Yt) (t:Tx) (ht:t.length < 2^30):ao prog G 174 [dS t,.fn (.func 175) []] (.sl (some true) ((eb t).map fun s=>[dS s])):=by
 refine HB (fm.of func174 rfl rfl) fun X w vs ZR aK bq ck=>?_
 obtain⟨u,v,rfl⟩:∃ u v,vs = #[u,v]:=by
  match vs,aK with
  | ⟨[u,v]⟩,_=>exact⟨u,v,rfl⟩
 have hu:=(bq 0 u _ rfl rfl).scalar;have hv:=bq 1 v _ rfl rfl;subst hu
 obtain rfl:v = .func (.func 175) #[] #[]:=by
  generalize hy:D.fn _ _=y at hv;cases hv<;>cases hy;rename_i arr hn _;obtain rfl:arr = #[]:=Array.size_eq_zero_iff.1 hn;rfl
 have hL:Lays.n229 prog Tryz.G8:={ Tryz.Q6 with };have hp:PredAtRunes prog 175 #[] kW w:=fun W x hx _=>(Qx W x hx).mono fun e w' ⟨he,hw⟩=>⟨he,0,by rw[hw];rfl⟩;have kb:=Any.strings_FieldsFunc_runes hL 175 #[] (enters_of func175 (by kernel_rfl) rfl) kW (bs t) w (by rw[bF];omega) hp (by kernel_rfl) (by kernel_rfl);refine kb.mono fun e w' ⟨A,he,hA,Pt,hB⟩=>⟨_,he,sd hB,?_⟩;rw[<- EC,List.map_map]
 have hlen:(Lib.goFieldsP kW (bs t)).length=(eb t).length:=by rw[<- EC,List.length_map]
 have hwl:=C8 t;refine Ut (fun hx=>by have:=ZR _ hx;omega) (Nat.le_refl _) (by rw[hlen];unfold maxLen;omega) fun i hi=>?_;have hc:=Pt.cellAt i (by omega);rw[hc];simp[hi]
