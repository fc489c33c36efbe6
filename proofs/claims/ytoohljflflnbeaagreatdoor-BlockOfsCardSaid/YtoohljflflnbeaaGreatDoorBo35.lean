/- Parts. -/
import Derived.Test.YtoohljflflnbeaaGreatDoorBo32
import Derived.Test.YtoohljflflnbeaaGreatDoorBo34
import Derived.Laws.OwnMore
set_option linter.unusedSimpArgs false
set_option linter.unusedVariables false
open Go.Proofs.Tryz
namespace Go.Proofs.YtoohljflflnbeaaGreatDoor
open Go.Av Go.Shelf Go.RowKit
theorem aal (w:World) (x:Nat) (hx:x<=1114111):Calls prog 238 #[.int .i32 x] w fun e w'=>e = .returned (.bool (qL x))/\w'=w:=by
 go_enter func238,ntmps238
 go_wp2
 go_ret
 refine⟨?_,rfl⟩;unfold qL;by_cases h:x=32
 .simp[h]
 .have h2:¬ ((x:Int)=32):=aa
  simp[h,h2]
theorem My (G:aC) (t:Tx) (ht:t.length < 2^30):aD prog G 237 [dS t,.fn (.func 238) []] (.sl (some true) ((iw t).map fun s=>[dS s])):=by
 refine Fk (gS.of func237 rfl rfl) fun X w vs lK bg cf dz=>?_
 obtain⟨u,v,rfl⟩:∃ u v,vs = #[u,v]:=by
  match vs,bg with
  | ⟨[u,v]⟩,_=>exact⟨u,v,rfl⟩
 have hu:=(cf 0 u _ rfl rfl).scalar;have hv:=cf 1 v _ rfl rfl;subst hu
 obtain rfl:v = .func (.func 238) #[] #[]:=by
  generalize hy:D.fn _ _=y at hv;cases hv<;>cases hy;rename_i arr hn _;obtain rfl:arr = #[]:=Array.size_eq_zero_iff.1 hn;rfl
 have hL:Lays.n229 prog Tryz.Pa:={ Tryz.aaU with };have hp:PredAtRunes prog 238 #[] qL w:=fun W x hx _=>(aal W x hx).mono fun e w' ⟨he,hw⟩=>⟨he,0,by rw[hw];rfl⟩;have iF:=Any.strings_FieldsFunc_runes hL 238 #[] (enters_of func238 ah rfl) qL (bs t) w (by rw[bQ];omega) hp ah ah;refine iF.mono fun e w' ⟨A,he,hA,Zu,hB⟩=>⟨_,he,wb hB,?_⟩;rw[<- Mz,agF]
 have hlen:(Lib.goFieldsP qL (bs t)).length=(iw t).length:=by rw[<- Mz,ag5]
 have np:=F8 t;refine Qy (fun hx=>by have:=lK _ hx;omega) (agD _) (by rw[hlen];unfold maxLen;omega) fun i hi=>?_;have hc:=Zu.cellAt i aa;rw[hc];simp[hi]
