/- Parts. -/
import Derived.Test.YtoohljflflnbeaaGreatDoorFr32
import Derived.Test.YtoohljflflnbeaaGreatDoorFr34
import Derived.Laws.OwnMore
set_option linter.unusedSimpArgs false
set_option linter.unusedVariables false
open Go.Proofs.Tryz
namespace Go.Proofs.YtoohljflflnbeaaGreatDoor
open Go.Av Go.Shelf Go.RowKit
theorem abm (w:World) (x:Nat) (hx:x<=1114111):Calls prog 238 #[.int .i32 x] w fun e w'=>e = .returned (.bool (rO x))/\w'=w:=by
 go_enter func238,ntmps238
 go_wp2
 go_ret
 refine⟨?_,rfl⟩;unfold rO;by_cases h:x=32
 .simp[h]
 .have h2:¬ ((x:Int)=32):=aa
  simp[h,h2]
theorem O6 (G:ay) (t:Tx) (ht:t.length < 2^30):aD prog G 237 [dS t,.fn (.func 238) []] (.sl (some true) ((iT t).map fun s=>[dS s])):=by
 refine G4 (iA.of func237 rfl rfl) fun X w vs kD bd bY dt=>?_
 obtain⟨u,v,rfl⟩:∃ u v,vs = #[u,v]:=by
  match vs,bd with
  | ⟨[u,v]⟩,_=>exact⟨u,v,rfl⟩
 have hu:=(bY 0 u _ rfl rfl).scalar;have hv:=bY 1 v _ rfl rfl;subst hu
 obtain rfl:v = .func (.func 238) #[] #[]:=by
  generalize hy:D.fn _ _=y at hv;cases hv<;>cases hy;rename_i arr hn _;obtain rfl:arr = #[]:=Array.size_eq_zero_iff.1 hn;rfl
 have hL:Lays.n229 prog Tryz.RT:={ Tryz.abW with };have hp:PredAtRunes prog 238 #[] rO w:=fun W x hx _=>(abm W x hx).mono fun e w' ⟨he,hw⟩=>⟨he,0,by rw[hw];rfl⟩;have iW:=Any.strings_FieldsFunc_runes hL 238 #[] (enters_of func238 ah rfl) rO (bs t) w (by rw[bN];omega) hp ah ah;refine iW.mono fun e w' ⟨A,he,hA,aaI,hB⟩=>⟨_,he,xw hB,?_⟩;rw[<- O7,ajN]
 have hlen:(Lib.goFieldsP rO (bs t)).length=(iT t).length:=by rw[<- O7,aki]
 have lX:=HU t;refine Tm (fun hx=>by have:=kD _ hx;omega) (ajJ _) (by rw[hlen];unfold maxLen;omega) fun i hi=>?_;have hc:=aaI.cellAt i aa;rw[hc];simp[hi]
