/- Parts. -/
import Derived.Test.YtobejfcgcfdpfaaGreatDoorPc32
import Derived.Test.YtobejfcgcfdpfaaGreatDoorPc34
import Derived.Laws.OwnMore
set_option linter.unusedSimpArgs false
set_option linter.unusedVariables false
open Go.Proofs.Tryz
namespace Go.Proofs.YtobejfcgcfdpfaaGreatDoor
open Go.Av Go.Shelf Go.RowKit
theorem adF (w:World) (x:Nat) (hx:x<=1114111):Calls prog 139 #[.int .i32 x] w fun e w'=>e = .returned (.bool (sP x))/\w'=w:=by
 go_enter func139,ntmps139
 go_wp2
 go_ret
 refine⟨?_,rfl⟩;unfold sP;by_cases h:x=32
 .simp[h]
 .have h2:¬ ((x:Int)=32):=aa
  simp[h,h2]
theorem Rl (G:aB) (t:Tx) (ht:t.length < 2^30):aD prog G 138 [dS t,.fn (.func 139) []] (.sl (some true) ((jo t).map fun s=>[dS s])):=by
 refine IY (iV.of func138 rfl rfl) fun X w vs k9 bp bQ cW=>?_
 obtain⟨u,v,rfl⟩:∃ u v,vs = #[u,v]:=by
  match vs,bp with
  | ⟨[u,v]⟩,_=>exact⟨u,v,rfl⟩
 have hu:=(bQ 0 u _ rfl rfl).scalar;have hv:=bQ 1 v _ rfl rfl;subst hu
 obtain rfl:v = .func (.func 139) #[] #[]:=by
  generalize hy:D.fn _ _=y at hv;cases hv<;>cases hy;rename_i arr hn _;obtain rfl:arr = #[]:=Array.size_eq_zero_iff.1 hn;rfl
 have hL:Lays.n229 prog Tryz.UG:={ Tryz.aeh with };have hp:PredAtRunes prog 139 #[] sP w:=fun W x hx _=>(adF W x hx).mono fun e w' ⟨he,hw⟩=>⟨he,0,by rw[hw];rfl⟩;have ju:=Any.strings_FieldsFunc_runes hL 139 #[] (enters_of func139 ah rfl) sP (bs t) w (by rw[bX];omega) hp ah ah;refine ju.mono fun e w' ⟨A,he,hA,acR,hB⟩=>⟨_,he,yX hB,?_⟩;rw[<- Rm,amk]
 have hlen:(Lib.goFieldsP sP (bs t)).length=(jo t).length:=by rw[<- Rm,amT]
 have jH:=JT t;refine V6 (fun hx=>by have:=k9 _ hx;omega) (amh _) (by rw[hlen];unfold maxLen;omega) fun i hi=>?_;have hc:=acR.cellAt i aa;rw[hc];simp[hi]
