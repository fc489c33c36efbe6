/-
  Texts that belong together,in one file: LB2.
-/
import Derived.Test.YtpboiimemmfkiaaGreatDoorRp30
import Derived.Shelf.Strings.FieldsFuncAny
import Derived.Laws.OwnMore
set_option linter.unusedSimpArgs false
set_option linter.unusedVariables false
namespace Go.Proofs.YtpboiimemmfkiaaGreatDoor
open Go.Av Go.Shelf Go.RowKit
theorem isblank_calls (w:World) (x:Nat) (hx:x≤1114111):Calls Tryz.prog 211 #[.int .i32 x] w fun e w'=>e = .returned (.bool (isBl x))∧w'=w:=by
 go_enter Tryz.func211,Tryz.ntmps211
 go_wp2
 go_ret
 refine ⟨?_,rfl⟩;unfold isBl
 by_cases h:x=32
 ·simp [h]
 ·have h2:¬ ((x:Int)=32):=by omega
  simp [h,h2]
theorem fields_spec (G:Glob) (t:Tx) (ht:t.length < 2^30):PureC Tryz.prog G 210 [dS t,.fn (.func 211) []] (.sl (some true) ((wordsT t).map fun s=>[dS s])):=by
 refine of_callsX (Fun.of Tryz.func210 rfl rfl) fun X w vs hfit hsz hrd hgl=>?_
 obtain ⟨u,v,rfl⟩:∃ u v,vs = #[u,v]:=by
  match vs,hsz with
  | ⟨[u,v]⟩,_=>exact ⟨u,v,rfl⟩
 have hu:=(hrd 0 u _ rfl rfl).scalar
 have hv:=hrd 1 v _ rfl rfl
 subst hu
 obtain rfl:v = .func (.func 211) #[] #[]:=by
  generalize hy:D.fn _ _=y at hv
  cases hv<;>cases hy
  rename_i arr hn _
  obtain rfl:arr = #[]:=Array.size_eq_zero_iff.1 hn
  rfl
 have hL:Lays.n229 Tryz.prog Tryz.lays229_ren:={ Tryz.lays229 with }
 have hp:PredAtRunes Tryz.prog 211 #[] isBl w:=fun W x hx _=>(isblank_calls W x hx).mono fun e w' ⟨he,hw⟩=>⟨he,0,by rw [hw];rfl⟩
 have hcon:=Any.strings_FieldsFunc_runes hL 211 #[] (enters_of Tryz.func211 (by kernel_rfl) rfl) isBl (bs t) w (by rw [bs_size];omega) hp (by kernel_rfl) (by kernel_rfl)
 refine hcon.mono fun e w' ⟨A,he,hA,hown,hB⟩=>⟨_,he,below_grew hB,?_⟩;rw [← fields_words,List.map_map]
 have hlen:(Lib.goFieldsP isBl (bs t)).length=(wordsT t).length:=by rw [← fields_words,List.length_map]
 have hwl:=wordsT_len t
 refine rd_strs (fun hx=>by have:=hfit _ hx;omega) (Nat.le_refl _) (by rw [hlen];unfold maxLen;omega) fun i hi=>?_
 have hc:=hown.cellAt i (by omega)
 rw [hc];simp [hi]
end Go.Proofs.YtpboiimemmfkiaaGreatDoor
