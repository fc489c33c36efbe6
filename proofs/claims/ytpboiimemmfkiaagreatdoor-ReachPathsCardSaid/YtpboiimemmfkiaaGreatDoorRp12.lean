/-
  Texts that belong together,in one file: Ty,F1,F2.
-/
import Derived.Test.YtpboiimemmfkiaaGreatDoorRp11
import Derived.Test.YtpboiimemmfkiaaGreatDoorProg
set_option linter.unusedSimpArgs false
set_option linter.unusedVariables false
namespace Go.Proofs.YtpboiimemmfkiaaGreatDoor
open Go.Av
@[simp] theorem ty3:tyOf Tryz.prog 3=some ⟨.int .i64,1,8,.int .i64 0,peOf Tryz.prog 3⟩:=by kernel_rfl
@[simp] theorem ty4:tyOf Tryz.prog 4=some ⟨.bool,1,1,.bool false,peOf Tryz.prog 4⟩:=by kernel_rfl
@[simp] theorem ty9:tyOf Tryz.prog 9=some ⟨.string,1,16,.string ⟨#[]⟩,peOf Tryz.prog 9⟩:=by kernel_rfl
@[simp] theorem ty30:tyOf Tryz.prog 30=some ⟨.int .i64,1,8,.int .i64 0,peOf Tryz.prog 30⟩:=by kernel_rfl
@[simp] theorem ty34:tyOf Tryz.prog 34=some ⟨.slice 124,1,24,.slice none 0 0,peOf Tryz.prog 34⟩:=by kernel_rfl
@[simp] theorem ty35:tyOf Tryz.prog 35=some ⟨.slice 153,1,24,.slice none 0 0,peOf Tryz.prog 35⟩:=by kernel_rfl
@[simp] theorem ty37:tyOf Tryz.prog 37=some ⟨.struct #[{ name:="Names",type:=34,offset:=0,embedded:=false,tag:="",pkgPath:="",byteOffset:=0 },{ name:="Rungs",type:=35,offset:=1,embedded:=false,tag:="",pkgPath:="",byteOffset:=24 }],2,48,.agg #[.slice none 0 0,.slice none 0 0],peOf Tryz.prog 37⟩:=by kernel_rfl
@[simp] theorem ty39:tyOf Tryz.prog 39=some ⟨.interface #[("Error",174)],1,16,.nilIface,peOf Tryz.prog 39⟩:=by kernel_rfl
@[simp] theorem ty43:tyOf Tryz.prog 43=some ⟨.interface #[("Text",174)],1,16,.nilIface,peOf Tryz.prog 43⟩:=by kernel_rfl
@[simp] theorem ty49:tyOf Tryz.prog 49=some ⟨.func #[43] #[9] false,1,8,.nilFunc,peOf Tryz.prog 49⟩:=by kernel_rfl
@[simp] theorem ty51:tyOf Tryz.prog 51=some ⟨.slice 3,1,24,.slice none 0 0,peOf Tryz.prog 51⟩:=by kernel_rfl
@[simp] theorem ty52:tyOf Tryz.prog 52=some ⟨.pointer 59,1,8,.pointer none,peOf Tryz.prog 52⟩:=by kernel_rfl
@[simp] theorem ty56:tyOf Tryz.prog 56=some ⟨.slice 51,1,24,.slice none 0 0,peOf Tryz.prog 56⟩:=by kernel_rfl
@[simp] theorem ty57:tyOf Tryz.prog 57=some ⟨.slice 187,1,24,.slice none 0 0,peOf Tryz.prog 57⟩:=by kernel_rfl
@[simp] theorem ty59:tyOf Tryz.prog 59=some ⟨.struct #[{ name:="Program",type:=37,offset:=0,embedded:=false,tag:="",pkgPath:="",byteOffset:=0 },{ name:="States",type:=3,offset:=2,embedded:=false,tag:="",pkgPath:="",byteOffset:=48 },{ name:="Inputs",type:=3,offset:=3,embedded:=false,tag:="",pkgPath:="",byteOffset:=56 },{ name:="Next",type:=56,offset:=4,embedded:=false,tag:="",pkgPath:="",byteOffset:=64 },{ name:="parts",type:=57,offset:=5,embedded:=false,tag:="",pkgPath:="signalcabin/machine",byteOffset:=88 },{ name:="in",type:=51,offset:=6,embedded:=false,tag:="",pkgPath:="signalcabin/machine",byteOffset:=112 }],7,136,.agg #[.slice none 0 0,.slice none 0 0,.int .i64 0,.int .i64 0,.slice none 0 0,.slice none 0 0,.slice none 0 0],peOf Tryz.prog 59⟩:=by kernel_rfl
@[simp] theorem ty63:tyOf Tryz.prog 63=some ⟨.slice 67,1,24,.slice none 0 0,peOf Tryz.prog 63⟩:=by kernel_rfl
@[simp] theorem ty67:tyOf Tryz.prog 67=some ⟨.slice 4,1,24,.slice none 0 0,peOf Tryz.prog 67⟩:=by kernel_rfl
@[simp] theorem ty72:tyOf Tryz.prog 72=some ⟨.struct #[{ name:="Is",type:=67,offset:=0,embedded:=false,tag:="",pkgPath:="",byteOffset:=0 },{ name:="Count",type:=51,offset:=1,embedded:=false,tag:="",pkgPath:="",byteOffset:=24 }],2,48,.agg #[.slice none 0 0,.slice none 0 0],peOf Tryz.prog 72⟩:=by kernel_rfl
@[simp] theorem ty94:tyOf Tryz.prog 94=some ⟨.func #[9] #[4] false,1,8,.nilFunc,peOf Tryz.prog 94⟩:=by kernel_rfl
@[simp] theorem ty113:tyOf Tryz.prog 113=some ⟨.slice 9,1,24,.slice none 0 0,peOf Tryz.prog 113⟩:=by kernel_rfl
@[simp] theorem ty124:tyOf Tryz.prog 124=some ⟨.struct #[{ name:="Name",type:=9,offset:=0,embedded:=false,tag:="",pkgPath:="",byteOffset:=0 },{ name:="Kind",type:=3,offset:=1,embedded:=false,tag:="",pkgPath:="",byteOffset:=16 },{ name:="Count",type:=3,offset:=2,embedded:=false,tag:="",pkgPath:="",byteOffset:=24 }],3,32,.agg #[.string ⟨#[]⟩,.int .i64 0,.int .i64 0],true⟩:=by kernel_rfl
@[simp] theorem ty146:tyOf Tryz.prog 146=some ⟨.slice 43,1,24,.slice none 0 0,peOf Tryz.prog 146⟩:=by kernel_rfl
@[simp] theorem ty147:tyOf Tryz.prog 147=some ⟨.string,1,16,.string ⟨#[]⟩,peOf Tryz.prog 147⟩:=by kernel_rfl
@[simp] theorem ty149:tyOf Tryz.prog 149=some ⟨.struct #[{ name:="Of",type:=43,offset:=0,embedded:=false,tag:="",pkgPath:="",byteOffset:=0 }],1,16,.agg #[.nilIface],peOf Tryz.prog 149⟩:=by kernel_rfl
@[simp] theorem ty153:tyOf Tryz.prog 153=some ⟨.struct #[{ name:="Kind",type:=3,offset:=0,embedded:=false,tag:="",pkgPath:="",byteOffset:=0 },{ name:="Name",type:=9,offset:=1,embedded:=false,tag:="",pkgPath:="",byteOffset:=8 },{ name:="If",type:=43,offset:=2,embedded:=false,tag:="",pkgPath:="",byteOffset:=24 }],3,40,.agg #[.int .i64 0,.string ⟨#[]⟩,.nilIface],peOf Tryz.prog 153⟩:=by kernel_rfl
@[simp] theorem ty157:tyOf Tryz.prog 157=some ⟨.slice 43,1,24,.slice none 0 0,peOf Tryz.prog 157⟩:=by kernel_rfl
@[simp] theorem ty158:tyOf Tryz.prog 158=some ⟨.slice 43,1,24,.slice none 0 0,peOf Tryz.prog 158⟩:=by kernel_rfl
@[simp] theorem ty159:tyOf Tryz.prog 159=some ⟨.string,1,16,.string ⟨#[]⟩,peOf Tryz.prog 159⟩:=by kernel_rfl
@[simp] theorem ty161:tyOf Tryz.prog 161=some ⟨.string,1,16,.string ⟨#[]⟩,peOf Tryz.prog 161⟩:=by kernel_rfl
@[simp] theorem ty162:tyOf Tryz.prog 162=some ⟨.bool,1,1,.bool false,peOf Tryz.prog 162⟩:=by kernel_rfl
@[simp] theorem ty181:tyOf Tryz.prog 181=some ⟨.map 3 4,1,8,.map none,peOf Tryz.prog 181⟩:=by kernel_rfl
@[simp] theorem ty184:tyOf Tryz.prog 184=some ⟨.int .u64,1,8,.int .u64 0,peOf Tryz.prog 184⟩:=by kernel_rfl
@[simp] theorem ty187:tyOf Tryz.prog 187=some ⟨.struct #[{ name:="name",type:=3,offset:=0,embedded:=false,tag:="",pkgPath:="signalcabin/machine",byteOffset:=0 },{ name:="most",type:=3,offset:=1,embedded:=false,tag:="",pkgPath:="signalcabin/machine",byteOffset:=8 },{ name:="far",type:=4,offset:=2,embedded:=false,tag:="",pkgPath:="signalcabin/machine",byteOffset:=16 }],3,24,.agg #[.int .i64 0,.int .i64 0,.bool false],true⟩:=by kernel_rfl
@[simp] theorem ty222:tyOf Tryz.prog 222=some ⟨.pointer 223,1,8,.pointer none,peOf Tryz.prog 222⟩:=by kernel_rfl
@[simp] theorem ty223:tyOf Tryz.prog 223=some ⟨.struct #[{ name:="Err",type:=30,offset:=0,embedded:=false,tag:="",pkgPath:="",byteOffset:=0 },{ name:="Place",type:=3,offset:=1,embedded:=false,tag:="",pkgPath:="",byteOffset:=8 }],2,16,.agg #[.int .i64 0,.int .i64 0],true⟩:=by kernel_rfl
@[simp] theorem ty251:tyOf Tryz.prog 251=some ⟨.pointer 153,1,8,.pointer none,peOf Tryz.prog 251⟩:=by kernel_rfl
@[simp] theorem ty275:tyOf Tryz.prog 275=some ⟨.array 7 3,7,56,.agg #[.int .i64 0,.int .i64 0,.int .i64 0,.int .i64 0,.int .i64 0,.int .i64 0,.int .i64 0],peOf Tryz.prog 275⟩:=by kernel_rfl
@[simp] theorem ty362:tyOf Tryz.prog 362=some ⟨.struct #[{ name:="text",type:=9,offset:=0,embedded:=false,tag:="",pkgPath:="signalcabin/expr",byteOffset:=0 },{ name:="at",type:=3,offset:=1,embedded:=false,tag:="",pkgPath:="signalcabin/expr",byteOffset:=16 }],2,24,.agg #[.string ⟨#[]⟩,.int .i64 0],true⟩:=by kernel_rfl
end Go.Proofs.YtpboiimemmfkiaaGreatDoor
namespace Go.Proofs.YtpboiimemmfkiaaGreatDoor
open Go.Av
def dInts (k:Option Bool) (l:List Int):D:=.sl k (l.map fun n=>[.v (.int .i64 n)])
theorem take_eq_all {l l':List Int} (hl:l.length=l'.length) (h:l.take l.length=l'.take l.length):l=l':=by
 rw [List.take_length,hl,List.take_length] at h;exact h
theorem take_step {l l':List Int} {k:Nat} (h:l.take k=l'.take k) (hk:k < l.length) (hk':k < l'.length) (he:l[k]=l'[k]):l.take (k+1)=l'.take (k+1):=by
 rw [List.take_succ_eq_append_getElem hk,List.take_succ_eq_append_getElem hk',h,he]
set_option maxHeartbeats 1000000 in
theorem sameInts_spec (G:Glob) (k k':Option Bool) (l l':List Int) (h:l.length < 2^63):PureC Tryz.prog G 70 [dInts k l,dInts k' l'] (.v (.bool (l == l'))):=by
 refine PureC.of_body (tyOf_good _) Tryz.func70 rfl rfl (rs:=[.tmp 4]) Tryz.results70 (by simp [Tryz.ntmps70]) fun X=>?_;simp only [Tryz.ntmps70,List.map];refine rg0 [0,1] [] ?_;refine AW_then fun K1 hK1=>?_;refine rgq @dInts.eq_1 [0,1,10] [] ?_;refine AW_cond' (b:=l.length≠l'.length) (by simp [D.le,D.le.go,takeMap]) (fun hc=>?_) (fun hc=>?_)
 ·refine rg0 [4] [] ?_;refine AW_ret ?_;simp [D.le,D.le.go,takeMap]
  intro e;subst e;simp at hc
 ·refine AW_skip (hK1 _ ?_)
  have hl:l.length=l'.length:=by simpa using hc
  refine AW_then fun K2 hK2=>?_;refine rgq @dInts.eq_1 [0,1,5] [] ?_;refine AW_for (S:=Nat) (fun n=>n≤l.length∧l.take n=l'.take n) (fun n=>⟨lst [(0,.d (dInts k l)),(1,.d (dInts k' l')),(5,int n)],hlst []⟩) (fun n=>l.length - n) 0 ?_ (by simp) ?_
  ·refine Imp.to' (fun _ _=>trivial) (by simp [dInts]) (by simp [dInts])
  ·rintro n ⟨hn,ht⟩
   refine AW_then fun K3 hK3=>?_;refine rgq @dInts.eq_1 [0,1,5,14] [] ?_;refine AW_cond' (b:=n < l.length) (by simp [D.le,D.le.go,takeMap]) (fun hc=>?_) (fun hc=>?_)
   ·refine AW_skip (hK3 _ ?_);refine AW_then fun K4 hK4=>?_;refine AW_block ?_
    have hn':n < l'.length:=by omega
    have qf:=(Aq @dInts.eq_1 (Aq @hc @hn'))
    refine rdqv [0,1,5,25] [] ?_;refine AW_cond' (b:=¬ l[n]=l'[n]) (by simp [D.le,D.le.go,takeMap]) (fun hc=>?_) (fun hc=>?_)
    ·refine rg0 [4] [] ?_;refine AW_ret ?_;simp [D.le,D.le.go,takeMap]
     intro e;subst e;simp at hc
    ·refine AW_skip (hK4 _ ?_);refine AW_re (tyOf_good _) fun K' hK'=>?_;(repeat (refine sxn fun K2 hK2=>?_;simp;(repeat (refine ⟨by omega,?_⟩));refine hK2 _ ?_;clear hK2 K2));refine sxz (hK' _ ?_);clear hK' K';try simp only [thn,inb]
     have he:l[n]=l'[n]:=by simpa using hc
     refine Again.mk (n+1) ⟨by omega,take_step ht (by omega) hn' he⟩ (by omega) ?_;refine Imp.to' (fun _ _=>trivial) (by simp [dInts]) (by simp [dInts])
   ·refine AW_exit (hK2 _ ?_);refine rg0 [4] [] ?_;refine AW_ret ?_;simp [D.le,D.le.go,takeMap]
    have hnn:n=l.length:=by omega
    subst hnn;exact take_eq_all hl ht
end Go.Proofs.YtpboiimemmfkiaaGreatDoor
namespace Go.Proofs.YtpboiimemmfkiaaGreatDoor
open Go.Av
def idx {α:Type} (p:α→Bool) (l:List α):Int:=match l.findIdx? p with
 | some i=>i
 | none=>-1
theorem idx_hit {α:Type} {p:α→Bool} {l:List α} {n:Nat} (hn:n < l.length) (h:p l[n]=true) (hb:∀ i (hi:i < n),p (l[i]'(by omega))=false):idx p l=n:=by
 unfold idx
 have:l.findIdx? p=some n:=by
  rw [List.findIdx?_eq_some_iff_getElem];exact ⟨hn,h,fun j hj=>by simpa using hb j hj⟩
 rw [this]
theorem idx_miss {α:Type} {p:α→Bool} {l:List α} (hb:∀ i (hi:i < l.length),p l[i]=false):idx p l = -1:=by
 unfold idx
 have:l.findIdx? p=none:=by
  rw [List.findIdx?_eq_none_iff]
  intro x hx
  obtain ⟨i,hi,rfl⟩:=List.mem_iff_getElem.1 hx
  exact hb i hi
 rw [this]
def Answers {α:Type} (G:Glob) (g:FuncId) (caps:List D) (enc:α→D) (p:α→Bool) (xs:List α):Prop:=∀ x∈xs,PureC Tryz.prog G g (enc x :: caps) (.v (.bool (p x)))
set_option maxHeartbeats 1000000 in
theorem indexInt_spec {α:Type} (G:Glob) (k:Option Bool) (enc:α→D) (xs:List α) (g:FuncId) (caps:List D) (p:α→Bool) (hl:xs.length < 2^63) (ha:Answers G g caps enc p xs) :
  PureC Tryz.prog G 110 [.sl k (xs.map fun x=>[enc x]),.fn (.func g) caps] (.v (.int .i64 (idx p xs))):=by
 refine PureC.of_body (tyOf_good _) Tryz.func110 rfl rfl (rs:=[.tmp 4]) Tryz.results110 (by simp [Tryz.ntmps110]) fun X=>?_;simp only [Tryz.ntmps110,List.map];refine rg0 [0,1] [] ?_;refine AW_then fun K1 hK1=>?_;refine rg0 [0,1,7,8] [] ?_;refine AW_for (S:=Nat) (fun n=>n≤xs.length∧∀ i (hi:i < xs.length),i < n→p xs[i]=false) (fun n=>⟨lst [(0,.d (.sl k (xs.map fun x=>[enc x]))),(1,.d (.fn (.func g) caps)),(7,int xs.length),(8,int n)],hlst []⟩) (fun n=>xs.length - n) 0 ?_ (by simp) ?_
 ·refine Imp.to' (fun _ _=>trivial) (by simp) (by simp)
 ·rintro n ⟨hn,hp⟩
  refine rg0 [0,1,7,8,9] [] ?_;refine AW_then fun K2 hK2=>?_;refine AW_cond' (b:=n < xs.length) (by simp [D.le,D.le.go,takeMap]) (fun hc=>?_) (fun hc=>?_)
  ·refine AW_skip (hK2 _ ?_);refine AW_then fun K3 hK3=>?_;refine AW_block ?_;refine rg0 [0,1,5,7,8] [] ?_
   have qf:=@hc
   refine rgcv (ha xs[n] (by simp)) [0,1,5,7,8,16] [] ?_;refine AW_cond _ rfl (fun hp2=>?_) (fun hp2=>?_)
   ·refine rg0 [4] [] ?_;refine AW_ret ?_;simp [D.le,D.le.go,takeMap];exact (idx_hit hc hp2 fun i hi=>hp i (by omega) hi).symm
   ·refine AW_skip (hK3 _ ?_);refine AW_re (tyOf_good _) fun K' hK'=>?_;(repeat (refine sxn fun K2 hK2=>?_;simp;(repeat (refine ⟨by omega,?_⟩));refine hK2 _ ?_;clear hK2 K2));refine sxz (hK' _ ?_);clear hK' K';(try simp only [thn,inb]);refine Again.mk (n+1) ⟨by omega,fun i hi hin=>?_⟩ (by omega) ?_
    ·by_cases h:i=n
     ·subst h;exact hp2
     ·exact hp i hi (by omega)
    refine Imp.to' (fun _ _=>trivial) (by simp) (by simp)
  ·refine AW_exit (hK1 _ ?_);refine rg0 [4] [] ?_;refine AW_ret ?_;simp [D.le,D.le.go,takeMap];exact (idx_miss fun i hi=>hp i hi (by omega)).symm
theorem idx_any {α:Type} (p:α→Bool) (l:List α):decide (0≤idx p l)=l.any p:=by
 unfold idx
 split
 ·rename_i i hi
  rw [List.findIdx?_eq_some_iff_getElem] at hi
  obtain ⟨h1,h2,_⟩:=hi
  have:l.any p=true:=List.any_eq_true.2 ⟨_,List.getElem_mem h1,h2⟩
  rw [this];simp
 ·rename_i h
  rw [List.findIdx?_eq_none_iff] at h
  have:l.any p=false:=by
   rw [List.any_eq_false]
   intro x hx
   simpa using h x hx
  rw [this];simp
set_option maxHeartbeats 1000000 in
theorem containsInt_spec {α:Type} (G:Glob) (k:Option Bool) (enc:α→D) (xs:List α) (g:FuncId) (caps:List D) (p:α→Bool) (hl:xs.length < 2^63) (ha:Answers G g caps enc p xs) :
  PureC Tryz.prog G 108 [.sl k (xs.map fun x=>[enc x]),.fn (.func g) caps] (.v (.bool (xs.any p))):=by
 refine PureC.of_body (tyOf_good _) Tryz.func108 rfl rfl (rs:=[.tmp 4]) Tryz.results108 (by simp [Tryz.ntmps108]) fun X=>?_;simp only [Tryz.ntmps108,List.map];refine rg0 [0,1] [] ?_;refine rgc trivial (indexInt_spec G k enc xs g caps p hl ha) [4] [] ?_;refine AW_ret ?_;simp [D.le,D.le.go,takeMap];exact idx_any p xs
end Go.Proofs.YtpboiimemmfkiaaGreatDoor
