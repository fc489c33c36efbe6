/- Parts. -/
import Derived.Test.YtdigkhaofjmgkaaGreatDoorMs10
import Derived.Test.YtdigkhaofjmgkaaGreatDoorProg
set_option linter.unusedSimpArgs false
set_option linter.unusedVariables false
open Go.Proofs.Tryz
namespace Go.Proofs.YtdigkhaofjmgkaaGreatDoor
open Go.Av
@[simp] theorem Lv:aaQ prog 3=some ⟨.int .i64,1,8,.int .i64 0,cW prog 3⟩:=by kernel_rfl
@[simp] theorem ty4:aaQ prog 4=some ⟨.bool,1,1,.bool false,cW prog 4⟩:=by kernel_rfl
@[simp] theorem ty5:aaQ prog 5=some ⟨.int .u8,1,1,.int .u8 0,cW prog 5⟩:=by kernel_rfl
@[simp] theorem ty9:aaQ prog 9=some ⟨.string,1,16,.string ⟨#[]⟩,cW prog 9⟩:=by kernel_rfl
@[simp] theorem ZT:aaQ prog 21=some ⟨.int .i32,1,4,.int .i32 0,cW prog 21⟩:=by kernel_rfl
@[simp] theorem ZY:aaQ prog 22=some ⟨.slice 132,1,24,.slice none 0 0,cW prog 22⟩:=by kernel_rfl
@[simp] theorem Z0:aaQ prog 23=some ⟨.slice 217,1,24,.slice none 0 0,cW prog 23⟩:=by kernel_rfl
@[simp] theorem Z3:aaQ prog 25=some ⟨.struct #[{ name:="Names",type:=22,offset:=0,embedded:=false,tag:="",pkgPath:="",byteOffset:=0 },{ name:="Rungs",type:=23,offset:=1,embedded:=false,tag:="",pkgPath:="",byteOffset:=24 }],2,48,.agg #[.slice none 0 0,.slice none 0 0],cW prog 25⟩:=by kernel_rfl
@[simp] theorem Z5:aaQ prog 26=some ⟨.slice 140,1,24,.slice none 0 0,cW prog 26⟩:=by kernel_rfl
@[simp] theorem Z6:aaQ prog 27=some ⟨.slice 142,1,24,.slice none 0 0,cW prog 27⟩:=by kernel_rfl
@[simp] theorem Z8:aaQ prog 29=some ⟨.struct #[{ name:="Names",type:=26,offset:=0,embedded:=false,tag:="",pkgPath:="",byteOffset:=0 },{ name:="Rungs",type:=27,offset:=1,embedded:=false,tag:="",pkgPath:="",byteOffset:=24 }],2,48,.agg #[.slice none 0 0,.slice none 0 0],cW prog 29⟩:=by kernel_rfl
@[simp] theorem aaa:aaQ prog 34=some ⟨.pointer 48,1,8,.pointer none,cW prog 34⟩:=by kernel_rfl
@[simp] theorem aab:aaQ prog 36=some ⟨.interface #[("Error",332)],1,16,.nilIface,cW prog 36⟩:=by kernel_rfl
@[simp] theorem aac:aaQ prog 40=some ⟨.int .i64,1,8,.int .i64 0,cW prog 40⟩:=by kernel_rfl
@[simp] theorem aad:aaQ prog 44=some ⟨.slice 46,1,24,.slice none 0 0,cW prog 44⟩:=by kernel_rfl
@[simp] theorem aae:aaQ prog 45=some ⟨.slice 134,1,24,.slice none 0 0,cW prog 45⟩:=by kernel_rfl
@[simp] theorem aaf:aaQ prog 46=some ⟨.slice 3,1,24,.slice none 0 0,cW prog 46⟩:=by kernel_rfl
@[simp] theorem aag:aaQ prog 48=some ⟨.struct #[{ name:="Program",type:=25,offset:=0,embedded:=false,tag:="",pkgPath:="",byteOffset:=0 },{ name:="States",type:=3,offset:=2,embedded:=false,tag:="",pkgPath:="",byteOffset:=48 },{ name:="Inputs",type:=3,offset:=3,embedded:=false,tag:="",pkgPath:="",byteOffset:=56 },{ name:="Next",type:=44,offset:=4,embedded:=false,tag:="",pkgPath:="",byteOffset:=64 },{ name:="parts",type:=45,offset:=5,embedded:=false,tag:="",pkgPath:="signalcabin/machine",byteOffset:=88 },{ name:="in",type:=46,offset:=6,embedded:=false,tag:="",pkgPath:="signalcabin/machine",byteOffset:=112 }],7,136,.agg #[.slice none 0 0,.slice none 0 0,.int .i64 0,.int .i64 0,.slice none 0 0,.slice none 0 0,.slice none 0 0],cW prog 48⟩:=by kernel_rfl
@[simp] theorem aah:aaQ prog 50=some ⟨.struct #[{ name:="P",type:=29,offset:=0,embedded:=false,tag:="",pkgPath:="",byteOffset:=0 },{ name:="States",type:=3,offset:=2,embedded:=false,tag:="",pkgPath:="",byteOffset:=48 },{ name:="Inputs",type:=3,offset:=3,embedded:=false,tag:="",pkgPath:="",byteOffset:=56 },{ name:="Next",type:=44,offset:=4,embedded:=false,tag:="",pkgPath:="",byteOffset:=64 }],5,88,.agg #[.slice none 0 0,.slice none 0 0,.int .i64 0,.int .i64 0,.slice none 0 0],cW prog 50⟩:=by kernel_rfl
@[simp] theorem aai:aaQ prog 52=some ⟨.func #[9] #[4] false,1,8,.nilFunc,cW prog 52⟩:=by kernel_rfl
@[simp] theorem aaj:aaQ prog 55=some ⟨.slice 4,1,24,.slice none 0 0,cW prog 55⟩:=by kernel_rfl
@[simp] theorem aak:aaQ prog 59=some ⟨.map 9 4,1,8,.map none,cW prog 59⟩:=by kernel_rfl
@[simp] theorem aal:aaQ prog 60=some ⟨.map 9 3,1,8,.map none,cW prog 60⟩:=by kernel_rfl
@[simp] theorem aam:aaQ prog 62=some ⟨.struct #[{ name:="Is",type:=59,offset:=0,embedded:=false,tag:="",pkgPath:="",byteOffset:=0 },{ name:="Count",type:=60,offset:=1,embedded:=false,tag:="",pkgPath:="",byteOffset:=8 }],2,16,.agg #[.map none,.map none],cW prog 62⟩:=by kernel_rfl
@[simp] theorem aan:aaQ prog 68=some ⟨.struct #[{ name:="Is",type:=55,offset:=0,embedded:=false,tag:="",pkgPath:="",byteOffset:=0 },{ name:="Count",type:=46,offset:=1,embedded:=false,tag:="",pkgPath:="",byteOffset:=24 }],2,48,.agg #[.slice none 0 0,.slice none 0 0],cW prog 68⟩:=by kernel_rfl
@[simp] theorem aao:aaQ prog 90=some ⟨.interface #[("Text",332)],1,16,.nilIface,cW prog 90⟩:=by kernel_rfl
@[simp] theorem aap:aaQ prog 91=some ⟨.pointer 226,1,8,.pointer none,cW prog 91⟩:=by kernel_rfl
@[simp] theorem ZD:aaQ prog 114=some ⟨.struct #[{ name:="Of",type:=90,offset:=0,embedded:=false,tag:="",pkgPath:="",byteOffset:=0 }],1,16,.agg #[.nilIface],cW prog 114⟩:=by kernel_rfl
@[simp] theorem ZE:aaQ prog 115=some ⟨.slice 90,1,24,.slice none 0 0,cW prog 115⟩:=by kernel_rfl
@[simp] theorem ZF:aaQ prog 116=some ⟨.slice 90,1,24,.slice none 0 0,cW prog 116⟩:=by kernel_rfl
@[simp] theorem ZG:aaQ prog 124=some ⟨.struct #[{ name:="Err",type:=40,offset:=0,embedded:=false,tag:="",pkgPath:="",byteOffset:=0 },{ name:="Place",type:=3,offset:=1,embedded:=false,tag:="",pkgPath:="",byteOffset:=8 }],2,16,.agg #[.int .i64 0,.int .i64 0],true⟩:=by kernel_rfl
@[simp] theorem ZH:aaQ prog 132=some ⟨.struct #[{ name:="Name",type:=9,offset:=0,embedded:=false,tag:="",pkgPath:="",byteOffset:=0 },{ name:="Kind",type:=3,offset:=1,embedded:=false,tag:="",pkgPath:="",byteOffset:=16 },{ name:="Count",type:=3,offset:=2,embedded:=false,tag:="",pkgPath:="",byteOffset:=24 }],3,32,.agg #[.string ⟨#[]⟩,.int .i64 0,.int .i64 0],true⟩:=by kernel_rfl
@[simp] theorem ZI:aaQ prog 134=some ⟨.struct #[{ name:="name",type:=3,offset:=0,embedded:=false,tag:="",pkgPath:="signalcabin/machine",byteOffset:=0 },{ name:="most",type:=3,offset:=1,embedded:=false,tag:="",pkgPath:="signalcabin/machine",byteOffset:=8 },{ name:="far",type:=4,offset:=2,embedded:=false,tag:="",pkgPath:="signalcabin/machine",byteOffset:=16 }],3,24,.agg #[.int .i64 0,.int .i64 0,.bool false],true⟩:=by kernel_rfl
@[simp] theorem ZJ:aaQ prog 140=some ⟨.struct #[{ name:="Name",type:=9,offset:=0,embedded:=false,tag:="",pkgPath:="",byteOffset:=0 },{ name:="Kind",type:=3,offset:=1,embedded:=false,tag:="",pkgPath:="",byteOffset:=16 },{ name:="Count",type:=3,offset:=2,embedded:=false,tag:="",pkgPath:="",byteOffset:=24 }],3,32,.agg #[.string ⟨#[]⟩,.int .i64 0,.int .i64 0],true⟩:=by kernel_rfl
@[simp] theorem ZK:aaQ prog 142=some ⟨.struct #[{ name:="Kind",type:=3,offset:=0,embedded:=false,tag:="",pkgPath:="",byteOffset:=0 },{ name:="Name",type:=9,offset:=1,embedded:=false,tag:="",pkgPath:="",byteOffset:=8 },{ name:="If",type:=91,offset:=2,embedded:=false,tag:="",pkgPath:="",byteOffset:=24 }],3,32,.agg #[.int .i64 0,.string ⟨#[]⟩,.pointer none],cW prog 142⟩:=by kernel_rfl
@[simp] theorem ZL:aaQ prog 173=some ⟨.slice 91,1,24,.slice none 0 0,cW prog 173⟩:=by kernel_rfl
@[simp] theorem ZM:aaQ prog 174=some ⟨.slice 9,1,24,.slice none 0 0,cW prog 174⟩:=by kernel_rfl
@[simp] theorem ZN:aaQ prog 182=some ⟨.struct #[{ name:="text",type:=9,offset:=0,embedded:=false,tag:="",pkgPath:="signalcabin/expr",byteOffset:=0 },{ name:="at",type:=3,offset:=1,embedded:=false,tag:="",pkgPath:="signalcabin/expr",byteOffset:=16 }],2,24,.agg #[.string ⟨#[]⟩,.int .i64 0],true⟩:=by kernel_rfl
@[simp] theorem ZO:aaQ prog 188=some ⟨.bool,1,1,.bool false,cW prog 188⟩:=by kernel_rfl
@[simp] theorem ZP:aaQ prog 189=some ⟨.string,1,16,.string ⟨#[]⟩,cW prog 189⟩:=by kernel_rfl
@[simp] theorem ZQ:aaQ prog 190=some ⟨.string,1,16,.string ⟨#[]⟩,cW prog 190⟩:=by kernel_rfl
@[simp] theorem ZR:aaQ prog 191=some ⟨.string,1,16,.string ⟨#[]⟩,cW prog 191⟩:=by kernel_rfl
@[simp] theorem ZS:aaQ prog 192=some ⟨.slice 90,1,24,.slice none 0 0,cW prog 192⟩:=by kernel_rfl
@[simp] theorem ZU:aaQ prog 210=some ⟨.pointer 217,1,8,.pointer none,cW prog 210⟩:=by kernel_rfl
@[simp] theorem ZV:aaQ prog 213=some ⟨.pointer 215,1,8,.pointer none,cW prog 213⟩:=by kernel_rfl
@[simp] theorem ZW:aaQ prog 215=some ⟨.struct #[{ name:="Err",type:=40,offset:=0,embedded:=false,tag:="",pkgPath:="",byteOffset:=0 },{ name:="Place",type:=3,offset:=1,embedded:=false,tag:="",pkgPath:="",byteOffset:=8 }],2,16,.agg #[.int .i64 0,.int .i64 0],true⟩:=by kernel_rfl
@[simp] theorem ZX:aaQ prog 217=some ⟨.struct #[{ name:="Kind",type:=3,offset:=0,embedded:=false,tag:="",pkgPath:="",byteOffset:=0 },{ name:="Name",type:=9,offset:=1,embedded:=false,tag:="",pkgPath:="",byteOffset:=8 },{ name:="If",type:=90,offset:=2,embedded:=false,tag:="",pkgPath:="",byteOffset:=24 }],3,40,.agg #[.int .i64 0,.string ⟨#[]⟩,.nilIface],cW prog 217⟩:=by kernel_rfl
@[simp] theorem ZZ:aaQ prog 226=some ⟨.struct #[{ name:="Kind",type:=9,offset:=0,embedded:=false,tag:="",pkgPath:="",byteOffset:=0 },{ name:="Name",type:=9,offset:=1,embedded:=false,tag:="",pkgPath:="",byteOffset:=16 },{ name:="Of",type:=173,offset:=2,embedded:=false,tag:="",pkgPath:="",byteOffset:=32 }],3,56,.agg #[.string ⟨#[]⟩,.string ⟨#[]⟩,.slice none 0 0],cW prog 226⟩:=by kernel_rfl
@[simp] theorem Z1:aaQ prog 245=some ⟨.pointer 247,1,8,.pointer none,cW prog 245⟩:=by kernel_rfl
@[simp] theorem Z2:aaQ prog 247=some ⟨.struct #[{ name:="s",type:=9,offset:=0,embedded:=false,tag:="",pkgPath:="signalcabin/signalcabinref",byteOffset:=0 },{ name:="i",type:=3,offset:=1,embedded:=false,tag:="",pkgPath:="signalcabin/signalcabinref",byteOffset:=16 },{ name:="f",type:=124,offset:=2,embedded:=false,tag:="",pkgPath:="signalcabin/signalcabinref",byteOffset:=24 }],4,40,.agg #[.string ⟨#[]⟩,.int .i64 0,.int .i64 0,.int .i64 0],cW prog 247⟩:=by kernel_rfl
@[simp] theorem Z4:aaQ prog 259=some ⟨.func #[90] #[9] false,1,8,.nilFunc,cW prog 259⟩:=by kernel_rfl
@[simp] theorem Z7:aaQ prog 281=some ⟨.array 7 3,7,56,.agg #[.int .i64 0,.int .i64 0,.int .i64 0,.int .i64 0,.int .i64 0,.int .i64 0,.int .i64 0],cW prog 281⟩:=by kernel_rfl
@[simp] theorem Z9:aaQ prog 307=some ⟨.func #[91] #[] false,1,8,.nilFunc,cW prog 307⟩:=by kernel_rfl
def mO (k:Option Bool) (l:List Int):D:=.sl k (l.map fun n=>[.v (.int .i64 n)])
theorem XV {l l':List Int} (hl:l.length=l'.length) (h:l.take l.length=l'.take l.length):l=l':=by
 rw[List.take_length,hl,List.take_length]at h;exact h
theorem XW {l l':List Int} {k:Nat} (h:l.take k=l'.take k) (hk:k < l.length) (eA:k < l'.length) (he:l[k]=l'[k]):l.take (k+1)=l'.take (k+1):=by
 rw[List.take_succ_eq_append_getElem hk,List.take_succ_eq_append_getElem eA,h,he]
def idx {α:Type} (p:α->Bool) (l:List α):Int:=match l.findIdx? p with
 | some i=>i
 | none=>-1
theorem sk {α:Type} {p:α->Bool} {l:List α} {n:Nat} (hn:n < l.length) (h:p l[n]=true) (hb:∀ i (hi:i < n),p (l[i]'(by omega))=false):idx p l=n:=by
 unfold idx
 have:l.findIdx? p=some n:=by
  rw[List.findIdx?_eq_some_iff_getElem];exact⟨hn,h,fun j hj=>by simpa using hb j hj⟩
 rw[this]
theorem aem {α:Type} {p:α->Bool} {l:List α} (hb:∀ i (hi:i < l.length),p l[i]=false):idx p l = -1:=by
 unfold idx
 have:l.findIdx? p=none:=by
  rw[List.findIdx?_eq_none_iff];intro x hx;obtain⟨i,hi,rfl⟩:=List.mem_iff_getElem.1 hx;exact hb i hi
 rw[this]
def AF {α:Type} (G:ao) (g:FuncId) (caps:List D) (enc:α->D) (p:α->Bool) (xs:List α):Prop:=∀ x∈xs,ar prog G g (enc x :: caps) (.v (.bool (p x)))
theorem Dh {α:Type} (p:α->Bool) (l:List α):decide (0<=idx p l)=l.any p:=by
 unfold idx;split
 .rename_i i hi;rw[List.findIdx?_eq_some_iff_getElem]at hi;obtain⟨h1,h2,_⟩:=hi;have:l.any p=true:=List.any_eq_true.2 ⟨_,List.getElem_mem h1,h2⟩;rw[this];simp
 .rename_i h;rw[List.findIdx?_eq_none_iff]at h
  have:l.any p=false:=by
   rw[List.any_eq_false];intro x hx;simpa using h x hx
  rw[this];simp
