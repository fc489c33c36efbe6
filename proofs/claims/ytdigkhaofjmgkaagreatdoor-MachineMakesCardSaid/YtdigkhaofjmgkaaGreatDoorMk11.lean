/-
  Texts that belong together,in one file: Ty,F1,F2.
-/
import Derived.Test.YtdigkhaofjmgkaaGreatDoorMk10
import Derived.Test.YtdigkhaofjmgkaaGreatDoorProg
set_option linter.unusedSimpArgs false
set_option linter.unusedVariables false
namespace Go.Proofs.YtdigkhaofjmgkaaGreatDoor
open Go.Av
@[simp] theorem ty3:bQ Tryz.prog 3=some ⟨.int .i64,1,8,.int .i64 0,cL Tryz.prog 3⟩:=by kernel_rfl
@[simp] theorem Af:bQ Tryz.prog 4=some ⟨.bool,1,1,.bool false,cL Tryz.prog 4⟩:=by kernel_rfl
@[simp] theorem ZF:bQ Tryz.prog 5=some ⟨.int .u8,1,1,.int .u8 0,cL Tryz.prog 5⟩:=by kernel_rfl
@[simp] theorem ZN:bQ Tryz.prog 9=some ⟨.string,1,16,.string ⟨#[]⟩,cL Tryz.prog 9⟩:=by kernel_rfl
@[simp] theorem Zh:bQ Tryz.prog 21=some ⟨.int .i32,1,4,.int .i32 0,cL Tryz.prog 21⟩:=by kernel_rfl
@[simp] theorem Zm:bQ Tryz.prog 22=some ⟨.slice 132,1,24,.slice none 0 0,cL Tryz.prog 22⟩:=by kernel_rfl
@[simp] theorem Zo:bQ Tryz.prog 23=some ⟨.slice 217,1,24,.slice none 0 0,cL Tryz.prog 23⟩:=by kernel_rfl
@[simp] theorem Zr:bQ Tryz.prog 25=some ⟨.struct #[{ name:="Names",type:=22,offset:=0,embedded:=false,tag:="",pkgPath:="",byteOffset:=0 },{ name:="Rungs",type:=23,offset:=1,embedded:=false,tag:="",pkgPath:="",byteOffset:=24 }],2,48,.agg #[.slice none 0 0,.slice none 0 0],cL Tryz.prog 25⟩:=by kernel_rfl
@[simp] theorem Zt:bQ Tryz.prog 26=some ⟨.slice 140,1,24,.slice none 0 0,cL Tryz.prog 26⟩:=by kernel_rfl
@[simp] theorem Zu:bQ Tryz.prog 27=some ⟨.slice 142,1,24,.slice none 0 0,cL Tryz.prog 27⟩:=by kernel_rfl
@[simp] theorem Zw:bQ Tryz.prog 29=some ⟨.struct #[{ name:="Names",type:=26,offset:=0,embedded:=false,tag:="",pkgPath:="",byteOffset:=0 },{ name:="Rungs",type:=27,offset:=1,embedded:=false,tag:="",pkgPath:="",byteOffset:=24 }],2,48,.agg #[.slice none 0 0,.slice none 0 0],cL Tryz.prog 29⟩:=by kernel_rfl
@[simp] theorem Zy:bQ Tryz.prog 34=some ⟨.pointer 48,1,8,.pointer none,cL Tryz.prog 34⟩:=by kernel_rfl
@[simp] theorem Zz:bQ Tryz.prog 36=some ⟨.interface #[("Error",332)],1,16,.nilIface,cL Tryz.prog 36⟩:=by kernel_rfl
@[simp] theorem ZA:bQ Tryz.prog 40=some ⟨.int .i64,1,8,.int .i64 0,cL Tryz.prog 40⟩:=by kernel_rfl
@[simp] theorem ZB:bQ Tryz.prog 44=some ⟨.slice 46,1,24,.slice none 0 0,cL Tryz.prog 44⟩:=by kernel_rfl
@[simp] theorem ZC:bQ Tryz.prog 45=some ⟨.slice 134,1,24,.slice none 0 0,cL Tryz.prog 45⟩:=by kernel_rfl
@[simp] theorem ZD:bQ Tryz.prog 46=some ⟨.slice 3,1,24,.slice none 0 0,cL Tryz.prog 46⟩:=by kernel_rfl
@[simp] theorem ZE:bQ Tryz.prog 48=some ⟨.struct #[{ name:="Program",type:=25,offset:=0,embedded:=false,tag:="",pkgPath:="",byteOffset:=0 },{ name:="States",type:=3,offset:=2,embedded:=false,tag:="",pkgPath:="",byteOffset:=48 },{ name:="Inputs",type:=3,offset:=3,embedded:=false,tag:="",pkgPath:="",byteOffset:=56 },{ name:="Next",type:=44,offset:=4,embedded:=false,tag:="",pkgPath:="",byteOffset:=64 },{ name:="parts",type:=45,offset:=5,embedded:=false,tag:="",pkgPath:="signalcabin/machine",byteOffset:=88 },{ name:="in",type:=46,offset:=6,embedded:=false,tag:="",pkgPath:="signalcabin/machine",byteOffset:=112 }],7,136,.agg #[.slice none 0 0,.slice none 0 0,.int .i64 0,.int .i64 0,.slice none 0 0,.slice none 0 0,.slice none 0 0],cL Tryz.prog 48⟩:=by kernel_rfl
@[simp] theorem ZG:bQ Tryz.prog 50=some ⟨.struct #[{ name:="P",type:=29,offset:=0,embedded:=false,tag:="",pkgPath:="",byteOffset:=0 },{ name:="States",type:=3,offset:=2,embedded:=false,tag:="",pkgPath:="",byteOffset:=48 },{ name:="Inputs",type:=3,offset:=3,embedded:=false,tag:="",pkgPath:="",byteOffset:=56 },{ name:="Next",type:=44,offset:=4,embedded:=false,tag:="",pkgPath:="",byteOffset:=64 }],5,88,.agg #[.slice none 0 0,.slice none 0 0,.int .i64 0,.int .i64 0,.slice none 0 0],cL Tryz.prog 50⟩:=by kernel_rfl
@[simp] theorem ZH:bQ Tryz.prog 52=some ⟨.func #[9] #[4] false,1,8,.nilFunc,cL Tryz.prog 52⟩:=by kernel_rfl
@[simp] theorem ZI:bQ Tryz.prog 55=some ⟨.slice 4,1,24,.slice none 0 0,cL Tryz.prog 55⟩:=by kernel_rfl
@[simp] theorem ZJ:bQ Tryz.prog 59=some ⟨.map 9 4,1,8,.map none,cL Tryz.prog 59⟩:=by kernel_rfl
@[simp] theorem ZK:bQ Tryz.prog 60=some ⟨.map 9 3,1,8,.map none,cL Tryz.prog 60⟩:=by kernel_rfl
@[simp] theorem ZL:bQ Tryz.prog 62=some ⟨.struct #[{ name:="Is",type:=59,offset:=0,embedded:=false,tag:="",pkgPath:="",byteOffset:=0 },{ name:="Count",type:=60,offset:=1,embedded:=false,tag:="",pkgPath:="",byteOffset:=8 }],2,16,.agg #[.map none,.map none],cL Tryz.prog 62⟩:=by kernel_rfl
@[simp] theorem ZM:bQ Tryz.prog 68=some ⟨.struct #[{ name:="Is",type:=55,offset:=0,embedded:=false,tag:="",pkgPath:="",byteOffset:=0 },{ name:="Count",type:=46,offset:=1,embedded:=false,tag:="",pkgPath:="",byteOffset:=24 }],2,48,.agg #[.slice none 0 0,.slice none 0 0],cL Tryz.prog 68⟩:=by kernel_rfl
@[simp] theorem ZO:bQ Tryz.prog 90=some ⟨.interface #[("Text",332)],1,16,.nilIface,cL Tryz.prog 90⟩:=by kernel_rfl
@[simp] theorem ZP:bQ Tryz.prog 91=some ⟨.pointer 226,1,8,.pointer none,cL Tryz.prog 91⟩:=by kernel_rfl
@[simp] theorem Y1:bQ Tryz.prog 114=some ⟨.struct #[{ name:="Of",type:=90,offset:=0,embedded:=false,tag:="",pkgPath:="",byteOffset:=0 }],1,16,.agg #[.nilIface],cL Tryz.prog 114⟩:=by kernel_rfl
@[simp] theorem Y2:bQ Tryz.prog 115=some ⟨.slice 90,1,24,.slice none 0 0,cL Tryz.prog 115⟩:=by kernel_rfl
@[simp] theorem Y3:bQ Tryz.prog 116=some ⟨.slice 90,1,24,.slice none 0 0,cL Tryz.prog 116⟩:=by kernel_rfl
@[simp] theorem Y4:bQ Tryz.prog 124=some ⟨.struct #[{ name:="Err",type:=40,offset:=0,embedded:=false,tag:="",pkgPath:="",byteOffset:=0 },{ name:="Place",type:=3,offset:=1,embedded:=false,tag:="",pkgPath:="",byteOffset:=8 }],2,16,.agg #[.int .i64 0,.int .i64 0],true⟩:=by kernel_rfl
@[simp] theorem Y5:bQ Tryz.prog 132=some ⟨.struct #[{ name:="Name",type:=9,offset:=0,embedded:=false,tag:="",pkgPath:="",byteOffset:=0 },{ name:="Kind",type:=3,offset:=1,embedded:=false,tag:="",pkgPath:="",byteOffset:=16 },{ name:="Count",type:=3,offset:=2,embedded:=false,tag:="",pkgPath:="",byteOffset:=24 }],3,32,.agg #[.string ⟨#[]⟩,.int .i64 0,.int .i64 0],true⟩:=by kernel_rfl
@[simp] theorem Y6:bQ Tryz.prog 134=some ⟨.struct #[{ name:="name",type:=3,offset:=0,embedded:=false,tag:="",pkgPath:="signalcabin/machine",byteOffset:=0 },{ name:="most",type:=3,offset:=1,embedded:=false,tag:="",pkgPath:="signalcabin/machine",byteOffset:=8 },{ name:="far",type:=4,offset:=2,embedded:=false,tag:="",pkgPath:="signalcabin/machine",byteOffset:=16 }],3,24,.agg #[.int .i64 0,.int .i64 0,.bool false],true⟩:=by kernel_rfl
@[simp] theorem Y7:bQ Tryz.prog 140=some ⟨.struct #[{ name:="Name",type:=9,offset:=0,embedded:=false,tag:="",pkgPath:="",byteOffset:=0 },{ name:="Kind",type:=3,offset:=1,embedded:=false,tag:="",pkgPath:="",byteOffset:=16 },{ name:="Count",type:=3,offset:=2,embedded:=false,tag:="",pkgPath:="",byteOffset:=24 }],3,32,.agg #[.string ⟨#[]⟩,.int .i64 0,.int .i64 0],true⟩:=by kernel_rfl
@[simp] theorem Y8:bQ Tryz.prog 142=some ⟨.struct #[{ name:="Kind",type:=3,offset:=0,embedded:=false,tag:="",pkgPath:="",byteOffset:=0 },{ name:="Name",type:=9,offset:=1,embedded:=false,tag:="",pkgPath:="",byteOffset:=8 },{ name:="If",type:=91,offset:=2,embedded:=false,tag:="",pkgPath:="",byteOffset:=24 }],3,32,.agg #[.int .i64 0,.string ⟨#[]⟩,.pointer none],cL Tryz.prog 142⟩:=by kernel_rfl
@[simp] theorem Y9:bQ Tryz.prog 173=some ⟨.slice 91,1,24,.slice none 0 0,cL Tryz.prog 173⟩:=by kernel_rfl
@[simp] theorem Za:bQ Tryz.prog 174=some ⟨.slice 9,1,24,.slice none 0 0,cL Tryz.prog 174⟩:=by kernel_rfl
@[simp] theorem Zb:bQ Tryz.prog 182=some ⟨.struct #[{ name:="text",type:=9,offset:=0,embedded:=false,tag:="",pkgPath:="signalcabin/expr",byteOffset:=0 },{ name:="at",type:=3,offset:=1,embedded:=false,tag:="",pkgPath:="signalcabin/expr",byteOffset:=16 }],2,24,.agg #[.string ⟨#[]⟩,.int .i64 0],true⟩:=by kernel_rfl
@[simp] theorem Zc:bQ Tryz.prog 188=some ⟨.bool,1,1,.bool false,cL Tryz.prog 188⟩:=by kernel_rfl
@[simp] theorem Zd:bQ Tryz.prog 189=some ⟨.string,1,16,.string ⟨#[]⟩,cL Tryz.prog 189⟩:=by kernel_rfl
@[simp] theorem Ze:bQ Tryz.prog 190=some ⟨.string,1,16,.string ⟨#[]⟩,cL Tryz.prog 190⟩:=by kernel_rfl
@[simp] theorem Zf:bQ Tryz.prog 191=some ⟨.string,1,16,.string ⟨#[]⟩,cL Tryz.prog 191⟩:=by kernel_rfl
@[simp] theorem Zg:bQ Tryz.prog 192=some ⟨.slice 90,1,24,.slice none 0 0,cL Tryz.prog 192⟩:=by kernel_rfl
@[simp] theorem Zi:bQ Tryz.prog 210=some ⟨.pointer 217,1,8,.pointer none,cL Tryz.prog 210⟩:=by kernel_rfl
@[simp] theorem Zj:bQ Tryz.prog 213=some ⟨.pointer 215,1,8,.pointer none,cL Tryz.prog 213⟩:=by kernel_rfl
@[simp] theorem Zk:bQ Tryz.prog 215=some ⟨.struct #[{ name:="Err",type:=40,offset:=0,embedded:=false,tag:="",pkgPath:="",byteOffset:=0 },{ name:="Place",type:=3,offset:=1,embedded:=false,tag:="",pkgPath:="",byteOffset:=8 }],2,16,.agg #[.int .i64 0,.int .i64 0],true⟩:=by kernel_rfl
@[simp] theorem Zl:bQ Tryz.prog 217=some ⟨.struct #[{ name:="Kind",type:=3,offset:=0,embedded:=false,tag:="",pkgPath:="",byteOffset:=0 },{ name:="Name",type:=9,offset:=1,embedded:=false,tag:="",pkgPath:="",byteOffset:=8 },{ name:="If",type:=90,offset:=2,embedded:=false,tag:="",pkgPath:="",byteOffset:=24 }],3,40,.agg #[.int .i64 0,.string ⟨#[]⟩,.nilIface],cL Tryz.prog 217⟩:=by kernel_rfl
@[simp] theorem Zn:bQ Tryz.prog 226=some ⟨.struct #[{ name:="Kind",type:=9,offset:=0,embedded:=false,tag:="",pkgPath:="",byteOffset:=0 },{ name:="Name",type:=9,offset:=1,embedded:=false,tag:="",pkgPath:="",byteOffset:=16 },{ name:="Of",type:=173,offset:=2,embedded:=false,tag:="",pkgPath:="",byteOffset:=32 }],3,56,.agg #[.string ⟨#[]⟩,.string ⟨#[]⟩,.slice none 0 0],cL Tryz.prog 226⟩:=by kernel_rfl
@[simp] theorem Zp:bQ Tryz.prog 245=some ⟨.pointer 247,1,8,.pointer none,cL Tryz.prog 245⟩:=by kernel_rfl
@[simp] theorem Zq:bQ Tryz.prog 247=some ⟨.struct #[{ name:="s",type:=9,offset:=0,embedded:=false,tag:="",pkgPath:="signalcabin/signalcabinref",byteOffset:=0 },{ name:="i",type:=3,offset:=1,embedded:=false,tag:="",pkgPath:="signalcabin/signalcabinref",byteOffset:=16 },{ name:="f",type:=124,offset:=2,embedded:=false,tag:="",pkgPath:="signalcabin/signalcabinref",byteOffset:=24 }],4,40,.agg #[.string ⟨#[]⟩,.int .i64 0,.int .i64 0,.int .i64 0],cL Tryz.prog 247⟩:=by kernel_rfl
@[simp] theorem Zs:bQ Tryz.prog 259=some ⟨.func #[90] #[9] false,1,8,.nilFunc,cL Tryz.prog 259⟩:=by kernel_rfl
@[simp] theorem Zv:bQ Tryz.prog 281=some ⟨.array 7 3,7,56,.agg #[.int .i64 0,.int .i64 0,.int .i64 0,.int .i64 0,.int .i64 0,.int .i64 0,.int .i64 0],cL Tryz.prog 281⟩:=by kernel_rfl
@[simp] theorem Zx:bQ Tryz.prog 307=some ⟨.func #[91] #[] false,1,8,.nilFunc,cL Tryz.prog 307⟩:=by kernel_rfl
def acJ (k:Option Bool) (l:List Int):D:=.sl k (l.map fun n=>[.v (.int .i64 n)])
theorem Xh {l l':List Int} (hl:l.length=l'.length) (h:l.take l.length=l'.take l.length):l=l':=by
 rw [List.take_length,hl,List.take_length] at h;exact h
theorem Xi {l l':List Int} {k:Nat} (h:l.take k=l'.take k) (hk:k < l.length) (hk':k < l'.length) (he:l[k]=l'[k]):l.take (k+1)=l'.take (k+1):=by
 rw [List.take_succ_eq_append_getElem hk,List.take_succ_eq_append_getElem hk',h,he]
def idx {α:Type} (p:α->Bool) (l:List α):Int:=match l.findIdx? p with
 | some i=>i
 | none=>-1
theorem rB {α:Type} {p:α->Bool} {l:List α} {n:Nat} (hn:n < l.length) (h:p l[n]=true) (hb:∀ i (hi:i < n),p (l[i]'(by omega))=false):idx p l=n:=by
 unfold idx
 have:l.findIdx? p=some n:=by
  rw [List.findIdx?_eq_some_iff_getElem];exact ⟨hn,h,fun j hj=>by simpa using hb j hj⟩
 rw [this]
theorem rC {α:Type} {p:α->Bool} {l:List α} (hb:∀ i (hi:i < l.length),p l[i]=false):idx p l = -1:=by
 unfold idx
 have:l.findIdx? p=none:=by
  rw [List.findIdx?_eq_none_iff];intro x hx;obtain ⟨i,hi,rfl⟩:=List.mem_iff_getElem.1 hx;exact hb i hi
 rw [this]
def Au {α:Type} (G:ao) (g:FuncId) (caps:List D) (enc:α->D) (p:α->Bool) (xs:List α):Prop:=∀ x∈xs,aw Tryz.prog G g (enc x :: caps) (.v (.bool (p x)))
theorem De {α:Type} (p:α->Bool) (l:List α):decide (0<=idx p l)=l.any p:=by
 unfold idx;split
 .rename_i i hi;rw [List.findIdx?_eq_some_iff_getElem] at hi;obtain ⟨h1,h2,_⟩:=hi;have:l.any p=true:=List.any_eq_true.2 ⟨_,List.getElem_mem h1,h2⟩;rw [this];simp
 .rename_i h;rw [List.findIdx?_eq_none_iff] at h
  have:l.any p=false:=by
   rw [List.any_eq_false];intro x hx;simpa using h x hx
  rw [this];simp
end Go.Proofs.YtdigkhaofjmgkaaGreatDoor
