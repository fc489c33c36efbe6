/- Parts. -/
import Derived.Test.YtoohljflflnbeaaGreatDoorFr10
import Derived.Test.YtoohljflflnbeaaGreatDoorProg
set_option linter.unusedSimpArgs false
set_option linter.unusedVariables false
open Go.Proofs.Tryz
namespace Go.Proofs.YtoohljflflnbeaaGreatDoor
open Go.Av
@[simp] theorem UY:cJ prog 3=some ⟨.int .i64,1,8,.int .i64 0,ey prog 3⟩:=ah
@[simp] theorem HH:cJ prog 4=some ⟨.bool,1,1,.bool false,ey prog 4⟩:=ah
@[simp] theorem ty5:cJ prog 5=some ⟨.int .u8,1,1,.int .u8 0,ey prog 5⟩:=ah
@[simp] theorem ty9:cJ prog 9=some ⟨.string,1,16,.string ⟨#[]⟩,ey prog 9⟩:=ah
@[simp] theorem ai8:cJ prog 21=some ⟨.int .i32,1,4,.int .i32 0,ey prog 21⟩:=ah
@[simp] theorem ajd:cJ prog 25=some ⟨.slice 78,1,24,.slice none 0 0,ey prog 25⟩:=ah
@[simp] theorem ajf:cJ prog 26=some ⟨.slice 153,1,24,.slice none 0 0,ey prog 26⟩:=ah
@[simp] theorem aji:cJ prog 28=some ⟨.struct #[{ name:="Names",type:=25,offset:=0,embedded:=false,tag:="",pkgPath:="",byteOffset:=0 },{ name:="Rungs",type:=26,offset:=1,embedded:=false,tag:="",pkgPath:="",byteOffset:=24 }],2,48,.agg #[.slice none 0 0,.slice none 0 0],ey prog 28⟩:=by kernel_rfl
@[simp] theorem ajk:cJ prog 30=some ⟨.interface #[("Error",188)],1,16,.nilIface,ey prog 30⟩:=by kernel_rfl
@[simp] theorem ajo:cJ prog 34=some ⟨.interface #[("Text",188)],1,16,.nilIface,ey prog 34⟩:=by kernel_rfl
@[simp] theorem ajq:cJ prog 38=some ⟨.pointer 113,1,8,.pointer none,ey prog 38⟩:=ah
@[simp] theorem ajr:cJ prog 41=some ⟨.slice 3,1,24,.slice none 0 0,ey prog 41⟩:=ah
@[simp] theorem ajs:cJ prog 50=some ⟨.int .i64,1,8,.int .i64 0,ey prog 50⟩:=ah
@[simp] theorem ajt:cJ prog 52=some ⟨.struct #[{ name:="Err",type:=50,offset:=0,embedded:=false,tag:="",pkgPath:="",byteOffset:=0 },{ name:="Place",type:=3,offset:=1,embedded:=false,tag:="",pkgPath:="",byteOffset:=8 }],2,16,.agg #[.int .i64 0,.int .i64 0],true⟩:=by kernel_rfl
@[simp] theorem aju:cJ prog 57=some ⟨.func #[34] #[9] false,1,8,.nilFunc,ey prog 57⟩:=ah
@[simp] theorem ajv:cJ prog 58=some ⟨.slice 9,1,24,.slice none 0 0,ey prog 58⟩:=ah
@[simp] theorem ajw:cJ prog 59=some ⟨.slice 197,1,24,.slice none 0 0,ey prog 59⟩:=ah
@[simp] theorem ajx:cJ prog 60=some ⟨.slice 203,1,24,.slice none 0 0,ey prog 60⟩:=ah
@[simp] theorem ajy:cJ prog 62=some ⟨.struct #[{ name:="Names",type:=59,offset:=0,embedded:=false,tag:="",pkgPath:="",byteOffset:=0 },{ name:="Rungs",type:=60,offset:=1,embedded:=false,tag:="",pkgPath:="",byteOffset:=24 }],2,48,.agg #[.slice none 0 0,.slice none 0 0],ey prog 62⟩:=by kernel_rfl
@[simp] theorem ajz:cJ prog 78=some ⟨.struct #[{ name:="Name",type:=9,offset:=0,embedded:=false,tag:="",pkgPath:="",byteOffset:=0 },{ name:="Kind",type:=3,offset:=1,embedded:=false,tag:="",pkgPath:="",byteOffset:=16 },{ name:="Count",type:=3,offset:=2,embedded:=false,tag:="",pkgPath:="",byteOffset:=24 }],3,32,.agg #[.string ⟨#[]⟩,.int .i64 0,.int .i64 0],true⟩:=by kernel_rfl
@[simp] theorem ajA:cJ prog 80=some ⟨.slice 86,1,24,.slice none 0 0,ey prog 80⟩:=ah
@[simp] theorem ajB:cJ prog 86=some ⟨.slice 4,1,24,.slice none 0 0,ey prog 86⟩:=ah
@[simp] theorem ajC:cJ prog 88=some ⟨.struct #[{ name:="Is",type:=86,offset:=0,embedded:=false,tag:="",pkgPath:="",byteOffset:=0 },{ name:="Count",type:=41,offset:=1,embedded:=false,tag:="",pkgPath:="",byteOffset:=24 }],2,48,.agg #[.slice none 0 0,.slice none 0 0],ey prog 88⟩:=by kernel_rfl
@[simp] theorem ajD:cJ prog 93=some ⟨.slice 41,1,24,.slice none 0 0,ey prog 93⟩:=ah
@[simp] theorem ajE:cJ prog 99=some ⟨.struct #[{ name:="P",type:=62,offset:=0,embedded:=false,tag:="",pkgPath:="",byteOffset:=0 },{ name:="States",type:=3,offset:=2,embedded:=false,tag:="",pkgPath:="",byteOffset:=48 },{ name:="Inputs",type:=3,offset:=3,embedded:=false,tag:="",pkgPath:="",byteOffset:=56 },{ name:="Next",type:=93,offset:=4,embedded:=false,tag:="",pkgPath:="",byteOffset:=64 }],5,88,.agg #[.slice none 0 0,.slice none 0 0,.int .i64 0,.int .i64 0,.slice none 0 0],ey prog 99⟩:=by kernel_rfl
@[simp] theorem aiQ:cJ prog 105=some ⟨.func #[9] #[4] false,1,8,.nilFunc,ey prog 105⟩:=ah
@[simp] theorem aiR:cJ prog 111=some ⟨.slice 165,1,24,.slice none 0 0,ey prog 111⟩:=ah
@[simp] theorem aiS:cJ prog 113=some ⟨.struct #[{ name:="Program",type:=28,offset:=0,embedded:=false,tag:="",pkgPath:="",byteOffset:=0 },{ name:="States",type:=3,offset:=2,embedded:=false,tag:="",pkgPath:="",byteOffset:=48 },{ name:="Inputs",type:=3,offset:=3,embedded:=false,tag:="",pkgPath:="",byteOffset:=56 },{ name:="Next",type:=93,offset:=4,embedded:=false,tag:="",pkgPath:="",byteOffset:=64 },{ name:="parts",type:=111,offset:=5,embedded:=false,tag:="",pkgPath:="signalcabin/machine",byteOffset:=88 },{ name:="in",type:=41,offset:=6,embedded:=false,tag:="",pkgPath:="signalcabin/machine",byteOffset:=112 }],7,136,.agg #[.slice none 0 0,.slice none 0 0,.int .i64 0,.int .i64 0,.slice none 0 0,.slice none 0 0,.slice none 0 0],ey prog 113⟩:=by kernel_rfl
@[simp] theorem aiT:cJ prog 119=some ⟨.pointer 229,1,8,.pointer none,ey prog 119⟩:=ah
@[simp] theorem aiU:cJ prog 130=some ⟨.struct #[{ name:="Of",type:=34,offset:=0,embedded:=false,tag:="",pkgPath:="",byteOffset:=0 }],1,16,.agg #[.nilIface],ey prog 130⟩:=by kernel_rfl
@[simp] theorem aiV:cJ prog 131=some ⟨.slice 34,1,24,.slice none 0 0,ey prog 131⟩:=ah
@[simp] theorem aiW:cJ prog 132=some ⟨.slice 34,1,24,.slice none 0 0,ey prog 132⟩:=ah
@[simp] theorem aiX:cJ prog 149=some ⟨.string,1,16,.string ⟨#[]⟩,ey prog 149⟩:=ah
@[simp] theorem aiY:cJ prog 153=some ⟨.struct #[{ name:="Kind",type:=3,offset:=0,embedded:=false,tag:="",pkgPath:="",byteOffset:=0 },{ name:="Name",type:=9,offset:=1,embedded:=false,tag:="",pkgPath:="",byteOffset:=8 },{ name:="If",type:=34,offset:=2,embedded:=false,tag:="",pkgPath:="",byteOffset:=24 }],3,40,.agg #[.int .i64 0,.string ⟨#[]⟩,.nilIface],ey prog 153⟩:=by kernel_rfl
@[simp] theorem aiZ:cJ prog 159=some ⟨.slice 34,1,24,.slice none 0 0,ey prog 159⟩:=ah
@[simp] theorem ai0:cJ prog 160=some ⟨.string,1,16,.string ⟨#[]⟩,ey prog 160⟩:=ah
@[simp] theorem ai1:cJ prog 162=some ⟨.string,1,16,.string ⟨#[]⟩,ey prog 162⟩:=ah
@[simp] theorem ai2:cJ prog 163=some ⟨.bool,1,1,.bool false,ey prog 163⟩:=ah
@[simp] theorem ai3:cJ prog 165=some ⟨.struct #[{ name:="name",type:=3,offset:=0,embedded:=false,tag:="",pkgPath:="signalcabin/machine",byteOffset:=0 },{ name:="most",type:=3,offset:=1,embedded:=false,tag:="",pkgPath:="signalcabin/machine",byteOffset:=8 },{ name:="far",type:=4,offset:=2,embedded:=false,tag:="",pkgPath:="signalcabin/machine",byteOffset:=16 }],3,24,.agg #[.int .i64 0,.int .i64 0,.bool false],true⟩:=by kernel_rfl
@[simp] theorem ai4:cJ prog 197=some ⟨.struct #[{ name:="Name",type:=9,offset:=0,embedded:=false,tag:="",pkgPath:="",byteOffset:=0 },{ name:="Kind",type:=3,offset:=1,embedded:=false,tag:="",pkgPath:="",byteOffset:=16 },{ name:="Count",type:=3,offset:=2,embedded:=false,tag:="",pkgPath:="",byteOffset:=24 }],3,32,.agg #[.string ⟨#[]⟩,.int .i64 0,.int .i64 0],true⟩:=by kernel_rfl
@[simp] theorem ai5:cJ prog 201=some ⟨.map 9 4,1,8,.map none,ey prog 201⟩:=ah
@[simp] theorem ai6:cJ prog 203=some ⟨.struct #[{ name:="Kind",type:=3,offset:=0,embedded:=false,tag:="",pkgPath:="",byteOffset:=0 },{ name:="Name",type:=9,offset:=1,embedded:=false,tag:="",pkgPath:="",byteOffset:=8 },{ name:="If",type:=119,offset:=2,embedded:=false,tag:="",pkgPath:="",byteOffset:=24 }],3,32,.agg #[.int .i64 0,.string ⟨#[]⟩,.pointer none],ey prog 203⟩:=by kernel_rfl
@[simp] theorem ai7:cJ prog 205=some ⟨.int .u64,1,8,.int .u64 0,ey prog 205⟩:=ah
@[simp] theorem ai9:cJ prog 217=some ⟨.map 9 3,1,8,.map none,ey prog 217⟩:=ah
@[simp] theorem aja:cJ prog 219=some ⟨.struct #[{ name:="Is",type:=201,offset:=0,embedded:=false,tag:="",pkgPath:="",byteOffset:=0 },{ name:="Count",type:=217,offset:=1,embedded:=false,tag:="",pkgPath:="",byteOffset:=8 }],2,16,.agg #[.map none,.map none],ey prog 219⟩:=by kernel_rfl
@[simp] theorem ajb:cJ prog 227=some ⟨.slice 119,1,24,.slice none 0 0,ey prog 227⟩:=ah
@[simp] theorem ajc:cJ prog 229=some ⟨.struct #[{ name:="Kind",type:=9,offset:=0,embedded:=false,tag:="",pkgPath:="",byteOffset:=0 },{ name:="Name",type:=9,offset:=1,embedded:=false,tag:="",pkgPath:="",byteOffset:=16 },{ name:="Of",type:=227,offset:=2,embedded:=false,tag:="",pkgPath:="",byteOffset:=32 }],3,56,.agg #[.string ⟨#[]⟩,.string ⟨#[]⟩,.slice none 0 0],ey prog 229⟩:=by kernel_rfl
@[simp] theorem aje:cJ prog 258=some ⟨.struct #[{ name:="text",type:=9,offset:=0,embedded:=false,tag:="",pkgPath:="signalcabin/expr",byteOffset:=0 },{ name:="at",type:=3,offset:=1,embedded:=false,tag:="",pkgPath:="signalcabin/expr",byteOffset:=16 }],2,24,.agg #[.string ⟨#[]⟩,.int .i64 0],true⟩:=by kernel_rfl
@[simp] theorem ajg:cJ prog 269=some ⟨.pointer 270,1,8,.pointer none,ey prog 269⟩:=ah
@[simp] theorem ajh:cJ prog 270=some ⟨.struct #[{ name:="Err",type:=50,offset:=0,embedded:=false,tag:="",pkgPath:="",byteOffset:=0 },{ name:="Place",type:=3,offset:=1,embedded:=false,tag:="",pkgPath:="",byteOffset:=8 }],2,16,.agg #[.int .i64 0,.int .i64 0],true⟩:=by kernel_rfl
@[simp] theorem ajj:cJ prog 293=some ⟨.pointer 153,1,8,.pointer none,ey prog 293⟩:=ah
@[simp] theorem ajl:cJ prog 321=some ⟨.pointer 323,1,8,.pointer none,ey prog 321⟩:=ah
@[simp] theorem ajm:cJ prog 323=some ⟨.struct #[{ name:="s",type:=9,offset:=0,embedded:=false,tag:="",pkgPath:="signalcabin/signalcabinref",byteOffset:=0 },{ name:="i",type:=3,offset:=1,embedded:=false,tag:="",pkgPath:="signalcabin/signalcabinref",byteOffset:=16 },{ name:="f",type:=52,offset:=2,embedded:=false,tag:="",pkgPath:="signalcabin/signalcabinref",byteOffset:=24 }],4,40,.agg #[.string ⟨#[]⟩,.int .i64 0,.int .i64 0,.int .i64 0],ey prog 323⟩:=by kernel_rfl
@[simp] theorem ajn:cJ prog 334=some ⟨.array 7 3,7,56,.agg #[.int .i64 0,.int .i64 0,.int .i64 0,.int .i64 0,.int .i64 0,.int .i64 0,.int .i64 0],ey prog 334⟩:=ah
@[simp] theorem ajp:cJ prog 359=some ⟨.func #[119] #[] false,1,8,.nilFunc,ey prog 359⟩:=ah
def qo (k:Option Bool) (l:List Int):D:=.sl k (l.map fun n=>[.v (.int .i64 n)])
theorem ahu {l l':List Int} (hl:l.length=l'.length) (h:l.take l.length=l'.take l.length):l=l':=by
 rw[akH,hl,akH]at h;exact h
theorem ahv {l l':List Int} {k:Nat} (h:l.take k=l'.take k) (hk:k < l.length) (gy:k < l'.length) (he:l[k]=l'[k]):l.take (k+1)=l'.take (k+1):=by
 rw[ajO hk,ajO gy,h,he]
def idx {α:Type} (p:α->Bool) (l:List α):Int:=match l.findIdx? p with
 | some i=>i
 | none=>-1
theorem ve {α:Type} {p:α->Bool} {l:List α} {n:Nat} (hn:n < l.length) (h:p l[n]=true) (hb:∀ i (hi:i < n),p (l[i]' aa)=false):idx p l=n:=by
 unfold idx
 have:l.findIdx? p=some n:=by
  rw[aj9];exact⟨hn,h,fun j hj=>by simpa using hb j hj⟩
 rw[this]
theorem vf {α:Type} {p:α->Bool} {l:List α} (hb:∀ i (hi:i < l.length),p l[i]=false):idx p l = -1:=by
 unfold idx
 have:l.findIdx? p=none:=by
  rw[akX];intro x hx;obtain⟨i,hi,rfl⟩:=aj1.1 hx;exact hb i hi
 rw[this]
def H4 {α:Type} (G:ay) (g:FuncId) (caps:List D) (enc:α->D) (p:α->Bool) (xs:List α):Prop:=∀ x∈xs,aD prog G g (enc x :: caps) (.v (.bool (p x)))
theorem Gr {α:Type} (p:α->Bool) (l:List α):decide (0<=idx p l)=l.any p:=by
 unfold idx;split
 .rename_i i hi;rw[aj9]at hi;obtain⟨h1,h2,_⟩:=hi;have:l.any p=true:=akT.2 ⟨_,By h1,h2⟩;rw[this];simp
 .rename_i h;rw[akX]at h
  have:l.any p=false:=by
   rw[List.any_eq_false];intro x hx;simpa using h x hx
  rw[this];simp
