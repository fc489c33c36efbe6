/- Parts. -/
import Derived.Test.YtoohljflflnbeaaGreatDoorBo10
import Derived.Test.YtoohljflflnbeaaGreatDoorProg
set_option linter.unusedSimpArgs false
set_option linter.unusedVariables false
open Go.Proofs.Tryz
namespace Go.Proofs.YtoohljflflnbeaaGreatDoor
open Go.Av
@[simp] theorem Se:cF prog 3=some ⟨.int .i64,1,8,.int .i64 0,ek prog 3⟩:=ah
@[simp] theorem FZ:cF prog 4=some ⟨.bool,1,1,.bool false,ek prog 4⟩:=ah
@[simp] theorem ty5:cF prog 5=some ⟨.int .u8,1,1,.int .u8 0,ek prog 5⟩:=ah
@[simp] theorem ty9:cF prog 9=some ⟨.string,1,16,.string ⟨#[]⟩,ek prog 9⟩:=ah
@[simp] theorem afY:cF prog 21=some ⟨.int .i32,1,4,.int .i32 0,ek prog 21⟩:=ah
@[simp] theorem af3:cF prog 25=some ⟨.slice 78,1,24,.slice none 0 0,ek prog 25⟩:=ah
@[simp] theorem af5:cF prog 26=some ⟨.slice 153,1,24,.slice none 0 0,ek prog 26⟩:=ah
@[simp] theorem af8:cF prog 28=some ⟨.struct #[{ name:="Names",type:=25,offset:=0,embedded:=false,tag:="",pkgPath:="",byteOffset:=0 },{ name:="Rungs",type:=26,offset:=1,embedded:=false,tag:="",pkgPath:="",byteOffset:=24 }],2,48,.agg #[.slice none 0 0,.slice none 0 0],ek prog 28⟩:=by kernel_rfl
@[simp] theorem aga:cF prog 30=some ⟨.interface #[("Error",188)],1,16,.nilIface,ek prog 30⟩:=by kernel_rfl
@[simp] theorem age:cF prog 34=some ⟨.interface #[("Text",188)],1,16,.nilIface,ek prog 34⟩:=by kernel_rfl
@[simp] theorem agh:cF prog 38=some ⟨.pointer 113,1,8,.pointer none,ek prog 38⟩:=ah
@[simp] theorem agi:cF prog 41=some ⟨.slice 3,1,24,.slice none 0 0,ek prog 41⟩:=ah
@[simp] theorem agj:cF prog 50=some ⟨.int .i64,1,8,.int .i64 0,ek prog 50⟩:=ah
@[simp] theorem agk:cF prog 52=some ⟨.struct #[{ name:="Err",type:=50,offset:=0,embedded:=false,tag:="",pkgPath:="",byteOffset:=0 },{ name:="Place",type:=3,offset:=1,embedded:=false,tag:="",pkgPath:="",byteOffset:=8 }],2,16,.agg #[.int .i64 0,.int .i64 0],true⟩:=by kernel_rfl
@[simp] theorem agl:cF prog 57=some ⟨.func #[34] #[9] false,1,8,.nilFunc,ek prog 57⟩:=ah
@[simp] theorem agm:cF prog 58=some ⟨.slice 9,1,24,.slice none 0 0,ek prog 58⟩:=ah
@[simp] theorem agn:cF prog 59=some ⟨.slice 197,1,24,.slice none 0 0,ek prog 59⟩:=ah
@[simp] theorem ago:cF prog 60=some ⟨.slice 203,1,24,.slice none 0 0,ek prog 60⟩:=ah
@[simp] theorem agp:cF prog 62=some ⟨.struct #[{ name:="Names",type:=59,offset:=0,embedded:=false,tag:="",pkgPath:="",byteOffset:=0 },{ name:="Rungs",type:=60,offset:=1,embedded:=false,tag:="",pkgPath:="",byteOffset:=24 }],2,48,.agg #[.slice none 0 0,.slice none 0 0],ek prog 62⟩:=by kernel_rfl
@[simp] theorem agq:cF prog 78=some ⟨.struct #[{ name:="Name",type:=9,offset:=0,embedded:=false,tag:="",pkgPath:="",byteOffset:=0 },{ name:="Kind",type:=3,offset:=1,embedded:=false,tag:="",pkgPath:="",byteOffset:=16 },{ name:="Count",type:=3,offset:=2,embedded:=false,tag:="",pkgPath:="",byteOffset:=24 }],3,32,.agg #[.string ⟨#[]⟩,.int .i64 0,.int .i64 0],true⟩:=by kernel_rfl
@[simp] theorem agr:cF prog 86=some ⟨.slice 4,1,24,.slice none 0 0,ek prog 86⟩:=ah
@[simp] theorem ags:cF prog 88=some ⟨.struct #[{ name:="Is",type:=86,offset:=0,embedded:=false,tag:="",pkgPath:="",byteOffset:=0 },{ name:="Count",type:=41,offset:=1,embedded:=false,tag:="",pkgPath:="",byteOffset:=24 }],2,48,.agg #[.slice none 0 0,.slice none 0 0],ek prog 88⟩:=by kernel_rfl
@[simp] theorem agt:cF prog 93=some ⟨.slice 41,1,24,.slice none 0 0,ek prog 93⟩:=ah
@[simp] theorem agu:cF prog 95=some ⟨.struct #[{ name:="Next",type:=93,offset:=0,embedded:=false,tag:="",pkgPath:="",byteOffset:=0 },{ name:="Tells",type:=93,offset:=1,embedded:=false,tag:="",pkgPath:="",byteOffset:=24 }],2,48,.agg #[.slice none 0 0,.slice none 0 0],ek prog 95⟩:=by kernel_rfl
@[simp] theorem agv:cF prog 99=some ⟨.struct #[{ name:="P",type:=62,offset:=0,embedded:=false,tag:="",pkgPath:="",byteOffset:=0 },{ name:="States",type:=3,offset:=2,embedded:=false,tag:="",pkgPath:="",byteOffset:=48 },{ name:="Inputs",type:=3,offset:=3,embedded:=false,tag:="",pkgPath:="",byteOffset:=56 },{ name:="Next",type:=93,offset:=4,embedded:=false,tag:="",pkgPath:="",byteOffset:=64 }],5,88,.agg #[.slice none 0 0,.slice none 0 0,.int .i64 0,.int .i64 0,.slice none 0 0],ek prog 99⟩:=by kernel_rfl
@[simp] theorem afG:cF prog 100=some ⟨.struct #[{ name:="Next",type:=93,offset:=0,embedded:=false,tag:="",pkgPath:="",byteOffset:=0 },{ name:="Tells",type:=93,offset:=1,embedded:=false,tag:="",pkgPath:="",byteOffset:=24 }],2,48,.agg #[.slice none 0 0,.slice none 0 0],ek prog 100⟩:=by kernel_rfl
@[simp] theorem afH:cF prog 105=some ⟨.func #[9] #[4] false,1,8,.nilFunc,ek prog 105⟩:=ah
@[simp] theorem afI:cF prog 111=some ⟨.slice 165,1,24,.slice none 0 0,ek prog 111⟩:=ah
@[simp] theorem afJ:cF prog 113=some ⟨.struct #[{ name:="Program",type:=28,offset:=0,embedded:=false,tag:="",pkgPath:="",byteOffset:=0 },{ name:="States",type:=3,offset:=2,embedded:=false,tag:="",pkgPath:="",byteOffset:=48 },{ name:="Inputs",type:=3,offset:=3,embedded:=false,tag:="",pkgPath:="",byteOffset:=56 },{ name:="Next",type:=93,offset:=4,embedded:=false,tag:="",pkgPath:="",byteOffset:=64 },{ name:="parts",type:=111,offset:=5,embedded:=false,tag:="",pkgPath:="signalcabin/machine",byteOffset:=88 },{ name:="in",type:=41,offset:=6,embedded:=false,tag:="",pkgPath:="signalcabin/machine",byteOffset:=112 }],7,136,.agg #[.slice none 0 0,.slice none 0 0,.int .i64 0,.int .i64 0,.slice none 0 0,.slice none 0 0,.slice none 0 0],ek prog 113⟩:=by kernel_rfl
@[simp] theorem afK:cF prog 119=some ⟨.pointer 229,1,8,.pointer none,ek prog 119⟩:=ah
@[simp] theorem afL:cF prog 130=some ⟨.struct #[{ name:="Of",type:=34,offset:=0,embedded:=false,tag:="",pkgPath:="",byteOffset:=0 }],1,16,.agg #[.nilIface],ek prog 130⟩:=by kernel_rfl
@[simp] theorem afM:cF prog 131=some ⟨.slice 34,1,24,.slice none 0 0,ek prog 131⟩:=ah
@[simp] theorem afN:cF prog 132=some ⟨.slice 34,1,24,.slice none 0 0,ek prog 132⟩:=ah
@[simp] theorem afO:cF prog 149=some ⟨.string,1,16,.string ⟨#[]⟩,ek prog 149⟩:=ah
@[simp] theorem afP:cF prog 153=some ⟨.struct #[{ name:="Kind",type:=3,offset:=0,embedded:=false,tag:="",pkgPath:="",byteOffset:=0 },{ name:="Name",type:=9,offset:=1,embedded:=false,tag:="",pkgPath:="",byteOffset:=8 },{ name:="If",type:=34,offset:=2,embedded:=false,tag:="",pkgPath:="",byteOffset:=24 }],3,40,.agg #[.int .i64 0,.string ⟨#[]⟩,.nilIface],ek prog 153⟩:=by kernel_rfl
@[simp] theorem afQ:cF prog 159=some ⟨.slice 34,1,24,.slice none 0 0,ek prog 159⟩:=ah
@[simp] theorem afR:cF prog 160=some ⟨.string,1,16,.string ⟨#[]⟩,ek prog 160⟩:=ah
@[simp] theorem afS:cF prog 162=some ⟨.string,1,16,.string ⟨#[]⟩,ek prog 162⟩:=ah
@[simp] theorem afT:cF prog 163=some ⟨.bool,1,1,.bool false,ek prog 163⟩:=ah
@[simp] theorem afU:cF prog 165=some ⟨.struct #[{ name:="name",type:=3,offset:=0,embedded:=false,tag:="",pkgPath:="signalcabin/machine",byteOffset:=0 },{ name:="most",type:=3,offset:=1,embedded:=false,tag:="",pkgPath:="signalcabin/machine",byteOffset:=8 },{ name:="far",type:=4,offset:=2,embedded:=false,tag:="",pkgPath:="signalcabin/machine",byteOffset:=16 }],3,24,.agg #[.int .i64 0,.int .i64 0,.bool false],true⟩:=by kernel_rfl
@[simp] theorem afV:cF prog 197=some ⟨.struct #[{ name:="Name",type:=9,offset:=0,embedded:=false,tag:="",pkgPath:="",byteOffset:=0 },{ name:="Kind",type:=3,offset:=1,embedded:=false,tag:="",pkgPath:="",byteOffset:=16 },{ name:="Count",type:=3,offset:=2,embedded:=false,tag:="",pkgPath:="",byteOffset:=24 }],3,32,.agg #[.string ⟨#[]⟩,.int .i64 0,.int .i64 0],true⟩:=by kernel_rfl
@[simp] theorem afW:cF prog 201=some ⟨.map 9 4,1,8,.map none,ek prog 201⟩:=ah
@[simp] theorem afX:cF prog 203=some ⟨.struct #[{ name:="Kind",type:=3,offset:=0,embedded:=false,tag:="",pkgPath:="",byteOffset:=0 },{ name:="Name",type:=9,offset:=1,embedded:=false,tag:="",pkgPath:="",byteOffset:=8 },{ name:="If",type:=119,offset:=2,embedded:=false,tag:="",pkgPath:="",byteOffset:=24 }],3,32,.agg #[.int .i64 0,.string ⟨#[]⟩,.pointer none],ek prog 203⟩:=by kernel_rfl
@[simp] theorem afZ:cF prog 217=some ⟨.map 9 3,1,8,.map none,ek prog 217⟩:=ah
@[simp] theorem af0:cF prog 219=some ⟨.struct #[{ name:="Is",type:=201,offset:=0,embedded:=false,tag:="",pkgPath:="",byteOffset:=0 },{ name:="Count",type:=217,offset:=1,embedded:=false,tag:="",pkgPath:="",byteOffset:=8 }],2,16,.agg #[.map none,.map none],ek prog 219⟩:=by kernel_rfl
@[simp] theorem af1:cF prog 227=some ⟨.slice 119,1,24,.slice none 0 0,ek prog 227⟩:=ah
@[simp] theorem af2:cF prog 229=some ⟨.struct #[{ name:="Kind",type:=9,offset:=0,embedded:=false,tag:="",pkgPath:="",byteOffset:=0 },{ name:="Name",type:=9,offset:=1,embedded:=false,tag:="",pkgPath:="",byteOffset:=16 },{ name:="Of",type:=227,offset:=2,embedded:=false,tag:="",pkgPath:="",byteOffset:=32 }],3,56,.agg #[.string ⟨#[]⟩,.string ⟨#[]⟩,.slice none 0 0],ek prog 229⟩:=by kernel_rfl
@[simp] theorem af4:cF prog 258=some ⟨.struct #[{ name:="text",type:=9,offset:=0,embedded:=false,tag:="",pkgPath:="signalcabin/expr",byteOffset:=0 },{ name:="at",type:=3,offset:=1,embedded:=false,tag:="",pkgPath:="signalcabin/expr",byteOffset:=16 }],2,24,.agg #[.string ⟨#[]⟩,.int .i64 0],true⟩:=by kernel_rfl
@[simp] theorem af6:cF prog 269=some ⟨.pointer 270,1,8,.pointer none,ek prog 269⟩:=ah
@[simp] theorem af7:cF prog 270=some ⟨.struct #[{ name:="Err",type:=50,offset:=0,embedded:=false,tag:="",pkgPath:="",byteOffset:=0 },{ name:="Place",type:=3,offset:=1,embedded:=false,tag:="",pkgPath:="",byteOffset:=8 }],2,16,.agg #[.int .i64 0,.int .i64 0],true⟩:=by kernel_rfl
@[simp] theorem af9:cF prog 293=some ⟨.pointer 153,1,8,.pointer none,ek prog 293⟩:=ah
@[simp] theorem agb:cF prog 321=some ⟨.pointer 323,1,8,.pointer none,ek prog 321⟩:=ah
@[simp] theorem agc:cF prog 323=some ⟨.struct #[{ name:="s",type:=9,offset:=0,embedded:=false,tag:="",pkgPath:="signalcabin/signalcabinref",byteOffset:=0 },{ name:="i",type:=3,offset:=1,embedded:=false,tag:="",pkgPath:="signalcabin/signalcabinref",byteOffset:=16 },{ name:="f",type:=52,offset:=2,embedded:=false,tag:="",pkgPath:="signalcabin/signalcabinref",byteOffset:=24 }],4,40,.agg #[.string ⟨#[]⟩,.int .i64 0,.int .i64 0,.int .i64 0],ek prog 323⟩:=by kernel_rfl
@[simp] theorem agd:cF prog 334=some ⟨.array 7 3,7,56,.agg #[.int .i64 0,.int .i64 0,.int .i64 0,.int .i64 0,.int .i64 0,.int .i64 0,.int .i64 0],ek prog 334⟩:=ah
@[simp] theorem agf:cF prog 359=some ⟨.func #[119] #[] false,1,8,.nilFunc,ek prog 359⟩:=ah
def mh (k:Option Bool) (l:List Int):D:=.sl k (l.map fun n=>[.v (.int .i64 n)])
theorem aep {l l':List Int} (hl:l.length=l'.length) (h:l.take l.length=l'.take l.length):l=l':=by
 rw[aho,hl,aho]at h;exact h
theorem aeq {l l':List Int} {k:Nat} (h:l.take k=l'.take k) (hk:k < l.length) (gh:k < l'.length) (he:l[k]=l'[k]):l.take (k+1)=l'.take (k+1):=by
 rw[agB hk,agB gh,h,he]
def idx {α:Type} (p:α->Bool) (l:List α):Int:=match l.findIdx? p with
 | some i=>i
 | none=>-1
theorem xC {α:Type} {p:α->Bool} {l:List α} {n:Nat} (hn:n < l.length) (h:p l[n]=true) (hb:∀ i (hi:i < n),p (l[i]' aa)=false):idx p l=n:=by
 unfold idx
 have:l.findIdx? p=some n:=by
  rw[ag6];exact⟨hn,h,fun j hj=>by simpa using hb j hj⟩
 rw[this]
theorem xD {α:Type} {p:α->Bool} {l:List α} (hb:∀ i (hi:i < l.length),p l[i]=false):idx p l = -1:=by
 unfold idx
 have:l.findIdx? p=none:=by
  rw[List.findIdx?_eq_none_iff];intro x hx;obtain⟨i,hi,rfl⟩:=agG.1 hx;exact hb i hi
 rw[this]
def Gc {α:Type} (G:aC) (g:FuncId) (caps:List D) (enc:α->D) (p:α->Bool) (xs:List α):Prop:=∀ x∈xs,aD prog G g (enc x :: caps) (.v (.bool (p x)))
theorem I0 {α:Type} (p:α->Bool) (l:List α):decide (0<=idx p l)=l.any p:=by
 unfold idx;split
 .rename_i i hi;rw[ag6]at hi;obtain⟨h1,h2,_⟩:=hi;have:l.any p=true:=ahp.2 ⟨_,OF h1,h2⟩;rw[this];simp
 .rename_i h;rw[List.findIdx?_eq_none_iff]at h
  have:l.any p=false:=by
   rw[List.any_eq_false];intro x hx;simpa using h x hx
  rw[this];simp
