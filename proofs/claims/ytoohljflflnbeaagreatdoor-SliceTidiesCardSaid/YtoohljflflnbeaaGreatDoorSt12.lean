/- Parts. -/
import Derived.Test.YtoohljflflnbeaaGreatDoorSt10
import Derived.Test.YtoohljflflnbeaaGreatDoorProg
set_option linter.unusedSimpArgs false
set_option linter.unusedVariables false
open Go.Proofs.Tryz
namespace Go.Proofs.YtoohljflflnbeaaGreatDoor
open Go.Av
@[simp] theorem Nw:cN prog 3=some ⟨.int .i64,1,8,.int .i64 0,eM prog 3⟩:=ag
@[simp] theorem CM:cN prog 4=some ⟨.bool,1,1,.bool false,eM prog 4⟩:=ag
@[simp] theorem ty5:cN prog 5=some ⟨.int .u8,1,1,.int .u8 0,eM prog 5⟩:=ag
@[simp] theorem ty9:cN prog 9=some ⟨.string,1,16,.string ⟨#[]⟩,eM prog 9⟩:=ag
@[simp] theorem aaA:cN prog 21=some ⟨.int .i32,1,4,.int .i32 0,eM prog 21⟩:=ag
@[simp] theorem aaD:cN prog 25=some ⟨.slice 78,1,24,.slice none 0 0,eM prog 25⟩:=ag
@[simp] theorem aaF:cN prog 26=some ⟨.slice 153,1,24,.slice none 0 0,eM prog 26⟩:=ag
@[simp] theorem aaI:cN prog 28=some ⟨.struct #[{ name:="Names",type:=25,offset:=0,embedded:=false,tag:="",pkgPath:="",byteOffset:=0 },{ name:="Rungs",type:=26,offset:=1,embedded:=false,tag:="",pkgPath:="",byteOffset:=24 }],2,48,.agg #[.slice none 0 0,.slice none 0 0],eM prog 28⟩:=by kernel_rfl
@[simp] theorem aaK:cN prog 30=some ⟨.interface #[("Error",188)],1,16,.nilIface,eM prog 30⟩:=by kernel_rfl
@[simp] theorem aaO:cN prog 34=some ⟨.interface #[("Text",188)],1,16,.nilIface,eM prog 34⟩:=by kernel_rfl
@[simp] theorem aaQ:cN prog 41=some ⟨.slice 3,1,24,.slice none 0 0,eM prog 41⟩:=ag
@[simp] theorem aaR:cN prog 50=some ⟨.int .i64,1,8,.int .i64 0,eM prog 50⟩:=ag
@[simp] theorem aaS:cN prog 52=some ⟨.struct #[{ name:="Err",type:=50,offset:=0,embedded:=false,tag:="",pkgPath:="",byteOffset:=0 },{ name:="Place",type:=3,offset:=1,embedded:=false,tag:="",pkgPath:="",byteOffset:=8 }],2,16,.agg #[.int .i64 0,.int .i64 0],true⟩:=by kernel_rfl
@[simp] theorem aaT:cN prog 57=some ⟨.func #[34] #[9] false,1,8,.nilFunc,eM prog 57⟩:=ag
@[simp] theorem aaU:cN prog 58=some ⟨.slice 9,1,24,.slice none 0 0,eM prog 58⟩:=ag
@[simp] theorem aaV:cN prog 59=some ⟨.slice 197,1,24,.slice none 0 0,eM prog 59⟩:=ag
@[simp] theorem aaW:cN prog 60=some ⟨.slice 203,1,24,.slice none 0 0,eM prog 60⟩:=ag
@[simp] theorem aaX:cN prog 62=some ⟨.struct #[{ name:="Names",type:=59,offset:=0,embedded:=false,tag:="",pkgPath:="",byteOffset:=0 },{ name:="Rungs",type:=60,offset:=1,embedded:=false,tag:="",pkgPath:="",byteOffset:=24 }],2,48,.agg #[.slice none 0 0,.slice none 0 0],eM prog 62⟩:=by kernel_rfl
@[simp] theorem aaY:cN prog 78=some ⟨.struct #[{ name:="Name",type:=9,offset:=0,embedded:=false,tag:="",pkgPath:="",byteOffset:=0 },{ name:="Kind",type:=3,offset:=1,embedded:=false,tag:="",pkgPath:="",byteOffset:=16 },{ name:="Count",type:=3,offset:=2,embedded:=false,tag:="",pkgPath:="",byteOffset:=24 }],3,32,.agg #[.string ⟨#[]⟩,.int .i64 0,.int .i64 0],true⟩:=by kernel_rfl
@[simp] theorem aaZ:cN prog 93=some ⟨.slice 41,1,24,.slice none 0 0,eM prog 93⟩:=ag
@[simp] theorem aak:cN prog 119=some ⟨.pointer 229,1,8,.pointer none,eM prog 119⟩:=ag
@[simp] theorem aal:cN prog 130=some ⟨.struct #[{ name:="Of",type:=34,offset:=0,embedded:=false,tag:="",pkgPath:="",byteOffset:=0 }],1,16,.agg #[.nilIface],eM prog 130⟩:=by kernel_rfl
@[simp] theorem aam:cN prog 131=some ⟨.slice 34,1,24,.slice none 0 0,eM prog 131⟩:=ag
@[simp] theorem aan:cN prog 132=some ⟨.slice 34,1,24,.slice none 0 0,eM prog 132⟩:=ag
@[simp] theorem aao:cN prog 149=some ⟨.string,1,16,.string ⟨#[]⟩,eM prog 149⟩:=ag
@[simp] theorem aap:cN prog 153=some ⟨.struct #[{ name:="Kind",type:=3,offset:=0,embedded:=false,tag:="",pkgPath:="",byteOffset:=0 },{ name:="Name",type:=9,offset:=1,embedded:=false,tag:="",pkgPath:="",byteOffset:=8 },{ name:="If",type:=34,offset:=2,embedded:=false,tag:="",pkgPath:="",byteOffset:=24 }],3,40,.agg #[.int .i64 0,.string ⟨#[]⟩,.nilIface],eM prog 153⟩:=by kernel_rfl
@[simp] theorem aaq:cN prog 159=some ⟨.slice 34,1,24,.slice none 0 0,eM prog 159⟩:=ag
@[simp] theorem aar:cN prog 160=some ⟨.string,1,16,.string ⟨#[]⟩,eM prog 160⟩:=ag
@[simp] theorem aas:cN prog 162=some ⟨.string,1,16,.string ⟨#[]⟩,eM prog 162⟩:=ag
@[simp] theorem aat:cN prog 163=some ⟨.bool,1,1,.bool false,eM prog 163⟩:=ag
@[simp] theorem aau:cN prog 180=some ⟨.slice 5,1,24,.slice none 0 0,eM prog 180⟩:=ag
@[simp] theorem aav:cN prog 182=some ⟨.struct #[{ name:="addr",type:=179,offset:=0,embedded:=false,tag:="",pkgPath:="strings",byteOffset:=0 },{ name:="buf",type:=180,offset:=1,embedded:=false,tag:="",pkgPath:="strings",byteOffset:=8 }],2,32,.agg #[.pointer none,.slice none 0 0],eM prog 182⟩:=by kernel_rfl
@[simp] theorem aaw:cN prog 185=some ⟨.array 5 9,5,80,.agg #[.string ⟨#[]⟩,.string ⟨#[]⟩,.string ⟨#[]⟩,.string ⟨#[]⟩,.string ⟨#[]⟩],eM prog 185⟩:=ag
@[simp] theorem aax:cN prog 187=some ⟨.array 7 9,7,112,.agg #[.string ⟨#[]⟩,.string ⟨#[]⟩,.string ⟨#[]⟩,.string ⟨#[]⟩,.string ⟨#[]⟩,.string ⟨#[]⟩,.string ⟨#[]⟩],eM prog 187⟩:=ag
@[simp] theorem aay:cN prog 197=some ⟨.struct #[{ name:="Name",type:=9,offset:=0,embedded:=false,tag:="",pkgPath:="",byteOffset:=0 },{ name:="Kind",type:=3,offset:=1,embedded:=false,tag:="",pkgPath:="",byteOffset:=16 },{ name:="Count",type:=3,offset:=2,embedded:=false,tag:="",pkgPath:="",byteOffset:=24 }],3,32,.agg #[.string ⟨#[]⟩,.int .i64 0,.int .i64 0],true⟩:=by kernel_rfl
@[simp] theorem aaz:cN prog 203=some ⟨.struct #[{ name:="Kind",type:=3,offset:=0,embedded:=false,tag:="",pkgPath:="",byteOffset:=0 },{ name:="Name",type:=9,offset:=1,embedded:=false,tag:="",pkgPath:="",byteOffset:=8 },{ name:="If",type:=119,offset:=2,embedded:=false,tag:="",pkgPath:="",byteOffset:=24 }],3,32,.agg #[.int .i64 0,.string ⟨#[]⟩,.pointer none],eM prog 203⟩:=by kernel_rfl
@[simp] theorem aaB:cN prog 227=some ⟨.slice 119,1,24,.slice none 0 0,eM prog 227⟩:=ag
@[simp] theorem aaC:cN prog 229=some ⟨.struct #[{ name:="Kind",type:=9,offset:=0,embedded:=false,tag:="",pkgPath:="",byteOffset:=0 },{ name:="Name",type:=9,offset:=1,embedded:=false,tag:="",pkgPath:="",byteOffset:=16 },{ name:="Of",type:=227,offset:=2,embedded:=false,tag:="",pkgPath:="",byteOffset:=32 }],3,56,.agg #[.string ⟨#[]⟩,.string ⟨#[]⟩,.slice none 0 0],eM prog 229⟩:=by kernel_rfl
@[simp] theorem aaE:cN prog 258=some ⟨.struct #[{ name:="text",type:=9,offset:=0,embedded:=false,tag:="",pkgPath:="signalcabin/expr",byteOffset:=0 },{ name:="at",type:=3,offset:=1,embedded:=false,tag:="",pkgPath:="signalcabin/expr",byteOffset:=16 }],2,24,.agg #[.string ⟨#[]⟩,.int .i64 0],true⟩:=by kernel_rfl
@[simp] theorem aaG:cN prog 269=some ⟨.pointer 270,1,8,.pointer none,eM prog 269⟩:=ag
@[simp] theorem aaH:cN prog 270=some ⟨.struct #[{ name:="Err",type:=50,offset:=0,embedded:=false,tag:="",pkgPath:="",byteOffset:=0 },{ name:="Place",type:=3,offset:=1,embedded:=false,tag:="",pkgPath:="",byteOffset:=8 }],2,16,.agg #[.int .i64 0,.int .i64 0],true⟩:=by kernel_rfl
@[simp] theorem aaJ:cN prog 293=some ⟨.pointer 153,1,8,.pointer none,eM prog 293⟩:=ag
@[simp] theorem aaL:cN prog 321=some ⟨.pointer 323,1,8,.pointer none,eM prog 321⟩:=ag
@[simp] theorem aaM:cN prog 323=some ⟨.struct #[{ name:="s",type:=9,offset:=0,embedded:=false,tag:="",pkgPath:="signalcabin/signalcabinref",byteOffset:=0 },{ name:="i",type:=3,offset:=1,embedded:=false,tag:="",pkgPath:="signalcabin/signalcabinref",byteOffset:=16 },{ name:="f",type:=52,offset:=2,embedded:=false,tag:="",pkgPath:="signalcabin/signalcabinref",byteOffset:=24 }],4,40,.agg #[.string ⟨#[]⟩,.int .i64 0,.int .i64 0,.int .i64 0],eM prog 323⟩:=by kernel_rfl
@[simp] theorem aaN:cN prog 334=some ⟨.array 7 3,7,56,.agg #[.int .i64 0,.int .i64 0,.int .i64 0,.int .i64 0,.int .i64 0,.int .i64 0,.int .i64 0],eM prog 334⟩:=ag
@[simp] theorem aaP:cN prog 359=some ⟨.func #[119] #[] false,1,8,.nilFunc,eM prog 359⟩:=ag
def idx {α:Type} (p:α->Bool) (l:List α):Int:=match l.findIdx? p with
 | some i=>i
 | none=>-1
theorem y7 {α:Type} {p:α->Bool} {l:List α} {n:Nat} (hn:n < l.length) (h:p l[n]=true) (hb:∀ i (hi:i < n),p (l[i]' aa)=false):idx p l=n:=by
 unfold idx
 have:l.findIdx? p=some n:=by
  rw[abF];exact⟨hn,h,fun j hj=>by simpa using hb j hj⟩
 rw[this]
theorem y8 {α:Type} {p:α->Bool} {l:List α} (hb:∀ i (hi:i < l.length),p l[i]=false):idx p l = -1:=by
 unfold idx
 have:l.findIdx? p=none:=by
  rw[List.findIdx?_eq_none_iff];intro x hx;obtain⟨i,hi,rfl⟩:=abv.1 hx;exact hb i hi
 rw[this]
def C3 {α:Type} (G:aF) (g:FuncId) (caps:List D) (enc:α->D) (p:α->Bool) (xs:List α):Prop:=∀ x∈xs,aH prog G g (enc x :: caps) (.v (.bool (p x)))
theorem Kl {α:Type} (p:α->Bool) (l:List α):decide (0<=idx p l)=l.any p:=by
 unfold idx;split
 .rename_i i hi;rw[abF]at hi;obtain⟨h1,h2,_⟩:=hi;have:l.any p=true:=List.any_eq_true.2 ⟨_,aa6 h1,h2⟩;rw[this];simp
 .rename_i h;rw[List.findIdx?_eq_none_iff]at h
  have:l.any p=false:=by
   rw[List.any_eq_false];intro x hx;simpa using h x hx
  rw[this];simp
