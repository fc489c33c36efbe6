/- Parts. -/
import Derived.Test.YtobejfcgcfdpfaaGreatDoorPc10
import Derived.Test.YtobejfcgcfdpfaaGreatDoorProg
set_option linter.unusedSimpArgs false
set_option linter.unusedVariables false
open Go.Proofs.Tryz
namespace Go.Proofs.YtobejfcgcfdpfaaGreatDoor
open Go.Av
@[simp] theorem XN:cT prog 3=some ⟨.int .i64,1,8,.int .i64 0,eQ prog 3⟩:=ah
@[simp] theorem JG:cT prog 4=some ⟨.bool,1,1,.bool false,eQ prog 4⟩:=ah
@[simp] theorem ty5:cT prog 5=some ⟨.int .u8,1,1,.int .u8 0,eQ prog 5⟩:=ah
@[simp] theorem ty9:cT prog 9=some ⟨.string,1,16,.string ⟨#[]⟩,eQ prog 9⟩:=ah
@[simp] theorem alL:cT prog 21=some ⟨.int .i32,1,4,.int .i32 0,eQ prog 21⟩:=ah
@[simp] theorem alM:cT prog 22=some ⟨.pointer 75,1,8,.pointer none,eQ prog 22⟩:=ah
@[simp] theorem alO:cT prog 27=some ⟨.interface #[("Text",231)],1,16,.nilIface,eQ prog 27⟩:=by kernel_rfl
@[simp] theorem alP:cT prog 28=some ⟨.pointer 163,1,8,.pointer none,eQ prog 28⟩:=ah
@[simp] theorem alQ:cT prog 31=some ⟨.slice 51,1,24,.slice none 0 0,eQ prog 31⟩:=ah
@[simp] theorem alR:cT prog 33=some ⟨.interface #[("Error",231)],1,16,.nilIface,eQ prog 33⟩:=by kernel_rfl
@[simp] theorem alS:cT prog 36=some ⟨.slice 3,1,24,.slice none 0 0,eQ prog 36⟩:=ah
@[simp] theorem alT:cT prog 40=some ⟨.int .i64,1,8,.int .i64 0,eQ prog 40⟩:=ah
@[simp] theorem alU:cT prog 42=some ⟨.slice 158,1,24,.slice none 0 0,eQ prog 42⟩:=ah
@[simp] theorem alV:cT prog 43=some ⟨.slice 161,1,24,.slice none 0 0,eQ prog 43⟩:=ah
@[simp] theorem alW:cT prog 45=some ⟨.struct #[{ name:="Names",type:=42,offset:=0,embedded:=false,tag:="",pkgPath:="",byteOffset:=0 },{ name:="Rungs",type:=43,offset:=1,embedded:=false,tag:="",pkgPath:="",byteOffset:=24 }],2,48,.agg #[.slice none 0 0,.slice none 0 0],eQ prog 45⟩:=by kernel_rfl
@[simp] theorem alX:cT prog 46=some ⟨.slice 36,1,24,.slice none 0 0,eQ prog 46⟩:=ah
@[simp] theorem alY:cT prog 48=some ⟨.struct #[{ name:="P",type:=45,offset:=0,embedded:=false,tag:="",pkgPath:="",byteOffset:=0 },{ name:="States",type:=3,offset:=2,embedded:=false,tag:="",pkgPath:="",byteOffset:=48 },{ name:="Inputs",type:=3,offset:=3,embedded:=false,tag:="",pkgPath:="",byteOffset:=56 },{ name:="Next",type:=46,offset:=4,embedded:=false,tag:="",pkgPath:="",byteOffset:=64 }],5,88,.agg #[.slice none 0 0,.slice none 0 0,.int .i64 0,.int .i64 0,.slice none 0 0],eQ prog 48⟩:=by kernel_rfl
@[simp] theorem alZ:cT prog 51=some ⟨.slice 4,1,24,.slice none 0 0,eQ prog 51⟩:=ah
@[simp] theorem al0:cT prog 55=some ⟨.slice 115,1,24,.slice none 0 0,eQ prog 55⟩:=ah
@[simp] theorem al1:cT prog 56=some ⟨.slice 182,1,24,.slice none 0 0,eQ prog 56⟩:=ah
@[simp] theorem al2:cT prog 58=some ⟨.struct #[{ name:="Names",type:=55,offset:=0,embedded:=false,tag:="",pkgPath:="",byteOffset:=0 },{ name:="Rungs",type:=56,offset:=1,embedded:=false,tag:="",pkgPath:="",byteOffset:=24 }],2,48,.agg #[.slice none 0 0,.slice none 0 0],eQ prog 58⟩:=by kernel_rfl
@[simp] theorem al3:cT prog 68=some ⟨.struct #[{ name:="Err",type:=40,offset:=0,embedded:=false,tag:="",pkgPath:="",byteOffset:=0 },{ name:="Place",type:=3,offset:=1,embedded:=false,tag:="",pkgPath:="",byteOffset:=8 }],2,16,.agg #[.int .i64 0,.int .i64 0],true⟩:=by kernel_rfl
@[simp] theorem al4:cT prog 73=some ⟨.slice 117,1,24,.slice none 0 0,eQ prog 73⟩:=ah
@[simp] theorem al5:cT prog 75=some ⟨.struct #[{ name:="Program",type:=58,offset:=0,embedded:=false,tag:="",pkgPath:="",byteOffset:=0 },{ name:="States",type:=3,offset:=2,embedded:=false,tag:="",pkgPath:="",byteOffset:=48 },{ name:="Inputs",type:=3,offset:=3,embedded:=false,tag:="",pkgPath:="",byteOffset:=56 },{ name:="Next",type:=46,offset:=4,embedded:=false,tag:="",pkgPath:="",byteOffset:=64 },{ name:="parts",type:=73,offset:=5,embedded:=false,tag:="",pkgPath:="signalcabin/machine",byteOffset:=88 },{ name:="in",type:=36,offset:=6,embedded:=false,tag:="",pkgPath:="signalcabin/machine",byteOffset:=112 }],7,136,.agg #[.slice none 0 0,.slice none 0 0,.int .i64 0,.int .i64 0,.slice none 0 0,.slice none 0 0,.slice none 0 0],eQ prog 75⟩:=by kernel_rfl
@[simp] theorem al6:cT prog 77=some ⟨.slice 9,1,24,.slice none 0 0,eQ prog 77⟩:=ah
@[simp] theorem al7:cT prog 80=some ⟨.func #[9] #[4] false,1,8,.nilFunc,eQ prog 80⟩:=ah
@[simp] theorem al8:cT prog 82=some ⟨.struct #[{ name:="Is",type:=51,offset:=0,embedded:=false,tag:="",pkgPath:="",byteOffset:=0 },{ name:="Count",type:=36,offset:=1,embedded:=false,tag:="",pkgPath:="",byteOffset:=24 }],2,48,.agg #[.slice none 0 0,.slice none 0 0],eQ prog 82⟩:=by kernel_rfl
@[simp] theorem al9:cT prog 96=some ⟨.slice 28,1,24,.slice none 0 0,eQ prog 96⟩:=ah
@[simp] theorem ama:cT prog 98=some ⟨.map 9 4,1,8,.map none,eQ prog 98⟩:=ah
@[simp] theorem amb:cT prog 99=some ⟨.map 9 3,1,8,.map none,eQ prog 99⟩:=ah
@[simp] theorem alm:cT prog 101=some ⟨.struct #[{ name:="Is",type:=98,offset:=0,embedded:=false,tag:="",pkgPath:="",byteOffset:=0 },{ name:="Count",type:=99,offset:=1,embedded:=false,tag:="",pkgPath:="",byteOffset:=8 }],2,16,.agg #[.map none,.map none],eQ prog 101⟩:=by kernel_rfl
@[simp] theorem aln:cT prog 115=some ⟨.struct #[{ name:="Name",type:=9,offset:=0,embedded:=false,tag:="",pkgPath:="",byteOffset:=0 },{ name:="Kind",type:=3,offset:=1,embedded:=false,tag:="",pkgPath:="",byteOffset:=16 },{ name:="Count",type:=3,offset:=2,embedded:=false,tag:="",pkgPath:="",byteOffset:=24 }],3,32,.agg #[.string ⟨#[]⟩,.int .i64 0,.int .i64 0],true⟩:=by kernel_rfl
@[simp] theorem alo:cT prog 117=some ⟨.struct #[{ name:="name",type:=3,offset:=0,embedded:=false,tag:="",pkgPath:="signalcabin/machine",byteOffset:=0 },{ name:="most",type:=3,offset:=1,embedded:=false,tag:="",pkgPath:="signalcabin/machine",byteOffset:=8 },{ name:="far",type:=4,offset:=2,embedded:=false,tag:="",pkgPath:="signalcabin/machine",byteOffset:=16 }],3,24,.agg #[.int .i64 0,.int .i64 0,.bool false],true⟩:=by kernel_rfl
@[simp] theorem alp:cT prog 121=some ⟨.pointer 123,1,8,.pointer none,eQ prog 121⟩:=ah
@[simp] theorem alq:cT prog 123=some ⟨.struct #[{ name:="s",type:=9,offset:=0,embedded:=false,tag:="",pkgPath:="signalcabin/signalcabinref",byteOffset:=0 },{ name:="i",type:=3,offset:=1,embedded:=false,tag:="",pkgPath:="signalcabin/signalcabinref",byteOffset:=16 },{ name:="f",type:=68,offset:=2,embedded:=false,tag:="",pkgPath:="signalcabin/signalcabinref",byteOffset:=24 }],4,40,.agg #[.string ⟨#[]⟩,.int .i64 0,.int .i64 0,.int .i64 0],eQ prog 123⟩:=by kernel_rfl
@[simp] theorem alr:cT prog 129=some ⟨.struct #[{ name:="text",type:=9,offset:=0,embedded:=false,tag:="",pkgPath:="signalcabin/expr",byteOffset:=0 },{ name:="at",type:=3,offset:=1,embedded:=false,tag:="",pkgPath:="signalcabin/expr",byteOffset:=16 }],2,24,.agg #[.string ⟨#[]⟩,.int .i64 0],true⟩:=by kernel_rfl
@[simp] theorem als:cT prog 134=some ⟨.string,1,16,.string ⟨#[]⟩,eQ prog 134⟩:=ah
@[simp] theorem alu:cT prog 135=some ⟨.string,1,16,.string ⟨#[]⟩,eQ prog 135⟩:=ah
@[simp] theorem alv:cT prog 136=some ⟨.string,1,16,.string ⟨#[]⟩,eQ prog 136⟩:=ah
@[simp] theorem alw:cT prog 137=some ⟨.func #[27] #[9] false,1,8,.nilFunc,eQ prog 137⟩:=ah
@[simp] theorem alx:cT prog 141=some ⟨.bool,1,1,.bool false,eQ prog 141⟩:=ah
@[simp] theorem aly:cT prog 143=some ⟨.struct #[{ name:="Of",type:=27,offset:=0,embedded:=false,tag:="",pkgPath:="",byteOffset:=0 }],1,16,.agg #[.nilIface],eQ prog 143⟩:=by kernel_rfl
@[simp] theorem alz:cT prog 144=some ⟨.slice 27,1,24,.slice none 0 0,eQ prog 144⟩:=ah
@[simp] theorem alA:cT prog 145=some ⟨.slice 27,1,24,.slice none 0 0,eQ prog 145⟩:=ah
@[simp] theorem alB:cT prog 148=some ⟨.slice 27,1,24,.slice none 0 0,eQ prog 148⟩:=ah
@[simp] theorem alC:cT prog 158=some ⟨.struct #[{ name:="Name",type:=9,offset:=0,embedded:=false,tag:="",pkgPath:="",byteOffset:=0 },{ name:="Kind",type:=3,offset:=1,embedded:=false,tag:="",pkgPath:="",byteOffset:=16 },{ name:="Count",type:=3,offset:=2,embedded:=false,tag:="",pkgPath:="",byteOffset:=24 }],3,32,.agg #[.string ⟨#[]⟩,.int .i64 0,.int .i64 0],true⟩:=by kernel_rfl
@[simp] theorem alD:cT prog 161=some ⟨.struct #[{ name:="Kind",type:=3,offset:=0,embedded:=false,tag:="",pkgPath:="",byteOffset:=0 },{ name:="Name",type:=9,offset:=1,embedded:=false,tag:="",pkgPath:="",byteOffset:=8 },{ name:="If",type:=28,offset:=2,embedded:=false,tag:="",pkgPath:="",byteOffset:=24 }],3,32,.agg #[.int .i64 0,.string ⟨#[]⟩,.pointer none],eQ prog 161⟩:=by kernel_rfl
@[simp] theorem alE:cT prog 163=some ⟨.struct #[{ name:="Kind",type:=9,offset:=0,embedded:=false,tag:="",pkgPath:="",byteOffset:=0 },{ name:="Name",type:=9,offset:=1,embedded:=false,tag:="",pkgPath:="",byteOffset:=16 },{ name:="Of",type:=96,offset:=2,embedded:=false,tag:="",pkgPath:="",byteOffset:=32 }],3,56,.agg #[.string ⟨#[]⟩,.string ⟨#[]⟩,.slice none 0 0],eQ prog 163⟩:=by kernel_rfl
@[simp] theorem alF:cT prog 175=some ⟨.pointer 182,1,8,.pointer none,eQ prog 175⟩:=ah
@[simp] theorem alG:cT prog 178=some ⟨.pointer 180,1,8,.pointer none,eQ prog 178⟩:=ah
@[simp] theorem alH:cT prog 180=some ⟨.struct #[{ name:="Err",type:=40,offset:=0,embedded:=false,tag:="",pkgPath:="",byteOffset:=0 },{ name:="Place",type:=3,offset:=1,embedded:=false,tag:="",pkgPath:="",byteOffset:=8 }],2,16,.agg #[.int .i64 0,.int .i64 0],true⟩:=by kernel_rfl
@[simp] theorem alI:cT prog 182=some ⟨.struct #[{ name:="Kind",type:=3,offset:=0,embedded:=false,tag:="",pkgPath:="",byteOffset:=0 },{ name:="Name",type:=9,offset:=1,embedded:=false,tag:="",pkgPath:="",byteOffset:=8 },{ name:="If",type:=27,offset:=2,embedded:=false,tag:="",pkgPath:="",byteOffset:=24 }],3,40,.agg #[.int .i64 0,.string ⟨#[]⟩,.nilIface],eQ prog 182⟩:=by kernel_rfl
@[simp] theorem alJ:cT prog 198=some ⟨.int .u64,1,8,.int .u64 0,eQ prog 198⟩:=ah
@[simp] theorem alK:cT prog 205=some ⟨.func #[28] #[] false,1,8,.nilFunc,eQ prog 205⟩:=ah
@[simp] theorem alN:cT prog 227=some ⟨.array 7 3,7,56,.agg #[.int .i64 0,.int .i64 0,.int .i64 0,.int .i64 0,.int .i64 0,.int .i64 0,.int .i64 0],eQ prog 227⟩:=ah
def sd (k:Option Bool) (l:List Int):D:=.sl k (l.map fun n=>[.v (.int .i64 n)])
theorem ajR {l l':List Int} (hl:l.length=l'.length) (h:l.take l.length=l'.take l.length):l=l':=by
 rw[am8,hl,am8]at h;exact h
theorem ajS {l l':List Int} {k:Nat} (h:l.take k=l'.take k) (hk:k < l.length) (gX:k < l'.length) (he:l[k]=l'[k]):l.take (k+1)=l'.take (k+1):=by
 rw[aml hk,aml gX,h,he]
def idx {α:Type} (p:α->Bool) (l:List α):Int:=match l.findIdx? p with
 | some i=>i
 | none=>-1
theorem uN {α:Type} {p:α->Bool} {l:List α} {n:Nat} (hn:n < l.length) (h:p l[n]=true) (hb:∀ i (hi:i < n),p (l[i]' aa)=false):idx p l=n:=by
 unfold idx
 have:l.findIdx? p=some n:=by
  rw[amG];exact⟨hn,h,fun j hj=>by simpa using hb j hj⟩
 rw[this]
theorem uO {α:Type} {p:α->Bool} {l:List α} (hb:∀ i (hi:i < l.length),p l[i]=false):idx p l = -1:=by
 unfold idx
 have:l.findIdx? p=none:=by
  rw[anB];intro x hx;obtain⟨i,hi,rfl⟩:=amz.1 hx;exact hb i hi
 rw[this]
def JX {α:Type} (G:aB) (g:FuncId) (caps:List D) (enc:α->D) (p:α->Bool) (xs:List α):Prop:=∀ x∈xs,aD prog G g (enc x :: caps) (.v (.bool (p x)))
theorem Ib {α:Type} (p:α->Bool) (l:List α):decide (0<=idx p l)=l.any p:=by
 unfold idx;split
 .rename_i i hi;rw[amG]at hi;obtain⟨h1,h2,_⟩:=hi;have:l.any p=true:=anr.2 ⟨_,By h1,h2⟩;rw[this];simp
 .rename_i h;rw[anB]at h
  have:l.any p=false:=by
   rw[anX];intro x hx;simpa using h x hx
  rw[this];simp
