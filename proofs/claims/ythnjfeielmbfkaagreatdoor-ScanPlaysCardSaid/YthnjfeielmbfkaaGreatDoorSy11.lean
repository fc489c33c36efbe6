/-
  Texts that belong together,in one file: Ty,F1,F2.
-/
import Derived.Test.YthnjfeielmbfkaaGreatDoorSy10
import Derived.Test.YthnjfeielmbfkaaGreatDoorProg
set_option linter.unusedSimpArgs false
set_option linter.unusedVariables false
namespace Go.Proofs.YthnjfeielmbfkaaGreatDoor
open Go.Av
@[simp] theorem ty3:tyOf Tryz.prog 3=some ⟨.int .i64,1,8,.int .i64 0,peOf Tryz.prog 3⟩:=by kernel_rfl
@[simp] theorem ty4:tyOf Tryz.prog 4=some ⟨.bool,1,1,.bool false,peOf Tryz.prog 4⟩:=by kernel_rfl
@[simp] theorem ty5:tyOf Tryz.prog 5=some ⟨.int .u8,1,1,.int .u8 0,peOf Tryz.prog 5⟩:=by kernel_rfl
@[simp] theorem ty9:tyOf Tryz.prog 9=some ⟨.string,1,16,.string ⟨#[]⟩,peOf Tryz.prog 9⟩:=by kernel_rfl
@[simp] theorem ty21:tyOf Tryz.prog 21=some ⟨.int .i32,1,4,.int .i32 0,peOf Tryz.prog 21⟩:=by kernel_rfl
@[simp] theorem ty25:tyOf Tryz.prog 25=some ⟨.slice 3,1,24,.slice none 0 0,peOf Tryz.prog 25⟩:=by kernel_rfl
@[simp] theorem ty26:tyOf Tryz.prog 26=some ⟨.slice 73,1,24,.slice none 0 0,peOf Tryz.prog 26⟩:=by kernel_rfl
@[simp] theorem ty27:tyOf Tryz.prog 27=some ⟨.slice 114,1,24,.slice none 0 0,peOf Tryz.prog 27⟩:=by kernel_rfl
@[simp] theorem ty29:tyOf Tryz.prog 29=some ⟨.struct #[{ name:="Names",type:=26,offset:=0,embedded:=false,tag:="",pkgPath:="",byteOffset:=0 },{ name:="Rungs",type:=27,offset:=1,embedded:=false,tag:="",pkgPath:="",byteOffset:=24 }],2,48,.agg #[.slice none 0 0,.slice none 0 0],peOf Tryz.prog 29⟩:=by kernel_rfl
@[simp] theorem ty31:tyOf Tryz.prog 31=some ⟨.interface #[("Error",164)],1,16,.nilIface,peOf Tryz.prog 31⟩:=by kernel_rfl
@[simp] theorem ty37:tyOf Tryz.prog 37=some ⟨.slice 39,1,24,.slice none 0 0,peOf Tryz.prog 37⟩:=by kernel_rfl
@[simp] theorem ty39:tyOf Tryz.prog 39=some ⟨.slice 4,1,24,.slice none 0 0,peOf Tryz.prog 39⟩:=by kernel_rfl
@[simp] theorem ty40:tyOf Tryz.prog 40=some ⟨.slice 45,1,24,.slice none 0 0,peOf Tryz.prog 40⟩:=by kernel_rfl
@[simp] theorem ty45:tyOf Tryz.prog 45=some ⟨.struct #[{ name:="Is",type:=39,offset:=0,embedded:=false,tag:="",pkgPath:="",byteOffset:=0 },{ name:="Count",type:=25,offset:=1,embedded:=false,tag:="",pkgPath:="",byteOffset:=24 }],2,48,.agg #[.slice none 0 0,.slice none 0 0],peOf Tryz.prog 45⟩:=by kernel_rfl
@[simp] theorem ty48:tyOf Tryz.prog 48=some ⟨.interface #[("Text",164)],1,16,.nilIface,peOf Tryz.prog 48⟩:=by kernel_rfl
@[simp] theorem ty62:tyOf Tryz.prog 62=some ⟨.int .i64,1,8,.int .i64 0,peOf Tryz.prog 62⟩:=by kernel_rfl
@[simp] theorem ty64:tyOf Tryz.prog 64=some ⟨.struct #[{ name:="Err",type:=62,offset:=0,embedded:=false,tag:="",pkgPath:="",byteOffset:=0 },{ name:="Place",type:=3,offset:=1,embedded:=false,tag:="",pkgPath:="",byteOffset:=8 }],2,16,.agg #[.int .i64 0,.int .i64 0],true⟩:=by kernel_rfl
@[simp] theorem ty69:tyOf Tryz.prog 69=some ⟨.func #[48] #[9] false,1,8,.nilFunc,peOf Tryz.prog 69⟩:=by kernel_rfl
@[simp] theorem ty73:tyOf Tryz.prog 73=some ⟨.struct #[{ name:="Name",type:=9,offset:=0,embedded:=false,tag:="",pkgPath:="",byteOffset:=0 },{ name:="Kind",type:=3,offset:=1,embedded:=false,tag:="",pkgPath:="",byteOffset:=16 },{ name:="Count",type:=3,offset:=2,embedded:=false,tag:="",pkgPath:="",byteOffset:=24 }],3,32,.agg #[.string ⟨#[]⟩,.int .i64 0,.int .i64 0],true⟩:=by kernel_rfl
@[simp] theorem ty75:tyOf Tryz.prog 75=some ⟨.slice 172,1,24,.slice none 0 0,peOf Tryz.prog 75⟩:=by kernel_rfl
@[simp] theorem ty76:tyOf Tryz.prog 76=some ⟨.slice 175,1,24,.slice none 0 0,peOf Tryz.prog 76⟩:=by kernel_rfl
@[simp] theorem ty78:tyOf Tryz.prog 78=some ⟨.struct #[{ name:="Names",type:=75,offset:=0,embedded:=false,tag:="",pkgPath:="",byteOffset:=0 },{ name:="Rungs",type:=76,offset:=1,embedded:=false,tag:="",pkgPath:="",byteOffset:=24 }],2,48,.agg #[.slice none 0 0,.slice none 0 0],peOf Tryz.prog 78⟩:=by kernel_rfl
@[simp] theorem ty81:tyOf Tryz.prog 81=some ⟨.map 9 4,1,8,.map none,peOf Tryz.prog 81⟩:=by kernel_rfl
@[simp] theorem ty82:tyOf Tryz.prog 82=some ⟨.map 9 3,1,8,.map none,peOf Tryz.prog 82⟩:=by kernel_rfl
@[simp] theorem ty84:tyOf Tryz.prog 84=some ⟨.struct #[{ name:="Is",type:=81,offset:=0,embedded:=false,tag:="",pkgPath:="",byteOffset:=0 },{ name:="Count",type:=82,offset:=1,embedded:=false,tag:="",pkgPath:="",byteOffset:=8 }],2,16,.agg #[.map none,.map none],peOf Tryz.prog 84⟩:=by kernel_rfl
@[simp] theorem ty100:tyOf Tryz.prog 100=some ⟨.func #[9] #[4] false,1,8,.nilFunc,peOf Tryz.prog 100⟩:=by kernel_rfl
@[simp] theorem ty107:tyOf Tryz.prog 107=some ⟨.slice 48,1,24,.slice none 0 0,peOf Tryz.prog 107⟩:=by kernel_rfl
@[simp] theorem ty108:tyOf Tryz.prog 108=some ⟨.string,1,16,.string ⟨#[]⟩,peOf Tryz.prog 108⟩:=by kernel_rfl
@[simp] theorem ty110:tyOf Tryz.prog 110=some ⟨.struct #[{ name:="Of",type:=48,offset:=0,embedded:=false,tag:="",pkgPath:="",byteOffset:=0 }],1,16,.agg #[.nilIface],peOf Tryz.prog 110⟩:=by kernel_rfl
@[simp] theorem ty114:tyOf Tryz.prog 114=some ⟨.struct #[{ name:="Kind",type:=3,offset:=0,embedded:=false,tag:="",pkgPath:="",byteOffset:=0 },{ name:="Name",type:=9,offset:=1,embedded:=false,tag:="",pkgPath:="",byteOffset:=8 },{ name:="If",type:=48,offset:=2,embedded:=false,tag:="",pkgPath:="",byteOffset:=24 }],3,40,.agg #[.int .i64 0,.string ⟨#[]⟩,.nilIface],peOf Tryz.prog 114⟩:=by kernel_rfl
@[simp] theorem ty123:tyOf Tryz.prog 123=some ⟨.slice 48,1,24,.slice none 0 0,peOf Tryz.prog 123⟩:=by kernel_rfl
@[simp] theorem ty124:tyOf Tryz.prog 124=some ⟨.slice 48,1,24,.slice none 0 0,peOf Tryz.prog 124⟩:=by kernel_rfl
@[simp] theorem ty125:tyOf Tryz.prog 125=some ⟨.string,1,16,.string ⟨#[]⟩,peOf Tryz.prog 125⟩:=by kernel_rfl
@[simp] theorem ty127:tyOf Tryz.prog 127=some ⟨.string,1,16,.string ⟨#[]⟩,peOf Tryz.prog 127⟩:=by kernel_rfl
@[simp] theorem ty128:tyOf Tryz.prog 128=some ⟨.bool,1,1,.bool false,peOf Tryz.prog 128⟩:=by kernel_rfl
@[simp] theorem ty129:tyOf Tryz.prog 129=some ⟨.slice 25,1,24,.slice none 0 0,peOf Tryz.prog 129⟩:=by kernel_rfl
@[simp] theorem ty169:tyOf Tryz.prog 169=some ⟨.slice 9,1,24,.slice none 0 0,peOf Tryz.prog 169⟩:=by kernel_rfl
@[simp] theorem ty172:tyOf Tryz.prog 172=some ⟨.struct #[{ name:="Name",type:=9,offset:=0,embedded:=false,tag:="",pkgPath:="",byteOffset:=0 },{ name:="Kind",type:=3,offset:=1,embedded:=false,tag:="",pkgPath:="",byteOffset:=16 },{ name:="Count",type:=3,offset:=2,embedded:=false,tag:="",pkgPath:="",byteOffset:=24 }],3,32,.agg #[.string ⟨#[]⟩,.int .i64 0,.int .i64 0],true⟩:=by kernel_rfl
@[simp] theorem ty173:tyOf Tryz.prog 173=some ⟨.pointer 227,1,8,.pointer none,peOf Tryz.prog 173⟩:=by kernel_rfl
@[simp] theorem ty175:tyOf Tryz.prog 175=some ⟨.struct #[{ name:="Kind",type:=3,offset:=0,embedded:=false,tag:="",pkgPath:="",byteOffset:=0 },{ name:="Name",type:=9,offset:=1,embedded:=false,tag:="",pkgPath:="",byteOffset:=8 },{ name:="If",type:=173,offset:=2,embedded:=false,tag:="",pkgPath:="",byteOffset:=24 }],3,32,.agg #[.int .i64 0,.string ⟨#[]⟩,.pointer none],peOf Tryz.prog 175⟩:=by kernel_rfl
@[simp] theorem ty191:tyOf Tryz.prog 191=some ⟨.pointer 114,1,8,.pointer none,peOf Tryz.prog 191⟩:=by kernel_rfl
@[simp] theorem ty194:tyOf Tryz.prog 194=some ⟨.pointer 196,1,8,.pointer none,peOf Tryz.prog 194⟩:=by kernel_rfl
@[simp] theorem ty196:tyOf Tryz.prog 196=some ⟨.struct #[{ name:="Err",type:=62,offset:=0,embedded:=false,tag:="",pkgPath:="",byteOffset:=0 },{ name:="Place",type:=3,offset:=1,embedded:=false,tag:="",pkgPath:="",byteOffset:=8 }],2,16,.agg #[.int .i64 0,.int .i64 0],true⟩:=by kernel_rfl
@[simp] theorem ty225:tyOf Tryz.prog 225=some ⟨.slice 173,1,24,.slice none 0 0,peOf Tryz.prog 225⟩:=by kernel_rfl
@[simp] theorem ty227:tyOf Tryz.prog 227=some ⟨.struct #[{ name:="Kind",type:=9,offset:=0,embedded:=false,tag:="",pkgPath:="",byteOffset:=0 },{ name:="Name",type:=9,offset:=1,embedded:=false,tag:="",pkgPath:="",byteOffset:=16 },{ name:="Of",type:=225,offset:=2,embedded:=false,tag:="",pkgPath:="",byteOffset:=32 }],3,56,.agg #[.string ⟨#[]⟩,.string ⟨#[]⟩,.slice none 0 0],peOf Tryz.prog 227⟩:=by kernel_rfl
@[simp] theorem ty229:tyOf Tryz.prog 229=some ⟨.pointer 231,1,8,.pointer none,peOf Tryz.prog 229⟩:=by kernel_rfl
@[simp] theorem ty231:tyOf Tryz.prog 231=some ⟨.struct #[{ name:="s",type:=9,offset:=0,embedded:=false,tag:="",pkgPath:="signalcabin/signalcabinref",byteOffset:=0 },{ name:="i",type:=3,offset:=1,embedded:=false,tag:="",pkgPath:="signalcabin/signalcabinref",byteOffset:=16 },{ name:="f",type:=64,offset:=2,embedded:=false,tag:="",pkgPath:="signalcabin/signalcabinref",byteOffset:=24 }],4,40,.agg #[.string ⟨#[]⟩,.int .i64 0,.int .i64 0,.int .i64 0],peOf Tryz.prog 231⟩:=by kernel_rfl
@[simp] theorem ty255:tyOf Tryz.prog 255=some ⟨.array 7 3,7,56,.agg #[.int .i64 0,.int .i64 0,.int .i64 0,.int .i64 0,.int .i64 0,.int .i64 0,.int .i64 0],peOf Tryz.prog 255⟩:=by kernel_rfl
@[simp] theorem ty282:tyOf Tryz.prog 282=some ⟨.struct #[{ name:="text",type:=9,offset:=0,embedded:=false,tag:="",pkgPath:="signalcabin/expr",byteOffset:=0 },{ name:="at",type:=3,offset:=1,embedded:=false,tag:="",pkgPath:="signalcabin/expr",byteOffset:=16 }],2,24,.agg #[.string ⟨#[]⟩,.int .i64 0],true⟩:=by kernel_rfl
@[simp] theorem ty329:tyOf Tryz.prog 329=some ⟨.func #[173] #[] false,1,8,.nilFunc,peOf Tryz.prog 329⟩:=by kernel_rfl
end Go.Proofs.YthnjfeielmbfkaaGreatDoor
namespace Go.Proofs.YthnjfeielmbfkaaGreatDoor
open Go.Av
def dInts (k:Option Bool) (l:List Int):D:=.sl k (l.map fun n=>[.v (.int .i64 n)])
theorem take_eq_all {l l':List Int} (hl:l.length=l'.length) (h:l.take l.length=l'.take l.length):l=l':=by
 rw [List.take_length,hl,List.take_length] at h;exact h
theorem take_step {l l':List Int} {k:Nat} (h:l.take k=l'.take k) (hk:k < l.length) (hk':k < l'.length) (he:l[k]=l'[k]):l.take (k+1)=l'.take (k+1):=by
 rw [List.take_succ_eq_append_getElem hk,List.take_succ_eq_append_getElem hk',h,he]
end Go.Proofs.YthnjfeielmbfkaaGreatDoor
namespace Go.Proofs.YthnjfeielmbfkaaGreatDoor
open Go.Av
def idx {α:Type} (p:α→Bool) (l:List α):Int:=match l.findIdx? p with
 | some i=>i
 | none=>-1
theorem idx_hit {α:Type} {p:α→Bool} {l:List α} {n:Nat} (hn:n < l.length) (h:p l[n]=true) (hb:∀ i (hi:i < n),p (l[i]'(by omega))=false):idx p l=n:=by
 unfold idx
 have:l.findIdx? p=some n:=by
  rw [List.findIdx?_eq_some_iff_getElem];exact ⟨hn,h,fun j hj=>by simpa using hb j hj⟩
 rw [this]
theorem idx_miss {α:Type} {p:α→Bool} {l:List α} (hb:∀ i (hi:i < l.length),p l[i]=false):idx p l = -1:=by
 unfold idx
 have:l.findIdx? p=none:=by
  rw [List.findIdx?_eq_none_iff]
  intro x hx
  obtain ⟨i,hi,rfl⟩:=List.mem_iff_getElem.1 hx
  exact hb i hi
 rw [this]
def Answers {α:Type} (G:Glob) (g:FuncId) (caps:List D) (enc:α→D) (p:α→Bool) (xs:List α):Prop:=∀ x∈xs,PureC Tryz.prog G g (enc x :: caps) (.v (.bool (p x)))
theorem idx_any {α:Type} (p:α→Bool) (l:List α):decide (0≤idx p l)=l.any p:=by
 unfold idx
 split
 ·rename_i i hi
  rw [List.findIdx?_eq_some_iff_getElem] at hi
  obtain ⟨h1,h2,_⟩:=hi
  have:l.any p=true:=List.any_eq_true.2 ⟨_,List.getElem_mem h1,h2⟩
  rw [this];simp
 ·rename_i h
  rw [List.findIdx?_eq_none_iff] at h
  have:l.any p=false:=by
   rw [List.any_eq_false]
   intro x hx
   simpa using h x hx
  rw [this];simp
end Go.Proofs.YthnjfeielmbfkaaGreatDoor
