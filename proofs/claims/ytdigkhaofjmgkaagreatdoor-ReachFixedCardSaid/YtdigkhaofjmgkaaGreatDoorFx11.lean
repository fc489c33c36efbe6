/- Parts. -/
import Derived.Test.YtdigkhaofjmgkaaGreatDoorFx10
import Derived.Test.YtdigkhaofjmgkaaGreatDoorProg
set_option linter.unusedSimpArgs false
set_option linter.unusedVariables false
set_option maxHeartbeats 1000000
open Go.Proofs.Tryz
namespace Go.Proofs.YtdigkhaofjmgkaaGreatDoor
open Go.Av
@[simp] theorem MF:bW prog 3=some ⟨.int .i64,1,8,.int .i64 0,acs prog 3⟩:=by kernel_rfl
@[simp] theorem Bq:bW prog 4=some ⟨.bool,1,1,.bool false,acs prog 4⟩:=by kernel_rfl
@[simp] theorem ty5:bW prog 5=some ⟨.int .u8,1,1,.int .u8 0,acs prog 5⟩:=by kernel_rfl
@[simp] theorem ty9:bW prog 9=some ⟨.string,1,16,.string ⟨#[]⟩,acs prog 9⟩:=by kernel_rfl
@[simp] theorem aa9:bW prog 21=some ⟨.int .i32,1,4,.int .i32 0,acs prog 21⟩:=by kernel_rfl
@[simp] theorem abe:bW prog 22=some ⟨.slice 132,1,24,.slice none 0 0,acs prog 22⟩:=by kernel_rfl
@[simp] theorem abg:bW prog 23=some ⟨.slice 217,1,24,.slice none 0 0,acs prog 23⟩:=by kernel_rfl
@[simp] theorem abj:bW prog 25=some ⟨.struct #[{ name:="Names",type:=22,offset:=0,embedded:=false,tag:="",pkgPath:="",byteOffset:=0 },{ name:="Rungs",type:=23,offset:=1,embedded:=false,tag:="",pkgPath:="",byteOffset:=24 }],2,48,.agg #[.slice none 0 0,.slice none 0 0],acs prog 25⟩:=by kernel_rfl
@[simp] theorem abl:bW prog 26=some ⟨.slice 140,1,24,.slice none 0 0,acs prog 26⟩:=by kernel_rfl
@[simp] theorem abm:bW prog 27=some ⟨.slice 142,1,24,.slice none 0 0,acs prog 27⟩:=by kernel_rfl
@[simp] theorem abo:bW prog 29=some ⟨.struct #[{ name:="Names",type:=26,offset:=0,embedded:=false,tag:="",pkgPath:="",byteOffset:=0 },{ name:="Rungs",type:=27,offset:=1,embedded:=false,tag:="",pkgPath:="",byteOffset:=24 }],2,48,.agg #[.slice none 0 0,.slice none 0 0],acs prog 29⟩:=by kernel_rfl
@[simp] theorem abq:bW prog 34=some ⟨.pointer 48,1,8,.pointer none,acs prog 34⟩:=by kernel_rfl
@[simp] theorem abr:bW prog 36=some ⟨.interface #[("Error",332)],1,16,.nilIface,acs prog 36⟩:=by kernel_rfl
@[simp] theorem abt:bW prog 40=some ⟨.int .i64,1,8,.int .i64 0,acs prog 40⟩:=by kernel_rfl
@[simp] theorem abu:bW prog 44=some ⟨.slice 46,1,24,.slice none 0 0,acs prog 44⟩:=by kernel_rfl
@[simp] theorem abv:bW prog 45=some ⟨.slice 134,1,24,.slice none 0 0,acs prog 45⟩:=by kernel_rfl
@[simp] theorem abw:bW prog 46=some ⟨.slice 3,1,24,.slice none 0 0,acs prog 46⟩:=by kernel_rfl
@[simp] theorem abx:bW prog 48=some ⟨.struct #[{ name:="Program",type:=25,offset:=0,embedded:=false,tag:="",pkgPath:="",byteOffset:=0 },{ name:="States",type:=3,offset:=2,embedded:=false,tag:="",pkgPath:="",byteOffset:=48 },{ name:="Inputs",type:=3,offset:=3,embedded:=false,tag:="",pkgPath:="",byteOffset:=56 },{ name:="Next",type:=44,offset:=4,embedded:=false,tag:="",pkgPath:="",byteOffset:=64 },{ name:="parts",type:=45,offset:=5,embedded:=false,tag:="",pkgPath:="signalcabin/machine",byteOffset:=88 },{ name:="in",type:=46,offset:=6,embedded:=false,tag:="",pkgPath:="signalcabin/machine",byteOffset:=112 }],7,136,.agg #[.slice none 0 0,.slice none 0 0,.int .i64 0,.int .i64 0,.slice none 0 0,.slice none 0 0,.slice none 0 0],acs prog 48⟩:=by kernel_rfl
@[simp] theorem aby:bW prog 50=some ⟨.struct #[{ name:="P",type:=29,offset:=0,embedded:=false,tag:="",pkgPath:="",byteOffset:=0 },{ name:="States",type:=3,offset:=2,embedded:=false,tag:="",pkgPath:="",byteOffset:=48 },{ name:="Inputs",type:=3,offset:=3,embedded:=false,tag:="",pkgPath:="",byteOffset:=56 },{ name:="Next",type:=44,offset:=4,embedded:=false,tag:="",pkgPath:="",byteOffset:=64 }],5,88,.agg #[.slice none 0 0,.slice none 0 0,.int .i64 0,.int .i64 0,.slice none 0 0],acs prog 50⟩:=by kernel_rfl
@[simp] theorem abz:bW prog 52=some ⟨.func #[9] #[4] false,1,8,.nilFunc,acs prog 52⟩:=by kernel_rfl
@[simp] theorem abA:bW prog 55=some ⟨.slice 4,1,24,.slice none 0 0,acs prog 55⟩:=by kernel_rfl
@[simp] theorem abB:bW prog 59=some ⟨.map 9 4,1,8,.map none,acs prog 59⟩:=by kernel_rfl
@[simp] theorem abC:bW prog 60=some ⟨.map 9 3,1,8,.map none,acs prog 60⟩:=by kernel_rfl
@[simp] theorem abD:bW prog 62=some ⟨.struct #[{ name:="Is",type:=59,offset:=0,embedded:=false,tag:="",pkgPath:="",byteOffset:=0 },{ name:="Count",type:=60,offset:=1,embedded:=false,tag:="",pkgPath:="",byteOffset:=8 }],2,16,.agg #[.map none,.map none],acs prog 62⟩:=by kernel_rfl
@[simp] theorem abE:bW prog 68=some ⟨.struct #[{ name:="Is",type:=55,offset:=0,embedded:=false,tag:="",pkgPath:="",byteOffset:=0 },{ name:="Count",type:=46,offset:=1,embedded:=false,tag:="",pkgPath:="",byteOffset:=24 }],2,48,.agg #[.slice none 0 0,.slice none 0 0],acs prog 68⟩:=by kernel_rfl
@[simp] theorem abF:bW prog 90=some ⟨.interface #[("Text",332)],1,16,.nilIface,acs prog 90⟩:=by kernel_rfl
@[simp] theorem abG:bW prog 91=some ⟨.pointer 226,1,8,.pointer none,acs prog 91⟩:=by kernel_rfl
@[simp] theorem aaT:bW prog 114=some ⟨.struct #[{ name:="Of",type:=90,offset:=0,embedded:=false,tag:="",pkgPath:="",byteOffset:=0 }],1,16,.agg #[.nilIface],acs prog 114⟩:=by kernel_rfl
@[simp] theorem aaU:bW prog 115=some ⟨.slice 90,1,24,.slice none 0 0,acs prog 115⟩:=by kernel_rfl
@[simp] theorem aaV:bW prog 116=some ⟨.slice 90,1,24,.slice none 0 0,acs prog 116⟩:=by kernel_rfl
@[simp] theorem aaW:bW prog 124=some ⟨.struct #[{ name:="Err",type:=40,offset:=0,embedded:=false,tag:="",pkgPath:="",byteOffset:=0 },{ name:="Place",type:=3,offset:=1,embedded:=false,tag:="",pkgPath:="",byteOffset:=8 }],2,16,.agg #[.int .i64 0,.int .i64 0],true⟩:=by kernel_rfl
@[simp] theorem aaX:bW prog 132=some ⟨.struct #[{ name:="Name",type:=9,offset:=0,embedded:=false,tag:="",pkgPath:="",byteOffset:=0 },{ name:="Kind",type:=3,offset:=1,embedded:=false,tag:="",pkgPath:="",byteOffset:=16 },{ name:="Count",type:=3,offset:=2,embedded:=false,tag:="",pkgPath:="",byteOffset:=24 }],3,32,.agg #[.string ⟨#[]⟩,.int .i64 0,.int .i64 0],true⟩:=by kernel_rfl
@[simp] theorem aaY:bW prog 134=some ⟨.struct #[{ name:="name",type:=3,offset:=0,embedded:=false,tag:="",pkgPath:="signalcabin/machine",byteOffset:=0 },{ name:="most",type:=3,offset:=1,embedded:=false,tag:="",pkgPath:="signalcabin/machine",byteOffset:=8 },{ name:="far",type:=4,offset:=2,embedded:=false,tag:="",pkgPath:="signalcabin/machine",byteOffset:=16 }],3,24,.agg #[.int .i64 0,.int .i64 0,.bool false],true⟩:=by kernel_rfl
@[simp] theorem aaZ:bW prog 140=some ⟨.struct #[{ name:="Name",type:=9,offset:=0,embedded:=false,tag:="",pkgPath:="",byteOffset:=0 },{ name:="Kind",type:=3,offset:=1,embedded:=false,tag:="",pkgPath:="",byteOffset:=16 },{ name:="Count",type:=3,offset:=2,embedded:=false,tag:="",pkgPath:="",byteOffset:=24 }],3,32,.agg #[.string ⟨#[]⟩,.int .i64 0,.int .i64 0],true⟩:=by kernel_rfl
@[simp] theorem aa0:bW prog 142=some ⟨.struct #[{ name:="Kind",type:=3,offset:=0,embedded:=false,tag:="",pkgPath:="",byteOffset:=0 },{ name:="Name",type:=9,offset:=1,embedded:=false,tag:="",pkgPath:="",byteOffset:=8 },{ name:="If",type:=91,offset:=2,embedded:=false,tag:="",pkgPath:="",byteOffset:=24 }],3,32,.agg #[.int .i64 0,.string ⟨#[]⟩,.pointer none],acs prog 142⟩:=by kernel_rfl
@[simp] theorem aa1:bW prog 173=some ⟨.slice 91,1,24,.slice none 0 0,acs prog 173⟩:=by kernel_rfl
@[simp] theorem aa2:bW prog 174=some ⟨.slice 9,1,24,.slice none 0 0,acs prog 174⟩:=by kernel_rfl
@[simp] theorem aa3:bW prog 182=some ⟨.struct #[{ name:="text",type:=9,offset:=0,embedded:=false,tag:="",pkgPath:="signalcabin/expr",byteOffset:=0 },{ name:="at",type:=3,offset:=1,embedded:=false,tag:="",pkgPath:="signalcabin/expr",byteOffset:=16 }],2,24,.agg #[.string ⟨#[]⟩,.int .i64 0],true⟩:=by kernel_rfl
@[simp] theorem aa4:bW prog 188=some ⟨.bool,1,1,.bool false,acs prog 188⟩:=by kernel_rfl
@[simp] theorem aa5:bW prog 189=some ⟨.string,1,16,.string ⟨#[]⟩,acs prog 189⟩:=by kernel_rfl
@[simp] theorem aa6:bW prog 190=some ⟨.string,1,16,.string ⟨#[]⟩,acs prog 190⟩:=by kernel_rfl
@[simp] theorem aa7:bW prog 191=some ⟨.string,1,16,.string ⟨#[]⟩,acs prog 191⟩:=by kernel_rfl
@[simp] theorem aa8:bW prog 192=some ⟨.slice 90,1,24,.slice none 0 0,acs prog 192⟩:=by kernel_rfl
@[simp] theorem aba:bW prog 210=some ⟨.pointer 217,1,8,.pointer none,acs prog 210⟩:=by kernel_rfl
@[simp] theorem abb:bW prog 213=some ⟨.pointer 215,1,8,.pointer none,acs prog 213⟩:=by kernel_rfl
@[simp] theorem abc:bW prog 215=some ⟨.struct #[{ name:="Err",type:=40,offset:=0,embedded:=false,tag:="",pkgPath:="",byteOffset:=0 },{ name:="Place",type:=3,offset:=1,embedded:=false,tag:="",pkgPath:="",byteOffset:=8 }],2,16,.agg #[.int .i64 0,.int .i64 0],true⟩:=by kernel_rfl
@[simp] theorem abd:bW prog 217=some ⟨.struct #[{ name:="Kind",type:=3,offset:=0,embedded:=false,tag:="",pkgPath:="",byteOffset:=0 },{ name:="Name",type:=9,offset:=1,embedded:=false,tag:="",pkgPath:="",byteOffset:=8 },{ name:="If",type:=90,offset:=2,embedded:=false,tag:="",pkgPath:="",byteOffset:=24 }],3,40,.agg #[.int .i64 0,.string ⟨#[]⟩,.nilIface],acs prog 217⟩:=by kernel_rfl
@[simp] theorem abf:bW prog 226=some ⟨.struct #[{ name:="Kind",type:=9,offset:=0,embedded:=false,tag:="",pkgPath:="",byteOffset:=0 },{ name:="Name",type:=9,offset:=1,embedded:=false,tag:="",pkgPath:="",byteOffset:=16 },{ name:="Of",type:=173,offset:=2,embedded:=false,tag:="",pkgPath:="",byteOffset:=32 }],3,56,.agg #[.string ⟨#[]⟩,.string ⟨#[]⟩,.slice none 0 0],acs prog 226⟩:=by kernel_rfl
@[simp] theorem abh:bW prog 245=some ⟨.pointer 247,1,8,.pointer none,acs prog 245⟩:=by kernel_rfl
@[simp] theorem abi:bW prog 247=some ⟨.struct #[{ name:="s",type:=9,offset:=0,embedded:=false,tag:="",pkgPath:="signalcabin/signalcabinref",byteOffset:=0 },{ name:="i",type:=3,offset:=1,embedded:=false,tag:="",pkgPath:="signalcabin/signalcabinref",byteOffset:=16 },{ name:="f",type:=124,offset:=2,embedded:=false,tag:="",pkgPath:="signalcabin/signalcabinref",byteOffset:=24 }],4,40,.agg #[.string ⟨#[]⟩,.int .i64 0,.int .i64 0,.int .i64 0],acs prog 247⟩:=by kernel_rfl
@[simp] theorem abk:bW prog 259=some ⟨.func #[90] #[9] false,1,8,.nilFunc,acs prog 259⟩:=by kernel_rfl
@[simp] theorem abn:bW prog 281=some ⟨.array 7 3,7,56,.agg #[.int .i64 0,.int .i64 0,.int .i64 0,.int .i64 0,.int .i64 0,.int .i64 0,.int .i64 0],acs prog 281⟩:=by kernel_rfl
@[simp] theorem abp:bW prog 307=some ⟨.func #[91] #[] false,1,8,.nilFunc,acs prog 307⟩:=by kernel_rfl
def idx {α:Type} (p:α->Bool) (l:List α):Int:=match l.findIdx? p with
 | some i=>i
 | none=>-1
theorem afp {α:Type} {p:α->Bool} {l:List α} {n:Nat} (hn:n < l.length) (h:p l[n]=true) (hb:∀ i (hi:i < n),p (l[i]'(by omega))=false):idx p l=n:=by
 unfold idx
 have:l.findIdx? p=some n:=by
  rw[acT];exact⟨hn,h,fun j hj=>by simpa using hb j hj⟩
 rw[this]
theorem afq {α:Type} {p:α->Bool} {l:List α} (hb:∀ i (hi:i < l.length),p l[i]=false):idx p l = -1:=by
 unfold idx
 have:l.findIdx? p=none:=by
  rw[List.findIdx?_eq_none_iff];intro x hx;obtain⟨i,hi,rfl⟩:=aco.1 hx;exact hb i hi
 rw[this]
def qc {α:Type} (G:aq) (g:FuncId) (caps:List D) (enc:α->D) (p:α->Bool) (xs:List α):Prop:=∀ x∈xs,ar prog G g (enc x :: caps) (.v (.bool (p x)))
theorem Tj {α:Type} (G:aq) (k:Option Bool) (enc:α->D) (xs:List α) (g:FuncId) (caps:List D) (p:α->Bool) (hl:xs.length < 2^63) (ha:qc G g caps enc p xs) :
  ar prog G 90 [.sl k (xs.map fun x=>[enc x]),.fn (.func g) caps] (.v (.int .i64 (idx p xs))):=by
 refine ar.abS (al _) func90 rfl rfl (rs:=[.tmp 4]) results90 (by simp[ntmps90]) fun X=>?_;simp only[ntmps90,List.map];refine ah [0,1] [] ?_;refine af fun K1 ax=>?_;refine ah [0,1,7,8] [] ?_;refine bQ (S:=Nat) (fun n=>n<=xs.length/\∀ i (hi:i < xs.length),i < n->p xs[i]=false) (fun n=>⟨aV [(0,.d (.sl k (xs.map fun x=>[enc x]))),(1,.d (.fn (.func g) caps)),(7,int xs.length),(8,int n)],ak []⟩) (fun n=>xs.length - n) 0 ?_ (by simp) ?_
 .refine bJ
 .rintro n ⟨hn,hp⟩;refine ah [0,1,7,8,9] [] ?_;refine af fun K2 aa=>?_;refine eh (b:=n < xs.length) (by simp[D.le,D.le.go,aC]) (fun hc=>?_) (fun hc=>?_)
  .refine abO (aa _ ?_);refine af fun K3 aQ=>?_;refine aR ?_;refine ah [0,1,5,7,8] [] ?_;have qf:=@hc;refine dr (ha xs[n] (by simp)) [0,1,5,7,8,16] [] ?_;refine aeD _ rfl (fun ey=>?_) (fun ey=>?_)
   .refine ah [4] [] ?_;refine ab1 ?_;simp[D.le,D.le.go,aC];exact (afp hc ey fun i hi=>hp i (by omega) hi).symm
   .refine abO (aQ _ ?_);refine re0 ?_;(try simp only[aJ,aL]);refine aS.mk (n+1) ⟨by omega,fun i hi aF=>?_⟩ (by omega) ?_
    .by_cases h:i=n
     .subst h;exact ey
     .exact hp i hi (by omega)
    refine bJ
  .refine bx (ax _ ?_);refine ah [4] [] ?_;refine ab1 ?_;simp[D.le,D.le.go,aC];exact (afq fun i hi=>hp i hi (by omega)).symm
theorem agI {α:Type} (p:α->Bool) (l:List α):decide (0<=idx p l)=l.any p:=by
 unfold idx;split
 .rename_i i hi;rw[acT]at hi;obtain⟨h1,h2,_⟩:=hi;have:l.any p=true:=ad1.2 ⟨_,abH h1,h2⟩;rw[this];simp
 .rename_i h;rw[List.findIdx?_eq_none_iff]at h
  have:l.any p=false:=by
   rw[List.any_eq_false];intro x hx;simpa using h x hx
  rw[this];simp
theorem Cj {α:Type} (G:aq) (k:Option Bool) (enc:α->D) (xs:List α) (g:FuncId) (caps:List D) (p:α->Bool) (hl:xs.length < 2^63) (ha:qc G g caps enc p xs) :
  ar prog G 78 [.sl k (xs.map fun x=>[enc x]),.fn (.func g) caps] (.v (.bool (xs.any p))):=by
 refine ar.abS (al _) func78 rfl rfl (rs:=[.tmp 4]) results78 (by simp[ntmps78]) fun X=>?_;simp only[ntmps78,List.map];refine ah [0,1] [] ?_;refine aT trivial (Tj G k enc xs g caps p hl ha) [4] [] ?_;refine ab1 ?_;simp[D.le,D.le.go,aC];exact agI p xs
