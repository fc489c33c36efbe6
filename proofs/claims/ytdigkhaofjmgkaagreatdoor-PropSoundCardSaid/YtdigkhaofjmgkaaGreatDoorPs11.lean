/- Parts. -/
import Derived.Test.YtdigkhaofjmgkaaGreatDoorPs10
import Derived.Test.YtdigkhaofjmgkaaGreatDoorProg
set_option linter.unusedSimpArgs false
set_option linter.unusedVariables false
set_option maxHeartbeats 1000000
open Go.Proofs.Tryz
namespace Go.Proofs.YtdigkhaofjmgkaaGreatDoor
open Go.Av
@[simp] theorem ty3:bW prog 3=some ⟨.int .i64,1,8,.int .i64 0,dG prog 3⟩:=by kernel_rfl
@[simp] theorem xY:bW prog 4=some ⟨.bool,1,1,.bool false,dG prog 4⟩:=by kernel_rfl
@[simp] theorem Yk:bW prog 9=some ⟨.string,1,16,.string ⟨#[]⟩,dG prog 9⟩:=by kernel_rfl
@[simp] theorem X5:bW prog 22=some ⟨.slice 132,1,24,.slice none 0 0,dG prog 22⟩:=by kernel_rfl
@[simp] theorem X6:bW prog 23=some ⟨.slice 217,1,24,.slice none 0 0,dG prog 23⟩:=by kernel_rfl
@[simp] theorem X7:bW prog 25=some ⟨.struct #[{ name:="Names",type:=22,offset:=0,embedded:=false,tag:="",pkgPath:="",byteOffset:=0 },{ name:="Rungs",type:=23,offset:=1,embedded:=false,tag:="",pkgPath:="",byteOffset:=24 }],2,48,.agg #[.slice none 0 0,.slice none 0 0],dG prog 25⟩:=by kernel_rfl
@[simp] theorem Ya:bW prog 34=some ⟨.pointer 48,1,8,.pointer none,dG prog 34⟩:=by kernel_rfl
@[simp] theorem Yb:bW prog 36=some ⟨.interface #[("Error",332)],1,16,.nilIface,dG prog 36⟩:=by kernel_rfl
@[simp] theorem Yc:bW prog 40=some ⟨.int .i64,1,8,.int .i64 0,dG prog 40⟩:=by kernel_rfl
@[simp] theorem Yd:bW prog 44=some ⟨.slice 46,1,24,.slice none 0 0,dG prog 44⟩:=by kernel_rfl
@[simp] theorem Ye:bW prog 45=some ⟨.slice 134,1,24,.slice none 0 0,dG prog 45⟩:=by kernel_rfl
@[simp] theorem Yf:bW prog 46=some ⟨.slice 3,1,24,.slice none 0 0,dG prog 46⟩:=by kernel_rfl
@[simp] theorem Yg:bW prog 48=some ⟨.struct #[{ name:="Program",type:=25,offset:=0,embedded:=false,tag:="",pkgPath:="",byteOffset:=0 },{ name:="States",type:=3,offset:=2,embedded:=false,tag:="",pkgPath:="",byteOffset:=48 },{ name:="Inputs",type:=3,offset:=3,embedded:=false,tag:="",pkgPath:="",byteOffset:=56 },{ name:="Next",type:=44,offset:=4,embedded:=false,tag:="",pkgPath:="",byteOffset:=64 },{ name:="parts",type:=45,offset:=5,embedded:=false,tag:="",pkgPath:="signalcabin/machine",byteOffset:=88 },{ name:="in",type:=46,offset:=6,embedded:=false,tag:="",pkgPath:="signalcabin/machine",byteOffset:=112 }],7,136,.agg #[.slice none 0 0,.slice none 0 0,.int .i64 0,.int .i64 0,.slice none 0 0,.slice none 0 0,.slice none 0 0],dG prog 48⟩:=by kernel_rfl
@[simp] theorem Yh:bW prog 52=some ⟨.func #[9] #[4] false,1,8,.nilFunc,dG prog 52⟩:=by kernel_rfl
@[simp] theorem Yi:bW prog 55=some ⟨.slice 4,1,24,.slice none 0 0,dG prog 55⟩:=by kernel_rfl
@[simp] theorem Yj:bW prog 68=some ⟨.struct #[{ name:="Is",type:=55,offset:=0,embedded:=false,tag:="",pkgPath:="",byteOffset:=0 },{ name:="Count",type:=46,offset:=1,embedded:=false,tag:="",pkgPath:="",byteOffset:=24 }],2,48,.agg #[.slice none 0 0,.slice none 0 0],dG prog 68⟩:=by kernel_rfl
@[simp] theorem Yl:bW prog 90=some ⟨.interface #[("Text",332)],1,16,.nilIface,dG prog 90⟩:=by kernel_rfl
@[simp] theorem XM:bW prog 114=some ⟨.struct #[{ name:="Of",type:=90,offset:=0,embedded:=false,tag:="",pkgPath:="",byteOffset:=0 }],1,16,.agg #[.nilIface],dG prog 114⟩:=by kernel_rfl
@[simp] theorem XN:bW prog 115=some ⟨.slice 90,1,24,.slice none 0 0,dG prog 115⟩:=by kernel_rfl
@[simp] theorem XO:bW prog 116=some ⟨.slice 90,1,24,.slice none 0 0,dG prog 116⟩:=by kernel_rfl
@[simp] theorem XP:bW prog 117=some ⟨.slice 55,1,24,.slice none 0 0,dG prog 117⟩:=by kernel_rfl
@[simp] theorem XQ:bW prog 132=some ⟨.struct #[{ name:="Name",type:=9,offset:=0,embedded:=false,tag:="",pkgPath:="",byteOffset:=0 },{ name:="Kind",type:=3,offset:=1,embedded:=false,tag:="",pkgPath:="",byteOffset:=16 },{ name:="Count",type:=3,offset:=2,embedded:=false,tag:="",pkgPath:="",byteOffset:=24 }],3,32,.agg #[.string ⟨#[]⟩,.int .i64 0,.int .i64 0],true⟩:=by kernel_rfl
@[simp] theorem XR:bW prog 134=some ⟨.struct #[{ name:="name",type:=3,offset:=0,embedded:=false,tag:="",pkgPath:="signalcabin/machine",byteOffset:=0 },{ name:="most",type:=3,offset:=1,embedded:=false,tag:="",pkgPath:="signalcabin/machine",byteOffset:=8 },{ name:="far",type:=4,offset:=2,embedded:=false,tag:="",pkgPath:="signalcabin/machine",byteOffset:=16 }],3,24,.agg #[.int .i64 0,.int .i64 0,.bool false],true⟩:=by kernel_rfl
@[simp] theorem aer:bW prog 152=some ⟨.map 3 4,1,8,.map none,dG prog 152⟩:=by kernel_rfl
@[simp] theorem XT:bW prog 156=some ⟨.int .u64,1,8,.int .u64 0,dG prog 156⟩:=by kernel_rfl
@[simp] theorem XU:bW prog 174=some ⟨.slice 9,1,24,.slice none 0 0,dG prog 174⟩:=by kernel_rfl
@[simp] theorem XV:bW prog 182=some ⟨.struct #[{ name:="text",type:=9,offset:=0,embedded:=false,tag:="",pkgPath:="signalcabin/expr",byteOffset:=0 },{ name:="at",type:=3,offset:=1,embedded:=false,tag:="",pkgPath:="signalcabin/expr",byteOffset:=16 }],2,24,.agg #[.string ⟨#[]⟩,.int .i64 0],true⟩:=by kernel_rfl
@[simp] theorem XW:bW prog 188=some ⟨.bool,1,1,.bool false,dG prog 188⟩:=by kernel_rfl
@[simp] theorem aes:bW prog 189=some ⟨.string,1,16,.string ⟨#[]⟩,dG prog 189⟩:=by kernel_rfl
@[simp] theorem XY:bW prog 190=some ⟨.string,1,16,.string ⟨#[]⟩,dG prog 190⟩:=by kernel_rfl
@[simp] theorem XZ:bW prog 191=some ⟨.string,1,16,.string ⟨#[]⟩,dG prog 191⟩:=by kernel_rfl
@[simp] theorem X0:bW prog 192=some ⟨.slice 90,1,24,.slice none 0 0,dG prog 192⟩:=by kernel_rfl
@[simp] theorem X1:bW prog 210=some ⟨.pointer 217,1,8,.pointer none,dG prog 210⟩:=by kernel_rfl
@[simp] theorem X2:bW prog 213=some ⟨.pointer 215,1,8,.pointer none,dG prog 213⟩:=by kernel_rfl
@[simp] theorem X3:bW prog 215=some ⟨.struct #[{ name:="Err",type:=40,offset:=0,embedded:=false,tag:="",pkgPath:="",byteOffset:=0 },{ name:="Place",type:=3,offset:=1,embedded:=false,tag:="",pkgPath:="",byteOffset:=8 }],2,16,.agg #[.int .i64 0,.int .i64 0],true⟩:=by kernel_rfl
@[simp] theorem X4:bW prog 217=some ⟨.struct #[{ name:="Kind",type:=3,offset:=0,embedded:=false,tag:="",pkgPath:="",byteOffset:=0 },{ name:="Name",type:=9,offset:=1,embedded:=false,tag:="",pkgPath:="",byteOffset:=8 },{ name:="If",type:=90,offset:=2,embedded:=false,tag:="",pkgPath:="",byteOffset:=24 }],3,40,.agg #[.int .i64 0,.string ⟨#[]⟩,.nilIface],dG prog 217⟩:=by kernel_rfl
@[simp] theorem X8:bW prog 259=some ⟨.func #[90] #[9] false,1,8,.nilFunc,dG prog 259⟩:=by kernel_rfl
@[simp] theorem X9:bW prog 281=some ⟨.array 7 3,7,56,.agg #[.int .i64 0,.int .i64 0,.int .i64 0,.int .i64 0,.int .i64 0,.int .i64 0,.int .i64 0],dG prog 281⟩:=by kernel_rfl
def kH (k:Option Bool) (l:List Int):D:=.sl k (l.map fun n=>[.v (.int .i64 n)])
theorem V6 {l l':List Int} (hl:l.length=l'.length) (h:l.take l.length=l'.take l.length):l=l':=by
 rw[List.take_length,hl,List.take_length]at h;exact h
theorem V7 {l l':List Int} {k:Nat} (h:l.take k=l'.take k) (hk:k < l.length) (fq:k < l'.length) (he:l[k]=l'[k]):l.take (k+1)=l'.take (k+1):=by
 rw[List.take_succ_eq_append_getElem hk,List.take_succ_eq_append_getElem fq,h,he]
theorem Vl (G:Yt) (k k':Option Bool) (l l':List Int) (h:l.length < 2^63):ao prog G 55 [kH k l,kH k' l'] (.v (.bool (l == l'))):=by
 refine ao.aI (au _) func55 rfl rfl (rs:=[.tmp 4]) results55 (by simp[ntmps55]) fun X=>?_;simp only[ntmps55,List.map];refine al [0,1] [] ?_;refine ae fun K1 Yw=>?_;refine Ys @kH.eq_1 [0,1,10] [] ?_;refine eM (b:=l.length≠l'.length) (by simp[D.le,D.le.go,aQ]) (fun hc=>?_) (fun hc=>?_)
 .refine al [4] [] ?_;refine b6 ?_;simp[D.le,D.le.go,aQ];intro e;subst e;simp at hc
 .refine ar (Yw _ ?_)
  have hl:l.length=l'.length:=by simpa using hc
  refine ae fun K2 aa=>?_;refine Ys @kH.eq_1 [0,1,5] [] ?_;refine cr (S:=Nat) (fun n=>n<=l.length/\l.take n=l'.take n) (fun n=>⟨YB [(0,.d (kH k l)),(1,.d (kH k' l')),(5,int n)],ah []⟩) (fun n=>l.length - n) 0 ?_ (by simp) ?_
  .refine bz @kH.eq_1
  .rintro n ⟨hn,ht⟩;refine ae fun K3 bf=>?_;refine Ys @kH.eq_1 [0,1,5,14] [] ?_;refine eM (b:=n < l.length) (by simp[D.le,D.le.go,aQ]) (fun hc=>?_) (fun hc=>?_)
   .refine ar (bf _ ?_);refine ae fun K4 bZ=>?_;refine YF ?_
    have iG:n < l'.length:=by omega
    have qf:=(Aq @kH.eq_1 (Aq @hc @iG));refine aaR [0,1,5,25] [] ?_;refine eM (b:=¬ l[n]=l'[n]) (by simp[D.le,D.le.go,aQ]) (fun hc=>?_) (fun hc=>?_)
    .refine al [4] [] ?_;refine b6 ?_;simp[D.le,D.le.go,aQ];intro e;subst e;simp at hc
    .refine ar (bZ _ ?_);refine fk ?_;try simp only[YC,bd]
     have he:l[n]=l'[n]:=by simpa using hc
     refine bo.mk (n+1) ⟨by omega,V7 ht (by omega) iG he⟩ (by omega) ?_;refine bz @kH.eq_1
   .refine bY (aa _ ?_);refine al [4] [] ?_;refine b6 ?_;simp[D.le,D.le.go,aQ]
    have hnn:n=l.length:=by omega
    subst hnn;exact V6 hl ht
def idx {α:Type} (p:α->Bool) (l:List α):Int:=match l.findIdx? p with
 | some i=>i
 | none=>-1
theorem oI {α:Type} {p:α->Bool} {l:List α} {n:Nat} (hn:n < l.length) (h:p l[n]=true) (hb:∀ i (hi:i < n),p (l[i]'(by omega))=false):idx p l=n:=by
 unfold idx
 have:l.findIdx? p=some n:=by
  rw[List.findIdx?_eq_some_iff_getElem];exact⟨hn,h,fun j hj=>by simpa using hb j hj⟩
 rw[this]
theorem oJ {α:Type} {p:α->Bool} {l:List α} (hb:∀ i (hi:i < l.length),p l[i]=false):idx p l = -1:=by
 unfold idx
 have:l.findIdx? p=none:=by
  rw[List.findIdx?_eq_none_iff];intro x hx;obtain⟨i,hi,rfl⟩:=List.mem_iff_getElem.1 hx;exact hb i hi
 rw[this]
def x9 {α:Type} (G:Yt) (g:FuncId) (caps:List D) (enc:α->D) (p:α->Bool) (xs:List α):Prop:=∀ x∈xs,ao prog G g (enc x :: caps) (.v (.bool (p x)))
theorem acE {α:Type} (p:α->Bool) (l:List α):decide (0<=idx p l)=l.any p:=by
 unfold idx;split
 .rename_i i hi;rw[List.findIdx?_eq_some_iff_getElem]at hi;obtain⟨h1,h2,_⟩:=hi;have:l.any p=true:=List.any_eq_true.2 ⟨_,List.getElem_mem h1,h2⟩;rw[this];simp
 .rename_i h;rw[List.findIdx?_eq_none_iff]at h
  have:l.any p=false:=by
   rw[List.any_eq_false];intro x hx;simpa using h x hx
  rw[this];simp
