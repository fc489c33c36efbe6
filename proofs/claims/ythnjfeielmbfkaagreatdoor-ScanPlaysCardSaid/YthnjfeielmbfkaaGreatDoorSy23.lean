/-
  Texts that belong together,in one file: Sh2,A1,A2,A3,A4,W2,U2,A6,A7,V6,V8,LP1,LC1,LC2,LK.
-/
import Derived.Test.YthnjfeielmbfkaaGreatDoorSy22
import Derived.Test.YthnjfeielmbfkaaGreatDoorProg
import Derived.Ground.NamesProg
import Derived.Shelf.Strings.Runes
set_option linter.unusedSimpArgs false
set_option linter.unusedVariables false
namespace Go.Proofs
open Go.Shelf
def Tryz.lays151_ren:Go.Shelf.Ren:=⟨fun | 151=>191 | 152=>239 | 137=>85 | 119=>261 | 224=>227 | 225=>226 | 217=>132 | 266=>180 | n=>n,fun | 9=>9 | 21=>21 | 4=>4 | 3=>3 | 5=>5 | 0=>0 | 46=>120 | n=>n,fun | n=>n⟩
theorem Tryz.lays151:Go.Proofs.Lays.n151 Tryz.prog Tryz.lays151_ren:={
 mixed:=by kernel_rfl
 f119:=Tryz.func261.trans (congrArg some (by kernel_rfl))
 f137:=Tryz.func85.trans (congrArg some (by kernel_rfl))
 f151:=Tryz.func191.trans (congrArg some (by kernel_rfl))
 f152:=Tryz.func239.trans (congrArg some (by kernel_rfl))
 f217:=Tryz.func132.trans (congrArg some (by kernel_rfl))
 f224:=Tryz.func227.trans (congrArg some (by kernel_rfl))
 f225:=Tryz.func226.trans (congrArg some (by kernel_rfl))
 f266:=Tryz.func180.trans (congrArg some (by kernel_rfl))
 t0:=Tryz.underlying0
 a0:=Tryz.isAgg0
 z0:=Tryz.sizeOf0
 v0:=Tryz.zeroValue0
 t3:=Tryz.underlying3
 a3:=Tryz.isAgg3
 z3:=Tryz.sizeOf3
 v3:=Tryz.zeroValue3
 t4:=Tryz.underlying4
 a4:=Tryz.isAgg4
 z4:=Tryz.sizeOf4
 v4:=Tryz.zeroValue4
 t5:=Tryz.underlying5
 a5:=Tryz.isAgg5
 z5:=Tryz.sizeOf5
 v5:=Tryz.zeroValue5
 t9:=Tryz.underlying9
 a9:=Tryz.isAgg9
 z9:=Tryz.sizeOf9
 v9:=Tryz.zeroValue9
 t21:=Tryz.underlying21
 a21:=Tryz.isAgg21
 z21:=Tryz.sizeOf21
 v21:=Tryz.zeroValue21
 t46:=Tryz.underlying120
 a46:=Tryz.isAgg120
 z46:=Tryz.sizeOf120
 v46:=Tryz.zeroValue120 }
end Go.Proofs
namespace Go.Proofs.YthnjfeielmbfkaaGreatDoor
open Go.Av
open Go.Shelf
def pRow (t:List UInt8) (i:Int) (e p:Int):List (Nat×Row):=[(500,.box 231 [.d (dS t),int i,int e,int p])]
set_option maxHeartbeats 4000000 in
theorem pskip_spec (G:Glob) (t:List UInt8) (i:Nat) (ht:t.length < 2^60) (hi:i≤t.length) (e p:Int) :
  MC Tryz.prog G [500] 184 [.ref 500 0 0] (hlst (pRow t i e p)) (.d (.tup [])) (hlst (pRow t (skipB t i) e p)):=by
 refine MC.of_body (tyOf_good _) Tryz.func184 rfl rfl (rs:=[]) Tryz.results184 (by simp [Tryz.ntmps184]) rfl fun X=>?_;simp only [Tryz.ntmps184]
 have fw:=(Aq @dNum.eq_1 (Aq @pRow.eq_1 @dS.eq_1))
 refine AW_for (S:=Nat) (fun k=>k≤t.length∧skipB t k=skipB t i) (fun k=>⟨lst [(0,.ref 500 0 0)],hlst [(500,.box 231 [.d (dS t),int k,int e,int p])]⟩) (fun k=>t.length - k) i ?_ ⟨hi,rfl⟩ ?_
 ·refine Imp.to' (notIn_ok rfl) (by simp [dNum,pRow,dS]) (by simp [dNum,pRow,dS])
 ·rintro k ⟨hk,hs⟩
  refine AW_then fun K1 hK1=>?_
  by_cases hkl:k < t.length
  ·have hkl':(k:Int) < (t.length:Int):=by omega
   by_cases hb:((t[k]).toNat:Int)=32
   ·have qf:=(Aq fw (Aq @bs_size (Aq @bs_data (Aq @hkl @hb))))
    refine rdqv [0,23] [500] ?_;refine AW_tt rfl ?_;refine AW_skip (hK1 _ ?_);refine AW_block ?_;refine AW_re (tyOf_good _) fun K' hK'=>?_;(repeat (refine sxn fun K2 hK2=>?_;simp [dNum,pRow,dS];(repeat (refine ⟨by omega,?_⟩));refine hK2 _ ?_;clear hK2 K2));refine sxz (hK' _ ?_);clear hK' K';try simp only [thn,inb]
    have h32:t[k]? = some 32:=by
     rw [List.getElem?_eq_getElem hkl,(u8_eq _ 32 (by decide)).1 hb];rfl
    refine Again.mk (k+1) ⟨by omega,?_⟩ (by omega) ?_
    ·rw [← skipB_blank h32];exact hs
    refine Imp.to' (notIn_ok rfl) (by simp [dNum,pRow,dS]) (by simp [dNum,pRow,dS])
   ·have qf:=(Aq fw (Aq @bs_size (Aq @bs_data (Aq @hkl @hb))))
    refine rdqv [0,23] [500] ?_;refine AW_ff rfl ?_;refine AW_exit ?_
    have h32:t[k]?≠some 32:=by
     rw [List.getElem?_eq_getElem hkl]
     intro h
     apply hb
     rw [Option.some.inj h];rfl
    rw [skipB_stop h32] at hs;rw [← hs];simp [pRow,dS,D.le_refl]
  ·obtain rfl:k=t.length:=by omega
   have qf:=(Aq fw (Aq @bs_size @bs_data))
   refine rdqv [0,23] [500] ?_;refine AW_ff rfl ?_;refine AW_exit ?_
   have h32:t[t.length]?≠some 32:=by simp
   rw [skipB_stop h32] at hs;rw [← hs];simp [pRow,dS,D.le_refl]
def nxB (t:List UInt8) (i:Nat):UInt8:=t.getD (skipB t i) 0
set_option maxHeartbeats 4000000 in
theorem pnext_spec (G:Glob) (t:List UInt8) (i:Nat) (ht:t.length < 2^60) (hi:i≤t.length) (e p:Int) :
  MC Tryz.prog G [500] 134 [.ref 500 0 0] (hlst (pRow t i e p)) (.d (.v (.int .u8 (nxB t i).toNat))) (hlst (pRow t (skipB t i) e p)):=by
 have hsk:=pskip_spec G t i ht hi e p
 have htop:=skipB_top hi
 unfold nxB;generalize skipB t i=j at hsk htop ⊢
 by_cases hjl:j < t.length
 ·have hjl':(j:Int) < (t.length:Int):=by omega
  have hgd:t.getD j 0=t[j]:=by simp [List.getD_eq_getElem?_getD,hjl]
  rw [hgd];refine MC.of_body (tyOf_good _) Tryz.func134 rfl rfl (rs:=[.tmp 2]) Tryz.results134 (by simp [Tryz.ntmps134]) rfl fun X=>?_;simp only [Tryz.ntmps134]
  have fw:=(Aq @dNum.eq_1 (Aq @pRow.eq_1 @dS.eq_1))
  refine rgq fw [0] [500] ?_;refine rgm fw hsk [0] [500] ?_;refine AW_then fun K1 hK1=>?_
  have qf:=(Aq fw (Aq @bs_size (Aq @hjl @hjl')))
  refine rdqv [0,14] [500] ?_;refine AW_tt rfl ?_
  have qf:=(Aq fw (Aq @bs_size (Aq @bs_data @hjl)))
  refine rdqv [2] [500] ?_;refine AW_ret ?_;simp [D.le,D.le.go,takeMap,dNum,pRow,dS,pRow,hjl]
 ·obtain rfl:j=t.length:=by omega
  refine MC.of_body (tyOf_good _) Tryz.func134 rfl rfl (rs:=[.tmp 2]) Tryz.results134 (by simp [Tryz.ntmps134]) rfl fun X=>?_;simp only [Tryz.ntmps134]
  have fw:=(Aq @dNum.eq_1 (Aq @pRow.eq_1 @dS.eq_1))
  refine rgq fw [0] [500] ?_;refine rgm fw hsk [0] [500] ?_;refine AW_then fun K1 hK1=>?_
  have qf:=(Aq fw @bs_size)
  refine rdqv [0,14] [500] ?_;refine AW_ff rfl ?_;refine AW_skip (hK1 _ ?_);refine rgq fw [2] [500] ?_;refine AW_ret ?_;simp [D.le,D.le.go,takeMap,dNum,pRow,dS,pRow]
set_option maxHeartbeats 4000000 in
theorem pfail_spec (G:Glob) (t:List UInt8) (i:Nat) (ht:t.length < 2^60) (hi:i≤t.length) (e:Int) :
  MC Tryz.prog G [500] 135 [.ref 500 0 0,.d (dNum e)] (hlst (pRow t i 0 (-1))) (.d (.v (.pointer none))) (hlst (pRow t (skipB t i) e (skipB t i))):=by
 have hsk:=pskip_spec G t i ht hi 0 (-1)
 generalize skipB t i=j at hsk ⊢;refine MC.of_body (tyOf_good _) Tryz.func135 rfl rfl (rs:=[.tmp 4]) Tryz.results135 (by simp [Tryz.ntmps135]) rfl fun X=>?_;simp only [Tryz.ntmps135]
 have fw:=(Aq @dNum.eq_1 (Aq @pRow.eq_1 @dS.eq_1))
 refine rgq fw [0,1] [500] ?_;refine rgm fw hsk [0,1] [500] ?_;refine AW_then fun K1 hK1=>?_;refine rgq fw [0,1,12] [500] ?_;refine AW_tt rfl ?_;refine reK fw hK1 [] [500] ?_;refine rgq fw [4] [500] ?_;refine AW_ret ?_;simp [D.le,D.le.go,takeMap,dNum,pRow,dS,pRow]
def set9:List UInt8:=[32,38,124,33,94,126,40,41,61]
theorem isSgn9 (c:UInt8):isSgn c=set9.contains c:=rfl
theorem enc_big {c:UInt8} (h:128≤c.toNat):∃ b0 b1:UInt8,Utf8.encode (c.toNat:Int)=bs [b0,b1]∧128≤b1.toNat:=by
 have hv:Utf8.valid (c.toNat:Int)=true:=by
  have hc:=c.toNat_lt
  simp [Utf8.valid]
  omega
 refine ⟨UInt8.ofNat (0xC0+c.toNat / 64),UInt8.ofNat (0x80+c.toNat % 64),?_,?_⟩
 ·have hc:=c.toNat_lt
  unfold Utf8.encode;rw [hv];simp only [if_true,Int.toNat_natCast];rw [if_neg (by omega),if_pos (by omega)]
  rfl
 ·simp
  omega
theorem vrune_spec (G:Glob) (n:Nat) (h:n < 256):PureC Tryz.prog G 261 [.v (.int .i32 n)] (.v (.bool true)):=by
 have h1:(n:Int) < 55296:=by omega
 refine PureC.of_body (tyOf_good _) Tryz.func261 rfl rfl (rs:=[.tmp 2]) Tryz.results261 (by simp [Tryz.ntmps261]) fun X=>?_;simp only [Tryz.ntmps261,List.map]
 have fw:=(Aq @dNum.eq_1 @dS.eq_1)
 refine rgq fw [0] [] ?_;refine AW_then fun K1 hK1=>?_;refine AW_block ?_
 have qf:=(Aq fw @h1)
 refine rgqv [0,3] [] ?_;refine AW_tt rfl ?_;refine rgq fw [2] [] ?_;refine AW_ret ?_;simp [D.le,D.le.go,takeMap,dNum,dS]
set_option maxHeartbeats 4000000 in
theorem irune_big (G:Glob) (c:UInt8) (h:128≤c.toNat):PureC Tryz.prog G 239 [dS set9,.v (.int .i32 c.toNat)] (dNum (-1)):=by
 have hc:=c.toNat_lt
 obtain ⟨b0,b1,he,hb⟩:=enc_big h
 have h1:¬ (c.toNat:Int) < 128:=by omega
 have h2:¬ (c.toNat:Int)=65533:=by omega
 have hv:=vrune_spec G c.toNat hc
 have hb2:¬ (38:Int)=(b1.toNat:Int):=by omega
 have hix:=ixb_spec G [124,33,94,126,40,41,61] b1
 have hneg:Lib.indexByte [124,33,94,126,40,41,61] b1 < 0:=(ixb_neg _ _).2 (by
  intro hm
  have:∀ x∈([124,33,94,126,40,41,61]:List UInt8),x.toNat < 128:=by decide
  have:=this _ hm
  omega)
 have hsl:(bs set9).extract 2 9=bs [124,33,94,126,40,41,61]:=rfl
 refine PureC.of_body (tyOf_good _) Tryz.func239 rfl rfl (rs:=[.tmp 4]) Tryz.results239 (by simp [Tryz.ntmps239]) fun X=>?_;simp only [Tryz.ntmps239,List.map]
 have fw:=(Aq @dNum.eq_1 @dS.eq_1)
 refine rgq fw [0,1] [] ?_;refine AW_block ?_
 have qf:=(Aq fw @h1)
 refine rgqv [0,1,160] [] ?_;refine AW_ff rfl ?_
 have qf:=(Aq fw @h2)
 refine rgqv [0,1,171] [] ?_;refine AW_ff rfl ?_;refine rgc fw hv [0,1,183] [] ?_;refine AW_ff rfl ?_;refine AW_scope ?_
 have qf:=(Aq fw @he)
 refine rgqv [0,7] [] ?_
 have qf:=(Aq fw @bs_size)
 refine rgqv [0,7,8] [] ?_;refine rgq fw [0,7,8,9] [] ?_;refine rgq fw [0,7,8,9] [] ?_;refine AW_then fun K3 hK3=>?_;refine AW_for (S:=Nat) (fun n=>True) (fun n=>⟨lst [(0,.d (dS set9)),(7,.d (dS [b0,b1])),(8,int 1),(9,int 1)],hlst []⟩) (fun n=>0) 0 ?_ trivial ?_
 ·refine Imp.to' (fun _ _=>trivial) (by simp [dNum,dS]) (by simp [dNum,dS])
 ·intro n hn
  refine AW_then fun K4 hK4=>?_
  have qf:=(Aq fw (Aq @bs_size @set9.eq_1))
  refine rgqv [0,7,8,9,26] [] ?_;refine AW_tt rfl ?_;refine AW_skip (hK4 _ ?_);refine AW_block ?_;refine AW_scope ?_;refine AW_then fun K5 hK5=>?_
  have qf:=(Aq fw (Aq @bs_size (Aq @bs_data (Aq @set9.eq_1 @hb2))))
  refine rdqv [0,7,8,9,33] [] ?_;refine AW_tt rfl ?_
  have qf:=(Aq fw (Aq @bs_size (Aq @bs_data (Aq @set9.eq_1 @hsl))))
  refine rdcv hix [0,7,8,9,11] [] ?_;refine AW_then fun K6 hK6=>?_
  have qf:=(Aq fw @hneg)
  refine rgqv [0,7,8,9,11,43] [] ?_;refine AW_tt rfl ?_;refine rgq fw [4] [] ?_;refine AW_ret ?_;simp [D.le,D.le.go,takeMap,dNum,dS]
theorem crune_spec (G:Glob) (c:UInt8):PureC Tryz.prog G 191 [dS set9,.v (.int .i32 c.toNat)] (.v (.bool (isSgn c))):=by
 by_cases h:c.toNat < 128
 ·refine PureC.of_calls (Fun.of Tryz.func191 rfl rfl) fun X w vs hsz hrd hgl=>?_
  obtain ⟨a,b,rfl⟩:∃ a b,vs = #[a,b]:=by
   match vs,hsz with
   | ⟨[a,b]⟩,_=>exact ⟨a,b,rfl⟩
  have ha:=(hrd 0 a _ rfl rfl).scalar
  have hb:=(hrd 1 b _ rfl rfl).scalar
  subst ha hb
  have hcon:=Any.strings_ContainsRune_ascii (P:=Tryz.prog) (ρ:=Tryz.lays151_ren) { Tryz.lays151 with } (bs set9) c.toNat w (by omega) (by omega)
  rw [show (c.toNat:Int).toNat.toUInt8=c by simp] at hcon;refine hcon.mono fun e w' ⟨he,hw⟩=>⟨_,he,by rw [hw];exact Grew.refl _,?_⟩
  have hbb:decide (0≤Lib.indexByte (bs set9).data.toList c)=isSgn c:=by
   rw [isSgn9,Bool.eq_iff_iff,decide_eq_true_eq,List.contains_iff_mem]
   have:=ixb_neg set9 c
   have e:(bs set9).data.toList=set9:=rfl
   rw [e]
   constructor
   ·intro h0
    apply Classical.byContradiction
    intro hn
    have:=this.2 hn
    omega
   ·intro hm
    apply Classical.byContradiction
    intro hn
    exact this.1 (by omega) hm
  rw [hbb];exact .v _
 ·have hbig:=irune_big G c (by omega)
  have hno:isSgn c=false:=by
   have h:∀ n:Fin 256,128≤n.val→isSgn (UInt8.ofNat n)=false:=by decide +kernel
   have:=h ⟨c.toNat,c.toNat_lt⟩ (by simp;omega)
   simpa using this
  rw [hno];refine PureC.of_body (tyOf_good _) Tryz.func191 rfl rfl (rs:=[.tmp 4]) Tryz.results191 (by simp [Tryz.ntmps191]) fun X=>?_;simp only [Tryz.ntmps191,List.map]
  have fw:=(Aq @dNum.eq_1 @dS.eq_1)
  refine rgq fw [0,1] [] ?_;refine rgc fw hbig [4] [] ?_;refine AW_ret ?_;simp [D.le,D.le.go,takeMap,dNum,dS]
end Go.Proofs.YthnjfeielmbfkaaGreatDoor
namespace Go.Proofs.YthnjfeielmbfkaaGreatDoor
open Go.Av
def eR {α:Type}:Rs α→Int
 | .ok _ _=>0
 | .err c _ _=>c
def pR {α:Type}:Rs α→Int
 | .ok _ _=>-1
 | .err _ p _=>p
theorem u8_wrap (c:UInt8):IntKind.i32.wrap (c.toNat:Int)=(c.toNat:Int):=by
 have h:∀ n:Fin 256,IntKind.i32.wrap ((UInt8.ofNat n.val).toNat:Int)=((UInt8.ofNat n.val).toNat:Int):=by decide +kernel
 have:=h ⟨c.toNat,c.toNat_lt⟩
 simpa using this
theorem wrap48:IntKind.i32.wrap 48=48:=by decide +kernel
theorem wrap49:IntKind.i32.wrap 49=49:=by decide +kernel
theorem set9_lit:(⟨#[32,38,124,33,94,126,40,41,61]⟩:ByteArray)=bs set9:=rfl
set_option maxHeartbeats 8000000 in
theorem pword_spec (G:Glob) (t:List UInt8) (q i:Nat) (ht:t.length < 2^60) (hi:i≤t.length) :
  MC Tryz.prog G [500] 231 [.ref 500 0 0] (hlst (pRow t i 0 (-1))) (.d (dS (wordS t (skipB t i)))) (hlst (pRow t (posR (wordR t q i)) (eR (wordR t q i)) (pR (wordR t q i)))):=by
 have hsk:=pskip_spec G t i ht hi 0 (-1)
 have htop:=skipB_top hi
 have hidem:=skipB_idem hi
 unfold wordR;generalize skipB t i=j at hsk htop hidem ⊢
 have hf3:=pfail_spec G t j ht htop 3
 have hf5:=pfail_spec G t j ht htop 5
 rw [hidem] at hf3 hf5
 have hel:=wEnd_le t j
 have het:=wEnd_top htop
 have hws:(t.drop j).take (wEnd t j - j)=wordS t j:=rfl
 have hslen:(wordS t j).length < 2^60:=by
  rw [← hws,List.length_take,List.length_drop];omega
 have hname:=ncheck_spec G (wordS t j) hslen
 rw [← name_same] at hname;refine MC.of_body (tyOf_good _) Tryz.func231 rfl rfl (rs:=[.tmp 2]) Tryz.results231 (by simp [Tryz.ntmps231]) rfl fun X=>?_;simp only [Tryz.ntmps231]
 have fw:=(Aq @dNum.eq_1 (Aq @pRow.eq_1 @dS.eq_1))
 refine rgq fw [0] [500] ?_;refine rgm fw hsk [0] [500] ?_;refine rgq fw [0,3] [500] ?_;refine AW_then fun K1 hK1=>?_;refine AW_for (S:=Nat) (fun k=>j≤k∧k≤t.length∧AtW t j k) (fun k=>⟨lst [(0,.ref 500 0 0),(3,int k)],hlst [(500,.box 231 [.d (dS t),int j,int 0,int (-1)])]⟩) (fun k=>t.length - k) j ?_ ⟨Nat.le_refl _,htop,.inl rfl⟩ ?_
 ·refine Imp.to' (notIn_ok rfl) (by simp [dNum,pRow,dS]) (by simp [dNum,pRow,dS])
 ·rintro k ⟨hjk,hk,hat⟩
  refine AW_then fun K2 hK2=>?_
  refine (fun hgo hstop=>?_) (fun (σ:St) (hn:AtW t j (k+1)) (hkl:k < t.length) himp=>hK2 σ (AW.imp (τ:=⟨lst [(0,.ref 500 0 0),(3,int k)],hlst [(500,.box 231 [.d (dS t),int j,int 0,int (-1)])]⟩) himp ?_))
   (fun (σ:St) (he:k=wEnd t j) himp=>hK1 σ (AW.imp (τ:=⟨lst [(0,.ref 500 0 0),(3,int k)],hlst [(500,.box 231 [.d (dS t),int j,int 0,int (-1)])]⟩) himp ?_))
  ·by_cases hkl:k < t.length
   ·have hcr:=crune_spec G t[k]
    have hm11:=mem11 t[k]
    cases hsg:isSgn t[k] with
    | true=>
     rw [hsg] at hcr hm11
     have qf:=(Aq fw (Aq @bs_size (Aq @bs_data (Aq @set9_lit (Aq @u8_wrap @hkl)))))
     refine rgcv hcr [0,3,54] [500] ?_;refine AW_ff rfl ?_;refine AW_exit (hstop _ (atW_exit hat hk fun _=>⟨hm11.2 (.inl rfl),fun _=>⟨fun e=>?_,fun e=>?_⟩⟩) ?_)
     ·rw [e] at hsg;exact absurd hsg (by decide)
     ·rw [e] at hsg;exact absurd hsg (by decide)
     ·refine Imp.to' (notIn_ok rfl) (by simp [dNum,pRow,dS]) (by simp [dNum,pRow,dS])
    | false=>
     rw [hsg] at hcr hm11
     by_cases hjk':j < k
     ·have hjk2:(j:Int) < (k:Int):=by omega
      have hgo2:t[k] ∉ set11∨(j < k∧(t[k]=48∨t[k]=49)):=by
       by_cases hm:t[k]∈set11
       ·rcases hm11.1 hm with h | h | h
        ·cases h
        ·exact .inr ⟨hjk',.inl h⟩
        ·exact .inr ⟨hjk',.inr h⟩
       ·exact .inl hm
      have qf:=(Aq fw (Aq @bs_size (Aq @bs_data (Aq @set9_lit (Aq @u8_wrap (Aq @hkl (Aq @hjk2 @hjk')))))))
      refine rgcv hcr [0,3,54] [500] ?_;refine AW_tt rfl ?_;refine AW_skip (hgo _ (atW_next hat hkl hgo2) hkl ?_);refine Imp.to' (notIn_ok rfl) (by simp [dNum,pRow,dS]) (by simp [dNum,pRow,dS])
     ·have hjk2:¬ (j:Int) < (k:Int):=by omega
      by_cases h48:((t[k]).toNat:Int)=48
      ·have hc:t[k]=48:=(u8_eq _ 48 (by decide)).1 h48
       rw [h48] at hcr
       have qf:=(Aq fw (Aq @bs_size (Aq @bs_data (Aq @set9_lit (Aq @wrap48 (Aq @hkl (Aq @hjk2 (Aq @hjk' @h48))))))))
       refine rgcv hcr [0,3,54] [500] ?_;refine AW_ff rfl ?_;refine AW_exit (hstop _ (atW_exit hat hk fun _=>⟨hm11.2 (.inr (.inl hc)),fun h=>absurd h hjk'⟩) ?_);refine Imp.to' (notIn_ok rfl) (by simp [dNum,pRow,dS]) (by simp [dNum,pRow,dS])
      ·by_cases h49:((t[k]).toNat:Int)=49
       ·have hc:t[k]=49:=(u8_eq _ 49 (by decide)).1 h49
        rw [h49] at hcr
        have qf:=(Aq fw (Aq @bs_size (Aq @bs_data (Aq @set9_lit (Aq @wrap49 (Aq @hkl (Aq @hjk2 (Aq @hjk' (Aq @h48 @h49)))))))))
        refine rgcv hcr [0,3,54] [500] ?_;refine AW_ff rfl ?_;refine AW_exit (hstop _ (atW_exit hat hk fun _=>⟨hm11.2 (.inr (.inr hc)),fun h=>absurd h hjk'⟩) ?_);refine Imp.to' (notIn_ok rfl) (by simp [dNum,pRow,dS]) (by simp [dNum,pRow,dS])
       ·have hm:t[k] ∉ set11:=fun hm=>by
         rcases hm11.1 hm with h | h | h
         ·cases h
         ·exact h48 (by rw [h];rfl)
         ·exact h49 (by rw [h];rfl)
        have qf:=(Aq fw (Aq @bs_size (Aq @bs_data (Aq @set9_lit (Aq @u8_wrap (Aq @hkl (Aq @hjk2 (Aq @hjk' (Aq @h48 @h49)))))))))
        refine rgcv hcr [0,3,54] [500] ?_;refine AW_tt rfl ?_;refine AW_skip (hgo _ (atW_next hat hkl (.inl hm)) hkl ?_);refine Imp.to' (notIn_ok rfl) (by simp [dNum,pRow,dS]) (by simp [dNum,pRow,dS])
   ·obtain rfl:k=t.length:=by omega
    by_cases hjk':j < t.length
    ·have hjk2:(j:Int) < (t.length:Int):=by omega
     have qf:=(Aq fw (Aq @bs_size (Aq @bs_data (Aq @hjk2 @hjk'))))
     refine rgqv [0,3,54] [500] ?_;refine AW_ff rfl ?_;refine AW_exit (hstop _ (atW_exit hat hk fun h=>absurd h hkl) ?_);refine Imp.to' (notIn_ok rfl) (by simp [dNum,pRow,dS]) (by simp [dNum,pRow,dS])
    ·have hjk2:¬ (j:Int) < (t.length:Int):=by omega
     have qf:=(Aq fw (Aq @bs_size (Aq @bs_data (Aq @hjk2 @hjk'))))
     refine rgqv [0,3,54] [500] ?_;refine AW_ff rfl ?_;refine AW_exit (hstop _ (atW_exit hat hk fun h=>absurd h hkl) ?_);refine Imp.to' (notIn_ok rfl) (by simp [dNum,pRow,dS]) (by simp [dNum,pRow,dS])
  ·refine AW_block ?_;refine AW_re (tyOf_good _) fun K' hK'=>?_;(repeat (refine sxn fun K2 hK2=>?_;simp [dNum,pRow,dS];(repeat (refine ⟨by omega,?_⟩));refine hK2 _ ?_;clear hK2 K2));refine sxz (hK' _ ?_);clear hK' K';(try simp only [thn,inb]);refine Again.mk (k+1) ⟨by omega,by omega,hn⟩ (by omega) ?_;refine Imp.to' (notIn_ok rfl) (by simp [dNum,pRow,dS]) (by simp [dNum,pRow,dS])
  ·subst he;clear hK1 hK2
   have hws2:List.take (wEnd t j - j) (List.drop j t)=wordS t j:=hws
   have qf:=(Aq fw (Aq @bs_size (Aq @bs_extract (Aq @hel (Aq @het @hws2)))))
   refine rdqv [0,3,4] [500] ?_;refine AW_then fun K3 hK3=>?_;refine AW_block ?_
   by_cases hs:wordS t j=[]
   ·refine rg [0,3,4,71] [500] (notIn_ok rfl) fun K' hK'=>?_;(repeat (refine sxn fun K2 hK2=>?_;simp [dNum,pRow,dS,hs,bs_nil,bs_list,binS];(repeat (refine ⟨by omega,?_⟩));refine hK2 _ ?_;clear hK2 K2));refine sxz (hK' _ (AW.st (by simp [dNum,pRow,dS,hs,bs_nil,bs_list,binS];rfl) ?_));clear hK' K';refine AW_tt rfl ?_;refine AW_re (tyOf_good _) fun K' hK'=>?_;(repeat (refine sxn fun K2 hK2=>?_;simp [dNum,pRow,dS];(repeat (refine ⟨by omega,?_⟩));refine hK2 _ ?_;clear hK2 K2));refine sxn fun K2 hK2=>?_;simp [dNum,pRow,dS];refine callK.mc (hf3) ?_ ?_ ?_ ?_ ?_<;>simp [dNum,pRow,dS];refine hK2 _ ?_;clear hK2 K2;(repeat (refine sxn fun K2 hK2=>?_;simp [dNum,pRow,dS];(repeat (refine ⟨by omega,?_⟩));refine hK2 _ ?_;clear hK2 K2));refine sxz (hK' _ ?_);clear hK' K';refine hK3 _ (AW.norm [4] [500] (notIn_ok rfl) (AW.st (by simp [dNum,pRow,dS];rfl) ?_));refine rgq fw [2] [500] ?_;refine AW_ret ?_;simp [D.le,D.le.go,takeMap,dNum,pRow,dS,pRow,posR,eR,pR,hs,bs_nil]
   ·have hse:(wordS t j == [])=false:=by simpa using hs
    have hse2:(wordS t j).isEmpty=false:=by rw [List.isEmpty_eq_false_iff];exact hs
    refine rg [0,3,4,71] [500] (notIn_ok rfl) fun K' hK'=>?_;(repeat (refine sxn fun K2 hK2=>?_;simp [dNum,pRow,dS,bs_nil,bs_list,binS,hs,hse,hse2];(repeat (refine ⟨by omega,?_⟩));refine hK2 _ ?_;clear hK2 K2));refine sxz (hK' _ (AW.st (by simp [dNum,pRow,dS,bs_nil,bs_list,binS,hs,hse,hse2];rfl) ?_));clear hK' K';refine AW_ff rfl ?_
    cases hn:nameF (wordS t j) with
    | false=>
     rw [hn] at hname;refine rgc fw hname [0,3,4,76] [500] ?_;refine AW_tt rfl ?_;refine AW_re (tyOf_good _) fun K' hK'=>?_;(repeat (refine sxn fun K2 hK2=>?_;simp [dNum,pRow,dS];(repeat (refine ⟨by omega,?_⟩));refine hK2 _ ?_;clear hK2 K2));refine sxn fun K2 hK2=>?_;simp [dNum,pRow,dS];refine callK.mc (hf5) ?_ ?_ ?_ ?_ ?_<;>simp [dNum,pRow,dS];refine hK2 _ ?_;clear hK2 K2;(repeat (refine sxn fun K2 hK2=>?_;simp [dNum,pRow,dS];(repeat (refine ⟨by omega,?_⟩));refine hK2 _ ?_;clear hK2 K2));refine sxz (hK' _ ?_);clear hK' K';refine hK3 _ (AW.norm [4] [500] (notIn_ok rfl) (AW.st (by simp [dNum,pRow,dS];rfl) ?_));refine rgq fw [2] [500] ?_;refine AW_ret ?_;simp [D.le,D.le.go,takeMap,dNum,pRow,dS,pRow,posR,eR,pR,hs,hn]
    | true=>
     rw [hn] at hname;refine rgc fw hname [0,3,4,76] [500] ?_;refine AW_ff rfl ?_;refine reK fw hK3 [4] [500] ?_;refine rgq fw [2] [500] ?_;refine AW_ret ?_;simp [D.le,D.le.go,takeMap,dNum,pRow,dS,pRow,posR,eR,pR,hs,hn]
end Go.Proofs.YthnjfeielmbfkaaGreatDoor
namespace Go.Proofs.YthnjfeielmbfkaaGreatDoor
open Go.Av
def dNil:D:=.sl (some false) []
mutual
def dR:Ex→D
 | .cst b=>.ip [dS [if b then 49 else 48],dS [],dNil]
 | .bit s=>.ip [dS [98,105,116],dS s,dNil]
 | .rise s=>.ip [dS [94],dS s,dNil]
 | .fall s=>.ip [dS [126],dS s,dNil]
 | .not e=>.ip [dS [33],dS [],.sl none [[dR e]]]
 | .and l=>.ip [dS [38],dS [],.sl none (dRs l)]
 | .or l=>.ip [dS [124],dS [],.sl none (dRs l)]
def dRs:List Ex→List (List D)
 | []=>[]
 | e :: l=>[dR e] :: dRs l
end
theorem dRs_map:∀ l:List Ex,dRs l=l.map fun e=>[dR e]
 | []=>rfl
 | e :: l=>by rw [dRs,dRs_map l];rfl
theorem dR_ip (e:Ex):∃ c,dR e = .ip c:=by
 cases e<;>simp only [dR]<;>exact ⟨_,rfl⟩
theorem dR_one (e:Ex):(dR e).one=true:=by
 obtain ⟨c,h⟩:=dR_ip e
 rw [h];rfl
theorem cells_one {y:D} (h:y.one=true):valCells (.d y)=some [.d y]:=by
 cases y<;>first | (simp [valCells,AV.one,D.one] at h ⊢;done) | (simp [D.one] at h;simp [valCells,AV.one,D.one,h])
def outD (r:Rs Ex) (y:D):D:=match r with
 | .ok x _=>dR x
 | .err _ _ _=>y
def outK {α:Type} (r:Rs α) (k:Nat):Nat:=match r with
 | .ok _ j=>j
 | .err _ _ _=>k
def PSx (G:Glob) (t:List UInt8) (fx:List Nat) (xr:List (Nat×Row)) (g:FuncId) (xs:List AV) (d:Nat) (r:Rs Ex) (i:Nat) (y:D) (k:Nat):Prop:=
 MC Tryz.prog G fx g xs (hlst (pRow t i 0 (-1) ++ xr)) (.d (outD r y)) (hlst (pRow t (outK r k) (eR r) (pR r) ++ xr))∧(∀ c p q,r = .err c p q→0 < c∧y.one=true∧k≤t.length+d)
def Reads (G:Glob) (t:List UInt8) (fx:List Nat) (xr:List (Nat×Row)) (g:FuncId) (xs:List AV) (d:Nat) (f:Nat→Rs Ex):Prop:=∃ (yF:Nat→D) (kF:Nat→Nat),∀ i,i≤t.length→PSx G t fx xr g xs d (f i) i (yF i) (kF i)
theorem reads_of {G:Glob} {t:List UInt8} {fx:List Nat} {xr:List (Nat×Row)} {g:FuncId} {xs:List AV} {d:Nat} {f:Nat→Rs Ex} (h:∀ i,i≤t.length→∃ y k,PSx G t fx xr g xs d (f i) i y k):Reads G t fx xr g xs d f:=by
 have h2:∀ i,∃ z:D×Nat,i≤t.length→PSx G t fx xr g xs d (f i) i z.1 z.2:=fun i=>by
  by_cases hi:i≤t.length
  ·obtain ⟨y,k,h⟩:=h i hi
   exact ⟨(y,k),fun _=>h⟩
  ·exact ⟨(default,0),fun h=>absurd h hi⟩
 exact ⟨fun i=>(Classical.choose (h2 i)).1,fun i=>(Classical.choose (h2 i)).2,fun i hi=>Classical.choose_spec (h2 i) hi⟩
def sevT (t:List UInt8) (s:UInt8) (f:Nat→Rs Ex):Nat→Nat→List Ex→List Ex×Nat
 | 0,i,acc=>(acc,i)
 | n+1,i,acc=>match f i with
  | .err _ _ _=>(acc,i)
  | .ok x j=>if (takeM t s j).1 then sevT t s f n (takeM t s j).2 (acc ++ [x]) else (acc,i)
theorem sevT_fuel {t:List UInt8} {s:UInt8} {f:Nat→Rs Ex} (hf:Goes t f):∀ (n m i:Nat) (acc:List Ex),i≤t.length→t.length+1 - i≤n→t.length+1 - i≤m→sevT t s f n i acc=sevT t s f m i acc
 | 0,_,i,_,hi,h,_=>by omega
 | _+1,0,i,_,hi,_,h=>by omega
 | n+1,m+1,i,acc,hi,h1,h2=>by
  rw [sevT,sevT]
  cases hfi:f i with
  | err c p q=>rfl
  | ok x j=>
   obtain ⟨g1,g2⟩:=hf i x j hi hfi
   obtain ⟨t1,t2,t3⟩:=take_goes (c:=s) g2
   dsimp only
   split
   ·exact sevT_fuel hf n m _ _ t2 (by omega) (by omega)
   ·rfl
def sevZ (t:List UInt8) (s:UInt8) (f:Nat→Rs Ex) (i:Nat) (acc:List Ex):List Ex×Nat:=sevT t s f (t.length+1 - i) i acc
theorem sevZ_step {t:List UInt8} {s:UInt8} {f:Nat→Rs Ex} (hf:Goes t f) {i:Nat} (hi:i≤t.length) (acc:List Ex):sevZ t s f i acc=match f i with
  | .err _ _ _=>(acc,i)
  | .ok x j=>if (takeM t s j).1 then sevZ t s f (takeM t s j).2 (acc ++ [x]) else (acc,i):=by
 unfold sevZ
 obtain ⟨n,hn⟩:∃ n,t.length+1 - i=n+1:=⟨t.length - i,by omega⟩
 rw [hn,sevT]
 cases hfi:f i with
 | err c p q=>rfl
 | ok x j=>
  obtain ⟨g1,g2⟩:=hf i x j hi hfi
  obtain ⟨t1,t2,t3⟩:=take_goes (c:=s) g2
  dsimp only
  split
  ·exact sevT_fuel hf _ _ _ _ t2 (by omega) (by omega)
  ·rfl
theorem nx_take {t:List UInt8} {i:Nat} {c:UInt8} (hc:c≠0):(takeM t c i).1=decide (((nxB t i).toNat:Int)=(c.toNat:Int)):=by
 unfold takeM nxB;rw [List.getD_eq_getElem?_getD]
 cases h:t[skipB t i]? with
 | none=>
  rw [if_neg (by simp)];simp only [Option.getD_none]
  symm
  rw [decide_eq_false_iff_not]
  intro e
  apply hc
  have:c.toNat=0:=by simp at e;omega
  exact UInt8.toNat_inj.1 (by simpa using this)
 | some b=>
  simp only [Option.getD_some]
  by_cases hb:b=c
  ·subst hb;simp
  ·have:¬ ((b.toNat:Int)=(c.toNat:Int)):=fun e=>hb (UInt8.toNat_inj.1 (by omega))
   simp [hb,this]
theorem take_two {t:List UInt8} {c:UInt8} {i:Nat}:(takeM t c i).2=if (takeM t c i).1 then skipB t i+1 else skipB t i:=by
 unfold takeM
 split<;>rfl
def rowD (s:UInt8) (ys:List D):D:=match ys with
 | [y]=>y
 | ys=>.ip [dS [s],dS [],.sl none (ys.map fun y=>[y])]
theorem rowD_ne {s:UInt8} {ys:List D} (h:ys.length≠1):rowD s ys = .ip [dS [s],dS [],.sl none (ys.map fun y=>[y])]:=by
 match ys,h with
 | [],_=>rfl
 | [_],h=>exact absurd rfl h
 | _ :: _ :: _,_=>rfl
theorem rowD_one {s:UInt8} {ys:List D} (h:∀ y∈ys,y.one=true):(rowD s ys).one=true:=by
 match ys,h with
 | [],_=>rfl
 | [y],h=>exact h y (by simp)
 | _ :: _ :: _,_=>rfl
set_option maxHeartbeats 16000000 in
theorem prow_bm (G:Glob) (t:List UInt8) (ht:t.length≤2000) (g:FuncId) (s:UInt8) (sn:Int) (hsn:(s.toNat:Int)=sn) (hs0:s≠0) (henc:Utf8.encode sn=bs [s]) (a:Int) (d:Nat) (f:Nat→Rs Ex) (hf:Goes t f) (col:List Ex→Ex) (hcol:∀ l,dR (col l)=rowD s (l.map dR))
  (hcall:Reads G t [500] [] g [.ref 500 0 0,.d (dNum a)] d f):Reads G t [500] [] 181 [.ref 500 0 0,.d (.v (.int .u8 sn)),.d (dNum a),.bm g (.ref 500 0 0)] d (fun i=>(sevA t s f i []).map col):=by
 obtain ⟨yF,kF,hcall⟩:=hcall
 refine reads_of fun i hi=>?_;generalize hR:sevA t s f i []=R;generalize hZ:sevZ t s f i []=Z;refine ⟨rowD s (Z.1.map dR ++ [yF Z.2]),kF Z.2,?_⟩
 have hend:∀ (k:Nat) (ys:List D) (e p:Int),((e=0∧p = -1∧∃ acc,ys=acc.map dR∧R = .ok acc k)∨(∃ c p' q,R = .err c p' q∧e=c∧p=p'∧ys=Z.1.map dR ++ [yF Z.2]∧k=kF Z.2))→
   outD (R.map col) (rowD s (Z.1.map dR ++ [yF Z.2]))=rowD s ys∧outK (R.map col) (kF Z.2)=k∧eR (R.map col)=e∧pR (R.map col)=p:=by
  rintro k ys e p (⟨rfl,rfl,acc,rfl,rfl⟩ | ⟨c,p',q,rfl,rfl,rfl,rfl,rfl⟩)
  ·exact ⟨by simp [Rs.map,outD,hcol],rfl,rfl,rfl⟩
  ·exact ⟨rfl,rfl,rfl,rfl⟩
 have herr:∀ (n i:Nat) (acc:List Ex),i≤t.length→t.length+1 - i≤n→∀ c p q,sevR t s f n i acc = .err c p q→0 < c∧(yF (sevT t s f n i acc).2).one=true∧kF (sevT t s f n i acc).2≤t.length+d:=by
  intro n
  induction n with
  | zero=>intro i acc hi hn;omega
  | succ n ih=>
   intro i acc hi hn c p q h
   rw [sevR] at h;rw [sevT]
   cases hfi:f i with
   | err c' p' q'=>
    rw [hfi] at h;simp only [Rs.err.injEq] at h
    obtain ⟨rfl,-,-⟩:=h
    exact (hcall i hi).2 _ _ _ hfi
   | ok x j=>
    rw [hfi] at h
    obtain ⟨g1,g2⟩:=hf i x j hi hfi
    obtain ⟨t1,t2,t3⟩:=take_goes (c:=s) g2
    dsimp only at h ⊢
    split at h
    ·rename_i htk
     rw [if_pos htk];exact ih _ _ t2 (by omega) c p q h
    ·cases h
 refine ⟨?_,fun c p q h=>?_⟩
 rotate_left
 ·cases R with
  | ok l j=>cases h
  | err c' p' q'=>
   simp only [Rs.map,Rs.err.injEq] at h
   obtain ⟨rfl,rfl,rfl⟩:=h
   obtain ⟨h1,h2,h3⟩:=herr _ i [] hi (Nat.le_refl _) _ _ _ hR
   have hZ2:(sevT t s f (t.length+1 - i) i []).2=Z.2:=by rw [← hZ];rfl
   rw [hZ2] at h2 h3;refine ⟨h1,rowD_one fun y hy=>?_,h3⟩
   rcases List.mem_append.1 hy with hy | hy
   ·obtain ⟨x,_,rfl⟩:=List.mem_map.1 hy
    exact dR_one x
   ·simp at hy;subst hy;exact h2
 generalize hyE:rowD s (Z.1.map dR ++ [yF Z.2])=yE at hend ⊢;generalize R.map col=RR at hend ⊢;refine MC.of_body (tyOf_good _) Tryz.func181 rfl rfl (rs:=[.tmp 8]) Tryz.results181 (by simp [Tryz.ntmps181]) rfl fun X=>?_;simp only [Tryz.ntmps181]
 have fw:=(Aq @dNum.eq_1 (Aq @pRow.eq_1 @dS.eq_1))
 refine rgq fw [0,1,2,3] [500] ?_
 have hfirst:=(hcall i hi).1
 have hone:(outD (f i) (yF i)).one=true:=by
  cases hfi:f i with
  | ok x j=>exact dR_one x
  | err c p q=>exact ((hcall i hi).2 _ _ _ hfi).2.1
 have hcel:=cells_one hone
 have qf:=(Aq fw @hcel)
 refine rgmv hfirst [0,1,2,3,9] [500,13] ?_;refine AW_then fun K1 hK1=>?_
 refine AW_for (S:=Nat×List D×Int×Int) (fun z=>(z.2.2.1=0∧z.2.2.2 = -1∧z.1≤t.length∧∃ acc,z.2.1=acc.map dR∧0 < acc.length∧acc.length≤z.1∧(if (takeM t s z.1).1 then sevA t s f (takeM t s z.1).2 acc else .ok acc (takeM t s z.1).2)=R∧((takeM t s z.1).1=true→sevZ t s f (takeM t s z.1).2 acc=Z))∨(0 < z.2.2.1∧z.2.1.length≤2001∧∃ c p q,R = .err c p q∧z.2.2.1=c∧z.2.2.2=p∧z.2.1=Z.1.map dR ++ [yF Z.2]∧z.1=kF Z.2))
  (fun z=>⟨lst [(0,.ref 500 0 0),(1,.d (.v (.int .u8 sn))),(2,.d (dNum a)),(3,.bm g (.ref 500 0 0)),(9,.own 13 0 z.2.1.length)],hlst [(500,.box 231 [.d (dS t),int z.1,int z.2.2.1,int z.2.2.2]),(13,.sl 173 1 (z.2.1.map fun y=>[y]))]⟩) (fun z=>if z.2.2.1=0 then t.length+1 - z.1 else 0) (outK (f i) (kF i),[outD (f i) (yF i)],eR (f i),pR (f i)) ?_ ?_ ?_
 ·refine Imp.to' (notIn_ok rfl) (by simp [dNum,pRow,dS]) (by simp [dNum,pRow,dS])
 ·cases hfi:f i with
  | ok x j=>
   obtain ⟨g1,g2⟩:=hf i x j hi hfi
   rw [sev_step hf hi,hfi] at hR;rw [sevZ_step hf hi,hfi] at hZ;exact .inl ⟨rfl,rfl,g2,[x],rfl,by simp,by simp [outK];omega,hR,fun h=>by dsimp only [outK] at h ⊢;simpa only [h,if_true,List.nil_append] using hZ⟩
  | err c p q=>
   rw [sev_step hf hi,hfi] at hR;rw [sevZ_step hf hi,hfi] at hZ
   obtain ⟨h1,h2,h3⟩:=(hcall i hi).2 _ _ _ hfi
   exact .inr ⟨h1,by simp,c,p,0,hR.symm,rfl,rfl,by rw [← hZ];rfl,by rw [← hZ];rfl⟩
 ·rintro ⟨k,ys,e,p⟩ hI
  dsimp only at hI ⊢
  refine AW_then fun K2 hK2=>?_
  refine (fun hcont=>?_) (fun (σ:St) (k:Nat) (ys:List D) (e p:Int) (hl:ys.length≤2001) (hcond:(e=0∧p = -1∧∃ acc,ys=acc.map dR∧R = .ok acc k)∨(∃ c p' q,R = .err c p' q∧e=c∧p=p'∧ys=Z.1.map dR ++ [yF Z.2]∧k=kF Z.2)) himp=>
   hK1 σ (AW.imp (τ:=⟨lst [(0,.ref 500 0 0),(1,.d (.v (.int .u8 sn))),(9,.own 13 0 ys.length)],hlst [(500,.box 231 [.d (dS t),int k,int e,int p]),(13,.sl 173 1 (ys.map fun y=>[y]))]⟩) himp ?_))
  ·rcases hI with ⟨rfl,rfl,hk,acc,rfl,hacc,hak,hRk,hZk⟩ | ⟨he,hlen,c,p',q,hRe,rfl,rfl,rfl,rfl⟩
   ·have hnx:=pnext_spec G t k (by omega) hk 0 (-1)
    have htk:=nx_take (t:=t) (i:=k) hs0
    rw [hsn] at htk
    have ht2:=take_two (t:=t) (c:=s) (i:=k)
    obtain ⟨t1,t2,t3⟩:=take_goes (t:=t) (c:=s) hk
    have htop:=skipB_top hk
    by_cases hb:((nxB t k).toNat:Int)=sn
    ·rw [decide_eq_true hb] at htk;rw [htk] at hRk hZk ht2 t3;simp only [if_true] at hRk ht2
     have hZk:=hZk rfl
     have t3:=t3 rfl
     rw [ht2] at hRk hZk t2 t3
     have qf:=(Aq fw @hb)
     refine rgmv hnx [0,1,2,3,9,25] [500,13] ?_;refine AW_tt rfl ?_;refine AW_skip (hK2 _ ?_);refine AW_block ?_;refine rgq fw [0,1,2,3,9] [500,13] ?_
     have hnext:=(hcall _ t2).1
     rw [Int.natCast_add] at hnext
     have hone2:(outD (f (skipB t k+1)) (yF (skipB t k+1))).one=true:=by
      cases hfi:f (skipB t k+1) with
      | ok x j=>exact dR_one x
      | err c p q=>exact ((hcall _ t2).2 _ _ _ hfi).2.1
     have hcel2:=cells_one hone2
     refine AW_re (tyOf_good _) fun K' hK'=>?_;(repeat (refine sxn fun K2 hK2=>?_;simp [dNum,pRow,dS,hcel2,hone2,List.take_of_length_le];(repeat (refine ⟨by omega,?_⟩));refine hK2 _ ?_;clear hK2 K2));refine sxn fun K2 hK2=>?_;simp [dNum,pRow,dS,hcel2,hone2,List.take_of_length_le];refine callK.mc (hnext) ?_ ?_ ?_ ?_ ?_<;>simp [dNum,pRow,dS,hcel2,hone2,List.take_of_length_le];refine hK2 _ ?_;clear hK2 K2;(repeat (refine sxn fun K2 hK2=>?_;simp [dNum,pRow,dS,hcel2,hone2,List.take_of_length_le];(repeat (refine ⟨by omega,?_⟩));refine hK2 _ ?_;clear hK2 K2));refine sxz (hK' _ ?_);clear hK' K';(try simp only [thn,inb]);refine Again.mk (outK (f (skipB t k+1)) (kF (skipB t k+1)),acc.map dR ++ [outD (f (skipB t k+1)) (yF (skipB t k+1))],eR (f (skipB t k+1)),pR (f (skipB t k+1))) ?_ ?_ ?_
     ·cases hfi:f (skipB t k+1) with
      | ok x j=>
       obtain ⟨g1,g2⟩:=hf _ x j t2 hfi
       rw [sev_step hf t2,hfi] at hRk;rw [sevZ_step hf t2,hfi] at hZk;exact .inl ⟨rfl,rfl,g2,acc ++ [x],by simp [outD],by simp,by simp [outK];omega,hRk,fun h=>by dsimp only [outK] at h ⊢;simpa only [h,if_true] using hZk⟩
      | err c p q=>
       rw [sev_step hf t2,hfi] at hRk;rw [sevZ_step hf t2,hfi] at hZk
       obtain ⟨h1,h2,h3⟩:=(hcall _ t2).2 _ _ _ hfi
       exact .inr ⟨h1,by simp;omega,c,p,0,hRk.symm,rfl,rfl,by rw [← hZk];rfl,by rw [← hZk];rfl⟩
     ·cases hfi:f (skipB t k+1) with
      | ok x j=>
       obtain ⟨g1,g2⟩:=hf _ x j t2 hfi
       simp only [eR,outK,if_true]
       omega
      | err c p q=>
       obtain ⟨h1,h2,h3⟩:=(hcall _ t2).2 _ _ _ hfi
       have hc0:¬ c=0:=by omega
       simp [eR,hc0]
       omega
     ·refine Imp.to' (notIn_ok rfl) (by simp [dNum,pRow,dS]) (by simp [dNum,pRow,dS])
    ·rw [decide_eq_false hb] at htk;rw [htk] at hRk ht2;simp only [Bool.false_eq_true,if_false] at hRk ht2
     have qf:=(Aq fw @hb)
     refine rgmv hnx [0,1,2,3,9,25] [500,13] ?_;refine AW_ff rfl ?_;refine AW_exit (hcont _ (skipB t k) (acc.map dR) 0 (-1) (by simp;omega) (.inl ⟨rfl,rfl,acc,rfl,by rw [← hRk,ht2]⟩) ?_);refine Imp.to' (notIn_ok rfl) (by simp [dNum,pRow,dS]) (by simp [dNum,pRow,dS])
   ·have he2:¬ e=0:=by omega
    have qf:=(Aq fw @he2)
    refine rgqv [0,1,2,3,9,25] [500,13] ?_;refine AW_ff rfl ?_;refine AW_exit (hcont _ (kF Z.2) _ e p' hlen (.inr ⟨e,p',q,hRe,rfl,rfl,rfl,rfl⟩) ?_);refine Imp.to' (notIn_ok rfl) (by simp [dNum,pRow,dS]) (by simp [dNum,pRow,dS])
  ·obtain ⟨h1,h2,h3,h4⟩:=hend k ys e p hcond
   rw [h1,h2,h3,h4];refine AW_then fun K3 hK3=>?_
   by_cases hl1:ys.length=1
   ·obtain ⟨y,rfl⟩:=List.length_eq_one_iff.1 hl1
    refine rgq fw [1,9,41] [500,13] ?_;refine AW_tt rfl ?_;refine rgq fw [8] [500] ?_;refine AW_ret ?_;simp [D.le,D.le.go,takeMap,dNum,pRow,dS,rowD,D.le_refl]
   ·have hl2:¬ (ys.length:Int)=1:=by omega
    have qf:=(Aq fw (Aq @hl1 @hl2))
    refine rgqv [1,9,41] [500,13] ?_;refine AW_ff rfl ?_;refine AW_skip (hK3 _ ?_);refine AW.imp (Imp.freeze 13 (by decide)) ?_;refine AW.st (by simp [dNum,pRow,dS,List.take_of_length_le];rfl) ?_
    have qf:=(Aq fw @henc)
    refine rgqv [8] [500,49] ?_;refine AW.imp (Imp.freezeB 49 (by decide)) ?_;refine AW.st (by simp [dNum,pRow,dS];rfl) ?_;refine AW_ret ?_;simp [D.le,D.le.go,takeMap,dNum,pRow,dS,rowD_ne hl1,dS,bs_nil,D.le_refl,D.leGo_refl]
set_option maxHeartbeats 16000000 in
theorem prow_fn (G:Glob) (t:List UInt8) (ht:t.length≤2000) (g:FuncId) (s:UInt8) (sn:Int) (hsn:(s.toNat:Int)=sn) (hs0:s≠0) (henc:Utf8.encode sn=bs [s]) (a:Int) (d:Nat) (f:Nat→Rs Ex) (hf:Goes t f) (col:List Ex→Ex) (hcol:∀ l,dR (col l)=rowD s (l.map dR))
  (hcall:Reads G t [500,501] [(501,.box 229 [.ref 500 0 0])] g [.d (dNum a),.ref 501 0 0] d f):Reads G t [500,501] [(501,.box 229 [.ref 500 0 0])] 181 [.ref 500 0 0,.d (.v (.int .u8 sn)),.d (dNum a),.fn (.func g) [.ref 501 0 0]] d (fun i=>(sevA t s f i []).map col):=by
 obtain ⟨yF,kF,hcall⟩:=hcall
 refine reads_of fun i hi=>?_;generalize hR:sevA t s f i []=R;generalize hZ:sevZ t s f i []=Z;refine ⟨rowD s (Z.1.map dR ++ [yF Z.2]),kF Z.2,?_⟩
 have hend:∀ (k:Nat) (ys:List D) (e p:Int),((e=0∧p = -1∧∃ acc,ys=acc.map dR∧R = .ok acc k)∨(∃ c p' q,R = .err c p' q∧e=c∧p=p'∧ys=Z.1.map dR ++ [yF Z.2]∧k=kF Z.2))→
   outD (R.map col) (rowD s (Z.1.map dR ++ [yF Z.2]))=rowD s ys∧outK (R.map col) (kF Z.2)=k∧eR (R.map col)=e∧pR (R.map col)=p:=by
  rintro k ys e p (⟨rfl,rfl,acc,rfl,rfl⟩ | ⟨c,p',q,rfl,rfl,rfl,rfl,rfl⟩)
  ·exact ⟨by simp [Rs.map,outD,hcol],rfl,rfl,rfl⟩
  ·exact ⟨rfl,rfl,rfl,rfl⟩
 have herr:∀ (n i:Nat) (acc:List Ex),i≤t.length→t.length+1 - i≤n→∀ c p q,sevR t s f n i acc = .err c p q→0 < c∧(yF (sevT t s f n i acc).2).one=true∧kF (sevT t s f n i acc).2≤t.length+d:=by
  intro n
  induction n with
  | zero=>intro i acc hi hn;omega
  | succ n ih=>
   intro i acc hi hn c p q h
   rw [sevR] at h;rw [sevT]
   cases hfi:f i with
   | err c' p' q'=>
    rw [hfi] at h;simp only [Rs.err.injEq] at h
    obtain ⟨rfl,-,-⟩:=h
    exact (hcall i hi).2 _ _ _ hfi
   | ok x j=>
    rw [hfi] at h
    obtain ⟨g1,g2⟩:=hf i x j hi hfi
    obtain ⟨t1,t2,t3⟩:=take_goes (c:=s) g2
    dsimp only at h ⊢
    split at h
    ·rename_i htk
     rw [if_pos htk];exact ih _ _ t2 (by omega) c p q h
    ·cases h
 refine ⟨?_,fun c p q h=>?_⟩
 rotate_left
 ·cases R with
  | ok l j=>cases h
  | err c' p' q'=>
   simp only [Rs.map,Rs.err.injEq] at h
   obtain ⟨rfl,rfl,rfl⟩:=h
   obtain ⟨h1,h2,h3⟩:=herr _ i [] hi (Nat.le_refl _) _ _ _ hR
   have hZ2:(sevT t s f (t.length+1 - i) i []).2=Z.2:=by rw [← hZ];rfl
   rw [hZ2] at h2 h3;refine ⟨h1,rowD_one fun y hy=>?_,h3⟩
   rcases List.mem_append.1 hy with hy | hy
   ·obtain ⟨x,_,rfl⟩:=List.mem_map.1 hy
    exact dR_one x
   ·simp at hy;subst hy;exact h2
 generalize hyE:rowD s (Z.1.map dR ++ [yF Z.2])=yE at hend ⊢;generalize R.map col=RR at hend ⊢;refine MC.of_body (tyOf_good _) Tryz.func181 rfl rfl (rs:=[.tmp 8]) Tryz.results181 (by simp [Tryz.ntmps181]) rfl fun X=>?_;simp only [Tryz.ntmps181]
 have fw:=(Aq @dNum.eq_1 (Aq @pRow.eq_1 @dS.eq_1))
 refine rgq fw [0,1,2,3] [500,501] ?_
 have hfirst:=(hcall i hi).1
 have hone:(outD (f i) (yF i)).one=true:=by
  cases hfi:f i with
  | ok x j=>exact dR_one x
  | err c p q=>exact ((hcall i hi).2 _ _ _ hfi).2.1
 have hcel:=cells_one hone
 have qf:=(Aq fw @hcel)
 refine rgmv hfirst [0,1,2,3,9] [500,501,13] ?_;refine AW_then fun K1 hK1=>?_
 refine AW_for (S:=Nat×List D×Int×Int) (fun z=>(z.2.2.1=0∧z.2.2.2 = -1∧z.1≤t.length∧∃ acc,z.2.1=acc.map dR∧0 < acc.length∧acc.length≤z.1∧(if (takeM t s z.1).1 then sevA t s f (takeM t s z.1).2 acc else .ok acc (takeM t s z.1).2)=R∧((takeM t s z.1).1=true→sevZ t s f (takeM t s z.1).2 acc=Z))∨(0 < z.2.2.1∧z.2.1.length≤2001∧∃ c p q,R = .err c p q∧z.2.2.1=c∧z.2.2.2=p∧z.2.1=Z.1.map dR ++ [yF Z.2]∧z.1=kF Z.2))
  (fun z=>⟨lst [(0,.ref 500 0 0),(1,.d (.v (.int .u8 sn))),(2,.d (dNum a)),(3,.fn (.func g) [.ref 501 0 0]),(9,.own 13 0 z.2.1.length)],hlst [(500,.box 231 [.d (dS t),int z.1,int z.2.2.1,int z.2.2.2]),(501,.box 229 [.ref 500 0 0]),(13,.sl 173 1 (z.2.1.map fun y=>[y]))]⟩) (fun z=>if z.2.2.1=0 then t.length+1 - z.1 else 0) (outK (f i) (kF i),[outD (f i) (yF i)],eR (f i),pR (f i)) ?_ ?_ ?_
 ·refine Imp.to' (notIn_ok rfl) (by simp [dNum,pRow,dS]) (by simp [dNum,pRow,dS])
 ·cases hfi:f i with
  | ok x j=>
   obtain ⟨g1,g2⟩:=hf i x j hi hfi
   rw [sev_step hf hi,hfi] at hR;rw [sevZ_step hf hi,hfi] at hZ;exact .inl ⟨rfl,rfl,g2,[x],rfl,by simp,by simp [outK];omega,hR,fun h=>by dsimp only [outK] at h ⊢;simpa only [h,if_true,List.nil_append] using hZ⟩
  | err c p q=>
   rw [sev_step hf hi,hfi] at hR;rw [sevZ_step hf hi,hfi] at hZ
   obtain ⟨h1,h2,h3⟩:=(hcall i hi).2 _ _ _ hfi
   exact .inr ⟨h1,by simp,c,p,0,hR.symm,rfl,rfl,by rw [← hZ];rfl,by rw [← hZ];rfl⟩
 ·rintro ⟨k,ys,e,p⟩ hI
  dsimp only at hI ⊢
  refine AW_then fun K2 hK2=>?_
  refine (fun hcont=>?_) (fun (σ:St) (k:Nat) (ys:List D) (e p:Int) (hl:ys.length≤2001) (hcond:(e=0∧p = -1∧∃ acc,ys=acc.map dR∧R = .ok acc k)∨(∃ c p' q,R = .err c p' q∧e=c∧p=p'∧ys=Z.1.map dR ++ [yF Z.2]∧k=kF Z.2)) himp=>
   hK1 σ (AW.imp (τ:=⟨lst [(0,.ref 500 0 0),(1,.d (.v (.int .u8 sn))),(9,.own 13 0 ys.length)],hlst [(500,.box 231 [.d (dS t),int k,int e,int p]),(501,.box 229 [.ref 500 0 0]),(13,.sl 173 1 (ys.map fun y=>[y]))]⟩) himp ?_))
  ·rcases hI with ⟨rfl,rfl,hk,acc,rfl,hacc,hak,hRk,hZk⟩ | ⟨he,hlen,c,p',q,hRe,rfl,rfl,rfl,rfl⟩
   ·have hnx:=pnext_spec G t k (by omega) hk 0 (-1)
    have htk:=nx_take (t:=t) (i:=k) hs0
    rw [hsn] at htk
    have ht2:=take_two (t:=t) (c:=s) (i:=k)
    obtain ⟨t1,t2,t3⟩:=take_goes (t:=t) (c:=s) hk
    have htop:=skipB_top hk
    by_cases hb:((nxB t k).toNat:Int)=sn
    ·rw [decide_eq_true hb] at htk;rw [htk] at hRk hZk ht2 t3;simp only [if_true] at hRk ht2
     have hZk:=hZk rfl
     have t3:=t3 rfl
     rw [ht2] at hRk hZk t2 t3
     have qf:=(Aq fw @hb)
     refine rgmv hnx [0,1,2,3,9,25] [500,501,13] ?_;refine AW_tt rfl ?_;refine AW_skip (hK2 _ ?_);refine AW_block ?_;refine rgq fw [0,1,2,3,9] [500,501,13] ?_
     have hnext:=(hcall _ t2).1
     rw [Int.natCast_add] at hnext
     have hone2:(outD (f (skipB t k+1)) (yF (skipB t k+1))).one=true:=by
      cases hfi:f (skipB t k+1) with
      | ok x j=>exact dR_one x
      | err c p q=>exact ((hcall _ t2).2 _ _ _ hfi).2.1
     have hcel2:=cells_one hone2
     refine AW_re (tyOf_good _) fun K' hK'=>?_;(repeat (refine sxn fun K2 hK2=>?_;simp [dNum,pRow,dS,hcel2,hone2,List.take_of_length_le];(repeat (refine ⟨by omega,?_⟩));refine hK2 _ ?_;clear hK2 K2));refine sxn fun K2 hK2=>?_;simp [dNum,pRow,dS,hcel2,hone2,List.take_of_length_le];refine callK.mc (hnext) ?_ ?_ ?_ ?_ ?_<;>simp [dNum,pRow,dS,hcel2,hone2,List.take_of_length_le];refine hK2 _ ?_;clear hK2 K2;(repeat (refine sxn fun K2 hK2=>?_;simp [dNum,pRow,dS,hcel2,hone2,List.take_of_length_le];(repeat (refine ⟨by omega,?_⟩));refine hK2 _ ?_;clear hK2 K2));refine sxz (hK' _ ?_);clear hK' K';(try simp only [thn,inb]);refine Again.mk (outK (f (skipB t k+1)) (kF (skipB t k+1)),acc.map dR ++ [outD (f (skipB t k+1)) (yF (skipB t k+1))],eR (f (skipB t k+1)),pR (f (skipB t k+1))) ?_ ?_ ?_
     ·cases hfi:f (skipB t k+1) with
      | ok x j=>
       obtain ⟨g1,g2⟩:=hf _ x j t2 hfi
       rw [sev_step hf t2,hfi] at hRk;rw [sevZ_step hf t2,hfi] at hZk;exact .inl ⟨rfl,rfl,g2,acc ++ [x],by simp [outD],by simp,by simp [outK];omega,hRk,fun h=>by dsimp only [outK] at h ⊢;simpa only [h,if_true] using hZk⟩
      | err c p q=>
       rw [sev_step hf t2,hfi] at hRk;rw [sevZ_step hf t2,hfi] at hZk
       obtain ⟨h1,h2,h3⟩:=(hcall _ t2).2 _ _ _ hfi
       exact .inr ⟨h1,by simp;omega,c,p,0,hRk.symm,rfl,rfl,by rw [← hZk];rfl,by rw [← hZk];rfl⟩
     ·cases hfi:f (skipB t k+1) with
      | ok x j=>
       obtain ⟨g1,g2⟩:=hf _ x j t2 hfi
       simp only [eR,outK,if_true]
       omega
      | err c p q=>
       obtain ⟨h1,h2,h3⟩:=(hcall _ t2).2 _ _ _ hfi
       have hc0:¬ c=0:=by omega
       simp [eR,hc0]
       omega
     ·refine Imp.to' (notIn_ok rfl) (by simp [dNum,pRow,dS]) (by simp [dNum,pRow,dS])
    ·rw [decide_eq_false hb] at htk;rw [htk] at hRk ht2;simp only [Bool.false_eq_true,if_false] at hRk ht2
     have qf:=(Aq fw @hb)
     refine rgmv hnx [0,1,2,3,9,25] [500,501,13] ?_;refine AW_ff rfl ?_;refine AW_exit (hcont _ (skipB t k) (acc.map dR) 0 (-1) (by simp;omega) (.inl ⟨rfl,rfl,acc,rfl,by rw [← hRk,ht2]⟩) ?_);refine Imp.to' (notIn_ok rfl) (by simp [dNum,pRow,dS]) (by simp [dNum,pRow,dS])
   ·have he2:¬ e=0:=by omega
    have qf:=(Aq fw @he2)
    refine rgqv [0,1,2,3,9,25] [500,501,13] ?_;refine AW_ff rfl ?_;refine AW_exit (hcont _ (kF Z.2) _ e p' hlen (.inr ⟨e,p',q,hRe,rfl,rfl,rfl,rfl⟩) ?_);refine Imp.to' (notIn_ok rfl) (by simp [dNum,pRow,dS]) (by simp [dNum,pRow,dS])
  ·obtain ⟨h1,h2,h3,h4⟩:=hend k ys e p hcond
   rw [h1,h2,h3,h4];refine AW_then fun K3 hK3=>?_
   by_cases hl1:ys.length=1
   ·obtain ⟨y,rfl⟩:=List.length_eq_one_iff.1 hl1
    refine rgq fw [1,9,41] [500,501,13] ?_;refine AW_tt rfl ?_;refine rgq fw [8] [500,501] ?_;refine AW_ret ?_;simp [D.le,D.le.go,takeMap,dNum,pRow,dS,rowD,D.le_refl]
   ·have hl2:¬ (ys.length:Int)=1:=by omega
    have qf:=(Aq fw (Aq @hl1 @hl2))
    refine rgqv [1,9,41] [500,501,13] ?_;refine AW_ff rfl ?_;refine AW_skip (hK3 _ ?_);refine AW.imp (Imp.freeze 13 (by decide)) ?_;refine AW.st (by simp [dNum,pRow,dS,List.take_of_length_le];rfl) ?_
    have qf:=(Aq fw @henc)
    refine rgqv [8] [500,501,49] ?_;refine AW.imp (Imp.freezeB 49 (by decide)) ?_;refine AW.st (by simp [dNum,pRow,dS];rfl) ?_;refine AW_ret ?_;simp [D.le,D.le.go,takeMap,dNum,pRow,dS,rowD_ne hl1,dS,bs_nil,D.le_refl,D.leGo_refl]
end Go.Proofs.YthnjfeielmbfkaaGreatDoor
namespace Go.Proofs.YthnjfeielmbfkaaGreatDoor
open Go.Av
theorem renH_two {r r' s:Nat} (h:r≠r') (hs:s≠r') (hr:s≠r) (row row2:Row):renH r r' (hlst [(r,row),(s,row2)])=hlst [(r',row.tr (renO r r') (renF r r')),(s,row2.tr (renO r r') (renF r r'))]:=by
 funext q
 unfold renH
 by_cases h1:q=r'
 ·subst h1;simp [hlst,List.lookup]
 ·rw [if_neg h1]
  by_cases h2:q=r
  ·subst h2;simp [hlst,List.lookup,beq_eq_false_iff_ne.2 h1,beq_eq_false_iff_ne.2 (Ne.symm hr)]
  ·by_cases h3:q=s
   ·subst h3;simp [hlst,List.lookup,h2,beq_eq_false_iff_ne.2 h1,beq_eq_false_iff_ne.2 h2]
   ·simp [hlst,List.lookup,h2,beq_eq_false_iff_ne.2 h1,beq_eq_false_iff_ne.2 h2,beq_eq_false_iff_ne.2 h3]
theorem colA_row (l:List Ex):dR (colA l)=rowD 38 (l.map dR):=by
 match l with
 | []=>rfl
 | [x]=>rfl
 | x :: y :: l=>rw [rowD_ne (by simp)];simp [colA,dR,dRs_map]
theorem colO_row (l:List Ex):dR (colO l)=rowD 124 (l.map dR):=by
 match l with
 | []=>rfl
 | [x]=>rfl
 | x :: y :: l=>rw [rowD_ne (by simp)];simp [colO,dR,dRs_map]
theorem l33:(⟨#[33]⟩:ByteArray)=bs [33]:=rfl
theorem lbit:(⟨#[98,105,116]⟩:ByteArray)=bs [98,105,116]:=rfl
theorem enc38:Utf8.encode 38=bs [38]:=by decide +kernel
theorem enc124:Utf8.encode 124=bs [124]:=by decide +kernel
theorem enc48:Utf8.encode 48=bs [48]:=by decide +kernel
theorem enc49:Utf8.encode 49=bs [49]:=by decide +kernel
theorem enc94:Utf8.encode 94=bs [94]:=by decide +kernel
theorem enc126:Utf8.encode 126=bs [126]:=by decide +kernel
set_option maxHeartbeats 4000000 in
theorem pwhole1_spec (G:Glob) (t:List UInt8) (ht:t.length≤2000) (a:Int) (d:Nat) (h:Reads G t [500] [] 183 [.ref 500 0 0,.d (dNum a)] d (oneR t d)) :
  Reads G t [500,501] [(501,.box 229 [.ref 500 0 0])] 182 [.d (dNum a),.ref 501 0 0] d (andR t (oneR t d)):=by
 obtain ⟨yF,kF,hr⟩:=prow_bm G t ht 183 38 38 rfl (by decide) enc38 a d (oneR t d) (one_goes t d) colA colA_row h
 refine ⟨yF,kF,fun i hi=>⟨?_,(hr i hi).2⟩⟩
 have hc:=(hr i hi).1
 have hR:andR t (oneR t d) i=(sevA t 38 (oneR t d) i []).map colA:=rfl
 dsimp only at hc
 rw [← hR] at hc;generalize andR t (oneR t d) i=R at hc ⊢;refine MC.of_body (tyOf_good _) Tryz.func182 rfl rfl (rs:=[.tmp 3]) Tryz.results182 (by simp [Tryz.ntmps182]) rfl fun X=>?_;simp only [Tryz.ntmps182]
 have fw:=(Aq @dNum.eq_1 (Aq @pRow.eq_1 @dS.eq_1))
 refine rgq fw [0,1] [500,501] ?_;refine rgm fw hc [3] [500,501] ?_;refine AW_ret ?_;simp [D.le,D.le.go,takeMap,dNum,pRow,dS,pRow,dS,D.le_refl,D.leGo_refl]
set_option maxHeartbeats 4000000 in
theorem pwhole_spec (G:Glob) (t:List UInt8) (ht:t.length≤2000) (a:Int) (d:Nat) (h:Reads G t [500] [] 183 [.ref 500 0 0,.d (dNum a)] d (oneR t d)) :
  Reads G t [500] [] 133 [.ref 500 0 0,.d (dNum a)] d (orR t (oneR t d)):=by
 obtain ⟨yF,kF,hr⟩:=prow_fn G t ht 182 124 124 rfl (by decide) enc124 a d (andR t (oneR t d)) (and_goes (one_goes t d)) colO colO_row (pwhole1_spec G t ht a d h)
 refine ⟨yF,kF,fun i hi=>⟨?_,(hr i hi).2⟩⟩
 have hc:=(hr i hi).1
 have hR:orR t (oneR t d) i=(sevA t 124 (andR t (oneR t d)) i []).map colO:=rfl
 dsimp only at hc
 rw [← hR] at hc;generalize orR t (oneR t d) i=R at hc ⊢;refine MC.of_body (tyOf_good _) Tryz.func133 rfl rfl (rs:=[.tmp 4]) Tryz.results133 (by simp [Tryz.ntmps133]) rfl fun X=>?_;simp only [Tryz.ntmps133]
 have fw:=(Aq @dNum.eq_1 (Aq @pRow.eq_1 @dS.eq_1))
 refine rgq fw [1,2] [2,500] ?_;refine AW.imp (Imp.ren (r:=2) (r':=501) (by decide) (by simp)) ?_;refine AW.st (by simp [renO,renF,Go.Av.ren,renH_two];rfl) ?_;refine rgm fw hc [4] [500,501] ?_;refine AW_ret ?_;simp [D.le,D.le.go,takeMap,dNum,pRow,dS,pRow,dS,D.le_refl,D.leGo_refl]
theorem nx_some {t:List UInt8} {i:Nat} {c:UInt8} (h:t[skipB t i]? = some c):nxB t i=c:=by
 unfold nxB;rw [List.getD_eq_getElem?_getD,h]
 rfl
theorem nx_ne {t:List UInt8} {i:Nat} {c:UInt8} (hc:c≠0) (h:t[skipB t i]?≠some c):¬ ((nxB t i).toNat:Int)=(c.toNat:Int):=by
 have h1:=nx_take (t:=t) (i:=i) hc
 have h2:(takeM t c i).1=false:=by
  unfold takeM;rw [if_neg h]
 rw [h2] at h1;exact of_decide_eq_false h1.symm
def notR:Rs Ex→Rs Ex
 | .ok x k=>.ok (.not x) k
 | .err c p _=>.err c p 0
theorem word_ok {t:List UInt8} {q i j:Nat} {s:List UInt8} (h:wordR t q i = .ok s j):wordS t (skipB t i)=s:=by
 unfold wordR at h
 split at h
 ·cases h
 ·split at h
  ·cases h
  ·simp only [Rs.ok.injEq] at h;exact h.1
theorem word_pos {t:List UInt8} {q i p q':Nat} {c:Int} (hi:i≤t.length) (h:wordR t q i = .err c p q'):0 < c∧p≤t.length:=by
 have htop:=skipB_top hi
 unfold wordR at h
 split at h
 ·simp only [Rs.err.injEq] at h;omega
 ·split at h
  ·simp only [Rs.err.injEq] at h;omega
  ·cases h
set_option maxHeartbeats 32000000 in
theorem piece_spec (G:Glob) (t:List UInt8) (ht:t.length≤2000):∀ (d:Nat) (a:Int),d≤20→a+d=20→Reads G t [500] [] 183 [.ref 500 0 0,.d (dNum a)] d (oneR t d):=by
 intro d
 induction d with
 | zero=>
  intro a _ ha
  refine reads_of fun i hi=>⟨.v (.pointer none),skipB t i,?_,fun c p q h=>?_⟩
  ·have hfl:=pfail_spec G t i (by omega) hi 4
   have ha2:20≤a:=by omega
   rw [oneR]
   show MC _ _ _ _ _ _ (.d (.v (.pointer none))) (hlst (pRow t (skipB t i) 4 (skipB t i) ++ []))
   refine MC.of_body (tyOf_good _) Tryz.func183 rfl rfl (rs:=[.tmp 4]) Tryz.results183 (by simp [Tryz.ntmps183]) rfl fun X=>?_;simp only [Tryz.ntmps183]
   have fw:=(Aq @dNum.eq_1 (Aq @pRow.eq_1 @dS.eq_1))
   refine rgq fw [0,1] [500] ?_;refine AW_then fun K1 hK1=>?_;refine rgq fw [0,1,12] [500] ?_;refine AW_ff rfl ?_;refine AW_skip (hK1 _ ?_);refine AW_then fun K2 hK2=>?_
   have qf:=(Aq fw @ha2)
   refine rgqv [0,1,14] [500] ?_;refine AW_tt rfl ?_;refine rgm fw hfl [4] [500] ?_;refine AW_ret ?_;simp [D.le,D.le.go,takeMap,dNum,pRow,dS,pRow,dS]
  ·rw [oneR] at h;simp only [Rs.err.injEq] at h
   have:=skipB_top hi
   exact ⟨by omega,rfl,by omega⟩
 | succ d ih=>
  intro a hd ha
  have ih':=ih (a+1) (by omega) (by omega)
  have hwh:=pwhole_spec G t ht (a+1) d ih'
  obtain ⟨yF,kF,ih'⟩:=ih'
  obtain ⟨yO,kO,hwh⟩:=hwh
  refine reads_of fun i hi=>?_
  have hnx:=pnext_spec G t i (by omega) hi 0 (-1)
  have htop:=skipB_top hi
  have ha2:¬ 20≤a:=by omega
  have ha0:0≤a:=by omega
  have nsome:=fun (c:UInt8) (h:t[skipB t i]? = some c)=>nx_some h
  have nne:=fun (c:UInt8) (hc:c≠0) (h:t[skipB t i]?≠some c)=>nx_ne hc h
  have hlt:∀ {c:UInt8},t[skipB t i]? = some c→skipB t i+1≤t.length:=fun h=>(List.getElem?_eq_some_iff.1 h).1
  rw [oneR];generalize nxB t i=b at hnx nsome nne;generalize skipB t i=j at hnx htop nsome nne hlt ⊢
  by_cases c33:t[j]? = some 33
  ·rw [if_pos c33]
   obtain rfl:=nsome 33 c33
   have hc:=(ih' (j+1) (hlt c33)).1
   rw [Int.natCast_add] at hc
   have he:=(ih' (j+1) (hlt c33)).2
   have hone:(outD (oneR t d (j+1)) (yF (j+1))).one=true:=by
    cases hfi:oneR t d (j+1) with
    | ok x k=>exact dR_one x
    | err c p q=>exact (he _ _ _ hfi).2.1
   have hcel:=cells_one hone
   change ∃ y k,PSx G t [500] [] 183 [.ref 500 0 0,.d (dNum a)] (d+1) (notR (oneR t d (j+1))) i y k
   generalize hRR:oneR t d (j+1)=R at hc he hone hcel ⊢;refine ⟨.ip [dS [33],dS [],.sl none [[yF (j+1)]]],kF (j+1),?_,fun c p q h=>?_⟩
   ·have h1:outD (notR R) (.ip [dS [33],dS [],.sl none [[yF (j+1)]]]) = .ip [dS [33],dS [],.sl none [[outD R (yF (j+1))]]]:=by cases R<;>rfl
    have h2:outK (notR R) (kF (j+1))=outK R (kF (j+1)):=by cases R<;>rfl
    have h3:eR (notR R)=eR R:=by cases R<;>rfl
    have h4:pR (notR R)=pR R:=by cases R<;>rfl
    rw [h1,h2,h3,h4];refine MC.of_body (tyOf_good _) Tryz.func183 rfl rfl (rs:=[.tmp 4]) Tryz.results183 (by simp [Tryz.ntmps183]) rfl fun X=>?_;simp only [Tryz.ntmps183]
    have fw:=(Aq @dNum.eq_1 (Aq @pRow.eq_1 @dS.eq_1))
    refine rgq fw [0,1] [500] ?_;refine AW_then fun K1 hK1=>?_;refine rgq fw [0,1,12] [500] ?_;refine AW_ff rfl ?_;refine AW_skip (hK1 _ ?_);refine AW_then fun K2 hK2=>?_
    have qf:=(Aq fw @ha2)
    refine rgqv [0,1,14] [500] ?_;refine AW_ff rfl ?_;refine AW_skip (hK2 _ ?_);refine AW_then fun K3 hK3=>?_;refine rgm fw hnx [0,1,5] [500] ?_;refine rgq fw [0,1,5,19] [500] ?_;refine AW_block ?_;refine rgq fw [0,1,5,19,20] [500] ?_;refine AW_tt rfl ?_;refine rgq fw [0,1] [500] ?_
    have qf:=(Aq fw (Aq @hcel (Aq @hone @l33)))
    refine rgmv hc [4] [33,35,500] ?_;refine AW.imp (Imp.freeze 33 (by decide)) ?_;refine AW.st (by simp [dNum,pRow,dS];rfl) ?_;refine AW.imp (Imp.freezeB 35 (by decide)) ?_;refine AW.st (by simp [dNum,pRow,dS];rfl) ?_;refine AW_ret ?_;simp [D.le,D.le.go,takeMap,dNum,pRow,dS,pRow,dS,bs_nil,D.le_refl,D.leGo_refl]
   ·cases R with
    | ok x k=>cases h
    | err c' p' q'=>
     simp only [notR,Rs.err.injEq] at h
     obtain ⟨rfl,rfl,rfl⟩:=h
     obtain ⟨g1,g2,g3⟩:=he _ _ _ rfl
     exact ⟨g1,rfl,by omega⟩
  rw [if_neg c33]
  have n33:¬ (b.toNat:Int)=33:=nne 33 (by decide) c33
  by_cases c40:t[j]? = some 40
  ·rw [if_pos c40]
   obtain rfl:=nsome 40 c40
   have hc:=(hwh (j+1) (hlt c40)).1
   rw [Int.natCast_add] at hc
   have he:=(hwh (j+1) (hlt c40)).2
   cases hr:orR t (oneR t d) (j+1) with
   | err c p q=>
    rw [hr] at hc
    obtain ⟨g1,g2,g3⟩:=he _ _ _ hr
    have g4:¬ c=0:=by omega
    refine ⟨yO (j+1),kO (j+1)+1,?_,fun c' p' q' h=>?_⟩
    ·show MC _ _ _ _ _ _ (.d (yO (j+1))) (hlst (pRow t ((kO (j+1)+1:Nat):Int) c p ++ []))
     rw [Int.natCast_add];refine MC.of_body (tyOf_good _) Tryz.func183 rfl rfl (rs:=[.tmp 4]) Tryz.results183 (by simp [Tryz.ntmps183]) rfl fun X=>?_;simp only [Tryz.ntmps183]
     have fw:=(Aq @dNum.eq_1 (Aq @pRow.eq_1 @dS.eq_1))
     refine rgq fw [0,1] [500] ?_;refine AW_then fun K1 hK1=>?_;refine rgq fw [0,1,12] [500] ?_;refine AW_ff rfl ?_;refine AW_skip (hK1 _ ?_);refine AW_then fun K2 hK2=>?_
     have qf:=(Aq fw @ha2)
     refine rgqv [0,1,14] [500] ?_;refine AW_ff rfl ?_;refine AW_skip (hK2 _ ?_);refine AW_then fun K3 hK3=>?_;refine rgm fw hnx [0,1,5] [500] ?_;refine rgq fw [0,1,5,19] [500] ?_;refine AW_block ?_;refine rgq fw [0,1,5,19,20] [500] ?_;refine AW_ff rfl ?_;refine rgq fw [0,1,5,19,36] [500] ?_;refine AW_tt rfl ?_;refine rgq fw [0,1] [500] ?_;refine rgm (Aq fw (Aq @outD.eq_1 (Aq @outD.eq_2 (Aq @outK.eq_1 (Aq @outK.eq_2 (Aq @eR.eq_1 (Aq @eR.eq_2 (Aq @pR.eq_1 @pR.eq_2)))))))) hc [0,6] [500] ?_;refine AW_then fun K4 hK4=>?_
     have qf:=(Aq fw @g4)
     refine rgqv [0,6,59] [500] ?_;refine AW_ff rfl ?_;refine AW_skip (hK4 _ ?_);refine rgq fw [6] [500] ?_;refine rgq fw [4] [500] ?_;refine AW_ret ?_;simp [D.le,D.le.go,takeMap,dNum,pRow,dS,pRow,dS,D.le_refl,D.leGo_refl]
    ·simp only [Rs.err.injEq] at h
     obtain ⟨rfl,rfl,rfl⟩:=h
     exact ⟨g1,g2,by omega⟩
   | ok x k=>
    rw [hr] at hc
    dsimp only [outD,outK,eR,pR] at hc
    have hk:=(or_goes (one_goes t d) (j+1) x k (hlt c40) hr).2
    have hn2:=pnext_spec G t k (by omega) hk 0 (-1)
    have hk2:=skipB_top hk
    have hfl:=pfail_spec G t (skipB t k) (by omega) hk2 3
    rw [skipB_idem hk] at hfl
    have htk:=nx_take (t:=t) (i:=k) (c:=41) (by decide)
    have ht2:=take_two (t:=t) (c:=41) (i:=k)
    have hd41:((41:UInt8).toNat:Int)=41:=rfl
    rw [hd41] at htk
    dsimp only
    by_cases hb:((nxB t k).toNat:Int)=41
    ·rw [decide_eq_true hb] at htk;rw [htk] at ht2 ⊢;simp only [if_true] at ht2 ⊢;rw [ht2];refine ⟨default,0,?_,fun c p q h=>by cases h⟩
     show MC _ _ _ _ _ _ (.d (dR x)) (hlst (pRow t ((skipB t k+1:Nat):Int) 0 (-1) ++ []))
     rw [Int.natCast_add]
     obtain ⟨cx,hx⟩:=dR_ip x
     rw [hx] at hc ⊢;refine MC.of_body (tyOf_good _) Tryz.func183 rfl rfl (rs:=[.tmp 4]) Tryz.results183 (by simp [Tryz.ntmps183]) rfl fun X=>?_;simp only [Tryz.ntmps183]
     have fw:=(Aq @dNum.eq_1 (Aq @pRow.eq_1 @dS.eq_1))
     refine rgq fw [0,1] [500] ?_;refine AW_then fun K1 hK1=>?_;refine rgq fw [0,1,12] [500] ?_;refine AW_ff rfl ?_;refine AW_skip (hK1 _ ?_);refine AW_then fun K2 hK2=>?_
     have qf:=(Aq fw @ha2)
     refine rgqv [0,1,14] [500] ?_;refine AW_ff rfl ?_;refine AW_skip (hK2 _ ?_);refine AW_then fun K3 hK3=>?_;refine rgm fw hnx [0,1,5] [500] ?_;refine rgq fw [0,1,5,19] [500] ?_;refine AW_block ?_;refine rgq fw [0,1,5,19,20] [500] ?_;refine AW_ff rfl ?_;refine rgq fw [0,1,5,19,36] [500] ?_;refine AW_tt rfl ?_;refine rgq fw [0,1] [500] ?_;refine rgm fw hc [0,6] [500] ?_;refine AW_then fun K4 hK4=>?_
     have qf:=(Aq fw @hb)
     refine rgmv hn2 [0,6,59] [500] ?_;refine AW_ff rfl ?_;refine AW_skip (hK4 _ ?_);refine rgq fw [6] [500] ?_;refine rgq fw [4] [500] ?_;refine AW_ret ?_;simp [D.le,D.le.go,takeMap,dNum,pRow,dS,pRow,dS,D.le_refl,D.leGo_refl]
    ·rw [decide_eq_false hb] at htk;rw [htk] at ht2 ⊢;simp only [Bool.false_eq_true,if_false] at ht2 ⊢;rw [ht2];refine ⟨.v (.pointer none),skipB t k,?_,fun c p q h=>?_⟩
     ·show MC _ _ _ _ _ _ (.d (.v (.pointer none))) (hlst (pRow t (skipB t k) 3 (skipB t k) ++ []))
      obtain ⟨cx,hx⟩:=dR_ip x
      rw [hx] at hc;refine MC.of_body (tyOf_good _) Tryz.func183 rfl rfl (rs:=[.tmp 4]) Tryz.results183 (by simp [Tryz.ntmps183]) rfl fun X=>?_;simp only [Tryz.ntmps183]
      have fw:=(Aq @dNum.eq_1 (Aq @pRow.eq_1 @dS.eq_1))
      refine rgq fw [0,1] [500] ?_;refine AW_then fun K1 hK1=>?_;refine rgq fw [0,1,12] [500] ?_;refine AW_ff rfl ?_;refine AW_skip (hK1 _ ?_);refine AW_then fun K2 hK2=>?_
      have qf:=(Aq fw @ha2)
      refine rgqv [0,1,14] [500] ?_;refine AW_ff rfl ?_;refine AW_skip (hK2 _ ?_);refine AW_then fun K3 hK3=>?_;refine rgm fw hnx [0,1,5] [500] ?_;refine rgq fw [0,1,5,19] [500] ?_;refine AW_block ?_;refine rgq fw [0,1,5,19,20] [500] ?_;refine AW_ff rfl ?_;refine rgq fw [0,1,5,19,36] [500] ?_;refine AW_tt rfl ?_;refine rgq fw [0,1] [500] ?_;refine rgm fw hc [0,6] [500] ?_;refine AW_then fun K4 hK4=>?_
      have qf:=(Aq fw @hb)
      refine rgmv hn2 [0,6,59] [500] ?_;refine AW_tt rfl ?_;refine rgm fw hfl [4] [500] ?_;refine AW_ret ?_;simp [D.le,D.le.go,takeMap,dNum,pRow,dS,pRow,dS,D.le_refl,D.leGo_refl]
     ·simp only [Rs.err.injEq] at h;exact ⟨by omega,rfl,by omega⟩
  rw [if_neg c40]
  have n40:¬ (b.toNat:Int)=40:=nne 40 (by decide) c40
  by_cases c48:t[j]? = some 48
  ·rw [if_pos c48]
   obtain rfl:=nsome 48 c48
   have:=hlt c48
   refine ⟨default,0,?_,fun c p q h=>by cases h⟩
   show MC _ _ _ _ _ _ (.d (.ip [dS [48],dS [],dNil])) (hlst (pRow t ((j+1:Nat):Int) 0 (-1) ++ []))
   rw [Int.natCast_add];refine MC.of_body (tyOf_good _) Tryz.func183 rfl rfl (rs:=[.tmp 4]) Tryz.results183 (by simp [Tryz.ntmps183]) rfl fun X=>?_;simp only [Tryz.ntmps183]
   have fw:=(Aq @dNum.eq_1 (Aq @pRow.eq_1 @dS.eq_1))
   refine rgq fw [0,1] [500] ?_;refine AW_then fun K1 hK1=>?_;refine rgq fw [0,1,12] [500] ?_;refine AW_ff rfl ?_;refine AW_skip (hK1 _ ?_);refine AW_then fun K2 hK2=>?_
   have qf:=(Aq fw @ha2)
   refine rgqv [0,1,14] [500] ?_;refine AW_ff rfl ?_;refine AW_skip (hK2 _ ?_);refine AW_then fun K3 hK3=>?_;refine rgm fw hnx [0,1,5] [500] ?_;refine rgq fw [0,1,5,19] [500] ?_;refine AW_block ?_;refine rgq fw [0,1,5,19,20] [500] ?_;refine AW_ff rfl ?_;refine rgq fw [0,1,5,19,36] [500] ?_;refine AW_ff rfl ?_;refine AW_then fun K5 hK5=>?_;refine rgq fw [0,5,19,70] [500] ?_;refine AW_tt rfl ?_;refine AW_skip (hK5 _ ?_);refine AW_tt rfl ?_;refine rgq fw [5] [500] ?_
   have qf:=(Aq fw (Aq @enc48 @dNil.eq_1))
   refine rgqv [4] [83,500] ?_;refine AW.imp (Imp.freezeB 83 (by decide)) ?_;refine AW.st (by simp [dNum,pRow,dS];rfl) ?_;refine AW_ret ?_;simp [D.le,D.le.go,takeMap,dNum,pRow,dS,pRow,dS,dNil,bs_nil,D.le_refl,D.leGo_refl]
  rw [if_neg c48]
  have n48:¬ (b.toNat:Int)=48:=nne 48 (by decide) c48
  by_cases c49:t[j]? = some 49
  ·rw [if_pos c49]
   obtain rfl:=nsome 49 c49
   have:=hlt c49
   refine ⟨default,0,?_,fun c p q h=>by cases h⟩
   show MC _ _ _ _ _ _ (.d (.ip [dS [49],dS [],dNil])) (hlst (pRow t ((j+1:Nat):Int) 0 (-1) ++ []))
   rw [Int.natCast_add];refine MC.of_body (tyOf_good _) Tryz.func183 rfl rfl (rs:=[.tmp 4]) Tryz.results183 (by simp [Tryz.ntmps183]) rfl fun X=>?_;simp only [Tryz.ntmps183]
   have fw:=(Aq @dNum.eq_1 (Aq @pRow.eq_1 @dS.eq_1))
   refine rgq fw [0,1] [500] ?_;refine AW_then fun K1 hK1=>?_;refine rgq fw [0,1,12] [500] ?_;refine AW_ff rfl ?_;refine AW_skip (hK1 _ ?_);refine AW_then fun K2 hK2=>?_
   have qf:=(Aq fw @ha2)
   refine rgqv [0,1,14] [500] ?_;refine AW_ff rfl ?_;refine AW_skip (hK2 _ ?_);refine AW_then fun K3 hK3=>?_;refine rgm fw hnx [0,1,5] [500] ?_;refine rgq fw [0,1,5,19] [500] ?_;refine AW_block ?_;refine rgq fw [0,1,5,19,20] [500] ?_;refine AW_ff rfl ?_;refine rgq fw [0,1,5,19,36] [500] ?_;refine AW_ff rfl ?_;refine AW_then fun K5 hK5=>?_;refine rgq fw [0,5,19,70] [500] ?_;refine AW_ff rfl ?_;refine reK fw hK5 [0,5,19,70] [500] ?_;refine AW_tt rfl ?_;refine rgq fw [5] [500] ?_
   have qf:=(Aq fw (Aq @enc49 @dNil.eq_1))
   refine rgqv [4] [83,500] ?_;refine AW.imp (Imp.freezeB 83 (by decide)) ?_;refine AW.st (by simp [dNum,pRow,dS];rfl) ?_;refine AW_ret ?_;simp [D.le,D.le.go,takeMap,dNum,pRow,dS,pRow,dS,dNil,bs_nil,D.le_refl,D.leGo_refl]
  rw [if_neg c49]
  have n49:¬ (b.toNat:Int)=49:=nne 49 (by decide) c49
  by_cases c94:t[j]? = some 94
  ·rw [if_pos c94]
   obtain rfl:=nsome 94 c94
   have hj:=hlt c94
   have hw:=pword_spec G t 1 (j+1) (by omega) hj
   rw [Int.natCast_add] at hw
   have hwo:∀ s k,wordR t 1 (j+1) = .ok s k→wordS t (skipB t (j+1))=s:=fun s k h=>word_ok h
   have hwe:∀ c p q',wordR t 1 (j+1) = .err c p q'→0 < c∧p≤t.length:=fun c p q' h=>word_pos hj h
   generalize hW:wordR t 1 (j+1)=W at hw hwo hwe ⊢;generalize wordS t (skipB t (j+1))=sw at hw hwo;refine ⟨.ip [dS [94],dS sw,dNil],posR W,?_,fun c p q h=>?_⟩
   ·have h1:outD (W.map .rise) (.ip [dS [94],dS sw,dNil]) = .ip [dS [94],dS sw,dNil]:=by
     cases W with
     | ok s k=>obtain rfl:=hwo _ _ rfl;rfl
     | err c p q=>rfl
    have h2:outK (W.map Ex.rise) (posR W)=posR W:=by cases W<;>rfl
    have h3:eR (W.map Ex.rise)=eR W:=by cases W<;>rfl
    have h4:pR (W.map Ex.rise)=pR W:=by cases W<;>rfl
    rw [h1,h2,h3,h4];refine MC.of_body (tyOf_good _) Tryz.func183 rfl rfl (rs:=[.tmp 4]) Tryz.results183 (by simp [Tryz.ntmps183]) rfl fun X=>?_;simp only [Tryz.ntmps183]
    have fw:=(Aq @dNum.eq_1 (Aq @pRow.eq_1 @dS.eq_1))
    refine rgq fw [0,1] [500] ?_;refine AW_then fun K1 hK1=>?_;refine rgq fw [0,1,12] [500] ?_;refine AW_ff rfl ?_;refine AW_skip (hK1 _ ?_);refine AW_then fun K2 hK2=>?_
    have qf:=(Aq fw @ha2)
    refine rgqv [0,1,14] [500] ?_;refine AW_ff rfl ?_;refine AW_skip (hK2 _ ?_);refine AW_then fun K3 hK3=>?_;refine rgm fw hnx [0,1,5] [500] ?_;refine rgq fw [0,1,5,19] [500] ?_;refine AW_block ?_;refine rgq fw [0,1,5,19,20] [500] ?_;refine AW_ff rfl ?_;refine rgq fw [0,1,5,19,36] [500] ?_;refine AW_ff rfl ?_;refine AW_then fun K5 hK5=>?_;refine rgq fw [0,5,19,70] [500] ?_;refine AW_ff rfl ?_;refine reK fw hK5 [0,5,19,70] [500] ?_;refine AW_ff rfl ?_;refine AW_then fun K6 hK6=>?_;refine rgq fw [0,5,19,84] [500] ?_;refine AW_tt rfl ?_;refine AW_skip (hK6 _ ?_);refine AW_tt rfl ?_;refine rgq fw [0,5] [500] ?_
    have qf:=(Aq fw (Aq @enc94 @dNil.eq_1))
    refine rgmv hw [4] [99,500] ?_;refine AW.imp (Imp.freezeB 99 (by decide)) ?_;refine AW.st (by simp [dNum,pRow,dS];rfl) ?_;refine AW_ret ?_;simp [D.le,D.le.go,takeMap,dNum,pRow,dS,pRow,dS,dNil,bs_nil,D.le_refl,D.leGo_refl]
   ·cases W with
    | ok s k=>cases h
    | err c' p' q'=>
     simp only [Rs.map,Rs.err.injEq] at h
     obtain ⟨rfl,rfl,rfl⟩:=h
     obtain ⟨g1,g2⟩:=hwe _ _ _ rfl
     exact ⟨g1,rfl,by simp only [posR];omega⟩
  rw [if_neg c94]
  have n94:¬ (b.toNat:Int)=94:=nne 94 (by decide) c94
  by_cases c126:t[j]? = some 126
  ·rw [if_pos c126]
   obtain rfl:=nsome 126 c126
   have hj:=hlt c126
   have hw:=pword_spec G t 2 (j+1) (by omega) hj
   rw [Int.natCast_add] at hw
   have hwo:∀ s k,wordR t 2 (j+1) = .ok s k→wordS t (skipB t (j+1))=s:=fun s k h=>word_ok h
   have hwe:∀ c p q',wordR t 2 (j+1) = .err c p q'→0 < c∧p≤t.length:=fun c p q' h=>word_pos hj h
   generalize hW:wordR t 2 (j+1)=W at hw hwo hwe ⊢;generalize wordS t (skipB t (j+1))=sw at hw hwo;refine ⟨.ip [dS [126],dS sw,dNil],posR W,?_,fun c p q h=>?_⟩
   ·have h1:outD (W.map .fall) (.ip [dS [126],dS sw,dNil]) = .ip [dS [126],dS sw,dNil]:=by
     cases W with
     | ok s k=>obtain rfl:=hwo _ _ rfl;rfl
     | err c p q=>rfl
    have h2:outK (W.map Ex.fall) (posR W)=posR W:=by cases W<;>rfl
    have h3:eR (W.map Ex.fall)=eR W:=by cases W<;>rfl
    have h4:pR (W.map Ex.fall)=pR W:=by cases W<;>rfl
    rw [h1,h2,h3,h4];refine MC.of_body (tyOf_good _) Tryz.func183 rfl rfl (rs:=[.tmp 4]) Tryz.results183 (by simp [Tryz.ntmps183]) rfl fun X=>?_;simp only [Tryz.ntmps183]
    have fw:=(Aq @dNum.eq_1 (Aq @pRow.eq_1 @dS.eq_1))
    refine rgq fw [0,1] [500] ?_;refine AW_then fun K1 hK1=>?_;refine rgq fw [0,1,12] [500] ?_;refine AW_ff rfl ?_;refine AW_skip (hK1 _ ?_);refine AW_then fun K2 hK2=>?_
    have qf:=(Aq fw @ha2)
    refine rgqv [0,1,14] [500] ?_;refine AW_ff rfl ?_;refine AW_skip (hK2 _ ?_);refine AW_then fun K3 hK3=>?_;refine rgm fw hnx [0,1,5] [500] ?_;refine rgq fw [0,1,5,19] [500] ?_;refine AW_block ?_;refine rgq fw [0,1,5,19,20] [500] ?_;refine AW_ff rfl ?_;refine rgq fw [0,1,5,19,36] [500] ?_;refine AW_ff rfl ?_;refine AW_then fun K5 hK5=>?_;refine rgq fw [0,5,19,70] [500] ?_;refine AW_ff rfl ?_;refine reK fw hK5 [0,5,19,70] [500] ?_;refine AW_ff rfl ?_;refine AW_then fun K6 hK6=>?_;refine rgq fw [0,5,19,84] [500] ?_;refine AW_ff rfl ?_;refine reK fw hK6 [0,5,84] [500] ?_;refine AW_tt rfl ?_;refine rgq fw [0,5] [500] ?_
    have qf:=(Aq fw (Aq @enc126 @dNil.eq_1))
    refine rgmv hw [4] [99,500] ?_;refine AW.imp (Imp.freezeB 99 (by decide)) ?_;refine AW.st (by simp [dNum,pRow,dS];rfl) ?_;refine AW_ret ?_;simp [D.le,D.le.go,takeMap,dNum,pRow,dS,pRow,dS,dNil,bs_nil,D.le_refl,D.leGo_refl]
   ·cases W with
    | ok s k=>cases h
    | err c' p' q'=>
     simp only [Rs.map,Rs.err.injEq] at h
     obtain ⟨rfl,rfl,rfl⟩:=h
     obtain ⟨g1,g2⟩:=hwe _ _ _ rfl
     exact ⟨g1,rfl,by simp only [posR];omega⟩
  rw [if_neg c126]
  have n126:¬ (b.toNat:Int)=126:=nne 126 (by decide) c126
  have hw:=pword_spec G t 3 j (by omega) htop
  have hwo:∀ s k,wordR t 3 j = .ok s k→wordS t (skipB t j)=s:=fun s k h=>word_ok h
  have hwe:∀ c p q',wordR t 3 j = .err c p q'→0 < c∧p≤t.length:=fun c p q' h=>word_pos htop h
  generalize hW:wordR t 3 j=W at hw hwo hwe ⊢;generalize wordS t (skipB t j)=sw at hw hwo;refine ⟨.ip [dS [98,105,116],dS sw,dNil],posR W,?_,fun c p q h=>?_⟩
  ·have h1:outD (W.map .bit) (.ip [dS [98,105,116],dS sw,dNil]) = .ip [dS [98,105,116],dS sw,dNil]:=by
    cases W with
    | ok s k=>obtain rfl:=hwo _ _ rfl;rfl
    | err c p q=>rfl
   have h2:outK (W.map Ex.bit) (posR W)=posR W:=by cases W<;>rfl
   have h3:eR (W.map Ex.bit)=eR W:=by cases W<;>rfl
   have h4:pR (W.map Ex.bit)=pR W:=by cases W<;>rfl
   rw [h1,h2,h3,h4];refine MC.of_body (tyOf_good _) Tryz.func183 rfl rfl (rs:=[.tmp 4]) Tryz.results183 (by simp [Tryz.ntmps183]) rfl fun X=>?_;simp only [Tryz.ntmps183]
   have fw:=(Aq @dNum.eq_1 (Aq @pRow.eq_1 @dS.eq_1))
   refine rgq fw [0,1] [500] ?_;refine AW_then fun K1 hK1=>?_;refine rgq fw [0,1,12] [500] ?_;refine AW_ff rfl ?_;refine AW_skip (hK1 _ ?_);refine AW_then fun K2 hK2=>?_
   have qf:=(Aq fw @ha2)
   refine rgqv [0,1,14] [500] ?_;refine AW_ff rfl ?_;refine AW_skip (hK2 _ ?_);refine AW_then fun K3 hK3=>?_;refine rgm fw hnx [0,1,5] [500] ?_;refine rgq fw [0,1,5,19] [500] ?_;refine AW_block ?_
   have qf:=(Aq fw (Aq @n33 (Aq @n40 (Aq @n48 (Aq @n49 (Aq @n94 @n126))))))
   refine rgqv [0,1,5,19,20] [500] ?_;refine AW_ff rfl ?_
   have qf:=(Aq fw (Aq @n33 (Aq @n40 (Aq @n48 (Aq @n49 (Aq @n94 @n126))))))
   refine rgqv [0,1,5,19,36] [500] ?_;refine AW_ff rfl ?_;refine AW_then fun K5 hK5=>?_
   have qf:=(Aq fw (Aq @n33 (Aq @n40 (Aq @n48 (Aq @n49 (Aq @n94 @n126))))))
   refine rgqv [0,5,19,70] [500] ?_;refine AW_ff rfl ?_
   have qf:=(Aq fw (Aq @n33 (Aq @n40 (Aq @n48 (Aq @n49 (Aq @n94 @n126))))))
   refine reKv hK5 [0,5,19,70] [500] ?_;refine AW_ff rfl ?_;refine AW_then fun K6 hK6=>?_
   have qf:=(Aq fw (Aq @n33 (Aq @n40 (Aq @n48 (Aq @n49 (Aq @n94 @n126))))))
   refine rgqv [0,5,19,84] [500] ?_;refine AW_ff rfl ?_
   have qf:=(Aq fw (Aq @n33 (Aq @n40 (Aq @n48 (Aq @n49 (Aq @n94 @n126))))))
   refine reKv hK6 [0,5,84] [500] ?_;refine AW_ff rfl ?_;refine AW_skip (hK3 _ ?_)
   have qf:=(Aq fw (Aq @dNil.eq_1 @lbit))
   refine rgmv hw [4] [103,500] ?_;refine AW.imp (Imp.freezeB 103 (by decide)) ?_;refine AW.st (by simp [dNum,pRow,dS];rfl) ?_;refine AW_ret ?_;simp [D.le,D.le.go,takeMap,dNum,pRow,dS,pRow,dS,dNil,bs_nil,D.le_refl,D.leGo_refl]
  ·cases W with
   | ok s k=>cases h
   | err c' p' q'=>
    simp only [Rs.map,Rs.err.injEq] at h
    obtain ⟨rfl,rfl,rfl⟩:=h
    obtain ⟨g1,g2⟩:=hwe _ _ _ rfl
    exact ⟨g1,rfl,by simp only [posR];omega⟩
end Go.Proofs.YthnjfeielmbfkaaGreatDoor
namespace Go.Proofs.YthnjfeielmbfkaaGreatDoor
open Go.Av
def nmE (all:Bool):Ex→List UInt8
 | .bit s=>if all then s else []
 | .rise s=>s
 | .fall s=>s
 | _=>[]
def one1 (s:List UInt8):List (List UInt8):=if s=[] then [] else [s]
mutual
def nmsE (all:Bool):Ex→List (List UInt8)
 | .not e=>nmsE all e
 | .and l=>nmsL all l
 | .or l=>nmsL all l
 | e=>one1 (nmE all e)
def nmsL (all:Bool):List Ex→List (List UInt8)
 | []=>[]
 | e :: l=>nmsE all e ++ nmsL all l
end
theorem nmsL_app (all:Bool):∀ a b:List Ex,nmsL all (a ++ b)=nmsL all a ++ nmsL all b
 | [],b=>rfl
 | e :: a,b=>by simp [nmsL,nmsL_app all a b]
theorem nmsL_take (all:Bool) {l:List Ex} {i:Nat} (hi:i < l.length):nmsL all (l.take (i+1))=nmsL all (l.take i) ++ nmsE all l[i]:=by
 rw [List.take_succ_eq_append_getElem hi,nmsL_app];simp [nmsL]
theorem nms_b (all:Bool):∀ (n:Nat) (e:Ex),SizeOf.sizeOf e≤n→(nmsE all e).length≤bE e
 | 0,e,hn=>by cases e<;>simp at hn
 | n+1,e,hn=>by
  have many:∀ l:List Ex,(∀ x∈l,SizeOf.sizeOf x≤n)→(nmsL all l).length≤bEs l:=by
   intro l
   induction l with
   | nil=>intro _;simp [nmsL]
   | cons x l ih=>
    intro h
    have a:=ih fun y hy=>h y (by simp [hy])
    have b:=nms_b all n x (h x (by simp))
    simp only [nmsL,bEs,List.length_append]
    omega
  have hone:∀ s,(one1 s).length≤1:=fun s=>by unfold one1;split<;>simp
  have hp:=bE_pos e
  cases e with
  | not x=>have:=nms_b all n x (by simp at hn;omega);simp only [nmsE,bE];omega
  | and l=>
   have:=many l fun x hx=>by have:=List.sizeOf_lt_of_mem hx;simp only [Ex.and.sizeOf_spec] at hn;omega
   simp only [nmsE,bE];omega
  | or l=>
   have:=many l fun x hx=>by have:=List.sizeOf_lt_of_mem hx;simp only [Ex.or.sizeOf_spec] at hn;omega
   simp only [nmsE,bE];omega
  | cst b=>have:=hone (nmE all (.cst b));simp only [nmsE];omega
  | bit s=>have:=hone (nmE all (.bit s));simp only [nmsE];omega
  | rise s=>have:=hone (nmE all (.rise s));simp only [nmsE];omega
  | fall s=>have:=hone (nmE all (.fall s));simp only [nmsE];omega
theorem nms_len (all:Bool) (e:Ex):(nmsE all e).length≤bE e:=nms_b all _ e (Nat.le_refl _)
theorem nmsL_len (all:Bool):∀ l:List Ex,(nmsL all l).length≤bEs l
 | []=>by simp [nmsL]
 | e :: l=>by have:=nms_len all e;have:=nmsL_len all l;simp only [nmsL,bEs,List.length_append];omega
def nRow (l:List (List UInt8)):List (Nat×Row):=[(502,.box 169 [.own 503 0 l.length]),(503,.sl 9 1 (l.map fun s=>[dS s]))]
def fnOf (all:Bool):FuncId:=if all then 170 else 162
set_option maxHeartbeats 8000000 in
theorem names1_spec (G:Glob) (e:Ex):PureC Tryz.prog G 170 [dE e] (dS (nmE true e)):=by
 by_cases h1:∃ s,e = .bit s
 ·obtain ⟨s,rfl⟩:=h1
  rw [dE];refine PureC.of_body (tyOf_good _) Tryz.func170 rfl rfl (rs:=[.tmp 2]) Tryz.results170 (by simp [Tryz.ntmps170]) fun X=>?_;simp only [Tryz.ntmps170,List.map]
  have fw:=(Aq @dNum.eq_1 (Aq @dS.eq_1 (Aq @pairA.eq_1 (Aq @pairA.eq_2 @assertA.eq_1))))
  refine rgq fw [0] [] ?_;refine AW_then fun K1 hK1=>?_;refine rgq fw [6] [] ?_;refine AW_block ?_;refine rgq fw [6,8,9] [] ?_;refine AW_tt rfl ?_;refine rgq fw [3] [] ?_;refine rgq fw [2] [] ?_;refine AW_ret ?_;simp [D.le,D.le.go,takeMap,dNum,dS,pairA,assertA,nmE,dS,D.le_refl]
 by_cases h2:∃ s,e = .rise s
 ·obtain ⟨s,rfl⟩:=h2
  rw [dE];refine PureC.of_body (tyOf_good _) Tryz.func170 rfl rfl (rs:=[.tmp 2]) Tryz.results170 (by simp [Tryz.ntmps170]) fun X=>?_;simp only [Tryz.ntmps170,List.map]
  have fw:=(Aq @dNum.eq_1 (Aq @dS.eq_1 (Aq @pairA.eq_1 (Aq @pairA.eq_2 @assertA.eq_1))))
  refine rgq fw [0] [] ?_;refine AW_then fun K1 hK1=>?_;refine rgq fw [6] [] ?_;refine AW_block ?_;refine rgq fw [6,8,9] [] ?_;refine AW_ff rfl ?_;refine rgq fw [6,12,13] [] ?_;refine AW_tt rfl ?_;refine rgq fw [4] [] ?_;refine rgq fw [2] [] ?_;refine AW_ret ?_;simp [D.le,D.le.go,takeMap,dNum,dS,pairA,assertA,nmE,dS,D.le_refl]
 by_cases h3:∃ s,e = .fall s
 ·obtain ⟨s,rfl⟩:=h3
  rw [dE];refine PureC.of_body (tyOf_good _) Tryz.func170 rfl rfl (rs:=[.tmp 2]) Tryz.results170 (by simp [Tryz.ntmps170]) fun X=>?_;simp only [Tryz.ntmps170,List.map]
  have fw:=(Aq @dNum.eq_1 (Aq @dS.eq_1 (Aq @pairA.eq_1 (Aq @pairA.eq_2 @assertA.eq_1))))
  refine rgq fw [0] [] ?_;refine AW_then fun K1 hK1=>?_;refine rgq fw [6] [] ?_;refine AW_block ?_;refine rgq fw [6,8,9] [] ?_;refine AW_ff rfl ?_;refine rgq fw [6,12,13] [] ?_;refine AW_ff rfl ?_;refine rgq fw [16,17] [] ?_;refine AW_tt rfl ?_;refine rgq fw [5] [] ?_;refine rgq fw [2] [] ?_;refine AW_ret ?_;simp [D.le,D.le.go,takeMap,dNum,dS,pairA,assertA,nmE,dS,D.le_refl]
 have hk:∃ t c,dE e = .ifc t c∧¬ t=108∧¬ t=125∧¬ t=127∧nmE true e=[]:=by
  cases e with
  | bit s=>exact absurd ⟨s,rfl⟩ h1
  | rise s=>exact absurd ⟨s,rfl⟩ h2
  | fall s=>exact absurd ⟨s,rfl⟩ h3
  | cst b=>exact ⟨_,_,by rw [dE],by decide,by decide,by decide,rfl⟩
  | not b=>exact ⟨_,_,by rw [dE],by decide,by decide,by decide,rfl⟩
  | and b=>exact ⟨_,_,by rw [dE],by decide,by decide,by decide,rfl⟩
  | or b=>exact ⟨_,_,by rw [dE],by decide,by decide,by decide,rfl⟩
 obtain ⟨t,c,hy,a1,a2,a3,a4⟩:=hk
 rw [a4,hy];refine PureC.of_body (tyOf_good _) Tryz.func170 rfl rfl (rs:=[.tmp 2]) Tryz.results170 (by simp [Tryz.ntmps170]) fun X=>?_;simp only [Tryz.ntmps170,List.map]
 have fw:=(Aq @dNum.eq_1 (Aq @dS.eq_1 (Aq @pairA.eq_1 (Aq @pairA.eq_2 @assertA.eq_1))))
 refine rgq fw [0] [] ?_;refine AW_then fun K1 hK1=>?_;refine rgq fw [6] [] ?_;refine AW_block ?_
 have qf:=(Aq fw @a1)
 refine rgqv [6,8,9] [] ?_;refine AW_ff rfl ?_
 have qf:=(Aq fw @a2)
 refine rgqv [6,12,13] [] ?_;refine AW_ff rfl ?_
 have qf:=(Aq fw @a3)
 refine rgqv [16,17] [] ?_;refine AW_ff rfl ?_;refine AW_skip (hK1 _ ?_);refine rgq fw [2] [] ?_;refine AW_ret ?_;simp [D.le,D.le.go,takeMap,dNum,dS,pairA,assertA,dS,bs_nil,D.le_refl]
set_option maxHeartbeats 8000000 in
theorem edges1_spec (G:Glob) (e:Ex):PureC Tryz.prog G 162 [dE e] (dS (nmE false e)):=by
 by_cases h2:∃ s,e = .rise s
 ·obtain ⟨s,rfl⟩:=h2
  rw [dE];refine PureC.of_body (tyOf_good _) Tryz.func162 rfl rfl (rs:=[.tmp 2]) Tryz.results162 (by simp [Tryz.ntmps162]) fun X=>?_;simp only [Tryz.ntmps162,List.map]
  have fw:=(Aq @dNum.eq_1 (Aq @dS.eq_1 (Aq @pairA.eq_1 (Aq @pairA.eq_2 @assertA.eq_1))))
  refine rgq fw [0] [] ?_;refine AW_then fun K1 hK1=>?_;refine rgq fw [5] [] ?_;refine AW_block ?_;refine rgq fw [5,7,8] [] ?_;refine AW_tt rfl ?_;refine rgq fw [3] [] ?_;refine rgq fw [2] [] ?_;refine AW_ret ?_;simp [D.le,D.le.go,takeMap,dNum,dS,pairA,assertA,nmE,dS,D.le_refl]
 by_cases h3:∃ s,e = .fall s
 ·obtain ⟨s,rfl⟩:=h3
  rw [dE];refine PureC.of_body (tyOf_good _) Tryz.func162 rfl rfl (rs:=[.tmp 2]) Tryz.results162 (by simp [Tryz.ntmps162]) fun X=>?_;simp only [Tryz.ntmps162,List.map]
  have fw:=(Aq @dNum.eq_1 (Aq @dS.eq_1 (Aq @pairA.eq_1 (Aq @pairA.eq_2 @assertA.eq_1))))
  refine rgq fw [0] [] ?_;refine AW_then fun K1 hK1=>?_;refine rgq fw [5] [] ?_;refine AW_block ?_;refine rgq fw [5,7,8] [] ?_;refine AW_ff rfl ?_;refine rgq fw [11,12] [] ?_;refine AW_tt rfl ?_;refine rgq fw [4] [] ?_;refine rgq fw [2] [] ?_;refine AW_ret ?_;simp [D.le,D.le.go,takeMap,dNum,dS,pairA,assertA,nmE,dS,D.le_refl]
 have hk:∃ t c,dE e = .ifc t c∧¬ t=125∧¬ t=127∧nmE false e=[]:=by
  cases e with
  | rise s=>exact absurd ⟨s,rfl⟩ h2
  | fall s=>exact absurd ⟨s,rfl⟩ h3
  | cst b=>exact ⟨_,_,by rw [dE],by decide,by decide,rfl⟩
  | bit b=>exact ⟨_,_,by rw [dE],by decide,by decide,rfl⟩
  | not b=>exact ⟨_,_,by rw [dE],by decide,by decide,rfl⟩
  | and b=>exact ⟨_,_,by rw [dE],by decide,by decide,rfl⟩
  | or b=>exact ⟨_,_,by rw [dE],by decide,by decide,rfl⟩
 obtain ⟨t,c,hy,a2,a3,a4⟩:=hk
 rw [a4,hy];refine PureC.of_body (tyOf_good _) Tryz.func162 rfl rfl (rs:=[.tmp 2]) Tryz.results162 (by simp [Tryz.ntmps162]) fun X=>?_;simp only [Tryz.ntmps162,List.map]
 have fw:=(Aq @dNum.eq_1 (Aq @dS.eq_1 (Aq @pairA.eq_1 (Aq @pairA.eq_2 @assertA.eq_1))))
 refine rgq fw [0] [] ?_;refine AW_then fun K1 hK1=>?_;refine rgq fw [5] [] ?_;refine AW_block ?_
 have qf:=(Aq fw @a2)
 refine rgqv [5,7,8] [] ?_;refine AW_ff rfl ?_
 have qf:=(Aq fw @a3)
 refine rgqv [11,12] [] ?_;refine AW_ff rfl ?_;refine AW_skip (hK1 _ ?_);refine rgq fw [2] [] ?_;refine AW_ret ?_;simp [D.le,D.le.go,takeMap,dNum,dS,pairA,assertA,dS,bs_nil,D.le_refl]
theorem name1_spec (G:Glob) (all:Bool) (e:Ex):PureC Tryz.prog G (fnOf all) [dE e] (dS (nmE all e)):=by
 cases all with
 | true=>exact names1_spec G e
 | false=>exact edges1_spec G e
set_option maxHeartbeats 8000000 in
theorem gather_spec (G:Glob) (all:Bool) (l:List (List UInt8)) (e:Ex) (hl:l.length < 2^40):MC Tryz.prog G [502] 203 ([.d (dE e)] ++ [.d (.ip [.fn (.func (fnOf all)) []]),.ref 502 0 0]) (hlst (nRow l)) (.d (.tup [])) (hlst (nRow (l ++ one1 (nmE all e)))):=by
 have hn:=name1_spec G all e
 obtain ⟨t,c,hx⟩:=dE_ifc e
 rw [hx] at hn ⊢;generalize fnOf all=g at hn ⊢;generalize nmE all e=s at hn ⊢
 by_cases hs:s=[]
 ·subst hs
  have he:l ++ one1 []=l:=by simp [one1]
  rw [he];refine MC.of_body (tyOf_good _) Tryz.func203 rfl rfl (rs:=[]) Tryz.results203 (by simp [Tryz.ntmps203]) rfl fun X=>?_;simp only [Tryz.ntmps203]
  have fw:=(Aq @dNum.eq_1 (Aq @dS.eq_1 @nRow.eq_1))
  refine rgc fw hn [2,4] [502,503] ?_;refine rg [2,4,9] [502,503] (notIn_ok rfl) fun K' hK'=>?_;(repeat (refine sxn fun K2 hK2=>?_;simp [dNum,dS,nRow,binS,bs_list,bs_nil];(repeat (refine ⟨by omega,?_⟩));refine hK2 _ ?_;clear hK2 K2));refine sxz (hK' _ (AW.st (by simp [dNum,dS,nRow,binS,bs_list,bs_nil];rfl) ?_));clear hK' K';refine AW_ff rfl ?_;refine AW_skip ?_;simp [D.le_refl,nRow,dS]
 ·have he:one1 s=[s]:=by unfold one1;rw [if_neg hs]
  have hse:s.isEmpty=false:=by rw [List.isEmpty_eq_false_iff];exact hs
  have hsb:(s == [])=false:=by simpa using hs
  rw [he];refine MC.of_body (tyOf_good _) Tryz.func203 rfl rfl (rs:=[]) Tryz.results203 (by simp [Tryz.ntmps203]) rfl fun X=>?_;simp only [Tryz.ntmps203]
  have fw:=(Aq @dNum.eq_1 (Aq @dS.eq_1 @nRow.eq_1))
  refine rgc fw hn [2,4] [502,503] ?_;refine rg [2,4,9] [502,503] (notIn_ok rfl) fun K' hK'=>?_;(repeat (refine sxn fun K2 hK2=>?_;simp [dNum,dS,nRow,binS,bs_list,bs_nil,hs,hse,hsb];(repeat (refine ⟨by omega,?_⟩));refine hK2 _ ?_;clear hK2 K2));refine sxz (hK' _ (AW.st (by simp [dNum,dS,nRow,binS,bs_list,bs_nil,hs,hse,hsb];rfl) ?_));clear hK' K';refine AW_tt rfl ?_;refine AW_re (tyOf_good _) fun K' hK'=>?_;(repeat (refine sxn fun K2 hK2=>?_;simp [dNum,dS,nRow,List.take_of_length_le];(repeat (refine ⟨by omega,?_⟩));refine hK2 _ ?_;clear hK2 K2));refine sxz (hK' _ ?_);clear hK' K';(try simp only [thn,inb]);simp [D.le_refl,nRow,dS]
set_option maxHeartbeats 16000000 in
theorem walkN_at (G:Glob) (all:Bool):∀ (m:Nat) (e:Ex),SizeOf.sizeOf e≤m→∀ l0:List (List UInt8),l0.length+bE e≤2^39→MC Tryz.prog G [502] 202 [.d (dE e),.fn (.func 203) [.d (.ip [.fn (.func (fnOf all)) []]),.ref 502 0 0]] (hlst (nRow l0)) (.d (.tup [])) (hlst (nRow (l0 ++ nmsE all e))):=by
 intro m
 induction m with
 | zero=>intro e hsz;cases e<;>simp at hsz
 | succ m ih=>
  intro e hsz l0 hb
  have hbp:=bE_pos e
  by_cases hN:∃ x,e = .not x
  ·obtain ⟨x,rfl⟩:=hN
   simp only [bE] at hb
   obtain ⟨tx,cx,hx⟩:=dE_ifc x
   have hs1:=gather_spec G all l0 (.not x) (by omega)
   have hnil:one1 (nmE all (.not x))=[]:=rfl
   rw [hnil,List.append_nil,List.singleton_append] at hs1
   have hc:=ih x (by simp at hsz;omega) l0 (by omega)
   rw [nmsE];rw [dE,hx];rw [dE,hx] at hs1;rw [hx] at hc;generalize l0 ++ nmsE all x=l1 at hc ⊢;generalize fnOf all=g at hc hs1 ⊢;refine MC.of_body (tyOf_good _) Tryz.func202 rfl rfl (rs:=[]) Tryz.results202 (by simp [Tryz.ntmps202]) rfl fun X=>?_;simp only [Tryz.ntmps202]
   have fw:=(Aq @dNum.eq_1 (Aq @dS.eq_1 (Aq @nRow.eq_1 (Aq @pairA.eq_1 (Aq @pairA.eq_2 @assertA.eq_1)))))
   refine rgm fw hs1 [0,1] [502,503] ?_;refine rgq fw [1,14] [502,503] ?_;refine AW_block ?_;refine rgq fw [1,14,16,17] [502,503] ?_;refine AW_tt rfl ?_;refine rgq fw [1,4] [4,502,503] ?_;refine AW_re (tyOf_good _) fun K' hK'=>?_;(repeat (refine sxn fun K2 hK2=>?_;simp [dNum,dS,nRow,pairA,assertA];(repeat (refine ⟨by omega,?_⟩));refine hK2 _ ?_;clear hK2 K2));refine sxn fun K2 hK2=>?_;simp [dNum,dS,nRow,pairA,assertA];refine callK.mc (hc) ?_ ?_ ?_ ?_ ?_<;>simp [dNum,dS,nRow,pairA,assertA];refine hK2 _ ?_;clear hK2 K2;(repeat (refine sxn fun K2 hK2=>?_;simp [dNum,dS,nRow,pairA,assertA];(repeat (refine ⟨by omega,?_⟩));refine hK2 _ ?_;clear hK2 K2));refine sxz (hK' _ ?_);clear hK' K';(try simp only [thn,inb]);simp [D.le_refl,nRow,dS]
  by_cases hand:∃ l,e = .and l
  ·obtain ⟨l,rfl⟩:=hand
   simp only [bE] at hb
   have hs1:=gather_spec G all l0 (.and l) (by omega)
   have hnil:one1 (nmE all (.and l))=[]:=rfl
   rw [hnil,List.append_nil,List.singleton_append] at hs1
   have hch:=fun (x:Ex) (hx:x∈l)=>ih x (by have:=List.sizeOf_lt_of_mem hx;simp only [Ex.and.sizeOf_spec] at hsz;omega)
   have hln:=bEs_len l
   rw [nmsE];rw [dE,dEs_map];rw [dE,dEs_map] at hs1;clear ih;generalize hg:fnOf all=g at hch hs1 ⊢;refine MC.of_body (tyOf_good _) Tryz.func202 rfl rfl (rs:=[]) Tryz.results202 (by simp [Tryz.ntmps202]) rfl fun X=>?_;simp only [Tryz.ntmps202]
   have fw:=(Aq @dNum.eq_1 (Aq @dS.eq_1 (Aq @nRow.eq_1 (Aq @pairA.eq_1 (Aq @pairA.eq_2 @assertA.eq_1)))))
   refine rgm fw hs1 [0,1] [502,503] ?_;refine rgq fw [1,14] [502,503] ?_;refine AW_block ?_;refine rgq fw [1,14,16,17] [502,503] ?_;refine AW_ff rfl ?_;refine rgq fw [1,14,23,24] [502,503] ?_;refine AW_tt rfl ?_;refine rgq fw [1,5] [502,503] ?_;refine rgq fw [1,25,26,27] [502,503] ?_;refine AW_for (S:=Nat) (fun i=>i≤l.length) (fun i=>⟨lst [(1,.fn (.func 203) [.d (.ip [.fn (.func g) []]),.ref 502 0 0]),(25,.d (.sl none (l.map fun e=>[dE e]))),(26,int l.length),(27,int i)],hlst (nRow (l0 ++ nmsL all (l.take i)))⟩) (fun i=>l.length - i) 0 ?_ (by omega) ?_
   ·refine Imp.to' (notIn_ok rfl) (by simp [dNum,dS,nRow,pairA,assertA,nmsL]) (by simp [dNum,dS,nRow,pairA,assertA,nmsL])
   ·intro i hi
    refine rgq fw [1,25,26,27,28] [502,503] ?_;refine AW_then fun K1 hK1=>?_;refine AW_cond' (b:=i < l.length) (by simp [D.le,D.le.go,takeMap,dNum,dS,nRow,pairA,assertA]) (fun hc=>?_) (fun hc=>?_)
    ·have hil:i < l.length:=hc
     have h1:=nmsL_take all hil
     have h2:=nmsL_len all (l.take i)
     have h3:=bEs_take hil
     have hcc:=hch _ (List.getElem_mem hil) (l0 ++ nmsL all (l.take i)) (by rw [List.length_append];omega)
     rw [List.append_assoc,← h1] at hcc
     obtain ⟨tx,cx,hx⟩:=dE_ifc l[i]
     rw [hx] at hcc;refine AW_skip (hK1 _ ?_);refine AW_then fun K2 hK2=>?_;refine AW_block ?_
     have qf:=(Aq fw (Aq @hil @hx))
     refine rgqv [1,7,25,26,27] [502,503] ?_;refine AW_re (tyOf_good _) fun K' hK'=>?_;(repeat (refine sxn fun K2 hK2=>?_;simp [dNum,dS,nRow,pairA,assertA];(repeat (refine ⟨by omega,?_⟩));refine hK2 _ ?_;clear hK2 K2));refine sxn fun K2 hK2=>?_;simp [dNum,dS,nRow,pairA,assertA];refine callK.mc (hcc) ?_ ?_ ?_ ?_ ?_<;>simp [dNum,dS,nRow,pairA,assertA];refine hK2 _ ?_;clear hK2 K2;(repeat (refine sxn fun K2 hK2=>?_;simp [dNum,dS,nRow,pairA,assertA];(repeat (refine ⟨by omega,?_⟩));refine hK2 _ ?_;clear hK2 K2));refine sxz (hK' _ ?_);clear hK' K';refine hK2 _ (AW.norm [1,25,26,27] [502,503] (notIn_ok rfl) (AW.st (by simp [dNum,dS,nRow,pairA,assertA];rfl) ?_));refine AW_re (tyOf_good _) fun K' hK'=>?_;(repeat (refine sxn fun K2 hK2=>?_;simp [dNum,dS,nRow,pairA,assertA];(repeat (refine ⟨by omega,?_⟩));refine hK2 _ ?_;clear hK2 K2));refine sxz (hK' _ ?_);clear hK' K';(try simp only [thn,inb]);refine Again.mk (i+1) (by omega) (by omega) ?_;refine Imp.to' (notIn_ok rfl) (by simp [dNum,dS,nRow,pairA,assertA]) (by simp [dNum,dS,nRow,pairA,assertA])
    ·obtain rfl:i=l.length:=by omega
     refine AW_exit ?_;simp [D.le_refl,List.take_length,nRow,dS]
  by_cases hor:∃ l,e = .or l
  ·obtain ⟨l,rfl⟩:=hor
   simp only [bE] at hb
   have hs1:=gather_spec G all l0 (.or l) (by omega)
   have hnil:one1 (nmE all (.or l))=[]:=rfl
   rw [hnil,List.append_nil,List.singleton_append] at hs1
   have hch:=fun (x:Ex) (hx:x∈l)=>ih x (by have:=List.sizeOf_lt_of_mem hx;simp only [Ex.or.sizeOf_spec] at hsz;omega)
   have hln:=bEs_len l
   rw [nmsE];rw [dE,dEs_map];rw [dE,dEs_map] at hs1;clear ih;generalize hg:fnOf all=g at hch hs1 ⊢;refine MC.of_body (tyOf_good _) Tryz.func202 rfl rfl (rs:=[]) Tryz.results202 (by simp [Tryz.ntmps202]) rfl fun X=>?_;simp only [Tryz.ntmps202]
   have fw:=(Aq @dNum.eq_1 (Aq @dS.eq_1 (Aq @nRow.eq_1 (Aq @pairA.eq_1 (Aq @pairA.eq_2 @assertA.eq_1)))))
   refine rgm fw hs1 [0,1] [502,503] ?_;refine rgq fw [1,14] [502,503] ?_;refine AW_block ?_;refine rgq fw [1,14,16,17] [502,503] ?_;refine AW_ff rfl ?_;refine rgq fw [1,14,23,24] [502,503] ?_;refine AW_ff rfl ?_;refine rgq fw [1,36,37] [502,503] ?_;refine AW_tt rfl ?_;refine rgq fw [1,8] [502,503] ?_;refine rgq fw [1,38,39,40] [502,503] ?_;refine AW_for (S:=Nat) (fun i=>i≤l.length) (fun i=>⟨lst [(1,.fn (.func 203) [.d (.ip [.fn (.func g) []]),.ref 502 0 0]),(38,.d (.sl none (l.map fun e=>[dE e]))),(39,int l.length),(40,int i)],hlst (nRow (l0 ++ nmsL all (l.take i)))⟩) (fun i=>l.length - i) 0 ?_ (by omega) ?_
   ·refine Imp.to' (notIn_ok rfl) (by simp [dNum,dS,nRow,pairA,assertA,nmsL]) (by simp [dNum,dS,nRow,pairA,assertA,nmsL])
   ·intro i hi
    refine rgq fw [1,38,39,40,41] [502,503] ?_;refine AW_then fun K1 hK1=>?_;refine AW_cond' (b:=i < l.length) (by simp [D.le,D.le.go,takeMap,dNum,dS,nRow,pairA,assertA]) (fun hc=>?_) (fun hc=>?_)
    ·have hil:i < l.length:=hc
     have h1:=nmsL_take all hil
     have h2:=nmsL_len all (l.take i)
     have h3:=bEs_take hil
     have hcc:=hch _ (List.getElem_mem hil) (l0 ++ nmsL all (l.take i)) (by rw [List.length_append];omega)
     rw [List.append_assoc,← h1] at hcc
     obtain ⟨tx,cx,hx⟩:=dE_ifc l[i]
     rw [hx] at hcc;refine AW_skip (hK1 _ ?_);refine AW_then fun K2 hK2=>?_;refine AW_block ?_
     have qf:=(Aq fw (Aq @hil @hx))
     refine rgqv [1,10,38,39,40] [502,503] ?_;refine AW_re (tyOf_good _) fun K' hK'=>?_;(repeat (refine sxn fun K2 hK2=>?_;simp [dNum,dS,nRow,pairA,assertA];(repeat (refine ⟨by omega,?_⟩));refine hK2 _ ?_;clear hK2 K2));refine sxn fun K2 hK2=>?_;simp [dNum,dS,nRow,pairA,assertA];refine callK.mc (hcc) ?_ ?_ ?_ ?_ ?_<;>simp [dNum,dS,nRow,pairA,assertA];refine hK2 _ ?_;clear hK2 K2;(repeat (refine sxn fun K2 hK2=>?_;simp [dNum,dS,nRow,pairA,assertA];(repeat (refine ⟨by omega,?_⟩));refine hK2 _ ?_;clear hK2 K2));refine sxz (hK' _ ?_);clear hK' K';refine hK2 _ (AW.norm [1,38,39,40] [502,503] (notIn_ok rfl) (AW.st (by simp [dNum,dS,nRow,pairA,assertA];rfl) ?_));refine AW_re (tyOf_good _) fun K' hK'=>?_;(repeat (refine sxn fun K2 hK2=>?_;simp [dNum,dS,nRow,pairA,assertA];(repeat (refine ⟨by omega,?_⟩));refine hK2 _ ?_;clear hK2 K2));refine sxz (hK' _ ?_);clear hK' K';(try simp only [thn,inb]);refine Again.mk (i+1) (by omega) (by omega) ?_;refine Imp.to' (notIn_ok rfl) (by simp [dNum,dS,nRow,pairA,assertA]) (by simp [dNum,dS,nRow,pairA,assertA])
    ·obtain rfl:i=l.length:=by omega
     refine AW_exit ?_;simp [D.le_refl,List.take_length,nRow,dS]
  have hk:∃ t c,dE e = .ifc t c∧¬ t=110∧¬ t=123∧¬ t=124∧nmsE all e=one1 (nmE all e):=by
   cases e with
   | not z=>exact absurd ⟨z,rfl⟩ hN
   | and l=>exact absurd ⟨l,rfl⟩ hand
   | or l=>exact absurd ⟨l,rfl⟩ hor
   | cst b=>exact ⟨_,_,by rw [dE],by decide,by decide,by decide,rfl⟩
   | bit s=>exact ⟨_,_,by rw [dE],by decide,by decide,by decide,rfl⟩
   | rise s=>exact ⟨_,_,by rw [dE],by decide,by decide,by decide,rfl⟩
   | fall s=>exact ⟨_,_,by rw [dE],by decide,by decide,by decide,rfl⟩
  obtain ⟨t,c,hy,h1,h2,h3,h4⟩:=hk
  have hs1:=gather_spec G all l0 e (by omega)
  rw [List.singleton_append] at hs1;rw [h4,hy];rw [hy] at hs1;generalize l0 ++ one1 (nmE all e)=l1 at hs1 ⊢;generalize fnOf all=g at hs1 ⊢;refine MC.of_body (tyOf_good _) Tryz.func202 rfl rfl (rs:=[]) Tryz.results202 (by simp [Tryz.ntmps202]) rfl fun X=>?_;simp only [Tryz.ntmps202]
  have fw:=(Aq @dNum.eq_1 (Aq @dS.eq_1 (Aq @nRow.eq_1 (Aq @pairA.eq_1 (Aq @pairA.eq_2 @assertA.eq_1)))))
  refine rgm fw hs1 [0,1] [502,503] ?_;refine rgq fw [1,14] [502,503] ?_;refine AW_block ?_
  have qf:=(Aq fw @h1)
  refine rgqv [1,14,16,17] [502,503] ?_;refine AW_ff rfl ?_
  have qf:=(Aq fw @h2)
  refine rgqv [1,14,23,24] [502,503] ?_;refine AW_ff rfl ?_
  have qf:=(Aq fw @h3)
  refine rgqv [1,36,37] [502,503] ?_;refine AW_ff rfl ?_;refine AW_skip ?_;simp [D.le_refl,nRow,dS]
def namesE (all:Bool) (e:Ex):List (List UInt8):=Lib.compact (sortT (nmsE all e))
set_option maxHeartbeats 8000000 in
theorem sorted_spec (G:Glob) (all:Bool) (e:Ex) (hb:bE e≤2^28):PureC Tryz.prog G 161 [dE e,.fn (.func (fnOf all)) []] (.sl none ((namesE all e).map fun s=>[dS s])):=by
 have hlen:=nms_len all e
 have hw:=walkN_at G all _ e (Nat.le_refl _) [] (by simp;omega)
 rw [List.nil_append] at hw
 have hso:=sort_mc G 503 9 (nmsE all e) (by omega)
 have hco:=compact_mc G 503 9 (sortT (nmsE all e)) (by rw [sortT_len];omega)
 rw [sortT_len] at hco
 have hcl:=Lib.compact_length_le (sortT (nmsE all e))
 rw [sortT_len] at hcl;unfold namesE
 obtain ⟨tx,cx,hx⟩:=dE_ifc e
 rw [hx] at hw ⊢;generalize fnOf all=g at hw ⊢;generalize nmsE all e=l at hw hso hco hcl hlen ⊢;generalize sortT l=z at hso hco hcl ⊢
 have htk:List.take (Lib.compact z).length ((Lib.compact z ++ List.replicate (l.length - (Lib.compact z).length) []).map fun s=>[dS s])=(Lib.compact z).map fun s=>[dS s]:=by
  rw [List.map_append,List.take_append_of_le_length (by simp),List.take_of_length_le (by simp)]
 have hyl:(Lib.compact z ++ List.replicate (l.length - (Lib.compact z).length) []).length=l.length:=by simp;omega
 generalize Lib.compact z ++ List.replicate (l.length - (Lib.compact z).length) []=y at hco htk hyl;generalize Lib.compact z=c at hco hcl htk ⊢;refine PureC.of_body (tyOf_good _) Tryz.func161 rfl rfl (rs:=[.tmp 4]) Tryz.results161 (by simp [Tryz.ntmps161]) fun X=>?_;simp only [Tryz.ntmps161,List.map]
 have fw:=(Aq @dNum.eq_1 (Aq @dS.eq_1 (Aq @nRow.eq_1 (Aq @pairA.eq_1 (Aq @pairA.eq_2 @assertA.eq_1)))))
 refine rgq fw [0,3] [3] ?_;refine AW.imp (Imp.freezeB 3 trivial) ?_;refine AW.st (by simp [dNum,dS,nRow,pairA,assertA];rfl) ?_;refine rgq fw [0,3,5] [5] ?_;refine AW.imp (Imp.ren (r:=5) (r':=502) trivial (by simp)) ?_;refine AW.st (by simp [renO,renF,Go.Av.ren,renH_one];rfl) ?_;refine AW.imp (Imp.adoptCell 502 0 503 9 1 rfl rfl rfl) ?_;refine AW.imp (τ:=⟨lst [(0,.d (.ifc tx cx)),(3,.d (.ip [.fn (.func g) []])),(5,.ref 502 0 0)],hlst (nRow [])⟩) ?_ ?_
 ·refine Imp.to' (fun _ _=>trivial) (by simp [dNum,dS,nRow,pairA,assertA,nRow]) (by simp [dNum,dS,nRow,pairA,assertA,nRow])
 refine rgm fw hw [5] [502,503] ?_;refine rgm fw hso [5] [502,503] ?_;refine rgm fw hco [4] [502,503] ?_
 have hle:c.length≤y.length:=by omega
 by_cases hcy:c.length=y.length
 ·have htk2:(y.map fun s=>[dS s])=c.map fun s=>[dS s]:=by rw [← htk,hcy,List.take_of_length_le (by simp)]
  simp only [dS] at htk2;refine AW.imp (Imp.freeze 503 trivial) ?_;refine AW.st (by simp [dNum,dS,nRow,pairA,assertA,hcy,hle,htk2];rfl) ?_;refine AW_ret ?_;simp [D.le,D.le.go,takeMap,dNum,dS,nRow,pairA,assertA,D.le_refl,D.leGo_refl,hcy,htk2]
 ·simp only [dS] at htk;refine AW.imp (Imp.freeze 503 trivial) ?_;refine AW.st (by simp [dNum,dS,nRow,pairA,assertA,hcy,hle,htk];rfl) ?_;refine AW_ret ?_;simp [D.le,D.le.go,takeMap,dNum,dS,nRow,pairA,assertA,D.le_refl,D.leGo_refl,htk]
theorem namesE_spec (G:Glob) (e:Ex) (hb:bE e≤2^28):PureC Tryz.prog G 117 [dE e] (.sl none ((namesE true e).map fun s=>[dS s])):=by
 have hs:=sorted_spec G true e hb
 obtain ⟨tx,cx,hx⟩:=dE_ifc e
 rw [hx] at hs ⊢;generalize namesE true e=l at hs ⊢;simp only [fnOf,if_true,if_false,Bool.false_eq_true] at hs;refine PureC.of_body (tyOf_good _) Tryz.func117 rfl rfl (rs:=[.tmp 2]) Tryz.results117 (by simp [Tryz.ntmps117]) fun X=>?_;simp only [Tryz.ntmps117,List.map]
 have fw:=(Aq @dNum.eq_1 (Aq @dS.eq_1 (Aq @nRow.eq_1 (Aq @pairA.eq_1 (Aq @pairA.eq_2 @assertA.eq_1)))))
 refine rgq fw [0] [] ?_;refine rgc fw hs [2] [] ?_;refine AW_ret ?_;simp [D.le,D.le.go,takeMap,dNum,dS,nRow,pairA,assertA,D.le_refl,D.leGo_refl]
end Go.Proofs.YthnjfeielmbfkaaGreatDoor
namespace Go.Proofs.YthnjfeielmbfkaaGreatDoor
open Go.Av
abbrev Tx:=List UInt8
theorem tx_irr (a:Tx):¬ a < a:=List.lt_irrefl a
theorem tx_trans {a b c:Tx} (h1:a < b) (h2:b < c):a < c:=List.lt_trans h1 h2
theorem tx_le {a b:Tx}:a≤b↔¬ b < a:=Iff.rfl
theorem tx_tri {a b:Tx} (h1:¬ a < b) (h2:¬ b < a):a=b:=List.le_antisymm (tx_le.2 h2) (tx_le.2 h1)
def insT (s:Tx):List Tx→List Tx
 | []=>[s]
 | y :: l=>if y < s then y :: insT s l else if y=s then y :: l else s :: y :: l
theorem insT_at (s:Tx):∀ (l:List Tx) (k:Nat),k≤l.length→(∀ i (hi:i < l.length),i < k→l[i] < s)→(∀ hk:k < l.length,¬ l[k] < s)→
  insT s l=if (∃ hk:k < l.length,l[k]=s) then l else l.take k ++ s :: l.drop k
 | [],k,hk,_,_=>by
  obtain rfl:k=0:=by simpa using hk
  simp [insT]
 | y :: l,0,_,_,h2=>by
  have h3:¬ y < s:=h2 (by simp)
  rw [insT,if_neg h3]
  by_cases he:y=s
  ·rw [if_pos he,if_pos ⟨by simp,he⟩]
  ·rw [if_neg he,if_neg (fun ⟨_,h⟩=>he h)];simp
 | y :: l,k+1,hk,h1,h2=>by
  have h3:y < s:=h1 0 (by simp) (by omega)
  rw [insT,if_pos h3,insT_at s l k (by simpa using hk) (fun i hi hik=>h1 (i+1) (by simpa using hi) (by omega)) (fun hk2=>h2 (by simpa using hk2))]
  by_cases he:∃ hk:k < l.length,l[k]=s
  ·rw [if_pos he,if_pos (by obtain ⟨a,b⟩:=he;exact ⟨by simpa using a,b⟩)]
  ·rw [if_neg he,if_neg (fun ⟨a,b⟩=>he ⟨by simpa using a,b⟩)];simp
theorem insT_mem {s x:Tx}:∀ {l:List Tx},x∈insT s l↔x=s∨x∈l
 | []=>by simp [insT]
 | y :: l=>by
  rw [insT]
  by_cases h1:y < s
  ·rw [if_pos h1,List.mem_cons,insT_mem,List.mem_cons]
   constructor
   ·rintro (h | h | h)<;>simp [h]
   ·rintro (h | h | h)<;>simp [h]
  ·rw [if_neg h1]
   by_cases h2:y=s
   ·rw [if_pos h2];subst h2;simp
   ·rw [if_neg h2];simp
theorem insT_srt (s:Tx):∀ {l:List Tx},l.Pairwise (· < ·)→(insT s l).Pairwise (· < ·)
 | [],_=>by simp [insT]
 | y :: l,h=>by
  obtain ⟨ha,hb⟩:=List.pairwise_cons.1 h
  rw [insT]
  by_cases h1:y < s
  ·rw [if_pos h1];refine List.pairwise_cons.2 ⟨fun x hx=>?_,insT_srt s hb⟩
   rcases insT_mem.1 hx with rfl | hx
   ·exact h1
   ·exact ha x hx
  ·rw [if_neg h1]
   by_cases h2:y=s
   ·rw [if_pos h2];exact h
   ·rw [if_neg h2]
    have h3:s < y:=Classical.byContradiction fun hn=>h2 (tx_tri h1 hn)
    refine List.pairwise_cons.2 ⟨fun x hx=>?_,h⟩
    rcases List.mem_cons.1 hx with rfl | hx
    ·exact h3
    ·exact tx_trans h3 (ha x hx)
theorem insT_len (s:Tx):∀ l:List Tx,(insT s l).length≤l.length+1
 | []=>by simp [insT]
 | y :: l=>by
  have:=insT_len s l
  rw [insT]
  split
  ·simp;omega
  ·split<;>simp
def insL (l ss:List Tx):List Tx:=ss.foldl (fun l s=>insT s l) l
theorem insL_nil (l:List Tx):insL l []=l:=rfl
theorem insL_app (l a b:List Tx):insL l (a ++ b)=insL (insL l a) b:=List.foldl_append ..
theorem insL_len:∀ (ss l:List Tx),(insL l ss).length≤l.length+ss.length
 | [],l=>by simp [insL]
 | s :: ss,l=>by
  have h1:=insL_len ss (insT s l)
  have h2:=insT_len s l
  have h3:insL l (s :: ss)=insL (insT s l) ss:=rfl
  rw [h3,List.length_cons]
  omega
theorem insL_mem {x:Tx}:∀ (ss l:List Tx),x∈insL l ss↔x∈l∨x∈ss
 | [],l=>by simp [insL]
 | s :: ss,l=>by
  have h3:insL l (s :: ss)=insL (insT s l) ss:=rfl
  rw [h3,insL_mem ss,insT_mem,List.mem_cons]
  constructor
  ·rintro ((h | h) | h)<;>simp [h]
  ·rintro (h | h | h)<;>simp [h]
theorem insL_srt:∀ (ss l:List Tx),l.Pairwise (· < ·)→(insL l ss).Pairwise (· < ·)
 | [],l,h=>h
 | s :: ss,l,h=>insL_srt ss _ (insT_srt s h)
theorem srt_eq:∀ {a b:List Tx},a.Pairwise (· < ·)→b.Pairwise (· < ·)→(∀ x,x∈a↔x∈b)→a=b
 | [],[],_,_,_=>rfl
 | [],y :: b,_,_,h=>absurd ((h y).2 (by simp)) (by simp)
 | x :: a,[],_,_,h=>absurd ((h x).1 (by simp)) (by simp)
 | x :: a,y :: b,ha,hb,h=>by
  obtain ⟨ha1,ha2⟩:=List.pairwise_cons.1 ha
  obtain ⟨hb1,hb2⟩:=List.pairwise_cons.1 hb
  have hxy:x=y:=by
   rcases List.mem_cons.1 ((h x).1 (by simp)) with e | hx
   ·exact e
   ·rcases List.mem_cons.1 ((h y).2 (by simp)) with e | hy
    ·exact e.symm
    ·exact absurd (tx_trans (hb1 x hx) (ha1 y hy)) (tx_irr _)
  subst hxy;rw [srt_eq ha2 hb2 fun z=>?_]
  constructor
  ·intro hz
   rcases List.mem_cons.1 ((h z).1 (by simp [hz])) with e | e
   ·subst e;exact absurd (ha1 z hz) (tx_irr _)
   ·exact e
  ·intro hz
   rcases List.mem_cons.1 ((h z).2 (by simp [hz])) with e | e
   ·subst e;exact absurd (hb1 z hz) (tx_irr _)
   ·exact e
theorem mem_upTo (d:Array Tx):∀ (m:Nat),m≤d.size→∀ j,j < m→d[j]!∈Lib.compactUpTo d m
 | 0,_,j,h=>by omega
 | m+1,hm,j,hj=>by
  rw [Lib.compactUpTo_succ]
  by_cases hjm:j < m
  ·exact List.mem_append_left _ (mem_upTo d m (by omega) j hjm)
  ·obtain rfl:j=m:=by omega
   by_cases hk:Lib.keeps d j=true
   ·exact List.mem_append_right _ (by simp [hk])
   ·have hj0:j≠0:=by rintro rfl;exact hk (Lib.keeps_lt_one d 0 (by omega))
    have he:d[j]! = d[j - 1]!:=by
     unfold Lib.keeps at hk;simp [hj0] at hk
     first | exact hk | exact hk.symm
    rw [he];exact List.mem_append_left _ (mem_upTo d j (by omega) (j - 1) (by omega))
theorem upTo_mem (d:Array Tx):∀ (m:Nat),m≤d.size→∀ x∈Lib.compactUpTo d m,∃ j,j < m∧x=d[j]!
 | 0,_,x,h=>by simp [Lib.compactUpTo] at h
 | m+1,hm,x,h=>by
  rw [Lib.compactUpTo_succ] at h
  rcases List.mem_append.1 h with h | h
  ·obtain ⟨j,hj,e⟩:=upTo_mem d m (by omega) x h
   exact ⟨j,by omega,e⟩
  ·split at h
   ·simp at h;exact ⟨m,by omega,h⟩
   ·simp at h
theorem upTo_srt (d:Array Tx) (hs:∀ i j,i≤j→j < d.size→d[i]!≤d[j]!):∀ (m:Nat),m≤d.size→(Lib.compactUpTo d m).Pairwise (· < ·)
 | 0,_=>by simp [Lib.compactUpTo]
 | m+1,hm=>by
  have ih:=upTo_srt d hs m (by omega)
  rw [Lib.compactUpTo_succ]
  by_cases hk:Lib.keeps d m=true
  ·rw [if_pos hk,List.pairwise_append];refine ⟨ih,by simp,fun a ha b hb=>?_⟩;rw [List.mem_singleton] at hb;subst hb
   obtain ⟨j,hj,rfl⟩:=upTo_mem d m (by omega) a ha
   have hne:d[m]!≠d[m - 1]!:=by
    intro he
    rw [Lib.keeps_neg (by omega) he] at hk
    cases hk
   have h1:=hs j (m - 1) (by omega) (by omega)
   have h2:=hs (m - 1) m (by omega) (by omega)
   have h3:d[m - 1]! < d[m]!:=Classical.byContradiction fun hn=>hne (tx_tri (tx_le.1 h2) hn)
   exact Classical.byContradiction fun hn=>by
    have h4:d[m]!≤d[j]!:=tx_le.2 hn
    exact (tx_le.1 (List.le_trans h4 h1)) h3
  ·rw [if_neg hk,List.append_nil];exact ih
theorem namesE_srt (all:Bool) (e:Ex):(namesE all e).Pairwise (· < ·):=by
 unfold namesE Lib.compact;refine upTo_srt _ (fun i j hij hj=>?_) _ (by simp)
 have hp:(sortT (nmsE all e)).Pairwise (·≤·):=by
  unfold sortT
  have:=List.pairwise_mergeSort (le:=fun x y:Tx=>decide (x≤y)) (by intro a b c h1 h2;simp only [decide_eq_true_eq] at *;exact List.le_trans h1 h2) (by intro a b;simp only [Bool.or_eq_true,decide_eq_true_eq];exact List.le_total a b) (nmsE all e)
  exact this.imp fun h=>by simpa using h
 generalize sortT (nmsE all e)=l at hp hj ⊢
 have hj':j < l.length:=by simpa using hj
 rw [getElem!_pos l.toArray i (by simpa using (by omega:i < l.length)),getElem!_pos l.toArray j (by simpa using hj')];simp only [List.getElem_toArray]
 by_cases he:i=j
 ·subst he;exact List.le_refl _
 ·exact (List.pairwise_iff_getElem.1 hp) i j (by omega) hj' (by omega)
theorem namesE_mem {all:Bool} {e:Ex} {s:Tx}:s∈namesE all e↔s∈nmsE all e:=by
 unfold namesE
 have h0:∀ l:List Tx,s∈Lib.compact l↔s∈l:=by
  intro l
  unfold Lib.compact
  constructor
  ·intro h
   obtain ⟨j,hj,rfl⟩:=upTo_mem l.toArray l.length (by simp) s h
   rw [getElem!_pos l.toArray j (by simpa using hj)];simp
  ·intro h
   obtain ⟨j,hj,rfl⟩:=List.mem_iff_getElem.1 h
   have:=mem_upTo l.toArray l.length (by simp) j hj
   rw [getElem!_pos l.toArray j (by simpa using hj)] at this;simpa using this
 rw [h0];unfold sortT;exact List.mem_mergeSort
theorem insL_names (all:Bool) (e:Ex):insL [] (nmsE all e)=namesE all e:=by
 refine srt_eq (insL_srt _ _ (by simp)) (namesE_srt all e) fun x=>?_;rw [insL_mem,namesE_mem];simp
end Go.Proofs.YthnjfeielmbfkaaGreatDoor
namespace Go.Proofs.YthnjfeielmbfkaaGreatDoor
open Go.Av
def kdR:Ex→List UInt8
 | .cst b=>[if b then 49 else 48]
 | .bit _=>[98,105,116]
 | .rise _=>[94]
 | .fall _=>[126]
 | .not _=>[33]
 | .and _=>[38]
 | .or _=>[124]
def nmR:Ex→List UInt8
 | .bit s=>s
 | .rise s=>s
 | .fall s=>s
 | _=>[]
def ofR:Ex→D
 | .not e=>.sl none [[dR e]]
 | .and l=>.sl none (dRs l)
 | .or l=>.sl none (dRs l)
 | _=>dNil
theorem dR_form (e:Ex):dR e = .ip [dS (kdR e),dS (nmR e),ofR e]:=by cases e<;>simp [dR,kdR,nmR,ofR]
theorem binS_eq (k:List UInt8) (arr:Array UInt8):binS .eql (bs k) ⟨arr⟩=some (True,.bool (decide (k=arr.toList))):=by
 have h:(bs k).toList=k:=bs_list k
 have h2:(⟨arr⟩:ByteArray).toList=arr.toList:=by rw [ByteArray.toList_eq]
 unfold binS
 dsimp only
 rw [h,h2]
 congr 3
 by_cases e:k=arr.toList
 ·subst e;simp
 ·rw [decide_eq_false e,beq_eq_false_iff_ne.2 e]
end Go.Proofs.YthnjfeielmbfkaaGreatDoor
namespace Go.Proofs.YthnjfeielmbfkaaGreatDoor
open Go.Av
theorem renH_two2 {r r' s:Nat} (h:r≠r') (hs:s≠r') (hr:s≠r) (row row2:Row):renH r r' (hlst [(s,row2),(r,row)])=hlst [(s,row2.tr (renO r r') (renF r r')),(r',row.tr (renO r r') (renF r r'))]:=by
 funext q
 unfold renH
 by_cases h1:q=r'
 ·subst h1;simp [hlst,List.lookup,beq_eq_false_iff_ne.2 (Ne.symm hs),beq_eq_false_iff_ne.2 (Ne.symm hr)]
 ·rw [if_neg h1]
  by_cases h2:q=r
  ·subst h2;simp [hlst,List.lookup,beq_eq_false_iff_ne.2 h1,beq_eq_false_iff_ne.2 (Ne.symm hr)]
  ·by_cases h3:q=s
   ·subst h3;simp [hlst,List.lookup,h2,beq_eq_false_iff_ne.2 h1,beq_eq_false_iff_ne.2 h2]
   ·simp [hlst,List.lookup,h2,beq_eq_false_iff_ne.2 h1,beq_eq_false_iff_ne.2 h2,beq_eq_false_iff_ne.2 h3]
def dOR:Option Ex→D
 | some x=>dR x
 | none=>.v (.pointer none)
theorem whole_reads (G:Glob) (t:List UInt8) (ht:t.length≤2000):Reads G t [500] [] 133 [.ref 500 0 0,.d (dNum 0)] 20 (orR t (oneR t 20)):=
 pwhole_spec G t ht 0 20 (piece_spec G t ht 20 0 (Nat.le_refl _) rfl)
theorem parse_pos {t:List UInt8} {c:Int} {p:Option Nat} (h:(parseM t).2=some (c,p)):0 < c:=by
 unfold parseM at h
 split at h
 ·simp at h;omega
 ·rename_i hl
  obtain ⟨yF,kF,hr⟩:=whole_reads (fun _=>none) t (by omega)
  split at h
  ·rename_i c' p' q' he
   simp at h
   have:=(hr 0 (Nat.zero_le _)).2 _ _ _ he
   omega
  ·split at h
   ·simp at h;omega
   ·cases h
theorem parse_some {t:List UInt8} (h:(parseM t).2=none):∃ x,(parseM t).1=some x:=by
 unfold parseM at h ⊢
 split at h
 ·cases h
 ·rw [if_neg ‹_›]
  split at h
  ·cases h
  ·split at h
   ·cases h
   ·rw [if_neg ‹_›];exact ⟨_,rfl⟩
set_option maxHeartbeats 8000000 in
theorem rparse_spec (G:Glob) (hF:HasFine G) (t:List UInt8) (ht:t.length < 2^60):PureC Tryz.prog G 87 [dS t] (.tup [dOR (parseM t).1,dFault (parseM t).2]):=by
 unfold parseM;unfold HasFine at hF
 by_cases hl:2000 < t.length
 ·have hl':(2000:Int) < (t.length:Int):=by omega
  have hb:=bare0_spec G 4
  rw [if_pos hl];refine PureC.of_body (tyOf_good _) Tryz.func87 rfl rfl (rs:=[.tmp 2,.cell 3 64]) Tryz.results87 (by simp [Tryz.ntmps87]) fun X=>?_;simp only [Tryz.ntmps87,List.map]
  have fw:=(Aq @dNum.eq_1 (Aq @pRow.eq_1 @dS.eq_1))
  refine rgq fw [0,3] [3] ?_;refine AW_then fun K1 hK1=>?_
  have qf:=(Aq fw (Aq @bs_size (Aq @hl @hl')))
  refine rgqv [0,3,8] [3] ?_;refine AW_tt rfl ?_;refine rgc fw hb [2,3] [3] ?_;refine AW_ret ?_;simp [D.le,D.le.go,takeMap,dNum,pRow,dS,dOR,dFault,codeF,placeF]
 have hl':¬ (2000:Int) < (t.length:Int):=by omega
 rw [if_neg hl]
 obtain ⟨yF,kF,hr⟩:=whole_reads G t (by omega)
 have hc:=(hr 0 (Nat.zero_le _)).1
 have he:=(hr 0 (Nat.zero_le _)).2
 cases ho:orR t (oneR t 20) 0 with
 | err c p q=>
  rw [ho] at hc
  obtain ⟨h1,h2,h3⟩:=he _ _ _ ho
  have h0:¬ c=0:=by omega
  generalize yF 0=y at hc h2;generalize kF 0=k at hc h3;refine PureC.of_body (tyOf_good _) Tryz.func87 rfl rfl (rs:=[.tmp 2,.cell 3 64]) Tryz.results87 (by simp [Tryz.ntmps87]) fun X=>?_;simp only [Tryz.ntmps87,List.map]
  have fw:=(Aq @dNum.eq_1 (Aq @pRow.eq_1 @dS.eq_1))
  refine rgq fw [0,3] [3] ?_;refine AW_then fun K1 hK1=>?_
  have qf:=(Aq fw (Aq @bs_size (Aq @hl @hl')))
  refine rgqv [0,3,8] [3] ?_;refine AW_ff rfl ?_;refine AW_skip (hK1 _ ?_)
  have qf:=(Aq fw @hF)
  refine rgqv [0,3,4] [3,13] ?_;refine AW.imp (Imp.ren (r:=13) (r':=500) trivial (by simp)) ?_;refine AW.st (by simp [renO,renF,Go.Av.ren,renH_two2];rfl) ?_;refine rgm (Aq fw (Aq @outD.eq_1 (Aq @outD.eq_2 (Aq @outK.eq_1 (Aq @outK.eq_2 (Aq @eR.eq_1 (Aq @eR.eq_2 (Aq @pR.eq_1 @pR.eq_2)))))))) hc [0,3,4,5] [3,500] ?_;refine AW_then fun K2 hK2=>?_
  have qf:=(Aq fw @h0)
  refine rgqv [3,4,5,43] [3,500] ?_;refine AW_ff rfl ?_;refine AW_skip (hK2 _ ?_);refine AW_then fun K3 hK3=>?_
  have qf:=(Aq fw @h0)
  refine rgqv [3,4,5,51] [3,500] ?_;refine AW_tt rfl ?_;refine AW_rdg (tyOf_good _) (by kernel_rfl) [(3,500),(5,3)] [2,3] [3,500] (fun _ _=>trivial) (by kernel_rfl) fun K' hK'=>?_;(repeat (refine sxg_next fun K2 hK2=>?_;simp [dNum,pRow,dS];(repeat (refine ⟨by omega,?_⟩));refine hK2 _ ?_;clear hK2 K2));refine sxg_nil (hK' _ ?_);refine AW.st (by simp [dNum,pRow,dS];rfl) ?_;clear hK' K';refine AW_ret ?_;simp [D.le,D.le.go,takeMap,dNum,pRow,dS,dOR,dFault,codeF,placeF]
 | ok x k=>
  rw [ho] at hc
  dsimp only [outD,outK,eR,pR] at hc
  have hk:=(or_goes (one_goes t 20) 0 x k (Nat.zero_le _) ho).2
  have hnx:=pnext_spec G t k (by omega) hk 0 (-1)
  have hk2:=skipB_top hk
  have hfl:=pfail_spec G t (skipB t k) (by omega) hk2 3
  rw [skipB_idem hk] at hfl
  have hnb:skipB t k < t.length∨nxB t k=0:=by
   by_cases h:skipB t k < t.length
   ·exact .inl h
   ·exact .inr (by unfold nxB;rw [List.getD_eq_getElem?_getD,List.getElem?_eq_none (by omega)];rfl)
  obtain ⟨cx,hx⟩:=dR_ip x
  dsimp only
  generalize skipB t k=j at hnx hk2 hfl hnb ⊢;generalize nxB t k=b at hnx hnb
  by_cases hj:j < t.length
  ·have hj':(j:Int) < (t.length:Int):=by omega
   rw [if_pos hj];rw [hx] at hc
   by_cases hb:((b.toNat:Int)=0)
   ·have hbn:b.toNat=0:=by omega
    refine PureC.of_body (tyOf_good _) Tryz.func87 rfl rfl (rs:=[.tmp 2,.cell 3 64]) Tryz.results87 (by simp [Tryz.ntmps87]) fun X=>?_;simp only [Tryz.ntmps87,List.map]
    have fw:=(Aq @dNum.eq_1 (Aq @pRow.eq_1 @dS.eq_1))
    refine rgq fw [0,3] [3] ?_;refine AW_then fun K1 hK1=>?_
    have qf:=(Aq fw (Aq @bs_size (Aq @hl @hl')))
    refine rgqv [0,3,8] [3] ?_;refine AW_ff rfl ?_;refine AW_skip (hK1 _ ?_)
    have qf:=(Aq fw @hF)
    refine rgqv [0,3,4] [3,13] ?_;refine AW.imp (Imp.ren (r:=13) (r':=500) trivial (by simp)) ?_;refine AW.st (by simp [renO,renF,Go.Av.ren,renH_two2];rfl) ?_;refine rgm fw hc [0,3,4,5] [3,500] ?_;refine AW_then fun K2 hK2=>?_
    have qf:=(Aq fw (Aq @hb (Aq @hbn (Aq @bs_size (Aq @hj @hj')))))
    refine rgmv hnx [3,4,5,43] [3,500] ?_;refine AW_tt rfl ?_;refine AW_re (tyOf_good _) fun K' hK'=>?_;(repeat (refine sxn fun K2 hK2=>?_;simp [dNum,pRow,dS];(repeat (refine ⟨by omega,?_⟩));refine hK2 _ ?_;clear hK2 K2));refine sxn fun K2 hK2=>?_;simp [dNum,pRow,dS];refine callK.mc (hfl) ?_ ?_ ?_ ?_ ?_<;>simp [dNum,pRow,dS];refine hK2 _ ?_;clear hK2 K2;(repeat (refine sxn fun K2 hK2=>?_;simp [dNum,pRow,dS];(repeat (refine ⟨by omega,?_⟩));refine hK2 _ ?_;clear hK2 K2));refine sxz (hK' _ ?_);clear hK' K';refine hK2 _ (AW.norm [3,4,5] [3,500] (fun _ _=>trivial) (AW.st (by simp [dNum,pRow,dS];rfl) ?_));refine AW_then fun K3 hK3=>?_;refine rgq fw [3,4,5,51] [3,500] ?_;refine AW_tt rfl ?_;refine AW_rdg (tyOf_good _) (by kernel_rfl) [(3,500),(5,3)] [2,3] [3,500] (fun _ _=>trivial) (by kernel_rfl) fun K' hK'=>?_;(repeat (refine sxg_next fun K2 hK2=>?_;simp [dNum,pRow,dS];(repeat (refine ⟨by omega,?_⟩));refine hK2 _ ?_;clear hK2 K2));refine sxg_nil (hK' _ ?_);refine AW.st (by simp [dNum,pRow,dS];rfl) ?_;clear hK' K';refine AW_ret ?_;simp [D.le,D.le.go,takeMap,dNum,pRow,dS,dOR,dFault,codeF,placeF]
   ·have hbn:¬ b.toNat=0:=by omega
    refine PureC.of_body (tyOf_good _) Tryz.func87 rfl rfl (rs:=[.tmp 2,.cell 3 64]) Tryz.results87 (by simp [Tryz.ntmps87]) fun X=>?_;simp only [Tryz.ntmps87,List.map]
    have fw:=(Aq @dNum.eq_1 (Aq @pRow.eq_1 @dS.eq_1))
    refine rgq fw [0,3] [3] ?_;refine AW_then fun K1 hK1=>?_
    have qf:=(Aq fw (Aq @bs_size (Aq @hl @hl')))
    refine rgqv [0,3,8] [3] ?_;refine AW_ff rfl ?_;refine AW_skip (hK1 _ ?_)
    have qf:=(Aq fw @hF)
    refine rgqv [0,3,4] [3,13] ?_;refine AW.imp (Imp.ren (r:=13) (r':=500) trivial (by simp)) ?_;refine AW.st (by simp [renO,renF,Go.Av.ren,renH_two2];rfl) ?_;refine rgm fw hc [0,3,4,5] [3,500] ?_;refine AW_then fun K2 hK2=>?_
    have qf:=(Aq fw (Aq @hb (Aq @hbn (Aq @bs_size (Aq @hj @hj')))))
    refine rgmv hnx [3,4,5,43] [3,500] ?_;refine AW_tt rfl ?_;refine AW_re (tyOf_good _) fun K' hK'=>?_;(repeat (refine sxn fun K2 hK2=>?_;simp [dNum,pRow,dS];(repeat (refine ⟨by omega,?_⟩));refine hK2 _ ?_;clear hK2 K2));refine sxn fun K2 hK2=>?_;simp [dNum,pRow,dS];refine callK.mc (hfl) ?_ ?_ ?_ ?_ ?_<;>simp [dNum,pRow,dS];refine hK2 _ ?_;clear hK2 K2;(repeat (refine sxn fun K2 hK2=>?_;simp [dNum,pRow,dS];(repeat (refine ⟨by omega,?_⟩));refine hK2 _ ?_;clear hK2 K2));refine sxz (hK' _ ?_);clear hK' K';refine hK2 _ (AW.norm [3,4,5] [3,500] (fun _ _=>trivial) (AW.st (by simp [dNum,pRow,dS];rfl) ?_));refine AW_then fun K3 hK3=>?_;refine rgq fw [3,4,5,51] [3,500] ?_;refine AW_tt rfl ?_;refine AW_rdg (tyOf_good _) (by kernel_rfl) [(3,500),(5,3)] [2,3] [3,500] (fun _ _=>trivial) (by kernel_rfl) fun K' hK'=>?_;(repeat (refine sxg_next fun K2 hK2=>?_;simp [dNum,pRow,dS];(repeat (refine ⟨by omega,?_⟩));refine hK2 _ ?_;clear hK2 K2));refine sxg_nil (hK' _ ?_);refine AW.st (by simp [dNum,pRow,dS];rfl) ?_;clear hK' K';refine AW_ret ?_;simp [D.le,D.le.go,takeMap,dNum,pRow,dS,dOR,dFault,codeF,placeF]
  ·have hj':¬ (j:Int) < (t.length:Int):=by omega
   have hb:((b.toNat:Int)=0):=by
    rcases hnb with h | h
    ·exact absurd h hj
    ·rw [h];rfl
   have hbn:b.toNat=0:=by omega
   rw [if_neg hj];simp only [dOR];rw [hx] at hc ⊢;refine PureC.of_body (tyOf_good _) Tryz.func87 rfl rfl (rs:=[.tmp 2,.cell 3 64]) Tryz.results87 (by simp [Tryz.ntmps87]) fun X=>?_;simp only [Tryz.ntmps87,List.map]
   have fw:=(Aq @dNum.eq_1 (Aq @pRow.eq_1 @dS.eq_1))
   refine rgq fw [0,3] [3] ?_;refine AW_then fun K1 hK1=>?_
   have qf:=(Aq fw (Aq @bs_size (Aq @hl @hl')))
   refine rgqv [0,3,8] [3] ?_;refine AW_ff rfl ?_;refine AW_skip (hK1 _ ?_)
   have qf:=(Aq fw @hF)
   refine rgqv [0,3,4] [3,13] ?_;refine AW.imp (Imp.ren (r:=13) (r':=500) trivial (by simp)) ?_;refine AW.st (by simp [renO,renF,Go.Av.ren,renH_two2];rfl) ?_;refine rgm fw hc [0,3,4,5] [3,500] ?_;refine AW_then fun K2 hK2=>?_
   have qf:=(Aq fw (Aq @hb (Aq @hbn (Aq @bs_size (Aq @hj @hj')))))
   refine rgmv hnx [3,4,5,43] [3,500] ?_;refine AW_ff rfl ?_;refine AW_skip (hK2 _ ?_);refine AW_then fun K3 hK3=>?_;refine rgq fw [3,4,5,51] [3,500] ?_;refine AW_ff rfl ?_;refine AW_skip (hK3 _ ?_);refine AW_rdg (tyOf_good _) (by kernel_rfl) [(3,3)] [2,3] [3,500] (fun _ _=>trivial) (by kernel_rfl) fun K' hK'=>?_;(repeat (refine sxg_next fun K2 hK2=>?_;simp [dNum,pRow,dS,hF];(repeat (refine ⟨by omega,?_⟩));refine hK2 _ ?_;clear hK2 K2));refine sxg_nil (hK' _ ?_);refine AW.st (by simp [dNum,pRow,dS,hF];rfl) ?_;clear hK' K';refine AW_ret ?_;simp [D.le,D.le.go,takeMap,dNum,pRow,dS,dFault,codeF,placeF,D.le_refl,D.leGo_refl]
end Go.Proofs.YthnjfeielmbfkaaGreatDoor
namespace Go.Proofs.YthnjfeielmbfkaaGreatDoor
open Go.Av
theorem idx_some {α:Type} (p:α→Bool) (l:List α):decide (0≤idx p l)=l.any p:=by
 unfold idx
 cases h:l.findIdx? p with
 | none=>
  rw [List.findIdx?_eq_none_iff] at h
  have:l.any p=false:=by rw [List.any_eq_false];intro x hx;simp [h x hx]
  rw [this];simp
 | some i=>
  rw [List.findIdx?_eq_some_iff_getElem] at h
  obtain ⟨hi,hp,_⟩:=h
  have:l.any p=true:=List.any_eq_true.2 ⟨_,List.getElem_mem hi,hp⟩
  rw [this];simp
theorem evA_any (is was:List UInt8→Bool):∀ l:List Ex,evA is was l = !(l.any fun e=>!evE is was e)
 | []=>rfl
 | e :: l=>by rw [evA,evA_any is was l];simp
theorem evO_any (is was:List UInt8→Bool):∀ l:List Ex,evO is was l=l.any fun e=>evE is was e
 | []=>rfl
 | e :: l=>by rw [evO,evO_any is was l];simp
set_option maxHeartbeats 1000000 in
theorem indexAnd_spec (G:Glob) (k:Option Bool) (xs:List Ex) (g:FuncId) (caps:List D) (p:Ex→Bool) (hl:xs.length < 2^63) (ha:∀ x∈xs,PureC Tryz.prog G g (dE x :: caps) (.v (.bool (p x)))) :
  PureC Tryz.prog G 217 [.sl k (xs.map fun x=>[dE x]),.fn (.func g) caps] (.v (.int .i64 (idx p xs))):=by
 refine PureC.of_body (tyOf_good _) Tryz.func217 rfl rfl (rs:=[.tmp 4]) Tryz.results217 (by simp [Tryz.ntmps217]) fun X=>?_;simp only [Tryz.ntmps217,List.map];refine rg0 [0,1] [] ?_;refine AW_then fun K1 hK1=>?_;refine rg0 [0,1,7,8] [] ?_;refine AW_for (S:=Nat) (fun n=>n≤xs.length∧∀ i (hi:i < xs.length),i < n→p xs[i]=false) (fun n=>⟨lst [(0,.d (.sl k (xs.map fun x=>[dE x]))),(1,.d (.fn (.func g) caps)),(7,int xs.length),(8,int n)],hlst []⟩) (fun n=>xs.length - n) 0 ?_ (by simp) ?_
 ·refine Imp.to' (fun _ _=>trivial) (by simp) (by simp)
 ·rintro n ⟨hn,hp⟩
  refine rg0 [0,1,7,8,9] [] ?_;refine AW_then fun K2 hK2=>?_;refine AW_cond' (b:=n < xs.length) (by simp [D.le,D.le.go,takeMap]) (fun hc=>?_) (fun hc=>?_)
  ·have hax:=ha xs[n] (by simp)
   refine AW_skip (hK2 _ ?_);refine AW_then fun K3 hK3=>?_;refine AW_block ?_;refine rg0 [0,1,5,7,8] [] ?_
   have qf:=@hc
   refine rgcv hax [0,1,5,7,8,16] [] ?_;refine AW_cond _ rfl (fun hp2=>?_) (fun hp2=>?_)
   ·refine rg0 [4] [] ?_;refine AW_ret ?_;simp [D.le,D.le.go,takeMap];exact (idx_hit hc hp2 fun i hi=>hp i (by omega) hi).symm
   ·refine AW_skip (hK3 _ ?_);refine AW_re (tyOf_good _) fun K' hK'=>?_;(repeat (refine sxn fun K2 hK2=>?_;simp;(repeat (refine ⟨by omega,?_⟩));refine hK2 _ ?_;clear hK2 K2));refine sxz (hK' _ ?_);clear hK' K';(try simp only [thn,inb]);refine Again.mk (n+1) ⟨by omega,fun i hi hin=>?_⟩ (by omega) ?_
    ·by_cases h:i=n
     ·subst h;exact hp2
     ·exact hp i hi (by omega)
    refine Imp.to' (fun _ _=>trivial) (by simp) (by simp)
  ·refine AW_exit (hK1 _ ?_);refine rg0 [4] [] ?_;refine AW_ret ?_;simp [D.le,D.le.go,takeMap];exact (idx_miss fun i hi=>hp i hi (by omega)).symm
theorem containsAnd_spec (G:Glob) (k:Option Bool) (xs:List Ex) (g:FuncId) (caps:List D) (p:Ex→Bool) (hl:xs.length < 2^63) (ha:∀ x∈xs,PureC Tryz.prog G g (dE x :: caps) (.v (.bool (p x)))) :
  PureC Tryz.prog G 165 [.sl k (xs.map fun x=>[dE x]),.fn (.func g) caps] (.v (.bool (xs.any p))):=by
 have hi:=indexAnd_spec G k xs g caps p hl ha
 have hd:=idx_some p xs
 generalize idx p xs=r at hi hd;rw [← hd];refine PureC.of_body (tyOf_good _) Tryz.func165 rfl rfl (rs:=[.tmp 4]) Tryz.results165 (by simp [Tryz.ntmps165]) fun X=>?_;simp only [Tryz.ntmps165,List.map];refine rg0 [0,1] [] ?_;refine rgc trivial hi [4] [] ?_;refine AW_ret ?_;simp [D.le,D.le.go,takeMap]
set_option maxHeartbeats 1000000 in
theorem indexOr_spec (G:Glob) (k:Option Bool) (xs:List Ex) (g:FuncId) (caps:List D) (p:Ex→Bool) (hl:xs.length < 2^63) (ha:∀ x∈xs,PureC Tryz.prog G g (dE x :: caps) (.v (.bool (p x)))) :
  PureC Tryz.prog G 218 [.sl k (xs.map fun x=>[dE x]),.fn (.func g) caps] (.v (.int .i64 (idx p xs))):=by
 refine PureC.of_body (tyOf_good _) Tryz.func218 rfl rfl (rs:=[.tmp 4]) Tryz.results218 (by simp [Tryz.ntmps218]) fun X=>?_;simp only [Tryz.ntmps218,List.map];refine rg0 [0,1] [] ?_;refine AW_then fun K1 hK1=>?_;refine rg0 [0,1,7,8] [] ?_;refine AW_for (S:=Nat) (fun n=>n≤xs.length∧∀ i (hi:i < xs.length),i < n→p xs[i]=false) (fun n=>⟨lst [(0,.d (.sl k (xs.map fun x=>[dE x]))),(1,.d (.fn (.func g) caps)),(7,int xs.length),(8,int n)],hlst []⟩) (fun n=>xs.length - n) 0 ?_ (by simp) ?_
 ·refine Imp.to' (fun _ _=>trivial) (by simp) (by simp)
 ·rintro n ⟨hn,hp⟩
  refine rg0 [0,1,7,8,9] [] ?_;refine AW_then fun K2 hK2=>?_;refine AW_cond' (b:=n < xs.length) (by simp [D.le,D.le.go,takeMap]) (fun hc=>?_) (fun hc=>?_)
  ·have hax:=ha xs[n] (by simp)
   refine AW_skip (hK2 _ ?_);refine AW_then fun K3 hK3=>?_;refine AW_block ?_;refine rg0 [0,1,5,7,8] [] ?_
   have qf:=@hc
   refine rgcv hax [0,1,5,7,8,16] [] ?_;refine AW_cond _ rfl (fun hp2=>?_) (fun hp2=>?_)
   ·refine rg0 [4] [] ?_;refine AW_ret ?_;simp [D.le,D.le.go,takeMap];exact (idx_hit hc hp2 fun i hi=>hp i (by omega) hi).symm
   ·refine AW_skip (hK3 _ ?_);refine AW_re (tyOf_good _) fun K' hK'=>?_;(repeat (refine sxn fun K2 hK2=>?_;simp;(repeat (refine ⟨by omega,?_⟩));refine hK2 _ ?_;clear hK2 K2));refine sxz (hK' _ ?_);clear hK' K';(try simp only [thn,inb]);refine Again.mk (n+1) ⟨by omega,fun i hi hin=>?_⟩ (by omega) ?_
    ·by_cases h:i=n
     ·subst h;exact hp2
     ·exact hp i hi (by omega)
    refine Imp.to' (fun _ _=>trivial) (by simp) (by simp)
  ·refine AW_exit (hK1 _ ?_);refine rg0 [4] [] ?_;refine AW_ret ?_;simp [D.le,D.le.go,takeMap];exact (idx_miss fun i hi=>hp i hi (by omega)).symm
theorem containsOr_spec (G:Glob) (k:Option Bool) (xs:List Ex) (g:FuncId) (caps:List D) (p:Ex→Bool) (hl:xs.length < 2^63) (ha:∀ x∈xs,PureC Tryz.prog G g (dE x :: caps) (.v (.bool (p x)))) :
  PureC Tryz.prog G 167 [.sl k (xs.map fun x=>[dE x]),.fn (.func g) caps] (.v (.bool (xs.any p))):=by
 have hi:=indexOr_spec G k xs g caps p hl ha
 have hd:=idx_some p xs
 generalize idx p xs=r at hi hd;rw [← hd];refine PureC.of_body (tyOf_good _) Tryz.func167 rfl rfl (rs:=[.tmp 4]) Tryz.results167 (by simp [Tryz.ntmps167]) fun X=>?_;simp only [Tryz.ntmps167,List.map];refine rg0 [0,1] [] ?_;refine rgc trivial hi [4] [] ?_;refine AW_ret ?_;simp [D.le,D.le.go,takeMap]
mutual
def AskE (S1 S2:List UInt8→Prop):Ex→Prop
 | .cst _=>True
 | .bit s=>S1 s
 | .rise s=>S1 s∧S2 s
 | .fall s=>S1 s∧S2 s
 | .not e=>AskE S1 S2 e
 | .and l=>AskL S1 S2 l
 | .or l=>AskL S1 S2 l
def AskL (S1 S2:List UInt8→Prop):List Ex→Prop
 | []=>True
 | e :: l=>AskE S1 S2 e∧AskL S1 S2 l
end
theorem AskL_iff {S1 S2:List UInt8→Prop}:∀ {l:List Ex},AskL S1 S2 l↔∀ x∈l,AskE S1 S2 x
 | []=>by simp [AskL]
 | e :: l=>by rw [AskL,AskL_iff];simp
def TellsOn (S:List UInt8→Prop) (G:Glob) (g:FuncId) (caps:List D) (p:List UInt8→Bool):Prop:=∀ s,S s→PureC Tryz.prog G g (dS s :: caps) (.v (.bool (p s)))
set_option maxHeartbeats 32000000 in
theorem eval_at (G:Glob) (g1 g2:FuncId) (c1 c2:List D) (is was:List UInt8→Bool) (S1 S2:List UInt8→Prop) (h1:TellsOn S1 G g1 c1 is) (h2:TellsOn S2 G g2 c2 was):∀ (n:Nat) (e:Ex),SizeOf.sizeOf e≤n→AskE S1 S2 e→bE e≤2^28→PureC Tryz.prog G 114 [dE e,.fn (.func g1) c1,.fn (.func g2) c2] (.v (.bool (evE is was e))):=by
 intro n
 induction n with
 | zero=>intro e hsz;cases e<;>simp at hsz
 | succ n ih=>
  intro e hsz hask hb
  have fw:=(Aq @dNum.eq_1 (Aq @dS.eq_1 (Aq @pairA.eq_1 (Aq @pairA.eq_2 @assertA.eq_1))))
  cases e with
  | cst b=>
   rw [dE];refine PureC.of_body (tyOf_good _) Tryz.func114 rfl rfl (rs:=[.tmp 6]) Tryz.results114 (by simp [Tryz.ntmps114]) fun X=>?_;simp only [Tryz.ntmps114,List.map];refine rgq fw [0,4,5] [4,5] ?_;refine AW.imp (Imp.freezeB 4 trivial) ?_;refine AW.st (by simp [dNum,dS,pairA,assertA];rfl) ?_;refine AW.imp (Imp.freezeB 5 trivial) ?_;refine AW.st (by simp [dNum,dS,pairA,assertA];rfl) ?_;refine AW_then fun K1 hK1=>?_;refine rgq fw [4,5,14] [] ?_;refine AW_block ?_;refine rgq fw [4,5,14,16,17] [] ?_;refine AW_tt rfl ?_;refine rgq fw [7] [] ?_;refine rgq fw [6] [] ?_;refine AW_ret ?_;simp [D.le,D.le.go,takeMap,dNum,dS,pairA,assertA,evE]
  | bit s=>
   rw [AskE] at hask
   have hi:=h1 s hask
   rw [dE,evE];refine PureC.of_body (tyOf_good _) Tryz.func114 rfl rfl (rs:=[.tmp 6]) Tryz.results114 (by simp [Tryz.ntmps114]) fun X=>?_;simp only [Tryz.ntmps114,List.map];refine rgq fw [0,4,5] [4,5] ?_;refine AW.imp (Imp.freezeB 4 trivial) ?_;refine AW.st (by simp [dNum,dS,pairA,assertA];rfl) ?_;refine AW.imp (Imp.freezeB 5 trivial) ?_;refine AW.st (by simp [dNum,dS,pairA,assertA];rfl) ?_;refine AW_then fun K1 hK1=>?_;refine rgq fw [4,5,14] [] ?_;refine AW_block ?_;refine rgq fw [4,5,14,16,17] [] ?_;refine AW_ff rfl ?_;refine rgq fw [4,5,14,20,21] [] ?_;refine AW_tt rfl ?_;refine rgq fw [4,8] [] ?_;refine rgc fw hi [6] [] ?_;refine AW_ret ?_;simp [D.le,D.le.go,takeMap,dNum,dS,pairA,assertA]
  | rise s=>
   rw [AskE] at hask
   have hi:=h1 s hask.1
   have hw:=h2 s hask.2
   rw [dE,evE]
   cases hs:is s with
   | false=>
    rw [hs] at hi;refine PureC.of_body (tyOf_good _) Tryz.func114 rfl rfl (rs:=[.tmp 6]) Tryz.results114 (by simp [Tryz.ntmps114]) fun X=>?_;simp only [Tryz.ntmps114,List.map];refine rgq fw [0,4,5] [4,5] ?_;refine AW.imp (Imp.freezeB 4 trivial) ?_;refine AW.st (by simp [dNum,dS,pairA,assertA];rfl) ?_;refine AW.imp (Imp.freezeB 5 trivial) ?_;refine AW.st (by simp [dNum,dS,pairA,assertA];rfl) ?_;refine AW_then fun K1 hK1=>?_;refine rgq fw [4,5,14] [] ?_;refine AW_block ?_;refine rgq fw [4,5,14,16,17] [] ?_;refine AW_ff rfl ?_;refine rgq fw [4,5,14,20,21] [] ?_;refine AW_ff rfl ?_;refine rgq fw [4,5,14,26,27] [] ?_;refine AW_tt rfl ?_;refine rgq fw [4,5,9] [] ?_;refine rgc fw hi [6] [] ?_;refine AW_ret ?_;simp [D.le,D.le.go,takeMap,dNum,dS,pairA,assertA]
   | true=>
    rw [hs] at hi;refine PureC.of_body (tyOf_good _) Tryz.func114 rfl rfl (rs:=[.tmp 6]) Tryz.results114 (by simp [Tryz.ntmps114]) fun X=>?_;simp only [Tryz.ntmps114,List.map];refine rgq fw [0,4,5] [4,5] ?_;refine AW.imp (Imp.freezeB 4 trivial) ?_;refine AW.st (by simp [dNum,dS,pairA,assertA];rfl) ?_;refine AW.imp (Imp.freezeB 5 trivial) ?_;refine AW.st (by simp [dNum,dS,pairA,assertA];rfl) ?_;refine AW_then fun K1 hK1=>?_;refine rgq fw [4,5,14] [] ?_;refine AW_block ?_;refine rgq fw [4,5,14,16,17] [] ?_;refine AW_ff rfl ?_;refine rgq fw [4,5,14,20,21] [] ?_;refine AW_ff rfl ?_;refine rgq fw [4,5,14,26,27] [] ?_;refine AW_tt rfl ?_;refine rgq fw [4,5,9] [] ?_;refine rg [6] [] (fun _ _=>trivial) fun K' hK'=>?_;(repeat (refine sxn fun K2 hK2=>?_;simp [dNum,dS,pairA,assertA];(repeat (refine ⟨by omega,?_⟩));refine hK2 _ ?_;clear hK2 K2));refine sxn fun K2 hK2=>?_;simp [dNum,dS,pairA,assertA];refine callK.data (hi) (by simp;rfl) (by first | exact D.leGo_refl _ | simp [takeMap,List.map_map,Function.comp_def,D.le,D.le.go,D.le_refl,D.leGo_refl,dNum,dS,pairA,assertA]) ?_;refine hK2 _ ?_;clear hK2 K2;simp only [putd,upd_lst];(repeat (refine sxn fun K2 hK2=>?_;simp [dNum,dS,pairA,assertA];(repeat (refine ⟨by omega,?_⟩));refine hK2 _ ?_;clear hK2 K2));refine sxn fun K2 hK2=>?_;simp [dNum,dS,pairA,assertA];refine callK.data (hw) (by simp;rfl) (by first | exact D.leGo_refl _ | simp [takeMap,List.map_map,Function.comp_def,D.le,D.le.go,D.le_refl,D.leGo_refl,dNum,dS,pairA,assertA]) ?_;refine hK2 _ ?_;clear hK2 K2;simp only [putd,upd_lst];(repeat (refine sxn fun K2 hK2=>?_;simp [dNum,dS,pairA,assertA];(repeat (refine ⟨by omega,?_⟩));refine hK2 _ ?_;clear hK2 K2));refine sxz (hK' _ (AW.st (by simp [dNum,dS,pairA,assertA];rfl) ?_));clear hK' K';refine AW_ret ?_;simp [D.le,D.le.go,takeMap,dNum,dS,pairA,assertA]
  | fall s=>
   rw [AskE] at hask
   have hi:=h1 s hask.1
   have hw:=h2 s hask.2
   rw [dE,evE]
   cases hs:is s with
   | true=>
    rw [hs] at hi;refine PureC.of_body (tyOf_good _) Tryz.func114 rfl rfl (rs:=[.tmp 6]) Tryz.results114 (by simp [Tryz.ntmps114]) fun X=>?_;simp only [Tryz.ntmps114,List.map];refine rgq fw [0,4,5] [4,5] ?_;refine AW.imp (Imp.freezeB 4 trivial) ?_;refine AW.st (by simp [dNum,dS,pairA,assertA];rfl) ?_;refine AW.imp (Imp.freezeB 5 trivial) ?_;refine AW.st (by simp [dNum,dS,pairA,assertA];rfl) ?_;refine AW_then fun K1 hK1=>?_;refine rgq fw [4,5,14] [] ?_;refine AW_block ?_;refine rgq fw [4,5,14,16,17] [] ?_;refine AW_ff rfl ?_;refine rgq fw [4,5,14,20,21] [] ?_;refine AW_ff rfl ?_;refine rgq fw [4,5,14,26,27] [] ?_;refine AW_ff rfl ?_;refine rgq fw [4,5,14,38,39] [] ?_;refine AW_tt rfl ?_;refine rgq fw [4,5,10] [] ?_;refine rgc fw hi [6] [] ?_;refine AW_ret ?_;simp [D.le,D.le.go,takeMap,dNum,dS,pairA,assertA]
   | false=>
    rw [hs] at hi;refine PureC.of_body (tyOf_good _) Tryz.func114 rfl rfl (rs:=[.tmp 6]) Tryz.results114 (by simp [Tryz.ntmps114]) fun X=>?_;simp only [Tryz.ntmps114,List.map];refine rgq fw [0,4,5] [4,5] ?_;refine AW.imp (Imp.freezeB 4 trivial) ?_;refine AW.st (by simp [dNum,dS,pairA,assertA];rfl) ?_;refine AW.imp (Imp.freezeB 5 trivial) ?_;refine AW.st (by simp [dNum,dS,pairA,assertA];rfl) ?_;refine AW_then fun K1 hK1=>?_;refine rgq fw [4,5,14] [] ?_;refine AW_block ?_;refine rgq fw [4,5,14,16,17] [] ?_;refine AW_ff rfl ?_;refine rgq fw [4,5,14,20,21] [] ?_;refine AW_ff rfl ?_;refine rgq fw [4,5,14,26,27] [] ?_;refine AW_ff rfl ?_;refine rgq fw [4,5,14,38,39] [] ?_;refine AW_tt rfl ?_;refine rgq fw [4,5,10] [] ?_;refine rg [6] [] (fun _ _=>trivial) fun K' hK'=>?_;(repeat (refine sxn fun K2 hK2=>?_;simp [dNum,dS,pairA,assertA];(repeat (refine ⟨by omega,?_⟩));refine hK2 _ ?_;clear hK2 K2));refine sxn fun K2 hK2=>?_;simp [dNum,dS,pairA,assertA];refine callK.data (hi) (by simp;rfl) (by first | exact D.leGo_refl _ | simp [takeMap,List.map_map,Function.comp_def,D.le,D.le.go,D.le_refl,D.leGo_refl,dNum,dS,pairA,assertA]) ?_;refine hK2 _ ?_;clear hK2 K2;simp only [putd,upd_lst];(repeat (refine sxn fun K2 hK2=>?_;simp [dNum,dS,pairA,assertA];(repeat (refine ⟨by omega,?_⟩));refine hK2 _ ?_;clear hK2 K2));refine sxn fun K2 hK2=>?_;simp [dNum,dS,pairA,assertA];refine callK.data (hw) (by simp;rfl) (by first | exact D.leGo_refl _ | simp [takeMap,List.map_map,Function.comp_def,D.le,D.le.go,D.le_refl,D.leGo_refl,dNum,dS,pairA,assertA]) ?_;refine hK2 _ ?_;clear hK2 K2;simp only [putd,upd_lst];(repeat (refine sxn fun K2 hK2=>?_;simp [dNum,dS,pairA,assertA];(repeat (refine ⟨by omega,?_⟩));refine hK2 _ ?_;clear hK2 K2));refine sxz (hK' _ (AW.st (by simp [dNum,dS,pairA,assertA];rfl) ?_));clear hK' K';refine AW_ret ?_;simp [D.le,D.le.go,takeMap,dNum,dS,pairA,assertA]
  | not x=>
   have hc:=ih x (by simp at hsz;omega) (by rwa [AskE] at hask) (by simp only [bE] at hb;omega)
   obtain ⟨tx,cx,hx⟩:=dE_ifc x
   rw [dE,evE,hx];rw [hx] at hc;generalize evE is was x=r at hc ⊢;refine PureC.of_body (tyOf_good _) Tryz.func114 rfl rfl (rs:=[.tmp 6]) Tryz.results114 (by simp [Tryz.ntmps114]) fun X=>?_;simp only [Tryz.ntmps114,List.map];refine rgq fw [0,4,5] [4,5] ?_;refine AW.imp (Imp.freezeB 4 trivial) ?_;refine AW.st (by simp [dNum,dS,pairA,assertA];rfl) ?_;refine AW.imp (Imp.freezeB 5 trivial) ?_;refine AW.st (by simp [dNum,dS,pairA,assertA];rfl) ?_;refine AW_then fun K1 hK1=>?_;refine rgq fw [4,5,14] [] ?_;refine AW_block ?_;refine rgq fw [4,5,14,16,17] [] ?_;refine AW_ff rfl ?_;refine rgq fw [4,5,14,20,21] [] ?_;refine AW_ff rfl ?_;refine rgq fw [4,5,14,26,27] [] ?_;refine AW_ff rfl ?_;refine rgq fw [4,5,14,38,39] [] ?_;refine AW_ff rfl ?_;refine rgq fw [4,5,14,50,51] [] ?_;refine AW_tt rfl ?_;refine rgq fw [4,5,11] [11] ?_;refine rgc fw hc [6] [11] ?_;refine AW_ret ?_;simp [D.le,D.le.go,takeMap,dNum,dS,pairA,assertA]
  | and l=>
   have hch:∀ x∈l,PureC Tryz.prog G 166 [dE x,.ip [.fn (.func g1) c1],.ip [.fn (.func g2) c2]] (.v (.bool (!evE is was x))):=fun x hx=>by
    have hc:=ih x (by have:=List.sizeOf_lt_of_mem hx;simp only [Ex.and.sizeOf_spec] at hsz;omega) (by rw [AskE,AskL_iff] at hask;exact hask x hx) (by have:=bEs_mem hx;simp only [bE] at hb;omega)
    obtain ⟨tx,cx,hxx⟩:=dE_ifc x
    rw [hxx] at hc ⊢;generalize evE is was x=r at hc ⊢;refine PureC.of_body (tyOf_good _) Tryz.func166 rfl rfl (rs:=[.tmp 4]) Tryz.results166 (by simp [Tryz.ntmps166]) fun X=>?_;simp only [Tryz.ntmps166,List.map];refine rgq fw [0,1,2] [] ?_;refine rgc fw hc [4] [] ?_;refine AW_ret ?_;simp [D.le,D.le.go,takeMap,dNum,dS,pairA,assertA]
   have hln:=bEs_len l
   have hcf:=containsAnd_spec G none l 166 [.ip [.fn (.func g1) c1],.ip [.fn (.func g2) c2]] (fun x=>!evE is was x) (by simp only [bE] at hb;omega) hch
   rw [dE,dEs_map,evE,evA_any];generalize l.any (fun x=>!evE is was x)=r at hcf ⊢;refine PureC.of_body (tyOf_good _) Tryz.func114 rfl rfl (rs:=[.tmp 6]) Tryz.results114 (by simp [Tryz.ntmps114]) fun X=>?_;simp only [Tryz.ntmps114,List.map];refine rgq fw [0,4,5] [4,5] ?_;refine AW.imp (Imp.freezeB 4 trivial) ?_;refine AW.st (by simp [dNum,dS,pairA,assertA];rfl) ?_;refine AW.imp (Imp.freezeB 5 trivial) ?_;refine AW.st (by simp [dNum,dS,pairA,assertA];rfl) ?_;refine AW_then fun K1 hK1=>?_;refine rgq fw [4,5,14] [] ?_;refine AW_block ?_;refine rgq fw [4,5,14,16,17] [] ?_;refine AW_ff rfl ?_;refine rgq fw [4,5,14,20,21] [] ?_;refine AW_ff rfl ?_;refine rgq fw [4,5,14,26,27] [] ?_;refine AW_ff rfl ?_;refine rgq fw [4,5,14,38,39] [] ?_;refine AW_ff rfl ?_;refine rgq fw [4,5,14,50,51] [] ?_;refine AW_ff rfl ?_;refine rgq fw [4,5,14,59,60] [] ?_;refine AW_tt rfl ?_;refine rgq fw [4,5,12] [] ?_;refine rgc fw hcf [6] [] ?_;refine AW_ret ?_;simp [D.le,D.le.go,takeMap,dNum,dS,pairA,assertA]
  | or l=>
   have hch:∀ x∈l,PureC Tryz.prog G 168 [dE x,.ip [.fn (.func g1) c1],.ip [.fn (.func g2) c2]] (.v (.bool (evE is was x))):=fun x hx=>by
    have hc:=ih x (by have:=List.sizeOf_lt_of_mem hx;simp only [Ex.or.sizeOf_spec] at hsz;omega) (by rw [AskE,AskL_iff] at hask;exact hask x hx) (by have:=bEs_mem hx;simp only [bE] at hb;omega)
    obtain ⟨tx,cx,hxx⟩:=dE_ifc x
    rw [hxx] at hc ⊢;generalize evE is was x=r at hc ⊢;refine PureC.of_body (tyOf_good _) Tryz.func168 rfl rfl (rs:=[.tmp 4]) Tryz.results168 (by simp [Tryz.ntmps168]) fun X=>?_;simp only [Tryz.ntmps168,List.map];refine rgq fw [0,1,2] [] ?_;refine rgc fw hc [4] [] ?_;refine AW_ret ?_;simp [D.le,D.le.go,takeMap,dNum,dS,pairA,assertA]
   have hln:=bEs_len l
   have hcf:=containsOr_spec G none l 168 [.ip [.fn (.func g1) c1],.ip [.fn (.func g2) c2]] (fun x=>evE is was x) (by simp only [bE] at hb;omega) hch
   rw [dE,dEs_map,evE,evO_any];generalize l.any (fun x=>evE is was x)=r at hcf ⊢;refine PureC.of_body (tyOf_good _) Tryz.func114 rfl rfl (rs:=[.tmp 6]) Tryz.results114 (by simp [Tryz.ntmps114]) fun X=>?_;simp only [Tryz.ntmps114,List.map];refine rgq fw [0,4,5] [4,5] ?_;refine AW.imp (Imp.freezeB 4 trivial) ?_;refine AW.st (by simp [dNum,dS,pairA,assertA];rfl) ?_;refine AW.imp (Imp.freezeB 5 trivial) ?_;refine AW.st (by simp [dNum,dS,pairA,assertA];rfl) ?_;refine AW_then fun K1 hK1=>?_;refine rgq fw [4,5,14] [] ?_;refine AW_block ?_;refine rgq fw [4,5,14,16,17] [] ?_;refine AW_ff rfl ?_;refine rgq fw [4,5,14,20,21] [] ?_;refine AW_ff rfl ?_;refine rgq fw [4,5,14,26,27] [] ?_;refine AW_ff rfl ?_;refine rgq fw [4,5,14,38,39] [] ?_;refine AW_ff rfl ?_;refine rgq fw [4,5,14,50,51] [] ?_;refine AW_ff rfl ?_;refine rgq fw [4,5,14,59,60] [] ?_;refine AW_ff rfl ?_;refine rgq fw [4,5,66,67] [] ?_;refine AW_tt rfl ?_;refine rgq fw [4,5,13] [] ?_;refine rgc fw hcf [6] [] ?_;refine AW_ret ?_;simp [D.le,D.le.go,takeMap,dNum,dS,pairA,assertA]
theorem eval_on (G:Glob) (g1 g2:FuncId) (c1 c2:List D) (is was:List UInt8→Bool) (S1 S2:List UInt8→Prop) (h1:TellsOn S1 G g1 c1 is) (h2:TellsOn S2 G g2 c2 was) (e:Ex) (ha:AskE S1 S2 e) (hb:bE e≤2^28):PureC Tryz.prog G 114 [dE e,.fn (.func g1) c1,.fn (.func g2) c2] (.v (.bool (evE is was e))):=
 eval_at G g1 g2 c1 c2 is was S1 S2 h1 h2 _ e (Nat.le_refl _) ha hb
end Go.Proofs.YthnjfeielmbfkaaGreatDoor
namespace Go.Proofs.YthnjfeielmbfkaaGreatDoor
open Go.Av
theorem la:(⟨#[97]⟩:ByteArray)=bs [97]:=rfl
theorem lb:(⟨#[98]⟩:ByteArray)=bs [98]:=rfl
end Go.Proofs.YthnjfeielmbfkaaGreatDoor
namespace Go.Proofs.YthnjfeielmbfkaaGreatDoor
open Go.Av
structure NmP where
 name:Tx
 kind:Int
 count:Int
structure RgP where
 kind:Int
 name:Tx
 cond:Option Ex
structure PgP where
 names:List NmP
 rungs:List RgP
def numP (p:PgP) (s:Tx):Int:=idx (fun n:NmP=>n.name == s) p.names
theorem numP_le (p:PgP) {i:Nat} (hi:i < p.names.length):0≤numP p p.names[i].name∧numP p p.names[i].name≤i:=by
 have hne:¬ numP p p.names[i].name < 0:=fun h=>by
  have:=idx_neg h _ (List.getElem_mem hi)
  simp at this
 obtain ⟨k,hk,he,_⟩:=idx_pos hne
 refine ⟨by omega,?_⟩
 apply Classical.byContradiction
 intro hlt
 have hik:i < k:=by unfold numP at hlt;omega
 unfold idx at he
 cases hf:p.names.findIdx? (fun n:NmP=>n.name == p.names[i].name) with
 | none=>rw [hf] at he;simp at he
 | some k'=>
  rw [hf] at he;simp only [Int.ofNat.injEq,Int.natCast_inj] at he
  have hkk:k'=k:=by simpa using he
  subst hkk
  have:=(List.findIdx?_eq_some_iff_getElem.1 hf).2.2 i hik
  simp at this
def firstBad {α:Type} (f:Nat→α→Int):List α→Nat→Option (Int×Nat)
 | [],_=>none
 | x :: l,i=>if f i x=0 then firstBad f l (i+1) else some (f i x,i)
theorem firstBad_lt {α:Type} {f:Nat→α→Int}:∀ {l:List α} {i:Nat} {e:Int} {k:Nat},firstBad f l i=some (e,k)→i≤k∧k < i+l.length∧e≠0
 | x :: l,i,e,k,h=>by
  rw [firstBad] at h
  split at h
  ·have:=firstBad_lt h
   simp only [List.length_cons]
   omega
  ·rename_i hne
   simp only [Option.some.injEq,Prod.mk.injEq] at h
   obtain ⟨h1,h2⟩:=h
   rw [h1] at hne;simp only [List.length_cons];exact ⟨by omega,by omega,hne⟩
theorem firstBad_none {α:Type} {f:Nat→α→Int}:∀ {l:List α} {i:Nat},firstBad f l i=none→∀ k (hk:k < l.length),f (i+k) l[k]=0
 | x :: l,i,h,k,hk=>by
  rw [firstBad] at h
  split at h
  ·rename_i h0
   cases k with
   | zero=>simpa using h0
   | succ k=>
    have:=firstBad_none h k (by simpa using hk)
    simpa [Nat.add_assoc,Nat.add_comm 1 k] using this
  ·cases h
def countsP (n:NmP):Bool:=decide (n.kind=3) || decide (n.kind=4)
def badN (p:PgP) (i:Nat) (n:NmP):Int:=
 if !nameF n.name then 5 else if decide (n.kind < 1) || decide (n.kind > 4) then 1 else if (countsP n && (decide (n.count < 1) || decide (n.count > 7))) || (!countsP n && decide (n.count≠0)) then 2 else if numP p n.name < i then 9 else 0
def wantP (k:Int):Int:=if k≤3 then 2 else if k=4 then 3 else 4
def badG (p:PgP) (r:RgP):Int:=match r.cond with
 | none=>1
 | some e=>if decide (r.kind < 1) || decide (r.kind > 6) then 1 else if numP p r.name < 0 then 7
  else if wantP r.kind≠(p.names.getD (numP p r.name).toNat ⟨[],0,0⟩).kind then 1 else if (namesE true e).any fun s=>decide (numP p s < 0) then 7 else 0
def checkP (p:PgP):Option (Int×Option Nat):=
 if p.names.length > 12∨p.rungs.length > 40 then some (4,none) else match firstBad (badN p) p.names 0 with
  | some (e,i)=>some (e,some i)
  | none=>match firstBad (fun _ r=>badG p r) p.rungs 0 with
   | some (e,i)=>some (e,some (p.names.length+i))
   | none=>none
def badN2 (p:PgP) (i:Nat) (n:NmP):Int:=
 if !nameF n.name then 5 else if !(decide (1≤n.kind) && decide (n.kind≤4)) then 1 else if (decide (n.kind ≥ 3) && !(decide (1≤n.count) && decide (n.count≤7))) || (decide (n.kind < 3) && decide (n.count≠0)) then 2 else if numP p n.name≠i then 9 else 0
theorem badN_same (p:PgP) (i:Nat) (hi:i < p.names.length):badN2 p i p.names[i]=badN p i p.names[i]:=by
 have hle:=numP_le p hi
 generalize hn:p.names[i]=n at hle ⊢;unfold badN badN2 countsP
 cases hname:nameF n.name with
 | false=>simp
 | true=>
  by_cases hk:1≤n.kind∧n.kind≤4
  ·have e1:(!(decide (1≤n.kind) && decide (n.kind≤4)))=false:=by simp [hk.1,hk.2]
   have e2:(decide (n.kind < 1) || decide (n.kind > 4))=false:=by simp;omega
   have e3:((decide (n.kind ≥ 3) && !(decide (1≤n.count) && decide (n.count≤7))) || (decide (n.kind < 3) && decide (n.count≠0)))=(((decide (n.kind=3) || decide (n.kind=4)) && (decide (n.count < 1) || decide (n.count > 7))) || (!(decide (n.kind=3) || decide (n.kind=4)) && decide (n.count≠0))):=by
    have:n.kind=1∨n.kind=2∨n.kind=3∨n.kind=4:=by omega
    have ec:(!(decide (1≤n.count) && decide (n.count≤7)))=(decide (n.count < 1) || decide (n.count > 7)):=by
     by_cases h1:1≤n.count<;>by_cases h2:n.count≤7<;>simp [h1,h2]<;>omega
    rw [ec]
    rcases this with h | h | h | h<;>simp [h]
   rw [e1,e2,e3]
   have e4:(numP p n.name≠(i:Int))=(numP p n.name < (i:Int)):=propext ⟨fun h=>by omega,fun h=>by omega⟩
   simp only [e4]
  ·have e1:(!(decide (1≤n.kind) && decide (n.kind≤4)))=true:=by
    rw [← Bool.decide_and];simp;omega
   have e2:(decide (n.kind < 1) || decide (n.kind > 4))=true:=by simp;omega
   rw [e1,e2];simp
structure GoodP (p:PgP):Prop where
 names:p.names.length≤12
 rungs:p.rungs.length≤40
 name:∀ n∈p.names,nameF n.name=true∧1≤n.kind∧n.kind≤4
 count:∀ n∈p.names,(n.kind < 3∧n.count=0)∨(3≤n.kind∧1≤n.count∧n.count≤7)
 num:∀ i (hi:i < p.names.length),numP p p.names[i].name=i
theorem checkP_good {p:PgP} (h:checkP p=none):GoodP p:=by
 unfold checkP at h
 split at h
 ·cases h
 ·rename_i hl
  split at h
  ·cases h
  ·rename_i hN
   have hall:=fun i hi=>firstBad_none hN i hi
   have one:∀ i (hi:i < p.names.length),nameF p.names[i].name=true∧1≤p.names[i].kind∧p.names[i].kind≤4∧((p.names[i].kind < 3∧p.names[i].count=0)∨(3≤p.names[i].kind∧1≤p.names[i].count∧p.names[i].count≤7))∧numP p p.names[i].name=i:=fun i hi=>by
    have hb:=hall i hi
    have hle:=numP_le p hi
    rw [Nat.zero_add] at hb;generalize p.names[i]=n at hb hle ⊢;unfold badN countsP at hb
    split at hb
    ·omega
    ·rename_i h1
     split at hb
     ·omega
     ·rename_i h2
      split at hb
      ·omega
      ·rename_i h3
       split at hb
       ·omega
       ·rename_i h4
        simp at h1 h2 h3;refine ⟨h1,by omega,by omega,?_,by omega⟩
        by_cases hk:n.kind=3∨n.kind=4
        ·exact .inr ⟨by omega,by have:=h3.1 hk;omega,by have:=h3.1 hk;omega⟩
        ·have:=h3.2 (by omega) (by omega)
         exact .inl ⟨by omega,by omega⟩
   refine ⟨by omega,by omega,fun n hn=>?_,fun n hn=>?_,fun i hi=>(one i hi).2.2.2.2⟩
   ·obtain ⟨i,hi,rfl⟩:=List.mem_iff_getElem.1 hn
    exact ⟨(one i hi).1,(one i hi).2.1,(one i hi).2.2.1⟩
   ·obtain ⟨i,hi,rfl⟩:=List.mem_iff_getElem.1 hn
    exact (one i hi).2.2.2.1
end Go.Proofs.YthnjfeielmbfkaaGreatDoor
namespace Go.Proofs.YthnjfeielmbfkaaGreatDoor
open Go.Av
def cNm (n:NmP):List D:=[dS n.name,.v (.int .i64 n.kind),.v (.int .i64 n.count)]
def dNm (n:NmP):D:=.agg (cNm n)
def dNms (l:List NmP):D:=.sl none (l.map cNm)
def dC (c:Option Ex):D:=match c with
 | none=>.v .nilIface
 | some e=>dE e
def cRg (r:RgP):List D:=[.v (.int .i64 r.kind),dS r.name,dC r.cond]
def dRg (r:RgP):D:=.agg (cRg r)
def dRgs (l:List RgP):D:=.sl none (l.map cRg)
def cPg (p:PgP):List D:=[dNms p.names,dRgs p.rungs]
def dPg (p:PgP):D:=.agg (cPg p)
set_option maxHeartbeats 1000000 in
theorem indexNm_spec (G:Glob) (k:Option Bool) (xs:List NmP) (g:FuncId) (caps:List D) (p:NmP→Bool) (hl:xs.length < 2^62) (ha:Answers G g caps dNm p xs) :
  PureC Tryz.prog G 51 [.sl k (xs.map cNm),.fn (.func g) caps] (.v (.int .i64 (idx p xs))):=by
 refine PureC.of_body (tyOf_good _) Tryz.func51 rfl rfl (rs:=[.tmp 4]) Tryz.results51 (by simp [Tryz.ntmps51]) fun X=>?_;simp only [Tryz.ntmps51,List.map];refine rg0 [0,1] [] ?_;refine AW_then fun K1 hK1=>?_;refine rg0 [0,1,7,8] [] ?_;refine AW_for (S:=Nat) (fun n=>n≤xs.length∧∀ i (hi:i < xs.length),i < n→p xs[i]=false) (fun n=>⟨lst [(0,.d (.sl k (xs.map cNm))),(1,.d (.fn (.func g) caps)),(7,int xs.length),(8,int n)],hlst []⟩) (fun n=>xs.length - n) 0 ?_ (by simp) ?_
 ·refine Imp.to' (fun _ _=>trivial) (by simp) (by simp)
 ·rintro n ⟨hn,hp⟩
  refine rg0 [0,1,7,8,9] [] ?_;refine AW_then fun K2 hK2=>?_;refine AW_cond' (b:=n < xs.length) (by simp [D.le,D.le.go,takeMap]) (fun hc=>?_) (fun hc=>?_)
  ·refine AW_skip (hK2 _ ?_);refine AW_then fun K3 hK3=>?_;refine AW_block ?_;refine rg0 [0,1,5,7,8] [] ?_
   have hax:=ha xs[n] (by simp)
   simp only [dNm,cNm] at hax
   have qf:=(Aq @hc @cNm.eq_1)
   refine rgcv hax [0,1,5,7,8,16] [] ?_;refine AW_cond _ rfl (fun hp2=>?_) (fun hp2=>?_)
   ·refine rg0 [4] [] ?_;refine AW_ret ?_;simp [D.le,D.le.go,takeMap];exact (idx_hit hc hp2 fun i hi=>hp i (by omega) hi).symm
   ·refine AW_skip (hK3 _ ?_);refine AW_re (tyOf_good _) fun K' hK'=>?_;(repeat (refine sxn fun K2 hK2=>?_;simp;(repeat (refine ⟨by omega,?_⟩));refine hK2 _ ?_;clear hK2 K2));refine sxz (hK' _ ?_);clear hK' K';(try simp only [thn,inb]);refine Again.mk (n+1) ⟨by omega,fun i hi hin=>?_⟩ (by omega) ?_
    ·by_cases h:i=n
     ·subst h;exact hp2
     ·exact hp i hi (by omega)
    refine Imp.to' (fun _ _=>trivial) (by simp) (by simp)
  ·refine AW_exit (hK1 _ ?_);refine rg0 [4] [] ?_;refine AW_ret ?_;simp [D.le,D.le.go,takeMap];exact (idx_miss fun i hi=>hp i hi (by omega)).symm
set_option maxHeartbeats 1000000 in
theorem indexTx_spec (G:Glob) (k:Option Bool) (xs:List (List UInt8)) (g:FuncId) (caps:List D) (p:(List UInt8)→Bool) (hl:xs.length < 2^62) (ha:Answers G g caps dS p xs) :
  PureC Tryz.prog G 169 [.sl k (xs.map (fun s=>[dS s])),.fn (.func g) caps] (.v (.int .i64 (idx p xs))):=by
 refine PureC.of_body (tyOf_good _) Tryz.func169 rfl rfl (rs:=[.tmp 4]) Tryz.results169 (by simp [Tryz.ntmps169]) fun X=>?_;simp only [Tryz.ntmps169,List.map];refine rg0 [0,1] [] ?_;refine AW_then fun K1 hK1=>?_;refine rg0 [0,1,7,8] [] ?_;refine AW_for (S:=Nat) (fun n=>n≤xs.length∧∀ i (hi:i < xs.length),i < n→p xs[i]=false) (fun n=>⟨lst [(0,.d (.sl k (xs.map (fun s=>[dS s])))),(1,.d (.fn (.func g) caps)),(7,int xs.length),(8,int n)],hlst []⟩) (fun n=>xs.length - n) 0 ?_ (by simp) ?_
 ·refine Imp.to' (fun _ _=>trivial) (by simp [dS]) (by simp [dS])
 ·rintro n ⟨hn,hp⟩
  refine rg0 [0,1,7,8,9] [] ?_;refine AW_then fun K2 hK2=>?_;refine AW_cond' (b:=n < xs.length) (by simp [D.le,D.le.go,takeMap]) (fun hc=>?_) (fun hc=>?_)
  ·refine AW_skip (hK2 _ ?_);refine AW_then fun K3 hK3=>?_;refine AW_block ?_;refine rg0 [0,1,5,7,8] [] ?_
   have hax:=ha xs[n] (by simp)
   simp only [dS] at hax
   have qf:=(Aq @hc @dS.eq_1)
   refine rgcv hax [0,1,5,7,8,16] [] ?_;refine AW_cond _ rfl (fun hp2=>?_) (fun hp2=>?_)
   ·refine rg0 [4] [] ?_;refine AW_ret ?_;simp [D.le,D.le.go,takeMap];exact (idx_hit hc hp2 fun i hi=>hp i (by omega) hi).symm
   ·refine AW_skip (hK3 _ ?_);refine AW_re (tyOf_good _) fun K' hK'=>?_;(repeat (refine sxn fun K2 hK2=>?_;simp;(repeat (refine ⟨by omega,?_⟩));refine hK2 _ ?_;clear hK2 K2));refine sxz (hK' _ ?_);clear hK' K';(try simp only [thn,inb]);refine Again.mk (n+1) ⟨by omega,fun i hi hin=>?_⟩ (by omega) ?_
    ·by_cases h:i=n
     ·subst h;exact hp2
     ·exact hp i hi (by omega)
    refine Imp.to' (fun _ _=>trivial) (by simp [dS]) (by simp [dS])
  ·refine AW_exit (hK1 _ ?_);refine rg0 [4] [] ?_;refine AW_ret ?_;simp [D.le,D.le.go,takeMap];exact (idx_miss fun i hi=>hp i hi (by omega)).symm
set_option maxHeartbeats 1000000 in
theorem containsTx_spec (G:Glob) (k:Option Bool) (xs:List (List UInt8)) (g:FuncId) (caps:List D) (p:List UInt8→Bool) (hl:xs.length < 2^62) (ha:Answers G g caps dS p xs) :
  PureC Tryz.prog G 116 [.sl k (xs.map fun s=>[dS s]),.fn (.func g) caps] (.v (.bool (xs.any p))):=by
 refine PureC.of_body (tyOf_good _) Tryz.func116 rfl rfl (rs:=[.tmp 4]) Tryz.results116 (by simp [Tryz.ntmps116]) fun X=>?_;simp only [Tryz.ntmps116,List.map];refine rg0 [0,1] [] ?_;refine rgc trivial (indexTx_spec G k xs g caps p hl ha) [4] [] ?_;refine AW_ret ?_;simp [D.le,D.le.go,takeMap];exact idx_any p xs
set_option maxHeartbeats 1000000 in
theorem lc_num1 (G:Glob) (n:NmP) (s:List UInt8):PureC Tryz.prog G 52 [dNm n,.ip [dS s]] (.v (.bool (n.name == s))):=by
 simp only [dNm,cNm,dS];refine PureC.of_body (tyOf_good _) Tryz.func52 rfl rfl (rs:=[.tmp 3]) Tryz.results52 (by simp [Tryz.ntmps52]) fun X=>?_;simp only [Tryz.ntmps52,List.map];refine rg0 [1,2] [2] ?_;refine rg [3] [2] (fun _ _=>trivial) fun K' hK'=>?_;(repeat (refine sxn fun K2 hK2=>?_;simp [binS,bs_list];(repeat (refine ⟨by omega,?_⟩));refine hK2 _ ?_;clear hK2 K2));refine sxz (hK' _ (AW.st (by simp [binS,bs_list];rfl) ?_));clear hK' K';refine AW_ret ?_;simp [D.le,D.le.go,takeMap]
set_option maxHeartbeats 1000000 in
theorem lc_num (G:Glob) (p:PgP) (hp:p.names.length < 2^62) (s:List UInt8):PureC Tryz.prog G 15 [dPg p,dS s] (.v (.int .i64 (numP p s))):=by
 have hi:=indexNm_spec G none p.names 52 [.ip [dS s]] (fun n=>n.name == s) hp fun n _=>lc_num1 G n s
 unfold numP;simp only [dPg,cPg,dNms,dS] at hi ⊢;generalize dRgs p.rungs=R at *;generalize idx (fun n:NmP=>n.name == s) p.names=z at hi ⊢;refine PureC.of_body (tyOf_good _) Tryz.func15 rfl rfl (rs:=[.tmp 4]) Tryz.results15 (by simp [Tryz.ntmps15]) fun X=>?_;simp only [Tryz.ntmps15,List.map];refine rgq @dRgs.eq_1 [2,3] [2,3] ?_;refine AW.imp (Imp.freezeB 3 trivial) ?_;refine AW.st (by simp;rfl) ?_;refine rgc trivial hi [4] [2] ?_;refine AW_ret ?_;simp [D.le,D.le.go,takeMap]
set_option maxHeartbeats 1000000 in
theorem lc_chk1 (G:Glob) (p:PgP) (hp:p.names.length < 2^62) (s:List UInt8):PureC Tryz.prog G 159 [dS s,.ip (cPg p)] (.v (.bool (decide (numP p s < 0)))):=by
 have hi:=lc_num G p hp s
 simp only [dPg,cPg,dNms,dRgs,dS] at hi ⊢;refine PureC.of_body (tyOf_good _) Tryz.func159 rfl rfl (rs:=[.tmp 3]) Tryz.results159 (by simp [Tryz.ntmps159]) fun X=>?_;simp only [Tryz.ntmps159,List.map];refine rg0 [0,1] [] ?_;refine rgc trivial hi [3] [] ?_;refine AW_ret ?_;simp [D.le,D.le.go,takeMap]
structure LaterG (T:Prop):Prop where
 out:T
theorem lateG {T U:Prop} (h:LaterG T→U) (t:T):U:=h ⟨t⟩
theorem numP_pos {p:PgP} {s:List UInt8} (h:¬ numP p s < 0):∃ k:Nat,∃ hk:k < p.names.length,numP p s=k:=by
 obtain ⟨k,hk,he,_⟩:=idx_pos h
 exact ⟨k,hk,he⟩
set_option maxHeartbeats 8000000 in
theorem lc_chk (G:Glob) (p:PgP) (hp:p.names.length < 2^62) (r:RgP) (hb:∀ e,r.cond=some e→bE e≤2^28∧(namesE true e).length < 2^62):PureC Tryz.prog G 105 [dPg p,dRg r] (.v (.int .i64 (badG p r))):=by
 obtain ⟨kind,name,cond⟩:=r
 dsimp only at hb
 have hnum:=lc_num G p hp name
 have hck:=fun s=>lc_chk1 G p hp s
 simp only [dPg,cPg,dNms,dRgs,dRg,cRg,dS] at hnum hck ⊢
 cases cond with
 | none=>
  have hres0:badG p ⟨kind,name,none⟩=1:=rfl
  generalize badG p ⟨kind,name,none⟩=res at hres0;refine PureC.of_body (tyOf_good _) Tryz.func105 rfl rfl (rs:=[.tmp 4]) Tryz.results105 (by simp [Tryz.ntmps105]) fun X=>?_;simp only [Tryz.ntmps105,List.map]
  have fw:=(Aq @dC.eq_1 @dC.eq_2)
  refine rgq fw [2,3] [2,3] ?_;refine AW_then fun K1 hK1=>?_
  by_cases h1:kind < 1
  ·have qf:=(Aq fw @h1)
   refine rgqv [2,3,19] [2,3] ?_;refine AW_tt rfl ?_;refine rgq fw [4] [] ?_;refine AW_ret ?_;simp [D.le,D.le.go,takeMap,dC,hres0]
  ·by_cases h2:kind > 6
   ·have qf:=(Aq fw (Aq @h1 @h2))
    refine rgqv [2,3,19] [2,3] ?_;refine AW_tt rfl ?_;refine rgq fw [4] [] ?_;refine AW_ret ?_;simp [D.le,D.le.go,takeMap,dC,hres0]
   ·have qf:=(Aq fw (Aq @h1 @h2))
    refine rgqv [2,3,19] [2,3] ?_;refine AW_tt rfl ?_;refine rgq fw [4] [] ?_;refine AW_ret ?_;simp [D.le,D.le.go,takeMap,dC,hres0]
 | some e=>
  have hres0:badG p ⟨kind,name,some e⟩=if decide (kind < 1) || decide (kind > 6) then 1 else if numP p name < 0 then 7
   else if wantP kind≠(p.names.getD (numP p name).toNat ⟨[],0,0⟩).kind then 1 else if (namesE true e).any fun s=>decide (numP p s < 0) then 7 else 0:=rfl
  generalize badG p ⟨kind,name,some e⟩=res at hres0
  obtain ⟨hbe,hnl⟩:=hb e rfl
  have hns:=namesE_spec G e hbe
  have hany:=containsTx_spec G none (namesE true e) 159 [.ip (cPg p)] (fun s=>decide (numP p s < 0)) hnl fun s _=>lc_chk1 G p hp s
  have hdc:dC (some e)=dE e:=rfl
  rw [hdc]
  obtain ⟨tx,cx,hx⟩:=dE_ifc e
  rw [hx] at hns ⊢;simp only [cPg,dNms,dRgs,dS] at hns hany;generalize ((namesE true e).any fun s=>decide (numP p s < 0))=an at hres0 hany;generalize namesE true e=nm at hns hany;refine PureC.of_body (tyOf_good _) Tryz.func105 rfl rfl (rs:=[.tmp 4]) Tryz.results105 (by simp [Tryz.ntmps105]) fun X=>?_;simp only [Tryz.ntmps105,List.map]
  have fw:=(Aq @dC.eq_1 @dC.eq_2)
  refine rgq fw [2,3] [2,3] ?_;refine AW.imp (Imp.freezeB 2 trivial) ?_;refine AW.st (by simp [dC];rfl) ?_;refine AW.imp (Imp.freezeB 3 trivial) ?_;refine AW.st (by simp [dC];rfl) ?_;refine AW_then fun K1 hK1=>?_
  by_cases h1:kind < 1
  ·rw [if_pos (by simp [h1])] at hres0
   have qf:=(Aq fw @h1)
   refine rgqv [2,3,19] [] ?_;refine AW_tt rfl ?_;refine rgq fw [4] [] ?_;refine AW_ret ?_;simp [D.le,D.le.go,takeMap,dC,hres0]
  by_cases h2:kind > 6
  ·rw [if_pos (by simp [h2])] at hres0
   have qf:=(Aq fw (Aq @h1 @h2))
   refine rgqv [2,3,19] [] ?_;refine AW_tt rfl ?_;refine rgq fw [4] [] ?_;refine AW_ret ?_;simp [D.le,D.le.go,takeMap,dC,hres0]
  rw [if_neg (by simp [h1,h2])] at hres0
  have qf:=(Aq fw (Aq @h1 @h2))
  refine rgqv [2,3,19] [] ?_;refine AW_ff rfl ?_;refine AW_skip (hK1 _ ?_);refine rgc fw hnum [2,3,5] [] ?_;refine AW_then fun K2 hK2=>?_;refine rgq fw [2,3,5,25] [] ?_
  by_cases h3:numP p name < 0
  ·rw [if_pos h3] at hres0;refine AW_cond true (by simp [h3]) (fun _=>?_) (fun h=>by cases h);refine rgq fw [4] [] ?_;refine AW_ret ?_;simp [D.le,D.le.go,takeMap,dC,hres0]
  rw [if_neg h3] at hres0
  obtain ⟨k,hk,hke⟩:=numP_pos h3
  have hgd:p.names.getD (numP p name).toNat ⟨[],0,0⟩=p.names[k]:=by
   rw [hke,Int.toNat_natCast,List.getD_eq_getElem?_getD,List.getElem?_eq_getElem hk];rfl
  rw [hgd] at hres0;refine AW_cond false (by simp [h3]) (fun h=>by cases h) (fun _=>?_);refine AW_skip (hK2 _ ?_);refine AW_then fun K3 hK3=>?_
  have hcells:cNm p.names[k]=[dS p.names[k].name,.v (.int .i64 p.names[k].kind),.v (.int .i64 p.names[k].count)]:=rfl
  generalize hkk:p.names[k].kind=kk at hres0 hcells;refine' lateG (fun hrest=>?_) ?_
  rotate_left
  ·have hk0:=h1
   by_cases hk1:kind=1
   ·have qf:=(Aq fw @hk1)
    refine rgqv [2,3,5,6] [] ?_;refine AW.st (show _=(⟨lst [(2,.d (.ip [.sl none (p.names.map cNm),.sl none (p.rungs.map cRg)])),(3,.d (.ip [.v (.int .i64 kind),.v (.string (bs name)),.ifc tx cx])),(5,int (numP p name)),(6,int (wantP kind))],hlst []⟩:St) by rw [hk1]<;>rfl) ?_;exact hrest.out
   by_cases hk1:kind=2
   ·have qf:=(Aq fw @hk1)
    refine rgqv [2,3,5,6] [] ?_;refine AW.st (show _=(⟨lst [(2,.d (.ip [.sl none (p.names.map cNm),.sl none (p.rungs.map cRg)])),(3,.d (.ip [.v (.int .i64 kind),.v (.string (bs name)),.ifc tx cx])),(5,int (numP p name)),(6,int (wantP kind))],hlst []⟩:St) by rw [hk1]<;>rfl) ?_;exact hrest.out
   by_cases hk1:kind=3
   ·have qf:=(Aq fw @hk1)
    refine rgqv [2,3,5,6] [] ?_;refine AW.st (show _=(⟨lst [(2,.d (.ip [.sl none (p.names.map cNm),.sl none (p.rungs.map cRg)])),(3,.d (.ip [.v (.int .i64 kind),.v (.string (bs name)),.ifc tx cx])),(5,int (numP p name)),(6,int (wantP kind))],hlst []⟩:St) by rw [hk1]<;>rfl) ?_;exact hrest.out
   by_cases hk1:kind=4
   ·have qf:=(Aq fw @hk1)
    refine rgqv [2,3,5,6] [] ?_;refine AW.st (show _=(⟨lst [(2,.d (.ip [.sl none (p.names.map cNm),.sl none (p.rungs.map cRg)])),(3,.d (.ip [.v (.int .i64 kind),.v (.string (bs name)),.ifc tx cx])),(5,int (numP p name)),(6,int (wantP kind))],hlst []⟩:St) by rw [hk1]<;>rfl) ?_;exact hrest.out
   by_cases hk1:kind=5
   ·have qf:=(Aq fw @hk1)
    refine rgqv [2,3,5,6] [] ?_;refine AW.st (show _=(⟨lst [(2,.d (.ip [.sl none (p.names.map cNm),.sl none (p.rungs.map cRg)])),(3,.d (.ip [.v (.int .i64 kind),.v (.string (bs name)),.ifc tx cx])),(5,int (numP p name)),(6,int (wantP kind))],hlst []⟩:St) by rw [hk1]<;>rfl) ?_;exact hrest.out
   have hk1:kind=6:=by omega
   have qf:=(Aq fw @hk1)
   refine rgqv [2,3,5,6] [] ?_;refine AW.st (show _=(⟨lst [(2,.d (.ip [.sl none (p.names.map cNm),.sl none (p.rungs.map cRg)])),(3,.d (.ip [.v (.int .i64 kind),.v (.string (bs name)),.ifc tx cx])),(5,int (numP p name)),(6,int (wantP kind))],hlst []⟩:St) by rw [hk1]<;>rfl) ?_;exact hrest.out
  ·rw [hke]
   have qf:=(Aq fw (Aq @hk @hcells))
   refine rgqv [2,3,37] [] ?_
   by_cases h4:kk=wantP kind
   ·rw [if_neg (by simp [h4])] at hres0;refine AW_cond false (by simp [h4]) (fun h=>by cases h) (fun _=>?_);refine AW_skip (hK3 _ ?_);refine AW_then fun K4 hK4=>?_;refine rg [42] [] (fun _ _=>trivial) fun K' hK'=>?_;(repeat (refine sxn fun K2 hK2=>?_;simp [dC];(repeat (refine ⟨by omega,?_⟩));refine hK2 _ ?_;clear hK2 K2));refine sxn fun K2 hK2=>?_;simp [dC];refine callK.data (hns) (by simp;rfl) (by first | exact D.leGo_refl _ | simp [takeMap,List.map_map,Function.comp_def,D.le,D.le.go,D.le_refl,D.leGo_refl,dC]) ?_;refine hK2 _ ?_;clear hK2 K2;simp only [putd,upd_lst];(repeat (refine sxn fun K2 hK2=>?_;simp [dC];(repeat (refine ⟨by omega,?_⟩));refine hK2 _ ?_;clear hK2 K2));refine sxn fun K2 hK2=>?_;simp [dC];refine callK.data (hany) (by simp;rfl) (by first | exact D.leGo_refl _ | simp [takeMap,List.map_map,Function.comp_def,D.le,D.le.go,D.le_refl,D.leGo_refl,dC]) ?_;refine hK2 _ ?_;clear hK2 K2;simp only [putd,upd_lst];(repeat (refine sxn fun K2 hK2=>?_;simp [dC];(repeat (refine ⟨by omega,?_⟩));refine hK2 _ ?_;clear hK2 K2));refine sxz (hK' _ (AW.st (by simp [dC];rfl) ?_));clear hK' K'
    cases an with
    | true=>
     rw [if_pos rfl] at hres0;refine AW_tt rfl ?_;refine rgq fw [4] [] ?_;refine AW_ret ?_;simp [D.le,D.le.go,takeMap,dC,hres0]
    | false=>
     rw [if_neg (by decide)] at hres0;refine AW_ff rfl ?_;refine AW_skip (hK4 _ ?_);refine rgq fw [4] [] ?_;refine AW_ret ?_;simp [D.le,D.le.go,takeMap,dC,hres0]
   ·rw [if_pos (fun h=>h4 h.symm)] at hres0;refine AW_cond true (by simp [h4]) (fun _=>?_) (fun h=>by cases h);refine rgq fw [4] [] ?_;refine AW_ret ?_;simp [D.le,D.le.go,takeMap,dC,hres0]
end Go.Proofs.YthnjfeielmbfkaaGreatDoor
namespace Go.Proofs.YthnjfeielmbfkaaGreatDoor
open Go.Av
theorem firstBad_at {α:Type} {f:Nat→α→Int}:∀ {l:List α} {i n:Nat} (hn:n < l.length),(∀ k (hk:k < l.length),k < n→f (i+k) l[k]=0)→f (i+n) l[n]≠0→firstBad f l i=some (f (i+n) l[n],i+n)
 | x :: l,i,0,_,_,hne=>by rw [firstBad,if_neg (show ¬ f i x=0 from hne)];rfl
 | x :: l,i,n+1,hn,hb,hne=>by
  have h0:f i x=0:=hb 0 (by simp) (by omega)
  have e:∀ k,i+1+k=i+(k+1):=fun k=>by omega
  rw [firstBad,if_pos h0,firstBad_at (l:=l) (i:=i+1) (n:=n) (by simpa using hn) (fun k hk hkn=>by rw [e];exact hb (k+1) (by simpa using hk) (by omega)) (by rw [e];exact hne),e]
  rfl
theorem firstBad_ok {α:Type} {f:Nat→α→Int}:∀ {l:List α} {i:Nat},(∀ k (hk:k < l.length),f (i+k) l[k]=0)→firstBad f l i=none
 | [],_,_=>rfl
 | x :: l,i,hb=>by
  have e:∀ k,i+1+k=i+(k+1):=fun k=>by omega
  rw [firstBad,if_pos (show f i x=0 from hb 0 (by simp)),firstBad_ok fun k hk=>by rw [e];exact hb (k+1) (by simpa using hk)]
structure SmallP (p:PgP):Prop where
 nl:p.names.length < 2^62
 rl:p.rungs.length < 2^62
 nn:∀ n∈p.names,n.name.length < 2^60
 cb:∀ r∈p.rungs,∀ e,r.cond=some e→bE e≤2^28∧(namesE true e).length < 2^62
set_option maxHeartbeats 16000000 in
theorem ladderCheck_spec (G:Glob) (p:PgP) (hp:SmallP p):PureC Tryz.prog G 50 [dPg p] (dErr (checkP p)):=by
 obtain ⟨hnl,hrl,hnn,hcb⟩:=hp
 have hr2:checkP p=if p.names.length > 12∨p.rungs.length > 40 then some (4,none) else match firstBad (badN p) p.names 0 with
  | some (e,i)=>some (e,some i)
  | none=>match firstBad (fun _ r=>badG p r) p.rungs 0 with
   | some (e,i)=>some (e,some (p.names.length+i))
   | none=>none:=rfl
 generalize hres:checkP p=res;rw [hr2] at hres
 have hnum:=fun s=>lc_num G p hnl s
 have hchk:=fun r h=>lc_chk G p hnl r h
 simp only [dPg,cPg,dNms,dRgs,dS] at hnum hchk ⊢;refine PureC.of_body (tyOf_good _) Tryz.func50 rfl rfl (rs:=[.tmp 2]) Tryz.results50 (by simp [Tryz.ntmps50]) fun X=>?_;simp only [Tryz.ntmps50,List.map];refine rg0 [1] [1] ?_;refine AW.imp (Imp.freezeB 1 trivial) ?_;refine AW.st (by simp;rfl) ?_;refine AW_then fun K1 hK1=>?_
 by_cases g0:(p.names.length:Int) > 12
 ·rw [if_pos (.inl (by omega))] at hres
  have qf:=@g0
  refine rgqv [1,19] [] ?_;refine AW_tt rfl ?_;refine rg0 [2] [] ?_;refine AW_ret ?_;simp [D.le,D.le.go,takeMap];simp [← hres,dErr,D.le]
 by_cases g1:(p.rungs.length:Int) > 40
 ·rw [if_pos (.inr (by omega))] at hres
  have qf:=(Aq @g0 @g1)
  refine rgqv [1,19] [] ?_;refine AW_tt rfl ?_;refine rg0 [2] [] ?_;refine AW_ret ?_;simp [D.le,D.le.go,takeMap];simp [← hres,dErr,D.le]
 rw [if_neg (by omega)] at hres
 have qf:=(Aq @g0 @g1)
 refine rgqv [1,19] [] ?_;refine AW_ff rfl ?_;refine AW_skip (hK1 _ ?_);refine AW_then fun K2 hK2=>?_;refine rg0 [1,22,23,24] [] ?_;refine AW_for (S:=Nat) (fun n=>n≤p.names.length∧∀ k (hk:k < p.names.length),k < n→badN p k p.names[k]=0) (fun n=>⟨lst [(1,.d (.ip [.sl none (p.names.map cNm),.sl none (p.rungs.map cRg)])),(22,.d (.sl none (p.names.map cNm))),(23,int p.names.length),(24,int n)],hlst []⟩) (fun n=>p.names.length - n) 0 ?_ (by simp) ?_
 ·refine Imp.to' (fun _ _=>trivial) (by simp) (by simp)
 ·rintro n ⟨hn,hb⟩
  refine rg0 [1,22,23,24,25] [] ?_;refine AW_then fun K3 hK3=>?_;refine AW_cond' (b:=n < p.names.length) (by simp [D.le,D.le.go,takeMap]) (fun hc=>?_) (fun hc=>?_)
  ·have hlt:=hc
   have hgo:badN p n p.names[n]≠0→res=some (badN p n p.names[n],some n):=fun hne=>by
    rw [← hres,firstBad_at (i:=0) hlt (fun k hk hkn=>by rw [Nat.zero_add];exact hb k hk hkn) (by rw [Nat.zero_add];exact hne)];simp
   have hnm:=hnn _ (List.getElem_mem hlt)
   have hcells:cNm p.names[n]=[dS p.names[n].name,.v (.int .i64 p.names[n].kind),.v (.int .i64 p.names[n].count)]:=rfl
   have hbad:badN p n p.names[n]=if !nameF p.names[n].name then 5 else if decide (p.names[n].kind < 1) || decide (p.names[n].kind > 4) then 1 else if ((decide (p.names[n].kind=3) || decide (p.names[n].kind=4)) && (decide (p.names[n].count < 1) || decide (p.names[n].count > 7))) || (!(decide (p.names[n].kind=3) || decide (p.names[n].kind=4)) && decide (p.names[n].count≠0)) then 2 else if numP p p.names[n].name < n then 9 else 0:=rfl
   generalize hv:badN p n p.names[n]=v at hbad hgo;generalize p.names[n].name=nm at hnm hcells hbad;generalize p.names[n].kind=kd at hcells hbad;generalize p.names[n].count=ct at hcells hbad
   have hname:=name_spec G nm hnm
   have hnu:=hnum nm
   simp only [dS] at hcells hname;generalize nameF nm=nf at hname hbad;refine AW_skip (hK3 _ ?_);refine AW_then fun K4 hK4=>?_;refine AW_block ?_
   have qf:=(Aq @hlt @hcells)
   refine rgqv [1,3,4,22,23,24] [4] ?_;refine AW.imp (Imp.freezeB 4 trivial) ?_;refine AW.st (by simp;rfl) ?_;refine' lateG (fun hst=>?_) ?_
   rotate_left
   ·by_cases k3:kd=3
    ·have qf:=@k3
     refine rgqv [1,3,4,5,22,23,24] [] ?_;refine AW.st (show _=(⟨lst [(1,.d (.ip [.sl none (p.names.map cNm),.sl none (p.rungs.map cRg)])),(3,int n),(4,.d (.ip [.v (.string (bs nm)),.v (.int .i64 kd),.v (.int .i64 ct)])),(5,.d (.v (.bool (decide (kd=3) || decide (kd=4))))),(22,.d (.sl none (p.names.map cNm))),(23,int p.names.length),(24,int n)],hlst []⟩:St) by rw [k3]<;>rfl) ?_;exact hst.out
    ·by_cases k4:kd=4
     ·have qf:=(Aq @k3 @k4)
      refine rgqv [1,3,4,5,22,23,24] [] ?_;refine AW.st (show _=(⟨lst [(1,.d (.ip [.sl none (p.names.map cNm),.sl none (p.rungs.map cRg)])),(3,int n),(4,.d (.ip [.v (.string (bs nm)),.v (.int .i64 kd),.v (.int .i64 ct)])),(5,.d (.v (.bool (decide (kd=3) || decide (kd=4))))),(22,.d (.sl none (p.names.map cNm))),(23,int p.names.length),(24,int n)],hlst []⟩:St) by rw [k4]<;>rfl) ?_;exact hst.out
     ·have e:(decide (kd=3) || decide (kd=4))=false:=by simp [k3,k4]
      have qf:=(Aq @k3 @k4)
      refine rgqv [1,3,4,5,22,23,24] [] ?_;refine AW.st (show _=(⟨lst [(1,.d (.ip [.sl none (p.names.map cNm),.sl none (p.rungs.map cRg)])),(3,int n),(4,.d (.ip [.v (.string (bs nm)),.v (.int .i64 kd),.v (.int .i64 ct)])),(5,.d (.v (.bool (decide (kd=3) || decide (kd=4))))),(22,.d (.sl none (p.names.map cNm))),(23,int p.names.length),(24,int n)],hlst []⟩:St) by rw [e]<;>rfl) ?_;exact hst.out
   ·generalize (decide (kd=3) || decide (kd=4))=cB at hbad;refine rg0 [1,3,4,5,6,22,23,24] [] ?_;refine AW_then fun K5 hK5=>?_;refine' lateG (fun hrest=>?_) ?_
    rotate_left
    ·refine AW_block ?_;refine rgc trivial hname [1,3,4,5,6,22,23,24,37] [] ?_
     by_cases hnf:nf=true
     rotate_left
     ·have hnf2:nf=false:=by simpa using hnf
      rw [if_pos (by simp [hnf2])] at hbad;rw [hnf2];refine AW_tt rfl ?_;refine reK trivial hK5 [1,3,6,22,23,24] [] ?_;refine AW.st (show _=(⟨lst [(1,.d (.ip [.sl none (p.names.map cNm),.sl none (p.rungs.map cRg)])),(3,int n),(6,int v),(22,.d (.sl none (p.names.map cNm))),(23,int p.names.length),(24,int n)],hlst []⟩:St) by rw [hbad]<;>rfl) ?_;exact hrest.out
     ·rw [if_neg (by simp [hnf])] at hbad;rw [hnf];refine AW_ff rfl ?_
      by_cases k1:kd < 1
      ·rw [if_pos (by simp [k1])] at hbad
       have qf:=@k1
       refine rgqv [1,3,4,5,6,22,23,24,42] [] ?_;refine AW_tt rfl ?_;refine reK trivial hK5 [1,3,6,22,23,24] [] ?_;refine AW.st (show _=(⟨lst [(1,.d (.ip [.sl none (p.names.map cNm),.sl none (p.rungs.map cRg)])),(3,int n),(6,int v),(22,.d (.sl none (p.names.map cNm))),(23,int p.names.length),(24,int n)],hlst []⟩:St) by rw [hbad]<;>rfl) ?_;exact hrest.out
      by_cases k2:kd > 4
      ·rw [if_pos (by simp [k2])] at hbad
       have qf:=(Aq @k1 @k2)
       refine rgqv [1,3,4,5,6,22,23,24,42] [] ?_;refine AW_tt rfl ?_;refine reK trivial hK5 [1,3,6,22,23,24] [] ?_;refine AW.st (show _=(⟨lst [(1,.d (.ip [.sl none (p.names.map cNm),.sl none (p.rungs.map cRg)])),(3,int n),(6,int v),(22,.d (.sl none (p.names.map cNm))),(23,int p.names.length),(24,int n)],hlst []⟩:St) by rw [hbad]<;>rfl) ?_;exact hrest.out
      rw [if_neg (by simp [k1,k2])] at hbad
      have qf:=(Aq @k1 @k2)
      refine rgqv [1,3,4,5,6,22,23,24,42] [] ?_;refine AW_ff rfl ?_
      by_cases hcB:cB=true
      ·rw [hcB] at hbad ⊢
       by_cases c1:ct < 1
       ·rw [if_pos (by simp [c1])] at hbad
        have qf:=@c1
        refine rgqv [1,3,4,6,22,23,24,51] [] ?_;refine AW_tt rfl ?_;refine reK trivial hK5 [1,3,6,22,23,24] [] ?_;refine AW.st (show _=(⟨lst [(1,.d (.ip [.sl none (p.names.map cNm),.sl none (p.rungs.map cRg)])),(3,int n),(6,int v),(22,.d (.sl none (p.names.map cNm))),(23,int p.names.length),(24,int n)],hlst []⟩:St) by rw [hbad]<;>rfl) ?_;exact hrest.out
       by_cases c2:ct > 7
       ·rw [if_pos (by simp [c2])] at hbad
        have qf:=(Aq @c1 @c2)
        refine rgqv [1,3,4,6,22,23,24,51] [] ?_;refine AW_tt rfl ?_;refine reK trivial hK5 [1,3,6,22,23,24] [] ?_;refine AW.st (show _=(⟨lst [(1,.d (.ip [.sl none (p.names.map cNm),.sl none (p.rungs.map cRg)])),(3,int n),(6,int v),(22,.d (.sl none (p.names.map cNm))),(23,int p.names.length),(24,int n)],hlst []⟩:St) by rw [hbad]<;>rfl) ?_;exact hrest.out
       rw [if_neg (by simp [c1,c2])] at hbad
       have qf:=(Aq @c1 @c2)
       refine rgqv [1,3,4,6,22,23,24,51] [] ?_;refine AW_ff rfl ?_;refine rgc trivial hnu [1,3,6,22,23,24,72] [] ?_
       by_cases c9:numP p nm < n
       ·rw [if_pos c9] at hbad;refine AW_cond true (by simp [c9]) (fun _=>?_) (fun h=>by cases h);refine reK trivial hK5 [1,3,6,22,23,24] [] ?_;refine AW.st (show _=(⟨lst [(1,.d (.ip [.sl none (p.names.map cNm),.sl none (p.rungs.map cRg)])),(3,int n),(6,int v),(22,.d (.sl none (p.names.map cNm))),(23,int p.names.length),(24,int n)],hlst []⟩:St) by rw [hbad]<;>rfl) ?_;exact hrest.out
       ·rw [if_neg c9] at hbad;refine AW_cond false (by simp [c9]) (fun h=>by cases h) (fun _=>?_);refine AW_skip ?_;refine hK5 _ (AW.norm [1,3,6,22,23,24] [] (fun _ _=>trivial) (AW.st (by simp;rfl) ?_));refine AW.st (show _=(⟨lst [(1,.d (.ip [.sl none (p.names.map cNm),.sl none (p.rungs.map cRg)])),(3,int n),(6,int v),(22,.d (.sl none (p.names.map cNm))),(23,int p.names.length),(24,int n)],hlst []⟩:St) by rw [hbad]<;>rfl) ?_;exact hrest.out
      ·have hcB2:cB=false:=by simpa using hcB
       rw [hcB2] at hbad ⊢
       by_cases c0:ct=0
       ·rw [if_neg (by simp [c0])] at hbad
        have qf:=@c0
        refine rgqv [1,3,4,6,22,23,24,51] [] ?_;refine AW_ff rfl ?_;refine rgc trivial hnu [1,3,6,22,23,24,72] [] ?_
        by_cases c9:numP p nm < n
        ·rw [if_pos c9] at hbad;refine AW_cond true (by simp [c9]) (fun _=>?_) (fun h=>by cases h);refine reK trivial hK5 [1,3,6,22,23,24] [] ?_;refine AW.st (show _=(⟨lst [(1,.d (.ip [.sl none (p.names.map cNm),.sl none (p.rungs.map cRg)])),(3,int n),(6,int v),(22,.d (.sl none (p.names.map cNm))),(23,int p.names.length),(24,int n)],hlst []⟩:St) by rw [hbad]<;>rfl) ?_;exact hrest.out
        ·rw [if_neg c9] at hbad;refine AW_cond false (by simp [c9]) (fun h=>by cases h) (fun _=>?_);refine AW_skip ?_;refine hK5 _ (AW.norm [1,3,6,22,23,24] [] (fun _ _=>trivial) (AW.st (by simp;rfl) ?_));refine AW.st (show _=(⟨lst [(1,.d (.ip [.sl none (p.names.map cNm),.sl none (p.rungs.map cRg)])),(3,int n),(6,int v),(22,.d (.sl none (p.names.map cNm))),(23,int p.names.length),(24,int n)],hlst []⟩:St) by rw [hbad]<;>rfl) ?_;exact hrest.out
       ·rw [if_pos (by simp [c0])] at hbad
        have qf:=@c0
        refine rgqv [1,3,4,6,22,23,24,51] [] ?_;refine AW_tt rfl ?_;refine reK trivial hK5 [1,3,6,22,23,24] [] ?_;refine AW.st (show _=(⟨lst [(1,.d (.ip [.sl none (p.names.map cNm),.sl none (p.rungs.map cRg)])),(3,int n),(6,int v),(22,.d (.sl none (p.names.map cNm))),(23,int p.names.length),(24,int n)],hlst []⟩:St) by rw [hbad]<;>rfl) ?_;exact hrest.out
    ·by_cases hv0:v=0
     ·have qf:=@hv0
      refine rgqv [1,3,6,22,23,24,80] [] ?_;refine AW_ff rfl ?_;refine AW_skip ?_;refine hK4 _ ?_;refine AW_re (tyOf_good _) fun K' hK'=>?_;(repeat (refine sxn fun K2 hK2=>?_;simp;(repeat (refine ⟨by omega,?_⟩));refine hK2 _ ?_;clear hK2 K2));refine sxz (hK' _ ?_);clear hK' K';(try simp only [thn,inb]);refine Again.mk (n+1) ⟨by omega,fun k hk hkn=>?_⟩ (by omega) ?_
      ·by_cases h:k=n
       ·subst h;rw [hv,hv0]
       ·exact hb k hk (by omega)
      refine Imp.to' (fun _ _=>trivial) (by simp) (by simp)
     ·have qf:=@hv0
      refine rgqv [1,3,6,22,23,24,80] [] ?_;refine AW_tt rfl ?_;refine rg0 [2] [84] ?_;refine AW_ret ?_;simp [D.le,D.le.go,takeMap];simp [hgo hv0,dErr,D.le,D.le.go]
  ·rw [firstBad_ok fun k hk=>by rw [Nat.zero_add];exact hb k hk (by omega)] at hres
   dsimp only at hres
   refine AW_exit (hK2 _ ?_);refine AW_then fun K6 hK6=>?_;refine rg0 [1,88,89,90] [] ?_;refine AW_for (S:=Nat) (fun n=>n≤p.rungs.length∧∀ k (hk:k < p.rungs.length),k < n→badG p p.rungs[k]=0) (fun n=>⟨lst [(1,.d (.ip [.sl none (p.names.map cNm),.sl none (p.rungs.map cRg)])),(88,.d (.sl none (p.rungs.map cRg))),(89,int p.rungs.length),(90,int n)],hlst []⟩) (fun n=>p.rungs.length - n) 0 ?_ (by simp) ?_
   ·refine Imp.to' (fun _ _=>trivial) (by simp) (by simp)
   ·rintro n ⟨hn,hb⟩
    refine rg0 [1,88,89,90,91] [] ?_;refine AW_then fun K7 hK7=>?_;refine AW_cond' (b:=n < p.rungs.length) (by simp [D.le,D.le.go,takeMap]) (fun hc=>?_) (fun hc=>?_)
    ·have hlt:=hc
     have hgo:badG p p.rungs[n]≠0→res=some (badG p p.rungs[n],some (p.names.length+n)):=fun hne=>by
      rw [← hres,firstBad_at (i:=0) hlt (fun k hk hkn=>hb k hk hkn) hne];simp
     have hcells:cRg p.rungs[n]=[.v (.int .i64 p.rungs[n].kind),dS p.rungs[n].name,dC p.rungs[n].cond]:=rfl
     have hck:=hchk p.rungs[n] (hcb _ (List.getElem_mem hlt))
     simp only [dRg,hcells] at hck;generalize hv:badG p p.rungs[n]=v at hck hgo
     obtain ⟨tc,hdc,hsc⟩:∃ tc,dC p.rungs[n].cond=tc∧((∃ a b,tc = .ifc a b)∨tc = .v .nilIface):=by
      cases p.rungs[n].cond with
      | none=>exact ⟨_,rfl,.inr rfl⟩
      | some e=>obtain ⟨a,b,h⟩:=dE_ifc e;exact ⟨_,rfl,.inl ⟨a,b,h⟩⟩
     rw [hdc] at hcells hck;generalize p.rungs[n].kind=kd at hcells hck;generalize p.rungs[n].name=nm at hcells hck;simp only [dS] at hcells hck
     have hlt':(p.names.length:Int)+(n:Int)≤2^62:=by omega
     refine AW_skip (hK7 _ ?_);refine AW_then fun K8 hK8=>?_;refine AW_block ?_
     rcases hsc with ⟨ta,tb2,rfl⟩ | rfl
     all_goals
      ·have qf:=(Aq @hlt @hcells)
       refine rgqv [1,7,8,88,89,90] [8] ?_;refine AW.imp (Imp.freezeB 8 trivial) ?_;refine AW.st (by simp;rfl) ?_;refine rgc trivial hck [1,7,9,88,89,90] [] ?_
       by_cases hv0:v=0
       ·have qf:=@hv0
        refine rgqv [1,7,9,88,89,90,99] [] ?_;refine AW_ff rfl ?_;refine AW_skip (hK8 _ ?_);refine AW_re (tyOf_good _) fun K' hK'=>?_;(repeat (refine sxn fun K2 hK2=>?_;simp;(repeat (refine ⟨by omega,?_⟩));refine hK2 _ ?_;clear hK2 K2));refine sxz (hK' _ ?_);clear hK' K';(try simp only [thn,inb]);refine Again.mk (n+1) ⟨by omega,fun k hk hkn=>?_⟩ (by omega) ?_
        ·by_cases h:k=n
         ·subst h;rw [hv,hv0]
         ·exact hb k hk (by omega)
        refine Imp.to' (fun _ _=>trivial) (by simp) (by simp)
       ·have qf:=@hv0
        refine rgqv [1,7,9,88,89,90,99] [] ?_;refine AW_tt rfl ?_;refine rg0 [2] [107] ?_;refine AW_ret ?_;simp [D.le,D.le.go,takeMap];simp [hgo hv0,dErr,D.le,D.le.go]
    ·rw [firstBad_ok fun k hk=>hb k hk (by omega)] at hres;refine AW_exit (hK6 _ ?_);refine rg0 [2] [] ?_;refine AW_ret ?_;simp [D.le,D.le.go,takeMap];simp [← hres,dErr]
end Go.Proofs.YthnjfeielmbfkaaGreatDoor
namespace Go.Proofs.YthnjfeielmbfkaaGreatDoor
open Go.Av
def cRw' (r:RgP):List D:=[.v (.int .i64 r.kind),dS r.name,dOR r.cond]
def cPw (p:PgP):List D:=[dNms p.names,.sl none (p.rungs.map cRw')]
def dPw (p:PgP):D:=.agg (cPw p)
set_option maxHeartbeats 2000000 in
theorem wnum_spec (G:Glob) (p:PgP) (hl:p.names.length < 2^62) (s:List UInt8):PureC Tryz.prog G 82 [dPw p,dS s] (.v (.int .i64 (numP p s))):=by
 unfold numP;simp only [dPw,cPw,dNms,dS];generalize p.rungs.map cRw'=R;refine PureC.of_body (tyOf_good _) Tryz.func82 rfl rfl (rs:=[.tmp 4]) Tryz.results82 (by simp [Tryz.ntmps82]) fun X=>?_;simp only [Tryz.ntmps82,List.map];refine rg0 [1,2] [2] ?_;refine AW.imp (Imp.freezeB 2 trivial) ?_;refine AW.st (by simp;rfl) ?_;refine AW_then fun K1 hK1=>?_;refine rg0 [1,8,9,10] [] ?_;refine AW_for (S:=Nat) (fun n=>n≤p.names.length∧∀ i (hi:i < p.names.length),i < n→(p.names[i].name == s)=false) (fun n=>⟨lst [(1,.d (.v (.string (bs s)))),(8,.d (.sl none (p.names.map cNm))),(9,int p.names.length),(10,int n)],hlst []⟩) (fun n=>p.names.length - n) 0 ?_ (by simp) ?_
 ·refine Imp.to' (fun _ _=>trivial) (by simp) (by simp)
 ·rintro n ⟨hn,hp⟩
  refine rg0 [1,8,9,10,11] [] ?_;refine AW_then fun K2 hK2=>?_;refine AW_cond' (b:=n < p.names.length) (by simp [D.le,D.le.go,takeMap]) (fun hc=>?_) (fun hc=>?_)
  ·have hlt:=hc
   have hcn:cNm p.names[n]=[.v (.string (bs p.names[n].name)),.v (.int .i64 p.names[n].kind),.v (.int .i64 p.names[n].count)]:=rfl
   refine AW_skip (hK2 _ ?_);refine AW_then fun K3 hK3=>?_;refine AW_block ?_
   have qf:=(Aq @hlt @hcn)
   refine rgqv [1,5,6,8,9,10] [6] ?_;refine AW.imp (Imp.freezeB 6 trivial) ?_;refine AW.st (by simp;rfl) ?_
   by_cases heq:p.names[n].name=s
   ·refine rg [1,5,8,9,10,18] [] (fun _ _=>trivial) fun K' hK'=>?_;(repeat (refine sxn fun K2 hK2=>?_;simp [binS,bs_list,heq];(repeat (refine ⟨by omega,?_⟩));refine hK2 _ ?_;clear hK2 K2));refine sxz (hK' _ (AW.st (by simp [binS,bs_list,heq];rfl) ?_));clear hK' K';refine AW_tt rfl ?_;refine rg0 [4] [] ?_;refine AW_ret ?_;simp [D.le,D.le.go,takeMap];exact (idx_hit (p:=fun m:NmP=>m.name == s) hlt (by simp [heq]) fun i hi=>hp i (by omega) hi).symm
   ·refine rg [1,5,8,9,10,18] [] (fun _ _=>trivial) fun K' hK'=>?_;(repeat (refine sxn fun K2 hK2=>?_;simp [binS,bs_list,heq];(repeat (refine ⟨by omega,?_⟩));refine hK2 _ ?_;clear hK2 K2));refine sxz (hK' _ (AW.st (by simp [binS,bs_list,heq];rfl) ?_));clear hK' K';refine AW_cond false (by simp [heq]) (fun h=>by cases h) (fun _=>?_);refine AW_skip (hK3 _ ?_);refine AW_re (tyOf_good _) fun K' hK'=>?_;(repeat (refine sxn fun K2 hK2=>?_;simp;(repeat (refine ⟨by omega,?_⟩));refine hK2 _ ?_;clear hK2 K2));refine sxz (hK' _ ?_);clear hK' K';(try simp only [thn,inb]);refine Again.mk (n+1) ⟨by omega,fun i hi hin=>?_⟩ (by omega) ?_
    ·by_cases h:i=n
     ·subst h;simpa using heq
     ·exact hp i hi (by omega)
    refine Imp.to' (fun _ _=>trivial) (by simp) (by simp)
  ·refine AW_exit (hK1 _ ?_);refine rg0 [4] [] ?_;refine AW_ret ?_;simp [D.le,D.le.go,takeMap];exact (idx_miss (p:=fun m:NmP=>m.name == s) fun i hi=>hp i hi (by omega)).symm
def kindN (l:List NmP) (k:Int):Nat→List Int
 | 0=>[]
 | i+1=>kindN l k i ++ if (l.getD i ⟨[],0,0⟩).kind=k then [(i:Int)] else []
theorem kindN_len (l:List NmP) (k:Int):∀ n,(kindN l k n).length≤n
 | 0=>Nat.le_refl _
 | n+1=>by rw [kindN,List.length_append];have:=kindN_len l k n;split<;>simp<;>omega
theorem kindN_zero (l:List NmP) (k:Int):kindN l k 0=[]:=rfl
theorem kindN_succ {l:List NmP} {k:Int} {i:Nat} (h:i < l.length):kindN l k (i+1)=kindN l k i ++ if l[i].kind=k then [(i:Int)] else []:=by
 rw [kindN,List.getD_eq_getElem?_getD,List.getElem?_eq_getElem h];rfl
set_option maxHeartbeats 4000000 in
theorem lkind_spec (G:Glob) (p:PgP) (hl:p.names.length < 2^40) (k:Int):PureC Tryz.prog G 12 [dPg p,.v (.int .i64 k)] (.sl none ((kindN p.names k p.names.length).map fun x=>[.v (.int .i64 x)])):=by
 simp only [dPg,cPg,dNms,dRgs];generalize p.rungs.map cRg=R;refine PureC.of_body (tyOf_good _) Tryz.func12 rfl rfl (rs:=[.tmp 4]) Tryz.results12 (by simp [Tryz.ntmps12]) fun X=>?_;simp only [Tryz.ntmps12,List.map];refine rg0 [1,2] [2] ?_;refine AW.imp (Imp.freezeB 2 trivial) ?_;refine AW.st (by simp;rfl) ?_;refine rg0 [1,2,5] [] ?_;refine AW_then fun K1 hK1=>?_;refine rg0 [1,5,9,10,11] [] ?_;refine AW_for (S:=Nat) (fun i=>i≤p.names.length) (fun i=>⟨lst [(1,.d (.v (.int .i64 k))),(5,.own 300 0 (kindN p.names k i).length),(9,.d (.sl none (p.names.map cNm))),(10,int p.names.length),(11,int i)],hlst [(300,.sl 3 1 ((kindN p.names k i).map fun x=>[.v (.int .i64 x)]))]⟩) (fun i=>p.names.length - i) 0 ?_ (by simp) ?_
 ·refine (Imp.adopt 5 300 3 1 rfl rfl).trans ?_;refine Imp.to' (fun _ _=>trivial) (by simp [kindN_zero]) (by simp [kindN_zero])
 ·intro i hi
  have hkl:=kindN_len p.names k i
  have hsuc:=fun h=>kindN_succ (l:=p.names) (k:=k) (i:=i) h
  generalize hkL:kindN p.names k i=L at hkl hsuc ⊢;refine rg0 [1,5,9,10,11,12] [300] ?_;refine AW_then fun K2 hK2=>?_;refine AW_cond' (b:=i < p.names.length) (by simp [D.le,D.le.go,takeMap]) (fun hc=>?_) (fun hc=>?_)
  ·have hlt:=hc
   have hs2:=hsuc hlt
   have hcn:cNm p.names[i]=[.v (.string (bs p.names[i].name)),.v (.int .i64 p.names[i].kind),.v (.int .i64 p.names[i].count)]:=rfl
   generalize p.names[i].name=nm at hcn;generalize p.names[i].kind=kd at hcn hs2;generalize p.names[i].count=ct at hcn;refine AW_skip (hK2 _ ?_);refine AW_then fun K3 hK3=>?_;refine AW_block ?_
   have qf:=(Aq @hlt @hcn)
   refine rgqv [1,5,6,7,9,10,11] [300,7] ?_;refine AW.imp (Imp.freezeB 7 trivial) ?_;refine AW.st (by simp;rfl) ?_
   by_cases heq:kd=k
   ·rw [if_pos heq] at hs2
    have qf:=@heq
    refine rgqv [1,5,6,9,10,11,19] [300] ?_;refine AW_tt rfl ?_;refine AW_re (tyOf_good _) fun K' hK'=>?_;(repeat (refine sxn fun K2 hK2=>?_;simp [List.take_of_length_le];(repeat (refine ⟨by omega,?_⟩));refine hK2 _ ?_;clear hK2 K2));refine sxz (hK' _ ?_);clear hK' K';refine hK3 _ (AW.norm [1,5,9,10,11] [300] (fun _ _=>trivial) (AW.st (by simp [List.take_of_length_le];rfl) ?_));refine AW_re (tyOf_good _) fun K' hK'=>?_;(repeat (refine sxn fun K2 hK2=>?_;simp;(repeat (refine ⟨by omega,?_⟩));refine hK2 _ ?_;clear hK2 K2));refine sxz (hK' _ ?_);clear hK' K';(try simp only [thn,inb]);refine Again.mk (i+1) (by omega) (by omega) ?_;refine Imp.to' (fun _ _=>trivial) (by simp [hs2]) (by simp [hs2])
   ·rw [if_neg heq,List.append_nil] at hs2
    have qf:=@heq
    refine rgqv [1,5,6,9,10,11,19] [300] ?_;refine AW_ff rfl ?_;refine AW_skip (hK3 _ ?_);refine AW_re (tyOf_good _) fun K' hK'=>?_;(repeat (refine sxn fun K2 hK2=>?_;simp;(repeat (refine ⟨by omega,?_⟩));refine hK2 _ ?_;clear hK2 K2));refine sxz (hK' _ ?_);clear hK' K';(try simp only [thn,inb]);refine Again.mk (i+1) (by omega) (by omega) ?_;refine Imp.to' (fun _ _=>trivial) (by simp [hs2]) (by simp [hs2])
  ·obtain rfl:i=p.names.length:=by omega
   refine AW_exit (hK1 _ ?_);refine AW.imp (Imp.freeze 300 trivial) ?_;refine AW.st (by simp [List.take_of_length_le];rfl) ?_;refine rg0 [4] [] ?_;refine AW_ret ?_;simp [D.le,D.le.go,takeMap,D.leGo_refl,D.le_refl,hkL]
set_option maxHeartbeats 4000000 in
theorem wkind_spec (G:Glob) (p:PgP) (hl:p.names.length < 2^40) (k:Int):PureC Tryz.prog G 29 [dPw p,.v (.int .i64 k)] (.sl none ((kindN p.names k p.names.length).map fun x=>[.v (.int .i64 x)])):=by
 simp only [dPw,cPw,dNms,dRgs];generalize p.rungs.map cRw'=R;refine PureC.of_body (tyOf_good _) Tryz.func29 rfl rfl (rs:=[.tmp 4]) Tryz.results29 (by simp [Tryz.ntmps29]) fun X=>?_;simp only [Tryz.ntmps29,List.map];refine rg0 [1,2] [2] ?_;refine AW.imp (Imp.freezeB 2 trivial) ?_;refine AW.st (by simp;rfl) ?_;refine rg0 [1,2,5] [] ?_;refine AW_then fun K1 hK1=>?_;refine rg0 [1,5,9,10,11] [] ?_;refine AW_for (S:=Nat) (fun i=>i≤p.names.length) (fun i=>⟨lst [(1,.d (.v (.int .i64 k))),(5,.own 300 0 (kindN p.names k i).length),(9,.d (.sl none (p.names.map cNm))),(10,int p.names.length),(11,int i)],hlst [(300,.sl 3 1 ((kindN p.names k i).map fun x=>[.v (.int .i64 x)]))]⟩) (fun i=>p.names.length - i) 0 ?_ (by simp) ?_
 ·refine (Imp.adopt 5 300 3 1 rfl rfl).trans ?_;refine Imp.to' (fun _ _=>trivial) (by simp [kindN_zero]) (by simp [kindN_zero])
 ·intro i hi
  have hkl:=kindN_len p.names k i
  have hsuc:=fun h=>kindN_succ (l:=p.names) (k:=k) (i:=i) h
  generalize hkL:kindN p.names k i=L at hkl hsuc ⊢;refine rg0 [1,5,9,10,11,12] [300] ?_;refine AW_then fun K2 hK2=>?_;refine AW_cond' (b:=i < p.names.length) (by simp [D.le,D.le.go,takeMap]) (fun hc=>?_) (fun hc=>?_)
  ·have hlt:=hc
   have hs2:=hsuc hlt
   have hcn:cNm p.names[i]=[.v (.string (bs p.names[i].name)),.v (.int .i64 p.names[i].kind),.v (.int .i64 p.names[i].count)]:=rfl
   generalize p.names[i].name=nm at hcn;generalize p.names[i].kind=kd at hcn hs2;generalize p.names[i].count=ct at hcn;refine AW_skip (hK2 _ ?_);refine AW_then fun K3 hK3=>?_;refine AW_block ?_
   have qf:=(Aq @hlt @hcn)
   refine rgqv [1,5,6,7,9,10,11] [300,7] ?_;refine AW.imp (Imp.freezeB 7 trivial) ?_;refine AW.st (by simp;rfl) ?_
   by_cases heq:kd=k
   ·rw [if_pos heq] at hs2
    have qf:=@heq
    refine rgqv [1,5,6,9,10,11,19] [300] ?_;refine AW_tt rfl ?_;refine AW_re (tyOf_good _) fun K' hK'=>?_;(repeat (refine sxn fun K2 hK2=>?_;simp [List.take_of_length_le];(repeat (refine ⟨by omega,?_⟩));refine hK2 _ ?_;clear hK2 K2));refine sxz (hK' _ ?_);clear hK' K';refine hK3 _ (AW.norm [1,5,9,10,11] [300] (fun _ _=>trivial) (AW.st (by simp [List.take_of_length_le];rfl) ?_));refine AW_re (tyOf_good _) fun K' hK'=>?_;(repeat (refine sxn fun K2 hK2=>?_;simp;(repeat (refine ⟨by omega,?_⟩));refine hK2 _ ?_;clear hK2 K2));refine sxz (hK' _ ?_);clear hK' K';(try simp only [thn,inb]);refine Again.mk (i+1) (by omega) (by omega) ?_;refine Imp.to' (fun _ _=>trivial) (by simp [hs2]) (by simp [hs2])
   ·rw [if_neg heq,List.append_nil] at hs2
    have qf:=@heq
    refine rgqv [1,5,6,9,10,11,19] [300] ?_;refine AW_ff rfl ?_;refine AW_skip (hK3 _ ?_);refine AW_re (tyOf_good _) fun K' hK'=>?_;(repeat (refine sxn fun K2 hK2=>?_;simp;(repeat (refine ⟨by omega,?_⟩));refine hK2 _ ?_;clear hK2 K2));refine sxz (hK' _ ?_);clear hK' K';(try simp only [thn,inb]);refine Again.mk (i+1) (by omega) (by omega) ?_;refine Imp.to' (fun _ _=>trivial) (by simp [hs2]) (by simp [hs2])
  ·obtain rfl:i=p.names.length:=by omega
   refine AW_exit (hK1 _ ?_);refine AW.imp (Imp.freeze 300 trivial) ?_;refine AW.st (by simp [List.take_of_length_le];rfl) ?_;refine rg0 [4] [] ?_;refine AW_ret ?_;simp [D.le,D.le.go,takeMap,D.leGo_refl,D.le_refl,hkL]
end Go.Proofs.YthnjfeielmbfkaaGreatDoor
