/-
  Texts that belong together,in one file: SR5,SR6,P7,R1.
-/
import Derived.Test.YthnjfeielmbfkaaGreatDoorSy43
set_option linter.unusedSimpArgs false
set_option linter.unusedVariables false
namespace Go.Proofs.YthnjfeielmbfkaaGreatDoor
open Go.Av
theorem take_s {α:Type} (f:α→List D) {l:List α} {n:Nat} (h:n < l.length):(l.take (n+1)).map f=(l.take n).map f ++ [f l[n]]:=by
 rw [List.take_succ_eq_append_getElem h,List.map_append];rfl
set_option maxRecDepth 100000 in
set_option maxHeartbeats 8000000 in
theorem tells_spec (G:Glob) (p:PgP) (hg:GoodP p) (s:StP) (hl1:s.is.length=p.names.length) (hl2:s.ct.length=p.names.length) (I C:List (Value×Value)) (hr:RelS p s I C) :
  PureC Tryz.prog G 33 [.agg [.dm false I,.dm false C],dPw p] (.tup [dBl s.is,dIl s.ct]):=by
 have hnm:=hg.names
 have okI:=hr.okI
 have okC:=hr.okC
 have hk0:=keys_dmE okI
 simp at hk0
 have hk1:=eq_true hk0
 have hk2:=keys_dmE okC
 simp at hk2
 have hk3:=eq_true hk2
 have nd1:=okI.once
 have nd2:=okC.once
 have hIb:∀ i (hi:i < p.names.length),(entGet (.string (bs p.names[i].name)) (dmE I)=none∧s.is.getD i false=false)∨entGet (.string (bs p.names[i].name)) (dmE I)=some (.v (.bool (s.is.getD i false))):=fun i hi=>by
  rw [entGet_dmE,← hr.is i hi]
  cases h:lookK I (bs p.names[i].name) with
  | none=>exact .inl ⟨rfl,rfl⟩
  | some v=>obtain ⟨b,rfl⟩:=hr.bI _ v h;exact .inr rfl
 have hCi:∀ i (hi:i < p.names.length),(entGet (.string (bs p.names[i].name)) (dmE C)=none∧s.ct.getD i 0=0)∨entGet (.string (bs p.names[i].name)) (dmE C)=some (.v (.int .i64 (s.ct.getD i 0))):=fun i hi=>by
  rw [entGet_dmE,← hr.ct i hi]
  cases h:lookK C (bs p.names[i].name) with
  | none=>exact .inl ⟨rfl,rfl⟩
  | some v=>obtain ⟨b,rfl⟩:=hr.iC _ v h;exact .inr rfl
 obtain ⟨IS,CT⟩:=s
 dsimp only at hl1 hl2 hIb hCi ⊢
 clear hr okI okC hk0 hk2;simp only [dPw,cPw,dNms,dBl,dIl]
 have hNl:(p.names.map cNm).length=p.names.length:=by simp
 have hNg:∀ i (h:i < p.names.length),(p.names.map cNm)[i]? = some [.v (.string (bs p.names[i].name)),.v (.int .i64 p.names[i].kind),.v (.int .i64 p.names[i].count)]:=fun i h=>by simp [h,cNm,dS]
 generalize p.names.map cNm=NN at *;generalize p.rungs.map cRw'=RR at *;refine PureC.of_body (tyOf_good _) Tryz.func33 rfl rfl (rs:=[.tmp 4,.tmp 5]) Tryz.results33 (by simp [Tryz.ntmps33]) fun X=>?_;simp only [Tryz.ntmps33,List.map];refine rg0 [2,3] [2,3] ?_;refine AW.imp (Imp.freezeB 2 trivial) ?_;refine AW.st (by simp;rfl) ?_;refine AW.imp (Imp.freezeB 3 trivial) ?_;refine AW.st (by simp;rfl) ?_;refine rg0 [2,3,6] [] ?_;refine rg0 [2,3,6,7] [] ?_;refine AW_then fun K1 hK1=>?_;refine rg0 [2,6,7,11,12,13] [] ?_;refine AW_for (S:=Nat) (fun n=>n≤p.names.length) (fun n=>⟨lst [(2,.d (.ip [.dm false I,.dm false C])),(6,.own 300 0 n),(7,.own 301 0 n),(11,.d (.sl none NN)),(12,int NN.length),(13,int n)],hlst [(300,.sl 4 1 ((IS.take n).map fun b=>[.v (.bool b)])),(301,.sl 3 1 ((CT.take n).map fun n=>[.v (.int .i64 n)]))]⟩) (fun n=>p.names.length - n) 0 ?_ (by omega) ?_
 ·refine ((Imp.adopt 6 300 4 1 rfl rfl).trans (Imp.adopt 7 301 3 1 rfl rfl)).trans ?_;refine Imp.to' (fun _ _=>trivial) (by simp) (by simp)
 ·intro n hn
  have hs1:=fun h=>take_s (fun b=>[D.v (.bool b)]) (l:=IS) (n:=n) h
  have hs2:=fun h=>take_s (fun n=>[D.v (.int .i64 n)]) (l:=CT) (n:=n) h
  have hp1:((IS.take n).map fun b=>[D.v (.bool b)]).length=n:=by simp;omega
  have hp2:((CT.take n).map fun n=>[D.v (.int .i64 n)]).length=n:=by simp;omega
  have hpe1:n=p.names.length→(IS.take n).map (fun b=>[D.v (.bool b)])=IS.map fun b=>[.v (.bool b)]:=fun h=>by rw [List.take_of_length_le (by omega)]
  have hpe2:n=p.names.length→(CT.take n).map (fun n=>[D.v (.int .i64 n)])=CT.map fun n=>[.v (.int .i64 n)]:=fun h=>by rw [List.take_of_length_le (by omega)]
  generalize (IS.take n).map (fun b=>[D.v (.bool b)])=P1 at hs1 hp1 hpe1 ⊢;generalize (CT.take n).map (fun n=>[D.v (.int .i64 n)])=P2 at hs2 hp2 hpe2 ⊢;refine rg0 [2,6,7,11,12,13,14] [300,301] ?_;refine AW_then fun K2 hK2=>?_;refine AW_cond' (b:=n < NN.length) (by simp [D.le,D.le.go,takeMap]) (fun hc=>?_) (fun hc=>?_)
  ·have hlt:n < p.names.length:=by omega
   have hN2:NN[n]=[.v (.string (bs p.names[n].name)),.v (.int .i64 p.names[n].kind),.v (.int .i64 p.names[n].count)]:=by
    have:=hNg n hlt
    rw [List.getElem?_eq_getElem hc] at this;exact Option.some.inj this
   have hs1:=hs1 (by omega)
   have hs2:=hs2 (by omega)
   have hIb:=hIb n hlt
   have hCi:=hCi n hlt
   rw [getD_of (by omega:n < IS.length)] at hIb;rw [getD_of (by omega:n < CT.length)] at hCi;generalize bs p.names[n].name=nm at hN2 hIb hCi;generalize p.names[n].kind=kd at hN2;generalize p.names[n].count=ct at hN2;generalize IS[n]=b at hs1 hIb;generalize CT[n]=c at hs2 hCi;refine AW_skip (hK2 _ ?_);refine AW_then fun K3 hK3=>?_;refine AW_block ?_
   have qf:=(Aq @hc @hN2)
   refine rgqv [2,6,7,9,11,12,13] [300,301,9] ?_;refine AW.imp (Imp.freezeB 9 trivial) ?_;refine AW.st (by simp;rfl) ?_
   rcases hIb with ⟨h1,h1b⟩ | h1
   ·subst h1b
    rcases hCi with ⟨h2,h2b⟩ | h2
    ·subst h2b;refine AW_rle (tyOf_good _) (by kernel_rfl) ([(7,(300,23)),(15,(301,31))]) ([(8,[300]),(9,[300]),(10,[300]),(11,[300]),(12,[300]),(13,[300]),(14,[300])]) ([0,1,2,3,4,5,8,9,10,11,12,13,6,14,7,15,16,17]) (by kernel_rfl) fun K' hK'=>?_;(repeat (refine sxl_nextO rfl fun K2 hK2=>?_;simp [h1,h2,hk1,hk3,nd1,nd2,ofOk,zeroM,hp1,hp2,List.take_of_length_le];(repeat (refine ⟨by omega,?_⟩));refine hK2 _ ?_;clear hK2 K2));refine sxl_nilO (hK' _ ?_);clear hK' K';refine hK3 _ (AW.norm [2,6,7,11,12,13] [300,301] (fun _ _=>trivial) (AW.st (by simp [h1,h2,hk1,hk3,nd1,nd2,ofOk,zeroM,hp1,hp2,List.take_of_length_le];rfl) ?_));refine AW_re (tyOf_good _) fun K' hK'=>?_;(repeat (refine sxn fun K2 hK2=>?_;simp;(repeat (refine ⟨by omega,?_⟩));refine hK2 _ ?_;clear hK2 K2));refine sxz (hK' _ ?_);clear hK' K';(try simp only [thn,inb]);refine Again.mk (n+1) (by omega) (by omega) ?_;rw [hs1,hs2];refine Imp.to' (fun _ _=>trivial) (by simp) (by simp)
    ·skip
     refine AW_rle (tyOf_good _) (by kernel_rfl) ([(7,(300,23)),(15,(301,31))]) ([(8,[300]),(9,[300]),(10,[300]),(11,[300]),(12,[300]),(13,[300]),(14,[300])]) ([0,1,2,3,4,5,8,9,10,11,12,13,6,14,7,15,16,17]) (by kernel_rfl) fun K' hK'=>?_;(repeat (refine sxl_nextO rfl fun K2 hK2=>?_;simp [h1,h2,hk1,hk3,nd1,nd2,ofOk,zeroM,hp1,hp2,List.take_of_length_le];(repeat (refine ⟨by omega,?_⟩));refine hK2 _ ?_;clear hK2 K2));refine sxl_nilO (hK' _ ?_);clear hK' K';refine hK3 _ (AW.norm [2,6,7,11,12,13] [300,301] (fun _ _=>trivial) (AW.st (by simp [h1,h2,hk1,hk3,nd1,nd2,ofOk,zeroM,hp1,hp2,List.take_of_length_le];rfl) ?_));refine AW_re (tyOf_good _) fun K' hK'=>?_;(repeat (refine sxn fun K2 hK2=>?_;simp;(repeat (refine ⟨by omega,?_⟩));refine hK2 _ ?_;clear hK2 K2));refine sxz (hK' _ ?_);clear hK' K';(try simp only [thn,inb]);refine Again.mk (n+1) (by omega) (by omega) ?_;rw [hs1,hs2];refine Imp.to' (fun _ _=>trivial) (by simp) (by simp)
   ·skip
    rcases hCi with ⟨h2,h2b⟩ | h2
    ·subst h2b;refine AW_rle (tyOf_good _) (by kernel_rfl) ([(7,(300,23)),(15,(301,31))]) ([(8,[300]),(9,[300]),(10,[300]),(11,[300]),(12,[300]),(13,[300]),(14,[300])]) ([0,1,2,3,4,5,8,9,10,11,12,13,6,14,7,15,16,17]) (by kernel_rfl) fun K' hK'=>?_;(repeat (refine sxl_nextO rfl fun K2 hK2=>?_;simp [h1,h2,hk1,hk3,nd1,nd2,ofOk,zeroM,hp1,hp2,List.take_of_length_le];(repeat (refine ⟨by omega,?_⟩));refine hK2 _ ?_;clear hK2 K2));refine sxl_nilO (hK' _ ?_);clear hK' K';refine hK3 _ (AW.norm [2,6,7,11,12,13] [300,301] (fun _ _=>trivial) (AW.st (by simp [h1,h2,hk1,hk3,nd1,nd2,ofOk,zeroM,hp1,hp2,List.take_of_length_le];rfl) ?_));refine AW_re (tyOf_good _) fun K' hK'=>?_;(repeat (refine sxn fun K2 hK2=>?_;simp;(repeat (refine ⟨by omega,?_⟩));refine hK2 _ ?_;clear hK2 K2));refine sxz (hK' _ ?_);clear hK' K';(try simp only [thn,inb]);refine Again.mk (n+1) (by omega) (by omega) ?_;rw [hs1,hs2];refine Imp.to' (fun _ _=>trivial) (by simp) (by simp)
    ·skip
     refine AW_rle (tyOf_good _) (by kernel_rfl) ([(7,(300,23)),(15,(301,31))]) ([(8,[300]),(9,[300]),(10,[300]),(11,[300]),(12,[300]),(13,[300]),(14,[300])]) ([0,1,2,3,4,5,8,9,10,11,12,13,6,14,7,15,16,17]) (by kernel_rfl) fun K' hK'=>?_;(repeat (refine sxl_nextO rfl fun K2 hK2=>?_;simp [h1,h2,hk1,hk3,nd1,nd2,ofOk,zeroM,hp1,hp2,List.take_of_length_le];(repeat (refine ⟨by omega,?_⟩));refine hK2 _ ?_;clear hK2 K2));refine sxl_nilO (hK' _ ?_);clear hK' K';refine hK3 _ (AW.norm [2,6,7,11,12,13] [300,301] (fun _ _=>trivial) (AW.st (by simp [h1,h2,hk1,hk3,nd1,nd2,ofOk,zeroM,hp1,hp2,List.take_of_length_le];rfl) ?_));refine AW_re (tyOf_good _) fun K' hK'=>?_;(repeat (refine sxn fun K2 hK2=>?_;simp;(repeat (refine ⟨by omega,?_⟩));refine hK2 _ ?_;clear hK2 K2));refine sxz (hK' _ ?_);clear hK' K';(try simp only [thn,inb]);refine Again.mk (n+1) (by omega) (by omega) ?_;rw [hs1,hs2];refine Imp.to' (fun _ _=>trivial) (by simp) (by simp)
  ·have hne:n=p.names.length:=by omega
   refine AW_exit (hK1 _ ?_);rw [hpe1 hne] at hp1 ⊢;rw [hpe2 hne] at hp2 ⊢;refine AW.imp (Imp.freeze 300 trivial) ?_;refine AW.st (by simp [hp1,List.take_of_length_le];rfl) ?_;refine AW.imp (Imp.freeze 301 trivial) ?_;refine AW.st (by simp [hp2,List.take_of_length_le];rfl) ?_;refine rg0 [4,5] [] ?_;refine AW_ret ?_;simp [D.le,D.le.go,takeMap,D.le_refl,D.leGo_refl]
set_option maxHeartbeats 8000000 in
theorem both_spec (G:Glob) (hF:HasFine G) (hM:HasMax G) (hP:HasP10 G) (hG:HasErr G) {es er:Value} (hE:HasNE G es er) (hNW:HasNW G) (hRW:HasRW G) (t:Tx):PureC Tryz.prog G 28 [dS t] (dBoth (readP t)):=by
 have hp:=lparse_spec G hM hP hG hE t
 have hw:=rpparse_spec G hF hM hP hE hNW hRW t
 unfold readP;simp only [dS] at hp hw ⊢
 by_cases hl:1500 < t.length
 ·have hl':(1500:Int) < (t.length:Int):=by omega
  rw [if_pos hl];simp only [dBoth,dPg0,dPw0];refine PureC.of_body (tyOf_good _) Tryz.func28 rfl rfl (rs:=[.cell 2 29,.cell 3 78,.tmp 4]) Tryz.results28 (by simp [Tryz.ntmps28]) fun X=>?_;simp only [Tryz.ntmps28,List.map];refine rg0 [0,2,3] [2,3] ?_;refine AW_then fun K1 hK1=>?_
  have qf:=(Aq @bs_size @hl')
  refine rgqv [0,2,3,11] [2,3] ?_;refine AW_cond true (by simp [hl']) (fun _=>?_) (fun h=>by cases h);refine rg0 [2,3,4] [2,3] ?_;refine AW_ret ?_;simp [D.le,D.le.go,takeMap,D.le_refl,D.leGo_refl]
 ·have hl':¬ (1500:Int) < (t.length:Int):=by omega
  rw [if_neg hl]
  cases hpe:(parseP t).1 with
  | none=>
   obtain ⟨q,hq⟩:∃ q,parseP t=(none,q):=⟨(parseP t).2,by rw [← hpe]⟩
   rw [hq] at hp hw ⊢;simp only [dBoth,dErr,dPg,cPg,dPw,cPw,dNms,dRgs,dFault,codeF,placeF,dNum] at hp hw ⊢;generalize q.names.map cNm=NN at *;generalize q.rungs.map cRg=RR at *;generalize q.rungs.map cRw'=RW at *;refine PureC.of_body (tyOf_good _) Tryz.func28 rfl rfl (rs:=[.cell 2 29,.cell 3 78,.tmp 4]) Tryz.results28 (by simp [Tryz.ntmps28]) fun X=>?_;simp only [Tryz.ntmps28,List.map];refine rg0 [0,2,3] [2,3] ?_;refine AW_then fun K1 hK1=>?_
   have qf:=(Aq @bs_size @hl')
   refine rgqv [0,2,3,11] [2,3] ?_;refine AW_cond false (by simp<;>omega) (fun h=>by cases h) (fun _=>?_);refine AW_skip (hK1 _ ?_);refine rgc trivial hw [0,2,3,5,6] [2,3,5,6] ?_;refine AW.imp (Imp.freezeB 5 trivial) ?_;refine AW.st (by simp;rfl) ?_;refine AW.imp (Imp.freezeB 6 trivial) ?_;refine AW.st (by simp;rfl) ?_;refine AW_then fun K2 hK2=>?_;refine rg0 [0,2,3,5,21] [2,3] ?_;refine AW_ff rfl ?_;refine AW_skip (hK2 _ ?_);refine rgc trivial hp [2,3,5,7] [2,3,7] ?_;refine AW.imp (Imp.freezeB 7 trivial) ?_;refine AW.st (by simp;rfl) ?_;refine AW_rdg (tyOf_good _) (by kernel_rfl) [(0,999),(1,999),(2,2),(3,3)] [2,3,4] [2,3] (fun _ _=>trivial) (by kernel_rfl) fun K' hK'=>?_;(repeat (refine sxg_next fun K2 hK2=>?_;simp;(repeat (refine ⟨by omega,?_⟩));refine hK2 _ ?_;clear hK2 K2));refine sxg_nil (hK' _ ?_);refine AW.st (by simp;rfl) ?_;clear hK' K';refine AW_ret ?_;simp [D.le,D.le.go,takeMap,D.le_refl,D.leGo_refl]
  | some e=>
   have h2:=parse_err hpe
   have hq:parseP t=(some e,⟨[],[]⟩):=by rw [← hpe,← h2]
   rw [hq] at hw ⊢
   obtain ⟨c,o⟩:=e
   have hcn:=parseP_code hpe
   simp only [dBoth,dPg0,dPw0,dFault,codeF,dNum] at hw ⊢;generalize placeF (some (c,o))=pl at hw;refine PureC.of_body (tyOf_good _) Tryz.func28 rfl rfl (rs:=[.cell 2 29,.cell 3 78,.tmp 4]) Tryz.results28 (by simp [Tryz.ntmps28]) fun X=>?_;simp only [Tryz.ntmps28,List.map];refine rg0 [0,2,3] [2,3] ?_;refine AW_then fun K1 hK1=>?_
   have qf:=(Aq @bs_size @hl')
   refine rgqv [0,2,3,11] [2,3] ?_;refine AW_cond false (by simp<;>omega) (fun h=>by cases h) (fun _=>?_);refine AW_skip (hK1 _ ?_);refine rgc trivial hw [0,2,3,5,6] [2,3,5,6] ?_;refine AW.imp (Imp.freezeB 5 trivial) ?_;refine AW.st (by simp;rfl) ?_;refine AW.imp (Imp.freezeB 6 trivial) ?_;refine AW.st (by simp;rfl) ?_;refine AW_then fun K2 hK2=>?_;refine rg0 [0,2,3,5,21] [2,3] ?_;refine AW_cond true (by simp [hcn]) (fun _=>?_) (fun h=>by cases h);refine rg0 [2,3,4] [2,3] ?_;refine AW_ret ?_;simp [D.le,D.le.go,takeMap,D.le_refl,D.leGo_refl]
theorem takeQ_step {l l':List Bool} {n:Nat} (ht:l.take n=l'.take n) (h:n < l.length) (h':n < l'.length) (he:l[n]=l'[n]):l.take (n+1)=l'.take (n+1):=by
 rw [List.take_succ_eq_append_getElem h,List.take_succ_eq_append_getElem h',ht,he]
theorem takeQ_all {l l':List Bool} (hl:l.length=l'.length) (ht:l.take l.length=l'.take l.length):l=l':=by
 rw [List.take_length,hl,List.take_length] at ht;exact ht
set_option maxHeartbeats 1000000 in
theorem wsameBools_spec (G:Glob) (l l':List Bool) (h:l.length < 2^63):PureC Tryz.prog G 34 [dBl l,dBl l'] (.v (.bool (l == l'))):=by
 refine PureC.of_body (tyOf_good _) Tryz.func34 rfl rfl (rs:=[.tmp 4]) Tryz.results34 (by simp [Tryz.ntmps34]) fun X=>?_;simp only [Tryz.ntmps34,List.map]
 have fw:=@dNum.eq_1
 refine rgq fw [0,1] [] ?_;refine AW_then fun K1 hK1=>?_;refine rgq (Aq fw @dBl.eq_1) [0,1,10] [] ?_;refine AW_cond' (b:=l.length≠l'.length) (by simp [D.le,D.le.go,takeMap,dNum]) (fun hc=>?_) (fun hc=>?_)
 ·refine rgq fw [4] [] ?_;refine AW_ret ?_;simp [D.le,D.le.go,takeMap,dNum]
  intro e;subst e;simp at hc
 ·refine AW_skip (hK1 _ ?_)
  have hl:l.length=l'.length:=by simpa using hc
  refine AW_then fun K2 hK2=>?_;refine rgq (Aq fw @dBl.eq_1) [0,1,5] [] ?_;refine AW_for (S:=Nat) (fun n=>n≤l.length∧l.take n=l'.take n) (fun n=>⟨lst [(0,.d (dBl l)),(1,.d (dBl l')),(5,int n)],hlst []⟩) (fun n=>l.length - n) 0 ?_ (by simp) ?_
  ·refine Imp.to' (fun _ _=>trivial) (by simp [dNum,dBl]) (by simp [dNum,dBl])
  ·rintro n ⟨hn,ht⟩
   refine AW_then fun K3 hK3=>?_;refine rgq (Aq fw @dBl.eq_1) [0,1,5,14] [] ?_;refine AW_cond' (b:=n < l.length) (by simp [D.le,D.le.go,takeMap,dNum]) (fun hc=>?_) (fun hc=>?_)
   ·refine AW_skip (hK3 _ ?_);refine AW_then fun K4 hK4=>?_;refine AW_block ?_
    have hnl:n < l.length:=hc
    have hn':n < l'.length:=by omega
    cases he:(l[n] == l'[n]) with
    | false=>
     have qf:=(Aq fw (Aq @dBl.eq_1 (Aq @hnl (Aq @hn' @he))))
     refine rdqv [0,1,5,25] [] ?_;refine AW_tt rfl ?_;refine rgq fw [4] [] ?_;refine AW_ret ?_;simp [D.le,D.le.go,takeMap,dNum]
     intro e;subst e;simp at he
    | true=>
     have he2:l[n]=l'[n]:=by simpa using he
     have qf:=(Aq fw (Aq @dBl.eq_1 (Aq @hnl (Aq @hn' @he2))))
     refine rdqv [0,1,5,25] [] ?_;refine AW_ff rfl ?_;refine AW_skip ?_;refine hK4 _ (AW.norm [0,1,5] [] (fun _ _=>trivial) (AW.st (by simp [dNum];rfl) ?_));refine AW_re (tyOf_good _) fun K' hK'=>?_;(repeat (refine sxn fun K2 hK2=>?_;simp [dNum];(repeat (refine ⟨by omega,?_⟩));refine hK2 _ ?_;clear hK2 K2));refine sxz (hK' _ ?_);clear hK' K';(try simp only [thn,inb]);refine Again.mk (n+1) ⟨by omega,takeQ_step ht hnl hn' he2⟩ (by omega) ?_;refine Imp.to' (fun _ _=>trivial) (by simp [dNum,dBl]) (by simp [dNum,dBl])
   ·refine AW_exit (hK2 _ ?_);refine rgq fw [4] [] ?_;refine AW_ret ?_;simp [D.le,D.le.go,takeMap,dNum]
    have hnn:n=l.length:=by omega
    subst hnn;exact takeQ_all hl ht
end Go.Proofs.YthnjfeielmbfkaaGreatDoor
namespace Go.Proofs.YthnjfeielmbfkaaGreatDoor
open Go.Av
theorem oneDm (x:Bool) (e:List (Value×Value)):D.one (.dm x e)=true:=rfl
set_option maxHeartbeats 4000000 in
theorem play_limit (G:Glob) (a b:D) (els:List (List D)) (h:1000 < els.length):PureC Tryz.prog G 14 [.agg [a,b],.sl none els] (.tup [.sl none [],.ifc 62 (.v (.int .i64 4))]):=by
 have h1:(els.length:Int) > 1000:=by omega
 refine PureC.of_body (tyOf_good _) Tryz.func14 rfl rfl (rs:=[.tmp 4,.tmp 5]) Tryz.results14 (by simp [Tryz.ntmps14]) fun X=>?_;simp only [Tryz.ntmps14,List.map];refine rg0 [1,2] [2] ?_;refine AW.imp (Imp.freezeB 2 trivial) ?_;refine AW.st (by simp;rfl) ?_;refine AW_then fun K1 hK1=>?_
 have qf:=@h1
 refine rgqv [1,2,14] [] ?_;refine AW_cond true (by simp<;>omega) (fun _=>?_) (fun h=>by cases h);refine rg0 [4,5] [] ?_;refine AW_ret ?_;simp [D.le,D.le.go,takeMap]
set_option maxRecDepth 100000 in
set_option maxHeartbeats 8000000 in
theorem play_bad (G:Glob) (p:PgP) (hck:checkP p=none) (hk:∀ r∈p.rungs,CondOk r) (x:List Bool) (hx:x.length≠(inputP p).length):PureC Tryz.prog G 14 [dPg p,.sl none [[dBl x]]] (.tup [.sl none [],.ifc 62 (.v (.int .i64 2))]):=by
 have hnm:=(checkP_good hck).names
 have hcs:=ladderCheck_spec G p (small_of hck hk)
 rw [hck] at hcs
 have hst:=start_spec G p (by omega)
 have hstep:=step_bad G p hck hk (startP p) x (fun h=>hx h.1)
 simp only [dPg,cPg,dNms,dRgs,dBl,dIl,cSt,dSt,dErr] at hcs hst hstep ⊢;generalize p.names.map cNm=NN at *;generalize p.rungs.map cRg=RR at *;generalize (startP p).is.map (fun b=>[D.v (.bool b)])=SA at *;generalize (startP p).ct.map (fun n=>[D.v (.int .i64 n)])=SB at *;generalize x.map (fun b=>[D.v (.bool b)])=XX at *;refine PureC.of_body (tyOf_good _) Tryz.func14 rfl rfl (rs:=[.tmp 4,.tmp 5]) Tryz.results14 (by simp [Tryz.ntmps14]) fun X=>?_;simp only [Tryz.ntmps14,List.map];refine rg0 [1,2] [2] ?_;refine AW.imp (Imp.freezeB 2 trivial) ?_;refine AW.st (by simp;rfl) ?_;refine AW_then fun K1 hK1=>?_;refine rg0 [1,2,14] [] ?_;refine AW_ff rfl ?_;refine AW_skip (hK1 _ ?_);refine AW_then fun K2 hK2=>?_;refine rgc trivial hcs [1,2,6] [] ?_;refine rg0 [1,2,6,19] [] ?_;refine AW_ff rfl ?_;refine AW_skip (hK2 _ ?_);refine rgc trivial hst [1,2,7] [7] ?_;refine rg0 [1,2,7,8] [7] ?_;refine AW_then fun K3 hK3=>?_;refine rg0 [2,7,8,23,24,25] [7] ?_;refine AW_for (S:=Nat) (fun n=>n=0) (fun n=>⟨lst [(2,.d (.ip [.sl none NN,.sl none RR])),(7,.ref 7 0 0),(8,.d (.sl (some false) [])),(23,.d (.sl none [[.sl none XX]])),(24,int 1),(25,int 0)],hlst [(7,.box 45 [.d (.sl none SA),.d (.sl none SB)])]⟩) (fun n=>n) 0 ?_ rfl ?_
 ·refine Imp.to' (fun _ _=>trivial) (by simp) (by simp)
 ·intro n hn
  refine rg0 [2,7,8,23,24,25,26] [7] ?_;refine AW_then fun K4 hK4=>?_;refine AW_tt rfl ?_;refine AW_skip (hK4 _ ?_);refine AW_then fun K5 hK5=>?_;refine AW_block ?_;refine rg0 [2,7,8,10,23,24,25] [7] ?_;refine rg0 [2,7,8,10,23,24,25] [7] ?_;refine AW_then fun K6 hK6=>?_;refine rgc trivial hstep [2,7,8,11,23,24,25] [7] ?_;refine rg0 [2,7,8,11,23,24,25,37] [7] ?_;refine AW_tt rfl ?_;refine rg0 [4,5] [7] ?_;refine AW_ret ?_;simp [D.le,D.le.go,takeMap]
set_option maxRecDepth 100000 in
set_option maxHeartbeats 32000000 in
theorem splays_law (G:Glob) (hF:HasFine G) (hM:HasMax G) (hP:HasP10 G) (hG:HasErr G) {es er:Value} (hE:HasNE G es er) (hNW:HasNW G) (hRW:HasRW G) (t:Tx) (l:List Int) (more:Bool):PureC Tryz.prog G 7 [dS t,dIl l,.v (.bool more)] (.v (.bool true)):=by
 have hb:=both_spec G hF hM hP hG hE hNW hRW t
 simp only [dS,dIl] at hb ⊢
 have hLl:(l.map fun n=>[D.v (.int .i64 n)]).length=l.length:=by simp
 cases hre:readP t with
 | none=>
  rw [hre] at hb;simp only [dBoth,dPg0,dPw0] at hb;refine PureC.of_body (tyOf_good _) Tryz.func7 rfl rfl (rs:=[.tmp 6]) Tryz.results7 (by simp [Tryz.ntmps7]) fun X=>?_;simp only [Tryz.ntmps7,List.map];refine rg0 [0,1,2] [] ?_;refine rgc trivial hb [1,2,7,8,9] [7,8] ?_;refine AW_then fun K1 hK1=>?_;refine rg0 [1,2,7,8,39] [7,8] ?_;refine AW_tt rfl ?_;refine rg0 [6] [7,8] ?_;refine AW_ret ?_;simp [D.le,D.le.go,takeMap]
 | some p=>
  rw [hre] at hb
  obtain ⟨hck,hk⟩:=parse_ok (readP_some hre)
  have hg:=checkP_good hck
  have hnm:=hg.names
  simp only [dBoth,dPg,cPg,dPw,cPw,dNms,dRgs] at hb
  by_cases h60:(l.length:Int) > 60
  ·generalize p.names.map cNm=NN at *;generalize p.rungs.map cRg=RR at *;generalize p.rungs.map cRw'=RW at *;generalize (l.map fun n=>[D.v (.int .i64 n)])=LL at *
   have h60':(LL.length:Int) > 60:=by omega
   refine PureC.of_body (tyOf_good _) Tryz.func7 rfl rfl (rs:=[.tmp 6]) Tryz.results7 (by simp [Tryz.ntmps7]) fun X=>?_;simp only [Tryz.ntmps7,List.map];refine rg0 [0,1,2] [] ?_;refine rgc trivial hb [1,2,7,8,9] [7,8] ?_;refine AW_then fun K1 hK1=>?_
   have qf:=@h60'
   refine rgqv [1,2,7,8,39] [7,8] ?_;refine AW_cond true (by simp<;>omega) (fun _=>?_) (fun h=>by cases h);refine rg0 [6] [7,8] ?_;refine AW_ret ?_;simp [D.le,D.le.go,takeMap]
  have hwk:=wkind_spec G p (by omega) 1
  have hkI:kindN p.names 1 p.names.length=inputP p:=rfl
  rw [hkI] at hwk
  have hiL:=kindN_len p.names 1 p.names.length
  rw [hkI] at hiL
  have hin:=winputs_spec G l (inputP p).length (by omega) (by omega)
  have hpl:=play_good G p hck hk (inputsF l (inputP p).length) (by rw [inputsF_len];omega) inputsF_each
  have hPLl:=playP_len p (startP p) (inputsF l (inputP p).length)
  have hINl:=inputsF_len l (inputP p).length
  have hbe:=fun i hi=>behind_inv hck (inputsF l (inputP p).length) i hi
  have hPg0:=playP_get p (startP p) (inputsF l (inputP p).length)
  obtain ⟨MM,hMM0,hMMs⟩:∃ MM:Nat→Mp2,MM 0=([],[])∧∀ i (hi:i < (inputsF l (inputP p).length).length),MM (i+1)=mpStep p (behindP p (startP p) (inputsF l (inputP p).length) i) (inputsF l (inputP p).length)[i] (MM i):=by
   refine ⟨fun n=>Nat.rec ([],[]) (fun i m=>mpStep p (behindP p (startP p) (inputsF l (inputP p).length) i) ((inputsF l (inputP p).length).getD i []) m) n,rfl,fun i hi=>?_⟩
   show mpStep p _ ((inputsF l (inputP p).length).getD i []) _=_
   rw [getD_of hi]
  have hrel:∀ i,i≤(inputsF l (inputP p).length).length→RelS p (behindP p (startP p) (inputsF l (inputP p).length) i) (MM i).1 (MM i).2:=by
   intro i
   induction i with
   | zero=>intro _;rw [hMM0];exact rel_start
   | succ i ih=>
    intro hi
    rw [hMMs i (by omega),behind_succ _ _ (by omega)];exact mpStep_rel hck (hbe i (by omega)) _ (ih (by omega))
  have hstep:∀ i (hi:i < (inputsF l (inputP p).length).length),PureC Tryz.prog G 32 [dPw p,.agg [.dm false (MM i).1,.dm false (MM i).2],dBl (inputsF l (inputP p).length)[i]] (.agg [.dm false (MM (i+1)).1,.dm false (MM (i+1)).2]):=fun i hi=>by
   have:=rstep_spec G p hck hk _ (hbe i (by omega)) (inputsF l (inputP p).length)[i] (inputsF_each _ (List.getElem_mem hi)) _ _ (hrel i (by omega))
   rw [show ((MM i).1,(MM i).2)=MM i from rfl,← hMMs i hi] at this;exact this
  have htel:∀ i,i≤(inputsF l (inputP p).length).length→PureC Tryz.prog G 33 [.agg [.dm false (MM i).1,.dm false (MM i).2],dPw p] (.tup [dBl (behindP p (startP p) (inputsF l (inputP p).length) i).is,dIl (behindP p (startP p) (inputsF l (inputP p).length) i).ct]):=fun i hi=>tells_spec G p hg _ (hbe i hi).l1 (hbe i hi).l2 _ _ (hrel i hi)
  have hrst:=rstart_spec G
  have hsame:∀ i (hi:i < (playP p (startP p) (inputsF l (inputP p).length)).length),∃ st:StP,(playP p (startP p) (inputsF l (inputP p).length))[i]=st∧behindP p (startP p) (inputsF l (inputP p).length) (i+1)=st∧st.is.length=p.names.length∧st.ct.length=p.names.length:=fun i hi=>by
   have h1:=hbe (i+1) (by rw [playP_len] at hi;omega)
   exact ⟨_,hPg0 i hi,rfl,h1.l1,h1.l2⟩
  have hb2:=bare_spec G hG 2
  have hb4:=bare_spec G hG 4
  have e2:errOf 2=some (2,none):=rfl
  have e4:errOf 4=some (4,none):=rfl
  rw [e2] at hb2;rw [e4] at hb4
  have hstart:=start_spec G p (by omega)
  have hbad1:=fun k (hk1:k≠(inputP p).length)=>step_bad G p hck hk (startP p) (List.replicate k false) (fun h=>hk1 (by simpa using h.1))
  have hbad3:=fun k (hk1:k≠(inputP p).length)=>play_bad G p hck hk (List.replicate k false) (by simpa using hk1)
  have hbad4:=step_bad G p hck hk ⟨List.replicate (p.names.length+1) false,List.replicate p.names.length 0⟩ (List.replicate (inputP p).length false) (fun h=>by have:=h.2.1;simp at this)
  have hlim:=play_limit G (dNms p.names) (dRgs p.rungs) (List.replicate 1001 [.sl (some false) []]) (by rw [List.length_replicate];omega)
  clear hrel hPg0 hbe hMMs;generalize hBH:behindP p (startP p) (inputsF l (inputP p).length)=BH at *;clear hBH;generalize playP p (startP p) (inputsF l (inputP p).length)=PL at *;generalize inputsF l (inputP p).length=IN at *;clear hkI;generalize inputP p=KI at *;simp only [dPg,cPg,dPw,cPw,dNms,dRgs,dIl,dBls,cSts,dBl,dNum,dS,dErr,dSt,cSt,List.map_replicate] at hwk hin hpl hstep htel hb2 hb4 hstart hbad1 hbad3 hbad4 hlim
  have hNl:(p.names.map cNm).length=p.names.length:=by simp
  generalize p.names.map cNm=NN at *;generalize p.rungs.map cRg=RR at *;generalize p.rungs.map cRw'=RW at *;generalize (startP p).is.map (fun b=>[D.v (.bool b)])=SA at *;generalize (startP p).ct.map (fun n=>[D.v (.int .i64 n)])=SB at *
  have hPl:(PL.map cSt).length=l.length:=by simp;omega
  have hPg:∀ i (h:i < PL.length),(PL.map cSt)[i]? = some (cSt PL[i]):=fun i h=>by simp [h]
  have hIl:(IN.map fun x=>[D.sl none (x.map fun b=>[D.v (.bool b)])]).length=l.length:=by simp;omega
  have hIg:∀ i (h:i < IN.length),(IN.map fun x=>[D.sl none (x.map fun b=>[D.v (.bool b)])])[i]? = some [.sl none (IN[i].map fun b=>[.v (.bool b)])]:=fun i h=>by simp [h]
  have hPLc:PL.map (fun s=>[D.sl none (s.is.map fun b=>[D.v (.bool b)]),D.sl none (s.ct.map fun n=>[D.v (.int .i64 n)])])=PL.map cSt:=rfl
  try rw [hPLc] at hpl
  generalize PL.map cSt=PD at *;generalize IN.map (fun x=>[D.sl none (x.map fun b=>[D.v (.bool b)])])=ID at *;generalize (l.map fun n=>[D.v (.int .i64 n)])=LL at *
  have h60':¬ (LL.length:Int) > 60:=by omega
  have hPI:PD.length=ID.length:=by omega
  have h01:MM 0=([],[]):=hMM0
  refine PureC.of_body (tyOf_good _) Tryz.func7 rfl rfl (rs:=[.tmp 6]) Tryz.results7 (by simp [Tryz.ntmps7]) fun X=>?_;simp only [Tryz.ntmps7,List.map];refine rg0 [0,1,2] [] ?_;refine rgc trivial hb [1,2,7,8,9] [7,8] ?_;refine AW.imp (Imp.freezeB 7 trivial) ?_;refine AW.st (by simp;rfl) ?_;refine AW.imp (Imp.freezeB 8 trivial) ?_;refine AW.st (by simp;rfl) ?_;refine AW_then fun K1 hK1=>?_
  have qf:=@h60'
  refine rgqv [1,2,7,8,39] [] ?_;refine AW_cond false (by simp<;>omega) (fun h=>by cases h) (fun _=>?_);refine AW_skip (hK1 _ ?_);refine rgc trivial hwk [1,2,7,8,10] [] ?_;refine rgc trivial hin [2,7,8,10,11] [] ?_;refine rgc trivial hpl [2,7,8,10,11,12,13] [] ?_;refine AW_then fun K2 hK2=>?_
  have qf:=@hPI
  refine rgqv [2,7,8,10,11,12,60] [] ?_;refine AW_ff rfl ?_;refine AW_skip (hK2 _ ?_)
  have qf:=@oneDm
  refine rgcv hrst [2,7,8,10,11,12,14] [14] ?_;refine AW_then fun K3 hK3=>?_;refine rg0 [2,7,8,10,11,12,14,15] [14] ?_;refine AW_for (S:=Nat) (fun i=>i≤l.length) (fun i=>⟨lst [(2,.d (.v (.bool more))),(7,.d (.ip [.sl none NN,.sl none RR])),(8,.d (.ip [.sl none NN,.sl none RW])),(10,int KI.length),(11,.d (.sl none ID)),(12,.d (.sl none PD)),(14,.ref 14 0 0),(15,int i)],hlst [(14,.box 84 [.d (.dm false (MM i).1),.d (.dm false (MM i).2)])]⟩) (fun i=>l.length - i) 0 ?_ (by omega) ?_
  ·rw [hMM0];refine Imp.to' (fun _ _=>trivial) (by simp) (by simp)
  ·intro i hi
   have hstn:=hstep i
   have htln:=htel (i+1)
   generalize hmi:MM i=mi at hstn ⊢
   obtain ⟨I0,C0⟩:=mi
   dsimp only at hstn ⊢
   refine AW_then fun K4 hK4=>?_
   by_cases hlt:i < ID.length
   ·have qf:=@hlt
    refine rgqv [2,7,8,10,11,12,14,15,65] [14] ?_;refine AW_cond true (by simp [hlt]) (fun _=>?_) (fun h=>by cases h);refine AW_skip (hK4 _ ?_);refine AW_then fun K5 hK5=>?_;refine AW_block ?_
    have hi2:i < PL.length:=by omega
    have hi3:i < IN.length:=by omega
    have hi4:i < PD.length:=by omega
    obtain ⟨st,hs1,hs2,hs3,hs4⟩:=hsame i hi2
    have hstn:=hstn hi3
    have htln:=htln (by omega)
    rw [hs2] at htln
    have hPd:PD[i]=cSt PL[i]:=by
     have:=hPg i hi2
     rw [List.getElem?_eq_getElem hi4] at this;exact Option.some.inj this
    rw [hs1] at hPd
    have hId:ID[i]=[.sl none (IN[i].map fun b=>[.v (.bool b)])]:=by
     have:=hIg i hi3
     rw [List.getElem?_eq_getElem hlt] at this;exact Option.some.inj this
    have hq1:=wsameBools_spec G st.is st.is (by omega)
    have hq2:=lsameInts_spec G none none st.ct st.ct (by omega)
    have t1:(st.is == st.is)=true:=by simp
    have t2:(st.ct == st.ct)=true:=by simp
    rw [t1] at hq1;rw [t2] at hq2;simp only [cSt,dBl,dIl,dInts] at hPd hq1 hq2;generalize hm2:MM (i+1)=m2 at hstn htln
    obtain ⟨I1,C1⟩:=m2
    dsimp only at hstn htln
    generalize st.is.map (fun b=>[D.v (.bool b)])=TA at *;generalize st.ct.map (fun n=>[D.v (.int .i64 n)])=TC at *;generalize IN[i].map (fun b=>[D.v (.bool b)])=XI at *;refine AW_rdg (tyOf_good _) (by kernel_rfl) [(0,999),(1,14),(4,999),(5,999),(7,14)] [2,7,8,10,11,12,14,15] [14] (fun _ _=>trivial) (by kernel_rfl) fun K' hK'=>?_;(repeat (refine sxg_next fun K2 hK2=>?_;simp [hlt,hId,oneDm];(repeat (refine ⟨by omega,?_⟩));refine hK2 _ ?_;clear hK2 K2));refine sxg_next fun K2 hK2=>?_;simp [hlt,hId,oneDm];refine callQ.data (hstn) (by simp;rfl) (by simp;rfl) (by first | exact D.leGo_refl _ | simp [takeMap,List.map_map,Function.comp_def,D.le,D.le.go,D.le_refl,D.leGo_refl,hlt,hId,oneDm]) ?_;refine hK2 _ ?_;clear hK2 K2;simp only [putd,upd_lst];(repeat (refine sxg_next fun K2 hK2=>?_;simp [hlt,hId,oneDm];(repeat (refine ⟨by omega,?_⟩));refine hK2 _ ?_;clear hK2 K2));refine sxg_nil (hK' _ ?_);refine AW.st (by simp [hlt,hId,oneDm];rfl) ?_;clear hK' K';refine rgc trivial htln [2,7,8,10,11,12,14,15,16,17] [14] ?_;refine rg [2,7,8,10,11,12,14,15,98] [14] (fun _ _=>trivial) fun K' hK'=>?_;(repeat (refine sxn fun K2 hK2=>?_;simp [hi4,hPd];(repeat (refine ⟨by omega,?_⟩));refine hK2 _ ?_;clear hK2 K2));refine sxn fun K2 hK2=>?_;simp [hi4,hPd];refine callK.data (hq1) (by simp;rfl) (by first | exact D.leGo_refl _ | simp [takeMap,List.map_map,Function.comp_def,D.le,D.le.go,D.le_refl,D.leGo_refl,hi4,hPd]) ?_;refine hK2 _ ?_;clear hK2 K2;simp only [putd,upd_lst];(repeat (refine sxn fun K2 hK2=>?_;simp [hi4,hPd];(repeat (refine ⟨by omega,?_⟩));refine hK2 _ ?_;clear hK2 K2));refine sxn fun K2 hK2=>?_;simp [hi4,hPd];refine callK.data (hq2) (by simp;rfl) (by first | exact D.leGo_refl _ | simp [takeMap,List.map_map,Function.comp_def,D.le,D.le.go,D.le_refl,D.leGo_refl,hi4,hPd]) ?_;refine hK2 _ ?_;clear hK2 K2;simp only [putd,upd_lst];(repeat (refine sxn fun K2 hK2=>?_;simp [hi4,hPd];(repeat (refine ⟨by omega,?_⟩));refine hK2 _ ?_;clear hK2 K2));refine sxz (hK' _ (AW.st (by simp [hi4,hPd];rfl) ?_));clear hK' K';refine AW_ff rfl ?_;refine AW_skip (hK5 _ ?_);refine AW_re (tyOf_good _) fun K' hK'=>?_;(repeat (refine sxn fun K2 hK2=>?_;simp;(repeat (refine ⟨by omega,?_⟩));refine hK2 _ ?_;clear hK2 K2));refine sxz (hK' _ ?_);clear hK' K';(try simp only [thn,inb]);refine Again.mk (i+1) (by omega) (by omega) ?_;rw [hm2];refine Imp.to' (fun _ _=>trivial) (by simp) (by simp)
   ·have qf:=@hlt
    refine rgqv [2,7,8,10,11,12,14,15,65] [14] ?_;refine AW_cond false (by simp<;>omega) (fun h=>by cases h) (fun _=>?_);refine AW_exit (hK3 _ ?_);clear hstn htln hstep htel hsame
    obtain ⟨kp,hkp⟩:∃ k:Nat,k=KI.length+1:=⟨_,rfl⟩
    have hzp:(KI.length:Int)+1=(kp:Int):=by omega
    obtain ⟨kN,hkN⟩:∃ k:Nat,k=p.names.length+1:=⟨_,rfl⟩
    have hzN:(NN.length:Int)+1=(kN:Int):=by omega
    rw [← hkN,← hNl] at hbad4
    have hkN2:kN≤20:=by omega
    have hNl2:NN.length≤20:=by omega
    have hKl2:KI.length≤20:=by omega
    have qf:=@hzp
    refine rgqv [2,7,10,18] [14] ?_;refine AW_then fun K6 hK6=>?_
    by_cases hK0:KI.length=0
    ·have qf:=@hK0
     refine rgqv [7,10,18,105] [14] ?_;refine AW_cond false (by simp [hK0]) (fun h=>by cases h) (fun _=>?_);refine AW_skip (hK6 _ ?_);rw [hK0] at hbad4
     have hst1:=hbad1 kp (by omega)
     have hst3:=hbad3 kp (by omega)
     refine AW_rQ (tyOf_good _) (by kernel_rfl) ([4]) ([(0,999),(1,999),(10,19)]) (List.range 12) [7,10,18,20] [14] (fun _ _=>trivial) (by kernel_rfl) fun K' hK'=>?_;(repeat (refine sxQ_nextO rfl fun K2 hK2=>?_;simp [makeEls,zeroD];(repeat (refine ⟨by omega,?_⟩));refine hK2 _ ?_;clear hK2 K2));refine sxQ_nextO rfl fun K2 hK2=>?_;simp [makeEls,zeroD];refine callD.mk (hstart) (by simp;rfl) (by simp;rfl) (by first | exact D.leGo_refl _ | simp [takeMap,List.map_map,Function.comp_def,D.le,D.le.go,D.le_refl,D.leGo_refl,makeEls,zeroD]) (by simp) ?_;refine hK2 _ ?_;clear hK2 K2;simp only [putd,upd_lst];(repeat (refine sxQ_nextO rfl fun K2 hK2=>?_;simp [makeEls,zeroD];(repeat (refine ⟨by omega,?_⟩));refine hK2 _ ?_;clear hK2 K2));refine sxQ_nextO rfl fun K2 hK2=>?_;simp [makeEls,zeroD];refine callD.mk (hst1) (by simp;rfl) (by simp;rfl) (by first | exact D.leGo_refl _ | simp [takeMap,List.map_map,Function.comp_def,D.le,D.le.go,D.le_refl,D.leGo_refl,makeEls,zeroD]) (by simp) ?_;refine hK2 _ ?_;clear hK2 K2;simp only [putd,upd_lst];(repeat (refine sxQ_nextO rfl fun K2 hK2=>?_;simp [makeEls,zeroD];(repeat (refine ⟨by omega,?_⟩));refine hK2 _ ?_;clear hK2 K2));refine sxQ_nilO (hK' _ ?_);refine AW.st (by simp [makeEls,zeroD];rfl) ?_;clear hK' K';refine AW_rb (tyOf_good _) (by kernel_rfl) ([1]) (List.range 8) [7,10,18,20,22] [14] (fun _ _=>trivial) (by kernel_rfl) fun K' hK'=>?_;(repeat (refine sxb_nextO rfl fun K2 hK2=>?_;simp [makeEls,zeroD];(repeat (refine ⟨by omega,?_⟩));refine hK2 _ ?_;clear hK2 K2));refine sxb_nextO rfl fun K2 hK2=>?_;simp [makeEls,zeroD];refine callD.mk (hlim) (by simp;rfl) (by simp;rfl) (by first | exact D.leGo_refl _ | simp [takeMap,List.map_map,Function.comp_def,D.le,D.le.go,D.le_refl,D.leGo_refl,makeEls,zeroD]) (by simp) ?_;refine hK2 _ ?_;clear hK2 K2;simp only [putd,upd_lst];(repeat (refine sxb_nextO rfl fun K2 hK2=>?_;simp [makeEls,zeroD];(repeat (refine ⟨by omega,?_⟩));refine hK2 _ ?_;clear hK2 K2));refine sxb_nilO (hK' _ ?_);refine AW.st (by simp [makeEls,zeroD];rfl) ?_;clear hK' K';refine AW_rb (tyOf_good _) (by kernel_rfl) ([2,3]) (List.range 10) [7,10,20,22,24] [14] (fun _ _=>trivial) (by kernel_rfl) fun K' hK'=>?_;(repeat (refine sxb_nextO rfl fun K2 hK2=>?_;simp [makeEls,zeroD];(repeat (refine ⟨by omega,?_⟩));refine hK2 _ ?_;clear hK2 K2));refine sxb_nextO rfl fun K2 hK2=>?_;simp [makeEls,zeroD];refine callD.mk (hst3) (by simp;rfl) (by simp;rfl) (by first | exact D.leGo_refl _ | simp [takeMap,List.map_map,Function.comp_def,D.le,D.le.go,D.le_refl,D.leGo_refl,makeEls,zeroD]) (by simp) ?_;refine hK2 _ ?_;clear hK2 K2;simp only [putd,upd_lst];(repeat (refine sxb_nextO rfl fun K2 hK2=>?_;simp [makeEls,zeroD];(repeat (refine ⟨by omega,?_⟩));refine hK2 _ ?_;clear hK2 K2));refine sxb_nilO (hK' _ ?_);refine AW.st (by simp [makeEls,zeroD];rfl) ?_
     clear hK' K';refine AW_rQ (tyOf_good _) (by kernel_rfl) ([5,9,12]) ([(0,999),(2,999),(7,999),(18,25)]) (List.range 20) [20,22,24,26] [14] (fun _ _=>trivial) (by kernel_rfl) fun K' hK'=>?_;(repeat (refine sxQ_nextO rfl fun K2 hK2=>?_;simp [makeEls,zeroD,hzN];(repeat (refine ⟨by omega,?_⟩));refine hK2 _ ?_;clear hK2 K2));refine sxQ_nextO rfl fun K2 hK2=>?_;simp [makeEls,zeroD,hzN];refine callD.mk (hbad4) (by simp;rfl) (by simp;rfl) (by first | exact D.leGo_refl _ | simp [takeMap,List.map_map,Function.comp_def,D.le,D.le.go,D.le_refl,D.leGo_refl,makeEls,zeroD,hzN]) (by simp) ?_;refine hK2 _ ?_;clear hK2 K2;simp only [putd,upd_lst];(repeat (refine sxQ_nextO rfl fun K2 hK2=>?_;simp [makeEls,zeroD,hzN];(repeat (refine ⟨by omega,?_⟩));refine hK2 _ ?_;clear hK2 K2));refine sxQ_nilO (hK' _ ?_);refine AW.st (by simp [makeEls,zeroD,hzN];rfl) ?_;clear hK' K';refine rg [6] [14] (fun _ _=>trivial) fun K' hK'=>?_;(repeat (refine sxn fun K2 hK2=>?_;simp;(repeat (refine ⟨by omega,?_⟩));refine hK2 _ ?_;clear hK2 K2));refine sxn fun K2 hK2=>?_;simp;refine callK.data (hb2) (by simp;rfl) (by first | exact D.leGo_refl _ | simp [takeMap,List.map_map,Function.comp_def,D.le,D.le.go,D.le_refl,D.leGo_refl]) ?_;refine hK2 _ ?_;clear hK2 K2;simp only [putd,upd_lst];(repeat (refine sxn fun K2 hK2=>?_;simp;(repeat (refine ⟨by omega,?_⟩));refine hK2 _ ?_;clear hK2 K2));refine sxn fun K2 hK2=>?_;simp;refine callK.data (hb4) (by simp;rfl) (by first | exact D.leGo_refl _ | simp [takeMap,List.map_map,Function.comp_def,D.le,D.le.go,D.le_refl,D.leGo_refl]) ?_;refine hK2 _ ?_;clear hK2 K2;simp only [putd,upd_lst];(repeat (refine sxn fun K2 hK2=>?_;simp;(repeat (refine ⟨by omega,?_⟩));refine hK2 _ ?_;clear hK2 K2));refine sxn fun K2 hK2=>?_;simp;refine callK.data (hb2) (by simp;rfl) (by first | exact D.leGo_refl _ | simp [takeMap,List.map_map,Function.comp_def,D.le,D.le.go,D.le_refl,D.leGo_refl]) ?_;refine hK2 _ ?_;clear hK2 K2;simp only [putd,upd_lst];(repeat (refine sxn fun K2 hK2=>?_;simp;(repeat (refine ⟨by omega,?_⟩));refine hK2 _ ?_;clear hK2 K2));refine sxn fun K2 hK2=>?_;simp;refine callK.data (hb2) (by simp;rfl) (by first | exact D.leGo_refl _ | simp [takeMap,List.map_map,Function.comp_def,D.le,D.le.go,D.le_refl,D.leGo_refl]) ?_;refine hK2 _ ?_;clear hK2 K2;simp only [putd,upd_lst];(repeat (refine sxn fun K2 hK2=>?_;simp;(repeat (refine ⟨by omega,?_⟩));refine hK2 _ ?_;clear hK2 K2));refine sxz (hK' _ (AW.st (by simp;rfl) ?_));clear hK' K';refine AW_ret ?_;simp [D.le,D.le.go,takeMap]
    have hK1:0 < KI.length:=by omega
    cases more with
    | true=>
     obtain ⟨km,hkm⟩:∃ k:Nat,k=KI.length - 1:=⟨_,rfl⟩
     have hzm:(KI.length:Int) - 1=(km:Int):=by omega
     have qf:=@hK1
     refine rgqv [7,10,18,105] [14] ?_;refine AW_cond true (by first | (simp [hK1];done) | (simp;intro e;simp [e] at hK1)) (fun _=>?_) (fun h=>by cases h)
     have qf:=@hzm
     refine reKv hK6 [7,10,18] [14] ?_
     have hst1:=hbad1 km (by omega)
     have hst3:=hbad3 km (by omega)
     refine AW_rQ (tyOf_good _) (by kernel_rfl) ([4]) ([(0,999),(1,999),(10,19)]) (List.range 12) [7,10,18,20] [14] (fun _ _=>trivial) (by kernel_rfl) fun K' hK'=>?_;(repeat (refine sxQ_nextO rfl fun K2 hK2=>?_;simp [makeEls,zeroD];(repeat (refine ⟨by omega,?_⟩));refine hK2 _ ?_;clear hK2 K2));refine sxQ_nextO rfl fun K2 hK2=>?_;simp [makeEls,zeroD];refine callD.mk (hstart) (by simp;rfl) (by simp;rfl) (by first | exact D.leGo_refl _ | simp [takeMap,List.map_map,Function.comp_def,D.le,D.le.go,D.le_refl,D.leGo_refl,makeEls,zeroD]) (by simp) ?_;refine hK2 _ ?_;clear hK2 K2;simp only [putd,upd_lst];(repeat (refine sxQ_nextO rfl fun K2 hK2=>?_;simp [makeEls,zeroD];(repeat (refine ⟨by omega,?_⟩));refine hK2 _ ?_;clear hK2 K2));refine sxQ_nextO rfl fun K2 hK2=>?_;simp [makeEls,zeroD];refine callD.mk (hst1) (by simp;rfl) (by simp;rfl) (by first | exact D.leGo_refl _ | simp [takeMap,List.map_map,Function.comp_def,D.le,D.le.go,D.le_refl,D.leGo_refl,makeEls,zeroD]) (by simp) ?_;refine hK2 _ ?_;clear hK2 K2;simp only [putd,upd_lst];(repeat (refine sxQ_nextO rfl fun K2 hK2=>?_;simp [makeEls,zeroD];(repeat (refine ⟨by omega,?_⟩));refine hK2 _ ?_;clear hK2 K2));refine sxQ_nilO (hK' _ ?_);refine AW.st (by simp [makeEls,zeroD];rfl) ?_;clear hK' K';refine AW_rb (tyOf_good _) (by kernel_rfl) ([1]) (List.range 8) [7,10,18,20,22] [14] (fun _ _=>trivial) (by kernel_rfl) fun K' hK'=>?_;(repeat (refine sxb_nextO rfl fun K2 hK2=>?_;simp [makeEls,zeroD];(repeat (refine ⟨by omega,?_⟩));refine hK2 _ ?_;clear hK2 K2));refine sxb_nextO rfl fun K2 hK2=>?_;simp [makeEls,zeroD];refine callD.mk (hlim) (by simp;rfl) (by simp;rfl) (by first | exact D.leGo_refl _ | simp [takeMap,List.map_map,Function.comp_def,D.le,D.le.go,D.le_refl,D.leGo_refl,makeEls,zeroD]) (by simp) ?_;refine hK2 _ ?_;clear hK2 K2;simp only [putd,upd_lst];(repeat (refine sxb_nextO rfl fun K2 hK2=>?_;simp [makeEls,zeroD];(repeat (refine ⟨by omega,?_⟩));refine hK2 _ ?_;clear hK2 K2));refine sxb_nilO (hK' _ ?_);refine AW.st (by simp [makeEls,zeroD];rfl) ?_;clear hK' K';refine AW_rb (tyOf_good _) (by kernel_rfl) ([2,3]) (List.range 10) [7,10,20,22,24] [14] (fun _ _=>trivial) (by kernel_rfl) fun K' hK'=>?_;(repeat (refine sxb_nextO rfl fun K2 hK2=>?_;simp [makeEls,zeroD];(repeat (refine ⟨by omega,?_⟩));refine hK2 _ ?_;clear hK2 K2));refine sxb_nextO rfl fun K2 hK2=>?_;simp [makeEls,zeroD];refine callD.mk (hst3) (by simp;rfl) (by simp;rfl) (by first | exact D.leGo_refl _ | simp [takeMap,List.map_map,Function.comp_def,D.le,D.le.go,D.le_refl,D.leGo_refl,makeEls,zeroD]) (by simp) ?_;refine hK2 _ ?_;clear hK2 K2;simp only [putd,upd_lst];(repeat (refine sxb_nextO rfl fun K2 hK2=>?_;simp [makeEls,zeroD];(repeat (refine ⟨by omega,?_⟩));refine hK2 _ ?_;clear hK2 K2));refine sxb_nilO (hK' _ ?_);refine AW.st (by simp [makeEls,zeroD];rfl) ?_
     clear hK' K';refine AW_rQ (tyOf_good _) (by kernel_rfl) ([5,9,12]) ([(0,999),(2,999),(7,999),(18,25)]) (List.range 20) [20,22,24,26] [14] (fun _ _=>trivial) (by kernel_rfl) fun K' hK'=>?_;(repeat (refine sxQ_nextO rfl fun K2 hK2=>?_;simp [makeEls,zeroD,hzN];(repeat (refine ⟨by omega,?_⟩));refine hK2 _ ?_;clear hK2 K2));refine sxQ_nextO rfl fun K2 hK2=>?_;simp [makeEls,zeroD,hzN];refine callD.mk (hbad4) (by simp;rfl) (by simp;rfl) (by first | exact D.leGo_refl _ | simp [takeMap,List.map_map,Function.comp_def,D.le,D.le.go,D.le_refl,D.leGo_refl,makeEls,zeroD,hzN]) (by simp) ?_;refine hK2 _ ?_;clear hK2 K2;simp only [putd,upd_lst];(repeat (refine sxQ_nextO rfl fun K2 hK2=>?_;simp [makeEls,zeroD,hzN];(repeat (refine ⟨by omega,?_⟩));refine hK2 _ ?_;clear hK2 K2));refine sxQ_nilO (hK' _ ?_);refine AW.st (by simp [makeEls,zeroD,hzN];rfl) ?_;clear hK' K';refine rg [6] [14] (fun _ _=>trivial) fun K' hK'=>?_;(repeat (refine sxn fun K2 hK2=>?_;simp;(repeat (refine ⟨by omega,?_⟩));refine hK2 _ ?_;clear hK2 K2));refine sxn fun K2 hK2=>?_;simp;refine callK.data (hb2) (by simp;rfl) (by first | exact D.leGo_refl _ | simp [takeMap,List.map_map,Function.comp_def,D.le,D.le.go,D.le_refl,D.leGo_refl]) ?_;refine hK2 _ ?_;clear hK2 K2;simp only [putd,upd_lst];(repeat (refine sxn fun K2 hK2=>?_;simp;(repeat (refine ⟨by omega,?_⟩));refine hK2 _ ?_;clear hK2 K2));refine sxn fun K2 hK2=>?_;simp;refine callK.data (hb4) (by simp;rfl) (by first | exact D.leGo_refl _ | simp [takeMap,List.map_map,Function.comp_def,D.le,D.le.go,D.le_refl,D.leGo_refl]) ?_;refine hK2 _ ?_;clear hK2 K2;simp only [putd,upd_lst];(repeat (refine sxn fun K2 hK2=>?_;simp;(repeat (refine ⟨by omega,?_⟩));refine hK2 _ ?_;clear hK2 K2));refine sxn fun K2 hK2=>?_;simp;refine callK.data (hb2) (by simp;rfl) (by first | exact D.leGo_refl _ | simp [takeMap,List.map_map,Function.comp_def,D.le,D.le.go,D.le_refl,D.leGo_refl]) ?_;refine hK2 _ ?_;clear hK2 K2;simp only [putd,upd_lst];(repeat (refine sxn fun K2 hK2=>?_;simp;(repeat (refine ⟨by omega,?_⟩));refine hK2 _ ?_;clear hK2 K2));refine sxn fun K2 hK2=>?_;simp;refine callK.data (hb2) (by simp;rfl) (by first | exact D.leGo_refl _ | simp [takeMap,List.map_map,Function.comp_def,D.le,D.le.go,D.le_refl,D.leGo_refl]) ?_;refine hK2 _ ?_;clear hK2 K2;simp only [putd,upd_lst];(repeat (refine sxn fun K2 hK2=>?_;simp;(repeat (refine ⟨by omega,?_⟩));refine hK2 _ ?_;clear hK2 K2));refine sxz (hK' _ (AW.st (by simp;rfl) ?_));clear hK' K';refine AW_ret ?_;simp [D.le,D.le.go,takeMap]
    | false=>
     have qf:=@hK1
     refine rgqv [7,10,18,105] [14] ?_;refine AW_cond false (by first | (simp;done) | (simp [hK1];done) | (simp;exact List.eq_nil_of_length_eq_zero hK0) | trace_state) (fun h=>by cases h) (fun _=>?_);refine AW_skip (hK6 _ ?_)
     have hst1:=hbad1 kp (by omega)
     have hst3:=hbad3 kp (by omega)
     refine AW_rQ (tyOf_good _) (by kernel_rfl) ([4]) ([(0,999),(1,999),(10,19)]) (List.range 12) [7,10,18,20] [14] (fun _ _=>trivial) (by kernel_rfl) fun K' hK'=>?_;(repeat (refine sxQ_nextO rfl fun K2 hK2=>?_;simp [makeEls,zeroD];(repeat (refine ⟨by omega,?_⟩));refine hK2 _ ?_;clear hK2 K2));refine sxQ_nextO rfl fun K2 hK2=>?_;simp [makeEls,zeroD];refine callD.mk (hstart) (by simp;rfl) (by simp;rfl) (by first | exact D.leGo_refl _ | simp [takeMap,List.map_map,Function.comp_def,D.le,D.le.go,D.le_refl,D.leGo_refl,makeEls,zeroD]) (by simp) ?_;refine hK2 _ ?_;clear hK2 K2;simp only [putd,upd_lst];(repeat (refine sxQ_nextO rfl fun K2 hK2=>?_;simp [makeEls,zeroD];(repeat (refine ⟨by omega,?_⟩));refine hK2 _ ?_;clear hK2 K2));refine sxQ_nextO rfl fun K2 hK2=>?_;simp [makeEls,zeroD];refine callD.mk (hst1) (by simp;rfl) (by simp;rfl) (by first | exact D.leGo_refl _ | simp [takeMap,List.map_map,Function.comp_def,D.le,D.le.go,D.le_refl,D.leGo_refl,makeEls,zeroD]) (by simp) ?_;refine hK2 _ ?_;clear hK2 K2;simp only [putd,upd_lst];(repeat (refine sxQ_nextO rfl fun K2 hK2=>?_;simp [makeEls,zeroD];(repeat (refine ⟨by omega,?_⟩));refine hK2 _ ?_;clear hK2 K2));refine sxQ_nilO (hK' _ ?_);refine AW.st (by simp [makeEls,zeroD];rfl) ?_;clear hK' K';refine AW_rb (tyOf_good _) (by kernel_rfl) ([1]) (List.range 8) [7,10,18,20,22] [14] (fun _ _=>trivial) (by kernel_rfl) fun K' hK'=>?_;(repeat (refine sxb_nextO rfl fun K2 hK2=>?_;simp [makeEls,zeroD];(repeat (refine ⟨by omega,?_⟩));refine hK2 _ ?_;clear hK2 K2));refine sxb_nextO rfl fun K2 hK2=>?_;simp [makeEls,zeroD];refine callD.mk (hlim) (by simp;rfl) (by simp;rfl) (by first | exact D.leGo_refl _ | simp [takeMap,List.map_map,Function.comp_def,D.le,D.le.go,D.le_refl,D.leGo_refl,makeEls,zeroD]) (by simp) ?_;refine hK2 _ ?_;clear hK2 K2;simp only [putd,upd_lst];(repeat (refine sxb_nextO rfl fun K2 hK2=>?_;simp [makeEls,zeroD];(repeat (refine ⟨by omega,?_⟩));refine hK2 _ ?_;clear hK2 K2));refine sxb_nilO (hK' _ ?_);refine AW.st (by simp [makeEls,zeroD];rfl) ?_;clear hK' K';refine AW_rb (tyOf_good _) (by kernel_rfl) ([2,3]) (List.range 10) [7,10,20,22,24] [14] (fun _ _=>trivial) (by kernel_rfl) fun K' hK'=>?_;(repeat (refine sxb_nextO rfl fun K2 hK2=>?_;simp [makeEls,zeroD];(repeat (refine ⟨by omega,?_⟩));refine hK2 _ ?_;clear hK2 K2));refine sxb_nextO rfl fun K2 hK2=>?_;simp [makeEls,zeroD];refine callD.mk (hst3) (by simp;rfl) (by simp;rfl) (by first | exact D.leGo_refl _ | simp [takeMap,List.map_map,Function.comp_def,D.le,D.le.go,D.le_refl,D.leGo_refl,makeEls,zeroD]) (by simp) ?_;refine hK2 _ ?_;clear hK2 K2;simp only [putd,upd_lst];(repeat (refine sxb_nextO rfl fun K2 hK2=>?_;simp [makeEls,zeroD];(repeat (refine ⟨by omega,?_⟩));refine hK2 _ ?_;clear hK2 K2));refine sxb_nilO (hK' _ ?_);refine AW.st (by simp [makeEls,zeroD];rfl) ?_
     clear hK' K';refine AW_rQ (tyOf_good _) (by kernel_rfl) ([5,9,12]) ([(0,999),(2,999),(7,999),(18,25)]) (List.range 20) [20,22,24,26] [14] (fun _ _=>trivial) (by kernel_rfl) fun K' hK'=>?_;(repeat (refine sxQ_nextO rfl fun K2 hK2=>?_;simp [makeEls,zeroD,hzN];(repeat (refine ⟨by omega,?_⟩));refine hK2 _ ?_;clear hK2 K2));refine sxQ_nextO rfl fun K2 hK2=>?_;simp [makeEls,zeroD,hzN];refine callD.mk (hbad4) (by simp;rfl) (by simp;rfl) (by first | exact D.leGo_refl _ | simp [takeMap,List.map_map,Function.comp_def,D.le,D.le.go,D.le_refl,D.leGo_refl,makeEls,zeroD,hzN]) (by simp) ?_;refine hK2 _ ?_;clear hK2 K2;simp only [putd,upd_lst];(repeat (refine sxQ_nextO rfl fun K2 hK2=>?_;simp [makeEls,zeroD,hzN];(repeat (refine ⟨by omega,?_⟩));refine hK2 _ ?_;clear hK2 K2));refine sxQ_nilO (hK' _ ?_);refine AW.st (by simp [makeEls,zeroD,hzN];rfl) ?_;clear hK' K';refine rg [6] [14] (fun _ _=>trivial) fun K' hK'=>?_;(repeat (refine sxn fun K2 hK2=>?_;simp;(repeat (refine ⟨by omega,?_⟩));refine hK2 _ ?_;clear hK2 K2));refine sxn fun K2 hK2=>?_;simp;refine callK.data (hb2) (by simp;rfl) (by first | exact D.leGo_refl _ | simp [takeMap,List.map_map,Function.comp_def,D.le,D.le.go,D.le_refl,D.leGo_refl]) ?_;refine hK2 _ ?_;clear hK2 K2;simp only [putd,upd_lst];(repeat (refine sxn fun K2 hK2=>?_;simp;(repeat (refine ⟨by omega,?_⟩));refine hK2 _ ?_;clear hK2 K2));refine sxn fun K2 hK2=>?_;simp;refine callK.data (hb4) (by simp;rfl) (by first | exact D.leGo_refl _ | simp [takeMap,List.map_map,Function.comp_def,D.le,D.le.go,D.le_refl,D.leGo_refl]) ?_;refine hK2 _ ?_;clear hK2 K2;simp only [putd,upd_lst];(repeat (refine sxn fun K2 hK2=>?_;simp;(repeat (refine ⟨by omega,?_⟩));refine hK2 _ ?_;clear hK2 K2));refine sxn fun K2 hK2=>?_;simp;refine callK.data (hb2) (by simp;rfl) (by first | exact D.leGo_refl _ | simp [takeMap,List.map_map,Function.comp_def,D.le,D.le.go,D.le_refl,D.leGo_refl]) ?_;refine hK2 _ ?_;clear hK2 K2;simp only [putd,upd_lst];(repeat (refine sxn fun K2 hK2=>?_;simp;(repeat (refine ⟨by omega,?_⟩));refine hK2 _ ?_;clear hK2 K2));refine sxn fun K2 hK2=>?_;simp;refine callK.data (hb2) (by simp;rfl) (by first | exact D.leGo_refl _ | simp [takeMap,List.map_map,Function.comp_def,D.le,D.le.go,D.le_refl,D.leGo_refl]) ?_;refine hK2 _ ?_;clear hK2 K2;simp only [putd,upd_lst];(repeat (refine sxn fun K2 hK2=>?_;simp;(repeat (refine ⟨by omega,?_⟩));refine hK2 _ ?_;clear hK2 K2));refine sxz (hK' _ (AW.st (by simp;rfl) ?_));clear hK' K';refine AW_ret ?_;simp [D.le,D.le.go,takeMap]
end Go.Proofs.YthnjfeielmbfkaaGreatDoor
namespace Go.Proofs.YthnjfeielmbfkaaGreatDoor
def sg (t:Tab) (k:Nat):List (List Int):=(List.range t.n).map (sig t (iter t k))
def bn (t:Tab) (k s:Nat):Nat:=dn (sg t k) s
end Go.Proofs.YthnjfeielmbfkaaGreatDoor
namespace Go.Proofs.YthnjfeielmbfkaaGreatDoor
open Go.Av Go.ChangeShapes Go.WideShapes Go.ChangeAt Go.RowKit
theorem law_own:ownKnob Tryz.prog.godebug=none:=by kernel_rfl
theorem law_laidOut:laidOutB Tryz.prog=true:=by kernel_rfl
theorem cells_int:Tryz.prog.cellsOf 3=1:=by kernel_rfl
section
variable {H:Type} {enc:TypeId×Value→H} {w:World} {base:Nat} {spare:Nat→Bool} {held:Bool} {X:Nat→Prop}
theorem reads_ints (hX:∀ b,¬ X b):ReadsAs enc Tryz.prog w base spare held X 25 (fun _:List Int=>True) (fun l=>[dRow l]):=by
 intro fuel cs x h
 obtain ⟨l,_,hr⟩:=reads_slice Tryz.underlying25 cells_int (by omega) hX (reads_int Tryz.underlying3) fuel cs x h
 exact ⟨l,trivial,hr⟩
end
end Go.Proofs.YthnjfeielmbfkaaGreatDoor
