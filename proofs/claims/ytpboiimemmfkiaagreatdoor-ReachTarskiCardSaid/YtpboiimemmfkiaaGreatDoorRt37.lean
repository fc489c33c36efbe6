/-
  Texts that belong together,in one file: MA3,RF3,MA4,RF4,RX0,RX1,RF5,RK0,RK1,R1,RB.
-/
import Derived.Test.YtpboiimemmfkiaaGreatDoorRt36
set_option linter.unusedSimpArgs false
set_option linter.unusedVariables false
namespace Go.Proofs.YtpboiimemmfkiaaGreatDoor
open Go.Av
def inN (p:PgP):Nat:=2 ^ (inputP p).length
def dMc (p:PgP):D:=dMa p (prodP (partsP p)) ((inN p:Nat):Int) (nxD (nextP p))
def edE (l:List Int):List (Value×D):=l.foldl (fun E k=>entPut (.int .i64 k) (.v (.bool true)) E) []
theorem edE_snoc (l:List Int) (k:Int):edE (l ++ [k])=entPut (.int .i64 k) (.v (.bool true)) (edE l):=by simp [edE]
theorem keyEq_int (a b:Int):keyEq (.int .i64 a) (.int .i64 b)=decide (a=b):=by
 by_cases h:a=b
 ·subst h;simp [keyEq]
 ·simp [keyEq,h]
theorem entPut_key {k:Value} {x:D}:∀ {l:List (Value×D)},(∀ p∈l,keyOk (.int .i64) p.1=true)→keyOk (.int .i64) k=true→∀ p∈entPut k x l,keyOk (.int .i64) p.1=true
 | [],_,hk,p,hp=>by
  rw [entPut_nil,List.mem_singleton] at hp;subst hp;exact hk
 | q :: l,hl,hk,p,hp=>by
  rw [entPut_cons] at hp
  split at hp
  ·rcases List.mem_cons.1 hp with rfl | hp
   ·exact hk
   ·exact hl p (by simp [hp])
  ·rcases List.mem_cons.1 hp with rfl | hp
   ·exact hl _ (by simp)
   ·exact entPut_key (fun p hp=>hl p (by simp [hp])) hk p hp
theorem edE_get (i:Int) (l:List Int):(∀ p∈edE l,keyOk (.int .i64) p.1=true)∧entGet (.int .i64 i) (edE l)=if i∈l then some (.v (.bool true)) else none:=by
 suffices h:∀ (n:Nat) (l:List Int),l.length=n→(∀ p∈edE l,keyOk (.int .i64) p.1=true)∧entGet (.int .i64 i) (edE l)=if i∈l then some (.v (.bool true)) else none from h _ l rfl
 intro n
 induction n with
 | zero=>
  intro l h
  obtain rfl:=List.eq_nil_of_length_eq_zero h
  exact ⟨by simp [edE],rfl⟩
 | succ n ih=>
  intro l h
  have hne:l≠[]:=fun e=>by subst e;cases h
  obtain ⟨l',k,rfl⟩:∃ l' k,l=l' ++ [k]:=⟨l.dropLast,l.getLast hne,(List.dropLast_concat_getLast hne).symm⟩
  obtain ⟨h1,h2⟩:=ih l' (by simpa using h)
  rw [edE_snoc];refine ⟨entPut_key h1 rfl,?_⟩;rw [entGet_put (d:=.int .i64) rfl rfl _ h1,h2,keyEq_int]
  by_cases e:i=k
  ·subst e;simp
  ·simp [e]
def madeP (t:Tx) (most:Int):Option PgP:=match readP t with
 | none=>none
 | some p=>if 4 < (inputP p).length∨most < prodP (partsP p) then none else some p
def dMade:Option PgP→D
 | none=>.tup [.v (.pointer none),.v (.bool false)]
 | some p=>.tup [dMc p,.v (.bool true)]
theorem madeP_some {t:Tx} {most:Int} {p:PgP} (h:madeP t most=some p):checkP p=none∧(∀ r∈p.rungs,CondOk r)∧(inputP p).length≤4∧prodP (partsP p)≤most:=by
 unfold madeP at h
 split at h
 ·cases h
 ·rename_i q hq
  split at h
  ·cases h
  ·rename_i hn
   obtain rfl:=Option.some.inj h
   obtain ⟨h1,h2⟩:=parse_ok (readP_some hq)
   exact ⟨h1,h2,by omega,by omega⟩
theorem prodN_mono {p:PgP} (hg:GoodP p):∀ {k:Nat},k≤p.names.length→prodP (partsN p k)≤prodP (partsP p):=fun {k} hk=>by
 have h:∀ d,k+d≤p.names.length→prodP (partsN p k)≤prodP (partsN p (k+d)):=by
  intro d
  induction d with
  | zero=>intro _;exact Int.le_refl _
  | succ d ih=>
   intro hd
   have h1:=ih (by omega)
   have hm:∀ x∈partsN p (k+d+1),2≤x.most:=fun x hx=>by
    obtain ⟨i,hi,_,h2⟩:=(partsN_mem (by omega)).1 hx
    exact (parts_good hg ((partsN_mem (Nat.le_refl _)).2 ⟨i,hi,hi,h2⟩)).m2
   have e:partsN p (k+d+1)=partsN p (k+d) ++ partOf p.names[k+d] (edB p p.names[k+d]) (k+d):=partsN_succ (by omega)
   have h3:=prodP_mono hm (partsN p (k+d)).length
   rw [e,List.take_left] at h3;rw [← Nat.add_assoc,e]
   omega
 have:=h (p.names.length - k) (by omega)
 rw [show k+(p.names.length - k)=p.names.length from by omega] at this;exact this
theorem wed_mem {p:PgP} {k:Nat} (hk:k < p.names.length):((k:Int)∈wedN p p.names.length)↔edB p p.names[k]=true:=by
 rw [wedN_mem (Nat.le_refl _)]
 constructor
 ·rintro ⟨i,hi,_,he,ha⟩
  obtain rfl:k=i:=by omega
  exact ha
 ·intro ha
  exact ⟨k,hk,hk,rfl,ha⟩
set_option maxRecDepth 100000 in
set_option maxHeartbeats 16000000 in
theorem made_spec (G:Glob) (hM:HasMax G) (hP:HasP10 G) (hG:HasErr G) {es er:Value} (hE:HasNE G es er) (t:Tx) (most:Int) (h1:1≤most) (h2:most≤4096):PureC Tryz.prog G 24 [dS t,dNum most] (dMade (madeP t most)):=by
 have hrd:=kread_spec G hM hP hG hE t
 unfold madeP;simp only [dS] at hrd ⊢
 cases hre:readP t with
 | none=>
  rw [hre] at hrd;simp only [dRd,dPg0,dNum,dMade] at hrd ⊢;refine PureC.of_body (tyOf_good _) Tryz.func24 rfl rfl (rs:=[.tmp 4,.tmp 5]) Tryz.results24 (by simp [Tryz.ntmps24]) fun X=>?_;simp only [Tryz.ntmps24,List.map]
  have fw:=@dNum.eq_1
  refine rgq fw [0,1] [] ?_;refine rgc fw hrd [1,6,7] [6] ?_;refine AW_then fun K1 hK1=>?_;refine rgq fw [1,6,28] [6] ?_;refine AW_tt rfl ?_;refine rgq fw [4,5] [6] ?_;refine AW_ret ?_;simp [D.le,D.le.go,takeMap,dNum]
 | some p=>
  rw [hre] at hrd
  obtain ⟨hck,hk⟩:=parse_ok (readP_some hre)
  have hg:=checkP_good hck
  have hnm:=hg.names
  have hkd:=lkind_spec G p (by omega) 1
  have hkI:kindN p.names 1 p.names.length=inputP p:=rfl
  rw [hkI] at hkd
  have hIl:((inputP p).map fun x=>[D.v (.int .i64 x)]).length=(inputP p).length:=by simp
  by_cases h4:4 < (inputP p).length
  ·simp only [h4,true_or,if_true]
   have h4':((inputP p).length:Int) > 4:=by omega
   simp only [dRd,dPg,cPg,dNms,dRgs,dNum,dMade] at hrd hkd ⊢;generalize ((inputP p).map fun x=>[D.v (.int .i64 x)])=IN at *;generalize p.names.map cNm=NN at *;generalize p.rungs.map cRg=RR at *
   have h4'':(IN.length:Int) > 4:=by omega
   refine PureC.of_body (tyOf_good _) Tryz.func24 rfl rfl (rs:=[.tmp 4,.tmp 5]) Tryz.results24 (by simp [Tryz.ntmps24]) fun X=>?_;simp only [Tryz.ntmps24,List.map]
   have fw:=@dNum.eq_1
   refine rgq fw [0,1] [] ?_;refine rgc fw hrd [1,6,7] [6] ?_;refine AW.imp (Imp.freezeB 6 trivial) ?_;refine AW.st (by simp [dNum];rfl) ?_;refine AW_then fun K1 hK1=>?_
   have qf:=(Aq fw @h4'')
   refine rgcv hkd [1,6,28] [] ?_;refine AW_cond true (by simp<;>omega) (fun _=>?_) (fun h=>by cases h);refine rgq fw [4,5] [] ?_;refine AW_ret ?_;simp [D.le,D.le.go,takeMap,dNum]
  ·simp only [h4,false_or]
   have hof:prodP (partsP p)≤most→PureC Tryz.prog G 37 [dPg p] (.tup [dMc p,.v .nilIface]):=fun h=>mof_good G p hck hk (by omega) (by omega)
   have hed:=ledges_spec G p (by omega) (by have:=hg.rungs;omega) (fun r hr=>by
    obtain ⟨e,he,_,_,hb⟩:=hk r hr
    exact ⟨e,he,by omega⟩)
   rw [edges_same hck] at hed
   have hwl:=wedN_len p p.names.length
   have hwm:=fun k (h:k < p.names.length)=>wed_mem (p:=p) h
   generalize wedN p p.names.length=E at *
   have hPs:∀ k (h:k < p.names.length),prodP (partsN p (k+1))=prodP (partsN p k) * prodP (partOf p.names[k] (edB p p.names[k]) k):=fun k h=>by rw [partsN_succ h,prodP_append]
   have hP0:prodP (partsN p 0)=1:=rfl
   have hPe:prodP (partsN p p.names.length)=prodP (partsP p):=rfl
   have hPm:=fun k (h:k≤p.names.length)=>prodN_mono hg h
   have hPp:∀ k,k≤p.names.length→0 < prodP (partsN p k):=fun k h=>prodP_pos fun x hx=>by
    obtain ⟨i,hi,_,h2⟩:=(partsN_mem h).1 hx
    exact (parts_good hg ((partsN_mem (Nat.le_refl _)).2 ⟨i,hi,hi,h2⟩)).m2
   generalize prodP (partsP p)=PP at *
   obtain ⟨PN,hPN⟩:∃ PN:Nat→Int,∀ k,prodP (partsN p k)=PN k:=⟨_,fun _=>rfl⟩
   simp only [hPN] at hPs hP0 hPe hPm hPp;clear hPN
   have hcnt:=hg.count
   have hkn:=hg.name
   have hdMc:∃ c,dMc p = .ip c:=⟨_,rfl⟩
   obtain ⟨MC,hMC⟩:=hdMc
   simp only [hMC] at hof
   have hres:(most < PP∧dMade (if most < PP then none else some p)=D.tup [.v (.pointer none),.v (.bool false)])∨(¬ most < PP∧dMade (if most < PP then none else some p)=D.tup [.ip MC,.v (.bool true)]):=by
    by_cases hb:most < PP
    ·exact .inl ⟨hb,by rw [if_pos hb];rfl⟩
    ·exact .inr ⟨hb,by rw [if_neg hb];simp only [dMade,hMC]⟩
   generalize hRES:dMade (if most < PP then none else some p)=RES at hres ⊢;clear hRES;simp only [dRd,dPg,cPg,dNms,dRgs,dNum] at hrd hkd hof hed ⊢;generalize ((inputP p).map fun x=>[D.v (.int .i64 x)])=IN at *
   have hNl:(p.names.map cNm).length=p.names.length:=by simp
   have hNg:∀ i (h:i < p.names.length),(p.names.map cNm)[i]? = some [.v (.string (bs p.names[i].name)),.v (.int .i64 p.names[i].kind),.v (.int .i64 p.names[i].count)]:=fun i h=>by simp [h,cNm,dS]
   generalize p.names.map cNm=NN at *;generalize p.rungs.map cRg=RR at *
   have hEl:(E.map fun x=>[D.v (.int .i64 x)]).length=E.length:=by simp
   have h4'':¬ (IN.length:Int) > 4:=by omega
   refine PureC.of_body (tyOf_good _) Tryz.func24 rfl rfl (rs:=[.tmp 4,.tmp 5]) Tryz.results24 (by simp [Tryz.ntmps24]) fun X=>?_;simp only [Tryz.ntmps24,List.map]
   have fw:=@dNum.eq_1
   refine rgq fw [0,1] [] ?_;refine rgc fw hrd [1,6,7] [6] ?_;refine AW.imp (Imp.freezeB 6 trivial) ?_;refine AW.st (by simp [dNum];rfl) ?_;refine AW_then fun K1 hK1=>?_
   have qf:=(Aq fw @h4'')
   refine rgcv hkd [1,6,28] [] ?_;refine AW_cond false (by simp<;>omega) (fun h=>by cases h) (fun _=>?_);refine AW_skip (hK1 _ ?_);refine rgq fw [1,6,8] [] ?_;refine rgq fw [1,6,8,9] [29] ?_;refine AW_then fun K2 hK2=>?_;refine rgc fw hed [1,6,8,9,10,11] [29] ?_;refine AW_for (S:=Nat) (fun j=>j≤E.length) (fun j=>⟨lst [(1,int most),(6,.d (.ip [.sl none NN,.sl none RR])),(8,int 1),(9,.mp 29),(10,int j),(11,.d (.sl none (E.map fun x=>[.v (.int .i64 x)])))],hlst [(29,.mp 181 (edE (E.take j)))]⟩) (fun j=>E.length - j) 0 ?_ (by omega) ?_
   ·refine Imp.to' (fun _ _=>trivial) (by simp [dNum,edE]) (by simp [dNum,edE])
   ·intro j hj
    refine AW_then fun K3 hK3=>?_
    by_cases hlt:j < E.length
    ·have hsn:edE (E.take (j+1))=entPut (.int .i64 E[j]) (.v (.bool true)) (edE (E.take j)):=by rw [List.take_succ_eq_append_getElem hlt,edE_snoc]
     have hkA:=(edE_get 0 (E.take j)).1
     have hkB:=hkA
     simp at hkB
     have hk1:=eq_true hkB
     have qf:=(Aq fw @hlt)
     refine rgqv [1,6,8,9,10,11,35] [29] ?_;refine AW_cond true (by simp [hlt]) (fun _=>?_) (fun h=>by cases h);refine AW_skip (hK3 _ ?_);refine AW_then fun K4 hK4=>?_;refine AW_block ?_
     have qf:=(Aq fw (Aq @hlt (Aq @ofOk.eq_1 (Aq @zeroM.eq_1 (Aq @zeroM.eq_2 @hk1)))))
     refine reKv hK4 [1,6,8,9,10,11] [29] ?_;refine AW_re (tyOf_good _) fun K' hK'=>?_;(repeat (refine sxn fun K2 hK2=>?_;simp [dNum];(repeat (refine ⟨by omega,?_⟩));refine hK2 _ ?_;clear hK2 K2));refine sxz (hK' _ ?_);clear hK' K';(try simp only [thn,inb]);refine Again.mk (j+1) (by omega) (by omega) ?_;rw [hsn];refine Imp.to' (fun _ _=>trivial) (by simp [dNum]) (by simp [dNum])
    ·obtain rfl:j=E.length:=by omega
     refine rgq fw [1,6,8,9,10,11,35] [29] ?_;refine AW_cond false (by simp) (fun h=>by cases h) (fun _=>?_);refine AW_exit (hK2 _ ?_)
     try rw [List.take_of_length_le (Nat.le_refl _)]
     have hlk:∀ k (h:k < p.names.length),entGet (.int .i64 (k:Int)) (edE E)=if edB p p.names[k]=true then some (.v (.bool true)) else none:=fun k h=>by
      rw [(edE_get (k:Int) E).2];simp only [hwm k h]
     have hkA:=(edE_get 0 E).1
     generalize edE E=EE at hlk hkA ⊢
     have hkB:=hkA
     simp at hkB
     have hk1:=eq_true hkB
     refine AW_then fun K5 hK5=>?_;refine rgq fw [1,6,8,9,12] [29] ?_;refine AW_for (S:=Nat) (fun k=>k≤p.names.length) (fun k=>⟨lst [(1,int most),(6,.d (.ip [.sl none NN,.sl none RR])),(8,int (PN k)),(9,.mp 29),(12,int k)],hlst [(29,.mp 181 EE)]⟩) (fun k=>p.names.length - k) 0 ?_ (by omega) ?_
     ·refine Imp.to' (fun _ _=>trivial) (by simp [dNum,hP0]) (by simp [dNum,hP0])
     ·intro k hkk
      have hPs2:=hPs k
      have hPm2:=hPm k hkk
      have hPp2:=hPp k hkk
      generalize hnv:PN k=n at hPs2 hPm2 hPp2 ⊢;refine AW_then fun K6 hK6=>?_
      by_cases hgo:k < p.names.length∧n≤most
      ·obtain ⟨hlt,hle⟩:=hgo
       have hlt2:k < NN.length:=by omega
       have hlt3:(k:Int) < (NN.length:Int):=by omega
       have qf:=(Aq fw (Aq @hlt3 @hle))
       refine rgqv [1,6,8,9,12,52] [29] ?_;refine AW_cond true (by simp [hlt2,hle]) (fun _=>?_) (fun h=>by cases h);refine AW_skip (hK6 _ ?_);refine AW_then fun K7 hK7=>?_;refine AW_block ?_
       have hlk2:=hlk k hlt
       have hPs3:=hPs2 hlt
       have hcn:=hcnt _ (List.getElem_mem hlt)
       have hkd2:=hkn _ (List.getElem_mem hlt)
       have hNk:NN[k]=[.v (.string (bs p.names[k].name)),.v (.int .i64 p.names[k].kind),.v (.int .i64 p.names[k].count)]:=by
        have:=hNg k hlt
        rw [List.getElem?_eq_getElem hlt2] at this;exact Option.some.inj this
       generalize edB p p.names[k]=ev at *;unfold partOf at hPs3;generalize hnk:p.names[k]=nk at hPs3 hNk hcn hkd2
       obtain ⟨nm,kd,ct⟩:=nk
       dsimp only at hPs3 hNk hcn hkd2
       have qf:=(Aq fw (Aq @hlt2 @hNk))
       refine rgqv [1,6,8,9,12,13] [29,13] ?_;refine AW.imp (Imp.freezeB 13 trivial) ?_;refine AW.st (by simp [dNum];rfl) ?_;refine AW_block ?_
       by_cases k2:kd=2
       ·subst k2;rw [if_pos (.inl rfl)] at hPs3;simp only [prodP,Int.mul_one] at hPs3;refine rgq fw [1,6,8,9,12,13,60] [29] ?_;refine AW_tt rfl ?_;refine reK fw hK7 [1,6,8,9,12] [29] ?_;refine AW_re (tyOf_good _) fun K' hK'=>?_;(repeat (refine sxn fun K2 hK2=>?_;simp [dNum];(repeat (refine ⟨by omega,?_⟩));refine hK2 _ ?_;clear hK2 K2));refine sxz (hK' _ ?_);clear hK' K';(try simp only [thn,inb]);refine Again.mk (k+1) (by omega) (by omega) ?_;rw [hPs3];refine Imp.to' (fun _ _=>trivial) (by simp [dNum]) (by simp [dNum])
       ·by_cases k1:kd=1
        ·subst k1
         cases ev with
         | true=>
          rw [if_pos (.inr ⟨rfl,rfl⟩)] at hPs3;simp only [prodP,Int.mul_one] at hPs3;simp only [if_true] at hlk2
          have qf:=(Aq fw (Aq @hlk2 (Aq @ofOk.eq_1 (Aq @zeroM.eq_1 (Aq @zeroM.eq_2 @hk1)))))
          refine rgqv [1,6,8,9,12,13,60] [29] ?_;refine AW_tt rfl ?_;refine reK fw hK7 [1,6,8,9,12] [29] ?_;refine AW_re (tyOf_good _) fun K' hK'=>?_;(repeat (refine sxn fun K2 hK2=>?_;simp [dNum];(repeat (refine ⟨by omega,?_⟩));refine hK2 _ ?_;clear hK2 K2));refine sxz (hK' _ ?_);clear hK' K';(try simp only [thn,inb]);refine Again.mk (k+1) (by omega) (by omega) ?_;rw [hPs3];refine Imp.to' (fun _ _=>trivial) (by simp [dNum]) (by simp [dNum])
         | false=>
          rw [if_neg (by simp),if_neg (by simp)] at hPs3;simp only [prodP,Int.mul_one] at hPs3;simp only [Bool.false_eq_true,if_false] at hlk2
          have qf:=(Aq fw (Aq @hlk2 (Aq @ofOk.eq_1 (Aq @zeroM.eq_1 (Aq @zeroM.eq_2 @hk1)))))
          refine rgqv [1,6,8,9,12,13,60] [29] ?_;refine AW_ff rfl ?_;refine rgq fw [1,6,8,9,12,13,76] [29] ?_;refine AW_ff rfl ?_;refine AW_skip ?_;refine hK7 _ (AW.norm [1,6,8,9,12] [29] (fun _ _=>trivial) (AW.st (by simp [dNum];rfl) ?_));refine AW_re (tyOf_good _) fun K' hK'=>?_;(repeat (refine sxn fun K2 hK2=>?_;simp [dNum];(repeat (refine ⟨by omega,?_⟩));refine hK2 _ ?_;clear hK2 K2));refine sxz (hK' _ ?_);clear hK' K';(try simp only [thn,inb]);refine Again.mk (k+1) (by omega) (by omega) ?_;rw [hPs3];refine Imp.to' (fun _ _=>trivial) (by simp [dNum]) (by simp [dNum])
        ·rw [if_neg (by simp [k1,k2]),if_pos k1] at hPs3;simp only [prodP,Int.mul_one] at hPs3
         have hb1:n * (ct+1)≤4096 * 8:=Int.mul_le_mul (by omega) (by omega) (by omega) (by omega)
         have hb0:0≤n * (ct+1):=Int.mul_nonneg (by omega) (by omega)
         have qf:=(Aq fw (Aq @k1 @k2))
         refine rgqv [1,6,8,9,12,13,60] [29] ?_;refine AW_cond false (by simp [k1,k2]) (fun h=>by cases h) (fun _=>?_)
         have qf:=(Aq fw @k1)
         refine rgqv [1,6,8,9,12,13,76] [29] ?_;refine AW_cond true (by simp [k1]) (fun _=>?_) (fun h=>by cases h);refine reK fw hK7 [1,6,8,9,12] [29] ?_;refine AW_re (tyOf_good _) fun K' hK'=>?_;(repeat (refine sxn fun K2 hK2=>?_;simp [dNum];(repeat (refine ⟨by omega,?_⟩));refine hK2 _ ?_;clear hK2 K2));refine sxz (hK' _ ?_);clear hK' K';(try simp only [thn,inb]);refine Again.mk (k+1) (by omega) (by omega) ?_;rw [hPs3];refine Imp.to' (fun _ _=>trivial) (by simp [dNum]) (by simp [dNum])
      ·rcases hres with ⟨hb,hR⟩ | ⟨hb,hR⟩
       ·have hgt:n > most:=by
         by_cases hlt:k < p.names.length
         ·exact Classical.byContradiction fun hn=>hgo ⟨hlt,by omega⟩
         ·obtain rfl:k=p.names.length:=by omega
          omega
        subst hR
        have hngo:¬ n≤most:=by omega
        by_cases hlt:k < p.names.length
        ·have hlt3:(k:Int) < (NN.length:Int):=by omega
         have qf:=(Aq fw (Aq @hlt3 @hngo))
         refine rgqv [1,6,8,9,12,52] [29] ?_;refine AW_cond false (by simp<;>omega) (fun h=>by cases h) (fun _=>?_);refine AW_exit (hK5 _ ?_);refine AW_then fun K8 hK8=>?_
         have qf:=(Aq fw @hgt)
         refine rgqv [6,87] [29] ?_;refine AW_cond true (by simp<;>omega) (fun _=>?_) (fun h=>by cases h);refine rgq fw [4,5] [29] ?_;refine AW_ret ?_;simp [D.le,D.le.go,takeMap,dNum]
        ·have hlt3:¬ (k:Int) < (NN.length:Int):=by omega
         have qf:=(Aq fw @hlt3)
         refine rgqv [1,6,8,9,12,52] [29] ?_;refine AW_cond false (by simp<;>omega) (fun h=>by cases h) (fun _=>?_);refine AW_exit (hK5 _ ?_);refine AW_then fun K8 hK8=>?_
         have qf:=(Aq fw @hgt)
         refine rgqv [6,87] [29] ?_;refine AW_cond true (by simp<;>omega) (fun _=>?_) (fun h=>by cases h);refine rgq fw [4,5] [29] ?_;refine AW_ret ?_;simp [D.le,D.le.go,takeMap,dNum]
       ·have hng:¬ n > most:=by omega
        have hof2:=hof (by omega)
        subst hR
        have hlt3:¬ (k:Int) < (NN.length:Int):=fun h=>hgo ⟨by omega,by omega⟩
        have qf:=(Aq fw @hlt3)
        refine rgqv [1,6,8,9,12,52] [29] ?_;refine AW_cond false (by simp<;>omega) (fun h=>by cases h) (fun _=>?_);refine AW_exit (hK5 _ ?_);refine AW_then fun K8 hK8=>?_
        have qf:=(Aq fw @hng)
        refine rgqv [6,87] [29] ?_;refine AW_cond false (by simp<;>omega) (fun h=>by cases h) (fun _=>?_);refine AW_skip (hK8 _ ?_);refine rgc fw hof2 [14,15] [29] ?_;refine rgq fw [4,5] [29] ?_;refine AW_ret ?_;simp [D.le,D.le.go,takeMap,dNum,D.le_refl,D.leGo_refl]
end Go.Proofs.YtpboiimemmfkiaaGreatDoor
namespace Go.Proofs.YtpboiimemmfkiaaGreatDoor
open Go.Av
def tdA:List Int→Nat→AV
 | [],_=>.d (.sl none [])
 | _ :: T,m=>.own 20 m (T.length+1)
set_option maxRecDepth 100000 in
set_option maxHeartbeats 16000000 in
theorem far_spec (G:Glob) (p:PgP) (hck:checkP p=none) (hi6:(inputP p).length≤6) (hP:prodP (partsP p)≤4096):PureC Tryz.prog G 50 [dMc p] (.tup [dIl (farN (nextP p)),.v .nilIface]):=by
 have ht:=tab_next hck
 have hpos:=ht.pos
 have hlen:=nextP_len p
 have hpp:0 < prodP (partsP p):=prodP_pos fun x hx=>(parts_good (checkP_good hck) hx).m2
 have hfin:∀ O,Bfs (nextP p) O []→O=farN (nextP p):=fun O h=>far_unique (bfs_end h) (farN_is ht)
 have hst:=bfs_start ht
 have hrl64:∀ s (h:s < (nextP p).length),(nextP p)[s].length≤64:=fun s h=>by
  rw [nextP_at h,rowP_len]
  have:=Nat.pow_le_pow_right (n:=2) (by decide) hi6
  omega
 have hNl:=nxD_len (nextP p)
 have hNg:∀ s (h:s < (nextP p).length),(nxD (nextP p))[s]? = some [dIl (nextP p)[s]]:=fun s h=>by simp [nxD,h]
 have hrep:=fun n (h1:1≤n) (h2:n≤2^20)=>repeat_mc G (-1) n h1 h2
 have hcast:((nextP p).length:Int)=prodP (partsP p):=by rw [hlen];omega
 simp only [dMc,dMa,cMa,dNms,dRgs,dPas,dIl,dNum] at hNg hrep ⊢;rw [← hcast]
 have hn12:(nextP p).length≤4096:=by omega
 generalize farN (nextP p)=F at *;generalize nxD (nextP p)=NX at *;generalize nextP p=TN at *;clear hlen hcast;generalize ((inputP p).map fun n=>[D.v (.int .i64 n)])=IN at *;generalize (partsP p).map cPa=PT at *;generalize p.names.map cNm=NN at *;generalize p.rungs.map cRg=RR at *
 obtain ⟨N,hN⟩:∃ N:Nat,TN.length=N:=⟨_,rfl⟩
 rw [hN] at hNl hn12 hpos hst ⊢
 have hrp:=hrep N (by omega) (by omega)
 have hpos2:0 < N:=by omega
 refine PureC.of_body (tyOf_good _) Tryz.func50 rfl rfl (rs:=[.tmp 2,.tmp 3]) Tryz.results50 (by simp [Tryz.ntmps50]) fun X=>?_;simp only [Tryz.ntmps50,List.map]
 have fw:=@dNum.eq_1
 refine rgq fw [0] [] ?_;refine AW_then fun K1 hK1=>?_;refine rgq fw [0,10] [] ?_;refine AW_ff rfl ?_;refine AW_skip (hK1 _ ?_);refine rg [0,4] [601] (fun _ _=>trivial) fun K' hK'=>?_;(repeat (refine sxn fun K2 hK2=>?_;simp [dNum];(repeat (refine ⟨by omega,?_⟩));refine hK2 _ ?_;clear hK2 K2));refine sxn fun K2 hK2=>?_;simp [dNum];refine callK.frz 12 (by first | rfl | (simp [dNum];rfl)) trivial ?_;simp [dNum];refine callK.mc (hrp) ?_ ?_ ?_ ?_ ?_<;>simp [dNum];refine hK2 _ ?_;clear hK2 K2;(repeat (refine sxn fun K2 hK2=>?_;simp [dNum];(repeat (refine ⟨by omega,?_⟩));refine hK2 _ ?_;clear hK2 K2));refine sxz (hK' _ (AW.st (by simp [dNum];rfl) ?_));clear hK' K'
 have qf:=(Aq fw @hpos2)
 refine rgqv [0,4] [601] ?_;refine AW_then fun K2 hK2=>?_;refine rgq fw [0,4,5] [601,20] ?_;refine AW_for (S:=List Int×List Int×List (List D)) (fun s=>Bfs TN s.1 s.2.1) (fun s=>⟨lst [(0,.d (.ip [.sl none NN,.sl none RR,.v (.int .i64 N),.v (.int .i64 (inN p)),.sl none NX,.sl none PT,.sl none IN])),(4,.own 601 0 N),(5,tdA s.2.1 s.2.2.length)],hlst [(601,.sl 3 1 (s.1.map fun n=>[.v (.int .i64 n)])),(20,.sl 3 1 (s.2.2 ++ s.2.1.map fun n=>[.v (.int .i64 n)]))]⟩) (fun s=>2 * negN s.1+s.2.1.length) ((List.replicate N (-1)).set 0 0,[0],[]) ?_ hst ?_
 ·refine Imp.to' (fun _ _=>trivial) (by simp [dNum,List.map_set,List.map_replicate,tdA]) (by simp [dNum,List.map_set,List.map_replicate,tdA])
 ·rintro ⟨O,T,pr⟩ hb
  dsimp only at hb ⊢
  refine AW_then fun K3 hK3=>?_
  cases T with
  | nil=>
   simp only [tdA];refine rgq fw [0,4,5,23] [601,20] ?_;refine AW_cond false (by simp) (fun h=>by cases h) (fun _=>?_);refine AW_exit (hK2 _ ?_)
   obtain rfl:=hfin O hb
   have hOl:(O.map fun n=>[D.v (.int .i64 n)]).length=N:=by rw [List.length_map,hb.len,hN]
   refine AW.imp (Imp.freeze 601 trivial) ?_;refine AW.st (by simp [dNum,hOl,List.take_of_length_le];rfl) ?_;refine rgq fw [2,3] [20] ?_;refine AW_ret ?_;simp [D.le,D.le.go,takeMap,dNum,D.le_refl,D.leGo_refl]
  | cons t T=>
   obtain ⟨h0,h1,h2⟩:=hb.mem t (by simp)
   obtain ⟨s,rfl⟩:=Int.eq_ofNat_of_zero_le h0
   have hsN:s < N:=by omega
   have hsT:s < TN.length:=by omega
   have hgl:(T.length:Int)+1 > 0:=by omega
   simp only [tdA]
   have qf:=(Aq fw @hgl)
   refine rgqv [0,4,5,23] [601,20] ?_;refine AW_cond true (by simp<;>omega) (fun _=>?_) (fun h=>by cases h);refine AW_skip (hK3 _ ?_);refine AW_then fun K4 hK4=>?_;refine AW_block ?_
   have hXg:=hNg s hsT
   have hXl:s < NX.length:=by omega
   have hXs:NX[s]=[.sl none (TN[s].map fun n=>[.v (.int .i64 n)])]:=by
    rw [List.getElem?_eq_getElem hXl] at hXg;exact Option.some.inj hXg
   have htm:=ht.mem _ (List.getElem_mem hsT)
   have hR64:=hrl64 s hsT
   have hrow:∃ R,TN[s]=R:=⟨_,rfl⟩
   obtain ⟨R,hR⟩:=hrow
   have hrl:∀ k (h:k < R.length),(R.map fun n=>[D.v (.int .i64 n)])[k]? = some [.v (.int .i64 R[k])]:=fun k h=>by simp [h]
   have hg0:(pr ++ List.map (fun n=>[D.v (.int .i64 n)]) ((s:Int) :: T))[pr.length]? = some [.v (.int .i64 s)]:=by simp
   have hgL:(pr ++ List.map (fun n=>[D.v (.int .i64 n)]) ((s:Int) :: T)).length=pr.length+(T.length+1):=by simp
   rw [hR] at hXs htm hR64
   have hRl:(R.map fun n=>[D.v (.int .i64 n)]).length=R.length:=by simp
   have hM0:2 * negN O+T.length≤2 * negN O+T.length:=Nat.le_refl _
   generalize hM:2 * negN O+T.length=M at hM0
   have hMd:2 * negN O+((s:Int) :: T).length=M+1:=by simp;omega
   generalize hROW:pr ++ List.map (fun n=>[D.v (.int .i64 n)]) ((s:Int) :: T)=ROW at hg0 hgL ⊢
   obtain ⟨hgi,hg0⟩:=List.getElem?_eq_some_iff.1 hg0
   have qf:=(Aq fw (Aq @hgi (Aq @hg0 @hgL)))
   refine rgqv [0,4,5,6] [601,20] ?_
   have qf:=(Aq fw (Aq @hXl @hXs))
   refine rgqv [0,4,5,6,35,36,37] [601,20] ?_;subst hROW;refine AW_for (S:=Nat×List Int×List Int×List (List D)) (fun q=>q.1≤R.length∧Bfs TN q.2.1 ((s:Int) :: q.2.2.1)∧(∀ t∈R.take q.1,okT q.2.1 s t)∧2 * negN q.2.1+q.2.2.1.length≤M) (fun q=>⟨lst [(0,.d (.ip [.sl none NN,.sl none RR,.v (.int .i64 N),.v (.int .i64 (inN p)),.sl none NX,.sl none PT,.sl none IN])),(4,.own 601 0 N),(5,.own 20 q.2.2.2.length (q.2.2.1.length+1)),(6,int s),(35,.d (.sl none (R.map fun n=>[.v (.int .i64 n)]))),(36,int R.length),(37,int q.1)],hlst [(601,.sl 3 1 (q.2.1.map fun n=>[.v (.int .i64 n)])),(20,.sl 3 1 (q.2.2.2 ++ [.v (.int .i64 s)] :: q.2.2.1.map fun n=>[.v (.int .i64 n)]))]⟩) (fun q=>R.length - q.1) (0,O,T,pr) ?_ ⟨by simp,hb,by simp,by dsimp only;omega⟩ ?_
   ·refine Imp.to' (fun _ _=>trivial) (by simp [dNum]) (by simp [dNum])
   ·rintro ⟨k,O2,T2,pr2⟩ ⟨hk,hb2,hok,hms⟩
    dsimp only at hk hb2 hok hms ⊢
    have hfew:=hb2.few
    simp only [List.length_cons] at hfew
    have hT2:T2.length+1≤4096:=by omega
    have hO2l:(O2.map fun n=>[D.v (.int .i64 n)]).length=N:=by rw [List.length_map,hb2.len,hN]
    refine rgq fw [0,4,5,6,35,36,37,38] [601,20] ?_;refine AW_then fun K5 hK5=>?_;refine AW_cond' (b:=k < R.length) (by simp [D.le,D.le.go,takeMap,dNum]) (fun hc=>?_) (fun hc=>?_)
    ·refine AW_skip (hK5 _ ?_);refine AW_then fun K6 hK6=>?_;refine AW_block ?_
     obtain ⟨v0,v1⟩:=htm R[k] (List.getElem_mem hc)
     obtain ⟨u,hu⟩:=Int.eq_ofNat_of_zero_le v0
     have huN:u < N:=by omega
     have huO:u < O2.length:=by rw [hb2.len,hN];exact huN
     have hsO:s < O2.length:=by rw [hb2.len,hN];exact hsN
     have hin:(u:Int)∈TN[s]:=by rw [hR,← hu];exact List.getElem_mem hc
     have htk:R.take (k+1)=R.take k ++ [(u:Int)]:=by rw [List.take_succ_eq_append_getElem hc,hu]
     have hs0:=(hb2.mem (s:Int) (by simp)).2.2
     simp only [Int.toNat_natCast] at hs0
     have hsh:=hb2.hi s hsT
     have htp:=hb2.top _ rfl u (by omega)
     simp only [Int.toNat_natCast] at htp
     have hcnt:0≤((O2.countP fun x=>decide (x < 0):Nat):Int):=by omega
     have qf:=(Aq fw (Aq @hc @hu))
     refine rgqv [0,4,5,6,8,35,36,37] [601,20] ?_
     by_cases hneg:O2.getD u 0 < 0
     ·have hpush:=bfs_push hb2 hsT (by omega) hin hneg
      have hng:=negN_set (x:=O2.getD s 0+1) huO hneg (by omega)
      have hsu:u≠s:=fun e=>by subst e;omega
      have hok2:∀ t∈R.take (k+1),okT (O2.set u (O2.getD s 0+1)) s t:=fun t h=>by
       rw [htk] at h
       rcases List.mem_append.1 h with h | h
       ·exact okT_set (hok t h) hs0 hneg
       ·obtain rfl:=List.mem_singleton.1 h
        unfold okT;rw [Int.toNat_natCast,getD_set_same huO,getD_set_other hsu]
        omega
      rw [getD_of huO] at hneg;rw [getD_of hsO] at hpush hng hok2 hs0 hsh;generalize hov:O2[u]=ov at hneg;generalize hsv:O2[s]=sv at *
      have hdt:List.take (T2.length+1) (List.drop pr2.length (pr2 ++ [D.v (.int .i64 s)] :: T2.map fun n=>[D.v (.int .i64 n)]))=[D.v (.int .i64 s)] :: T2.map fun n=>[D.v (.int .i64 n)]:=by
       rw [List.drop_left,List.take_of_length_le (by simp)]
      have qf:=(Aq fw (Aq @huO (Aq @huN (Aq @hov @hneg))))
      refine rgqv [0,4,5,6,8,35,36,37,45] [601,20] ?_;refine AW_cond true (by simp<;>omega) (fun _=>?_) (fun h=>by cases h)
      have qf:=(Aq fw (Aq @huO (Aq @hsO (Aq @huN (Aq @hsN @hsv)))))
      refine rgqv [0,4,5,6,8,35,36,37] [601,20] ?_;refine AW_rte (tyOf_good _) fun K' hK'=>?_;(repeat (refine sxt_next fun K2 hK2=>?_;simp [dNum,hdt];(repeat (refine ⟨by omega,?_⟩));(first | refine hK2 _ ?_ | (intro pre;refine hK2 _ ?_));clear hK2 K2));refine sxt_nil (hK' _ ?_);clear hK' K';refine hK6 _ (AW.norm [0,4,5,6,35,36,37] [601,20] (fun _ _=>trivial) (AW.st (by simp [dNum,hdt];rfl) ?_));refine AW_re (tyOf_good _) fun K' hK'=>?_;(repeat (refine sxn fun K2 hK2=>?_;simp [dNum];(repeat (refine ⟨by omega,?_⟩));refine hK2 _ ?_;clear hK2 K2));refine sxz (hK' _ ?_);clear hK' K';(try simp only [thn,inb]);refine Again.mk (k+1,O2.set u (sv+1),T2 ++ [(u:Int)],pre) ⟨by dsimp only;omega,hpush,hok2,by dsimp only;rw [List.length_append];simp only [List.length_cons,List.length_nil];omega⟩ (by dsimp only;omega) ?_;refine Imp.to' (fun _ _=>trivial) (by simp [dNum,List.map_set,List.take_of_length_le]) (by simp [dNum,List.map_set,List.take_of_length_le])
     ·have hok2:∀ t∈R.take (k+1),okT O2 s t:=fun t h=>by
       rw [htk] at h
       rcases List.mem_append.1 h with h | h
       ·exact hok t h
       ·obtain rfl:=List.mem_singleton.1 h
        unfold okT;rw [Int.toNat_natCast]
        omega
      rw [getD_of huO] at hneg;generalize hov:O2[u]=ov at hneg
      have qf:=(Aq fw (Aq @huO (Aq @huN (Aq @hov @hneg))))
      refine rgqv [0,4,5,6,8,35,36,37,45] [601,20] ?_;refine AW_cond false (by simp<;>omega) (fun h=>by cases h) (fun _=>?_);refine AW_skip (hK6 _ ?_);refine AW_re (tyOf_good _) fun K' hK'=>?_;(repeat (refine sxn fun K2 hK2=>?_;simp [dNum];(repeat (refine ⟨by omega,?_⟩));refine hK2 _ ?_;clear hK2 K2));refine sxz (hK' _ ?_);clear hK' K';(try simp only [thn,inb]);refine Again.mk (k+1,O2,T2,pr2) ⟨by dsimp only;omega,hb2,hok2,hms⟩ (by dsimp only;omega) ?_;refine Imp.to' (fun _ _=>trivial) (by simp [dNum]) (by simp [dNum])
    ·obtain rfl:k=R.length:=by omega
     rw [List.take_of_length_le (Nat.le_refl _)] at hok
     have hpop:=bfs_pop hb2 hsT (by rw [hR];exact hok)
     cases T2 with
     | nil=>
      refine AW_exit (hK4 _ ?_);refine AW_re (tyOf_good _) fun K' hK'=>?_;(repeat (refine sxn fun K2 hK2=>?_;simp [dNum];(repeat (refine ⟨by omega,?_⟩));refine hK2 _ ?_;clear hK2 K2));refine sxz (hK' _ ?_);clear hK' K';(try simp only [thn,inb]);refine Again.mk (O2,[],pr2 ++ [[D.v (.int .i64 s)]]) hpop (by dsimp only;omega) ?_;refine Imp.to' (fun _ _=>trivial) (by simp [dNum,tdA]) (by simp [dNum,tdA])
     | cons u T3=>
      have hne:¬ (1:Int)=(T3.length:Int)+1+1:=by omega
      refine AW_exit (hK4 _ ?_);refine AW_re (tyOf_good _) fun K' hK'=>?_;(repeat (refine sxn fun K2 hK2=>?_;simp [dNum,hne];(repeat (refine ⟨by omega,?_⟩));refine hK2 _ ?_;clear hK2 K2));refine sxz (hK' _ ?_);clear hK' K';(try simp only [thn,inb]);refine Again.mk (O2,u :: T3,pr2 ++ [[D.v (.int .i64 s)]]) hpop (by dsimp only;omega) ?_;refine Imp.to' (fun _ _=>trivial) (by simp [dNum,tdA]) (by simp [dNum,tdA])
end Go.Proofs.YtpboiimemmfkiaaGreatDoor
namespace Go.Proofs.YtpboiimemmfkiaaGreatDoor
open Go.Av
theorem fix_read:readP fixT=some fixP:=by unfold readP;rw [if_neg (by decide),fix_parse]
theorem fix_next:nextP fixP=[[0,1],[1,1]]:=by kernel_rfl
theorem fix_prod:prodP (partsP fixP)=2:=by kernel_rfl
theorem fix_inl:(inputP fixP).length=1:=by kernel_rfl
theorem fix_made {most:Int} (h:2≤most):madeP fixT most=some fixP:=by
 unfold madeP;rw [fix_read];simp only [fix_inl,fix_prod];rw [if_neg (by omega)]
theorem inN_pos (p:PgP):0 < inN p:=Nat.pow_pos (by decide)
theorem inN_le {p:PgP} (h:(inputP p).length≤4):inN p≤16:=Nat.pow_le_pow_right (n:=2) (by decide) h
end Go.Proofs.YtpboiimemmfkiaaGreatDoor
namespace Go.Proofs.YtpboiimemmfkiaaGreatDoor
open Go.Av
theorem fix_far:farN (nextP fixP)=[0,1]:=by
 have ht:=tab_next fix_check
 refine far_unique (farN_is ht) ?_;rw [fix_next];refine ⟨rfl,rfl,fun t ht e=>?_,fun s hs=>?_,fun s hs h0 t htm=>?_,fun t ht h0=>?_⟩
 ·match t,ht with
  | 0,_=>rfl
  | 1,_=>exact absurd e (by decide)
 ·match s,hs with
  | 0,_=>decide
  | 1,_=>decide
 ·match s,hs with
  | 0,_=>
   have:t=0∨t=1:=by simpa using htm
   rcases this with rfl | rfl<;>decide
  | 1,_=>
   have:t=1:=by simpa using htm
   subst this
   decide
 ·match t,ht with
  | 0,_=>exact absurd h0 (by decide)
  | 1,_=>exact ⟨0,by decide,by decide,by decide⟩
set_option maxHeartbeats 4000000 in
theorem p1_mc (G:Glob) (r:List (List D)) (hr:r.length=2) (x:Int) (hx:x=0∨x=1):MC Tryz.prog G [8,9,46,73] 109 [.d (.v (.int .i64 x)),.ref 8 0 0,.ref 9 0 0] (hlst [(8,.box 63 [.own 46 0 2]),(9,.box 3 [.d (.v (.int .i64 1))]),(46,.box 67 [.d (.sl none [[.v (.bool false)],[.v (.bool true)]]),.own 73 0 2]),(73,.sl 4 1 r)]) (.d (.v (.bool (x == 1)))) (hlst [(8,.box 63 [.own 46 0 2]),(9,.box 3 [.d (.v (.int .i64 1))]),(46,.box 67 [.d (.sl none [[.v (.bool false)],[.v (.bool true)]]),.own 73 0 2]),(73,.sl 4 1 r)]):=by
 rcases hx with rfl | rfl
 ·refine MC.of_body (tyOf_good _) Tryz.func109 rfl rfl (rs:=[.tmp 4]) Tryz.results109 (by simp [Tryz.ntmps109]) rfl fun X=>?_;simp only [Tryz.ntmps109];refine rg0 [0,1,2] [8,9,46,73] ?_;refine rg0 [4] [8,9,46,73] ?_;refine AW_ret ?_;simp [D.le,D.le.go,takeMap]
 ·refine MC.of_body (tyOf_good _) Tryz.func109 rfl rfl (rs:=[.tmp 4]) Tryz.results109 (by simp [Tryz.ntmps109]) rfl fun X=>?_;simp only [Tryz.ntmps109];refine rg0 [0,1,2] [8,9,46,73] ?_;refine rg0 [4] [8,9,46,73] ?_;refine AW_ret ?_;simp [D.le,D.le.go,takeMap]
set_option maxHeartbeats 4000000 in
theorem ix1_mc (G:Glob) (r:List (List D)) (hr:r.length=2) (xs:List Int) (hx:∀ x∈xs,x=0∨x=1) (hl:xs.length < 2^40):MC Tryz.prog G [8,9,46,73] 110 [.d (.sl none (xs.map fun n=>[.v (.int .i64 n)])),.fn (.func 109) [.ref 8 0 0,.ref 9 0 0]] (hlst [(8,.box 63 [.own 46 0 2]),(9,.box 3 [.d (.v (.int .i64 1))]),(46,.box 67 [.d (.sl none [[.v (.bool false)],[.v (.bool true)]]),.own 73 0 2]),(73,.sl 4 1 r)]) (.d (.v (.int .i64 (idx (fun x:Int=>x == 1) xs)))) (hlst [(8,.box 63 [.own 46 0 2]),(9,.box 3 [.d (.v (.int .i64 1))]),(46,.box 67 [.d (.sl none [[.v (.bool false)],[.v (.bool true)]]),.own 73 0 2]),(73,.sl 4 1 r)]):=by
 have hp:=fun x (h:x∈xs)=>p1_mc G r hr x (hx x h)
 refine MC.of_body (tyOf_good _) Tryz.func110 rfl rfl (rs:=[.tmp 4]) Tryz.results110 (by simp [Tryz.ntmps110]) rfl fun X=>?_;simp only [Tryz.ntmps110];refine rg0 [0,1] [8,9,46,73] ?_;refine AW_then fun K1 hK1=>?_;refine rg0 [0,1,7,8] [8,9,46,73] ?_;refine AW_for (S:=Nat) (fun n=>n≤xs.length∧∀ i (hi:i < xs.length),i < n→(xs[i] == 1)=false) (fun n=>⟨lst [(0,.d (.sl none (xs.map fun n=>[.v (.int .i64 n)]))),(1,.fn (.func 109) [.ref 8 0 0,.ref 9 0 0]),(7,int xs.length),(8,int n)],hlst [(8,.box 63 [.own 46 0 2]),(9,.box 3 [.d (.v (.int .i64 1))]),(46,.box 67 [.d (.sl none [[.v (.bool false)],[.v (.bool true)]]),.own 73 0 2]),(73,.sl 4 1 r)]⟩) (fun n=>xs.length - n) 0 ?_ (by simp) ?_
 ·refine Imp.to' (notIn_ok rfl) (by simp) (by simp)
 ·rintro n ⟨hn,hpn⟩
  refine rg0 [0,1,7,8,9] [8,9,46,73] ?_;refine AW_then fun K2 hK2=>?_;refine AW_cond' (b:=n < xs.length) (by simp [D.le,D.le.go,takeMap]) (fun hc=>?_) (fun hc=>?_)
  ·refine AW_skip (hK2 _ ?_);refine AW_then fun K3 hK3=>?_;refine AW_block ?_
   have hp1:=hp _ (List.getElem_mem hc)
   refine rg0 [0,1,5,7,8] [8,9,46,73] ?_
   have qf:=@hc
   refine rgmv hp1 [0,1,5,7,8,16] [8,9,46,73] ?_;refine AW_cond _ rfl (fun hp2=>?_) (fun hp2=>?_)
   ·refine rg0 [4] [8,9,46,73] ?_;refine AW_ret ?_;simp [D.le,D.le.go,takeMap,(idx_hit (p:=fun x:Int=>x == 1) hc hp2 fun i hi=>hpn i (by omega) hi).symm]
   ·refine AW_skip (hK3 _ ?_);refine AW_re (tyOf_good _) fun K' hK'=>?_;(repeat (refine sxn fun K2 hK2=>?_;simp;(repeat (refine ⟨by omega,?_⟩));refine hK2 _ ?_;clear hK2 K2));refine sxz (hK' _ ?_);clear hK' K';(try simp only [thn,inb]);refine Again.mk (n+1) ⟨by omega,fun i hi hin=>?_⟩ (by omega) ?_
    ·by_cases h:i=n
     ·subst h;exact hp2
     ·exact hpn i hi (by omega)
    refine Imp.to' (notIn_ok rfl) (by simp) (by simp)
  ·refine AW_exit (hK1 _ ?_)
   have hmi:=idx_miss (p:=fun x:Int=>x == 1) (l:=xs) fun i hi=>hpn i hi (by omega)
   rw [hmi];refine rg0 [4] [8,9,46,73] ?_;refine AW_ret ?_;simp [D.le,D.le.go,takeMap]
set_option maxHeartbeats 4000000 in
theorem co1_mc (G:Glob) (r:List (List D)) (hr:r.length=2) (xs:List Int) (hx:∀ x∈xs,x=0∨x=1) (hl:xs.length < 2^40):MC Tryz.prog G [8,9,46,73] 108 [.d (.sl none (xs.map fun n=>[.v (.int .i64 n)])),.fn (.func 109) [.ref 8 0 0,.ref 9 0 0]] (hlst [(8,.box 63 [.own 46 0 2]),(9,.box 3 [.d (.v (.int .i64 1))]),(46,.box 67 [.d (.sl none [[.v (.bool false)],[.v (.bool true)]]),.own 73 0 2]),(73,.sl 4 1 r)]) (.d (.v (.bool (decide (0≤idx (fun x:Int=>x == 1) xs))))) (hlst [(8,.box 63 [.own 46 0 2]),(9,.box 3 [.d (.v (.int .i64 1))]),(46,.box 67 [.d (.sl none [[.v (.bool false)],[.v (.bool true)]]),.own 73 0 2]),(73,.sl 4 1 r)]):=by
 have hi:=ix1_mc G r hr xs hx hl
 generalize idx (fun x:Int=>x == 1) xs=ix at hi ⊢;generalize (xs.map fun n=>[D.v (.int .i64 n)])=XS at *;refine MC.of_body (tyOf_good _) Tryz.func108 rfl rfl (rs:=[.tmp 4]) Tryz.results108 (by simp [Tryz.ntmps108]) rfl fun X=>?_;simp only [Tryz.ntmps108];refine rg0 [0,1] [8,9,46,73] ?_;refine rgm trivial hi [4] [8,9,46,73] ?_;refine AW_ret ?_;simp [D.le,D.le.go,takeMap]
set_option maxHeartbeats 4000000 in
theorem p2_mc (G:Glob) (x1:D) (x:Int) (hx:x=0∨x=1):MC Tryz.prog G [8,14,46] 111 [.d (.v (.int .i64 x)),.ref 8 0 0,.ref 14 0 0] (hlst [(8,.box 63 [.own 46 0 2]),(14,.box 3 [.d (.v (.int .i64 1))]),(46,.box 67 [.d (.sl none [[.v (.bool false)],[.v (.bool true)]]),.d x1])]) (.d (.v (.bool (x == 1)))) (hlst [(8,.box 63 [.own 46 0 2]),(14,.box 3 [.d (.v (.int .i64 1))]),(46,.box 67 [.d (.sl none [[.v (.bool false)],[.v (.bool true)]]),.d x1])]):=by
 rcases hx with rfl | rfl
 ·refine MC.of_body (tyOf_good _) Tryz.func111 rfl rfl (rs:=[.tmp 4]) Tryz.results111 (by simp [Tryz.ntmps111]) rfl fun X=>?_;simp only [Tryz.ntmps111];refine rg0 [0,1,2] [8,14,46] ?_;refine rg0 [4] [8,14,46] ?_;refine AW_ret ?_;simp [D.le,D.le.go,takeMap]
 ·refine MC.of_body (tyOf_good _) Tryz.func111 rfl rfl (rs:=[.tmp 4]) Tryz.results111 (by simp [Tryz.ntmps111]) rfl fun X=>?_;simp only [Tryz.ntmps111];refine rg0 [0,1,2] [8,14,46] ?_;refine rg0 [4] [8,14,46] ?_;refine AW_ret ?_;simp [D.le,D.le.go,takeMap]
set_option maxHeartbeats 4000000 in
theorem ix2_mc (G:Glob) (x1:D) (xs:List Int) (hx:∀ x∈xs,x=0∨x=1) (hl:xs.length < 2^40):MC Tryz.prog G [8,14,46] 110 [.d (.sl none (xs.map fun n=>[.v (.int .i64 n)])),.fn (.func 111) [.ref 8 0 0,.ref 14 0 0]] (hlst [(8,.box 63 [.own 46 0 2]),(14,.box 3 [.d (.v (.int .i64 1))]),(46,.box 67 [.d (.sl none [[.v (.bool false)],[.v (.bool true)]]),.d x1])]) (.d (.v (.int .i64 (idx (fun x:Int=>x == 1) xs)))) (hlst [(8,.box 63 [.own 46 0 2]),(14,.box 3 [.d (.v (.int .i64 1))]),(46,.box 67 [.d (.sl none [[.v (.bool false)],[.v (.bool true)]]),.d x1])]):=by
 have hp:=fun x (h:x∈xs)=>p2_mc G x1 x (hx x h)
 refine MC.of_body (tyOf_good _) Tryz.func110 rfl rfl (rs:=[.tmp 4]) Tryz.results110 (by simp [Tryz.ntmps110]) rfl fun X=>?_;simp only [Tryz.ntmps110];refine rg0 [0,1] [8,14,46] ?_;refine AW_then fun K1 hK1=>?_;refine rg0 [0,1,7,8] [8,14,46] ?_;refine AW_for (S:=Nat) (fun n=>n≤xs.length∧∀ i (hi:i < xs.length),i < n→(xs[i] == 1)=false) (fun n=>⟨lst [(0,.d (.sl none (xs.map fun n=>[.v (.int .i64 n)]))),(1,.fn (.func 111) [.ref 8 0 0,.ref 14 0 0]),(7,int xs.length),(8,int n)],hlst [(8,.box 63 [.own 46 0 2]),(14,.box 3 [.d (.v (.int .i64 1))]),(46,.box 67 [.d (.sl none [[.v (.bool false)],[.v (.bool true)]]),.d x1])]⟩) (fun n=>xs.length - n) 0 ?_ (by simp) ?_
 ·refine Imp.to' (notIn_ok rfl) (by simp) (by simp)
 ·rintro n ⟨hn,hpn⟩
  refine rg0 [0,1,7,8,9] [8,14,46] ?_;refine AW_then fun K2 hK2=>?_;refine AW_cond' (b:=n < xs.length) (by simp [D.le,D.le.go,takeMap]) (fun hc=>?_) (fun hc=>?_)
  ·refine AW_skip (hK2 _ ?_);refine AW_then fun K3 hK3=>?_;refine AW_block ?_
   have hp1:=hp _ (List.getElem_mem hc)
   refine rg0 [0,1,5,7,8] [8,14,46] ?_
   have qf:=@hc
   refine rgmv hp1 [0,1,5,7,8,16] [8,14,46] ?_;refine AW_cond _ rfl (fun hp2=>?_) (fun hp2=>?_)
   ·refine rg0 [4] [8,14,46] ?_;refine AW_ret ?_;simp [D.le,D.le.go,takeMap,(idx_hit (p:=fun x:Int=>x == 1) hc hp2 fun i hi=>hpn i (by omega) hi).symm]
   ·refine AW_skip (hK3 _ ?_);refine AW_re (tyOf_good _) fun K' hK'=>?_;(repeat (refine sxn fun K2 hK2=>?_;simp;(repeat (refine ⟨by omega,?_⟩));refine hK2 _ ?_;clear hK2 K2));refine sxz (hK' _ ?_);clear hK' K';(try simp only [thn,inb]);refine Again.mk (n+1) ⟨by omega,fun i hi hin=>?_⟩ (by omega) ?_
    ·by_cases h:i=n
     ·subst h;exact hp2
     ·exact hpn i hi (by omega)
    refine Imp.to' (notIn_ok rfl) (by simp) (by simp)
  ·refine AW_exit (hK1 _ ?_)
   have hmi:=idx_miss (p:=fun x:Int=>x == 1) (l:=xs) fun i hi=>hpn i hi (by omega)
   rw [hmi];refine rg0 [4] [8,14,46] ?_;refine AW_ret ?_;simp [D.le,D.le.go,takeMap]
end Go.Proofs.YtpboiimemmfkiaaGreatDoor
namespace Go.Proofs.YtpboiimemmfkiaaGreatDoor
open Go.Av
structure LeastX (NX:List (List Int)) (kp:List Int→List Bool→Bool) (d:Bool) (B X:List Bool):Prop where
 lb:B.length=NX.length
 lx:X.length=NX.length
 base:∀ s,s < NX.length→B.getD s d = !d→X.getD s d = !d
 shut:∀ s (h:s < NX.length),X.getD s d=d→kp NX[s] X=d
 least:∀ Y:List Bool,Y.length=NX.length→(∀ s,s < NX.length→B.getD s d = !d→Y.getD s d = !d)→(∀ s (h:s < NX.length),Y.getD s d=d→kp NX[s] Y=d)→∀ s,s < NX.length→X.getD s d = !d→Y.getD s d = !d
theorem least_unique {NX:List (List Int)} {kp:List Int→List Bool→Bool} {d:Bool} {B X X':List Bool} (h:LeastX NX kp d B X) (h':LeastX NX kp d B X'):X=X':=by
 refine ext_getD (d:=d) (h.lx.trans h'.lx.symm) fun s hs=>?_;rw [h.lx] at hs
 have a:=h.least X' h'.lx h'.base h'.shut s hs
 have b:=h'.least X h.lx h.base h.shut s hs
 cases d<;>cases e1:X.getD s _<;>cases e2:X'.getD s _<;>simp_all
def MonoX (NX:List (List Int)) (kp:List Int→List Bool→Bool) (d:Bool):Prop:=∀ X Y:List Bool,X.length=NX.length→Y.length=NX.length→(∀ s,s < NX.length→X.getD s d = !d→Y.getD s d = !d)→∀ s (h:s < NX.length),kp NX[s] Y=d→kp NX[s] X=d
structure WayX (NX:List (List Int)) (kp:List Int→List Bool→Bool) (d:Bool) (B X:List Bool):Prop where
 lb:B.length=NX.length
 lx:X.length=NX.length
 base:∀ s,s < NX.length→B.getD s d = !d→X.getD s d = !d
 least:∀ Y:List Bool,Y.length=NX.length→(∀ s,s < NX.length→B.getD s d = !d→Y.getD s d = !d)→(∀ s (h:s < NX.length),Y.getD s d=d→kp NX[s] Y=d)→∀ s,s < NX.length→X.getD s d = !d→Y.getD s d = !d
theorem way_start {NX:List (List Int)} {kp:List Int→List Bool→Bool} {d:Bool} {B:List Bool} (h:B.length=NX.length):WayX NX kp d B B:=⟨h,h,fun _ _ h=>h,fun _ _ h _=>h⟩
theorem way_turn {NX:List (List Int)} {kp:List Int→List Bool→Bool} {d:Bool} {B X:List Bool} (hm:MonoX NX kp d) (h:WayX NX kp d B X) {s:Nat} (hs:s < NX.length) (hk:kp NX[s] X≠d):WayX NX kp d B (X.set s (!d)):=by
 have hl:=h.lx
 refine ⟨h.lb,by simp [hl],fun u hu hb=>?_,fun Y hY h1 h2 u hu hx=>?_⟩
 ·by_cases e:s=u
  ·subst e;exact getD_set_same (by omega)
  ·rw [getD_set_other e];exact h.base u hu hb
 ·by_cases e:s=u
  ·subst e
   have hYs:¬ Y.getD s d=d:=fun hy=>hk (hm X Y hl hY (fun v hv=>h.least Y hY h1 h2 v hv) s hs (h2 s hs hy))
   cases d<;>cases hh:Y.getD s _<;>simp_all
  ·rw [getD_set_other e] at hx;exact h.least Y hY h1 h2 u hu hx
theorem way_end {NX:List (List Int)} {kp:List Int→List Bool→Bool} {d:Bool} {B X:List Bool} (h:WayX NX kp d B X) (hs:∀ s (h:s < NX.length),X.getD s d=d→kp NX[s] X=d):LeastX NX kp d B X:=⟨h.lb,h.lx,h.base,hs,h.least⟩
def leftX (d:Bool) (X:List Bool):Nat:=X.countP fun b=>b == d
theorem left_turn {d:Bool} {X:List Bool} {s:Nat} (hs:s < X.length) (h:X.getD s d=d):leftX d (X.set s (!d))+1=leftX d X:=by
 unfold leftX;rw [List.countP_set (h:=hs)];rw [getD_of hs] at h
 have h1:0 < X.countP fun b=>b == d:=List.countP_pos_iff.2 ⟨X[s],List.getElem_mem hs,by rw [h];simp⟩
 rw [h]
 have e1:(d == d)=true:=by simp
 have e2:((!d) == d)=false:=by cases d<;>rfl
 rw [e1,e2];simp only [if_true,Bool.false_eq_true,if_false]
 omega
def allX (l:List Int) (X:List Bool):Bool:=l.all fun t=>X.getD t.toNat false
def anyX (l:List Int) (X:List Bool):Bool:=l.any fun t=>X.getD t.toNat false
theorem mono_any (NX:List (List Int)):MonoX NX anyX false:=fun X Y hX hY h s hs hk=>by
 unfold anyX at *;rw [List.any_eq_false] at *
 intro t ht hx
 refine hk t ht ?_
 have hb:t.toNat < X.length:=Classical.byContradiction fun hn=>by
  rw [List.getD_eq_getElem?_getD,List.getElem?_eq_none (by omega)] at hx;cases hx
 exact h _ (by rw [hX] at hb;exact hb) (by simpa using hx)
theorem mono_allf (NX:List (List Int)):MonoX NX allX false:=fun X Y hX hY h s hs hk=>by
 unfold allX at *;rw [List.all_eq_false] at *
 obtain ⟨t,ht,hx⟩:=hk
 refine ⟨t,ht,fun hx2=>hx ?_⟩
 have hb:t.toNat < X.length:=Classical.byContradiction fun hn=>by
  rw [List.getD_eq_getElem?_getD,List.getElem?_eq_none (by omega)] at hx2;cases hx2
 exact h _ (by rw [hX] at hb;exact hb) (by simpa using hx2)
theorem getD_tf {X:List Bool} {i:Nat} (h:i < X.length):X.getD i true=X.getD i false:=by rw [getD_of h,getD_of h]
theorem mono_allt {NX:List (List Int)} (ht:TabN NX):MonoX NX allX true:=fun X Y hX hY h s hs hk=>by
 unfold allX at *;rw [List.all_eq_true] at *
 intro t htt
 obtain ⟨h0,h1⟩:=ht.mem _ (List.getElem_mem hs) t htt
 have hy:=hk t htt
 have:=h t.toNat (by omega)
 rw [getD_tf (by omega),getD_tf (by omega)] at this
 cases hx:X.getD t.toNat false with
 | true=>rfl
 | false=>rw [hx] at this;have:=this rfl;rw [hy] at this;cases this
theorem least_exists {NX:List (List Int)} {kp:List Int→List Bool→Bool} {d:Bool} {B:List Bool} (hm:MonoX NX kp d) (hB:B.length=NX.length):∃ X,LeastX NX kp d B X:=by
 have h:∀ (n:Nat) (X:List Bool),WayX NX kp d B X→leftX d X≤n→∃ X,LeastX NX kp d B X:=by
  intro n
  induction n with
  | zero=>
   intro X hw hn
   refine ⟨X,way_end hw fun s hs hx=>Classical.byContradiction fun hk=>?_⟩
   have:=left_turn (by rw [hw.lx];exact hs) hx
   omega
  | succ n ih=>
   intro X hw hn
   by_cases hs:∀ s (h:s < NX.length),X.getD s d=d→kp NX[s] X=d
   ·exact ⟨X,way_end hw hs⟩
   ·obtain ⟨s,hs⟩:=Classical.not_forall.1 hs
    obtain ⟨h,hs⟩:=Classical.not_forall.1 hs
    obtain ⟨hx,hk⟩:=Classical.not_imp.1 hs
    have:=left_turn (by rw [hw.lx];exact h) hx
    exact ih _ (way_turn hm hw h hk) (by omega)
 exact h _ B (way_start hB) (Nat.le_refl _)
noncomputable def leastN (NX:List (List Int)) (kp:List Int→List Bool→Bool) (d:Bool) (B:List Bool):List Bool:=open Classical in if h:∃ X,LeastX NX kp d B X then h.choose else []
theorem leastN_is {NX:List (List Int)} {kp:List Int→List Bool→Bool} {d:Bool} {B:List Bool} (hm:MonoX NX kp d) (hB:B.length=NX.length):LeastX NX kp d B (leastN NX kp d B):=by
 unfold leastN;rw [dif_pos (least_exists hm hB)];exact (least_exists hm hB).choose_spec
theorem least_again {NX:List (List Int)} {kp:List Int→List Bool→Bool} {d:Bool} {B X:List Bool} (h:LeastX NX kp d B X):LeastX NX kp d X X:=⟨h.lx,h.lx,fun _ _ h=>h,h.shut,fun _ _ h _=>h⟩
end Go.Proofs.YtpboiimemmfkiaaGreatDoor
namespace Go.Proofs.YtpboiimemmfkiaaGreatDoor
open Go.Av
theorem all_not (l:List Int) (X:List Bool):(!l.any fun t=>!X.getD t.toNat false)=allX l X:=by
 unfold allX;rw [Bool.eq_iff_iff];simp
set_option maxHeartbeats 2000000 in
theorem stays_in (G:Glob) (X:List Bool) (l:List Int) (hl:∀ x∈l,0≤x∧x < X.length):Answers G 122 [.ip [dBl X]] (fun n=>.v (.int .i64 n)) (fun x=>!X.getD x.toNat false) l:=by
 intro x hx
 obtain ⟨h0,h1⟩:=hl x hx
 obtain ⟨u,rfl⟩:=Int.eq_ofNat_of_zero_le h0
 have hu:u < X.length:=by omega
 simp only [dBl,Int.toNat_natCast];rw [getD_of hu];generalize hb:X[u]=b;refine PureC.of_body (tyOf_good _) Tryz.func122 rfl rfl (rs:=[.tmp 3]) Tryz.results122 (by simp [Tryz.ntmps122]) fun X=>?_;simp only [Tryz.ntmps122,List.map];refine rg0 [0,1] [] ?_
 have qf:=(Aq @hu @hb)
 refine rgqv [3] [] ?_;refine AW_ret ?_;simp [D.le,D.le.go,takeMap]
set_option maxHeartbeats 2000000 in
theorem stays_keep (G:Glob) (X:List Bool) (l:List Int) (hl:∀ x∈l,0≤x∧x < X.length) (hL:l.length < 2^40):PureC Tryz.prog G 121 [dIl l,dBl X] (.v (.bool (allX l X))):=by
 have hc:=containsInt_spec G none (fun n=>.v (.int .i64 n)) l _ _ _ (by omega) (stays_in G X l hl)
 rw [← all_not];generalize (l.any fun x=>!X.getD x.toNat false)=b at hc ⊢;simp only [dIl,dBl] at hc ⊢;generalize (l.map fun n=>[D.v (.int .i64 n)])=LL at *;generalize (X.map fun b=>[D.v (.bool b)])=XX at *;refine PureC.of_body (tyOf_good _) Tryz.func121 rfl rfl (rs:=[.tmp 4]) Tryz.results121 (by simp [Tryz.ntmps121]) fun X=>?_;simp only [Tryz.ntmps121,List.map];refine rg0 [0,3] [3] ?_;refine AW.imp (Imp.freezeB 3 trivial) ?_;refine AW.st (by simp;rfl) ?_;refine rgc trivial hc [4] [] ?_;refine AW_ret ?_;simp [D.le,D.le.go,takeMap]
set_option maxHeartbeats 2000000 in
theorem comes_in (G:Glob) (X:List Bool) (l:List Int) (hl:∀ x∈l,0≤x∧x < X.length):Answers G 124 [.ip [dBl X]] (fun n=>.v (.int .i64 n)) (fun x=>X.getD x.toNat false) l:=by
 intro x hx
 obtain ⟨h0,h1⟩:=hl x hx
 obtain ⟨u,rfl⟩:=Int.eq_ofNat_of_zero_le h0
 have hu:u < X.length:=by omega
 simp only [dBl,Int.toNat_natCast];rw [getD_of hu];generalize hb:X[u]=b;refine PureC.of_body (tyOf_good _) Tryz.func124 rfl rfl (rs:=[.tmp 3]) Tryz.results124 (by simp [Tryz.ntmps124]) fun X=>?_;simp only [Tryz.ntmps124,List.map];refine rg0 [0,1] [] ?_
 have qf:=(Aq @hu @hb)
 refine rgqv [3] [] ?_;refine AW_ret ?_;simp [D.le,D.le.go,takeMap]
set_option maxHeartbeats 2000000 in
theorem comes_keep (G:Glob) (X:List Bool) (l:List Int) (hl:∀ x∈l,0≤x∧x < X.length) (hL:l.length < 2^40):PureC Tryz.prog G 123 [dIl l,dBl X] (.v (.bool (anyX l X))):=by
 have hc:=containsInt_spec G none (fun n=>.v (.int .i64 n)) l _ _ _ (by omega) (comes_in G X l hl)
 unfold anyX;generalize (l.any fun x=>X.getD x.toNat false)=b at hc ⊢;simp only [dIl,dBl] at hc ⊢;generalize (l.map fun n=>[D.v (.int .i64 n)])=LL at *;generalize (X.map fun b=>[D.v (.bool b)])=XX at *;refine PureC.of_body (tyOf_good _) Tryz.func123 rfl rfl (rs:=[.tmp 4]) Tryz.results123 (by simp [Tryz.ntmps123]) fun X=>?_;simp only [Tryz.ntmps123,List.map];refine rg0 [0,3] [3] ?_;refine AW.imp (Imp.freezeB 3 trivial) ?_;refine AW.st (by simp;rfl) ?_;refine rgc trivial hc [4] [] ?_;refine AW_ret ?_;simp [D.le,D.le.go,takeMap]
set_option maxHeartbeats 2000000 in
theorem forces_in (G:Glob) (X:List Bool) (l:List Int) (hl:∀ x∈l,0≤x∧x < X.length):Answers G 126 [.ip [dBl X]] (fun n=>.v (.int .i64 n)) (fun x=>!X.getD x.toNat false) l:=by
 intro x hx
 obtain ⟨h0,h1⟩:=hl x hx
 obtain ⟨u,rfl⟩:=Int.eq_ofNat_of_zero_le h0
 have hu:u < X.length:=by omega
 simp only [dBl,Int.toNat_natCast];rw [getD_of hu];generalize hb:X[u]=b;refine PureC.of_body (tyOf_good _) Tryz.func126 rfl rfl (rs:=[.tmp 3]) Tryz.results126 (by simp [Tryz.ntmps126]) fun X=>?_;simp only [Tryz.ntmps126,List.map];refine rg0 [0,1] [] ?_
 have qf:=(Aq @hu @hb)
 refine rgqv [3] [] ?_;refine AW_ret ?_;simp [D.le,D.le.go,takeMap]
set_option maxHeartbeats 2000000 in
theorem forces_keep (G:Glob) (X:List Bool) (l:List Int) (hl:∀ x∈l,0≤x∧x < X.length) (hL:l.length < 2^40):PureC Tryz.prog G 125 [dIl l,dBl X] (.v (.bool (allX l X))):=by
 have hc:=containsInt_spec G none (fun n=>.v (.int .i64 n)) l _ _ _ (by omega) (forces_in G X l hl)
 rw [← all_not];generalize (l.any fun x=>!X.getD x.toNat false)=b at hc ⊢;simp only [dIl,dBl] at hc ⊢;generalize (l.map fun n=>[D.v (.int .i64 n)])=LL at *;generalize (X.map fun b=>[D.v (.bool b)])=XX at *;refine PureC.of_body (tyOf_good _) Tryz.func125 rfl rfl (rs:=[.tmp 4]) Tryz.results125 (by simp [Tryz.ntmps125]) fun X=>?_;simp only [Tryz.ntmps125,List.map];refine rg0 [0,3] [3] ?_;refine AW.imp (Imp.freezeB 3 trivial) ?_;refine AW.st (by simp;rfl) ?_;refine rgc trivial hc [4] [] ?_;refine AW_ret ?_;simp [D.le,D.le.go,takeMap]
set_option maxRecDepth 100000 in
set_option maxHeartbeats 16000000 in
theorem fixed_true (G:Glob) (p:PgP) (hck:checkP p=none) (hP:prodP (partsP p)≤4096) (g:FuncId) (kp:List Int→List Bool→Bool) (hm:MonoX (nextP p) kp true)
  (hkp:∀ (s:Nat) (h:s < (nextP p).length) (X:List Bool),X.length=(nextP p).length→PureC Tryz.prog G g [dIl (nextP p)[s],dBl X] (.v (.bool (kp (nextP p)[s] X)))) (B:List Bool) (hB:B.length=(nextP p).length) :
  PureC Tryz.prog G 120 [dMc p,dBl B,.fn (.func g) [],.v (.bool true)] (.tup [dBl (leastN (nextP p) kp true B),.v .nilIface]):=by
 have ht:=tab_next hck
 have hpos:=ht.pos
 have hlen:=nextP_len p
 have hpp:0 < prodP (partsP p):=prodP_pos fun x hx=>(parts_good (checkP_good hck) hx).m2
 have hfin:∀ X,LeastX (nextP p) kp true B X→X=leastN (nextP p) kp true B:=fun X h=>least_unique h (leastN_is hm hB)
 have hst:=way_start (kp:=kp) (d:=true) hB
 have hNl:=nxD_len (nextP p)
 have hNg:∀ s (h:s < (nextP p).length),(nxD (nextP p))[s]? = some [dIl (nextP p)[s]]:=fun s h=>by simp [nxD,h]
 have hcast:((nextP p).length:Int)=prodP (partsP p):=by rw [hlen];omega
 have hcl:=cloneB_mc G B (by omega)
 simp only [dMc,dMa,cMa,dNms,dRgs,dPas,dIl,dBl] at hNg hkp hcl ⊢;rw [← hcast]
 have hn12:(nextP p).length≤4096:=by omega
 generalize leastN (nextP p) kp true B=F at *;generalize nxD (nextP p)=NX at *;generalize nextP p=TN at *;clear hlen hcast;generalize ((inputP p).map fun n=>[D.v (.int .i64 n)])=IN at *;generalize (partsP p).map cPa=PT at *;generalize p.names.map cNm=NN at *;generalize p.rungs.map cRg=RR at *
 obtain ⟨N,hN⟩:∃ N:Nat,TN.length=N:=⟨_,rfl⟩
 rw [hN] at hNl hn12 hpos hB ⊢
 have hBl:(B.map fun b=>[D.v (.bool b)]).length=N:=by simp [hB]
 refine PureC.of_body (tyOf_good _) Tryz.func120 rfl rfl (rs:=[.tmp 8,.tmp 9]) Tryz.results120 (by simp [Tryz.ntmps120]) fun X=>?_;simp only [Tryz.ntmps120,List.map];refine rg0 [0,1,2,3] [] ?_;refine AW_then fun K1 hK1=>?_;refine rg0 [0,1,2,3,15] [] ?_;refine AW_ff rfl ?_;refine AW_skip (hK1 _ ?_);refine AW_then fun K2 hK2=>?_
 have qf:=@hB
 refine rgqv [0,1,2,3,23] [] ?_;refine AW_cond false (by simp) (fun h=>by cases h) (fun _=>?_);refine AW_skip (hK2 _ ?_);refine rgm trivial hcl [0,2,3,10] [701] ?_;refine AW_then fun K3 hK3=>?_;refine rg0 [0,2,3,10,11] [701] ?_;refine AW_for (S:=Bool×List Bool) (fun q=>WayX TN kp true B q.2∧(q.1=false→∀ s (h:s < TN.length),q.2.getD s true=true→kp TN[s] q.2=true)) (fun q=>⟨lst [(0,.d (.ip [.sl none NN,.sl none RR,.v (.int .i64 N),.v (.int .i64 (inN p)),.sl none NX,.sl none PT,.sl none IN])),(2,.d (.fn (.func g) [])),(3,.d (.v (.bool true))),(10,.own 701 0 N),(11,.d (.v (.bool q.1)))],hlst [(701,.sl 4 1 (q.2.map fun b=>[.v (.bool b)]))]⟩) (fun q=>2 * leftX true q.2+(if q.1 then 1 else 0)) (true,B) ?_ ⟨hst,fun h=>by cases h⟩ ?_
 ·refine Imp.to' (fun _ _=>trivial) (by simp [hB]) (by simp [hB])
 ·rintro ⟨ag,X⟩ ⟨hw,hsh⟩
  dsimp only at hw hsh ⊢
  refine AW_then fun K4 hK4=>?_
  cases ag with
  | false=>
   refine rg0 [0,2,3,10,27] [701] ?_;refine AW_ff rfl ?_;refine AW_exit (hK3 _ ?_)
   obtain rfl:=hfin X (way_end hw (hsh rfl))
   have hXl:(X.map fun b=>[D.v (.bool b)]).length=N:=by rw [List.length_map,hw.lx,hN]
   refine AW.imp (Imp.freeze 701 trivial) ?_;refine AW.st (by simp [hXl,List.take_of_length_le];rfl) ?_;refine rg0 [8,9] [] ?_;refine AW_ret ?_;simp [D.le,D.le.go,takeMap,D.le_refl,D.leGo_refl]
  | true=>
   clear hsh;refine rg0 [0,2,3,10,27] [701] ?_;refine AW_tt rfl ?_;refine AW_skip (hK4 _ ?_);refine AW_block ?_;refine rg0 [0,2,3,10,11] [701] ?_;refine rg0 [0,2,3,10,11,31,32,33] [701] ?_;refine AW_for (S:=Nat×Bool×List Bool) (fun q=>q.1≤N∧WayX TN kp true B q.2.2∧(q.2.1=false→∀ s (h:s < TN.length),s < q.1→q.2.2.getD s true=true→kp TN[s] q.2.2=true)∧2 * leftX true q.2.2+(if q.2.1 then 1 else 0)≤2 * leftX true X) (fun q=>⟨lst [(0,.d (.ip [.sl none NN,.sl none RR,.v (.int .i64 N),.v (.int .i64 (inN p)),.sl none NX,.sl none PT,.sl none IN])),(2,.d (.fn (.func g) [])),(3,.d (.v (.bool true))),(10,.own 701 0 N),(11,.d (.v (.bool q.2.1))),(31,.d (.sl none NX)),(32,int NX.length),(33,int q.1)],hlst [(701,.sl 4 1 (q.2.2.map fun b=>[.v (.bool b)]))]⟩) (fun q=>N - q.1) (0,false,X) ?_ ⟨by simp,hw,fun _ s h hs=>absurd hs (by dsimp only;omega),by simp⟩ ?_
   ·refine Imp.to' (fun _ _=>trivial) (by simp) (by simp)
   ·rintro ⟨k,ag,Y⟩ ⟨hk,hwy,hsy,hms⟩
    dsimp only at hk hwy hsy hms ⊢
    have hYl:=hwy.lx
    rw [hN] at hYl;refine rg0 [0,2,3,10,11,31,32,33,34] [701] ?_;refine AW_then fun K5 hK5=>?_
    by_cases hlt:k < N
    ·have hlt2:k < NX.length:=by omega
     have hlt3:(k:Int) < (NX.length:Int):=by omega
     have hltT:k < TN.length:=by omega
     refine AW_cond true (by simp<;>omega) (fun _=>?_) (fun h=>by cases h);refine AW_skip (hK5 _ ?_);refine AW_then fun K6 hK6=>?_;refine AW_block ?_
     have hXs:NX[k]=[.sl none (TN[k].map fun n=>[.v (.int .i64 n)])]:=by
      have hXg:=hNg k hltT
      rw [List.getElem?_eq_getElem hlt2] at hXg;exact Option.some.inj hXg
     have hkk:=hkp k hltT Y (by omega)
     have hkY:k < Y.length:=by omega
     have hNY:N≤Y.length:=by omega
     have htY:List.take N (List.map (fun b=>[D.v (.bool b)]) Y)=List.map (fun b=>[D.v (.bool b)]) Y:=List.take_of_length_le (by simp;omega)
     have hlft:=left_turn (d:=true) (X:=Y) hkY
     have hwt:=fun h=>way_turn hm hwy hltT h
     have hpass:(Y.getD k true=true→kp TN[k] Y=true)→ag=false→∀ s (h:s < TN.length),s < k+1→Y.getD s true=true→kp TN[s] Y=true:=fun hh ha s h hs=>by
      by_cases e:s=k
      ·subst e;exact hh
      ·exact hsy ha s h (by omega)
     have qf:=(Aq @hlt2 @hXs)
     refine rgqv [0,2,3,10,11,12,13,31,32,33] [701] ?_;rw [getD_of hkY] at hlft hpass;generalize hbv:Y[k]=b at hlft hpass;generalize hkv:kp TN[k] Y=kv at *
     by_cases hb:b=true
     ·subst hb
      cases kv with
      | false=>
       refine rg [0,2,3,10,11,12,31,32,33,51] [701] (fun _ _=>trivial) fun K' hK'=>?_;(repeat (refine sxn fun K2 hK2=>?_;simp [hkY,hlt,hbv,hNY,htY];(repeat (refine ⟨by omega,?_⟩));refine hK2 _ ?_;clear hK2 K2));refine sxn fun K2 hK2=>?_;simp [hkY,hlt,hbv,hNY,htY];refine callK.lend (hkk) (by simp [hkY,hlt,hbv,hNY,htY];rfl) (by first | exact D.leGo_refl _ | simp [takeMap,List.map_map,Function.comp_def,D.le,D.le.go,D.le_refl,D.leGo_refl,hkY,hlt,hbv,hNY,htY]) (by simp [D.scalar,hkY,hlt,hbv,hNY,htY]) ?_;refine hK2 _ ?_;clear hK2 K2;simp only [putd,upd_lst];(repeat (refine sxn fun K2 hK2=>?_;simp [hkY,hlt,hbv,hNY,htY];(repeat (refine ⟨by omega,?_⟩));refine hK2 _ ?_;clear hK2 K2));refine sxz (hK' _ (AW.st (by simp [hkY,hlt,hbv,hNY,htY];rfl) ?_));clear hK' K';refine AW_tt rfl ?_
       have qf:=(Aq @hkY @hlt)
       refine rgqv [0,2,3,10,31,32,33] [701] ?_;refine reK trivial hK6 [0,2,3,10,11,31,32,33] [701] ?_;refine AW_re (tyOf_good _) fun K' hK'=>?_;(repeat (refine sxn fun K2 hK2=>?_;simp;(repeat (refine ⟨by omega,?_⟩));refine hK2 _ ?_;clear hK2 K2));refine sxz (hK' _ ?_);clear hK' K';try simp only [thn,inb]
       have hl2:=hlft rfl
       simp only [Bool.not_true] at hl2
       have hw2:=hwt (by decide)
       simp only [Bool.not_true] at hw2;refine Again.mk (k+1,true,Y.set k false) ⟨by dsimp only;omega,hw2,fun h=>(by cases h),by dsimp only;simp only [if_true];split at hms<;>omega⟩ (by dsimp only;omega) ?_;refine Imp.to' (fun _ _=>trivial) (by simp [List.map_set]) (by simp [List.map_set])
      | true=>
       refine rg [0,2,3,10,11,12,31,32,33,51] [701] (fun _ _=>trivial) fun K' hK'=>?_;(repeat (refine sxn fun K2 hK2=>?_;simp [hkY,hlt,hbv,hNY,htY];(repeat (refine ⟨by omega,?_⟩));refine hK2 _ ?_;clear hK2 K2));refine sxn fun K2 hK2=>?_;simp [hkY,hlt,hbv,hNY,htY];refine callK.lend (hkk) (by simp [hkY,hlt,hbv,hNY,htY];rfl) (by first | exact D.leGo_refl _ | simp [takeMap,List.map_map,Function.comp_def,D.le,D.le.go,D.le_refl,D.leGo_refl,hkY,hlt,hbv,hNY,htY]) (by simp [D.scalar,hkY,hlt,hbv,hNY,htY]) ?_;refine hK2 _ ?_;clear hK2 K2;simp only [putd,upd_lst];(repeat (refine sxn fun K2 hK2=>?_;simp [hkY,hlt,hbv,hNY,htY];(repeat (refine ⟨by omega,?_⟩));refine hK2 _ ?_;clear hK2 K2));refine sxz (hK' _ (AW.st (by simp [hkY,hlt,hbv,hNY,htY];rfl) ?_));clear hK' K';refine AW_ff rfl ?_;refine AW_skip (hK6 _ ?_);refine AW_re (tyOf_good _) fun K' hK'=>?_;(repeat (refine sxn fun K2 hK2=>?_;simp;(repeat (refine ⟨by omega,?_⟩));refine hK2 _ ?_;clear hK2 K2));refine sxz (hK' _ ?_);clear hK' K';(try simp only [thn,inb]);refine Again.mk (k+1,ag,Y) ⟨by dsimp only;omega,hwy,hpass fun _=>rfl,hms⟩ (by dsimp only;omega) ?_;refine Imp.to' (fun _ _=>trivial) (by simp) (by simp)
     ·have hb2:b=false:=by cases b<;>simp_all
      subst hb2
      have qf:=(Aq @hkY (Aq @hlt @hbv))
      refine rgqv [0,2,3,10,11,12,31,32,33,51] [701] ?_;refine AW_ff rfl ?_;refine AW_skip (hK6 _ ?_);refine AW_re (tyOf_good _) fun K' hK'=>?_;(repeat (refine sxn fun K2 hK2=>?_;simp;(repeat (refine ⟨by omega,?_⟩));refine hK2 _ ?_;clear hK2 K2));refine sxz (hK' _ ?_);clear hK' K';(try simp only [thn,inb]);refine Again.mk (k+1,ag,Y) ⟨by dsimp only;omega,hwy,hpass fun h=>(by cases h),hms⟩ (by dsimp only;omega) ?_;refine Imp.to' (fun _ _=>trivial) (by simp) (by simp)
    ·have hlt3:¬ (k:Int) < (NX.length:Int):=by omega
     obtain rfl:k=N:=by omega
     refine AW_cond false (by simp<;>omega) (fun h=>by cases h) (fun _=>?_);refine AW_exit ?_;refine Again.mk (ag,Y) ⟨hwy,fun ha s h=>hsy ha s h (by omega)⟩ (by dsimp only;simp only [if_true];omega) ?_;refine Imp.to' (fun _ _=>trivial) (by simp) (by simp)
set_option maxRecDepth 100000 in
set_option maxHeartbeats 16000000 in
theorem fixed_false (G:Glob) (p:PgP) (hck:checkP p=none) (hP:prodP (partsP p)≤4096) (g:FuncId) (kp:List Int→List Bool→Bool) (hm:MonoX (nextP p) kp false)
  (hkp:∀ (s:Nat) (h:s < (nextP p).length) (X:List Bool),X.length=(nextP p).length→PureC Tryz.prog G g [dIl (nextP p)[s],dBl X] (.v (.bool (kp (nextP p)[s] X)))) (B:List Bool) (hB:B.length=(nextP p).length) :
  PureC Tryz.prog G 120 [dMc p,dBl B,.fn (.func g) [],.v (.bool false)] (.tup [dBl (leastN (nextP p) kp false B),.v .nilIface]):=by
 have ht:=tab_next hck
 have hpos:=ht.pos
 have hlen:=nextP_len p
 have hpp:0 < prodP (partsP p):=prodP_pos fun x hx=>(parts_good (checkP_good hck) hx).m2
 have hfin:∀ X,LeastX (nextP p) kp false B X→X=leastN (nextP p) kp false B:=fun X h=>least_unique h (leastN_is hm hB)
 have hst:=way_start (kp:=kp) (d:=false) hB
 have hNl:=nxD_len (nextP p)
 have hNg:∀ s (h:s < (nextP p).length),(nxD (nextP p))[s]? = some [dIl (nextP p)[s]]:=fun s h=>by simp [nxD,h]
 have hcast:((nextP p).length:Int)=prodP (partsP p):=by rw [hlen];omega
 have hcl:=cloneB_mc G B (by omega)
 simp only [dMc,dMa,cMa,dNms,dRgs,dPas,dIl,dBl] at hNg hkp hcl ⊢;rw [← hcast]
 have hn12:(nextP p).length≤4096:=by omega
 generalize leastN (nextP p) kp false B=F at *;generalize nxD (nextP p)=NX at *;generalize nextP p=TN at *;clear hlen hcast;generalize ((inputP p).map fun n=>[D.v (.int .i64 n)])=IN at *;generalize (partsP p).map cPa=PT at *;generalize p.names.map cNm=NN at *;generalize p.rungs.map cRg=RR at *
 obtain ⟨N,hN⟩:∃ N:Nat,TN.length=N:=⟨_,rfl⟩
 rw [hN] at hNl hn12 hpos hB ⊢
 have hBl:(B.map fun b=>[D.v (.bool b)]).length=N:=by simp [hB]
 refine PureC.of_body (tyOf_good _) Tryz.func120 rfl rfl (rs:=[.tmp 8,.tmp 9]) Tryz.results120 (by simp [Tryz.ntmps120]) fun X=>?_;simp only [Tryz.ntmps120,List.map];refine rg0 [0,1,2,3] [] ?_;refine AW_then fun K1 hK1=>?_;refine rg0 [0,1,2,3,15] [] ?_;refine AW_ff rfl ?_;refine AW_skip (hK1 _ ?_);refine AW_then fun K2 hK2=>?_
 have qf:=@hB
 refine rgqv [0,1,2,3,23] [] ?_;refine AW_cond false (by simp) (fun h=>by cases h) (fun _=>?_);refine AW_skip (hK2 _ ?_);refine rgm trivial hcl [0,2,3,10] [701] ?_;refine AW_then fun K3 hK3=>?_;refine rg0 [0,2,3,10,11] [701] ?_;refine AW_for (S:=Bool×List Bool) (fun q=>WayX TN kp false B q.2∧(q.1=false→∀ s (h:s < TN.length),q.2.getD s false=false→kp TN[s] q.2=false)) (fun q=>⟨lst [(0,.d (.ip [.sl none NN,.sl none RR,.v (.int .i64 N),.v (.int .i64 (inN p)),.sl none NX,.sl none PT,.sl none IN])),(2,.d (.fn (.func g) [])),(3,.d (.v (.bool false))),(10,.own 701 0 N),(11,.d (.v (.bool q.1)))],hlst [(701,.sl 4 1 (q.2.map fun b=>[.v (.bool b)]))]⟩) (fun q=>2 * leftX false q.2+(if q.1 then 1 else 0)) (true,B) ?_ ⟨hst,fun h=>by cases h⟩ ?_
 ·refine Imp.to' (fun _ _=>trivial) (by simp [hB]) (by simp [hB])
 ·rintro ⟨ag,X⟩ ⟨hw,hsh⟩
  dsimp only at hw hsh ⊢
  refine AW_then fun K4 hK4=>?_
  cases ag with
  | false=>
   refine rg0 [0,2,3,10,27] [701] ?_;refine AW_ff rfl ?_;refine AW_exit (hK3 _ ?_)
   obtain rfl:=hfin X (way_end hw (hsh rfl))
   have hXl:(X.map fun b=>[D.v (.bool b)]).length=N:=by rw [List.length_map,hw.lx,hN]
   refine AW.imp (Imp.freeze 701 trivial) ?_;refine AW.st (by simp [hXl,List.take_of_length_le];rfl) ?_;refine rg0 [8,9] [] ?_;refine AW_ret ?_;simp [D.le,D.le.go,takeMap,D.le_refl,D.leGo_refl]
  | true=>
   clear hsh;refine rg0 [0,2,3,10,27] [701] ?_;refine AW_tt rfl ?_;refine AW_skip (hK4 _ ?_);refine AW_block ?_;refine rg0 [0,2,3,10,11] [701] ?_;refine rg0 [0,2,3,10,11,31,32,33] [701] ?_;refine AW_for (S:=Nat×Bool×List Bool) (fun q=>q.1≤N∧WayX TN kp false B q.2.2∧(q.2.1=false→∀ s (h:s < TN.length),s < q.1→q.2.2.getD s false=false→kp TN[s] q.2.2=false)∧2 * leftX false q.2.2+(if q.2.1 then 1 else 0)≤2 * leftX false X) (fun q=>⟨lst [(0,.d (.ip [.sl none NN,.sl none RR,.v (.int .i64 N),.v (.int .i64 (inN p)),.sl none NX,.sl none PT,.sl none IN])),(2,.d (.fn (.func g) [])),(3,.d (.v (.bool false))),(10,.own 701 0 N),(11,.d (.v (.bool q.2.1))),(31,.d (.sl none NX)),(32,int NX.length),(33,int q.1)],hlst [(701,.sl 4 1 (q.2.2.map fun b=>[.v (.bool b)]))]⟩) (fun q=>N - q.1) (0,false,X) ?_ ⟨by simp,hw,fun _ s h hs=>absurd hs (by dsimp only;omega),by simp⟩ ?_
   ·refine Imp.to' (fun _ _=>trivial) (by simp) (by simp)
   ·rintro ⟨k,ag,Y⟩ ⟨hk,hwy,hsy,hms⟩
    dsimp only at hk hwy hsy hms ⊢
    have hYl:=hwy.lx
    rw [hN] at hYl;refine rg0 [0,2,3,10,11,31,32,33,34] [701] ?_;refine AW_then fun K5 hK5=>?_
    by_cases hlt:k < N
    ·have hlt2:k < NX.length:=by omega
     have hlt3:(k:Int) < (NX.length:Int):=by omega
     have hltT:k < TN.length:=by omega
     refine AW_cond true (by simp<;>omega) (fun _=>?_) (fun h=>by cases h);refine AW_skip (hK5 _ ?_);refine AW_then fun K6 hK6=>?_;refine AW_block ?_
     have hXs:NX[k]=[.sl none (TN[k].map fun n=>[.v (.int .i64 n)])]:=by
      have hXg:=hNg k hltT
      rw [List.getElem?_eq_getElem hlt2] at hXg;exact Option.some.inj hXg
     have hkk:=hkp k hltT Y (by omega)
     have hkY:k < Y.length:=by omega
     have hNY:N≤Y.length:=by omega
     have htY:List.take N (List.map (fun b=>[D.v (.bool b)]) Y)=List.map (fun b=>[D.v (.bool b)]) Y:=List.take_of_length_le (by simp;omega)
     have hlft:=left_turn (d:=false) (X:=Y) hkY
     have hwt:=fun h=>way_turn hm hwy hltT h
     have hpass:(Y.getD k false=false→kp TN[k] Y=false)→ag=false→∀ s (h:s < TN.length),s < k+1→Y.getD s false=false→kp TN[s] Y=false:=fun hh ha s h hs=>by
      by_cases e:s=k
      ·subst e;exact hh
      ·exact hsy ha s h (by omega)
     have qf:=(Aq @hlt2 @hXs)
     refine rgqv [0,2,3,10,11,12,13,31,32,33] [701] ?_;rw [getD_of hkY] at hlft hpass;generalize hbv:Y[k]=b at hlft hpass;generalize hkv:kp TN[k] Y=kv at *
     by_cases hb:b=false
     ·subst hb
      cases kv with
      | true=>
       refine rg [0,2,3,10,11,12,31,32,33,51] [701] (fun _ _=>trivial) fun K' hK'=>?_;(repeat (refine sxn fun K2 hK2=>?_;simp [hkY,hlt,hbv,hNY,htY];(repeat (refine ⟨by omega,?_⟩));refine hK2 _ ?_;clear hK2 K2));refine sxn fun K2 hK2=>?_;simp [hkY,hlt,hbv,hNY,htY];refine callK.lend (hkk) (by simp [hkY,hlt,hbv,hNY,htY];rfl) (by first | exact D.leGo_refl _ | simp [takeMap,List.map_map,Function.comp_def,D.le,D.le.go,D.le_refl,D.leGo_refl,hkY,hlt,hbv,hNY,htY]) (by simp [D.scalar,hkY,hlt,hbv,hNY,htY]) ?_;refine hK2 _ ?_;clear hK2 K2;simp only [putd,upd_lst];(repeat (refine sxn fun K2 hK2=>?_;simp [hkY,hlt,hbv,hNY,htY];(repeat (refine ⟨by omega,?_⟩));refine hK2 _ ?_;clear hK2 K2));refine sxz (hK' _ (AW.st (by simp [hkY,hlt,hbv,hNY,htY];rfl) ?_));clear hK' K';refine AW_tt rfl ?_
       have qf:=(Aq @hkY @hlt)
       refine rgqv [0,2,3,10,31,32,33] [701] ?_;refine reK trivial hK6 [0,2,3,10,11,31,32,33] [701] ?_;refine AW_re (tyOf_good _) fun K' hK'=>?_;(repeat (refine sxn fun K2 hK2=>?_;simp;(repeat (refine ⟨by omega,?_⟩));refine hK2 _ ?_;clear hK2 K2));refine sxz (hK' _ ?_);clear hK' K';try simp only [thn,inb]
       have hl2:=hlft rfl
       simp only [Bool.not_false] at hl2
       have hw2:=hwt (by decide)
       simp only [Bool.not_false] at hw2;refine Again.mk (k+1,true,Y.set k true) ⟨by dsimp only;omega,hw2,fun h=>(by cases h),by dsimp only;simp only [if_true];split at hms<;>omega⟩ (by dsimp only;omega) ?_;refine Imp.to' (fun _ _=>trivial) (by simp [List.map_set]) (by simp [List.map_set])
      | false=>
       refine rg [0,2,3,10,11,12,31,32,33,51] [701] (fun _ _=>trivial) fun K' hK'=>?_;(repeat (refine sxn fun K2 hK2=>?_;simp [hkY,hlt,hbv,hNY,htY];(repeat (refine ⟨by omega,?_⟩));refine hK2 _ ?_;clear hK2 K2));refine sxn fun K2 hK2=>?_;simp [hkY,hlt,hbv,hNY,htY];refine callK.lend (hkk) (by simp [hkY,hlt,hbv,hNY,htY];rfl) (by first | exact D.leGo_refl _ | simp [takeMap,List.map_map,Function.comp_def,D.le,D.le.go,D.le_refl,D.leGo_refl,hkY,hlt,hbv,hNY,htY]) (by simp [D.scalar,hkY,hlt,hbv,hNY,htY]) ?_;refine hK2 _ ?_;clear hK2 K2;simp only [putd,upd_lst];(repeat (refine sxn fun K2 hK2=>?_;simp [hkY,hlt,hbv,hNY,htY];(repeat (refine ⟨by omega,?_⟩));refine hK2 _ ?_;clear hK2 K2));refine sxz (hK' _ (AW.st (by simp [hkY,hlt,hbv,hNY,htY];rfl) ?_));clear hK' K';refine AW_ff rfl ?_;refine AW_skip (hK6 _ ?_);refine AW_re (tyOf_good _) fun K' hK'=>?_;(repeat (refine sxn fun K2 hK2=>?_;simp;(repeat (refine ⟨by omega,?_⟩));refine hK2 _ ?_;clear hK2 K2));refine sxz (hK' _ ?_);clear hK' K';(try simp only [thn,inb]);refine Again.mk (k+1,ag,Y) ⟨by dsimp only;omega,hwy,hpass fun _=>rfl,hms⟩ (by dsimp only;omega) ?_;refine Imp.to' (fun _ _=>trivial) (by simp) (by simp)
     ·have hb2:b=true:=by cases b<;>simp_all
      subst hb2
      have qf:=(Aq @hkY (Aq @hlt @hbv))
      refine rgqv [0,2,3,10,11,12,31,32,33,51] [701] ?_;refine AW_ff rfl ?_;refine AW_skip (hK6 _ ?_);refine AW_re (tyOf_good _) fun K' hK'=>?_;(repeat (refine sxn fun K2 hK2=>?_;simp;(repeat (refine ⟨by omega,?_⟩));refine hK2 _ ?_;clear hK2 K2));refine sxz (hK' _ ?_);clear hK' K';(try simp only [thn,inb]);refine Again.mk (k+1,ag,Y) ⟨by dsimp only;omega,hwy,hpass fun h=>(by cases h),hms⟩ (by dsimp only;omega) ?_;refine Imp.to' (fun _ _=>trivial) (by simp) (by simp)
    ·have hlt3:¬ (k:Int) < (NX.length:Int):=by omega
     obtain rfl:k=N:=by omega
     refine AW_cond false (by simp<;>omega) (fun h=>by cases h) (fun _=>?_);refine AW_exit ?_;refine Again.mk (ag,Y) ⟨hwy,fun ha s h=>hsy ha s h (by omega)⟩ (by dsimp only;simp only [if_true];omega) ?_;refine Imp.to' (fun _ _=>trivial) (by simp) (by simp)
set_option maxHeartbeats 4000000 in
theorem stays_spec (G:Glob) (p:PgP) (hck:checkP p=none) (hi:(inputP p).length≤6) (hP:prodP (partsP p)≤4096) (B:List Bool) (hB:B.length=(nextP p).length):PureC Tryz.prog G 62 [dMc p,dBl B] (.tup [dBl (leastN (nextP p) allX true B),.v .nilIface]):=by
 have ht:=tab_next hck
 have hf:=fixed_true G p hck hP _ allX (mono_allt (tab_next hck)) (fun s h X hX=>stays_keep G X _ (fun x hx=>by
  obtain ⟨h0,h1⟩:=ht.mem _ (List.getElem_mem h) x hx
  omega) (by
  rw [nextP_at h,rowP_len]
  have:=Nat.pow_le_pow_right (n:=2) (by decide) hi
  omega)) B hB
 have hdc:∃ c,dMc p = .ip c:=⟨_,rfl⟩
 obtain ⟨MC,hMC⟩:=hdc
 simp only [hMC,dBl] at hf ⊢;generalize (leastN (nextP p) allX true B)=F at *;generalize (B.map fun b=>[D.v (.bool b)])=BB at *;refine PureC.of_body (tyOf_good _) Tryz.func62 rfl rfl (rs:=[.tmp 4,.tmp 5]) Tryz.results62 (by simp [Tryz.ntmps62]) fun X=>?_;simp only [Tryz.ntmps62,List.map];refine rg0 [0,1] [] ?_;refine rgc trivial hf [4,5] [] ?_;refine AW_ret ?_;simp [D.le,D.le.go,takeMap,D.le_refl,D.leGo_refl]
set_option maxHeartbeats 4000000 in
theorem comes_spec (G:Glob) (p:PgP) (hck:checkP p=none) (hi:(inputP p).length≤6) (hP:prodP (partsP p)≤4096) (B:List Bool) (hB:B.length=(nextP p).length):PureC Tryz.prog G 63 [dMc p,dBl B] (.tup [dBl (leastN (nextP p) anyX false B),.v .nilIface]):=by
 have ht:=tab_next hck
 have hf:=fixed_false G p hck hP _ anyX (mono_any _) (fun s h X hX=>comes_keep G X _ (fun x hx=>by
  obtain ⟨h0,h1⟩:=ht.mem _ (List.getElem_mem h) x hx
  omega) (by
  rw [nextP_at h,rowP_len]
  have:=Nat.pow_le_pow_right (n:=2) (by decide) hi
  omega)) B hB
 have hdc:∃ c,dMc p = .ip c:=⟨_,rfl⟩
 obtain ⟨MC,hMC⟩:=hdc
 simp only [hMC,dBl] at hf ⊢;generalize (leastN (nextP p) anyX false B)=F at *;generalize (B.map fun b=>[D.v (.bool b)])=BB at *;refine PureC.of_body (tyOf_good _) Tryz.func63 rfl rfl (rs:=[.tmp 4,.tmp 5]) Tryz.results63 (by simp [Tryz.ntmps63]) fun X=>?_;simp only [Tryz.ntmps63,List.map];refine rg0 [0,1] [] ?_;refine rgc trivial hf [4,5] [] ?_;refine AW_ret ?_;simp [D.le,D.le.go,takeMap,D.le_refl,D.leGo_refl]
set_option maxHeartbeats 4000000 in
theorem forces_spec (G:Glob) (p:PgP) (hck:checkP p=none) (hi:(inputP p).length≤6) (hP:prodP (partsP p)≤4096) (B:List Bool) (hB:B.length=(nextP p).length):PureC Tryz.prog G 64 [dMc p,dBl B] (.tup [dBl (leastN (nextP p) allX false B),.v .nilIface]):=by
 have ht:=tab_next hck
 have hf:=fixed_false G p hck hP _ allX (mono_allf _) (fun s h X hX=>forces_keep G X _ (fun x hx=>by
  obtain ⟨h0,h1⟩:=ht.mem _ (List.getElem_mem h) x hx
  omega) (by
  rw [nextP_at h,rowP_len]
  have:=Nat.pow_le_pow_right (n:=2) (by decide) hi
  omega)) B hB
 have hdc:∃ c,dMc p = .ip c:=⟨_,rfl⟩
 obtain ⟨MC,hMC⟩:=hdc
 simp only [hMC,dBl] at hf ⊢;generalize (leastN (nextP p) allX false B)=F at *;generalize (B.map fun b=>[D.v (.bool b)])=BB at *;refine PureC.of_body (tyOf_good _) Tryz.func64 rfl rfl (rs:=[.tmp 4,.tmp 5]) Tryz.results64 (by simp [Tryz.ntmps64]) fun X=>?_;simp only [Tryz.ntmps64,List.map];refine rg0 [0,1] [] ?_;refine rgc trivial hf [4,5] [] ?_;refine AW_ret ?_;simp [D.le,D.le.go,takeMap,D.le_refl,D.leGo_refl]
end Go.Proofs.YtpboiimemmfkiaaGreatDoor
namespace Go.Proofs.YtpboiimemmfkiaaGreatDoor
open Go.Av
def lftC:Nat→AV
 | 1=>.d (.sl (some false) [])
 | _=>.d (.sl none [[.v (.bool true)],[.v (.bool true)]])
def rowC:Nat→List (List D)
 | 0=>[[.v (.bool false)],[.v (.bool false)]]
 | 1=>[[.v (.bool true)],[.v (.bool false)]]
 | _=>[[.v (.bool true)],[.v (.bool true)]]
def wayC:Nat→List (List D)
 | 0=>[[.v (.int .i64 1)]]
 | _=>[]
def stC:Nat→Int
 | 0=>1
 | _=>0
set_option maxRecDepth 100000 in
set_option maxHeartbeats 16000000 in
theorem fix_path (G:Glob):PureC Tryz.prog G 51 [dMc fixP,dNum 1] (.tup [dIl [1],.v .nilIface]):=by
 have hfa:=far_spec G fixP fix_check (by rw [fix_inl];decide) (by rw [fix_prod];decide)
 rw [fix_far] at hfa
 have hc0:∀ r hr,_:=fun r hr=>co1_mc G r hr [0,1] (by simp) (by decide)
 have hc1:∀ r hr,_:=fun r hr=>co1_mc G r hr [1,1] (by simp) (by decide)
 have hx:=ix2_mc G (.sl none [[.v (.bool true)],[.v (.bool true)]]) [0,1] (by simp) (by decide)
 have e0:idx (fun x:Int=>x == 1) [0,1]=1:=by decide
 have e1:idx (fun x:Int=>x == 1) [1,1]=0:=by decide
 simp only [e0,e1,List.map] at hc0 hc1 hx;simp only [dMc,dMa,cMa,fix_prod,inN,fix_inl,fix_next,nxD,dNms,dRgs,dPas,dIl,List.map,dNum] at hfa ⊢;generalize fixP.names.map cNm=NN at *;generalize fixP.rungs.map cRg=RR at *;generalize (partsP fixP).map cPa=PT at *;generalize (inputP fixP).map (fun n=>[D.v (.int .i64 n)])=IN at *;refine PureC.of_body (tyOf_good _) Tryz.func51 rfl rfl (rs:=[.tmp 4,.tmp 5]) Tryz.results51 (by simp [Tryz.ntmps51]) fun X=>?_;simp only [Tryz.ntmps51,List.map];refine rg0 [0,1] [] ?_;refine rgc trivial hfa [0,1,6,7] [] ?_;refine AW_then fun K1 hK1=>?_;refine rg0 [0,1,6,7,22] [] ?_;refine AW_ff rfl ?_;refine AW_skip (hK1 _ ?_);refine AW_then fun K2 hK2=>?_;refine rg0 [0,1,6,33] [] ?_;refine AW_ff rfl ?_;refine AW_skip (hK2 _ ?_);refine AW_then fun K3 hK3=>?_;refine rg0 [0,1,6,39] [] ?_;refine AW_ff rfl ?_;refine AW_skip (hK3 _ ?_);refine rg [0,1,6,8] [46,8] (fun _ _=>trivial) fun K' hK'=>?_;(repeat (refine sxn fun K2 hK2=>?_;simp [makeEls,zeroD,List.replicate];(repeat (refine ⟨by omega,?_⟩));refine hK2 _ ?_;clear hK2 K2));refine sxz (hK' _ (AW.st (by simp [makeEls,zeroD,List.replicate];rfl) ?_));clear hK' K';refine AW.imp (Imp.toBox 46 rfl (by simp)) ?_;refine AW.st (by simp;rfl) ?_;refine AW_rl (tyOf_good _) (by kernel_rfl) ([]) ([]) (List.range 8) [0,1,6,8] [46,8,52] (fun _ _=>trivial) (by kernel_rfl) fun K' hK'=>?_;(repeat (refine sxl_nextO rfl fun K2 hK2=>?_;simp [makeEls,zeroD,List.replicate];(repeat (refine ⟨by omega,?_⟩));refine hK2 _ ?_;clear hK2 K2));refine sxl_nilO (hK' _ ?_);refine AW.st (by simp [makeEls,zeroD,List.replicate];rfl) ?_;clear hK' K';refine rg0 [0,1,6,8] [46,8,52] ?_;refine AW.imp (Imp.freeze 52 trivial) ?_;refine AW.st (by simp;rfl) ?_;refine AW_then fun K4 hK4=>?_;refine rg0 [0,1,6,8,9] [46,8,9] ?_;refine AW_for (S:=Nat) (fun k=>k=1∨k=2) (fun k=>⟨lst [(0,.d (.ip [.sl none NN,.sl none RR,.v (.int .i64 2),.v (.int .i64 2),.sl none [[.sl none [[.v (.int .i64 0)],[.v (.int .i64 1)]]],[.sl none [[.v (.int .i64 1)],[.v (.int .i64 1)]]]],.sl none PT,.sl none IN])),(1,int 1),(6,.d (.sl none [[.v (.int .i64 0)],[.v (.int .i64 1)]])),(8,.ref 8 0 0),(9,.ref 9 0 0)],hlst [(46,.box 67 [.d (.sl none [[.v (.bool false)],[.v (.bool true)]]),lftC k]),(8,.box 63 [.own 46 0 2]),(9,.box 3 [int k])]⟩) (fun k=>2 - k) 1 ?_ (.inl rfl) ?_
 ·refine Imp.to' (fun _ _=>trivial) (by simp [lftC]) (by simp [lftC])
 ·rintro k (rfl | rfl)
  ·simp only [lftC];refine AW_then fun K5 hK5=>?_;refine rdq trivial [0,1,6,8,9,64] [46,8,9] ?_;refine AW_tt rfl ?_;refine AW_skip (hK5 _ ?_);refine AW_then fun K6 hK6=>?_;refine AW_block ?_;refine AW_rl (tyOf_good _) (by kernel_rfl) ([]) ([]) (List.range 9) [0,1,6,8,9] [46,8,9,73] (fun _ _=>trivial) (by kernel_rfl) fun K' hK'=>?_;(repeat (refine sxl_nextO rfl fun K2 hK2=>?_;simp [makeEls,zeroD,List.replicate];(repeat (refine ⟨by omega,?_⟩));refine hK2 _ ?_;clear hK2 K2));refine sxl_nilO (hK' _ ?_);refine AW.st (by simp [makeEls,zeroD,List.replicate];rfl) ?_;clear hK' K';refine rg0 [0,1,6,8,9,78,79,80] [46,8,9,73] ?_;refine AW_for (S:=Nat) (fun s=>s=0∨s=1∨s=2) (fun s=>⟨lst [(0,.d (.ip [.sl none NN,.sl none RR,.v (.int .i64 2),.v (.int .i64 2),.sl none [[.sl none [[.v (.int .i64 0)],[.v (.int .i64 1)]]],[.sl none [[.v (.int .i64 1)],[.v (.int .i64 1)]]]],.sl none PT,.sl none IN])),(1,int 1),(6,.d (.sl none [[.v (.int .i64 0)],[.v (.int .i64 1)]])),(8,.ref 8 0 0),(9,.ref 9 0 0),(78,.d (.sl none [[.sl none [[.v (.int .i64 0)],[.v (.int .i64 1)]]],[.sl none [[.v (.int .i64 1)],[.v (.int .i64 1)]]]])),(79,int 2),(80,int s)],hlst [(46,.box 67 [.d (.sl none [[.v (.bool false)],[.v (.bool true)]]),.own 73 0 2]),(8,.box 63 [.own 46 0 2]),(9,.box 3 [int 1]),(73,.sl 4 1 (rowC s))]⟩) (fun s=>2 - s) 0 ?_ (.inl rfl) ?_
   ·refine Imp.to' (fun _ _=>trivial) (by simp [rowC]) (by simp [rowC])
   ·rintro s (rfl | rfl | rfl)
    ·simp only [rowC];refine rg0 [0,1,6,8,9,78,79,80,81] [46,8,9,73] ?_;refine AW_then fun K7 hK7=>?_;refine AW_tt rfl ?_;refine AW_skip (hK7 _ ?_);refine AW_then fun K8 hK8=>?_;refine AW_block ?_;refine rg0 [0,1,6,8,9,10,11,78,79,80] [46,8,9,73] ?_;refine AW_rqce (tyOf_good _) (by kernel_rfl) ([7]) (List.range 10) (by kernel_rfl) fun K' hK'=>?_;(repeat (refine sxqc_nextO rfl fun K2 hK2=>?_;simp;(repeat (refine ⟨by omega,?_⟩));refine hK2 _ ?_;clear hK2 K2));refine sxqc_nextO rfl fun K2 hK2=>?_;simp;refine hqK.mc (hc0 [[.v (.bool false)],[.v (.bool false)]] rfl) (by simp) (by simp) (by simp) (by simp) (by simp;exact hlst_same (by simp) (by simp)) ?_;simp;refine hK2 _ ?_;clear hK2 K2;(repeat (refine sxqc_nextO rfl fun K2 hK2=>?_;simp;(repeat (refine ⟨by omega,?_⟩));refine hK2 _ ?_;clear hK2 K2));refine sxqc_nilO (hK' _ ?_);clear hK' K';refine hK8 _ (AW.norm [0,1,6,8,9,78,79,80] [46,8,9,73] (fun _ _=>trivial) (AW.st (by simp;rfl) ?_));refine AW_re (tyOf_good _) fun K' hK'=>?_;(repeat (refine sxn fun K2 hK2=>?_;simp;(repeat (refine ⟨by omega,?_⟩));refine hK2 _ ?_;clear hK2 K2));refine sxz (hK' _ ?_);clear hK' K';(try simp only [thn,inb]);refine Again.mk 1 (.inr (.inl rfl)) (by omega) ?_;refine Imp.to' (fun _ _=>trivial) (by simp [rowC]) (by simp [rowC])
    ·simp only [rowC];refine rg0 [0,1,6,8,9,78,79,80,81] [46,8,9,73] ?_;refine AW_then fun K7 hK7=>?_;refine AW_tt rfl ?_;refine AW_skip (hK7 _ ?_);refine AW_then fun K8 hK8=>?_;refine AW_block ?_;refine rg0 [0,1,6,8,9,10,11,78,79,80] [46,8,9,73] ?_;refine AW_rqce (tyOf_good _) (by kernel_rfl) ([7]) (List.range 10) (by kernel_rfl) fun K' hK'=>?_;(repeat (refine sxqc_nextO rfl fun K2 hK2=>?_;simp;(repeat (refine ⟨by omega,?_⟩));refine hK2 _ ?_;clear hK2 K2));refine sxqc_nextO rfl fun K2 hK2=>?_;simp;refine hqK.mc (hc1 [[.v (.bool true)],[.v (.bool false)]] rfl) (by simp) (by simp) (by simp) (by simp) (by simp;exact hlst_same (by simp) (by simp)) ?_;simp;refine hK2 _ ?_;clear hK2 K2;(repeat (refine sxqc_nextO rfl fun K2 hK2=>?_;simp;(repeat (refine ⟨by omega,?_⟩));refine hK2 _ ?_;clear hK2 K2));refine sxqc_nilO (hK' _ ?_);clear hK' K';refine hK8 _ (AW.norm [0,1,6,8,9,78,79,80] [46,8,9,73] (fun _ _=>trivial) (AW.st (by simp;rfl) ?_));refine AW_re (tyOf_good _) fun K' hK'=>?_;(repeat (refine sxn fun K2 hK2=>?_;simp;(repeat (refine ⟨by omega,?_⟩));refine hK2 _ ?_;clear hK2 K2));refine sxz (hK' _ ?_);clear hK' K';(try simp only [thn,inb]);refine Again.mk 2 (.inr (.inr rfl)) (by omega) ?_;refine Imp.to' (fun _ _=>trivial) (by simp [rowC]) (by simp [rowC])
    ·simp only [rowC];refine rg0 [0,1,6,8,9,78,79,80,81] [46,8,9,73] ?_;refine AW_then fun K7 hK7=>?_;refine AW_ff rfl ?_;refine AW_exit (hK6 _ ?_);refine AW.imp (Imp.freeze 73 trivial) ?_;refine AW.st (by simp;rfl) ?_;refine AW_then fun K9 hK9=>?_;refine rg0 [0,1,6,8,95] [46,8] ?_;refine reK trivial hK9 [0,1,6,8,9] [46,8,9] ?_;refine AW_re (tyOf_good _) fun K' hK'=>?_;(repeat (refine sxn fun K2 hK2=>?_;simp;(repeat (refine ⟨by omega,?_⟩));refine hK2 _ ?_;clear hK2 K2));refine sxz (hK' _ ?_);clear hK' K';(try simp only [thn,inb]);refine Again.mk 2 (.inr rfl) (by omega) ?_;refine Imp.to' (fun _ _=>trivial) (by simp [lftC]) (by simp [lftC])
  ·simp only [lftC];refine AW_then fun K5 hK5=>?_;refine rdq trivial [0,1,6,8,9,64] [46,8,9] ?_;refine AW_ff rfl ?_;refine AW_exit (hK4 _ ?_);refine rg0 [0,1,6,8,12] [46,8] ?_;refine rg0 [0,1,6,8,12,13] [46,8] ?_;refine AW_then fun K10 hK10=>?_;refine rg0 [0,8,12,13,14] [46,8,14] ?_;refine AW_for (S:=Nat) (fun k=>k=1∨k=0) (fun k=>⟨lst [(0,.d (.ip [.sl none NN,.sl none RR,.v (.int .i64 2),.v (.int .i64 2),.sl none [[.sl none [[.v (.int .i64 0)],[.v (.int .i64 1)]]],[.sl none [[.v (.int .i64 1)],[.v (.int .i64 1)]]]],.sl none PT,.sl none IN])),(8,.ref 8 0 0),(12,.own 905 0 (wayC k).length),(13,int (stC k)),(14,.ref 14 0 0)],hlst [(46,.box 67 [.d (.sl none [[.v (.bool false)],[.v (.bool true)]]),.d (.sl none [[.v (.bool true)],[.v (.bool true)]])]),(8,.box 63 [.own 46 0 2]),(14,.box 3 [int k]),(905,.sl 3 1 (wayC k))]⟩) (fun k=>k) 1 ?_ (.inl rfl) ?_
   ·refine (Imp.adopt 12 905 3 1 rfl rfl).trans ?_;refine Imp.to' (fun _ _=>trivial) (by simp [wayC,stC]) (by simp [wayC,stC])
   ·rintro k (rfl | rfl)
    ·simp only [wayC,stC];refine AW_then fun K11 hK11=>?_;refine rg0 [0,8,12,13,14,101] [46,8,14,905] ?_;refine AW_tt rfl ?_;refine AW_skip (hK11 _ ?_);refine AW_then fun K12 hK12=>?_;refine AW_block ?_;refine rgm trivial hx [0,8,12,13,14,15] [46,8,14,905] ?_;refine rg0 [0,8,12,13,14,15] [46,8,14,905] ?_;refine reK trivial hK12 [0,8,12,13,14] [46,8,14,905] ?_;refine AW_then fun K13 hK13=>?_;refine rg0 [0,8,12,13,127] [46,8,905] ?_;refine reK trivial hK13 [0,8,12,13,14] [46,8,14,905] ?_;refine AW_re (tyOf_good _) fun K' hK'=>?_;(repeat (refine sxn fun K2 hK2=>?_;simp;(repeat (refine ⟨by omega,?_⟩));refine hK2 _ ?_;clear hK2 K2));refine sxz (hK' _ ?_);clear hK' K';(try simp only [thn,inb]);refine Again.mk 0 (.inr rfl) (by omega) ?_;refine Imp.to' (fun _ _=>trivial) (by simp [wayC,stC]) (by simp [wayC,stC])
    ·simp only [wayC,stC];refine AW_then fun K11 hK11=>?_;refine rg0 [0,8,12,13,14,101] [46,8,14,905] ?_;refine AW_ff rfl ?_;refine AW_exit (hK10 _ ?_);refine AW.imp (Imp.freeze 905 trivial) ?_;refine AW.st (by simp;rfl) ?_;refine rg0 [4,5] [] ?_;refine AW_ret ?_;simp [D.le,D.le.go,takeMap,D.le_refl,D.leGo_refl]
theorem fix_stays:leastN (nextP fixP) allX true [false,true]=[false,true]:=by
 have ht:=tab_next fix_check
 have hl:=leastN_is (mono_allt ht) (B:=[false,true]) (by rw [fix_next];rfl)
 refine least_unique hl ?_;rw [fix_next];refine ⟨rfl,rfl,fun _ _ h=>h,fun s hs h=>?_,fun _ _ h _=>h⟩
 match s,hs with
 | 0,_=>cases h
 | 1,_=>rfl
set_option maxRecDepth 100000 in
set_option maxHeartbeats 8000000 in
theorem reached_spec (G:Glob) (hM:HasMax G) (hP:HasP10 G) (hG:HasErr G) {es er:Value} (hE:HasNE G es er):PureC Tryz.prog G 49 [] (.v (.bool true)):=by
 have hmd:=made_spec G hM hP hG hE fixT 9 (by decide) (by decide)
 rw [fix_made (by decide)] at hmd
 have hfa:=far_spec G fixP fix_check (by rw [fix_inl];decide) (by rw [fix_prod];decide)
 rw [fix_far] at hfa
 have hpa:=fix_path G
 have hst:=stays_spec G fixP fix_check (by rw [fix_inl];decide) (by rw [fix_prod];decide) [false,true] (by rw [fix_next];rfl)
 rw [fix_stays] at hst
 have s1:=sameInts_spec G none none [0,1] [0,1] (by decide)
 have s2:=sameInts_spec G none none [1] [1] (by decide)
 have s3:=sameBools_spec G [false,true] [false,true] (by decide)
 have hdc:∃ c,dMc fixP = .ip c:=⟨_,rfl⟩
 obtain ⟨MC,hMC⟩:=hdc
 simp only [dMade,hMC,dIl,dBl,dBs,dInts,List.map,dS,dNum] at hmd hfa hpa hst s1 s2 s3
 have hfb:=fix_bs
 generalize bs fixT=FT at *;refine PureC.of_body (tyOf_good _) Tryz.func49 rfl rfl (rs:=[.tmp 0]) Tryz.results49 (by simp [Tryz.ntmps49]) fun X=>?_;simp only [Tryz.ntmps49,List.map];refine rg0 [] [] ?_
 have qf:=@hfb
 refine rgcv hmd [1,2] [] ?_;refine AW_then fun K1 hK1=>?_;refine rg0 [1,14] [] ?_;refine AW_ff rfl ?_;refine AW_skip (hK1 _ ?_);refine rgc trivial hfa [1,3,4] [] ?_;refine rgc trivial hpa [1,3,4,5,6] [] ?_;refine rg [3,4,5,6,7,8] [] (fun _ _=>trivial) fun K' hK'=>?_;(repeat (refine sxn fun K2 hK2=>?_;simp;(repeat (refine ⟨by omega,?_⟩));refine hK2 _ ?_;clear hK2 K2));refine sxn fun K2 hK2=>?_;simp;refine callK.frz 27 (by first | rfl | (simp;rfl)) trivial ?_;simp;refine callK.data (hst) (by simp;rfl) (by first | exact D.leGo_refl _ | simp [takeMap,List.map_map,Function.comp_def,D.le,D.le.go,D.le_refl,D.leGo_refl]) ?_;refine hK2 _ ?_;clear hK2 K2;simp only [putd,upd_lst];(repeat (refine sxn fun K2 hK2=>?_;simp;(repeat (refine ⟨by omega,?_⟩));refine hK2 _ ?_;clear hK2 K2));refine sxz (hK' _ (AW.st (by simp;rfl) ?_));clear hK' K';refine rg [0] [] (fun _ _=>trivial) fun K' hK'=>?_;(repeat (refine sxn fun K2 hK2=>?_;simp;(repeat (refine ⟨by omega,?_⟩));refine hK2 _ ?_;clear hK2 K2));refine sxn fun K2 hK2=>?_;simp;refine callK.lend (s1) (by simp;rfl) (by first | exact D.leGo_refl _ | simp [takeMap,List.map_map,Function.comp_def,D.le,D.le.go,D.le_refl,D.leGo_refl]) (by simp [D.scalar]) ?_;refine hK2 _ ?_;clear hK2 K2;simp only [putd,upd_lst];(repeat (refine sxn fun K2 hK2=>?_;simp;(repeat (refine ⟨by omega,?_⟩));refine hK2 _ ?_;clear hK2 K2));refine sxn fun K2 hK2=>?_;simp;refine callK.lend (s2) (by simp;rfl) (by first | exact D.leGo_refl _ | simp [takeMap,List.map_map,Function.comp_def,D.le,D.le.go,D.le_refl,D.leGo_refl]) (by simp [D.scalar]) ?_;refine hK2 _ ?_;clear hK2 K2;simp only [putd,upd_lst];(repeat (refine sxn fun K2 hK2=>?_;simp;(repeat (refine ⟨by omega,?_⟩));refine hK2 _ ?_;clear hK2 K2));refine sxn fun K2 hK2=>?_;simp;refine callK.lend (s3) (by simp;rfl) (by first | exact D.leGo_refl _ | simp [takeMap,List.map_map,Function.comp_def,D.le,D.le.go,D.le_refl,D.leGo_refl]) (by simp [D.scalar]) ?_;refine hK2 _ ?_;clear hK2 K2;simp only [putd,upd_lst];(repeat (refine sxn fun K2 hK2=>?_;simp;(repeat (refine ⟨by omega,?_⟩));refine hK2 _ ?_;clear hK2 K2));refine sxz (hK' _ (AW.st (by simp;rfl) ?_));clear hK' K';refine AW_ret ?_;simp [D.le,D.le.go,takeMap]
end Go.Proofs.YtpboiimemmfkiaaGreatDoor
namespace Go.Proofs.YtpboiimemmfkiaaGreatDoor
open Go.Av
def ntB (l:List Bool):List Bool:=l.map (!·)
theorem ntB_len (l:List Bool):(ntB l).length=l.length:=by simp [ntB]
theorem ntB_at {l:List Bool} {s:Nat} (h:s < l.length) (d d':Bool):(ntB l).getD s d = !l.getD s d':=by
 rw [getD_of (by rw [ntB_len];exact h),getD_of h];simp [ntB]
theorem getD_any {l:List Bool} {s:Nat} (h:s < l.length) (d d':Bool):l.getD s d=l.getD s d':=by rw [getD_of h,getD_of h]
theorem all_nt {NX:List (List Int)} (ht:TabN NX) {s:Nat} (hs:s < NX.length) {Y:List Bool} (hY:Y.length=NX.length):allX NX[s] (ntB Y) = !anyX NX[s] Y:=by
 have hm:=ht.mem _ (List.getElem_mem hs)
 generalize NX[s]=l at hm;unfold allX anyX
 induction l with
 | nil=>rfl
 | cons t l ih=>
  have h1:=hm t (by simp)
  rw [List.all_cons,List.any_cons,ih fun t ht=>hm t (by simp [ht]),ntB_at (d':=false) (by omega)]
  cases Y.getD t.toNat false<;>simp
theorem comes_stays {NX:List (List Int)} (ht:TabN NX) {I S C:List Bool} (hS:LeastX NX allX true I S) (hC:LeastX NX anyX false (ntB I) C):C=ntB S:=by
 have hI:=hS.lb
 have hSl:=hS.lx
 refine least_unique hC ⟨by rw [ntB_len];exact hI,by rw [ntB_len];exact hSl,fun s hs hb=>?_,fun s hs hx=>?_,fun Y hY h1 h2 s hs hx=>?_⟩
 ·rw [ntB_at (d':=true) (by omega)] at hb ⊢
  have:=hS.base s hs (by simpa using hb)
  rw [this];rfl
 ·rw [ntB_at (d':=true) (by omega)] at hx
  have h3:=hS.shut s hs (by simpa using hx)
  have h4:=all_nt ht hs (Y:=ntB S) (by rw [ntB_len];exact hSl)
  have e:ntB (ntB S)=S:=by simp [ntB,List.map_map,Function.comp_def]
  rw [e,h3] at h4
  cases h5:anyX NX[s] (ntB S) with
  | false=>rfl
  | true=>rw [h5] at h4;cases h4
 ·rw [ntB_at (d':=true) (by omega)] at hx
  have h3:=hS.least (ntB Y) (by rw [ntB_len];exact hY) (fun s hs hb=>by
   rw [ntB_at (d':=false) (by omega)]
   have:=h1 s hs (by rw [ntB_at (d':=true) (by omega),hb];rfl)
   rw [this];rfl) (fun s hs hy=>by
   rw [ntB_at (d':=false) (by omega)] at hy
   rw [all_nt ht hs hY,h2 s hs (by simpa using hy)];rfl) s hs (by simpa using hx)
  rw [ntB_at (d':=false) (by omega)] at h3;simpa using h3
theorem forces_comes {NX:List (List Int)} (hne:∀ l∈NX,l≠[]) {O C F:List Bool} (hC:LeastX NX anyX false O C) (hF:LeastX NX allX false O F) {s:Nat} (hs:s < NX.length) (h:F.getD s false=true):C.getD s false=true:=by
 refine hF.least C hC.lx (fun s hs hb=>hC.base s hs hb) (fun s hs hx=>?_) s hs h
 have h1:=hC.shut s hs hx
 have h2:=hne _ (List.getElem_mem hs)
 generalize NX[s]=l at h1 h2
 cases l with
 | nil=>exact absurd rfl h2
 | cons t l=>
  unfold anyX at h1;unfold allX;rw [List.any_cons,Bool.or_eq_false_iff] at h1;rw [List.all_cons,h1.1];rfl
theorem forces_one {NX:List (List Int)} {O F:List Bool} (hF:LeastX NX allX false O F) {s:Nat} (hs:s < NX.length) (h:F.getD s false=false):(NX[s].any fun t=>!F.getD t.toNat false)=true:=by
 have h1:=hF.shut s hs h
 unfold allX at h1;rw [List.all_eq_false] at h1
 obtain ⟨t,ht,h2⟩:=h1
 exact List.any_eq_true.2 ⟨t,ht,by simpa using h2⟩
theorem stays_start {NX:List (List Int)} (ht:TabN NX) {I S D:List Bool} {F:List Int} (hI:I.length=NX.length) (hS:LeastX NX allX true I S) (hF:IsFar NX F):((List.range NX.length).all fun s=>decide (F.getD s 0 < 0) || I.getD s false)=S.getD 0 false:=by
 have hpos:=ht.pos
 have hSl:=hS.lx
 rw [Bool.eq_iff_iff,List.all_eq_true]
 constructor
 ·intro h
  have hn:¬ S.getD 0 true=false:=fun hx=>by
   have hY:=hS.least ((List.range NX.length).map fun s=>decide (0≤F.getD s 0)) (by simp) (fun s hs hb=>by
    have h1:=h s (List.mem_range.2 hs)
    rw [getD_any (d:=true) (d':=false) (by omega)] at hb
    have hb:I.getD s false=false:=hb
    rw [hb,Bool.or_false,decide_eq_true_eq] at h1;rw [getD_of (by simpa using hs)];simp only [List.getElem_map,List.getElem_range]
    exact decide_eq_false (by omega)) (fun s hs hy=>by
    rw [getD_of (by simpa using hs)] at hy;simp only [List.getElem_map,List.getElem_range,decide_eq_true_eq] at hy;unfold allX;rw [List.all_eq_true]
    intro t htm
    obtain ⟨h0,h1⟩:=ht.mem _ (List.getElem_mem hs) t htm
    have h2:=hF.step s hs hy t htm
    have h3:t.toNat < NX.length:=by omega
    rw [getD_of (by simpa using h3)];simp
    exact h2.1) 0 hpos hx
   rw [getD_of (by simpa using hpos)] at hY;simp only [List.getElem_map,List.getElem_range,hF.zero] at hY
   cases hY
  rw [getD_any (d:=false) (d':=true) (by omega)]
  cases hh:S.getD 0 true with
  | true=>rfl
  | false=>exact absurd hh hn
 ·intro h s hs
  have hs:=List.mem_range.1 hs
  by_cases hneg:F.getD s 0 < 0
  ·rw [decide_eq_true hneg,Bool.true_or]
  ·have key:∀ (n:Nat) (s:Nat),s < NX.length→F.getD s 0=n→S.getD s false=true:=by
    intro n
    induction n with
    | zero=>
     intro s hs e
     obtain rfl:=hF.one s hs (by omega)
     exact h
    | succ n ih=>
     intro s hs e
     obtain ⟨u,hu,h1,h2⟩:=hF.back s hs (by omega)
     have h3:=ih u hu (by omega)
     have h4:=hS.shut u hu (by rw [getD_any (d:=true) (d':=false) (by omega)];exact h3)
     unfold allX at h4
     have:=List.all_eq_true.1 h4 _ h2
     simpa using this
   obtain ⟨n,hn⟩:=Int.eq_ofNat_of_zero_le (show 0≤F.getD s 0 by omega)
   have h5:=key n s hs hn
   have h6:I.getD s false=true:=by
    cases hh:I.getD s false with
    | true=>rfl
    | false=>
     have:=hS.base s hs (by rw [getD_any (d:=true) (d':=false) (by omega)];exact hh)
     rw [getD_any (d:=true) (d':=false) (by omega),h5] at this
     cases this
   rw [h6];simp
end Go.Proofs.YtpboiimemmfkiaaGreatDoor
namespace Go.Proofs.YtpboiimemmfkiaaGreatDoor
open Go.Av
def fillB (L:List Bool) (s:Nat):List Bool:=L.take s ++ List.replicate (L.length - s) false
theorem fillB_len {L:List Bool} {s:Nat} (h:s≤L.length):(fillB L s).length=L.length:=by simp [fillB];omega
theorem fillB_zero (L:List Bool):fillB L 0=List.replicate L.length false:=by simp [fillB]
theorem fillB_all (L:List Bool):fillB L L.length=L:=by simp [fillB]
theorem fillB_set {L:List Bool} {s:Nat} (h:s < L.length):(fillB L s).set s L[s]=fillB L (s+1):=by
 refine ext_getD (d:=false) (by rw [List.length_set,fillB_len (by omega),fillB_len (by omega)]) fun i hi=>?_;rw [List.length_set,fillB_len (by omega)] at hi
 have at':∀ k,k≤L.length→(fillB L k).getD i false=if i < k then L[i] else false:=fun k hk=>by
  rw [getD_of (by rw [fillB_len hk];exact hi)];unfold fillB
  by_cases h:i < k
  ·rw [List.getElem_append_left (by rw [List.length_take];omega),if_pos h];simp
  ·rw [List.getElem_append_right (by rw [List.length_take];omega),if_neg h];simp
 by_cases e:s=i
 ·subst e;rw [getD_set_same (by rw [fillB_len (by omega)];exact h),at' _ (by omega),if_pos (by omega)]
 ·rw [getD_set_other e,at' _ (by omega),at' _ (by omega)]
  by_cases h2:i < s
  ·rw [if_pos h2,if_pos (by omega)]
  ·rw [if_neg h2,if_neg (by omega)]
def amongB (of:List Bool) (n:Nat):List Bool:=(List.range n).map fun s=>of.getD s false
theorem amongB_len (of:List Bool) (n:Nat):(amongB of n).length=n:=by simp [amongB]
theorem amongB_at {of:List Bool} {n s:Nat} (h:s < (amongB of n).length):(amongB of n)[s]=of.getD s false:=by simp [amongB]
theorem four_b {sv fv iv:Bool} (h1:fv=true→(!sv)=true) (h2:(!iv) = !false→fv = !false):(sv=true∧fv=false∧iv=true)∨(sv=false∧fv=false∧iv=true)∨(sv=false∧fv=true∧iv=true)∨(sv=false∧fv=true∧iv=false):=by
 revert h1 h2
 cases sv<;>cases fv<;>cases iv<;>decide
set_option maxRecDepth 100000 in
set_option maxHeartbeats 32000000 in
theorem rtarski_law (G:Glob) (hM:HasMax G) (hP:HasP10 G) (hG:HasErr G) {es er:Value} (hE:HasNE G es er) (t:Tx) (of:List Bool):PureC Tryz.prog G 10 [dS t,dBl of] (.v (.bool true)):=by
 have hmd:=made_spec G hM hP hG hE t 300 (by decide) (by decide)
 have hre:=reached_spec G hM hP hG hE
 have hLl:(of.map fun n=>[D.v (.bool n)]).length=of.length:=by simp
 cases hma:madeP t 300 with
 | none=>
  rw [hma] at hmd;simp only [dMade,dS,dBl,dNum] at hmd ⊢;generalize (of.map fun n=>[D.v (.bool n)])=LL at *;refine PureC.of_body (tyOf_good _) Tryz.func10 rfl rfl (rs:=[.tmp 4]) Tryz.results10 (by simp [Tryz.ntmps10]) fun X=>?_;simp only [Tryz.ntmps10,List.map];refine rg0 [0,1] [] ?_;refine rgc trivial hmd [1,5,6] [] ?_;refine AW_then fun K1 hK1=>?_;refine rg0 [1,5,37] [] ?_;refine AW_tt rfl ?_;refine rgc trivial hre [4] [] ?_;refine AW_ret ?_;simp [D.le,D.le.go,takeMap]
 | some p=>
  rw [hma] at hmd
  obtain ⟨hck,hk,hi4,hPr⟩:=madeP_some hma
  by_cases h400:(of.length:Int) > 400
  ·have hdc:∃ c,dMc p = .ip c:=⟨_,rfl⟩
   obtain ⟨MC,hMC⟩:=hdc
   simp only [dMade,dS,dBl,dNum,hMC] at hmd ⊢;generalize (of.map fun n=>[D.v (.bool n)])=LL at *
   have h400':(LL.length:Int) > 400:=by omega
   refine PureC.of_body (tyOf_good _) Tryz.func10 rfl rfl (rs:=[.tmp 4]) Tryz.results10 (by simp [Tryz.ntmps10]) fun X=>?_;simp only [Tryz.ntmps10,List.map];refine rg0 [0,1] [] ?_;refine rgc trivial hmd [1,5,6] [] ?_;refine AW_then fun K1 hK1=>?_
   have qf:=@h400'
   refine rgqv [1,5,37] [] ?_;refine AW_cond true (by simp<;>omega) (fun _=>?_) (fun h=>by cases h);refine rgc trivial hre [4] [] ?_;refine AW_ret ?_;simp [D.le,D.le.go,takeMap]
  have ht:=tab_next hck
  have hpp:0 < prodP (partsP p):=prodP_pos fun x hx=>(parts_good (checkP_good hck) hx).m2
  have hlen:=nextP_len p
  have hcast:((nextP p).length:Int)=prodP (partsP p):=by rw [hlen];omega
  have hn300:(nextP p).length≤300:=by omega
  have hrl:∀ s (h:s < (nextP p).length),(nextP p)[s].length=inN p:=fun s h=>by rw [nextP_at h,rowP_len];rfl
  have hNIp:=inN_pos p
  have hNIl:=inN_le hi4
  have hne:∀ l∈nextP p,l≠[]:=fun l hl e=>by
   obtain ⟨s,hs,rfl⟩:=List.mem_iff_getElem.1 hl
   have:=hrl s hs
   rw [e] at this;simp at this
   omega
  have hIl:=amongB_len of (nextP p).length
  have hIa:=fun s (h:s < (amongB of (nextP p).length).length)=>amongB_at h
  generalize hII:amongB of (nextP p).length=I at hIl hIa
  have hOl:(ntB I).length=(nextP p).length:=by rw [ntB_len,hIl]
  have hS:=leastN_is (mono_allt ht) hIl
  have hC:=leastN_is (mono_any (nextP p)) hOl
  have hF:=leastN_is (mono_allf (nextP p)) hOl
  have hFA:=farN_is ht
  have hst:=stays_spec G p hck (by omega) (by omega) I hIl
  have hco:=comes_spec G p hck (by omega) (by omega) (ntB I) hOl
  have hfo:=forces_spec G p hck (by omega) (by omega) (ntB I) hOl
  have hst2:=stays_spec G p hck (by omega) (by omega) _ hS.lx
  have hco2:=comes_spec G p hck (by omega) (by omega) _ hC.lx
  rw [least_unique (leastN_is (mono_allt ht) hS.lx) (least_again hS)] at hst2;rw [least_unique (leastN_is (mono_any (nextP p)) hC.lx) (least_again hC)] at hco2
  have hfar:=far_spec G p hck (by omega) (by omega)
  have hcs:=comes_stays ht hS hC
  have hfc:=fun s (h:s < (nextP p).length)=>forces_comes hne hC hF h
  have hf1:=fun s (h:s < (nextP p).length)=>forces_one hF h
  have hfin:=stays_start (D:=[]) ht hIl hS hFA
  have hbase:=hF.base
  have hSl:=hS.lx
  have hCl:=hC.lx
  have hFl:=hF.lx
  have hAl:=hFA.len
  have hs1:=sameBools_spec G (leastN (nextP p) allX true I) (leastN (nextP p) allX true I) (by omega)
  have hs2:=sameBools_spec G (leastN (nextP p) anyX false (ntB I)) (leastN (nextP p) anyX false (ntB I)) (by omega)
  have htm:=ht.mem
  have hpos:=ht.pos
  clear hS hC hF hFA;generalize leastN (nextP p) allX true I=S at *;generalize leastN (nextP p) anyX false (ntB I)=C at *;generalize leastN (nextP p) allX false (ntB I)=Fo at *;generalize farN (nextP p)=FA at *;subst hcs
  have hNXl:=nxD_len (nextP p)
  have hNg:∀ s (h:s < (nextP p).length),(nxD (nextP p))[s]? = some [dIl (nextP p)[s]]:=fun s h=>by simp [nxD,h]
  simp only [beq_self_eq_true] at hs1 hs2;simp only [dMade,dMc,dMa,cMa,dNms,dRgs,dPas,dIl,dBl,dBs,dS,dNum,← hcast] at hmd hst hco hfo hst2 hco2 hfar hs1 hs2 hNg ⊢;clear hlen hcast hPr hpp;generalize nxD (nextP p)=NX at *;generalize nextP p=TN at *
  obtain ⟨N,hN⟩:∃ N:Nat,TN.length=N:=⟨_,rfl⟩
  rw [hN] at hmd hst hco hfo hst2 hco2 hfar hIl hOl hSl hCl hFl hAl hNXl hn300 hpos hfin;generalize inN p=NI at *;generalize ((inputP p).map fun n=>[D.v (.int .i64 n)])=IN at *;generalize (partsP p).map cPa=PT at *;generalize p.names.map cNm=NN at *;generalize p.rungs.map cRg=RR at *
  have h400':¬ ((of.map fun n=>[D.v (.bool n)]).length:Int) > 400:=by omega
  have hLg:∀ s (h:s < of.length),(of.map fun n=>[D.v (.bool n)])[s]? = some [.v (.bool of[s])]:=fun s h=>by simp [h]
  generalize (of.map fun n=>[D.v (.bool n)])=LL at *
  obtain ⟨av,hav⟩:∃ av:Nat→Bool,∀ k,av k=(List.range k).all fun s=>decide (FA.getD s 0 < 0) || I.getD s false:=⟨_,fun _=>rfl⟩
  have hav0:av 0=true:=by rw [hav];rfl
  have havs:∀ k,av (k+1)=(av k && (decide (FA.getD k 0 < 0) || I.getD k false)):=fun k=>by rw [hav,hav,List.range_succ,List.all_append];simp
  rw [← hav] at hfin;clear hav;refine PureC.of_body (tyOf_good _) Tryz.func10 rfl rfl (rs:=[.tmp 4]) Tryz.results10 (by simp [Tryz.ntmps10]) fun X=>?_;simp only [Tryz.ntmps10,List.map];refine rg0 [0,1] [] ?_;refine rgc trivial hmd [1,5,6] [] ?_;refine AW_then fun K1 hK1=>?_
  have qf:=@h400'
  refine rgqv [1,5,37] [] ?_;refine AW_cond false (by simp<;>omega) (fun h=>by cases h) (fun _=>?_);refine AW_skip (hK1 _ ?_);refine AW_rl (tyOf_good _) (by kernel_rfl) ([]) ([]) ([0,1,2,3,5,6,7,8,4,9,10,11]) [1,5,7,8] [43,48] (fun _ _=>trivial) (by kernel_rfl) fun K' hK'=>?_;(repeat (refine sxl_nextO rfl fun K2 hK2=>?_;simp [makeEls,zeroD];(repeat (refine ⟨by omega,?_⟩));refine hK2 _ ?_;clear hK2 K2));refine sxl_nilO (hK' _ ?_);refine AW.st (by simp [makeEls,zeroD];rfl) ?_;clear hK' K';refine AW_then fun K2 hK2=>?_;refine rg0 [1,5,7,8,9] [43,48] ?_;refine AW_for (S:=Nat) (fun s=>s≤N) (fun s=>⟨lst [(1,.d (.sl none LL)),(5,.d (.ip [.sl none NN,.sl none RR,.v (.int .i64 N),.v (.int .i64 NI),.sl none NX,.sl none PT,.sl none IN])),(7,.own 43 0 N),(8,.own 48 0 N),(9,int s)],hlst [(43,.sl 4 1 ((fillB I s).map fun b=>[.v (.bool b)])),(48,.sl 4 1 ((fillB (ntB I) s).map fun b=>[.v (.bool b)]))]⟩) (fun s=>N - s) 0 ?_ (by omega) ?_
  ·rw [fillB_zero,fillB_zero,hIl,hOl];refine Imp.to' (fun _ _=>trivial) (by simp [List.map_replicate]) (by simp [List.map_replicate])
  ·intro s hs
   have hl1:=fillB_len (L:=I) (s:=s) (by omega)
   have hl2:=fillB_len (L:=ntB I) (s:=s) (by omega)
   refine AW_then fun K3 hK3=>?_;refine rg0 [1,5,7,8,9,54] [43,48] ?_;refine AW_cond' (b:=s < N) (by simp [D.le,D.le.go,takeMap]) (fun hc=>?_) (fun hc=>?_)
   ·refine AW_skip (hK3 _ ?_);refine AW_then fun K4 hK4=>?_;refine AW_block ?_
    have e1:=fillB_set (L:=I) (s:=s) (by omega)
    have e2:=fillB_set (L:=ntB I) (s:=s) (by omega)
    have e3:(ntB I)[s]'(by omega) = !I[s]'(by omega):=by simp [ntB]
    have e4:=hIa s (by omega)
    rw [e3] at e2;rw [e4] at e1 e2;rw [hIl] at hl1;rw [hOl] at hl2
    have c1:s < (fillB I s).length:=by omega
    have c2:s < (fillB (ntB I) s).length:=by omega
    by_cases hso:s < of.length
    ·have hsl:s < LL.length:=by omega
     have hsl3:(s:Int) < (LL.length:Int):=by omega
     have hLs:LL[s]=[.v (.bool of[s])]:=by
      have:=hLg s hso
      rw [List.getElem?_eq_getElem hsl] at this;exact Option.some.inj this
     rw [getD_of hso] at e1 e2;generalize of[s]=b at *
     have qf:=(Aq @hsl (Aq @hsl3 (Aq @hLs (Aq @c1 @hc))))
     refine rgqv [1,5,7,8,9] [43,48] ?_
     have qf:=(Aq @c1 (Aq @c2 @hc))
     refine reKv hK4 [1,5,7,8,9] [43,48] ?_;refine AW_re (tyOf_good _) fun K' hK'=>?_;(repeat (refine sxn fun K2 hK2=>?_;simp;(repeat (refine ⟨by omega,?_⟩));refine hK2 _ ?_;clear hK2 K2));refine sxz (hK' _ ?_);clear hK' K';(try simp only [thn,inb]);refine Again.mk (s+1) (by omega) (by omega) ?_;rw [← e1,← e2];refine Imp.to' (fun _ _=>trivial) (by simp [List.map_set]) (by simp [List.map_set])
    ·have hsl3:¬ (s:Int) < (LL.length:Int):=by omega
     rw [show of.getD s false=false by rw [List.getD_eq_getElem?_getD,List.getElem?_eq_none (by omega)];rfl] at e1 e2
     have qf:=(Aq @hsl3 (Aq @c1 @hc))
     refine rgqv [1,5,7,8,9] [43,48] ?_
     have qf:=(Aq @c1 (Aq @c2 @hc))
     refine reKv hK4 [1,5,7,8,9] [43,48] ?_;refine AW_re (tyOf_good _) fun K' hK'=>?_;(repeat (refine sxn fun K2 hK2=>?_;simp;(repeat (refine ⟨by omega,?_⟩));refine hK2 _ ?_;clear hK2 K2));refine sxz (hK' _ ?_);clear hK' K';(try simp only [thn,inb]);refine Again.mk (s+1) (by omega) (by omega) ?_;rw [← e1,← e2];refine Imp.to' (fun _ _=>trivial) (by simp [List.map_set]) (by simp [List.map_set])
   ·obtain rfl:s=N:=by omega
    have f1:fillB I s=I:=by rw [← hIl];exact fillB_all I
    have f2:fillB (ntB I) s=ntB I:=by rw [← hOl];exact fillB_all _
    rw [f1,f2];refine AW_exit (hK2 _ ?_)
    have g1:(I.map fun b=>[D.v (.bool b)]).length=s:=by simp [hIl]
    have g2:((ntB I).map fun b=>[D.v (.bool b)]).length=s:=by simp [hOl]
    refine AW.imp (Imp.freeze 43 trivial) ?_;refine AW.st (by simp [g1,List.take_of_length_le];rfl) ?_;refine AW.imp (Imp.freeze 48 trivial) ?_;refine AW.st (by simp [g2,List.take_of_length_le];rfl) ?_;refine rgc trivial hst [5,7,8,10,11] [] ?_;refine rgc trivial hco [5,7,8,10,11,12,13] [] ?_;refine rgc trivial hfo [5,7,8,10,11,12,13,14,15] [] ?_;refine rgc trivial hst2 [5,7,8,10,11,12,13,14,15,16,17] [] ?_;refine rgc trivial hco2 [5,7,8,10,11,12,13,14,15,16,17,18,19] [] ?_;refine rgc trivial hfar [5,7,8,10,11,12,13,14,15,16,17,18,19,20,21] [] ?_;refine AW_then fun K5 hK5=>?_;refine rg [5,7,8,10,12,14,20,150] [] (fun _ _=>trivial) fun K' hK'=>?_;(repeat (refine sxn fun K2 hK2=>?_;simp;(repeat (refine ⟨by omega,?_⟩));refine hK2 _ ?_;clear hK2 K2));refine sxn fun K2 hK2=>?_;simp;refine callK.data (hre) (by simp;rfl) (by first | exact D.leGo_refl _ | simp [takeMap,List.map_map,Function.comp_def,D.le,D.le.go,D.le_refl,D.leGo_refl]) ?_;refine hK2 _ ?_;clear hK2 K2;simp only [putd,upd_lst];(repeat (refine sxn fun K2 hK2=>?_;simp;(repeat (refine ⟨by omega,?_⟩));refine hK2 _ ?_;clear hK2 K2));refine sxn fun K2 hK2=>?_;simp;refine callK.data (hs1) (by simp;rfl) (by first | exact D.leGo_refl _ | simp [takeMap,List.map_map,Function.comp_def,D.le,D.le.go,D.le_refl,D.leGo_refl]) ?_;refine hK2 _ ?_;clear hK2 K2;simp only [putd,upd_lst];(repeat (refine sxn fun K2 hK2=>?_;simp;(repeat (refine ⟨by omega,?_⟩));refine hK2 _ ?_;clear hK2 K2));refine sxn fun K2 hK2=>?_;simp;refine callK.data (hs2) (by simp;rfl) (by first | exact D.leGo_refl _ | simp [takeMap,List.map_map,Function.comp_def,D.le,D.le.go,D.le_refl,D.leGo_refl]) ?_;refine hK2 _ ?_;clear hK2 K2;simp only [putd,upd_lst];(repeat (refine sxn fun K2 hK2=>?_;simp;(repeat (refine ⟨by omega,?_⟩));refine hK2 _ ?_;clear hK2 K2));refine sxz (hK' _ (AW.st (by simp;rfl) ?_));clear hK' K';refine AW_ff rfl ?_;refine AW_skip (hK5 _ ?_);refine rg0 [5,7,8,10,12,14,20,22] [] ?_;refine AW_then fun K6 hK6=>?_;refine rg0 [5,7,8,10,12,14,20,22,23] [] ?_;refine AW_for (S:=Nat) (fun k=>k≤s) (fun k=>⟨lst [(5,.d (.ip [.sl none NN,.sl none RR,.v (.int .i64 s),.v (.int .i64 NI),.sl none NX,.sl none PT,.sl none IN])),(7,.d (.sl none (I.map fun b=>[.v (.bool b)]))),(8,.d (.sl none ((ntB I).map fun b=>[.v (.bool b)]))),(10,.d (.sl none (S.map fun b=>[.v (.bool b)]))),(12,.d (.sl none ((ntB S).map fun b=>[.v (.bool b)]))),(14,.d (.sl none (Fo.map fun b=>[.v (.bool b)]))),(20,.d (.sl none (FA.map fun n=>[.v (.int .i64 n)]))),(22,.d (.v (.bool (av k)))),(23,int k)],hlst []⟩) (fun k=>s - k) 0 ?_ (by omega) ?_
    ·rw [hav0];refine Imp.to' (fun _ _=>trivial) (by simp) (by simp)
    ·intro k hk
     refine AW_then fun K7 hK7=>?_;refine rg0 [5,7,8,10,12,14,20,22,23,156] [] ?_;refine AW_cond' (b:=k < s) (by simp [D.le,D.le.go,takeMap]) (fun hc=>?_) (fun hc=>?_)
     ·refine AW_skip (hK7 _ ?_);refine AW_then fun K8 hK8=>?_;refine AW_block ?_;refine AW_then fun K9 hK9=>?_
      have hkT:k < TN.length:=by omega
      have kI:k < I.length:=by omega
      have kO:k < (ntB I).length:=by omega
      have kS:k < S.length:=by omega
      have kC:k < (ntB S).length:=by rw [ntB_len];omega
      have kF:k < Fo.length:=by omega
      have kA:k < FA.length:=by omega
      have vO:(ntB I)[k] = !I[k]:=by simp [ntB]
      have vC:(ntB S)[k] = !S[k]:=by simp [ntB]
      have hfc2:=hfc k hkT
      have hf2:=hf1 k hkT
      have hb2:=hbase k hkT
      have hrk:=hrl k hkT
      have htk:=htm _ (List.getElem_mem hkT)
      have havk:=havs k
      have hNk:NX[k]'(by omega)=[.sl none (TN[k].map fun n=>[.v (.int .i64 n)])]:=by
       have:=hNg k hkT
       rw [List.getElem?_eq_getElem (by omega)] at this;exact Option.some.inj this
      have kN:k < NX.length:=by omega
      rw [getD_of kF,getD_of kC,vC] at hfc2;rw [getD_of kO,getD_of kF,vO] at hb2;rw [getD_of kF] at hf2;rw [getD_of kA,getD_of kI] at havk;generalize TN[k]=R at *;generalize hsv:S[k]=sv at *;generalize hiv:I[k]=iv at *;generalize hfv:Fo[k]=fv at *;generalize hfa:FA[k]=fa at *
      have tl:K9 ⟨lst [(5,.d (.ip [.sl none NN,.sl none RR,.v (.int .i64 s),.v (.int .i64 NI),.sl none NX,.sl none PT,.sl none IN])),(7,.d (.sl none (I.map fun b=>[.v (.bool b)]))),(8,.d (.sl none ((ntB I).map fun b=>[.v (.bool b)]))),(10,.d (.sl none (S.map fun b=>[.v (.bool b)]))),(12,.d (.sl none ((ntB S).map fun b=>[.v (.bool b)]))),(14,.d (.sl none (Fo.map fun b=>[.v (.bool b)]))),(20,.d (.sl none (FA.map fun n=>[.v (.int .i64 n)]))),(22,.d (.v (.bool (av k)))),(23,int k),(193,.d (.v (.bool false)))],hlst []⟩:=by
       refine hK9 _ ?_;refine rg [5,7,8,10,12,14,20,22,23] [] (fun _ _=>trivial) fun K' hK'=>?_
       have tl2:∀ τ,St.norm [5,7,8,10,12,14,20,22,23] [] τ=⟨lst [(5,.d (.ip [.sl none NN,.sl none RR,.v (.int .i64 s),.v (.int .i64 NI),.sl none NX,.sl none PT,.sl none IN])),(7,.d (.sl none (I.map fun b=>[.v (.bool b)]))),(8,.d (.sl none ((ntB I).map fun b=>[.v (.bool b)]))),(10,.d (.sl none (S.map fun b=>[.v (.bool b)]))),(12,.d (.sl none ((ntB S).map fun b=>[.v (.bool b)]))),(14,.d (.sl none (Fo.map fun b=>[.v (.bool b)]))),(20,.d (.sl none (FA.map fun n=>[.v (.int .i64 n)]))),(22,.d (.v (.bool (av (k+1))))),(23,int k)],hlst []⟩→K' τ:=by
        intro τ e
        refine hK' τ (AW.st e ?_);clear e
        have hNI0:¬ NI=0:=by omega
        obtain ⟨one,hon⟩:∃ one:Nat→Bool,∀ i,one i=(R.take i).any fun t=>!Fo.getD t.toNat false:=⟨_,fun _=>rfl⟩
        have hon0:one 0=false:=by rw [hon];rfl
        have hone:∀ i (h:i < R.length),one (i+1)=(one i || !Fo.getD R[i].toNat false):=fun i h=>by
         rw [hon,hon,List.take_succ_eq_append_getElem h,List.any_append];simp
        have honl:one NI=R.any fun t=>!Fo.getD t.toNat false:=by rw [hon,List.take_of_length_le (by omega)]
        clear hon
        have qf:=@hNI0
        refine rgqv [5,7,8,10,12,14,20,22,23,24] [] ?_;refine AW_then fun K10 hK10=>?_;refine rg0 [5,7,8,10,12,14,20,22,23,24,25] [] ?_;refine AW_for (S:=Nat) (fun i=>i≤NI) (fun i=>⟨lst [(5,.d (.ip [.sl none NN,.sl none RR,.v (.int .i64 s),.v (.int .i64 NI),.sl none NX,.sl none PT,.sl none IN])),(7,.d (.sl none (I.map fun b=>[.v (.bool b)]))),(8,.d (.sl none ((ntB I).map fun b=>[.v (.bool b)]))),(10,.d (.sl none (S.map fun b=>[.v (.bool b)]))),(12,.d (.sl none ((ntB S).map fun b=>[.v (.bool b)]))),(14,.d (.sl none (Fo.map fun b=>[.v (.bool b)]))),(20,.d (.sl none (FA.map fun n=>[.v (.int .i64 n)]))),(22,.d (.v (.bool (av (k+1))))),(23,int k),(24,.d (.v (.bool (one i)))),(25,int i)],hlst []⟩) (fun i=>NI - i) 0 ?_ (by omega) ?_
        ·rw [hon0];refine Imp.to' (fun _ _=>trivial) (by simp) (by simp)
        ·intro i hi
         refine AW_then fun K11 hK11=>?_;refine rg0 [5,7,8,10,12,14,20,22,23,24,25,218] [] ?_;refine AW_cond' (b:=i < NI) (by simp [D.le,D.le.go,takeMap]) (fun hc=>?_) (fun hc=>?_)
         ·refine AW_skip (hK11 _ ?_);refine AW_then fun K12 hK12=>?_;refine AW_block ?_
          have hiR:i < R.length:=by omega
          have hone:=hone i hiR
          obtain ⟨v0,v1⟩:=htk R[i] (List.getElem_mem hiR)
          obtain ⟨u,hu⟩:=Int.eq_ofNat_of_zero_le v0
          have huF:u < Fo.length:=by omega
          rw [hu,Int.toNat_natCast,getD_of huF] at hone;generalize hov:one i=on at *;generalize huv:Fo[u]=uv at *
          cases on with
          | true=>
           refine reK trivial hK12 [5,7,8,10,12,14,20,22,23,24,25] [] ?_;refine AW_re (tyOf_good _) fun K' hK'=>?_;(repeat (refine sxn fun K2 hK2=>?_;simp;(repeat (refine ⟨by omega,?_⟩));refine hK2 _ ?_;clear hK2 K2));refine sxz (hK' _ ?_);clear hK' K';(try simp only [thn,inb]);refine Again.mk (i+1) (by omega) (by omega) ?_;rw [hone];refine Imp.to' (fun _ _=>trivial) (by simp) (by simp)
          | false=>
           have qf:=(Aq @kN (Aq @hNk (Aq @hiR (Aq @hu (Aq @huF @huv)))))
           refine reKv hK12 [5,7,8,10,12,14,20,22,23,24,25] [] ?_;refine AW_re (tyOf_good _) fun K' hK'=>?_;(repeat (refine sxn fun K2 hK2=>?_;simp;(repeat (refine ⟨by omega,?_⟩));refine hK2 _ ?_;clear hK2 K2));refine sxz (hK' _ ?_);clear hK' K';(try simp only [thn,inb]);refine Again.mk (i+1) (by omega) (by omega) ?_;rw [hone];refine Imp.to' (fun _ _=>trivial) (by simp) (by simp)
         ·obtain rfl:i=NI:=by omega
          rw [honl];refine AW_exit (hK10 _ ?_)
          cases fv with
          | true=>
           have qf:=(Aq @kF @hfv)
           refine rgqv [5,7,8,10,12,14,20,22,23,246] [] ?_;refine AW_ff rfl ?_;refine AW_skip (hK8 _ ?_);refine AW_re (tyOf_good _) fun K' hK'=>?_;(repeat (refine sxn fun K2 hK2=>?_;simp;(repeat (refine ⟨by omega,?_⟩));refine hK2 _ ?_;clear hK2 K2));refine sxz (hK' _ ?_);clear hK' K';(try simp only [thn,inb]);refine Again.mk (k+1) (by omega) (by omega) ?_;refine Imp.to' (fun _ _=>trivial) (by simp) (by simp)
          | false=>
           rw [hf2 rfl]
           have qf:=(Aq @kF @hfv)
           refine rgqv [5,7,8,10,12,14,20,22,23,246] [] ?_;refine AW_ff rfl ?_;refine AW_skip (hK8 _ ?_);refine AW_re (tyOf_good _) fun K' hK'=>?_;(repeat (refine sxn fun K2 hK2=>?_;simp;(repeat (refine ⟨by omega,?_⟩));refine hK2 _ ?_;clear hK2 K2));refine sxz (hK' _ ?_);clear hK' K';(try simp only [thn,inb]);refine Again.mk (k+1) (by omega) (by omega) ?_;refine Imp.to' (fun _ _=>trivial) (by simp) (by simp)
       rw [havk] at tl2;generalize av k=a at *
       cases a with
       | false=>
        (repeat (refine sxn fun K2 hK2=>?_;simp;(repeat (refine ⟨by omega,?_⟩));refine hK2 _ ?_;clear hK2 K2));refine sxz (tl2 _ ?_);simp [St.norm,liveL,liveR]
       | true=>
        by_cases hneg:fa < 0
        ·(repeat (refine sxn fun K2 hK2=>?_;simp [kA,hfa,hneg];(repeat (refine ⟨by omega,?_⟩));refine hK2 _ ?_;clear hK2 K2));refine sxz (tl2 _ ?_);simp [St.norm,liveL,liveR,hneg]
        ·(repeat (refine sxn fun K2 hK2=>?_;simp [kA,hfa,hneg,kI,hiv];(repeat (refine ⟨by omega,?_⟩));refine hK2 _ ?_;clear hK2 K2));refine sxz (tl2 _ ?_);simp [St.norm,liveL,liveR,hneg]
      have h4:(sv=true∧fv=false∧iv=true)∨(sv=false∧fv=false∧iv=true)∨(sv=false∧fv=true∧iv=true)∨(sv=false∧fv=true∧iv=false):=by
       exact four_b hfc2 hb2
      rcases h4 with ⟨rfl,rfl,rfl⟩ | ⟨rfl,rfl,rfl⟩ | ⟨rfl,rfl,rfl⟩ | ⟨rfl,rfl,rfl⟩
      ·simp only [Bool.not_true,Bool.not_false] at vO vC
       have qf:=(Aq @kI (Aq @kO (Aq @kS (Aq @kC (Aq @kF (Aq @vO (Aq @vC (Aq @hsv @hfv))))))))
       refine rdqv [5,7,8,10,12,14,20,22,23,193] [] ?_;refine AW_ff rfl ?_;exact AW_skip tl
      ·simp only [Bool.not_true,Bool.not_false] at vO vC
       have qf:=(Aq @kI (Aq @kO (Aq @kS (Aq @kC (Aq @kF (Aq @vO (Aq @vC (Aq @hsv @hfv))))))))
       refine rdqv [5,7,8,10,12,14,20,22,23,193] [] ?_;refine AW_ff rfl ?_;exact AW_skip tl
      ·simp only [Bool.not_true,Bool.not_false] at vO vC
       have qf:=(Aq @kI (Aq @kO (Aq @kS (Aq @kC (Aq @kF (Aq @vO (Aq @vC (Aq @hsv @hfv))))))))
       refine rdqv [5,7,8,10,12,14,20,22,23,193] [] ?_;refine AW_ff rfl ?_;exact AW_skip tl
      ·simp only [Bool.not_true,Bool.not_false] at vO vC
       have qf:=(Aq @kI (Aq @kO (Aq @kS (Aq @kC (Aq @kF (Aq @vO (Aq @vC (Aq @hsv @hfv))))))))
       refine rdqv [5,7,8,10,12,14,20,22,23,193] [] ?_;refine AW_ff rfl ?_;exact AW_skip tl
     ·obtain rfl:k=s:=by omega
      refine AW_exit (hK6 _ ?_)
      have k0:0 < S.length:=by omega
      rw [getD_of k0] at hfin;rw [hfin]
      have qf:=@k0
      refine rgqv [4] [] ?_;refine AW_ret ?_;simp [D.le,D.le.go,takeMap]
end Go.Proofs.YtpboiimemmfkiaaGreatDoor
namespace Go.Proofs.YtpboiimemmfkiaaGreatDoor
open Go.Av Go.ChangeShapes Go.WideShapes Go.ChangeAt Go.RowKit
theorem law_own:ownKnob Tryz.prog.godebug=none:=by kernel_rfl
theorem law_laidOut:laidOutB Tryz.prog=true:=by kernel_rfl
section
variable {H:Type} {enc:TypeId×Value→H} {w:World} {base:Nat} {spare:Nat→Bool} {held:Bool} {X:Nat→Prop}
end
end Go.Proofs.YtpboiimemmfkiaaGreatDoor
namespace Go.Proofs.YtpboiimemmfkiaaGreatDoor
open Go.Av Go.ChangeShapes Go.WideShapes Go.ChangeAt Go.RowKit
section
variable {H:Type} {enc:TypeId×Value→H} {w:World} {base:Nat} {spare:Nat→Bool} {held:Bool} {X:Nat→Prop}
theorem reads_bool1:ReadsAs enc Tryz.prog w base spare held X 4 (fun _:Bool=>True) (fun b=>[.v (.bool b)]):=by
 intro fuel cs x h
 obtain ⟨b,rfl,_⟩:=DataW.trod_bool Tryz.underlying4 h
 exact ⟨b,trivial,.one (.v _)⟩
theorem cells_bool:Tryz.prog.cellsOf 4=1:=by kernel_rfl
theorem reads_bools (hX:∀ b,¬ X b):ReadsAs enc Tryz.prog w base spare held X 67 (fun _:List Bool=>True) (fun l=>[dBl l]):=by
 intro fuel cs x h
 obtain ⟨l,_,hr⟩:=reads_slice Tryz.underlying67 cells_bool (by omega) hX reads_bool1 fuel cs x h
 exact ⟨l,trivial,hr⟩
end
end Go.Proofs.YtpboiimemmfkiaaGreatDoor
