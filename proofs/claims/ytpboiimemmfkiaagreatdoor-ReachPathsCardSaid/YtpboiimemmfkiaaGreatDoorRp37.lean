/-
  Texts that belong together,in one file: MA3,RF3,RX0,RF1,RF6,MA4,RF4,RX1,RF5,RK1,RF7,RK2,R1.
-/
import Derived.Test.YtpboiimemmfkiaaGreatDoorRp36
set_option linter.unusedSimpArgs false
set_option linter.unusedVariables false
namespace Go.Proofs.YtpboiimemmfkiaaGreatDoor
open Go.Av
def inN (p:PgP):Nat:=2 ^ (inputP p).length
def dMc (p:PgP):D:=dMa p (prodP (partsP p)) ((inN p:Nat):Int) (nxD (nextP p))
def edE (l:List Int):List (Value×D):=l.foldl (fun E k=>entPut (.int .i64 k) (.v (.bool true)) E) []
theorem edE_snoc (l:List Int) (k:Int):edE (l ++ [k])=entPut (.int .i64 k) (.v (.bool true)) (edE l):=by simp [edE]
theorem keyEq_int (a b:Int):keyEq (.int .i64 a) (.int .i64 b)=decide (a=b):=by
 by_cases h:a=b
 ·subst h;simp [keyEq]
 ·simp [keyEq,h]
theorem entPut_key {k:Value} {x:D}:∀ {l:List (Value×D)},(∀ p∈l,keyOk (.int .i64) p.1=true)→keyOk (.int .i64) k=true→∀ p∈entPut k x l,keyOk (.int .i64) p.1=true
 | [],_,hk,p,hp=>by
  rw [entPut_nil,List.mem_singleton] at hp;subst hp;exact hk
 | q :: l,hl,hk,p,hp=>by
  rw [entPut_cons] at hp
  split at hp
  ·rcases List.mem_cons.1 hp with rfl | hp
   ·exact hk
   ·exact hl p (by simp [hp])
  ·rcases List.mem_cons.1 hp with rfl | hp
   ·exact hl _ (by simp)
   ·exact entPut_key (fun p hp=>hl p (by simp [hp])) hk p hp
theorem edE_get (i:Int) (l:List Int):(∀ p∈edE l,keyOk (.int .i64) p.1=true)∧entGet (.int .i64 i) (edE l)=if i∈l then some (.v (.bool true)) else none:=by
 suffices h:∀ (n:Nat) (l:List Int),l.length=n→(∀ p∈edE l,keyOk (.int .i64) p.1=true)∧entGet (.int .i64 i) (edE l)=if i∈l then some (.v (.bool true)) else none from h _ l rfl
 intro n
 induction n with
 | zero=>
  intro l h
  obtain rfl:=List.eq_nil_of_length_eq_zero h
  exact ⟨by simp [edE],rfl⟩
 | succ n ih=>
  intro l h
  have hne:l≠[]:=fun e=>by subst e;cases h
  obtain ⟨l',k,rfl⟩:∃ l' k,l=l' ++ [k]:=⟨l.dropLast,l.getLast hne,(List.dropLast_concat_getLast hne).symm⟩
  obtain ⟨h1,h2⟩:=ih l' (by simpa using h)
  rw [edE_snoc];refine ⟨entPut_key h1 rfl,?_⟩;rw [entGet_put (d:=.int .i64) rfl rfl _ h1,h2,keyEq_int]
  by_cases e:i=k
  ·subst e;simp
  ·simp [e]
def madeP (t:Tx) (most:Int):Option PgP:=match readP t with
 | none=>none
 | some p=>if 4 < (inputP p).length∨most < prodP (partsP p) then none else some p
def dMade:Option PgP→D
 | none=>.tup [.v (.pointer none),.v (.bool false)]
 | some p=>.tup [dMc p,.v (.bool true)]
theorem madeP_some {t:Tx} {most:Int} {p:PgP} (h:madeP t most=some p):checkP p=none∧(∀ r∈p.rungs,CondOk r)∧(inputP p).length≤4∧prodP (partsP p)≤most:=by
 unfold madeP at h
 split at h
 ·cases h
 ·rename_i q hq
  split at h
  ·cases h
  ·rename_i hn
   obtain rfl:=Option.some.inj h
   obtain ⟨h1,h2⟩:=parse_ok (readP_some hq)
   exact ⟨h1,h2,by omega,by omega⟩
theorem prodN_mono {p:PgP} (hg:GoodP p):∀ {k:Nat},k≤p.names.length→prodP (partsN p k)≤prodP (partsP p):=fun {k} hk=>by
 have h:∀ d,k+d≤p.names.length→prodP (partsN p k)≤prodP (partsN p (k+d)):=by
  intro d
  induction d with
  | zero=>intro _;exact Int.le_refl _
  | succ d ih=>
   intro hd
   have h1:=ih (by omega)
   have hm:∀ x∈partsN p (k+d+1),2≤x.most:=fun x hx=>by
    obtain ⟨i,hi,_,h2⟩:=(partsN_mem (by omega)).1 hx
    exact (parts_good hg ((partsN_mem (Nat.le_refl _)).2 ⟨i,hi,hi,h2⟩)).m2
   have e:partsN p (k+d+1)=partsN p (k+d) ++ partOf p.names[k+d] (edB p p.names[k+d]) (k+d):=partsN_succ (by omega)
   have h3:=prodP_mono hm (partsN p (k+d)).length
   rw [e,List.take_left] at h3;rw [← Nat.add_assoc,e]
   omega
 have:=h (p.names.length - k) (by omega)
 rw [show k+(p.names.length - k)=p.names.length from by omega] at this;exact this
theorem wed_mem {p:PgP} {k:Nat} (hk:k < p.names.length):((k:Int)∈wedN p p.names.length)↔edB p p.names[k]=true:=by
 rw [wedN_mem (Nat.le_refl _)]
 constructor
 ·rintro ⟨i,hi,_,he,ha⟩
  obtain rfl:k=i:=by omega
  exact ha
 ·intro ha
  exact ⟨k,hk,hk,rfl,ha⟩
set_option maxRecDepth 100000 in
set_option maxHeartbeats 16000000 in
theorem made_spec (G:Glob) (hM:HasMax G) (hP:HasP10 G) (hG:HasErr G) {es er:Value} (hE:HasNE G es er) (t:Tx) (most:Int) (h1:1≤most) (h2:most≤4096):PureC Tryz.prog G 24 [dS t,dNum most] (dMade (madeP t most)):=by
 have hrd:=kread_spec G hM hP hG hE t
 unfold madeP;simp only [dS] at hrd ⊢
 cases hre:readP t with
 | none=>
  rw [hre] at hrd;simp only [dRd,dPg0,dNum,dMade] at hrd ⊢;refine PureC.of_body (tyOf_good _) Tryz.func24 rfl rfl (rs:=[.tmp 4,.tmp 5]) Tryz.results24 (by simp [Tryz.ntmps24]) fun X=>?_;simp only [Tryz.ntmps24,List.map]
  have fw:=@dNum.eq_1
  refine rgq fw [0,1] [] ?_;refine rgc fw hrd [1,6,7] [6] ?_;refine AW_then fun K1 hK1=>?_;refine rgq fw [1,6,28] [6] ?_;refine AW_tt rfl ?_;refine rgq fw [4,5] [6] ?_;refine AW_ret ?_;simp [D.le,D.le.go,takeMap,dNum]
 | some p=>
  rw [hre] at hrd
  obtain ⟨hck,hk⟩:=parse_ok (readP_some hre)
  have hg:=checkP_good hck
  have hnm:=hg.names
  have hkd:=lkind_spec G p (by omega) 1
  have hkI:kindN p.names 1 p.names.length=inputP p:=rfl
  rw [hkI] at hkd
  have hIl:((inputP p).map fun x=>[D.v (.int .i64 x)]).length=(inputP p).length:=by simp
  by_cases h4:4 < (inputP p).length
  ·simp only [h4,true_or,if_true]
   have h4':((inputP p).length:Int) > 4:=by omega
   simp only [dRd,dPg,cPg,dNms,dRgs,dNum,dMade] at hrd hkd ⊢;generalize ((inputP p).map fun x=>[D.v (.int .i64 x)])=IN at *;generalize p.names.map cNm=NN at *;generalize p.rungs.map cRg=RR at *
   have h4'':(IN.length:Int) > 4:=by omega
   refine PureC.of_body (tyOf_good _) Tryz.func24 rfl rfl (rs:=[.tmp 4,.tmp 5]) Tryz.results24 (by simp [Tryz.ntmps24]) fun X=>?_;simp only [Tryz.ntmps24,List.map]
   have fw:=@dNum.eq_1
   refine rgq fw [0,1] [] ?_;refine rgc fw hrd [1,6,7] [6] ?_;refine AW.imp (Imp.freezeB 6 trivial) ?_;refine AW.st (by simp [dNum];rfl) ?_;refine AW_then fun K1 hK1=>?_
   have qf:=(Aq fw @h4'')
   refine rgcv hkd [1,6,28] [] ?_;refine AW_cond true (by simp<;>omega) (fun _=>?_) (fun h=>by cases h);refine rgq fw [4,5] [] ?_;refine AW_ret ?_;simp [D.le,D.le.go,takeMap,dNum]
  ·simp only [h4,false_or]
   have hof:prodP (partsP p)≤most→PureC Tryz.prog G 37 [dPg p] (.tup [dMc p,.v .nilIface]):=fun h=>mof_good G p hck hk (by omega) (by omega)
   have hed:=ledges_spec G p (by omega) (by have:=hg.rungs;omega) (fun r hr=>by
    obtain ⟨e,he,_,_,hb⟩:=hk r hr
    exact ⟨e,he,by omega⟩)
   rw [edges_same hck] at hed
   have hwl:=wedN_len p p.names.length
   have hwm:=fun k (h:k < p.names.length)=>wed_mem (p:=p) h
   generalize wedN p p.names.length=E at *
   have hPs:∀ k (h:k < p.names.length),prodP (partsN p (k+1))=prodP (partsN p k) * prodP (partOf p.names[k] (edB p p.names[k]) k):=fun k h=>by rw [partsN_succ h,prodP_append]
   have hP0:prodP (partsN p 0)=1:=rfl
   have hPe:prodP (partsN p p.names.length)=prodP (partsP p):=rfl
   have hPm:=fun k (h:k≤p.names.length)=>prodN_mono hg h
   have hPp:∀ k,k≤p.names.length→0 < prodP (partsN p k):=fun k h=>prodP_pos fun x hx=>by
    obtain ⟨i,hi,_,h2⟩:=(partsN_mem h).1 hx
    exact (parts_good hg ((partsN_mem (Nat.le_refl _)).2 ⟨i,hi,hi,h2⟩)).m2
   generalize prodP (partsP p)=PP at *
   obtain ⟨PN,hPN⟩:∃ PN:Nat→Int,∀ k,prodP (partsN p k)=PN k:=⟨_,fun _=>rfl⟩
   simp only [hPN] at hPs hP0 hPe hPm hPp;clear hPN
   have hcnt:=hg.count
   have hkn:=hg.name
   have hdMc:∃ c,dMc p = .ip c:=⟨_,rfl⟩
   obtain ⟨MC,hMC⟩:=hdMc
   simp only [hMC] at hof
   have hres:(most < PP∧dMade (if most < PP then none else some p)=D.tup [.v (.pointer none),.v (.bool false)])∨(¬ most < PP∧dMade (if most < PP then none else some p)=D.tup [.ip MC,.v (.bool true)]):=by
    by_cases hb:most < PP
    ·exact .inl ⟨hb,by rw [if_pos hb];rfl⟩
    ·exact .inr ⟨hb,by rw [if_neg hb];simp only [dMade,hMC]⟩
   generalize hRES:dMade (if most < PP then none else some p)=RES at hres ⊢;clear hRES;simp only [dRd,dPg,cPg,dNms,dRgs,dNum] at hrd hkd hof hed ⊢;generalize ((inputP p).map fun x=>[D.v (.int .i64 x)])=IN at *
   have hNl:(p.names.map cNm).length=p.names.length:=by simp
   have hNg:∀ i (h:i < p.names.length),(p.names.map cNm)[i]? = some [.v (.string (bs p.names[i].name)),.v (.int .i64 p.names[i].kind),.v (.int .i64 p.names[i].count)]:=fun i h=>by simp [h,cNm,dS]
   generalize p.names.map cNm=NN at *;generalize p.rungs.map cRg=RR at *
   have hEl:(E.map fun x=>[D.v (.int .i64 x)]).length=E.length:=by simp
   have h4'':¬ (IN.length:Int) > 4:=by omega
   refine PureC.of_body (tyOf_good _) Tryz.func24 rfl rfl (rs:=[.tmp 4,.tmp 5]) Tryz.results24 (by simp [Tryz.ntmps24]) fun X=>?_;simp only [Tryz.ntmps24,List.map]
   have fw:=@dNum.eq_1
   refine rgq fw [0,1] [] ?_;refine rgc fw hrd [1,6,7] [6] ?_;refine AW.imp (Imp.freezeB 6 trivial) ?_;refine AW.st (by simp [dNum];rfl) ?_;refine AW_then fun K1 hK1=>?_
   have qf:=(Aq fw @h4'')
   refine rgcv hkd [1,6,28] [] ?_;refine AW_cond false (by simp<;>omega) (fun h=>by cases h) (fun _=>?_);refine AW_skip (hK1 _ ?_);refine rgq fw [1,6,8] [] ?_;refine rgq fw [1,6,8,9] [29] ?_;refine AW_then fun K2 hK2=>?_;refine rgc fw hed [1,6,8,9,10,11] [29] ?_;refine AW_for (S:=Nat) (fun j=>j≤E.length) (fun j=>⟨lst [(1,int most),(6,.d (.ip [.sl none NN,.sl none RR])),(8,int 1),(9,.mp 29),(10,int j),(11,.d (.sl none (E.map fun x=>[.v (.int .i64 x)])))],hlst [(29,.mp 181 (edE (E.take j)))]⟩) (fun j=>E.length - j) 0 ?_ (by omega) ?_
   ·refine Imp.to' (fun _ _=>trivial) (by simp [dNum,edE]) (by simp [dNum,edE])
   ·intro j hj
    refine AW_then fun K3 hK3=>?_
    by_cases hlt:j < E.length
    ·have hsn:edE (E.take (j+1))=entPut (.int .i64 E[j]) (.v (.bool true)) (edE (E.take j)):=by rw [List.take_succ_eq_append_getElem hlt,edE_snoc]
     have hkA:=(edE_get 0 (E.take j)).1
     have hkB:=hkA
     simp at hkB
     have hk1:=eq_true hkB
     have qf:=(Aq fw @hlt)
     refine rgqv [1,6,8,9,10,11,35] [29] ?_;refine AW_cond true (by simp [hlt]) (fun _=>?_) (fun h=>by cases h);refine AW_skip (hK3 _ ?_);refine AW_then fun K4 hK4=>?_;refine AW_block ?_
     have qf:=(Aq fw (Aq @hlt (Aq @ofOk.eq_1 (Aq @zeroM.eq_1 (Aq @zeroM.eq_2 @hk1)))))
     refine reKv hK4 [1,6,8,9,10,11] [29] ?_;refine AW_re (tyOf_good _) fun K' hK'=>?_;(repeat (refine sxn fun K2 hK2=>?_;simp [dNum];(repeat (refine ⟨by omega,?_⟩));refine hK2 _ ?_;clear hK2 K2));refine sxz (hK' _ ?_);clear hK' K';(try simp only [thn,inb]);refine Again.mk (j+1) (by omega) (by omega) ?_;rw [hsn];refine Imp.to' (fun _ _=>trivial) (by simp [dNum]) (by simp [dNum])
    ·obtain rfl:j=E.length:=by omega
     refine rgq fw [1,6,8,9,10,11,35] [29] ?_;refine AW_cond false (by simp) (fun h=>by cases h) (fun _=>?_);refine AW_exit (hK2 _ ?_)
     try rw [List.take_of_length_le (Nat.le_refl _)]
     have hlk:∀ k (h:k < p.names.length),entGet (.int .i64 (k:Int)) (edE E)=if edB p p.names[k]=true then some (.v (.bool true)) else none:=fun k h=>by
      rw [(edE_get (k:Int) E).2];simp only [hwm k h]
     have hkA:=(edE_get 0 E).1
     generalize edE E=EE at hlk hkA ⊢
     have hkB:=hkA
     simp at hkB
     have hk1:=eq_true hkB
     refine AW_then fun K5 hK5=>?_;refine rgq fw [1,6,8,9,12] [29] ?_;refine AW_for (S:=Nat) (fun k=>k≤p.names.length) (fun k=>⟨lst [(1,int most),(6,.d (.ip [.sl none NN,.sl none RR])),(8,int (PN k)),(9,.mp 29),(12,int k)],hlst [(29,.mp 181 EE)]⟩) (fun k=>p.names.length - k) 0 ?_ (by omega) ?_
     ·refine Imp.to' (fun _ _=>trivial) (by simp [dNum,hP0]) (by simp [dNum,hP0])
     ·intro k hkk
      have hPs2:=hPs k
      have hPm2:=hPm k hkk
      have hPp2:=hPp k hkk
      generalize hnv:PN k=n at hPs2 hPm2 hPp2 ⊢;refine AW_then fun K6 hK6=>?_
      by_cases hgo:k < p.names.length∧n≤most
      ·obtain ⟨hlt,hle⟩:=hgo
       have hlt2:k < NN.length:=by omega
       have hlt3:(k:Int) < (NN.length:Int):=by omega
       have qf:=(Aq fw (Aq @hlt3 @hle))
       refine rgqv [1,6,8,9,12,52] [29] ?_;refine AW_cond true (by simp [hlt2,hle]) (fun _=>?_) (fun h=>by cases h);refine AW_skip (hK6 _ ?_);refine AW_then fun K7 hK7=>?_;refine AW_block ?_
       have hlk2:=hlk k hlt
       have hPs3:=hPs2 hlt
       have hcn:=hcnt _ (List.getElem_mem hlt)
       have hkd2:=hkn _ (List.getElem_mem hlt)
       have hNk:NN[k]=[.v (.string (bs p.names[k].name)),.v (.int .i64 p.names[k].kind),.v (.int .i64 p.names[k].count)]:=by
        have:=hNg k hlt
        rw [List.getElem?_eq_getElem hlt2] at this;exact Option.some.inj this
       generalize edB p p.names[k]=ev at *;unfold partOf at hPs3;generalize hnk:p.names[k]=nk at hPs3 hNk hcn hkd2
       obtain ⟨nm,kd,ct⟩:=nk
       dsimp only at hPs3 hNk hcn hkd2
       have qf:=(Aq fw (Aq @hlt2 @hNk))
       refine rgqv [1,6,8,9,12,13] [29,13] ?_;refine AW.imp (Imp.freezeB 13 trivial) ?_;refine AW.st (by simp [dNum];rfl) ?_;refine AW_block ?_
       by_cases k2:kd=2
       ·subst k2;rw [if_pos (.inl rfl)] at hPs3;simp only [prodP,Int.mul_one] at hPs3;refine rgq fw [1,6,8,9,12,13,60] [29] ?_;refine AW_tt rfl ?_;refine reK fw hK7 [1,6,8,9,12] [29] ?_;refine AW_re (tyOf_good _) fun K' hK'=>?_;(repeat (refine sxn fun K2 hK2=>?_;simp [dNum];(repeat (refine ⟨by omega,?_⟩));refine hK2 _ ?_;clear hK2 K2));refine sxz (hK' _ ?_);clear hK' K';(try simp only [thn,inb]);refine Again.mk (k+1) (by omega) (by omega) ?_;rw [hPs3];refine Imp.to' (fun _ _=>trivial) (by simp [dNum]) (by simp [dNum])
       ·by_cases k1:kd=1
        ·subst k1
         cases ev with
         | true=>
          rw [if_pos (.inr ⟨rfl,rfl⟩)] at hPs3;simp only [prodP,Int.mul_one] at hPs3;simp only [if_true] at hlk2
          have qf:=(Aq fw (Aq @hlk2 (Aq @ofOk.eq_1 (Aq @zeroM.eq_1 (Aq @zeroM.eq_2 @hk1)))))
          refine rgqv [1,6,8,9,12,13,60] [29] ?_;refine AW_tt rfl ?_;refine reK fw hK7 [1,6,8,9,12] [29] ?_;refine AW_re (tyOf_good _) fun K' hK'=>?_;(repeat (refine sxn fun K2 hK2=>?_;simp [dNum];(repeat (refine ⟨by omega,?_⟩));refine hK2 _ ?_;clear hK2 K2));refine sxz (hK' _ ?_);clear hK' K';(try simp only [thn,inb]);refine Again.mk (k+1) (by omega) (by omega) ?_;rw [hPs3];refine Imp.to' (fun _ _=>trivial) (by simp [dNum]) (by simp [dNum])
         | false=>
          rw [if_neg (by simp),if_neg (by simp)] at hPs3;simp only [prodP,Int.mul_one] at hPs3;simp only [Bool.false_eq_true,if_false] at hlk2
          have qf:=(Aq fw (Aq @hlk2 (Aq @ofOk.eq_1 (Aq @zeroM.eq_1 (Aq @zeroM.eq_2 @hk1)))))
          refine rgqv [1,6,8,9,12,13,60] [29] ?_;refine AW_ff rfl ?_;refine rgq fw [1,6,8,9,12,13,76] [29] ?_;refine AW_ff rfl ?_;refine AW_skip ?_;refine hK7 _ (AW.norm [1,6,8,9,12] [29] (fun _ _=>trivial) (AW.st (by simp [dNum];rfl) ?_));refine AW_re (tyOf_good _) fun K' hK'=>?_;(repeat (refine sxn fun K2 hK2=>?_;simp [dNum];(repeat (refine ⟨by omega,?_⟩));refine hK2 _ ?_;clear hK2 K2));refine sxz (hK' _ ?_);clear hK' K';(try simp only [thn,inb]);refine Again.mk (k+1) (by omega) (by omega) ?_;rw [hPs3];refine Imp.to' (fun _ _=>trivial) (by simp [dNum]) (by simp [dNum])
        ·rw [if_neg (by simp [k1,k2]),if_pos k1] at hPs3;simp only [prodP,Int.mul_one] at hPs3
         have hb1:n * (ct+1)≤4096 * 8:=Int.mul_le_mul (by omega) (by omega) (by omega) (by omega)
         have hb0:0≤n * (ct+1):=Int.mul_nonneg (by omega) (by omega)
         have qf:=(Aq fw (Aq @k1 @k2))
         refine rgqv [1,6,8,9,12,13,60] [29] ?_;refine AW_cond false (by simp [k1,k2]) (fun h=>by cases h) (fun _=>?_)
         have qf:=(Aq fw @k1)
         refine rgqv [1,6,8,9,12,13,76] [29] ?_;refine AW_cond true (by simp [k1]) (fun _=>?_) (fun h=>by cases h);refine reK fw hK7 [1,6,8,9,12] [29] ?_;refine AW_re (tyOf_good _) fun K' hK'=>?_;(repeat (refine sxn fun K2 hK2=>?_;simp [dNum];(repeat (refine ⟨by omega,?_⟩));refine hK2 _ ?_;clear hK2 K2));refine sxz (hK' _ ?_);clear hK' K';(try simp only [thn,inb]);refine Again.mk (k+1) (by omega) (by omega) ?_;rw [hPs3];refine Imp.to' (fun _ _=>trivial) (by simp [dNum]) (by simp [dNum])
      ·rcases hres with ⟨hb,hR⟩ | ⟨hb,hR⟩
       ·have hgt:n > most:=by
         by_cases hlt:k < p.names.length
         ·exact Classical.byContradiction fun hn=>hgo ⟨hlt,by omega⟩
         ·obtain rfl:k=p.names.length:=by omega
          omega
        subst hR
        have hngo:¬ n≤most:=by omega
        by_cases hlt:k < p.names.length
        ·have hlt3:(k:Int) < (NN.length:Int):=by omega
         have qf:=(Aq fw (Aq @hlt3 @hngo))
         refine rgqv [1,6,8,9,12,52] [29] ?_;refine AW_cond false (by simp<;>omega) (fun h=>by cases h) (fun _=>?_);refine AW_exit (hK5 _ ?_);refine AW_then fun K8 hK8=>?_
         have qf:=(Aq fw @hgt)
         refine rgqv [6,87] [29] ?_;refine AW_cond true (by simp<;>omega) (fun _=>?_) (fun h=>by cases h);refine rgq fw [4,5] [29] ?_;refine AW_ret ?_;simp [D.le,D.le.go,takeMap,dNum]
        ·have hlt3:¬ (k:Int) < (NN.length:Int):=by omega
         have qf:=(Aq fw @hlt3)
         refine rgqv [1,6,8,9,12,52] [29] ?_;refine AW_cond false (by simp<;>omega) (fun h=>by cases h) (fun _=>?_);refine AW_exit (hK5 _ ?_);refine AW_then fun K8 hK8=>?_
         have qf:=(Aq fw @hgt)
         refine rgqv [6,87] [29] ?_;refine AW_cond true (by simp<;>omega) (fun _=>?_) (fun h=>by cases h);refine rgq fw [4,5] [29] ?_;refine AW_ret ?_;simp [D.le,D.le.go,takeMap,dNum]
       ·have hng:¬ n > most:=by omega
        have hof2:=hof (by omega)
        subst hR
        have hlt3:¬ (k:Int) < (NN.length:Int):=fun h=>hgo ⟨by omega,by omega⟩
        have qf:=(Aq fw @hlt3)
        refine rgqv [1,6,8,9,12,52] [29] ?_;refine AW_cond false (by simp<;>omega) (fun h=>by cases h) (fun _=>?_);refine AW_exit (hK5 _ ?_);refine AW_then fun K8 hK8=>?_
        have qf:=(Aq fw @hng)
        refine rgqv [6,87] [29] ?_;refine AW_cond false (by simp<;>omega) (fun h=>by cases h) (fun _=>?_);refine AW_skip (hK8 _ ?_);refine rgc fw hof2 [14,15] [29] ?_;refine rgq fw [4,5] [29] ?_;refine AW_ret ?_;simp [D.le,D.le.go,takeMap,dNum,D.le_refl,D.leGo_refl]
end Go.Proofs.YtpboiimemmfkiaaGreatDoor
namespace Go.Proofs.YtpboiimemmfkiaaGreatDoor
open Go.Av
def tdA:List Int→Nat→AV
 | [],_=>.d (.sl none [])
 | _ :: T,m=>.own 20 m (T.length+1)
set_option maxRecDepth 100000 in
set_option maxHeartbeats 16000000 in
theorem far_spec (G:Glob) (p:PgP) (hck:checkP p=none) (hi6:(inputP p).length≤6) (hP:prodP (partsP p)≤4096):PureC Tryz.prog G 50 [dMc p] (.tup [dIl (farN (nextP p)),.v .nilIface]):=by
 have ht:=tab_next hck
 have hpos:=ht.pos
 have hlen:=nextP_len p
 have hpp:0 < prodP (partsP p):=prodP_pos fun x hx=>(parts_good (checkP_good hck) hx).m2
 have hfin:∀ O,Bfs (nextP p) O []→O=farN (nextP p):=fun O h=>far_unique (bfs_end h) (farN_is ht)
 have hst:=bfs_start ht
 have hrl64:∀ s (h:s < (nextP p).length),(nextP p)[s].length≤64:=fun s h=>by
  rw [nextP_at h,rowP_len]
  have:=Nat.pow_le_pow_right (n:=2) (by decide) hi6
  omega
 have hNl:=nxD_len (nextP p)
 have hNg:∀ s (h:s < (nextP p).length),(nxD (nextP p))[s]? = some [dIl (nextP p)[s]]:=fun s h=>by simp [nxD,h]
 have hrep:=fun n (h1:1≤n) (h2:n≤2^20)=>repeat_mc G (-1) n h1 h2
 have hcast:((nextP p).length:Int)=prodP (partsP p):=by rw [hlen];omega
 simp only [dMc,dMa,cMa,dNms,dRgs,dPas,dIl,dNum] at hNg hrep ⊢;rw [← hcast]
 have hn12:(nextP p).length≤4096:=by omega
 generalize farN (nextP p)=F at *;generalize nxD (nextP p)=NX at *;generalize nextP p=TN at *;clear hlen hcast;generalize ((inputP p).map fun n=>[D.v (.int .i64 n)])=IN at *;generalize (partsP p).map cPa=PT at *;generalize p.names.map cNm=NN at *;generalize p.rungs.map cRg=RR at *
 obtain ⟨N,hN⟩:∃ N:Nat,TN.length=N:=⟨_,rfl⟩
 rw [hN] at hNl hn12 hpos hst ⊢
 have hrp:=hrep N (by omega) (by omega)
 have hpos2:0 < N:=by omega
 refine PureC.of_body (tyOf_good _) Tryz.func50 rfl rfl (rs:=[.tmp 2,.tmp 3]) Tryz.results50 (by simp [Tryz.ntmps50]) fun X=>?_;simp only [Tryz.ntmps50,List.map]
 have fw:=@dNum.eq_1
 refine rgq fw [0] [] ?_;refine AW_then fun K1 hK1=>?_;refine rgq fw [0,10] [] ?_;refine AW_ff rfl ?_;refine AW_skip (hK1 _ ?_);refine rg [0,4] [601] (fun _ _=>trivial) fun K' hK'=>?_;(repeat (refine sxn fun K2 hK2=>?_;simp [dNum];(repeat (refine ⟨by omega,?_⟩));refine hK2 _ ?_;clear hK2 K2));refine sxn fun K2 hK2=>?_;simp [dNum];refine callK.frz 12 (by first | rfl | (simp [dNum];rfl)) trivial ?_;simp [dNum];refine callK.mc (hrp) ?_ ?_ ?_ ?_ ?_<;>simp [dNum];refine hK2 _ ?_;clear hK2 K2;(repeat (refine sxn fun K2 hK2=>?_;simp [dNum];(repeat (refine ⟨by omega,?_⟩));refine hK2 _ ?_;clear hK2 K2));refine sxz (hK' _ (AW.st (by simp [dNum];rfl) ?_));clear hK' K'
 have qf:=(Aq fw @hpos2)
 refine rgqv [0,4] [601] ?_;refine AW_then fun K2 hK2=>?_;refine rgq fw [0,4,5] [601,20] ?_;refine AW_for (S:=List Int×List Int×List (List D)) (fun s=>Bfs TN s.1 s.2.1) (fun s=>⟨lst [(0,.d (.ip [.sl none NN,.sl none RR,.v (.int .i64 N),.v (.int .i64 (inN p)),.sl none NX,.sl none PT,.sl none IN])),(4,.own 601 0 N),(5,tdA s.2.1 s.2.2.length)],hlst [(601,.sl 3 1 (s.1.map fun n=>[.v (.int .i64 n)])),(20,.sl 3 1 (s.2.2 ++ s.2.1.map fun n=>[.v (.int .i64 n)]))]⟩) (fun s=>2 * negN s.1+s.2.1.length) ((List.replicate N (-1)).set 0 0,[0],[]) ?_ hst ?_
 ·refine Imp.to' (fun _ _=>trivial) (by simp [dNum,List.map_set,List.map_replicate,tdA]) (by simp [dNum,List.map_set,List.map_replicate,tdA])
 ·rintro ⟨O,T,pr⟩ hb
  dsimp only at hb ⊢
  refine AW_then fun K3 hK3=>?_
  cases T with
  | nil=>
   simp only [tdA];refine rgq fw [0,4,5,23] [601,20] ?_;refine AW_cond false (by simp) (fun h=>by cases h) (fun _=>?_);refine AW_exit (hK2 _ ?_)
   obtain rfl:=hfin O hb
   have hOl:(O.map fun n=>[D.v (.int .i64 n)]).length=N:=by rw [List.length_map,hb.len,hN]
   refine AW.imp (Imp.freeze 601 trivial) ?_;refine AW.st (by simp [dNum,hOl,List.take_of_length_le];rfl) ?_;refine rgq fw [2,3] [20] ?_;refine AW_ret ?_;simp [D.le,D.le.go,takeMap,dNum,D.le_refl,D.leGo_refl]
  | cons t T=>
   obtain ⟨h0,h1,h2⟩:=hb.mem t (by simp)
   obtain ⟨s,rfl⟩:=Int.eq_ofNat_of_zero_le h0
   have hsN:s < N:=by omega
   have hsT:s < TN.length:=by omega
   have hgl:(T.length:Int)+1 > 0:=by omega
   simp only [tdA]
   have qf:=(Aq fw @hgl)
   refine rgqv [0,4,5,23] [601,20] ?_;refine AW_cond true (by simp<;>omega) (fun _=>?_) (fun h=>by cases h);refine AW_skip (hK3 _ ?_);refine AW_then fun K4 hK4=>?_;refine AW_block ?_
   have hXg:=hNg s hsT
   have hXl:s < NX.length:=by omega
   have hXs:NX[s]=[.sl none (TN[s].map fun n=>[.v (.int .i64 n)])]:=by
    rw [List.getElem?_eq_getElem hXl] at hXg;exact Option.some.inj hXg
   have htm:=ht.mem _ (List.getElem_mem hsT)
   have hR64:=hrl64 s hsT
   have hrow:∃ R,TN[s]=R:=⟨_,rfl⟩
   obtain ⟨R,hR⟩:=hrow
   have hrl:∀ k (h:k < R.length),(R.map fun n=>[D.v (.int .i64 n)])[k]? = some [.v (.int .i64 R[k])]:=fun k h=>by simp [h]
   have hg0:(pr ++ List.map (fun n=>[D.v (.int .i64 n)]) ((s:Int) :: T))[pr.length]? = some [.v (.int .i64 s)]:=by simp
   have hgL:(pr ++ List.map (fun n=>[D.v (.int .i64 n)]) ((s:Int) :: T)).length=pr.length+(T.length+1):=by simp
   rw [hR] at hXs htm hR64
   have hRl:(R.map fun n=>[D.v (.int .i64 n)]).length=R.length:=by simp
   have hM0:2 * negN O+T.length≤2 * negN O+T.length:=Nat.le_refl _
   generalize hM:2 * negN O+T.length=M at hM0
   have hMd:2 * negN O+((s:Int) :: T).length=M+1:=by simp;omega
   generalize hROW:pr ++ List.map (fun n=>[D.v (.int .i64 n)]) ((s:Int) :: T)=ROW at hg0 hgL ⊢
   obtain ⟨hgi,hg0⟩:=List.getElem?_eq_some_iff.1 hg0
   have qf:=(Aq fw (Aq @hgi (Aq @hg0 @hgL)))
   refine rgqv [0,4,5,6] [601,20] ?_
   have qf:=(Aq fw (Aq @hXl @hXs))
   refine rgqv [0,4,5,6,35,36,37] [601,20] ?_;subst hROW;refine AW_for (S:=Nat×List Int×List Int×List (List D)) (fun q=>q.1≤R.length∧Bfs TN q.2.1 ((s:Int) :: q.2.2.1)∧(∀ t∈R.take q.1,okT q.2.1 s t)∧2 * negN q.2.1+q.2.2.1.length≤M) (fun q=>⟨lst [(0,.d (.ip [.sl none NN,.sl none RR,.v (.int .i64 N),.v (.int .i64 (inN p)),.sl none NX,.sl none PT,.sl none IN])),(4,.own 601 0 N),(5,.own 20 q.2.2.2.length (q.2.2.1.length+1)),(6,int s),(35,.d (.sl none (R.map fun n=>[.v (.int .i64 n)]))),(36,int R.length),(37,int q.1)],hlst [(601,.sl 3 1 (q.2.1.map fun n=>[.v (.int .i64 n)])),(20,.sl 3 1 (q.2.2.2 ++ [.v (.int .i64 s)] :: q.2.2.1.map fun n=>[.v (.int .i64 n)]))]⟩) (fun q=>R.length - q.1) (0,O,T,pr) ?_ ⟨by simp,hb,by simp,by dsimp only;omega⟩ ?_
   ·refine Imp.to' (fun _ _=>trivial) (by simp [dNum]) (by simp [dNum])
   ·rintro ⟨k,O2,T2,pr2⟩ ⟨hk,hb2,hok,hms⟩
    dsimp only at hk hb2 hok hms ⊢
    have hfew:=hb2.few
    simp only [List.length_cons] at hfew
    have hT2:T2.length+1≤4096:=by omega
    have hO2l:(O2.map fun n=>[D.v (.int .i64 n)]).length=N:=by rw [List.length_map,hb2.len,hN]
    refine rgq fw [0,4,5,6,35,36,37,38] [601,20] ?_;refine AW_then fun K5 hK5=>?_;refine AW_cond' (b:=k < R.length) (by simp [D.le,D.le.go,takeMap,dNum]) (fun hc=>?_) (fun hc=>?_)
    ·refine AW_skip (hK5 _ ?_);refine AW_then fun K6 hK6=>?_;refine AW_block ?_
     obtain ⟨v0,v1⟩:=htm R[k] (List.getElem_mem hc)
     obtain ⟨u,hu⟩:=Int.eq_ofNat_of_zero_le v0
     have huN:u < N:=by omega
     have huO:u < O2.length:=by rw [hb2.len,hN];exact huN
     have hsO:s < O2.length:=by rw [hb2.len,hN];exact hsN
     have hin:(u:Int)∈TN[s]:=by rw [hR,← hu];exact List.getElem_mem hc
     have htk:R.take (k+1)=R.take k ++ [(u:Int)]:=by rw [List.take_succ_eq_append_getElem hc,hu]
     have hs0:=(hb2.mem (s:Int) (by simp)).2.2
     simp only [Int.toNat_natCast] at hs0
     have hsh:=hb2.hi s hsT
     have htp:=hb2.top _ rfl u (by omega)
     simp only [Int.toNat_natCast] at htp
     have hcnt:0≤((O2.countP fun x=>decide (x < 0):Nat):Int):=by omega
     have qf:=(Aq fw (Aq @hc @hu))
     refine rgqv [0,4,5,6,8,35,36,37] [601,20] ?_
     by_cases hneg:O2.getD u 0 < 0
     ·have hpush:=bfs_push hb2 hsT (by omega) hin hneg
      have hng:=negN_set (x:=O2.getD s 0+1) huO hneg (by omega)
      have hsu:u≠s:=fun e=>by subst e;omega
      have hok2:∀ t∈R.take (k+1),okT (O2.set u (O2.getD s 0+1)) s t:=fun t h=>by
       rw [htk] at h
       rcases List.mem_append.1 h with h | h
       ·exact okT_set (hok t h) hs0 hneg
       ·obtain rfl:=List.mem_singleton.1 h
        unfold okT;rw [Int.toNat_natCast,getD_set_same huO,getD_set_other hsu]
        omega
      rw [getD_of huO] at hneg;rw [getD_of hsO] at hpush hng hok2 hs0 hsh;generalize hov:O2[u]=ov at hneg;generalize hsv:O2[s]=sv at *
      have hdt:List.take (T2.length+1) (List.drop pr2.length (pr2 ++ [D.v (.int .i64 s)] :: T2.map fun n=>[D.v (.int .i64 n)]))=[D.v (.int .i64 s)] :: T2.map fun n=>[D.v (.int .i64 n)]:=by
       rw [List.drop_left,List.take_of_length_le (by simp)]
      have qf:=(Aq fw (Aq @huO (Aq @huN (Aq @hov @hneg))))
      refine rgqv [0,4,5,6,8,35,36,37,45] [601,20] ?_;refine AW_cond true (by simp<;>omega) (fun _=>?_) (fun h=>by cases h)
      have qf:=(Aq fw (Aq @huO (Aq @hsO (Aq @huN (Aq @hsN @hsv)))))
      refine rgqv [0,4,5,6,8,35,36,37] [601,20] ?_;refine AW_rte (tyOf_good _) fun K' hK'=>?_;(repeat (refine sxt_next fun K2 hK2=>?_;simp [dNum,hdt];(repeat (refine ⟨by omega,?_⟩));(first | refine hK2 _ ?_ | (intro pre;refine hK2 _ ?_));clear hK2 K2));refine sxt_nil (hK' _ ?_);clear hK' K';refine hK6 _ (AW.norm [0,4,5,6,35,36,37] [601,20] (fun _ _=>trivial) (AW.st (by simp [dNum,hdt];rfl) ?_));refine AW_re (tyOf_good _) fun K' hK'=>?_;(repeat (refine sxn fun K2 hK2=>?_;simp [dNum];(repeat (refine ⟨by omega,?_⟩));refine hK2 _ ?_;clear hK2 K2));refine sxz (hK' _ ?_);clear hK' K';(try simp only [thn,inb]);refine Again.mk (k+1,O2.set u (sv+1),T2 ++ [(u:Int)],pre) ⟨by dsimp only;omega,hpush,hok2,by dsimp only;rw [List.length_append];simp only [List.length_cons,List.length_nil];omega⟩ (by dsimp only;omega) ?_;refine Imp.to' (fun _ _=>trivial) (by simp [dNum,List.map_set,List.take_of_length_le]) (by simp [dNum,List.map_set,List.take_of_length_le])
     ·have hok2:∀ t∈R.take (k+1),okT O2 s t:=fun t h=>by
       rw [htk] at h
       rcases List.mem_append.1 h with h | h
       ·exact hok t h
       ·obtain rfl:=List.mem_singleton.1 h
        unfold okT;rw [Int.toNat_natCast]
        omega
      rw [getD_of huO] at hneg;generalize hov:O2[u]=ov at hneg
      have qf:=(Aq fw (Aq @huO (Aq @huN (Aq @hov @hneg))))
      refine rgqv [0,4,5,6,8,35,36,37,45] [601,20] ?_;refine AW_cond false (by simp<;>omega) (fun h=>by cases h) (fun _=>?_);refine AW_skip (hK6 _ ?_);refine AW_re (tyOf_good _) fun K' hK'=>?_;(repeat (refine sxn fun K2 hK2=>?_;simp [dNum];(repeat (refine ⟨by omega,?_⟩));refine hK2 _ ?_;clear hK2 K2));refine sxz (hK' _ ?_);clear hK' K';(try simp only [thn,inb]);refine Again.mk (k+1,O2,T2,pr2) ⟨by dsimp only;omega,hb2,hok2,hms⟩ (by dsimp only;omega) ?_;refine Imp.to' (fun _ _=>trivial) (by simp [dNum]) (by simp [dNum])
    ·obtain rfl:k=R.length:=by omega
     rw [List.take_of_length_le (Nat.le_refl _)] at hok
     have hpop:=bfs_pop hb2 hsT (by rw [hR];exact hok)
     cases T2 with
     | nil=>
      refine AW_exit (hK4 _ ?_);refine AW_re (tyOf_good _) fun K' hK'=>?_;(repeat (refine sxn fun K2 hK2=>?_;simp [dNum];(repeat (refine ⟨by omega,?_⟩));refine hK2 _ ?_;clear hK2 K2));refine sxz (hK' _ ?_);clear hK' K';(try simp only [thn,inb]);refine Again.mk (O2,[],pr2 ++ [[D.v (.int .i64 s)]]) hpop (by dsimp only;omega) ?_;refine Imp.to' (fun _ _=>trivial) (by simp [dNum,tdA]) (by simp [dNum,tdA])
     | cons u T3=>
      have hne:¬ (1:Int)=(T3.length:Int)+1+1:=by omega
      refine AW_exit (hK4 _ ?_);refine AW_re (tyOf_good _) fun K' hK'=>?_;(repeat (refine sxn fun K2 hK2=>?_;simp [dNum,hne];(repeat (refine ⟨by omega,?_⟩));refine hK2 _ ?_;clear hK2 K2));refine sxz (hK' _ ?_);clear hK' K';(try simp only [thn,inb]);refine Again.mk (O2,u :: T3,pr2 ++ [[D.v (.int .i64 s)]]) hpop (by dsimp only;omega) ?_;refine Imp.to' (fun _ _=>trivial) (by simp [dNum,tdA]) (by simp [dNum,tdA])
end Go.Proofs.YtpboiimemmfkiaaGreatDoor
namespace Go.Proofs.YtpboiimemmfkiaaGreatDoor
open Go.Av
structure LeastX (NX:List (List Int)) (kp:List Int→List Bool→Bool) (d:Bool) (B X:List Bool):Prop where
 lb:B.length=NX.length
 lx:X.length=NX.length
 base:∀ s,s < NX.length→B.getD s d = !d→X.getD s d = !d
 shut:∀ s (h:s < NX.length),X.getD s d=d→kp NX[s] X=d
 least:∀ Y:List Bool,Y.length=NX.length→(∀ s,s < NX.length→B.getD s d = !d→Y.getD s d = !d)→(∀ s (h:s < NX.length),Y.getD s d=d→kp NX[s] Y=d)→∀ s,s < NX.length→X.getD s d = !d→Y.getD s d = !d
theorem least_unique {NX:List (List Int)} {kp:List Int→List Bool→Bool} {d:Bool} {B X X':List Bool} (h:LeastX NX kp d B X) (h':LeastX NX kp d B X'):X=X':=by
 refine ext_getD (d:=d) (h.lx.trans h'.lx.symm) fun s hs=>?_;rw [h.lx] at hs
 have a:=h.least X' h'.lx h'.base h'.shut s hs
 have b:=h'.least X h.lx h.base h.shut s hs
 cases d<;>cases e1:X.getD s _<;>cases e2:X'.getD s _<;>simp_all
def MonoX (NX:List (List Int)) (kp:List Int→List Bool→Bool) (d:Bool):Prop:=∀ X Y:List Bool,X.length=NX.length→Y.length=NX.length→(∀ s,s < NX.length→X.getD s d = !d→Y.getD s d = !d)→∀ s (h:s < NX.length),kp NX[s] Y=d→kp NX[s] X=d
structure WayX (NX:List (List Int)) (kp:List Int→List Bool→Bool) (d:Bool) (B X:List Bool):Prop where
 lb:B.length=NX.length
 lx:X.length=NX.length
 base:∀ s,s < NX.length→B.getD s d = !d→X.getD s d = !d
 least:∀ Y:List Bool,Y.length=NX.length→(∀ s,s < NX.length→B.getD s d = !d→Y.getD s d = !d)→(∀ s (h:s < NX.length),Y.getD s d=d→kp NX[s] Y=d)→∀ s,s < NX.length→X.getD s d = !d→Y.getD s d = !d
theorem way_start {NX:List (List Int)} {kp:List Int→List Bool→Bool} {d:Bool} {B:List Bool} (h:B.length=NX.length):WayX NX kp d B B:=⟨h,h,fun _ _ h=>h,fun _ _ h _=>h⟩
theorem way_turn {NX:List (List Int)} {kp:List Int→List Bool→Bool} {d:Bool} {B X:List Bool} (hm:MonoX NX kp d) (h:WayX NX kp d B X) {s:Nat} (hs:s < NX.length) (hk:kp NX[s] X≠d):WayX NX kp d B (X.set s (!d)):=by
 have hl:=h.lx
 refine ⟨h.lb,by simp [hl],fun u hu hb=>?_,fun Y hY h1 h2 u hu hx=>?_⟩
 ·by_cases e:s=u
  ·subst e;exact getD_set_same (by omega)
  ·rw [getD_set_other e];exact h.base u hu hb
 ·by_cases e:s=u
  ·subst e
   have hYs:¬ Y.getD s d=d:=fun hy=>hk (hm X Y hl hY (fun v hv=>h.least Y hY h1 h2 v hv) s hs (h2 s hs hy))
   cases d<;>cases hh:Y.getD s _<;>simp_all
  ·rw [getD_set_other e] at hx;exact h.least Y hY h1 h2 u hu hx
theorem way_end {NX:List (List Int)} {kp:List Int→List Bool→Bool} {d:Bool} {B X:List Bool} (h:WayX NX kp d B X) (hs:∀ s (h:s < NX.length),X.getD s d=d→kp NX[s] X=d):LeastX NX kp d B X:=⟨h.lb,h.lx,h.base,hs,h.least⟩
def leftX (d:Bool) (X:List Bool):Nat:=X.countP fun b=>b == d
theorem left_turn {d:Bool} {X:List Bool} {s:Nat} (hs:s < X.length) (h:X.getD s d=d):leftX d (X.set s (!d))+1=leftX d X:=by
 unfold leftX;rw [List.countP_set (h:=hs)];rw [getD_of hs] at h
 have h1:0 < X.countP fun b=>b == d:=List.countP_pos_iff.2 ⟨X[s],List.getElem_mem hs,by rw [h];simp⟩
 rw [h]
 have e1:(d == d)=true:=by simp
 have e2:((!d) == d)=false:=by cases d<;>rfl
 rw [e1,e2];simp only [if_true,Bool.false_eq_true,if_false]
 omega
def allX (l:List Int) (X:List Bool):Bool:=l.all fun t=>X.getD t.toNat false
def anyX (l:List Int) (X:List Bool):Bool:=l.any fun t=>X.getD t.toNat false
theorem getD_tf {X:List Bool} {i:Nat} (h:i < X.length):X.getD i true=X.getD i false:=by rw [getD_of h,getD_of h]
theorem mono_allt {NX:List (List Int)} (ht:TabN NX):MonoX NX allX true:=fun X Y hX hY h s hs hk=>by
 unfold allX at *;rw [List.all_eq_true] at *
 intro t htt
 obtain ⟨h0,h1⟩:=ht.mem _ (List.getElem_mem hs) t htt
 have hy:=hk t htt
 have:=h t.toNat (by omega)
 rw [getD_tf (by omega),getD_tf (by omega)] at this
 cases hx:X.getD t.toNat false with
 | true=>rfl
 | false=>rw [hx] at this;have:=this rfl;rw [hy] at this;cases this
theorem least_exists {NX:List (List Int)} {kp:List Int→List Bool→Bool} {d:Bool} {B:List Bool} (hm:MonoX NX kp d) (hB:B.length=NX.length):∃ X,LeastX NX kp d B X:=by
 have h:∀ (n:Nat) (X:List Bool),WayX NX kp d B X→leftX d X≤n→∃ X,LeastX NX kp d B X:=by
  intro n
  induction n with
  | zero=>
   intro X hw hn
   refine ⟨X,way_end hw fun s hs hx=>Classical.byContradiction fun hk=>?_⟩
   have:=left_turn (by rw [hw.lx];exact hs) hx
   omega
  | succ n ih=>
   intro X hw hn
   by_cases hs:∀ s (h:s < NX.length),X.getD s d=d→kp NX[s] X=d
   ·exact ⟨X,way_end hw hs⟩
   ·obtain ⟨s,hs⟩:=Classical.not_forall.1 hs
    obtain ⟨h,hs⟩:=Classical.not_forall.1 hs
    obtain ⟨hx,hk⟩:=Classical.not_imp.1 hs
    have:=left_turn (by rw [hw.lx];exact h) hx
    exact ih _ (way_turn hm hw h hk) (by omega)
 exact h _ B (way_start hB) (Nat.le_refl _)
noncomputable def leastN (NX:List (List Int)) (kp:List Int→List Bool→Bool) (d:Bool) (B:List Bool):List Bool:=open Classical in if h:∃ X,LeastX NX kp d B X then h.choose else []
theorem leastN_is {NX:List (List Int)} {kp:List Int→List Bool→Bool} {d:Bool} {B:List Bool} (hm:MonoX NX kp d) (hB:B.length=NX.length):LeastX NX kp d B (leastN NX kp d B):=by
 unfold leastN;rw [dif_pos (least_exists hm hB)];exact (least_exists hm hB).choose_spec
end Go.Proofs.YtpboiimemmfkiaaGreatDoor
namespace Go.Proofs.YtpboiimemmfkiaaGreatDoor
open Go.Av
def rowN (NX:List (List Int)) (s:Nat):List Int:=NX.getD s []
theorem rowN_of {NX:List (List Int)} {s:Nat} (h:s < NX.length):rowN NX s=NX[s]:=getD_of h
def leftL (NX:List (List Int)) (z:Nat):Nat→List Bool
 | 0=>(List.replicate NX.length false).set z true
 | k+1=>NX.map fun l=>anyX l (leftL NX z k)
theorem leftL_len (NX:List (List Int)) (z:Nat):∀ k,(leftL NX z k).length=NX.length
 | 0=>by simp [leftL]
 | k+1=>by simp [leftL]
theorem leftL_succ {NX:List (List Int)} {z k s:Nat} (h:s < NX.length):(leftL NX z (k+1)).getD s false=anyX NX[s] (leftL NX z k):=by
 rw [getD_of (by rw [leftL_len];exact h)];simp [leftL]
def GoesN (NX:List (List Int)):Nat→Nat→Nat→Prop
 | 0,s,t=>s=t
 | k+1,s,t=>∃ u:Nat,(u:Int)∈rowN NX s∧u < NX.length∧GoesN NX k u t
theorem goes_more {NX:List (List Int)}:∀ {k s u t:Nat},GoesN NX k s u→(t:Int)∈rowN NX u→t < NX.length→GoesN NX (k+1) s t
 | 0,s,u,t,h,h1,h2=>by
  obtain rfl:s=u:=h
  exact ⟨t,h1,h2,rfl⟩
 | k+1,s,u,t,⟨v,hv,hl,hg⟩,h1,h2=>⟨v,hv,hl,goes_more hg h1 h2⟩
theorem left_iff {NX:List (List Int)} (ht:TabN NX) {z:Nat} (hz:z < NX.length):∀ {k s:Nat},s < NX.length→((leftL NX z k).getD s false=true↔GoesN NX k s z)
 | 0,s,hs=>by
  show ((List.replicate NX.length false).set z true).getD s false=true↔s=z
  by_cases e:z=s
  ·subst e;rw [getD_set_same (by simpa using hz)];simp
  ·rw [getD_set_other e,getD_rep];exact ⟨fun h=>(by cases h),fun h=>absurd h.symm e⟩
 | k+1,s,hs=>by
  rw [leftL_succ hs];unfold anyX;rw [List.any_eq_true]
  constructor
  ·rintro ⟨t,htm,h⟩
   obtain ⟨h0,h1⟩:=ht.mem _ (List.getElem_mem hs) t htm
   obtain ⟨u,rfl⟩:=Int.eq_ofNat_of_zero_le h0
   have hu:u < NX.length:=by omega
   exact ⟨u,by rw [rowN_of hs];exact htm,hu,(left_iff ht hz hu).1 (by simpa using h)⟩
  ·rintro ⟨u,hm,hu,hg⟩
   rw [rowN_of hs] at hm;exact ⟨(u:Int),hm,by simpa using (left_iff ht hz hu).2 hg⟩
theorem far_goes {NX:List (List Int)} {F:List Int} (h:IsFar NX F):∀ (d:Nat) (t:Nat),t < NX.length→F.getD t 0=d→GoesN NX d 0 t
 | 0,t,ht,e=>by
  obtain rfl:=h.one t ht (by omega)
  rfl
 | d+1,t,ht,e=>by
  obtain ⟨s,hs,h1,h2⟩:=h.back t ht (by omega)
  exact goes_more (far_goes h d s hs (by omega)) (by rw [rowN_of hs];exact h2) ht
def stepI (NX:List (List Int)) (z k s:Nat):Nat:=(idx (fun t=>(leftL NX z k).getD t.toNat false) (rowN NX s)).toNat
def wayG (NX:List (List Int)) (z:Nat):Nat→Nat→List Int
 | 0,_=>[]
 | k+1,s=>(stepI NX z k s:Int) :: wayG NX z k ((rowN NX s).getD (stepI NX z k s) 0).toNat
theorem wayG_len (NX:List (List Int)) (z:Nat):∀ k s,(wayG NX z k s).length=k
 | 0,_=>rfl
 | k+1,s=>by rw [wayG,List.length_cons,wayG_len]
theorem step_ok {NX:List (List Int)} (ht:TabN NX) {z:Nat} (hz:z < NX.length) {k s:Nat} (hs:s < NX.length) (hg:GoesN NX (k+1) s z) :
  ∃ hi:stepI NX z k s < NX[s].length,idx (fun t:Int=>(leftL NX z k).getD t.toNat false) NX[s]=(stepI NX z k s:Int)∧0≤NX[s][stepI NX z k s]∧NX[s][stepI NX z k s].toNat < NX.length∧GoesN NX k NX[s][stepI NX z k s].toNat z:=by
 obtain ⟨u,hm,hu,hg⟩:=hg
 have hx:=(left_iff ht hz hu).2 hg
 unfold stepI;rw [rowN_of hs] at hm ⊢
 have hne:¬ idx (fun t:Int=>(leftL NX z k).getD t.toNat false) NX[s] < 0:=fun h=>by
  have:=idx_neg h _ hm
  simp only [Int.toNat_natCast] at this;rw [hx] at this
  cases this
 obtain ⟨i,hi,he,hp⟩:=idx_pos hne
 have e2:(idx (fun t:Int=>(leftL NX z k).getD t.toNat false) NX[s]).toNat=i:=by rw [he];simp
 obtain ⟨h0,h1⟩:=ht.mem _ (List.getElem_mem hs) _ (List.getElem_mem hi)
 simp only [e2];exact ⟨hi,he,h0,by omega,(left_iff ht hz (by omega)).1 hp⟩
def runN (NX:List (List Int)) (s:Nat):List Int→Nat
 | []=>s
 | i :: l=>runN NX ((rowN NX s).getD i.toNat 0).toNat l
theorem way_run {NX:List (List Int)} (ht:TabN NX) {z:Nat} (hz:z < NX.length):∀ (k s:Nat),s < NX.length→GoesN NX k s z→runN NX s (wayG NX z k s)=z∧∀ j (hj:j < k),∃ t,∃ h:t < NX.length,runN NX s ((wayG NX z k s).take j)=t∧∃ i:Nat,∃ hi:i < NX[t].length,(wayG NX z k s).getD j 0=(i:Int)∧0≤NX[t][i]∧NX[t][i].toNat < NX.length∧runN NX s ((wayG NX z k s).take (j+1))=NX[t][i].toNat
 | 0,s,hs,hg=>⟨hg,fun j hj=>absurd hj (by omega)⟩
 | k+1,s,hs,hg=>by
  obtain ⟨hi,he,h0,h1,h2⟩:=step_ok ht hz hs hg
  have e:((rowN NX s).getD (stepI NX z k s) 0)=NX[s][stepI NX z k s]:=by rw [rowN_of hs,getD_of hi]
  obtain ⟨r1,r2⟩:=way_run ht hz k _ h1 h2
  rw [wayG,e];refine ⟨?_,fun j hj=>?_⟩
  ·rw [runN,Int.toNat_natCast,e];exact r1
  ·cases j with
   | zero=>
    refine ⟨s,hs,rfl,stepI NX z k s,hi,rfl,h0,h1,?_⟩;rw [List.take_succ_cons,List.take_zero,runN,Int.toNat_natCast,e]
    rfl
   | succ j=>
    obtain ⟨t,g1,g2,i,g3,g4,g5,g6,g7⟩:=r2 j (by omega)
    refine ⟨t,g1,?_,i,g3,?_,g5,g6,?_⟩
    ·rw [List.take_succ_cons,runN,Int.toNat_natCast,e];exact g2
    ·simpa using g4
    ·rw [List.take_succ_cons,runN,Int.toNat_natCast,e];exact g7
end Go.Proofs.YtpboiimemmfkiaaGreatDoor
namespace Go.Proofs.YtpboiimemmfkiaaGreatDoor
open Go.Av
structure CellsK (C:List AV) (n kk N:Nat) (L:List Bool):Prop where
 len:C.length=n
 lt:kk < n
 at':∀ h:kk < C.length,C[kk] = .d (.sl none (L.map fun b=>[.v (.bool b)]))
 tr:∀ o f:Nat→Nat→Nat→AV,o 73 0 N = .own 73 0 N→C.map (AV.tr o f)=C
 kill:∀ r,r≠73→C.map (AV.kill r)=C
set_option maxHeartbeats 4000000 in
theorem q1_mc (G:Glob) {n kk N:Nat} {C:List AV} {L:List Bool} (hC:CellsK C n kk N L) (r:List (List D)) (hn:n≤2^20) (x:Nat) (hx:x < L.length):MC Tryz.prog G [8,9,46,73] 109 [.d (.v (.int .i64 x)),.ref 8 0 0,.ref 9 0 0] (hlst [(8,.box 63 [.own 46 0 n]),(9,.box 3 [.d (.v (.int .i64 ((kk:Int)+1)))]),(46,.box 67 C),(73,.sl 4 1 r)]) (.d (.v (.bool L[x]))) (hlst [(8,.box 63 [.own 46 0 n]),(9,.box 3 [.d (.v (.int .i64 ((kk:Int)+1)))]),(46,.box 67 C),(73,.sl 4 1 r)]):=by
 have hl:=hC.len
 have hlt:=hC.lt
 have hlt2:kk < C.length:=by omega
 have ha:=hC.at' hlt2
 have htr:=hC.tr
 generalize hb:L[x]=b;refine MC.of_body (tyOf_good _) Tryz.func109 rfl rfl (rs:=[.tmp 4]) Tryz.results109 (by simp [Tryz.ntmps109]) rfl fun X=>?_;simp only [Tryz.ntmps109]
 have fw:=@htr
 refine rgq fw [0,1,2] [8,9,46,73] ?_
 have qf:=(Aq fw (Aq @hl (Aq @hlt (Aq @hlt2 (Aq @ha (Aq @hx @hb))))))
 refine rgqv [4] [8,9,46,73] ?_;refine AW_ret ?_;simp [D.le,D.le.go,takeMap,htr,htr]
set_option maxHeartbeats 4000000 in
theorem q2_mc (G:Glob) {n kk N:Nat} {C:List AV} {L:List Bool} (hC:CellsK C n kk N L) (hD:∀ o f:Nat→Nat→Nat→AV,C.map (AV.tr o f)=C) (hn:n≤2^20) (x:Nat) (hx:x < L.length):MC Tryz.prog G [8,14,46] 111 [.d (.v (.int .i64 x)),.ref 8 0 0,.ref 14 0 0] (hlst [(8,.box 63 [.own 46 0 n]),(14,.box 3 [.d (.v (.int .i64 ((kk:Int)+1)))]),(46,.box 67 C)]) (.d (.v (.bool L[x]))) (hlst [(8,.box 63 [.own 46 0 n]),(14,.box 3 [.d (.v (.int .i64 ((kk:Int)+1)))]),(46,.box 67 C)]):=by
 have hl:=hC.len
 have hlt:=hC.lt
 have hlt2:kk < C.length:=by omega
 have ha:=hC.at' hlt2
 have htr:=hD
 generalize hb:L[x]=b;refine MC.of_body (tyOf_good _) Tryz.func111 rfl rfl (rs:=[.tmp 4]) Tryz.results111 (by simp [Tryz.ntmps111]) rfl fun X=>?_;simp only [Tryz.ntmps111]
 have fw:=@htr
 refine rgq fw [0,1,2] [8,14,46] ?_
 have qf:=(Aq fw (Aq @hl (Aq @hlt (Aq @hlt2 (Aq @ha (Aq @hx @hb))))))
 refine rgqv [4] [8,14,46] ?_;refine AW_ret ?_;simp [D.le,D.le.go,takeMap,htr,htr]
set_option maxHeartbeats 4000000 in
theorem iq1_mc (G:Glob) {n kk N:Nat} {C:List AV} {L:List Bool} (hC:CellsK C n kk N L) (r:List (List D)) (hn:n≤2^20) (xs:List Int) (hx:∀ x∈xs,0≤x∧x < L.length) (hl:xs.length < 2^40):MC Tryz.prog G [8,9,46,73] 110 [.d (.sl none (xs.map fun n=>[.v (.int .i64 n)])),.fn (.func 109) [.ref 8 0 0,.ref 9 0 0]] (hlst [(8,.box 63 [.own 46 0 n]),(9,.box 3 [.d (.v (.int .i64 ((kk:Int)+1)))]),(46,.box 67 C),(73,.sl 4 1 r)]) (.d (.v (.int .i64 (idx (fun x:Int=>L.getD x.toNat false) xs)))) (hlst [(8,.box 63 [.own 46 0 n]),(9,.box 3 [.d (.v (.int .i64 ((kk:Int)+1)))]),(46,.box 67 C),(73,.sl 4 1 r)]):=by
 have hp:=fun (x:Int) (h:x∈xs)=>(show MC Tryz.prog G [8,9,46,73] 109 [.d (.v (.int .i64 x)),.ref 8 0 0,.ref 9 0 0] (hlst [(8,.box 63 [.own 46 0 n]),(9,.box 3 [.d (.v (.int .i64 ((kk:Int)+1)))]),(46,.box 67 C),(73,.sl 4 1 r)]) (.d (.v (.bool (L.getD x.toNat false)))) (hlst [(8,.box 63 [.own 46 0 n]),(9,.box 3 [.d (.v (.int .i64 ((kk:Int)+1)))]),(46,.box 67 C),(73,.sl 4 1 r)]) by
  obtain ⟨h0,h1⟩:=hx x h
  obtain ⟨u,rfl⟩:=Int.eq_ofNat_of_zero_le h0
  rw [Int.toNat_natCast,getD_of (by omega)]
  exact q1_mc G hC r hn u (by omega))
 have htr:=hC.tr
 refine MC.of_body (tyOf_good _) Tryz.func110 rfl rfl (rs:=[.tmp 4]) Tryz.results110 (by simp [Tryz.ntmps110]) rfl fun X=>?_;simp only [Tryz.ntmps110]
 have fw:=@htr
 refine rgq fw [0,1] [8,9,46,73] ?_;refine AW_then fun K1 hK1=>?_;refine rgq fw [0,1,7,8] [8,9,46,73] ?_;refine AW_for (S:=Nat) (fun n=>n≤xs.length∧∀ i (hi:i < xs.length),i < n→(L.getD xs[i].toNat false)=false) (fun n_1=>⟨lst [(0,.d (.sl none (xs.map fun n=>[.v (.int .i64 n)]))),(1,.fn (.func 109) [.ref 8 0 0,.ref 9 0 0]),(7,int xs.length),(8,int n_1)],hlst [(8,.box 63 [.own 46 0 n]),(9,.box 3 [.d (.v (.int .i64 ((kk:Int)+1)))]),(46,.box 67 C),(73,.sl 4 1 r)]⟩) (fun n=>xs.length - n) 0 ?_ (by simp) ?_
 ·refine Imp.to' (notIn_ok rfl) (by simp [htr,htr]) (by simp [htr,htr])
 ·rintro j ⟨hj,hpn⟩
  refine rgq fw [0,1,7,8,9] [8,9,46,73] ?_;refine AW_then fun K2 hK2=>?_;refine AW_cond' (b:=j < xs.length) (by simp [D.le,D.le.go,takeMap,htr]) (fun hc=>?_) (fun hc=>?_)
  ·refine AW_skip (hK2 _ ?_);refine AW_then fun K3 hK3=>?_;refine AW_block ?_
   have hp1:=hp _ (List.getElem_mem hc)
   have hit:=fun hp2=>idx_hit (p:=fun x:Int=>L.getD x.toNat false) hc hp2 fun i hi=>hpn i (by omega) hi
   generalize hbv:L.getD xs[j].toNat false=bv at hp1 hit;refine rgq fw [0,1,5,7,8] [8,9,46,73] ?_
   have qf:=(Aq fw @hc)
   refine rgmv hp1 [0,1,5,7,8,16] [8,9,46,73] ?_
   cases bv with
   | true=>
    refine AW_tt rfl ?_;rw [hit rfl];refine rgq fw [4] [8,9,46,73] ?_;refine AW_ret ?_;simp [D.le,D.le.go,takeMap,htr,htr]
   | false=>
    refine AW_ff rfl ?_;refine AW_skip (hK3 _ ?_);refine AW_re (tyOf_good _) fun K' hK'=>?_;(repeat (refine sxn fun K2 hK2=>?_;simp [htr];(repeat (refine ⟨by omega,?_⟩));refine hK2 _ ?_;clear hK2 K2));refine sxz (hK' _ ?_);clear hK' K';(try simp only [thn,inb]);refine Again.mk (j+1) ⟨by omega,fun i hi hin=>?_⟩ (by omega) ?_
    ·by_cases h:i=j
     ·subst h;exact hbv
     ·exact hpn i hi (by omega)
    refine Imp.to' (notIn_ok rfl) (by simp [htr,htr]) (by simp [htr,htr])
  ·refine AW_exit (hK1 _ ?_)
   have hmi:=idx_miss (p:=fun x:Int=>L.getD x.toNat false) (l:=xs) fun i hi=>hpn i hi (by omega)
   rw [hmi];refine rgq fw [4] [8,9,46,73] ?_;refine AW_ret ?_;simp [D.le,D.le.go,takeMap,htr,htr]
set_option maxHeartbeats 4000000 in
theorem cq1_mc (G:Glob) {n kk N:Nat} {C:List AV} {L:List Bool} (hC:CellsK C n kk N L) (r:List (List D)) (hn:n≤2^20) (xs:List Int) (hx:∀ x∈xs,0≤x∧x < L.length) (hl:xs.length < 2^40):MC Tryz.prog G [8,9,46,73] 108 [.d (.sl none (xs.map fun n=>[.v (.int .i64 n)])),.fn (.func 109) [.ref 8 0 0,.ref 9 0 0]] (hlst [(8,.box 63 [.own 46 0 n]),(9,.box 3 [.d (.v (.int .i64 ((kk:Int)+1)))]),(46,.box 67 C),(73,.sl 4 1 r)]) (.d (.v (.bool (anyX xs L)))) (hlst [(8,.box 63 [.own 46 0 n]),(9,.box 3 [.d (.v (.int .i64 ((kk:Int)+1)))]),(46,.box 67 C),(73,.sl 4 1 r)]):=by
 have hi:=iq1_mc G hC r hn xs hx hl
 have htr:=hC.tr
 have he:decide (0≤idx (fun x:Int=>L.getD x.toNat false) xs)=anyX xs L:=idx_any _ _
 rw [← he];generalize idx (fun x:Int=>L.getD x.toNat false) xs=ix at hi ⊢;generalize (xs.map fun n=>[D.v (.int .i64 n)])=XS at *;refine MC.of_body (tyOf_good _) Tryz.func108 rfl rfl (rs:=[.tmp 4]) Tryz.results108 (by simp [Tryz.ntmps108]) rfl fun X=>?_;simp only [Tryz.ntmps108]
 have fw:=@htr
 refine rgq fw [0,1] [8,9,46,73] ?_;refine rgm fw hi [4] [8,9,46,73] ?_;refine AW_ret ?_;simp [D.le,D.le.go,takeMap,htr,htr]
set_option maxHeartbeats 4000000 in
theorem iq2_mc (G:Glob) {n kk N:Nat} {C:List AV} {L:List Bool} (hC:CellsK C n kk N L) (hD:∀ o f:Nat→Nat→Nat→AV,C.map (AV.tr o f)=C) (hn:n≤2^20) (xs:List Int) (hx:∀ x∈xs,0≤x∧x < L.length) (hl:xs.length < 2^40):MC Tryz.prog G [8,14,46] 110 [.d (.sl none (xs.map fun n=>[.v (.int .i64 n)])),.fn (.func 111) [.ref 8 0 0,.ref 14 0 0]] (hlst [(8,.box 63 [.own 46 0 n]),(14,.box 3 [.d (.v (.int .i64 ((kk:Int)+1)))]),(46,.box 67 C)]) (.d (.v (.int .i64 (idx (fun x:Int=>L.getD x.toNat false) xs)))) (hlst [(8,.box 63 [.own 46 0 n]),(14,.box 3 [.d (.v (.int .i64 ((kk:Int)+1)))]),(46,.box 67 C)]):=by
 have hp:=fun (x:Int) (h:x∈xs)=>(show MC Tryz.prog G [8,14,46] 111 [.d (.v (.int .i64 x)),.ref 8 0 0,.ref 14 0 0] (hlst [(8,.box 63 [.own 46 0 n]),(14,.box 3 [.d (.v (.int .i64 ((kk:Int)+1)))]),(46,.box 67 C)]) (.d (.v (.bool (L.getD x.toNat false)))) (hlst [(8,.box 63 [.own 46 0 n]),(14,.box 3 [.d (.v (.int .i64 ((kk:Int)+1)))]),(46,.box 67 C)]) by
  obtain ⟨h0,h1⟩:=hx x h
  obtain ⟨u,rfl⟩:=Int.eq_ofNat_of_zero_le h0
  rw [Int.toNat_natCast,getD_of (by omega)]
  exact q2_mc G hC hD hn u (by omega))
 have htr:=hD
 refine MC.of_body (tyOf_good _) Tryz.func110 rfl rfl (rs:=[.tmp 4]) Tryz.results110 (by simp [Tryz.ntmps110]) rfl fun X=>?_;simp only [Tryz.ntmps110]
 have fw:=@htr
 refine rgq fw [0,1] [8,14,46] ?_;refine AW_then fun K1 hK1=>?_;refine rgq fw [0,1,7,8] [8,14,46] ?_;refine AW_for (S:=Nat) (fun n=>n≤xs.length∧∀ i (hi:i < xs.length),i < n→(L.getD xs[i].toNat false)=false) (fun n_1=>⟨lst [(0,.d (.sl none (xs.map fun n=>[.v (.int .i64 n)]))),(1,.fn (.func 111) [.ref 8 0 0,.ref 14 0 0]),(7,int xs.length),(8,int n_1)],hlst [(8,.box 63 [.own 46 0 n]),(14,.box 3 [.d (.v (.int .i64 ((kk:Int)+1)))]),(46,.box 67 C)]⟩) (fun n=>xs.length - n) 0 ?_ (by simp) ?_
 ·refine Imp.to' (notIn_ok rfl) (by simp [htr,htr]) (by simp [htr,htr])
 ·rintro j ⟨hj,hpn⟩
  refine rgq fw [0,1,7,8,9] [8,14,46] ?_;refine AW_then fun K2 hK2=>?_;refine AW_cond' (b:=j < xs.length) (by simp [D.le,D.le.go,takeMap,htr]) (fun hc=>?_) (fun hc=>?_)
  ·refine AW_skip (hK2 _ ?_);refine AW_then fun K3 hK3=>?_;refine AW_block ?_
   have hp1:=hp _ (List.getElem_mem hc)
   have hit:=fun hp2=>idx_hit (p:=fun x:Int=>L.getD x.toNat false) hc hp2 fun i hi=>hpn i (by omega) hi
   generalize hbv:L.getD xs[j].toNat false=bv at hp1 hit;refine rgq fw [0,1,5,7,8] [8,14,46] ?_
   have qf:=(Aq fw @hc)
   refine rgmv hp1 [0,1,5,7,8,16] [8,14,46] ?_
   cases bv with
   | true=>
    refine AW_tt rfl ?_;rw [hit rfl];refine rgq fw [4] [8,14,46] ?_;refine AW_ret ?_;simp [D.le,D.le.go,takeMap,htr,htr]
   | false=>
    refine AW_ff rfl ?_;refine AW_skip (hK3 _ ?_);refine AW_re (tyOf_good _) fun K' hK'=>?_;(repeat (refine sxn fun K2 hK2=>?_;simp [htr];(repeat (refine ⟨by omega,?_⟩));refine hK2 _ ?_;clear hK2 K2));refine sxz (hK' _ ?_);clear hK' K';(try simp only [thn,inb]);refine Again.mk (j+1) ⟨by omega,fun i hi hin=>?_⟩ (by omega) ?_
    ·by_cases h:i=j
     ·subst h;exact hbv
     ·exact hpn i hi (by omega)
    refine Imp.to' (notIn_ok rfl) (by simp [htr,htr]) (by simp [htr,htr])
  ·refine AW_exit (hK1 _ ?_)
   have hmi:=idx_miss (p:=fun x:Int=>L.getD x.toNat false) (l:=xs) fun i hi=>hpn i hi (by omega)
   rw [hmi];refine rgq fw [4] [8,14,46] ?_;refine AW_ret ?_;simp [D.le,D.le.go,takeMap,htr,htr]
end Go.Proofs.YtpboiimemmfkiaaGreatDoor
namespace Go.Proofs.YtpboiimemmfkiaaGreatDoor
open Go.Av
def pkF (a:Int) (n:Nat):Nat:=((IntKind.u64.wrap a).tmod (n:Int)).toNat
theorem wrapU0 (a:Int):IntKind.u64.wrap a=a % 18446744073709551616:=by
 simp [IntKind.wrap,IntKind.signed,IntKind.bits]
theorem pkF_is (a:Int) {n:Nat} (hn:0 < n):((IntKind.u64.wrap a).tmod (n:Int))=(pkF a n:Int)∧pkF a n < n:=by
 have h0:0≤IntKind.u64.wrap a:=by rw [wrapU0];omega
 have h1:0≤(IntKind.u64.wrap a).tmod (n:Int):=Int.tmod_nonneg _ h0
 have h2:(IntKind.u64.wrap a).tmod (n:Int) < n:=Int.tmod_lt_of_pos _ (by omega)
 unfold pkF
 constructor<;>omega
set_option maxHeartbeats 4000000 in
theorem pk_spec (G:Glob) (a:Int) (n:Nat) (hn:0 < n) (hn2:n < 2^40):PureC Tryz.prog G 29 [dNum a,dNum n] (dNum (pkF a n)):=by
 obtain ⟨h1,h2⟩:=pkF_is a hn
 have hw:IntKind.u64.wrap (n:Int)=n:=by rw [wrapU0];omega
 have hn0:¬ n=0:=by omega
 generalize pkF a n=w at h1 h2 ⊢;simp only [dNum];refine PureC.of_body (tyOf_good _) Tryz.func29 rfl rfl (rs:=[.tmp 4]) Tryz.results29 (by simp [Tryz.ntmps29]) fun X=>?_;simp only [Tryz.ntmps29,List.map];refine rg0 [0,1] [] ?_
 have qf:=(Aq @hw (Aq @h1 @hn0))
 refine rgqv [4] [] ?_;refine AW_ret ?_;simp [D.le,D.le.go,takeMap]
theorem fix_read:readP fixT=some fixP:=by unfold readP;rw [if_neg (by decide),fix_parse]
theorem fix_next:nextP fixP=[[0,1],[1,1]]:=by kernel_rfl
theorem fix_prod:prodP (partsP fixP)=2:=by kernel_rfl
theorem fix_inl:(inputP fixP).length=1:=by kernel_rfl
theorem fix_made {most:Int} (h:2≤most):madeP fixT most=some fixP:=by
 unfold madeP;rw [fix_read];simp only [fix_inl,fix_prod];rw [if_neg (by omega)]
theorem inN_pos (p:PgP):0 < inN p:=Nat.pow_pos (by decide)
theorem inN_le {p:PgP} (h:(inputP p).length≤4):inN p≤16:=Nat.pow_le_pow_right (n:=2) (by decide) h
end Go.Proofs.YtpboiimemmfkiaaGreatDoor
namespace Go.Proofs.YtpboiimemmfkiaaGreatDoor
open Go.Av
theorem fix_far:farN (nextP fixP)=[0,1]:=by
 have ht:=tab_next fix_check
 refine far_unique (farN_is ht) ?_;rw [fix_next];refine ⟨rfl,rfl,fun t ht e=>?_,fun s hs=>?_,fun s hs h0 t htm=>?_,fun t ht h0=>?_⟩
 ·match t,ht with
  | 0,_=>rfl
  | 1,_=>exact absurd e (by decide)
 ·match s,hs with
  | 0,_=>decide
  | 1,_=>decide
 ·match s,hs with
  | 0,_=>
   have:t=0∨t=1:=by simpa using htm
   rcases this with rfl | rfl<;>decide
  | 1,_=>
   have:t=1:=by simpa using htm
   subst this
   decide
 ·match t,ht with
  | 0,_=>exact absurd h0 (by decide)
  | 1,_=>exact ⟨0,by decide,by decide,by decide⟩
set_option maxHeartbeats 4000000 in
theorem p1_mc (G:Glob) (r:List (List D)) (hr:r.length=2) (x:Int) (hx:x=0∨x=1):MC Tryz.prog G [8,9,46,73] 109 [.d (.v (.int .i64 x)),.ref 8 0 0,.ref 9 0 0] (hlst [(8,.box 63 [.own 46 0 2]),(9,.box 3 [.d (.v (.int .i64 1))]),(46,.box 67 [.d (.sl none [[.v (.bool false)],[.v (.bool true)]]),.own 73 0 2]),(73,.sl 4 1 r)]) (.d (.v (.bool (x == 1)))) (hlst [(8,.box 63 [.own 46 0 2]),(9,.box 3 [.d (.v (.int .i64 1))]),(46,.box 67 [.d (.sl none [[.v (.bool false)],[.v (.bool true)]]),.own 73 0 2]),(73,.sl 4 1 r)]):=by
 rcases hx with rfl | rfl
 ·refine MC.of_body (tyOf_good _) Tryz.func109 rfl rfl (rs:=[.tmp 4]) Tryz.results109 (by simp [Tryz.ntmps109]) rfl fun X=>?_;simp only [Tryz.ntmps109];refine rg0 [0,1,2] [8,9,46,73] ?_;refine rg0 [4] [8,9,46,73] ?_;refine AW_ret ?_;simp [D.le,D.le.go,takeMap]
 ·refine MC.of_body (tyOf_good _) Tryz.func109 rfl rfl (rs:=[.tmp 4]) Tryz.results109 (by simp [Tryz.ntmps109]) rfl fun X=>?_;simp only [Tryz.ntmps109];refine rg0 [0,1,2] [8,9,46,73] ?_;refine rg0 [4] [8,9,46,73] ?_;refine AW_ret ?_;simp [D.le,D.le.go,takeMap]
set_option maxHeartbeats 4000000 in
theorem ix1_mc (G:Glob) (r:List (List D)) (hr:r.length=2) (xs:List Int) (hx:∀ x∈xs,x=0∨x=1) (hl:xs.length < 2^40):MC Tryz.prog G [8,9,46,73] 110 [.d (.sl none (xs.map fun n=>[.v (.int .i64 n)])),.fn (.func 109) [.ref 8 0 0,.ref 9 0 0]] (hlst [(8,.box 63 [.own 46 0 2]),(9,.box 3 [.d (.v (.int .i64 1))]),(46,.box 67 [.d (.sl none [[.v (.bool false)],[.v (.bool true)]]),.own 73 0 2]),(73,.sl 4 1 r)]) (.d (.v (.int .i64 (idx (fun x:Int=>x == 1) xs)))) (hlst [(8,.box 63 [.own 46 0 2]),(9,.box 3 [.d (.v (.int .i64 1))]),(46,.box 67 [.d (.sl none [[.v (.bool false)],[.v (.bool true)]]),.own 73 0 2]),(73,.sl 4 1 r)]):=by
 have hp:=fun x (h:x∈xs)=>p1_mc G r hr x (hx x h)
 refine MC.of_body (tyOf_good _) Tryz.func110 rfl rfl (rs:=[.tmp 4]) Tryz.results110 (by simp [Tryz.ntmps110]) rfl fun X=>?_;simp only [Tryz.ntmps110];refine rg0 [0,1] [8,9,46,73] ?_;refine AW_then fun K1 hK1=>?_;refine rg0 [0,1,7,8] [8,9,46,73] ?_;refine AW_for (S:=Nat) (fun n=>n≤xs.length∧∀ i (hi:i < xs.length),i < n→(xs[i] == 1)=false) (fun n=>⟨lst [(0,.d (.sl none (xs.map fun n=>[.v (.int .i64 n)]))),(1,.fn (.func 109) [.ref 8 0 0,.ref 9 0 0]),(7,int xs.length),(8,int n)],hlst [(8,.box 63 [.own 46 0 2]),(9,.box 3 [.d (.v (.int .i64 1))]),(46,.box 67 [.d (.sl none [[.v (.bool false)],[.v (.bool true)]]),.own 73 0 2]),(73,.sl 4 1 r)]⟩) (fun n=>xs.length - n) 0 ?_ (by simp) ?_
 ·refine Imp.to' (notIn_ok rfl) (by simp) (by simp)
 ·rintro n ⟨hn,hpn⟩
  refine rg0 [0,1,7,8,9] [8,9,46,73] ?_;refine AW_then fun K2 hK2=>?_;refine AW_cond' (b:=n < xs.length) (by simp [D.le,D.le.go,takeMap]) (fun hc=>?_) (fun hc=>?_)
  ·refine AW_skip (hK2 _ ?_);refine AW_then fun K3 hK3=>?_;refine AW_block ?_
   have hp1:=hp _ (List.getElem_mem hc)
   refine rg0 [0,1,5,7,8] [8,9,46,73] ?_
   have qf:=@hc
   refine rgmv hp1 [0,1,5,7,8,16] [8,9,46,73] ?_;refine AW_cond _ rfl (fun hp2=>?_) (fun hp2=>?_)
   ·refine rg0 [4] [8,9,46,73] ?_;refine AW_ret ?_;simp [D.le,D.le.go,takeMap,(idx_hit (p:=fun x:Int=>x == 1) hc hp2 fun i hi=>hpn i (by omega) hi).symm]
   ·refine AW_skip (hK3 _ ?_);refine AW_re (tyOf_good _) fun K' hK'=>?_;(repeat (refine sxn fun K2 hK2=>?_;simp;(repeat (refine ⟨by omega,?_⟩));refine hK2 _ ?_;clear hK2 K2));refine sxz (hK' _ ?_);clear hK' K';(try simp only [thn,inb]);refine Again.mk (n+1) ⟨by omega,fun i hi hin=>?_⟩ (by omega) ?_
    ·by_cases h:i=n
     ·subst h;exact hp2
     ·exact hpn i hi (by omega)
    refine Imp.to' (notIn_ok rfl) (by simp) (by simp)
  ·refine AW_exit (hK1 _ ?_)
   have hmi:=idx_miss (p:=fun x:Int=>x == 1) (l:=xs) fun i hi=>hpn i hi (by omega)
   rw [hmi];refine rg0 [4] [8,9,46,73] ?_;refine AW_ret ?_;simp [D.le,D.le.go,takeMap]
set_option maxHeartbeats 4000000 in
theorem co1_mc (G:Glob) (r:List (List D)) (hr:r.length=2) (xs:List Int) (hx:∀ x∈xs,x=0∨x=1) (hl:xs.length < 2^40):MC Tryz.prog G [8,9,46,73] 108 [.d (.sl none (xs.map fun n=>[.v (.int .i64 n)])),.fn (.func 109) [.ref 8 0 0,.ref 9 0 0]] (hlst [(8,.box 63 [.own 46 0 2]),(9,.box 3 [.d (.v (.int .i64 1))]),(46,.box 67 [.d (.sl none [[.v (.bool false)],[.v (.bool true)]]),.own 73 0 2]),(73,.sl 4 1 r)]) (.d (.v (.bool (decide (0≤idx (fun x:Int=>x == 1) xs))))) (hlst [(8,.box 63 [.own 46 0 2]),(9,.box 3 [.d (.v (.int .i64 1))]),(46,.box 67 [.d (.sl none [[.v (.bool false)],[.v (.bool true)]]),.own 73 0 2]),(73,.sl 4 1 r)]):=by
 have hi:=ix1_mc G r hr xs hx hl
 generalize idx (fun x:Int=>x == 1) xs=ix at hi ⊢;generalize (xs.map fun n=>[D.v (.int .i64 n)])=XS at *;refine MC.of_body (tyOf_good _) Tryz.func108 rfl rfl (rs:=[.tmp 4]) Tryz.results108 (by simp [Tryz.ntmps108]) rfl fun X=>?_;simp only [Tryz.ntmps108];refine rg0 [0,1] [8,9,46,73] ?_;refine rgm trivial hi [4] [8,9,46,73] ?_;refine AW_ret ?_;simp [D.le,D.le.go,takeMap]
set_option maxHeartbeats 4000000 in
theorem p2_mc (G:Glob) (x1:D) (x:Int) (hx:x=0∨x=1):MC Tryz.prog G [8,14,46] 111 [.d (.v (.int .i64 x)),.ref 8 0 0,.ref 14 0 0] (hlst [(8,.box 63 [.own 46 0 2]),(14,.box 3 [.d (.v (.int .i64 1))]),(46,.box 67 [.d (.sl none [[.v (.bool false)],[.v (.bool true)]]),.d x1])]) (.d (.v (.bool (x == 1)))) (hlst [(8,.box 63 [.own 46 0 2]),(14,.box 3 [.d (.v (.int .i64 1))]),(46,.box 67 [.d (.sl none [[.v (.bool false)],[.v (.bool true)]]),.d x1])]):=by
 rcases hx with rfl | rfl
 ·refine MC.of_body (tyOf_good _) Tryz.func111 rfl rfl (rs:=[.tmp 4]) Tryz.results111 (by simp [Tryz.ntmps111]) rfl fun X=>?_;simp only [Tryz.ntmps111];refine rg0 [0,1,2] [8,14,46] ?_;refine rg0 [4] [8,14,46] ?_;refine AW_ret ?_;simp [D.le,D.le.go,takeMap]
 ·refine MC.of_body (tyOf_good _) Tryz.func111 rfl rfl (rs:=[.tmp 4]) Tryz.results111 (by simp [Tryz.ntmps111]) rfl fun X=>?_;simp only [Tryz.ntmps111];refine rg0 [0,1,2] [8,14,46] ?_;refine rg0 [4] [8,14,46] ?_;refine AW_ret ?_;simp [D.le,D.le.go,takeMap]
set_option maxHeartbeats 4000000 in
theorem ix2_mc (G:Glob) (x1:D) (xs:List Int) (hx:∀ x∈xs,x=0∨x=1) (hl:xs.length < 2^40):MC Tryz.prog G [8,14,46] 110 [.d (.sl none (xs.map fun n=>[.v (.int .i64 n)])),.fn (.func 111) [.ref 8 0 0,.ref 14 0 0]] (hlst [(8,.box 63 [.own 46 0 2]),(14,.box 3 [.d (.v (.int .i64 1))]),(46,.box 67 [.d (.sl none [[.v (.bool false)],[.v (.bool true)]]),.d x1])]) (.d (.v (.int .i64 (idx (fun x:Int=>x == 1) xs)))) (hlst [(8,.box 63 [.own 46 0 2]),(14,.box 3 [.d (.v (.int .i64 1))]),(46,.box 67 [.d (.sl none [[.v (.bool false)],[.v (.bool true)]]),.d x1])]):=by
 have hp:=fun x (h:x∈xs)=>p2_mc G x1 x (hx x h)
 refine MC.of_body (tyOf_good _) Tryz.func110 rfl rfl (rs:=[.tmp 4]) Tryz.results110 (by simp [Tryz.ntmps110]) rfl fun X=>?_;simp only [Tryz.ntmps110];refine rg0 [0,1] [8,14,46] ?_;refine AW_then fun K1 hK1=>?_;refine rg0 [0,1,7,8] [8,14,46] ?_;refine AW_for (S:=Nat) (fun n=>n≤xs.length∧∀ i (hi:i < xs.length),i < n→(xs[i] == 1)=false) (fun n=>⟨lst [(0,.d (.sl none (xs.map fun n=>[.v (.int .i64 n)]))),(1,.fn (.func 111) [.ref 8 0 0,.ref 14 0 0]),(7,int xs.length),(8,int n)],hlst [(8,.box 63 [.own 46 0 2]),(14,.box 3 [.d (.v (.int .i64 1))]),(46,.box 67 [.d (.sl none [[.v (.bool false)],[.v (.bool true)]]),.d x1])]⟩) (fun n=>xs.length - n) 0 ?_ (by simp) ?_
 ·refine Imp.to' (notIn_ok rfl) (by simp) (by simp)
 ·rintro n ⟨hn,hpn⟩
  refine rg0 [0,1,7,8,9] [8,14,46] ?_;refine AW_then fun K2 hK2=>?_;refine AW_cond' (b:=n < xs.length) (by simp [D.le,D.le.go,takeMap]) (fun hc=>?_) (fun hc=>?_)
  ·refine AW_skip (hK2 _ ?_);refine AW_then fun K3 hK3=>?_;refine AW_block ?_
   have hp1:=hp _ (List.getElem_mem hc)
   refine rg0 [0,1,5,7,8] [8,14,46] ?_
   have qf:=@hc
   refine rgmv hp1 [0,1,5,7,8,16] [8,14,46] ?_;refine AW_cond _ rfl (fun hp2=>?_) (fun hp2=>?_)
   ·refine rg0 [4] [8,14,46] ?_;refine AW_ret ?_;simp [D.le,D.le.go,takeMap,(idx_hit (p:=fun x:Int=>x == 1) hc hp2 fun i hi=>hpn i (by omega) hi).symm]
   ·refine AW_skip (hK3 _ ?_);refine AW_re (tyOf_good _) fun K' hK'=>?_;(repeat (refine sxn fun K2 hK2=>?_;simp;(repeat (refine ⟨by omega,?_⟩));refine hK2 _ ?_;clear hK2 K2));refine sxz (hK' _ ?_);clear hK' K';(try simp only [thn,inb]);refine Again.mk (n+1) ⟨by omega,fun i hi hin=>?_⟩ (by omega) ?_
    ·by_cases h:i=n
     ·subst h;exact hp2
     ·exact hpn i hi (by omega)
    refine Imp.to' (notIn_ok rfl) (by simp) (by simp)
  ·refine AW_exit (hK1 _ ?_)
   have hmi:=idx_miss (p:=fun x:Int=>x == 1) (l:=xs) fun i hi=>hpn i hi (by omega)
   rw [hmi];refine rg0 [4] [8,14,46] ?_;refine AW_ret ?_;simp [D.le,D.le.go,takeMap]
end Go.Proofs.YtpboiimemmfkiaaGreatDoor
namespace Go.Proofs.YtpboiimemmfkiaaGreatDoor
open Go.Av
theorem all_not (l:List Int) (X:List Bool):(!l.any fun t=>!X.getD t.toNat false)=allX l X:=by
 unfold allX;rw [Bool.eq_iff_iff];simp
set_option maxHeartbeats 2000000 in
theorem stays_in (G:Glob) (X:List Bool) (l:List Int) (hl:∀ x∈l,0≤x∧x < X.length):Answers G 122 [.ip [dBl X]] (fun n=>.v (.int .i64 n)) (fun x=>!X.getD x.toNat false) l:=by
 intro x hx
 obtain ⟨h0,h1⟩:=hl x hx
 obtain ⟨u,rfl⟩:=Int.eq_ofNat_of_zero_le h0
 have hu:u < X.length:=by omega
 simp only [dBl,Int.toNat_natCast];rw [getD_of hu];generalize hb:X[u]=b;refine PureC.of_body (tyOf_good _) Tryz.func122 rfl rfl (rs:=[.tmp 3]) Tryz.results122 (by simp [Tryz.ntmps122]) fun X=>?_;simp only [Tryz.ntmps122,List.map];refine rg0 [0,1] [] ?_
 have qf:=(Aq @hu @hb)
 refine rgqv [3] [] ?_;refine AW_ret ?_;simp [D.le,D.le.go,takeMap]
set_option maxHeartbeats 2000000 in
theorem stays_keep (G:Glob) (X:List Bool) (l:List Int) (hl:∀ x∈l,0≤x∧x < X.length) (hL:l.length < 2^40):PureC Tryz.prog G 121 [dIl l,dBl X] (.v (.bool (allX l X))):=by
 have hc:=containsInt_spec G none (fun n=>.v (.int .i64 n)) l _ _ _ (by omega) (stays_in G X l hl)
 rw [← all_not];generalize (l.any fun x=>!X.getD x.toNat false)=b at hc ⊢;simp only [dIl,dBl] at hc ⊢;generalize (l.map fun n=>[D.v (.int .i64 n)])=LL at *;generalize (X.map fun b=>[D.v (.bool b)])=XX at *;refine PureC.of_body (tyOf_good _) Tryz.func121 rfl rfl (rs:=[.tmp 4]) Tryz.results121 (by simp [Tryz.ntmps121]) fun X=>?_;simp only [Tryz.ntmps121,List.map];refine rg0 [0,3] [3] ?_;refine AW.imp (Imp.freezeB 3 trivial) ?_;refine AW.st (by simp;rfl) ?_;refine rgc trivial hc [4] [] ?_;refine AW_ret ?_;simp [D.le,D.le.go,takeMap]
set_option maxRecDepth 100000 in
set_option maxHeartbeats 16000000 in
theorem fixed_true (G:Glob) (p:PgP) (hck:checkP p=none) (hP:prodP (partsP p)≤4096) (g:FuncId) (kp:List Int→List Bool→Bool) (hm:MonoX (nextP p) kp true)
  (hkp:∀ (s:Nat) (h:s < (nextP p).length) (X:List Bool),X.length=(nextP p).length→PureC Tryz.prog G g [dIl (nextP p)[s],dBl X] (.v (.bool (kp (nextP p)[s] X)))) (B:List Bool) (hB:B.length=(nextP p).length) :
  PureC Tryz.prog G 120 [dMc p,dBl B,.fn (.func g) [],.v (.bool true)] (.tup [dBl (leastN (nextP p) kp true B),.v .nilIface]):=by
 have ht:=tab_next hck
 have hpos:=ht.pos
 have hlen:=nextP_len p
 have hpp:0 < prodP (partsP p):=prodP_pos fun x hx=>(parts_good (checkP_good hck) hx).m2
 have hfin:∀ X,LeastX (nextP p) kp true B X→X=leastN (nextP p) kp true B:=fun X h=>least_unique h (leastN_is hm hB)
 have hst:=way_start (kp:=kp) (d:=true) hB
 have hNl:=nxD_len (nextP p)
 have hNg:∀ s (h:s < (nextP p).length),(nxD (nextP p))[s]? = some [dIl (nextP p)[s]]:=fun s h=>by simp [nxD,h]
 have hcast:((nextP p).length:Int)=prodP (partsP p):=by rw [hlen];omega
 have hcl:=cloneB_mc G B (by omega)
 simp only [dMc,dMa,cMa,dNms,dRgs,dPas,dIl,dBl] at hNg hkp hcl ⊢;rw [← hcast]
 have hn12:(nextP p).length≤4096:=by omega
 generalize leastN (nextP p) kp true B=F at *;generalize nxD (nextP p)=NX at *;generalize nextP p=TN at *;clear hlen hcast;generalize ((inputP p).map fun n=>[D.v (.int .i64 n)])=IN at *;generalize (partsP p).map cPa=PT at *;generalize p.names.map cNm=NN at *;generalize p.rungs.map cRg=RR at *
 obtain ⟨N,hN⟩:∃ N:Nat,TN.length=N:=⟨_,rfl⟩
 rw [hN] at hNl hn12 hpos hB ⊢
 have hBl:(B.map fun b=>[D.v (.bool b)]).length=N:=by simp [hB]
 refine PureC.of_body (tyOf_good _) Tryz.func120 rfl rfl (rs:=[.tmp 8,.tmp 9]) Tryz.results120 (by simp [Tryz.ntmps120]) fun X=>?_;simp only [Tryz.ntmps120,List.map];refine rg0 [0,1,2,3] [] ?_;refine AW_then fun K1 hK1=>?_;refine rg0 [0,1,2,3,15] [] ?_;refine AW_ff rfl ?_;refine AW_skip (hK1 _ ?_);refine AW_then fun K2 hK2=>?_
 have qf:=@hB
 refine rgqv [0,1,2,3,23] [] ?_;refine AW_cond false (by simp) (fun h=>by cases h) (fun _=>?_);refine AW_skip (hK2 _ ?_);refine rgm trivial hcl [0,2,3,10] [701] ?_;refine AW_then fun K3 hK3=>?_;refine rg0 [0,2,3,10,11] [701] ?_;refine AW_for (S:=Bool×List Bool) (fun q=>WayX TN kp true B q.2∧(q.1=false→∀ s (h:s < TN.length),q.2.getD s true=true→kp TN[s] q.2=true)) (fun q=>⟨lst [(0,.d (.ip [.sl none NN,.sl none RR,.v (.int .i64 N),.v (.int .i64 (inN p)),.sl none NX,.sl none PT,.sl none IN])),(2,.d (.fn (.func g) [])),(3,.d (.v (.bool true))),(10,.own 701 0 N),(11,.d (.v (.bool q.1)))],hlst [(701,.sl 4 1 (q.2.map fun b=>[.v (.bool b)]))]⟩) (fun q=>2 * leftX true q.2+(if q.1 then 1 else 0)) (true,B) ?_ ⟨hst,fun h=>by cases h⟩ ?_
 ·refine Imp.to' (fun _ _=>trivial) (by simp [hB]) (by simp [hB])
 ·rintro ⟨ag,X⟩ ⟨hw,hsh⟩
  dsimp only at hw hsh ⊢
  refine AW_then fun K4 hK4=>?_
  cases ag with
  | false=>
   refine rg0 [0,2,3,10,27] [701] ?_;refine AW_ff rfl ?_;refine AW_exit (hK3 _ ?_)
   obtain rfl:=hfin X (way_end hw (hsh rfl))
   have hXl:(X.map fun b=>[D.v (.bool b)]).length=N:=by rw [List.length_map,hw.lx,hN]
   refine AW.imp (Imp.freeze 701 trivial) ?_;refine AW.st (by simp [hXl,List.take_of_length_le];rfl) ?_;refine rg0 [8,9] [] ?_;refine AW_ret ?_;simp [D.le,D.le.go,takeMap,D.le_refl,D.leGo_refl]
  | true=>
   clear hsh;refine rg0 [0,2,3,10,27] [701] ?_;refine AW_tt rfl ?_;refine AW_skip (hK4 _ ?_);refine AW_block ?_;refine rg0 [0,2,3,10,11] [701] ?_;refine rg0 [0,2,3,10,11,31,32,33] [701] ?_;refine AW_for (S:=Nat×Bool×List Bool) (fun q=>q.1≤N∧WayX TN kp true B q.2.2∧(q.2.1=false→∀ s (h:s < TN.length),s < q.1→q.2.2.getD s true=true→kp TN[s] q.2.2=true)∧2 * leftX true q.2.2+(if q.2.1 then 1 else 0)≤2 * leftX true X) (fun q=>⟨lst [(0,.d (.ip [.sl none NN,.sl none RR,.v (.int .i64 N),.v (.int .i64 (inN p)),.sl none NX,.sl none PT,.sl none IN])),(2,.d (.fn (.func g) [])),(3,.d (.v (.bool true))),(10,.own 701 0 N),(11,.d (.v (.bool q.2.1))),(31,.d (.sl none NX)),(32,int NX.length),(33,int q.1)],hlst [(701,.sl 4 1 (q.2.2.map fun b=>[.v (.bool b)]))]⟩) (fun q=>N - q.1) (0,false,X) ?_ ⟨by simp,hw,fun _ s h hs=>absurd hs (by dsimp only;omega),by simp⟩ ?_
   ·refine Imp.to' (fun _ _=>trivial) (by simp) (by simp)
   ·rintro ⟨k,ag,Y⟩ ⟨hk,hwy,hsy,hms⟩
    dsimp only at hk hwy hsy hms ⊢
    have hYl:=hwy.lx
    rw [hN] at hYl;refine rg0 [0,2,3,10,11,31,32,33,34] [701] ?_;refine AW_then fun K5 hK5=>?_
    by_cases hlt:k < N
    ·have hlt2:k < NX.length:=by omega
     have hlt3:(k:Int) < (NX.length:Int):=by omega
     have hltT:k < TN.length:=by omega
     refine AW_cond true (by simp<;>omega) (fun _=>?_) (fun h=>by cases h);refine AW_skip (hK5 _ ?_);refine AW_then fun K6 hK6=>?_;refine AW_block ?_
     have hXs:NX[k]=[.sl none (TN[k].map fun n=>[.v (.int .i64 n)])]:=by
      have hXg:=hNg k hltT
      rw [List.getElem?_eq_getElem hlt2] at hXg;exact Option.some.inj hXg
     have hkk:=hkp k hltT Y (by omega)
     have hkY:k < Y.length:=by omega
     have hNY:N≤Y.length:=by omega
     have htY:List.take N (List.map (fun b=>[D.v (.bool b)]) Y)=List.map (fun b=>[D.v (.bool b)]) Y:=List.take_of_length_le (by simp;omega)
     have hlft:=left_turn (d:=true) (X:=Y) hkY
     have hwt:=fun h=>way_turn hm hwy hltT h
     have hpass:(Y.getD k true=true→kp TN[k] Y=true)→ag=false→∀ s (h:s < TN.length),s < k+1→Y.getD s true=true→kp TN[s] Y=true:=fun hh ha s h hs=>by
      by_cases e:s=k
      ·subst e;exact hh
      ·exact hsy ha s h (by omega)
     have qf:=(Aq @hlt2 @hXs)
     refine rgqv [0,2,3,10,11,12,13,31,32,33] [701] ?_;rw [getD_of hkY] at hlft hpass;generalize hbv:Y[k]=b at hlft hpass;generalize hkv:kp TN[k] Y=kv at *
     by_cases hb:b=true
     ·subst hb
      cases kv with
      | false=>
       refine rg [0,2,3,10,11,12,31,32,33,51] [701] (fun _ _=>trivial) fun K' hK'=>?_;(repeat (refine sxn fun K2 hK2=>?_;simp [hkY,hlt,hbv,hNY,htY];(repeat (refine ⟨by omega,?_⟩));refine hK2 _ ?_;clear hK2 K2));refine sxn fun K2 hK2=>?_;simp [hkY,hlt,hbv,hNY,htY];refine callK.lend (hkk) (by simp [hkY,hlt,hbv,hNY,htY];rfl) (by first | exact D.leGo_refl _ | simp [takeMap,List.map_map,Function.comp_def,D.le,D.le.go,D.le_refl,D.leGo_refl,hkY,hlt,hbv,hNY,htY]) (by simp [D.scalar,hkY,hlt,hbv,hNY,htY]) ?_;refine hK2 _ ?_;clear hK2 K2;simp only [putd,upd_lst];(repeat (refine sxn fun K2 hK2=>?_;simp [hkY,hlt,hbv,hNY,htY];(repeat (refine ⟨by omega,?_⟩));refine hK2 _ ?_;clear hK2 K2));refine sxz (hK' _ (AW.st (by simp [hkY,hlt,hbv,hNY,htY];rfl) ?_));clear hK' K';refine AW_tt rfl ?_
       have qf:=(Aq @hkY @hlt)
       refine rgqv [0,2,3,10,31,32,33] [701] ?_;refine reK trivial hK6 [0,2,3,10,11,31,32,33] [701] ?_;refine AW_re (tyOf_good _) fun K' hK'=>?_;(repeat (refine sxn fun K2 hK2=>?_;simp;(repeat (refine ⟨by omega,?_⟩));refine hK2 _ ?_;clear hK2 K2));refine sxz (hK' _ ?_);clear hK' K';try simp only [thn,inb]
       have hl2:=hlft rfl
       simp only [Bool.not_true] at hl2
       have hw2:=hwt (by decide)
       simp only [Bool.not_true] at hw2;refine Again.mk (k+1,true,Y.set k false) ⟨by dsimp only;omega,hw2,fun h=>(by cases h),by dsimp only;simp only [if_true];split at hms<;>omega⟩ (by dsimp only;omega) ?_;refine Imp.to' (fun _ _=>trivial) (by simp [List.map_set]) (by simp [List.map_set])
      | true=>
       refine rg [0,2,3,10,11,12,31,32,33,51] [701] (fun _ _=>trivial) fun K' hK'=>?_;(repeat (refine sxn fun K2 hK2=>?_;simp [hkY,hlt,hbv,hNY,htY];(repeat (refine ⟨by omega,?_⟩));refine hK2 _ ?_;clear hK2 K2));refine sxn fun K2 hK2=>?_;simp [hkY,hlt,hbv,hNY,htY];refine callK.lend (hkk) (by simp [hkY,hlt,hbv,hNY,htY];rfl) (by first | exact D.leGo_refl _ | simp [takeMap,List.map_map,Function.comp_def,D.le,D.le.go,D.le_refl,D.leGo_refl,hkY,hlt,hbv,hNY,htY]) (by simp [D.scalar,hkY,hlt,hbv,hNY,htY]) ?_;refine hK2 _ ?_;clear hK2 K2;simp only [putd,upd_lst];(repeat (refine sxn fun K2 hK2=>?_;simp [hkY,hlt,hbv,hNY,htY];(repeat (refine ⟨by omega,?_⟩));refine hK2 _ ?_;clear hK2 K2));refine sxz (hK' _ (AW.st (by simp [hkY,hlt,hbv,hNY,htY];rfl) ?_));clear hK' K';refine AW_ff rfl ?_;refine AW_skip (hK6 _ ?_);refine AW_re (tyOf_good _) fun K' hK'=>?_;(repeat (refine sxn fun K2 hK2=>?_;simp;(repeat (refine ⟨by omega,?_⟩));refine hK2 _ ?_;clear hK2 K2));refine sxz (hK' _ ?_);clear hK' K';(try simp only [thn,inb]);refine Again.mk (k+1,ag,Y) ⟨by dsimp only;omega,hwy,hpass fun _=>rfl,hms⟩ (by dsimp only;omega) ?_;refine Imp.to' (fun _ _=>trivial) (by simp) (by simp)
     ·have hb2:b=false:=by cases b<;>simp_all
      subst hb2
      have qf:=(Aq @hkY (Aq @hlt @hbv))
      refine rgqv [0,2,3,10,11,12,31,32,33,51] [701] ?_;refine AW_ff rfl ?_;refine AW_skip (hK6 _ ?_);refine AW_re (tyOf_good _) fun K' hK'=>?_;(repeat (refine sxn fun K2 hK2=>?_;simp;(repeat (refine ⟨by omega,?_⟩));refine hK2 _ ?_;clear hK2 K2));refine sxz (hK' _ ?_);clear hK' K';(try simp only [thn,inb]);refine Again.mk (k+1,ag,Y) ⟨by dsimp only;omega,hwy,hpass fun h=>(by cases h),hms⟩ (by dsimp only;omega) ?_;refine Imp.to' (fun _ _=>trivial) (by simp) (by simp)
    ·have hlt3:¬ (k:Int) < (NX.length:Int):=by omega
     obtain rfl:k=N:=by omega
     refine AW_cond false (by simp<;>omega) (fun h=>by cases h) (fun _=>?_);refine AW_exit ?_;refine Again.mk (ag,Y) ⟨hwy,fun ha s h=>hsy ha s h (by omega)⟩ (by dsimp only;simp only [if_true];omega) ?_;refine Imp.to' (fun _ _=>trivial) (by simp) (by simp)
set_option maxHeartbeats 4000000 in
theorem stays_spec (G:Glob) (p:PgP) (hck:checkP p=none) (hi:(inputP p).length≤6) (hP:prodP (partsP p)≤4096) (B:List Bool) (hB:B.length=(nextP p).length):PureC Tryz.prog G 62 [dMc p,dBl B] (.tup [dBl (leastN (nextP p) allX true B),.v .nilIface]):=by
 have ht:=tab_next hck
 have hf:=fixed_true G p hck hP _ allX (mono_allt (tab_next hck)) (fun s h X hX=>stays_keep G X _ (fun x hx=>by
  obtain ⟨h0,h1⟩:=ht.mem _ (List.getElem_mem h) x hx
  omega) (by
  rw [nextP_at h,rowP_len]
  have:=Nat.pow_le_pow_right (n:=2) (by decide) hi
  omega)) B hB
 have hdc:∃ c,dMc p = .ip c:=⟨_,rfl⟩
 obtain ⟨MC,hMC⟩:=hdc
 simp only [hMC,dBl] at hf ⊢;generalize (leastN (nextP p) allX true B)=F at *;generalize (B.map fun b=>[D.v (.bool b)])=BB at *;refine PureC.of_body (tyOf_good _) Tryz.func62 rfl rfl (rs:=[.tmp 4,.tmp 5]) Tryz.results62 (by simp [Tryz.ntmps62]) fun X=>?_;simp only [Tryz.ntmps62,List.map];refine rg0 [0,1] [] ?_;refine rgc trivial hf [4,5] [] ?_;refine AW_ret ?_;simp [D.le,D.le.go,takeMap,D.le_refl,D.leGo_refl]
end Go.Proofs.YtpboiimemmfkiaaGreatDoor
namespace Go.Proofs.YtpboiimemmfkiaaGreatDoor
open Go.Av
def lftC:Nat→AV
 | 1=>.d (.sl (some false) [])
 | _=>.d (.sl none [[.v (.bool true)],[.v (.bool true)]])
def rowC:Nat→List (List D)
 | 0=>[[.v (.bool false)],[.v (.bool false)]]
 | 1=>[[.v (.bool true)],[.v (.bool false)]]
 | _=>[[.v (.bool true)],[.v (.bool true)]]
def wayC:Nat→List (List D)
 | 0=>[[.v (.int .i64 1)]]
 | _=>[]
def stC:Nat→Int
 | 0=>1
 | _=>0
set_option maxRecDepth 100000 in
set_option maxHeartbeats 16000000 in
theorem fix_path (G:Glob):PureC Tryz.prog G 51 [dMc fixP,dNum 1] (.tup [dIl [1],.v .nilIface]):=by
 have hfa:=far_spec G fixP fix_check (by rw [fix_inl];decide) (by rw [fix_prod];decide)
 rw [fix_far] at hfa
 have hc0:∀ r hr,_:=fun r hr=>co1_mc G r hr [0,1] (by simp) (by decide)
 have hc1:∀ r hr,_:=fun r hr=>co1_mc G r hr [1,1] (by simp) (by decide)
 have hx:=ix2_mc G (.sl none [[.v (.bool true)],[.v (.bool true)]]) [0,1] (by simp) (by decide)
 have e0:idx (fun x:Int=>x == 1) [0,1]=1:=by decide
 have e1:idx (fun x:Int=>x == 1) [1,1]=0:=by decide
 simp only [e0,e1,List.map] at hc0 hc1 hx;simp only [dMc,dMa,cMa,fix_prod,inN,fix_inl,fix_next,nxD,dNms,dRgs,dPas,dIl,List.map,dNum] at hfa ⊢;generalize fixP.names.map cNm=NN at *;generalize fixP.rungs.map cRg=RR at *;generalize (partsP fixP).map cPa=PT at *;generalize (inputP fixP).map (fun n=>[D.v (.int .i64 n)])=IN at *;refine PureC.of_body (tyOf_good _) Tryz.func51 rfl rfl (rs:=[.tmp 4,.tmp 5]) Tryz.results51 (by simp [Tryz.ntmps51]) fun X=>?_;simp only [Tryz.ntmps51,List.map];refine rg0 [0,1] [] ?_;refine rgc trivial hfa [0,1,6,7] [] ?_;refine AW_then fun K1 hK1=>?_;refine rg0 [0,1,6,7,22] [] ?_;refine AW_ff rfl ?_;refine AW_skip (hK1 _ ?_);refine AW_then fun K2 hK2=>?_;refine rg0 [0,1,6,33] [] ?_;refine AW_ff rfl ?_;refine AW_skip (hK2 _ ?_);refine AW_then fun K3 hK3=>?_;refine rg0 [0,1,6,39] [] ?_;refine AW_ff rfl ?_;refine AW_skip (hK3 _ ?_);refine rg [0,1,6,8] [46,8] (fun _ _=>trivial) fun K' hK'=>?_;(repeat (refine sxn fun K2 hK2=>?_;simp [makeEls,zeroD,List.replicate];(repeat (refine ⟨by omega,?_⟩));refine hK2 _ ?_;clear hK2 K2));refine sxz (hK' _ (AW.st (by simp [makeEls,zeroD,List.replicate];rfl) ?_));clear hK' K';refine AW.imp (Imp.toBox 46 rfl (by simp)) ?_;refine AW.st (by simp;rfl) ?_;refine AW_rl (tyOf_good _) (by kernel_rfl) ([]) ([]) (List.range 8) [0,1,6,8] [46,8,52] (fun _ _=>trivial) (by kernel_rfl) fun K' hK'=>?_;(repeat (refine sxl_nextO rfl fun K2 hK2=>?_;simp [makeEls,zeroD,List.replicate];(repeat (refine ⟨by omega,?_⟩));refine hK2 _ ?_;clear hK2 K2));refine sxl_nilO (hK' _ ?_);refine AW.st (by simp [makeEls,zeroD,List.replicate];rfl) ?_;clear hK' K';refine rg0 [0,1,6,8] [46,8,52] ?_;refine AW.imp (Imp.freeze 52 trivial) ?_;refine AW.st (by simp;rfl) ?_;refine AW_then fun K4 hK4=>?_;refine rg0 [0,1,6,8,9] [46,8,9] ?_;refine AW_for (S:=Nat) (fun k=>k=1∨k=2) (fun k=>⟨lst [(0,.d (.ip [.sl none NN,.sl none RR,.v (.int .i64 2),.v (.int .i64 2),.sl none [[.sl none [[.v (.int .i64 0)],[.v (.int .i64 1)]]],[.sl none [[.v (.int .i64 1)],[.v (.int .i64 1)]]]],.sl none PT,.sl none IN])),(1,int 1),(6,.d (.sl none [[.v (.int .i64 0)],[.v (.int .i64 1)]])),(8,.ref 8 0 0),(9,.ref 9 0 0)],hlst [(46,.box 67 [.d (.sl none [[.v (.bool false)],[.v (.bool true)]]),lftC k]),(8,.box 63 [.own 46 0 2]),(9,.box 3 [int k])]⟩) (fun k=>2 - k) 1 ?_ (.inl rfl) ?_
 ·refine Imp.to' (fun _ _=>trivial) (by simp [lftC]) (by simp [lftC])
 ·rintro k (rfl | rfl)
  ·simp only [lftC];refine AW_then fun K5 hK5=>?_;refine rdq trivial [0,1,6,8,9,64] [46,8,9] ?_;refine AW_tt rfl ?_;refine AW_skip (hK5 _ ?_);refine AW_then fun K6 hK6=>?_;refine AW_block ?_;refine AW_rl (tyOf_good _) (by kernel_rfl) ([]) ([]) (List.range 9) [0,1,6,8,9] [46,8,9,73] (fun _ _=>trivial) (by kernel_rfl) fun K' hK'=>?_;(repeat (refine sxl_nextO rfl fun K2 hK2=>?_;simp [makeEls,zeroD,List.replicate];(repeat (refine ⟨by omega,?_⟩));refine hK2 _ ?_;clear hK2 K2));refine sxl_nilO (hK' _ ?_);refine AW.st (by simp [makeEls,zeroD,List.replicate];rfl) ?_;clear hK' K';refine rg0 [0,1,6,8,9,78,79,80] [46,8,9,73] ?_;refine AW_for (S:=Nat) (fun s=>s=0∨s=1∨s=2) (fun s=>⟨lst [(0,.d (.ip [.sl none NN,.sl none RR,.v (.int .i64 2),.v (.int .i64 2),.sl none [[.sl none [[.v (.int .i64 0)],[.v (.int .i64 1)]]],[.sl none [[.v (.int .i64 1)],[.v (.int .i64 1)]]]],.sl none PT,.sl none IN])),(1,int 1),(6,.d (.sl none [[.v (.int .i64 0)],[.v (.int .i64 1)]])),(8,.ref 8 0 0),(9,.ref 9 0 0),(78,.d (.sl none [[.sl none [[.v (.int .i64 0)],[.v (.int .i64 1)]]],[.sl none [[.v (.int .i64 1)],[.v (.int .i64 1)]]]])),(79,int 2),(80,int s)],hlst [(46,.box 67 [.d (.sl none [[.v (.bool false)],[.v (.bool true)]]),.own 73 0 2]),(8,.box 63 [.own 46 0 2]),(9,.box 3 [int 1]),(73,.sl 4 1 (rowC s))]⟩) (fun s=>2 - s) 0 ?_ (.inl rfl) ?_
   ·refine Imp.to' (fun _ _=>trivial) (by simp [rowC]) (by simp [rowC])
   ·rintro s (rfl | rfl | rfl)
    ·simp only [rowC];refine rg0 [0,1,6,8,9,78,79,80,81] [46,8,9,73] ?_;refine AW_then fun K7 hK7=>?_;refine AW_tt rfl ?_;refine AW_skip (hK7 _ ?_);refine AW_then fun K8 hK8=>?_;refine AW_block ?_;refine rg0 [0,1,6,8,9,10,11,78,79,80] [46,8,9,73] ?_;refine AW_rqce (tyOf_good _) (by kernel_rfl) ([7]) (List.range 10) (by kernel_rfl) fun K' hK'=>?_;(repeat (refine sxqc_nextO rfl fun K2 hK2=>?_;simp;(repeat (refine ⟨by omega,?_⟩));refine hK2 _ ?_;clear hK2 K2));refine sxqc_nextO rfl fun K2 hK2=>?_;simp;refine hqK.mc (hc0 [[.v (.bool false)],[.v (.bool false)]] rfl) (by simp) (by simp) (by simp) (by simp) (by simp;exact hlst_same (by simp) (by simp)) ?_;simp;refine hK2 _ ?_;clear hK2 K2;(repeat (refine sxqc_nextO rfl fun K2 hK2=>?_;simp;(repeat (refine ⟨by omega,?_⟩));refine hK2 _ ?_;clear hK2 K2));refine sxqc_nilO (hK' _ ?_);clear hK' K';refine hK8 _ (AW.norm [0,1,6,8,9,78,79,80] [46,8,9,73] (fun _ _=>trivial) (AW.st (by simp;rfl) ?_));refine AW_re (tyOf_good _) fun K' hK'=>?_;(repeat (refine sxn fun K2 hK2=>?_;simp;(repeat (refine ⟨by omega,?_⟩));refine hK2 _ ?_;clear hK2 K2));refine sxz (hK' _ ?_);clear hK' K';(try simp only [thn,inb]);refine Again.mk 1 (.inr (.inl rfl)) (by omega) ?_;refine Imp.to' (fun _ _=>trivial) (by simp [rowC]) (by simp [rowC])
    ·simp only [rowC];refine rg0 [0,1,6,8,9,78,79,80,81] [46,8,9,73] ?_;refine AW_then fun K7 hK7=>?_;refine AW_tt rfl ?_;refine AW_skip (hK7 _ ?_);refine AW_then fun K8 hK8=>?_;refine AW_block ?_;refine rg0 [0,1,6,8,9,10,11,78,79,80] [46,8,9,73] ?_;refine AW_rqce (tyOf_good _) (by kernel_rfl) ([7]) (List.range 10) (by kernel_rfl) fun K' hK'=>?_;(repeat (refine sxqc_nextO rfl fun K2 hK2=>?_;simp;(repeat (refine ⟨by omega,?_⟩));refine hK2 _ ?_;clear hK2 K2));refine sxqc_nextO rfl fun K2 hK2=>?_;simp;refine hqK.mc (hc1 [[.v (.bool true)],[.v (.bool false)]] rfl) (by simp) (by simp) (by simp) (by simp) (by simp;exact hlst_same (by simp) (by simp)) ?_;simp;refine hK2 _ ?_;clear hK2 K2;(repeat (refine sxqc_nextO rfl fun K2 hK2=>?_;simp;(repeat (refine ⟨by omega,?_⟩));refine hK2 _ ?_;clear hK2 K2));refine sxqc_nilO (hK' _ ?_);clear hK' K';refine hK8 _ (AW.norm [0,1,6,8,9,78,79,80] [46,8,9,73] (fun _ _=>trivial) (AW.st (by simp;rfl) ?_));refine AW_re (tyOf_good _) fun K' hK'=>?_;(repeat (refine sxn fun K2 hK2=>?_;simp;(repeat (refine ⟨by omega,?_⟩));refine hK2 _ ?_;clear hK2 K2));refine sxz (hK' _ ?_);clear hK' K';(try simp only [thn,inb]);refine Again.mk 2 (.inr (.inr rfl)) (by omega) ?_;refine Imp.to' (fun _ _=>trivial) (by simp [rowC]) (by simp [rowC])
    ·simp only [rowC];refine rg0 [0,1,6,8,9,78,79,80,81] [46,8,9,73] ?_;refine AW_then fun K7 hK7=>?_;refine AW_ff rfl ?_;refine AW_exit (hK6 _ ?_);refine AW.imp (Imp.freeze 73 trivial) ?_;refine AW.st (by simp;rfl) ?_;refine AW_then fun K9 hK9=>?_;refine rg0 [0,1,6,8,95] [46,8] ?_;refine reK trivial hK9 [0,1,6,8,9] [46,8,9] ?_;refine AW_re (tyOf_good _) fun K' hK'=>?_;(repeat (refine sxn fun K2 hK2=>?_;simp;(repeat (refine ⟨by omega,?_⟩));refine hK2 _ ?_;clear hK2 K2));refine sxz (hK' _ ?_);clear hK' K';(try simp only [thn,inb]);refine Again.mk 2 (.inr rfl) (by omega) ?_;refine Imp.to' (fun _ _=>trivial) (by simp [lftC]) (by simp [lftC])
  ·simp only [lftC];refine AW_then fun K5 hK5=>?_;refine rdq trivial [0,1,6,8,9,64] [46,8,9] ?_;refine AW_ff rfl ?_;refine AW_exit (hK4 _ ?_);refine rg0 [0,1,6,8,12] [46,8] ?_;refine rg0 [0,1,6,8,12,13] [46,8] ?_;refine AW_then fun K10 hK10=>?_;refine rg0 [0,8,12,13,14] [46,8,14] ?_;refine AW_for (S:=Nat) (fun k=>k=1∨k=0) (fun k=>⟨lst [(0,.d (.ip [.sl none NN,.sl none RR,.v (.int .i64 2),.v (.int .i64 2),.sl none [[.sl none [[.v (.int .i64 0)],[.v (.int .i64 1)]]],[.sl none [[.v (.int .i64 1)],[.v (.int .i64 1)]]]],.sl none PT,.sl none IN])),(8,.ref 8 0 0),(12,.own 905 0 (wayC k).length),(13,int (stC k)),(14,.ref 14 0 0)],hlst [(46,.box 67 [.d (.sl none [[.v (.bool false)],[.v (.bool true)]]),.d (.sl none [[.v (.bool true)],[.v (.bool true)]])]),(8,.box 63 [.own 46 0 2]),(14,.box 3 [int k]),(905,.sl 3 1 (wayC k))]⟩) (fun k=>k) 1 ?_ (.inl rfl) ?_
   ·refine (Imp.adopt 12 905 3 1 rfl rfl).trans ?_;refine Imp.to' (fun _ _=>trivial) (by simp [wayC,stC]) (by simp [wayC,stC])
   ·rintro k (rfl | rfl)
    ·simp only [wayC,stC];refine AW_then fun K11 hK11=>?_;refine rg0 [0,8,12,13,14,101] [46,8,14,905] ?_;refine AW_tt rfl ?_;refine AW_skip (hK11 _ ?_);refine AW_then fun K12 hK12=>?_;refine AW_block ?_;refine rgm trivial hx [0,8,12,13,14,15] [46,8,14,905] ?_;refine rg0 [0,8,12,13,14,15] [46,8,14,905] ?_;refine reK trivial hK12 [0,8,12,13,14] [46,8,14,905] ?_;refine AW_then fun K13 hK13=>?_;refine rg0 [0,8,12,13,127] [46,8,905] ?_;refine reK trivial hK13 [0,8,12,13,14] [46,8,14,905] ?_;refine AW_re (tyOf_good _) fun K' hK'=>?_;(repeat (refine sxn fun K2 hK2=>?_;simp;(repeat (refine ⟨by omega,?_⟩));refine hK2 _ ?_;clear hK2 K2));refine sxz (hK' _ ?_);clear hK' K';(try simp only [thn,inb]);refine Again.mk 0 (.inr rfl) (by omega) ?_;refine Imp.to' (fun _ _=>trivial) (by simp [wayC,stC]) (by simp [wayC,stC])
    ·simp only [wayC,stC];refine AW_then fun K11 hK11=>?_;refine rg0 [0,8,12,13,14,101] [46,8,14,905] ?_;refine AW_ff rfl ?_;refine AW_exit (hK10 _ ?_);refine AW.imp (Imp.freeze 905 trivial) ?_;refine AW.st (by simp;rfl) ?_;refine rg0 [4,5] [] ?_;refine AW_ret ?_;simp [D.le,D.le.go,takeMap,D.le_refl,D.leGo_refl]
theorem fix_stays:leastN (nextP fixP) allX true [false,true]=[false,true]:=by
 have ht:=tab_next fix_check
 have hl:=leastN_is (mono_allt ht) (B:=[false,true]) (by rw [fix_next];rfl)
 refine least_unique hl ?_;rw [fix_next];refine ⟨rfl,rfl,fun _ _ h=>h,fun s hs h=>?_,fun _ _ h _=>h⟩
 match s,hs with
 | 0,_=>cases h
 | 1,_=>rfl
set_option maxRecDepth 100000 in
set_option maxHeartbeats 8000000 in
theorem reached_spec (G:Glob) (hM:HasMax G) (hP:HasP10 G) (hG:HasErr G) {es er:Value} (hE:HasNE G es er):PureC Tryz.prog G 49 [] (.v (.bool true)):=by
 have hmd:=made_spec G hM hP hG hE fixT 9 (by decide) (by decide)
 rw [fix_made (by decide)] at hmd
 have hfa:=far_spec G fixP fix_check (by rw [fix_inl];decide) (by rw [fix_prod];decide)
 rw [fix_far] at hfa
 have hpa:=fix_path G
 have hst:=stays_spec G fixP fix_check (by rw [fix_inl];decide) (by rw [fix_prod];decide) [false,true] (by rw [fix_next];rfl)
 rw [fix_stays] at hst
 have s1:=sameInts_spec G none none [0,1] [0,1] (by decide)
 have s2:=sameInts_spec G none none [1] [1] (by decide)
 have s3:=sameBools_spec G [false,true] [false,true] (by decide)
 have hdc:∃ c,dMc fixP = .ip c:=⟨_,rfl⟩
 obtain ⟨MC,hMC⟩:=hdc
 simp only [dMade,hMC,dIl,dBl,dBs,dInts,List.map,dS,dNum] at hmd hfa hpa hst s1 s2 s3
 have hfb:=fix_bs
 generalize bs fixT=FT at *;refine PureC.of_body (tyOf_good _) Tryz.func49 rfl rfl (rs:=[.tmp 0]) Tryz.results49 (by simp [Tryz.ntmps49]) fun X=>?_;simp only [Tryz.ntmps49,List.map];refine rg0 [] [] ?_
 have qf:=@hfb
 refine rgcv hmd [1,2] [] ?_;refine AW_then fun K1 hK1=>?_;refine rg0 [1,14] [] ?_;refine AW_ff rfl ?_;refine AW_skip (hK1 _ ?_);refine rgc trivial hfa [1,3,4] [] ?_;refine rgc trivial hpa [1,3,4,5,6] [] ?_;refine rg [3,4,5,6,7,8] [] (fun _ _=>trivial) fun K' hK'=>?_;(repeat (refine sxn fun K2 hK2=>?_;simp;(repeat (refine ⟨by omega,?_⟩));refine hK2 _ ?_;clear hK2 K2));refine sxn fun K2 hK2=>?_;simp;refine callK.frz 27 (by first | rfl | (simp;rfl)) trivial ?_;simp;refine callK.data (hst) (by simp;rfl) (by first | exact D.leGo_refl _ | simp [takeMap,List.map_map,Function.comp_def,D.le,D.le.go,D.le_refl,D.leGo_refl]) ?_;refine hK2 _ ?_;clear hK2 K2;simp only [putd,upd_lst];(repeat (refine sxn fun K2 hK2=>?_;simp;(repeat (refine ⟨by omega,?_⟩));refine hK2 _ ?_;clear hK2 K2));refine sxz (hK' _ (AW.st (by simp;rfl) ?_));clear hK' K';refine rg [0] [] (fun _ _=>trivial) fun K' hK'=>?_;(repeat (refine sxn fun K2 hK2=>?_;simp;(repeat (refine ⟨by omega,?_⟩));refine hK2 _ ?_;clear hK2 K2));refine sxn fun K2 hK2=>?_;simp;refine callK.lend (s1) (by simp;rfl) (by first | exact D.leGo_refl _ | simp [takeMap,List.map_map,Function.comp_def,D.le,D.le.go,D.le_refl,D.leGo_refl]) (by simp [D.scalar]) ?_;refine hK2 _ ?_;clear hK2 K2;simp only [putd,upd_lst];(repeat (refine sxn fun K2 hK2=>?_;simp;(repeat (refine ⟨by omega,?_⟩));refine hK2 _ ?_;clear hK2 K2));refine sxn fun K2 hK2=>?_;simp;refine callK.lend (s2) (by simp;rfl) (by first | exact D.leGo_refl _ | simp [takeMap,List.map_map,Function.comp_def,D.le,D.le.go,D.le_refl,D.leGo_refl]) (by simp [D.scalar]) ?_;refine hK2 _ ?_;clear hK2 K2;simp only [putd,upd_lst];(repeat (refine sxn fun K2 hK2=>?_;simp;(repeat (refine ⟨by omega,?_⟩));refine hK2 _ ?_;clear hK2 K2));refine sxn fun K2 hK2=>?_;simp;refine callK.lend (s3) (by simp;rfl) (by first | exact D.leGo_refl _ | simp [takeMap,List.map_map,Function.comp_def,D.le,D.le.go,D.le_refl,D.leGo_refl]) (by simp [D.scalar]) ?_;refine hK2 _ ?_;clear hK2 K2;simp only [putd,upd_lst];(repeat (refine sxn fun K2 hK2=>?_;simp;(repeat (refine ⟨by omega,?_⟩));refine hK2 _ ?_;clear hK2 K2));refine sxz (hK' _ (AW.st (by simp;rfl) ?_));clear hK' K';refine AW_ret ?_;simp [D.le,D.le.go,takeMap]
end Go.Proofs.YtpboiimemmfkiaaGreatDoor
namespace Go.Proofs.YtpboiimemmfkiaaGreatDoor
open Go.Av
def fillB (L:List Bool) (s:Nat):List Bool:=L.take s ++ List.replicate (L.length - s) false
theorem fillB_len {L:List Bool} {s:Nat} (h:s≤L.length):(fillB L s).length=L.length:=by simp [fillB];omega
theorem fillB_zero (L:List Bool):fillB L 0=List.replicate L.length false:=by simp [fillB]
theorem fillB_all (L:List Bool):fillB L L.length=L:=by simp [fillB]
theorem fillB_set {L:List Bool} {s:Nat} (h:s < L.length):(fillB L s).set s L[s]=fillB L (s+1):=by
 refine ext_getD (d:=false) (by rw [List.length_set,fillB_len (by omega),fillB_len (by omega)]) fun i hi=>?_;rw [List.length_set,fillB_len (by omega)] at hi
 have at':∀ k,k≤L.length→(fillB L k).getD i false=if i < k then L[i] else false:=fun k hk=>by
  rw [getD_of (by rw [fillB_len hk];exact hi)];unfold fillB
  by_cases h:i < k
  ·rw [List.getElem_append_left (by rw [List.length_take];omega),if_pos h];simp
  ·rw [List.getElem_append_right (by rw [List.length_take];omega),if_neg h];simp
 by_cases e:s=i
 ·subst e;rw [getD_set_same (by rw [fillB_len (by omega)];exact h),at' _ (by omega),if_pos (by omega)]
 ·rw [getD_set_other e,at' _ (by omega),at' _ (by omega)]
  by_cases h2:i < s
  ·rw [if_pos h2,if_pos (by omega)]
  ·rw [if_neg h2,if_neg (by omega)]
end Go.Proofs.YtpboiimemmfkiaaGreatDoor
namespace Go.Proofs.YtpboiimemmfkiaaGreatDoor
open Go.Av
def cdL (TN:List (List Int)) (z k:Nat):List AV:=(List.range k).map fun i=>.d (.sl none ((leftL TN z i).map fun b=>[.v (.bool b)]))
theorem cdL_len (TN:List (List Int)) (z k:Nat):(cdL TN z k).length=k:=by simp [cdL]
theorem cdL_tr (TN:List (List Int)) (z k:Nat) (o f:Nat→Nat→Nat→AV):(cdL TN z k).map (AV.tr o f)=cdL TN z k:=by
 unfold cdL;rw [List.map_map]
 rfl
theorem cdL_kill (TN:List (List Int)) (z k r:Nat):(cdL TN z k).map (AV.kill r)=cdL TN z k:=by
 unfold cdL;rw [List.map_map]
 rfl
theorem cdL_succ (TN:List (List Int)) (z k:Nat):cdL TN z (k+1)=cdL TN z k ++ [.d (.sl none ((leftL TN z k).map fun b=>[.v (.bool b)]))]:=by
 unfold cdL;rw [List.range_succ,List.map_append];rfl
theorem cdL_at {TN:List (List Int)} {z k i:Nat} (h:i < k):∀ h2:i < (cdL TN z k).length,(cdL TN z k)[i] = .d (.sl none ((leftL TN z i).map fun b=>[.v (.bool b)])):=fun h2=>by simp [cdL]
def nilC:AV:=.d (.sl (some false) [])
theorem nilC_tr (o f:Nat→Nat→Nat→AV):AV.tr o f nilC=nilC:=rfl
theorem nilC_kill (r:Nat):AV.kill r nilC=nilC:=rfl
theorem nil_tr (m:Nat) (o f:Nat→Nat→Nat→AV):(List.replicate m nilC).map (AV.tr o f)=List.replicate m nilC:=by rw [List.map_replicate];rfl
theorem nil_kill (m r:Nat):(List.replicate m nilC).map (AV.kill r)=List.replicate m nilC:=by rw [List.map_replicate];rfl
theorem path_cells {TN:List (List Int)} {z kk m N:Nat}:CellsK (cdL TN z (kk+1) ++ .own 73 0 N :: List.replicate m nilC) (kk+1+1+m) kk N (leftL TN z kk):=by
 refine ⟨by simp [cdL_len];omega,by omega,fun h=>?_,fun o f ho=>?_,fun r hr=>?_⟩
 ·rw [List.getElem_append_left (by rw [cdL_len];omega)];exact cdL_at (by omega) _
 ·rw [List.map_append,List.map_cons,cdL_tr,nil_tr]
  show _ ++ o 73 0 N :: _=_
  rw [ho]
 ·rw [List.map_append,List.map_cons,cdL_kill,nil_kill]
  show _ ++ (if 73=r then AV.dead else .own 73 0 N) :: _=_
  rw [if_neg (fun e=>hr e.symm)]
theorem path_cells2 {TN:List (List Int)} {z d kk N:Nat} (h:kk < d+1):CellsK (cdL TN z (d+1)) (d+1) kk N (leftL TN z kk):=
 ⟨cdL_len _ _ _,h,fun h2=>cdL_at h h2,fun o f _=>cdL_tr _ _ _ o f,fun r _=>cdL_kill _ _ _ r⟩
set_option maxRecDepth 100000 in
set_option maxHeartbeats 16000000 in
theorem path_none (G:Glob) (p:PgP) (hck:checkP p=none) (hi6:(inputP p).length≤6) (hP:prodP (partsP p)≤4096) (z:Nat) (hz:z < (nextP p).length) (hd:(farN (nextP p)).getD z 0 < 0):PureC Tryz.prog G 51 [dMc p,dNum z] (.tup [.sl none [],.ifc 30 (.v (.int .i64 8))]):=by
 have hfa:=far_spec G p hck hi6 hP
 have hFl:=(farN_is (tab_next hck)).len
 have hlen:=nextP_len p
 have hpp:0 < prodP (partsP p):=prodP_pos fun x hx=>(parts_good (checkP_good hck) hx).m2
 have hzP:(z:Int) < prodP (partsP p):=by omega
 have hzF:z < (farN (nextP p)).length:=by omega
 rw [getD_of hzF] at hd;generalize farN (nextP p)=F at *;generalize hv:F[z]=v at *;simp only [dMc,dMa,cMa,dNms,dRgs,dPas,dIl,dNum] at hfa ⊢;generalize nxD (nextP p)=NX at *;generalize prodP (partsP p)=PP at *;generalize ((inputP p).map fun n=>[D.v (.int .i64 n)])=IN at *;generalize (partsP p).map cPa=PT at *;generalize p.names.map cNm=NN at *;generalize p.rungs.map cRg=RR at *
 have h0:¬ (z:Int) < 0:=by omega
 have h1:¬ PP≤(z:Int):=by omega
 refine PureC.of_body (tyOf_good _) Tryz.func51 rfl rfl (rs:=[.tmp 4,.tmp 5]) Tryz.results51 (by simp [Tryz.ntmps51]) fun X=>?_;simp only [Tryz.ntmps51,List.map];refine rg0 [0,1] [] ?_;refine rgc trivial hfa [0,1,6,7] [] ?_;refine AW_then fun K1 hK1=>?_;refine rg0 [0,1,6,7,22] [] ?_;refine AW_ff rfl ?_;refine AW_skip (hK1 _ ?_);refine AW_then fun K2 hK2=>?_
 have qf:=(Aq @h0 @h1)
 refine rgqv [0,1,6,33] [] ?_;refine AW_cond false (by simp<;>omega) (fun h=>by cases h) (fun _=>?_);refine AW_skip (hK2 _ ?_);refine AW_then fun K3 hK3=>?_
 have qf:=(Aq @hzF (Aq @hv @hd))
 refine rgqv [0,1,6,39] [] ?_;refine AW_cond true (by simp<;>omega) (fun _=>?_) (fun h=>by cases h);refine rg0 [4,5] [] ?_;refine AW_ret ?_;simp [D.le,D.le.go,takeMap]
set_option maxRecDepth 100000 in
set_option maxHeartbeats 32000000 in
theorem path_good (G:Glob) (p:PgP) (hck:checkP p=none) (hi6:(inputP p).length≤6) (hP:prodP (partsP p)≤4096) (z:Nat) (hz:z < (nextP p).length) (d:Nat) (hd:(farN (nextP p)).getD z 0=(d:Int)) (hd2:d < 2^19):PureC Tryz.prog G 51 [dMc p,dNum z] (.tup [dIl (wayG (nextP p) z d 0),.v .nilIface]):=by
 have hfa:=far_spec G p hck hi6 hP
 have ht:=tab_next hck
 have hpos:=ht.pos
 have hFl:=(farN_is ht).len
 have hgo:=far_goes (farN_is ht) d z hz hd
 have hlen:=nextP_len p
 have hpp:0 < prodP (partsP p):=prodP_pos fun x hx=>(parts_good (checkP_good hck) hx).m2
 have hzF:z < (farN (nextP p)).length:=by omega
 rw [getD_of hzF] at hd;generalize farN (nextP p)=F at *
 have hrl64:∀ s (h:s < (nextP p).length),(nextP p)[s].length≤64:=fun s h=>by
  rw [nextP_at h,rowP_len]
  have:=Nat.pow_le_pow_right (n:=2) (by decide) hi6
  omega
 have hNl:=nxD_len (nextP p)
 have hNg:∀ s (h:s < (nextP p).length),(nxD (nextP p))[s]? = some [dIl (nextP p)[s]]:=fun s h=>by simp [nxD,h]
 have hcast:((nextP p).length:Int)=prodP (partsP p):=by rw [hlen];omega
 have hn12:(nextP p).length≤4096:=by omega
 have hcq:=fun (kk m N:Nat) (r:List (List D)) (xs:List Int) (h1:kk+1+1+m≤2^20) (h2:∀ x∈xs,0≤x∧x < (leftL (nextP p) z kk).length) (h3:xs.length < 2^40)=>cq1_mc G (path_cells (TN:=nextP p) (z:=z) (kk:=kk) (m:=m) (N:=N)) r h1 xs h2 h3
 have hiq:=fun (kk N:Nat) (h:kk < d+1) (xs:List Int) (h2:∀ x∈xs,0≤x∧x < (leftL (nextP p) z kk).length) (h3:xs.length < 2^40)=>iq2_mc G (path_cells2 (TN:=nextP p) (z:=z) (d:=d) (kk:=kk) (N:=N) h) (fun o f=>cdL_tr _ _ _ o f) (by omega) xs h2 h3
 have hLl:=leftL_len (nextP p) z
 have hLs:=fun k s (h:s < (nextP p).length)=>leftL_succ (z:=z) (k:=k) h
 have hTl:∀ s (h:s < (nextP p).length),(nextP p)[s].length < 2^40:=fun s h=>by have:=hrl64 s h;omega
 have htm:=ht.mem
 have hstep:=fun k s (hs:s < (nextP p).length) (hg:GoesN (nextP p) (k+1) s z)=>step_ok ht hz hs hg
 have hway:∀ k s (hs:s < (nextP p).length),wayG (nextP p) z (k+1) s=(stepI (nextP p) z k s:Int) :: wayG (nextP p) z k ((nextP p)[s].getD (stepI (nextP p) z k s) 0).toNat:=fun k s hs=>by rw [wayG,rowN_of hs]
 have hway0:∀ s,wayG (nextP p) z 0 s=[]:=fun _=>rfl
 simp only [dMc,dMa,cMa,dNms,dRgs,dPas,dIl,dNum,← hcast] at hfa hNg ⊢;clear hlen hcast hpp ht hrl64;generalize nxD (nextP p)=NX at *;generalize nextP p=TN at *
 obtain ⟨N,hN⟩:∃ N:Nat,TN.length=N:=⟨_,rfl⟩
 rw [hN] at hfa hNl hn12 hpos hFl ⊢
 have hzN:z < N:=by omega
 generalize ((inputP p).map fun n=>[D.v (.int .i64 n)])=IN at *;generalize (partsP p).map cPa=PT at *;generalize p.names.map cNm=NN at *;generalize p.rungs.map cRg=RR at *
 have h0:¬ (z:Int) < 0:=by omega
 have h1:¬ N≤z:=by omega
 have hl0:leftL TN z 0=(List.replicate N false).set z true:=by rw [leftL,hN]
 have hc1:cdL TN z 1=[.d (.sl none ((leftL TN z 0).map fun b=>[.v (.bool b)]))]:=rfl
 have hd0:¬ (d:Int) < 0:=by omega
 refine PureC.of_body (tyOf_good _) Tryz.func51 rfl rfl (rs:=[.tmp 4,.tmp 5]) Tryz.results51 (by simp [Tryz.ntmps51]) fun X=>?_;simp only [Tryz.ntmps51,List.map]
 have fw:=(Aq @nilC_tr (Aq @nilC_kill (Aq @cdL_tr (Aq @cdL_kill @cdL_len))))
 refine rgq fw [0,1] [] ?_;refine rgc fw hfa [0,1,6,7] [] ?_;refine AW_then fun K1 hK1=>?_;refine rgq fw [0,1,6,7,22] [] ?_;refine AW_ff rfl ?_;refine AW_skip (hK1 _ ?_);refine AW_then fun K2 hK2=>?_
 have qf:=(Aq fw (Aq @h0 @h1))
 refine rgqv [0,1,6,33] [] ?_;refine AW_cond false (by simp<;>omega) (fun h=>by cases h) (fun _=>?_);refine AW_skip (hK2 _ ?_);refine AW_then fun K3 hK3=>?_
 have qf:=(Aq fw (Aq @hzF (Aq @hd @hd0)))
 refine rgqv [0,1,6,39] [] ?_;refine AW_cond false (by simp<;>omega) (fun h=>by cases h) (fun _=>?_);refine AW_skip (hK3 _ ?_)
 have qf:=(Aq fw (Aq @makeEls.eq_1 (Aq @zeroD.eq_1 (Aq @zeroD.eq_2 (Aq @hzF @hd)))))
 refine rgqv [0,1,6,8] [46,8] ?_;refine AW.imp (Imp.toBox 46 rfl (by simp)) ?_
 refine AW.st (τ:=⟨lst [(0,.d (.ip [.sl none NN,.sl none RR,.v (.int .i64 N),.v (.int .i64 (inN p)),.sl none NX,.sl none PT,.sl none IN])),(1,int z),(6,.d (.sl none (F.map fun n=>[.v (.int .i64 n)]))),(8,.ref 8 0 0)],hlst [(46,.box 67 (nilC :: List.replicate d nilC)),(8,.box 63 [.own 46 0 (d+1)])]⟩) (by
  have e:List.replicate (d+1) nilC=nilC :: List.replicate d nilC:=rfl
  rw [← e]
  congr 1
  simp only [hup_hlst,List.map_replicate]
  exact hlst_same (by simp [nilC]) (by simp [nilC])) ?_
 refine AW_rl (tyOf_good _) (by kernel_rfl) ([]) ([]) (List.range 8) [0,1,6,8] [46,8,52] (fun _ _=>trivial) (by kernel_rfl) fun K' hK'=>?_;(repeat (refine sxl_nextO rfl fun K2 hK2=>?_;simp [nilC_tr,nilC_kill,cdL_tr,cdL_kill,cdL_len,makeEls,zeroD];(repeat (refine ⟨by omega,?_⟩));refine hK2 _ ?_;clear hK2 K2));refine sxl_nilO (hK' _ ?_);refine AW.st (by simp [nilC_tr,nilC_kill,cdL_tr,cdL_kill,cdL_len,makeEls,zeroD];rfl) ?_;clear hK' K'
 have qf:=(Aq fw @hzN)
 refine rgqv [0,1,6,8] [46,8,52] ?_;refine AW.imp (Imp.freeze 52 trivial) ?_;refine AW.st (by simp [nilC_tr,nilC_kill,cdL_tr,cdL_kill,cdL_len];rfl) ?_;refine AW_then fun K4 hK4=>?_;refine rgq fw [0,1,6,8,9] [46,8,9] ?_;refine AW_for (S:=Nat) (fun k=>1≤k∧k≤d+1) (fun k=>⟨lst [(0,.d (.ip [.sl none NN,.sl none RR,.v (.int .i64 N),.v (.int .i64 (inN p)),.sl none NX,.sl none PT,.sl none IN])),(1,int z),(6,.d (.sl none (F.map fun n=>[.v (.int .i64 n)]))),(8,.ref 8 0 0),(9,.ref 9 0 0)],hlst [(46,.box 67 (cdL TN z k ++ List.replicate (d+1 - k) nilC)),(8,.box 63 [.own 46 0 (d+1)]),(9,.box 3 [int k])]⟩) (fun k=>d+1 - k) 1 ?_ ⟨by omega,by omega⟩ ?_
 ·refine Imp.to' (fun _ _=>trivial) (by simp [nilC_tr,nilC_kill,cdL_tr,cdL_kill,cdL_len,hc1,hl0,List.map_set,List.map_replicate,nilC_tr]) (by simp [nilC_tr,nilC_kill,cdL_tr,cdL_kill,cdL_len,hc1,hl0,List.map_set,List.map_replicate,nilC_tr])
 ·rintro k ⟨hk1,hk2⟩
  refine AW_then fun K5 hK5=>?_
  by_cases hkd:k≤d
  ·obtain ⟨kk,rfl⟩:∃ kk,k=kk+1:=⟨k - 1,by omega⟩
   obtain ⟨m,hm⟩:∃ m,d+1 - (kk+1)=m+1:=⟨d - (kk+1),by omega⟩
   have hkd3:(kk:Int)+1≤(d:Int):=by omega
   have hkd4:kk+1 < d+1:=by omega
   have hrep:List.replicate (m+1) nilC=nilC :: List.replicate m nilC:=rfl
   rw [hm,hrep]
   have hlenC:∀ x,(cdL TN z (kk+1) ++ x :: List.replicate m nilC).length=d+1:=fun x=>by simp [cdL_len];omega
   have hT:∀ R,List.take (kk+1) (cdL TN z (kk+1) ++ R)=cdL TN z (kk+1):=fun R=>List.take_left' (cdL_len _ _ _)
   have hD0:∀ R,List.drop (kk+1) (cdL TN z (kk+1) ++ R)=R:=fun R=>List.drop_left' (cdL_len _ _ _)
   have hD1:∀ x R,List.drop (kk+1+1) (cdL TN z (kk+1) ++ x :: R)=R:=fun x R=>by
    rw [← List.drop_drop,hD0];rfl
   have qf:=(Aq fw (Aq @hzF (Aq @hd @hkd3)))
   refine rdqv [0,1,6,8,9,64] [46,8,9] ?_;refine AW_cond true (by simp<;>omega) (fun _=>?_) (fun h=>by cases h);refine AW_skip (hK5 _ ?_);refine AW_then fun K6 hK6=>?_;refine AW_block ?_;refine AW_rl (tyOf_good _) (by kernel_rfl) ([]) ([]) (List.range 9) [0,1,6,8,9] [46,8,9,73] (fun _ _=>trivial) (by kernel_rfl) fun K' hK'=>?_;(repeat (refine sxl_nextO rfl fun K2 hK2=>?_;simp [nilC_tr,nilC_kill,cdL_tr,cdL_kill,cdL_len,makeEls,zeroD,hT,hD0,hD1,hlenC,hkd4];(repeat (refine ⟨by omega,?_⟩));refine hK2 _ ?_;clear hK2 K2));refine sxl_nilO (hK' _ ?_);refine AW.st (by simp [nilC_tr,nilC_kill,cdL_tr,cdL_kill,cdL_len,makeEls,zeroD,hT,hD0,hD1,hlenC,hkd4];rfl) ?_;clear hK' K';refine rgq fw [0,1,6,8,9,78,79,80] [46,8,9,73] ?_;refine AW_for (S:=Nat) (fun s=>s≤N) (fun s=>⟨lst [(0,.d (.ip [.sl none NN,.sl none RR,.v (.int .i64 N),.v (.int .i64 (inN p)),.sl none NX,.sl none PT,.sl none IN])),(1,int z),(6,.d (.sl none (F.map fun n=>[.v (.int .i64 n)]))),(8,.ref 8 0 0),(9,.ref 9 0 0),(78,.d (.sl none NX)),(79,int NX.length),(80,int s)],hlst [(46,.box 67 (cdL TN z (kk+1) ++ .own 73 0 N :: List.replicate m nilC)),(8,.box 63 [.own 46 0 (d+1)]),(9,.box 3 [int ((kk:Int)+1)]),(73,.sl 4 1 ((fillB (leftL TN z (kk+1)) s).map fun b=>[.v (.bool b)]))]⟩) (fun s=>N - s) 0 ?_ (by omega) ?_
   ·rw [fillB_zero,hLl,hN];refine Imp.to' (fun _ _=>trivial) (by simp [nilC_tr,nilC_kill,cdL_tr,cdL_kill,cdL_len,List.map_replicate,nilC_tr,cdL_tr]) (by simp [nilC_tr,nilC_kill,cdL_tr,cdL_kill,cdL_len,List.map_replicate,nilC_tr,cdL_tr])
   ·intro s hs
    refine rgq fw [0,1,6,8,9,78,79,80,81] [46,8,9,73] ?_;refine AW_then fun K7 hK7=>?_
    by_cases hlt:s < N
    ·have hlt2:s < NX.length:=by omega
     have hlt3:(s:Int) < (NX.length:Int):=by omega
     have hltT:s < TN.length:=by omega
     refine AW_cond true (by simp<;>omega) (fun _=>?_) (fun h=>by cases h);refine AW_skip (hK7 _ ?_);refine AW_then fun K8 hK8=>?_;refine AW_block ?_
     have hXs:NX[s]=[.sl none (TN[s].map fun n=>[.v (.int .i64 n)])]:=by
      have hXg:=hNg s hltT
      rw [List.getElem?_eq_getElem hlt2] at hXg;exact Option.some.inj hXg
     have hLK:s < (leftL TN z (kk+1)).length:=by rw [hLl];exact hltT
     have hfs:=fillB_set hLK
     have hsv:=hLs kk s hltT
     rw [getD_of hLK] at hsv;rw [hsv] at hfs
     have hfl:=fillB_len (L:=leftL TN z (kk+1)) (s:=s) (by omega)
     rw [hLl,hN] at hfl
     have hsF:s < (fillB (leftL TN z (kk+1)) s).length:=by omega
     have hcq2:=hcq kk m N ((fillB (leftL TN z (kk+1)) s).map fun b=>[.v (.bool b)]) TN[s] (by omega) (fun x hx=>by
      rw [hLl];exact htm _ (List.getElem_mem hltT) x hx) (hTl s hltT)
     rw [show kk+1+1+m=d+1 by omega] at hcq2;generalize TN[s]=R at hXs hcq2 hfs;generalize anyX R (leftL TN z kk)=b at hcq2 hfs
     have qf:=(Aq fw (Aq @hlt2 @hXs))
     refine rgqv [0,1,6,8,9,10,11,78,79,80] [46,8,9,73] ?_;refine AW_rqce (tyOf_good _) (by kernel_rfl) ([7]) (List.range 10) (by kernel_rfl) fun K' hK'=>?_;(repeat (refine sxqc_nextO rfl fun K2 hK2=>?_;simp [nilC_tr,nilC_kill,cdL_tr,cdL_kill,cdL_len,hD0,hlenC,hkd4,hsF,hlt];(repeat (refine ⟨by omega,?_⟩));refine hK2 _ ?_;clear hK2 K2));refine sxqc_nextO rfl fun K2 hK2=>?_;simp [nilC_tr,nilC_kill,cdL_tr,cdL_kill,cdL_len,hD0,hlenC,hkd4,hsF,hlt];refine hqK.mc (hcq2) (by simp [nilC_tr,nilC_kill,cdL_tr,cdL_kill,cdL_len,hD0,hlenC,hkd4,hsF,hlt]) (by simp [nilC_tr,nilC_kill,cdL_tr,cdL_kill,cdL_len,hD0,hlenC,hkd4,hsF,hlt]) (by simp [nilC_tr,nilC_kill,cdL_tr,cdL_kill,cdL_len,hD0,hlenC,hkd4,hsF,hlt]) (by simp [nilC_tr,nilC_kill,cdL_tr,cdL_kill,cdL_len,hD0,hlenC,hkd4,hsF,hlt]) (by simp [nilC_tr,nilC_kill,cdL_tr,cdL_kill,cdL_len,hD0,hlenC,hkd4,hsF,hlt];exact hlst_same (by simp) (by simp)) ?_;simp [nilC_tr,nilC_kill,cdL_tr,cdL_kill,cdL_len,hD0,hlenC,hkd4,hsF,hlt];refine hK2 _ ?_;clear hK2 K2;(repeat (refine sxqc_nextO rfl fun K2 hK2=>?_;simp [nilC_tr,nilC_kill,cdL_tr,cdL_kill,cdL_len,hD0,hlenC,hkd4,hsF,hlt];(repeat (refine ⟨by omega,?_⟩));refine hK2 _ ?_;clear hK2 K2));refine sxqc_nilO (hK' _ ?_);clear hK' K';refine hK8 _ (AW.norm [0,1,6,8,9,78,79,80] [46,8,9,73] (fun _ _=>trivial) (AW.st (by simp [nilC_tr,nilC_kill,cdL_tr,cdL_kill,cdL_len,hD0,hlenC,hkd4,hsF,hlt];rfl) ?_));refine AW_re (tyOf_good _) fun K' hK'=>?_;(repeat (refine sxn fun K2 hK2=>?_;simp [nilC_tr,nilC_kill,cdL_tr,cdL_kill,cdL_len];(repeat (refine ⟨by omega,?_⟩));refine hK2 _ ?_;clear hK2 K2));refine sxz (hK' _ ?_);clear hK' K';(try simp only [thn,inb]);refine Again.mk (s+1) (by omega) (by omega) ?_;rw [← hfs];refine Imp.to' (fun _ _=>trivial) (by simp [nilC_tr,nilC_kill,cdL_tr,cdL_kill,cdL_len,List.map_set,nilC_tr,cdL_tr]) (by simp [nilC_tr,nilC_kill,cdL_tr,cdL_kill,cdL_len,List.map_set,nilC_tr,cdL_tr])
    ·obtain rfl:s=N:=by omega
     have hlt3:¬ (s:Int) < (NX.length:Int):=by omega
     refine AW_cond false (by simp<;>omega) (fun h=>by cases h) (fun _=>?_);refine AW_exit (hK6 _ ?_)
     have hfa2:fillB (leftL TN z (kk+1)) s=leftL TN z (kk+1):=by
      have:=fillB_all (leftL TN z (kk+1))
      rw [hLl,hN] at this;exact this
     rw [hfa2]
     have hll:((leftL TN z (kk+1)).map fun b=>[D.v (.bool b)]).length=s:=by rw [List.length_map,hLl,hN]
     refine AW.imp (Imp.freeze 73 trivial) ?_;refine AW.st (by simp [nilC_tr,nilC_kill,cdL_tr,cdL_kill,cdL_len,hll,List.take_of_length_le];rfl) ?_;refine AW_then fun K9 hK9=>?_;refine rgq fw [0,1,6,8,95] [46,8] ?_;refine reK fw hK9 [0,1,6,8,9] [46,8,9] ?_;refine AW_re (tyOf_good _) fun K' hK'=>?_;(repeat (refine sxn fun K2 hK2=>?_;simp [nilC_tr,nilC_kill,cdL_tr,cdL_kill,cdL_len];(repeat (refine ⟨by omega,?_⟩));refine hK2 _ ?_;clear hK2 K2));refine sxz (hK' _ ?_);clear hK' K';try simp only [thn,inb]
     have hcs:=cdL_succ TN z (kk+1)
     have hm2:d+1 - (kk+1+1)=m:=by omega
     refine Again.mk (kk+1+1) ⟨by omega,by omega⟩ (by omega) ?_;rw [hcs,hm2];refine Imp.to' (fun _ _=>trivial) (by simp [nilC_tr,nilC_kill,cdL_tr,cdL_kill,cdL_len,List.append_assoc,nilC_tr,cdL_tr]) (by simp [nilC_tr,nilC_kill,cdL_tr,cdL_kill,cdL_len,List.append_assoc,nilC_tr,cdL_tr])
  ·obtain rfl:k=d+1:=by omega
   have hkd3:¬ (d:Int)+1≤(d:Int):=by omega
   have hz0:d+1 - (d+1)=0:=by omega
   rw [hz0];simp only [List.replicate_zero,List.append_nil]
   have qf:=(Aq fw (Aq @hzF (Aq @hd @hkd3)))
   refine rdqv [0,1,6,8,9,64] [46,8,9] ?_;refine AW_cond false (by simp<;>omega) (fun h=>by cases h) (fun _=>?_);refine AW_exit (hK4 _ ?_);refine rgq fw [0,1,6,8,12] [46,8] ?_;refine rgq fw [0,1,6,8,12,13] [46,8] ?_;refine AW_then fun K10 hK10=>?_
   have qf:=(Aq fw (Aq @hzF @hd))
   refine rgqv [0,8,12,13,14] [46,8,14] ?_;generalize hW:wayG TN z d 0=W;refine AW_for (S:=Nat×Nat×List Int) (fun q=>q.1≤d∧q.2.1 < TN.length∧GoesN TN q.1 q.2.1 z∧q.2.2.length≤d∧q.2.2 ++ wayG TN z q.1 q.2.1=W∧q.2.2.length+q.1=d) (fun q=>⟨lst [(0,.d (.ip [.sl none NN,.sl none RR,.v (.int .i64 N),.v (.int .i64 (inN p)),.sl none NX,.sl none PT,.sl none IN])),(8,.ref 8 0 0),(12,.own 905 0 q.2.2.length),(13,int q.2.1),(14,.ref 14 0 0)],hlst [(46,.box 67 (cdL TN z (d+1))),(8,.box 63 [.own 46 0 (d+1)]),(14,.box 3 [int q.1]),(905,.sl 3 1 (q.2.2.map fun n=>[.v (.int .i64 n)]))]⟩) (fun q=>q.1) (d,0,[]) ?_ ⟨by simp,by dsimp only;omega,hgo,by simp,hW,by simp⟩ ?_
   ·refine (Imp.adopt 12 905 3 1 rfl rfl).trans ?_;refine Imp.to' (fun _ _=>trivial) (by simp [nilC_tr,nilC_kill,cdL_tr,cdL_kill,cdL_len,nilC_tr,cdL_tr,cdL_kill]) (by simp [nilC_tr,nilC_kill,cdL_tr,cdL_kill,cdL_len,nilC_tr,cdL_tr,cdL_kill])
   ·rintro ⟨k,s,out⟩ ⟨hk,hs,hg,hol,how,hsum⟩
    dsimp only at hk hs hg hol how hsum ⊢
    have hOl:(out.map fun n=>[D.v (.int .i64 n)]).length=out.length:=by simp
    refine AW_then fun K11 hK11=>?_
    cases k with
    | zero=>
     rw [hway0,List.append_nil] at how;subst how;refine rgq fw [0,8,12,13,14,101] [46,8,14,905] ?_;refine AW_cond false (by simp) (fun h=>by cases h) (fun _=>?_);refine AW_exit (hK10 _ ?_);refine AW.imp (Imp.freeze 905 trivial) ?_;refine AW.st (by simp [nilC_tr,nilC_kill,cdL_tr,cdL_kill,cdL_len,hOl,List.take_of_length_le];rfl) ?_;refine rgq fw [4,5] [] ?_;refine AW_ret ?_;simp [D.le,D.le.go,takeMap,nilC_tr,nilC_kill,cdL_tr,cdL_kill,cdL_len,D.le_refl,D.leGo_refl,hW]
    | succ k=>
     have hkp:(k:Int)+1 > 0:=by omega
     have qf:=(Aq fw @hkp)
     refine rgqv [0,8,12,13,14,101] [46,8,14,905] ?_;refine AW_cond true (by simp<;>omega) (fun _=>?_) (fun h=>by cases h);refine AW_skip (hK11 _ ?_);refine AW_then fun K12 hK12=>?_;refine AW_block ?_
     have hsN:s < N:=by omega
     have hsX:s < NX.length:=by omega
     have hXs:NX[s]=[.sl none (TN[s].map fun n=>[.v (.int .i64 n)])]:=by
      have hXg:=hNg s hs
      rw [List.getElem?_eq_getElem hsX] at hXg;exact Option.some.inj hXg
     obtain ⟨hi,he,v0,v1,hg2⟩:=hstep k s hs hg
     have hwk:=hway k s hs
     rw [getD_of hi] at hwk
     have hiq2:=hiq k N (by omega) TN[s] (fun x hx=>by
      rw [hLl];exact htm _ (List.getElem_mem hs) x hx) (hTl s hs)
     rw [he] at hiq2;rw [hwk] at how
     obtain ⟨u,hu⟩:=Int.eq_ofNat_of_zero_le v0
     rw [hu,Int.toNat_natCast] at v1 hg2 how
     have hRl:(TN[s].map fun n=>[D.v (.int .i64 n)]).length=TN[s].length:=by simp
     generalize stepI TN z k s=i at *;generalize TN[s]=R at *
     have qf:=(Aq fw (Aq @hsX @hXs))
     refine rgmv hiq2 [0,8,12,13,14,15] [46,8,14,905] ?_;refine rg [0,8,12,13,14,15] [46,8,14,905] (fun _ _=>trivial) fun K' hK'=>?_;(repeat (refine sxn fun K2 hK2=>?_;simp [nilC_tr,nilC_kill,cdL_tr,cdL_kill,cdL_len,hOl,List.take_of_length_le];(repeat (refine ⟨by omega,?_⟩));refine hK2 _ ?_;clear hK2 K2));refine sxz (hK' _ (AW.st (by simp [nilC_tr,nilC_kill,cdL_tr,cdL_kill,cdL_len,hOl,List.take_of_length_le];rfl) ?_));clear hK' K'
     have qf:=(Aq fw (Aq @hsX (Aq @hXs (Aq @hi @hu))))
     refine reKv hK12 [0,8,12,13,14] [46,8,14,905] ?_;refine AW_then fun K13 hK13=>?_;refine rgq fw [0,8,12,13,127] [46,8,905] ?_;refine reK fw hK13 [0,8,12,13,14] [46,8,14,905] ?_;refine AW_re (tyOf_good _) fun K' hK'=>?_;(repeat (refine sxn fun K2 hK2=>?_;simp [nilC_tr,nilC_kill,cdL_tr,cdL_kill,cdL_len];(repeat (refine ⟨by omega,?_⟩));refine hK2 _ ?_;clear hK2 K2));refine sxz (hK' _ ?_);clear hK' K';(try simp only [thn,inb]);refine Again.mk (k,u,out ++ [(i:Int)]) ⟨by dsimp only;omega,v1,hg2,by dsimp only;rw [List.length_append];simp only [List.length_cons,List.length_nil];omega,by rw [List.append_assoc];exact how,by dsimp only;rw [List.length_append];simp only [List.length_cons,List.length_nil];omega⟩ (by dsimp only;omega) ?_;refine Imp.to' (fun _ _=>trivial) (by simp [nilC_tr,nilC_kill,cdL_tr,cdL_kill,cdL_len,nilC_tr,cdL_tr,cdL_kill]) (by simp [nilC_tr,nilC_kill,cdL_tr,cdL_kill,cdL_len,nilC_tr,cdL_tr,cdL_kill])
end Go.Proofs.YtpboiimemmfkiaaGreatDoor
namespace Go.Proofs.YtpboiimemmfkiaaGreatDoor
open Go.Av
theorem far_bound {NX:List (List Int)} (ht:TabN NX):∀ s,s < NX.length→(farN NX).getD s 0 < NX.length:=by
 have h:∀ (n:Nat) (O T:List Int),Bfs NX O T→2 * negN O+T.length≤n→∃ F,IsFar NX F∧∀ s,s < NX.length→F.getD s 0 < NX.length:=by
  intro n
  induction n with
  | zero=>
   intro O T h hn
   obtain rfl:T=[]:=List.eq_nil_of_length_eq_zero (by omega)
   exact ⟨O,bfs_end h,fun s hs=>by have:=h.hi s hs;omega⟩
  | succ n ih=>
   intro O T h hn
   cases T with
   | nil=>exact ⟨O,bfs_end h,fun s hs=>by have:=h.hi s hs;omega⟩
   | cons t T=>
    obtain ⟨h0,h1,_⟩:=h.mem t (by simp)
    obtain ⟨s,rfl⟩:=Int.eq_ofNat_of_zero_le h0
    obtain ⟨O',T',g1,g2,g3⟩:=bfs_row ht (s:=s) (by omega) NX[s] [] O T rfl h (by simp)
    simp only [List.length_cons] at hn;exact ih O' T' (bfs_pop g1 (by omega) g2) (by omega)
 obtain ⟨F,h1,h2⟩:=h _ _ _ (bfs_start ht) (Nat.le_refl _)
 rw [far_unique (farN_is ht) h1];exact h2
theorem way_far {NX:List (List Int)} (ht:TabN NX) {F:List Int} (hF:IsFar NX F) {z d:Nat} (hz:z < NX.length) (hd:F.getD z 0=(d:Int)):∀ j,j≤d→runN NX 0 ((wayG NX z d 0).take j) < NX.length∧0≤F.getD (runN NX 0 ((wayG NX z d 0).take j)) 0∧F.getD (runN NX 0 ((wayG NX z d 0).take j)) 0≤j:=by
 have hrun:=(way_run ht hz d 0 ht.pos (far_goes hF d z hz hd)).2
 intro j
 induction j with
 | zero=>
  intro _
  rw [List.take_zero,runN,hF.zero];exact ⟨ht.pos,by omega,by omega⟩
 | succ j ih=>
  intro hj
  obtain ⟨g1,g2,g3⟩:=ih (by omega)
  obtain ⟨t,h1,h2,i,h3,h4,h5,h6,h7⟩:=hrun j (by omega)
  rw [h2] at g2 g3
  have:=hF.step t h1 g2 _ (List.getElem_mem h3)
  rw [h7];exact ⟨h6,by omega,by omega⟩
theorem way_round {NX:List (List Int)} (ht:TabN NX) {F:List Int} (hF:IsFar NX F) {z d:Nat} (hz:z < NX.length) (hd:F.getD z 0=(d:Int)) {j:Nat} (hj:j < d):∃ t i u:Nat,∃ h1:t < NX.length,∃ h2:i < NX[t].length,runN NX 0 ((wayG NX z d 0).take j)=t∧(wayG NX z d 0).getD j 0=(i:Int)∧NX[t][i]=(u:Int)∧u < NX.length∧runN NX 0 ((wayG NX z d 0).take (j+1))=u∧F.getD u 0≤(j:Int)+1:=by
 obtain ⟨t,h1,h2,i,h3,h4,h5,h6,h7⟩:=(way_run ht hz d 0 ht.pos (far_goes hF d z hz hd)).2 j hj
 obtain ⟨u,hu⟩:=Int.eq_ofNat_of_zero_le h5
 have hf:=(way_far ht hF hz hd (j+1) (by omega)).2.2
 rw [h7] at hf;rw [hu,Int.toNat_natCast] at h6 h7 hf;exact ⟨t,i,u,h1,h3,h2,h4,hu,h6,h7,by omega⟩
set_option maxRecDepth 100000 in
set_option maxHeartbeats 32000000 in
theorem rpaths_law (G:Glob) (hM:HasMax G) (hP:HasP10 G) (hG:HasErr G) {es er:Value} (hE:HasNE G es er) (t:Tx) (to':Int):PureC Tryz.prog G 7 [dS t,dNum to'] (.v (.bool true)):=by
 have hmd:=made_spec G hM hP hG hE t 300 (by decide) (by decide)
 have hre:=reached_spec G hM hP hG hE
 cases hma:madeP t 300 with
 | none=>
  rw [hma] at hmd;simp only [dMade,dS,dNum] at hmd ⊢;refine PureC.of_body (tyOf_good _) Tryz.func7 rfl rfl (rs:=[.tmp 4]) Tryz.results7 (by simp [Tryz.ntmps7]) fun X=>?_;simp only [Tryz.ntmps7,List.map];refine rg0 [0,1] [] ?_;refine rgc trivial hmd [1,5,6] [] ?_;refine AW_then fun K1 hK1=>?_;refine rg0 [1,5,22] [] ?_;refine AW_tt rfl ?_;refine rgc trivial hre [4] [] ?_;refine AW_ret ?_;simp [D.le,D.le.go,takeMap]
 | some p=>
  rw [hma] at hmd
  obtain ⟨hck,hk,hi4,hPr⟩:=madeP_some hma
  have ht:=tab_next hck
  have hpp:0 < prodP (partsP p):=prodP_pos fun x hx=>(parts_good (checkP_good hck) hx).m2
  have hlen:=nextP_len p
  have hcast:((nextP p).length:Int)=prodP (partsP p):=by rw [hlen];omega
  have hn300:(nextP p).length≤300:=by omega
  have hrl:∀ s (h:s < (nextP p).length),(nextP p)[s].length=inN p:=fun s h=>by rw [nextP_at h,rowP_len];rfl
  have hpos:=ht.pos
  have hpk:=pk_spec G to' (nextP p).length hpos (by omega)
  have hzl:=(pkF_is to' hpos).2
  have hFA:=farN_is ht
  have hfar:=far_spec G p hck (by omega) (by omega)
  have hAl:=hFA.len
  have hfb:=far_bound ht
  have hlo:=hFA.lo
  have hst:=hFA.step
  have htm:=ht.mem
  generalize pkF to' (nextP p).length=z at *
  have hzF:z < (farN (nextP p)).length:=by omega
  have hNXl:=nxD_len (nextP p)
  have hNg:∀ s (h:s < (nextP p).length),(nxD (nextP p))[s]? = some [dIl (nextP p)[s]]:=fun s h=>by simp [nxD,h]
  by_cases hneg:(farN (nextP p)).getD z 0 < 0
  ·have hpa:=path_none G p hck (by omega) (by omega) z hzl hneg
   have htl:=tell_spec G hG (some (8,none))
   rw [getD_of hzF] at hneg
   have hcod:codeF (some (8,none))=8:=rfl
   rw [hcod] at htl;simp only [dMade,dMc,dMa,cMa,dNms,dRgs,dPas,dIl,dBl,dBs,dS,dNum,dErr,← hcast] at hmd hfar hpk hpa htl ⊢;generalize farN (nextP p)=FA at *;generalize nxD (nextP p)=NX at *
   obtain ⟨N,hN⟩:∃ N:Nat,(nextP p).length=N:=⟨_,rfl⟩
   rw [hN] at hmd hfar hpk hpa hAl hn300 hpos hzl;generalize inN p=NI at *;generalize ((inputP p).map fun n=>[D.v (.int .i64 n)])=IN at *;generalize (partsP p).map cPa=PT at *;generalize p.names.map cNm=NN at *;generalize p.rungs.map cRg=RR at *;generalize hfz:FA[z]=fz at *;refine PureC.of_body (tyOf_good _) Tryz.func7 rfl rfl (rs:=[.tmp 4]) Tryz.results7 (by simp [Tryz.ntmps7]) fun X=>?_;simp only [Tryz.ntmps7,List.map];refine rg0 [0,1] [] ?_;refine rgc trivial hmd [1,5,6] [] ?_;refine AW_then fun K1 hK1=>?_;refine rg0 [1,5,22] [] ?_;refine AW_ff rfl ?_;refine AW_skip (hK1 _ ?_);refine rgc trivial hfar [1,5,7,8] [] ?_;refine rgc trivial hpk [1,5,7,8] [] ?_;refine rgc trivial hpa [1,5,7,8,9,10] [] ?_;refine AW_then fun K2 hK2=>?_
   have qf:=@hAl
   refine rgcv hre [1,5,7,9,10,55] [] ?_;refine AW_cond false (by simp<;>omega) (fun h=>by cases h) (fun _=>?_);refine AW_skip (hK2 _ ?_);refine AW_then fun K3 hK3=>?_
   have qf:=(Aq @hzF (Aq @hfz @hneg))
   refine rgqv [1,5,7,9,10,60] [] ?_;refine AW_cond true (by simp<;>omega) (fun _=>?_) (fun h=>by cases h);refine rgc trivial htl [4] [] ?_;refine AW_ret ?_;simp [D.le,D.le.go,takeMap]
  ·obtain ⟨d,hd⟩:=Int.eq_ofNat_of_zero_le (show 0≤(farN (nextP p)).getD z 0 by omega)
   have hdN:=hfb z hzl
   have hpa:=path_good G p hck (by omega) (by omega) z hzl d hd (by omega)
   have hrnd:=fun j (hj:j < d)=>way_round ht hFA hzl hd hj
   have hend:=(way_run ht hzl d 0 hpos (far_goes hFA d z hzl hd)).1
   have hWl:=wayG_len (nextP p) z d 0
   obtain ⟨sN,hsN⟩:∃ sN:Nat→Nat,∀ j,runN (nextP p) 0 ((wayG (nextP p) z d 0).take j)=sN j:=⟨_,fun _=>rfl⟩
   have hs0:sN 0=0:=by rw [← hsN,List.take_zero];rfl
   have hsd:sN d=z:=by rw [← hsN,List.take_of_length_le (by omega)];exact hend
   simp only [hsN] at hrnd;clear hsN hend
   have hd300:d≤300:=by omega
   rw [getD_of hzF] at hd;generalize hW:wayG (nextP p) z d 0=W at *;clear hW hFA ht;simp only [dMade,dMc,dMa,cMa,dNms,dRgs,dPas,dIl,dBl,dBs,dS,dNum,← hcast] at hmd hfar hpk hpa hNg ⊢;clear hlen hcast hPr hpp hneg;generalize farN (nextP p)=FA at *;generalize nxD (nextP p)=NX at *;generalize nextP p=TN at *
   obtain ⟨N,hN⟩:∃ N:Nat,TN.length=N:=⟨_,rfl⟩
   rw [hN] at hmd hfar hpk hpa hAl hn300 hpos hzl hNXl
   have hNIp:=inN_pos p
   have hNIl:=inN_le hi4
   generalize inN p=NI at *;generalize ((inputP p).map fun n=>[D.v (.int .i64 n)])=IN at *;generalize (partsP p).map cPa=PT at *;generalize p.names.map cNm=NN at *;generalize p.rungs.map cRg=RR at *
   have hd0:¬ (d:Int) < 0:=by omega
   refine PureC.of_body (tyOf_good _) Tryz.func7 rfl rfl (rs:=[.tmp 4]) Tryz.results7 (by simp [Tryz.ntmps7]) fun X=>?_;simp only [Tryz.ntmps7,List.map]
   have fw:=@dNum.eq_1
   refine rgq fw [0,1] [] ?_;refine rgc fw hmd [1,5,6] [] ?_;refine AW_then fun K1 hK1=>?_;refine rgq fw [1,5,22] [] ?_;refine AW_ff rfl ?_;refine AW_skip (hK1 _ ?_);refine rgc fw hfar [1,5,7,8] [] ?_;refine rgc fw hpk [1,5,7,8] [] ?_;refine rgc fw hpa [1,5,7,8,9,10] [] ?_;refine AW_then fun K2 hK2=>?_
   have qf:=(Aq fw @hAl)
   refine rgcv hre [1,5,7,9,10,55] [] ?_;refine AW_cond false (by simp<;>omega) (fun h=>by cases h) (fun _=>?_);refine AW_skip (hK2 _ ?_);refine AW_then fun K3 hK3=>?_
   have qf:=(Aq fw (Aq @hzF (Aq @hd @hd0)))
   refine rgqv [1,5,7,9,10,60] [] ?_;refine AW_cond false (by simp<;>omega) (fun h=>by cases h) (fun _=>?_);refine AW_skip (hK3 _ ?_);refine AW_then fun K4 hK4=>?_
   have qf:=(Aq fw (Aq @hzF (Aq @hd @hWl)))
   refine rgqv [1,5,7,9,74] [] ?_;refine AW_cond false (by simp<;>omega) (fun h=>by cases h) (fun _=>?_);refine AW_skip (hK4 _ ?_);refine rgq fw [1,5,7,9,11] [] ?_;refine AW_then fun K5 hK5=>?_;refine rgq fw [1,5,7,9,11,12] [] ?_;refine AW_for (S:=Nat) (fun j=>j≤d) (fun j=>⟨lst [(1,int z),(5,.d (.ip [.sl none NN,.sl none RR,.v (.int .i64 N),.v (.int .i64 NI),.sl none NX,.sl none PT,.sl none IN])),(7,.d (.sl none (FA.map fun n=>[.v (.int .i64 n)]))),(9,.d (.sl none (W.map fun n=>[.v (.int .i64 n)]))),(11,int (sN j)),(12,int j)],hlst []⟩) (fun j=>d - j) 0 ?_ (by omega) ?_
   ·rw [hs0];refine Imp.to' (fun _ _=>trivial) (by simp [dNum]) (by simp [dNum])
   ·intro j hj
    refine AW_then fun K6 hK6=>?_
    by_cases hlt:j < d
    ·have hjW:j < W.length:=by omega
     obtain ⟨a,i,u,ha,hi,hsa,hwi,hvu,hu,hsu,hfu⟩:=hrnd j hlt
     have haX:a < NX.length:=by omega
     have hXs:NX[a]=[.sl none (TN[a].map fun n=>[.v (.int .i64 n)])]:=by
      have hXg:=hNg a ha
      rw [List.getElem?_eq_getElem haX] at hXg;exact Option.some.inj hXg
     have hra:=hrl a ha
     have huF:u < FA.length:=by omega
     rw [getD_of hjW] at hwi;rw [getD_of huF] at hfu
     have hiN:¬ NI≤i:=by omega
     have hi0:¬ (i:Int) < 0:=by omega
     generalize TN[a]=R at *;generalize hfv:FA[u]=fv at *
     have hfv1:¬ fv > (j:Int)+1:=by omega
     rw [hsa]
     have qf:=(Aq fw @hjW)
     refine rgqv [1,5,7,9,11,12,78] [] ?_;refine AW_cond true (by simp<;>omega) (fun _=>?_) (fun h=>by cases h);refine AW_skip (hK6 _ ?_);refine AW_then fun K7 hK7=>?_;refine AW_block ?_;refine AW_then fun K8 hK8=>?_
     have qf:=(Aq fw (Aq @hjW (Aq @hwi (Aq @hi0 @hiN))))
     refine rdqv [1,5,7,9,11,12,96] [] ?_;refine AW_cond false (by simp<;>omega) (fun h=>by cases h) (fun _=>?_);refine AW_skip (hK8 _ ?_)
     have qf:=(Aq fw (Aq @hjW (Aq @hwi (Aq @haX (Aq @hXs (Aq @hi @hvu))))))
     refine rdqv [1,5,7,9,11,12] [] ?_
     have qf:=(Aq fw (Aq @huF (Aq @hfv @hfv1)))
     refine rgqv [1,5,7,9,11,12,116] [] ?_;refine AW_cond false (by simp<;>omega) (fun h=>by cases h) (fun _=>?_);refine AW_skip (hK7 _ ?_);refine AW_re (tyOf_good _) fun K' hK'=>?_;(repeat (refine sxn fun K2 hK2=>?_;simp [dNum];(repeat (refine ⟨by omega,?_⟩));refine hK2 _ ?_;clear hK2 K2));refine sxz (hK' _ ?_);clear hK' K';(try simp only [thn,inb]);refine Again.mk (j+1) (by omega) (by omega) ?_;rw [hsu];refine Imp.to' (fun _ _=>trivial) (by simp [dNum]) (by simp [dNum])
    ·obtain rfl:j=d:=by omega
     rw [hsd]
     have qf:=(Aq fw @hWl)
     refine rgqv [1,5,7,9,11,12,78] [] ?_;refine AW_cond false (by simp<;>omega) (fun h=>by cases h) (fun _=>?_);refine AW_exit (hK5 _ ?_);refine AW_then fun K9 hK9=>?_;refine rgq fw [1,5,7,11,13] [] ?_;refine AW_for (S:=Nat) (fun a=>a≤N) (fun a=>⟨lst [(1,int z),(5,.d (.ip [.sl none NN,.sl none RR,.v (.int .i64 N),.v (.int .i64 NI),.sl none NX,.sl none PT,.sl none IN])),(7,.d (.sl none (FA.map fun n=>[.v (.int .i64 n)]))),(11,int z),(13,int a)],hlst []⟩) (fun a=>N - a) 0 ?_ (by omega) ?_
     ·refine Imp.to' (fun _ _=>trivial) (by simp [dNum]) (by simp [dNum])
     ·intro a ha
      refine AW_then fun K10 hK10=>?_;refine rgq fw [1,5,7,11,13,122] [] ?_;refine AW_cond' (b:=a < N) (by simp [D.le,D.le.go,takeMap,dNum]) (fun hc=>?_) (fun hc=>?_)
      ·refine AW_skip (hK10 _ ?_);refine AW_then fun K11 hK11=>?_;refine AW_block ?_
       have haT:a < TN.length:=by omega
       have haX:a < NX.length:=by omega
       have hXs:NX[a]=[.sl none (TN[a].map fun n=>[.v (.int .i64 n)])]:=by
        have hXg:=hNg a haT
        rw [List.getElem?_eq_getElem haX] at hXg;exact Option.some.inj hXg
       have hra:=hrl a haT
       have hsa:=hst a haT
       have hta:=htm _ (List.getElem_mem haT)
       have haF:a < FA.length:=by omega
       have hla:=hlo a haT
       have hba:=hfb a haT
       rw [getD_of haF] at hsa hla hba;generalize TN[a]=R at *;generalize hfa:FA[a]=fa at *;refine rgq fw [1,5,7,11,13,14] [] ?_;refine AW_for (S:=Nat) (fun i=>i≤NI) (fun i=>⟨lst [(1,int z),(5,.d (.ip [.sl none NN,.sl none RR,.v (.int .i64 N),.v (.int .i64 NI),.sl none NX,.sl none PT,.sl none IN])),(7,.d (.sl none (FA.map fun n=>[.v (.int .i64 n)]))),(11,int z),(13,int a),(14,int i)],hlst []⟩) (fun i=>NI - i) 0 ?_ (by omega) ?_
       ·refine Imp.to' (fun _ _=>trivial) (by simp [dNum]) (by simp [dNum])
       ·intro i hi
        refine AW_then fun K12 hK12=>?_;refine rgq fw [1,5,7,11,13,14,130] [] ?_
        by_cases hil:i < NI
        ·refine AW_cond true (by simp<;>omega) (fun _=>?_) (fun h=>by cases h);refine AW_skip (hK12 _ ?_);refine AW_then fun K13 hK13=>?_;refine AW_block ?_
         have hiR:i < R.length:=by omega
         obtain ⟨v0,v1⟩:=hta R[i] (List.getElem_mem hiR)
         obtain ⟨u,hu⟩:=Int.eq_ofNat_of_zero_le v0
         have huF:u < FA.length:=by omega
         have hsu:=fun h0=>hsa h0 R[i] (List.getElem_mem hiR)
         rw [hu,Int.toNat_natCast,getD_of huF] at hsu;generalize hfu:FA[u]=fu at *
         have qf:=(Aq fw (Aq @haX (Aq @hXs (Aq @hiR @hu))))
         refine rgqv [1,5,7,11,13,14,15] [] ?_
         by_cases hge:fa ≥ 0
         ·obtain ⟨g1,g2⟩:=hsu (by omega)
          have g3:¬ fu < 0:=by omega
          have g4:¬ fu > fa+1:=by omega
          have qf:=(Aq fw (Aq @haF (Aq @hfa (Aq @hge (Aq @huF (Aq @hfu (Aq @g3 @g4)))))))
          refine rdqv [1,5,7,11,13,14,166] [] ?_;refine AW_cond false (by simp<;>omega) (fun h=>by cases h) (fun _=>?_);refine AW_skip (hK13 _ ?_);refine AW_re (tyOf_good _) fun K' hK'=>?_;(repeat (refine sxn fun K2 hK2=>?_;simp [dNum];(repeat (refine ⟨by omega,?_⟩));refine hK2 _ ?_;clear hK2 K2));refine sxz (hK' _ ?_);clear hK' K';(try simp only [thn,inb]);refine Again.mk (i+1) (by omega) (by omega) ?_;refine Imp.to' (fun _ _=>trivial) (by simp [dNum]) (by simp [dNum])
         ·have qf:=(Aq fw (Aq @haF (Aq @hfa @hge)))
          refine rdqv [1,5,7,11,13,14,166] [] ?_;refine AW_cond false (by simp<;>omega) (fun h=>by cases h) (fun _=>?_);refine AW_skip (hK13 _ ?_);refine AW_re (tyOf_good _) fun K' hK'=>?_;(repeat (refine sxn fun K2 hK2=>?_;simp [dNum];(repeat (refine ⟨by omega,?_⟩));refine hK2 _ ?_;clear hK2 K2));refine sxz (hK' _ ?_);clear hK' K';(try simp only [thn,inb]);refine Again.mk (i+1) (by omega) (by omega) ?_;refine Imp.to' (fun _ _=>trivial) (by simp [dNum]) (by simp [dNum])
        ·obtain rfl:i=NI:=by omega
         refine AW_cond false (by simp<;>omega) (fun h=>by cases h) (fun _=>?_);refine AW_exit (hK11 _ ?_);refine AW_re (tyOf_good _) fun K' hK'=>?_;(repeat (refine sxn fun K2 hK2=>?_;simp [dNum];(repeat (refine ⟨by omega,?_⟩));refine hK2 _ ?_;clear hK2 K2));refine sxz (hK' _ ?_);clear hK' K';(try simp only [thn,inb]);refine Again.mk (a+1) (by omega) (by omega) ?_;refine Imp.to' (fun _ _=>trivial) (by simp [dNum]) (by simp [dNum])
      ·obtain rfl:a=N:=by omega
       refine AW_exit (hK9 _ ?_);refine rgq fw [4] [] ?_;refine AW_ret ?_;simp [D.le,D.le.go,takeMap,dNum]
end Go.Proofs.YtpboiimemmfkiaaGreatDoor
namespace Go.Proofs.YtpboiimemmfkiaaGreatDoor
open Go.Av Go.ChangeShapes Go.WideShapes Go.ChangeAt Go.RowKit
theorem law_own:ownKnob Tryz.prog.godebug=none:=by kernel_rfl
theorem law_laidOut:laidOutB Tryz.prog=true:=by kernel_rfl
section
variable {H:Type} {enc:TypeId×Value→H} {w:World} {base:Nat} {spare:Nat→Bool} {held:Bool} {X:Nat→Prop}
end
end Go.Proofs.YtpboiimemmfkiaaGreatDoor
