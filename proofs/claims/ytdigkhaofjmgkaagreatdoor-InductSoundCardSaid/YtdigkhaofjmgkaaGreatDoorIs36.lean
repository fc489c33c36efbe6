/-
  Texts that belong together,in one file: MA2,MA3,MA4,PR2,IN0,PR1,Av41,Av42.
-/
import Derived.Test.YtdigkhaofjmgkaaGreatDoorIs35
set_option linter.unusedSectionVars false
set_option linter.unusedSimpArgs false
set_option linter.unusedVariables false
namespace Go.Proofs.YtdigkhaofjmgkaaGreatDoor
open Go.Av
theorem Xa {V:Nat} (h:V<=6):IntKind.i64.wrap (2 ^ (min V IntKind.i64.bits))=((2^V:Nat):Int):=by
 have:V=0\/V=1\/V=2\/V=3\/V=4\/V=5\/V=6:=by omega
 rcases this with rfl | rfl | rfl | rfl | rfl | rfl | rfl<;>decide
def jX (n:Nat) (E:List Int):Nat->List Bool
 | 0=>List.replicate n false
 | j+1=>(jX n E j).set (E.getD j 0).toNat true
theorem uW (n:Nat) (E:List Int):∀ j,(jX n E j).length=n
 | 0=>by simp [jX]
 | j+1=>by rw [jX,List.length_set,uW]
theorem Js {n:Nat} {E:List Int} {i:Nat} (hi:i < n):∀ j,j<=E.length->((jX n E j).getD i false=true↔∃ q,q < j/\(E.getD q 0).toNat=i)
 | 0,_=>by
  rw [jX,ra];exact ⟨fun h=>(by cases h),fun ⟨q,hq,_⟩=>absurd hq (by omega)⟩
 | j+1,hj=>by
  rw [jX];by_cases e:(E.getD j 0).toNat=i
  .rw [<- e,gU (by rw [uW];omega)];exact ⟨fun _=>⟨j,by omega,rfl⟩,fun _=>rfl⟩
  .rw [ek e,Js hi j (by omega)];constructor
   .rintro ⟨q,hq,h⟩;exact ⟨q,by omega,h⟩
   .rintro ⟨q,hq,h⟩;refine ⟨q,Classical.byContradiction fun hn=>?_,h⟩
    obtain rfl:q=j:=by omega
    exact e h
theorem VJ (p:YN):jX p.names.length (ZL p p.names.length) (ZL p p.names.length).length=p.names.map (edB p):=by
 refine zD (d:=false) (by rw [uW];simp) fun i hi=>?_;rw [uW] at hi
 have e1:(p.names.map (edB p)).getD i false=edB p p.names[i]:=by rw [cr (by simpa using hi)];simp
 rw [e1];have h:=Js (E:=ZL p p.names.length) hi _ (Nat.le_refl _)
 have h2:(∃ q,q < (ZL p p.names.length).length/\((ZL p p.names.length).getD q 0).toNat=i)↔edB p p.names[i]=true:=by
  constructor
  .rintro ⟨q,hq,he⟩;rw [cr hq] at he;obtain ⟨k,hk,_,hx,ha⟩:=(qM (Nat.le_refl _)).1 (List.getElem_mem hq);rw [hx,Int.toNat_natCast] at he;subst he;exact ha
  .intro ha;obtain ⟨q,hq,he⟩:=List.mem_iff_getElem.1 ((qM (x:=(i:Int)) (Nat.le_refl _)).2 ⟨i,hi,hi,rfl,ha⟩);exact ⟨q,hq,by rw [cr hq,he];simp⟩
 rw [h2] at h
 cases h3:edB p p.names[i] with
 | true=>exact h.2 h3
 | false=>
  cases h4:(jX p.names.length (ZL p p.names.length) (ZL p p.names.length).length).getD i false with
  | true=>rw [h.1 h4] at h3;cases h3
  | false=>rfl
theorem W5 {p:YN} {q:Nat} (hq:q < (ZL p p.names.length).length):∃ i,i < p.names.length/\(ZL p p.names.length)[q]=(i:Int):=by
 obtain ⟨k,hk,_,hx,_⟩:=(qM (Nat.le_refl _)).1 (List.getElem_mem hq);exact ⟨k,hk,hx⟩
theorem aez {p:YN} {s:Nat} (h:s < (aO p).length):eD ((aO p).take (s+1))=eD ((aO p).take s) ++ [[eG (kB p (YR p).length s)]]:=by
 rw [List.take_succ_eq_append_getElem h,eD,eD,List.map_append,uJ h];rfl
theorem Vl {p:YN} {m s i:Nat} (h:i < 2 ^ m):(kB p m s).take (i+1)=(kB p m s).take i ++ [Z3 (bl p) (jB p (fY p s) (dO i m))]:=by
 have h':i < (kB p m s).length:=by rw [r6];exact h
 rw [List.take_succ_eq_append_getElem h',Vj]
set_option maxRecDepth 100000 in
set_option maxHeartbeats 32000000 in
theorem Tr (G:YJ) (p:YN) (aS:Y4 p=none) (hk:∀ r∈p.ar,j4 r) (ax:(YR p).length<=6) (hP:YV (bl p)<=4096):aq Tryz.prog G 15 [cA p] (.aT [jz p (YV (bl p)) ((2 ^ (YR p).length:Nat):Int) (eD (aO p)),.v .nilIface]):=by
 have hg:=ZV aS;have gZ:=hg.names;have bR:=Hq G p (VP aS hk);rw [aS] at bR;have jO:=adr G p (by omega) 1;have ny:gF p.names 1 p.names.length=YR p:=rfl;rw [ny] at jO
 have kR:=Hz G p (by omega) (by have:=hg.ar;omega) (fun r hr=>by
  obtain ⟨e,he,_,_,hb⟩:=hk r hr
  exact ⟨e,he,by omega⟩)
 rw [Ew aS] at kR;have Qg:=uW p.names.length (ZL p p.names.length);have Qf:=VJ p;have QD:=fun q (hq:q < (ZL p p.names.length).length)=>W5 hq;have QE:=fun q (hq:q < (ZL p p.names.length).length)=>(show jX p.names.length (ZL p p.names.length) (q+1)=(jX p.names.length (ZL p p.names.length) q).set ((ZL p p.names.length)[q]).toNat true by rw [jX,cr hq]);have Zn:jX p.names.length (ZL p p.names.length) 0=List.replicate p.names.length false:=rfl;have ij:=Di p p.names.length;have xg:=fun (nx:List (List D)) (n:Nat) (h1:(n:Int) < 4096)=>Tw G p aS (YV (bl p)) ((2 ^ (YR p).length:Nat):Int) nx n (by omega) (by omega);have wS:=fun (nx:List (List D)) (n:Nat)=>Tm G p aS (YV (bl p)) ((2 ^ (YR p).length:Nat):Int) nx n;have bK:=fun (nx:List (List D)) (s:Ze) (hs:eN p s)=>Tq G p aS (YV (bl p)) ((2 ^ (YR p).length:Nat):Int) nx s hs hP;have p0:=fun (s:Nat) (i:Nat)=>En G p aS hk (fY p s) (acJ aS s) (dO i (YR p).length) (uq _ _);have OS:=fun (s:Nat) (i:Nat)=>(zq aS (acJ aS s) (dO i (YR p).length)).1;have pV:∀ k (h:k < p.names.length),dJ p (k+1)=dJ p k ++ partOf p.names[k] (edB p p.names[k]) k:=fun k h=>ac2 h;have kh:=uO p;have Aa:dJ p p.names.length=bl p:=rfl;have hm2:∀ x∈bl p,2<=x.most:=fun x hx=>(jT hg hx).m2;have P0:=fun k (h:k < (bl p).length)=>UA h;have oQ:=fun k=>Iw hm2 k;have nE:0 < YV (bl p):=k9 hm2;have ez:=fun k=>(k9 (l:=(bl p).take k) fun x hx=>hm2 x (List.mem_of_mem_take hx));have hnt:=fun s (h:s < (aO p).length)=>aez h;have eJ:=nP p;have xc:=fun s i (h:i < 2 ^ (YR p).length)=>Vl (p:=p) (s:=s) h;have Z1:=fun s=>r6 p (YR p).length s;have nH:=Xa ax
 have Xi:2 ^ (YR p).length<=64:=by
  have:=Nat.pow_le_pow_right (n:=2) (by omega) ax;omega
 have oB:=hg.count;simp only [mz,YH,kN,iQ,eW,eG,iA] at xg wS bK p0;simp only [cA,cy,cz,cu,aR,jz,lv,iA,eG] at jO bR kR p0 xg wS bK hnt ⊢;generalize aO p=NXT at *;generalize Ac:kB p (YR p).length=DI at *;clear Ac;generalize ZL p p.names.length=E at *;generalize jX p.names.length E=SB at *
 have oA:((YR p).map fun x=>[D.v (.int .i64 x)]).length=(YR p).length:=by simp
 generalize ((YR p).map fun x=>[D.v (.int .i64 x)])=IN at *;generalize (YR p).length=m at *
 have me:(p.names.map bk).length=p.names.length:=by simp
 have iY:∀ i (h:i < p.names.length),(p.names.map bk)[i]? = some [.v (.string (bs p.names[i].name)),.v (.int .i64 p.names[i].kind),.v (.int .i64 p.names[i].count)]:=fun i h=>by simp [h,bk,dS]
 generalize p.names.map bk=NN at *;generalize p.ar.map bF=RR at *
 have zW:(E.map fun x=>[D.v (.int .i64 x)]).length=E.length:=by simp
 refine aq.aI (aw _) Tryz.func15 rfl rfl (rs:=[.tmp 2,.tmp 3]) Tryz.results15 (by simp [Tryz.ntmps15]) fun X=>?_;simp only [Tryz.ntmps15,List.map];have fw:=@YH.eq_1;refine ab fw [1] [1] ?_;refine cq fw 1 ?_;refine ae fun K1 ay=>?_;refine aP fw bR [1,4] [] ?_;refine ab fw [1,4,19] [] ?_;refine af rfl ?_;refine ao (ay _ ?_);refine US fw jO [1,5] [25] ?_;refine ae fun K2 aa=>?_
 have rq:¬ (IN.length:Int) > 6:=by omega
 have qf:=(Aq fw @rq);refine aB [1,5,31] [25] ?_;refine af (by simp<;>omega) ?_;refine ao (aa _ ?_);have qf:=(Aq fw (Aq @kD.eq_1 (Aq @kD.eq_2 (Aq @kD.eq_3 (Aq @oA @nH)))));refine aB [1,5] [25] ?_;refine ab (Aq fw (Aq @aeN.eq_1 (Aq @cM.eq_1 @cM.eq_2))) [1,5,6] [25,45] ?_;refine ae fun K3 YT=>?_;refine aP fw kR [1,5,6,47,48,49] [25,45] ?_;refine Zc (S:=Nat) (fun j=>j<=E.length) (fun j=>⟨aZ [(1,.d (.ip [.sl none NN,.sl none RR])),(5,.ref 25 0 0),(6,.own 45 0 p.names.length),(47,.d (.sl none (E.map fun x=>[.v (.int .i64 x)]))),(48,int E.length),(49,int j)],YI [(25,.box 48 [.d (.sl none NN),.d (.sl none RR),int 1,int ((2 ^ m:Nat):Int),.d (.sl (some false) []),.d (.sl (some false) []),.d (.sl none IN)]),(45,.sl 4 1 ((SB j).map fun b=>[.v (.bool b)]))]⟩) (fun j=>E.length - j) 0 ?_ (by omega) ?_
 .rw [Zn];refine aC.cO (fun _ _=>trivial) (by simp [YH,List.map_replicate,me,zW]) (by simp [YH,List.map_replicate,me,zW])
 .intro j hj;have Qk:=Qg j;have GX:=QE j;generalize FK:SB j=B at Qk GX ⊢;refine ab fw [1,5,6,47,48,49,50] [25,45] ?_;refine ae fun K4 Y5=>?_;refine eM (b:=j < E.length) (by simp [D.le,D.le.go,aQ,YH]) (fun hc=>?_) (fun hc=>?_)
  .refine ao (Y5 _ ?_);refine ae fun K5 b8=>?_;refine YS ?_;obtain ⟨i,hi,Ft⟩:=QD j hc;have GY:=GX hc;rw [Ft,Int.toNat_natCast] at GY
   have Y9:i < B.length:=by omega
   have qf:=(Aq fw (Aq @hc @Ft));refine aB [1,5,6,8,47,48,49] [25,45] ?_;have qf:=(Aq fw (Aq @Y9 @hi));refine gK b8 [1,5,6,47,48,49] [25,45] ?_;refine cf fw ?_;(try simp only [YP,bd]);refine bn.mk (j+1) (by omega) (by omega) ?_;rw [GY];refine aC.cO (fun _ _=>trivial) (by simp [YH,List.map_set]) (by simp [YH,List.map_set])
  .obtain rfl:j=E.length:=by omega
   rw [Qf] at FK;subst FK;refine bY (YT _ ?_);refine ae fun K6 dD=>?_;refine ab fw [1,5,6,58,59,60] [25,45] ?_;refine Zc (S:=Nat) (fun k=>k<=p.names.length) (fun k=>⟨aZ [(1,.d (.ip [.sl none NN,.sl none RR])),(5,.ref 25 0 0),(6,.own 45 0 p.names.length),(58,.d (.sl none NN)),(59,int NN.length),(60,int k)],YI [(25,.box 48 [.d (.sl none NN),.d (.sl none RR),int 1,int ((2 ^ m:Nat):Int),.d (.sl (some false) []),.own 801 0 (dJ p k).length,.d (.sl none IN)]),(45,.sl 4 1 ((p.names.map (edB p)).map fun b=>[.v (.bool b)])),(801,.sl 134 3 ((dJ p k).map ZF))]⟩) (fun k=>p.names.length - k) 0 ?_ (by omega) ?_
   .refine (aC.pC 25 5 801 134 3 rfl rfl rfl).trans ?_;refine bz (Aq fw (Aq @dJ.eq_1 @dJ.eq_2))
   .intro k nz;have s8:=pV k;have FG:=kh k
    have s7:((dJ p k).map ZF).length=(dJ p k).length:=by simp
    generalize gW:dJ p k=PK at s8 FG s7 ⊢;refine ab fw [1,5,6,58,59,60,61] [25,45,801] ?_;refine ae fun K7 dY=>?_;by_cases YK:k < p.names.length
    .have bZ:k < NN.length:=by omega
     have fA:(k:Int) < (NN.length:Int):=by omega
     refine YM (by simp<;>omega) ?_;refine ao (dY _ ?_);refine ae fun K8 Zm=>?_;refine YS ?_;have ZO:=s8 YK;have ja:=oB _ (List.getElem_mem YK)
     have pR:NN[k]=[.v (.string (bs p.names[k].name)),.v (.int .i64 p.names[k].kind),.v (.int .i64 p.names[k].count)]:=by
      have:=iY k YK;rw [List.getElem?_eq_getElem bZ] at this;exact Option.some.inj this
     unfold partOf at ZO;generalize Gx:p.names[k]=nk at ZO pR ja;obtain ⟨nm,kd,ct⟩:=nk;dsimp only at ZO pR ja
     have F9:edB p p.names[k]=edB p ⟨nm,kd,ct⟩:=by rw [Gx]
     generalize aD:edB p ⟨nm,kd,ct⟩=ev at *;have qf:=(Aq fw (Aq @bZ @pR));refine aB [1,5,6,9,10,58,59,60] [25,45,801,10] ?_;refine cq fw 10 ?_;refine YS ?_;by_cases k2:kd=2
     .subst k2;rw [if_pos (.inl rfl)] at ZO;refine ab fw [1,5,6,9,10,58,59,60,65] [25,45,801] ?_;refine YM rfl ?_;refine ff (aw _) fun K' ah=>?_;(repeat (refine aJ fun K2 aa=>?_;simp [YH,List.take_of_length_le];(repeat (refine ⟨by omega,?_⟩));refine aa _ ?_;clear aa K2));refine Y0 (ah _ ?_);clear ah K';refine Zm _ (AW.norm [1,5,6,58,59,60] [25,45,801] (fun _ _=>trivial) (AW.st (by simp [YH,List.take_of_length_le];rfl) ?_));refine cf fw ?_;(try simp only [YP,bd]);refine bn.mk (k+1) (by omega) (by omega) ?_;rw [ZO];refine bz (Aq fw @ZF.eq_1)
     .by_cases k1:kd=1
      .subst k1
       cases ev with
       | true=>
        rw [if_pos (.inr ⟨rfl,rfl⟩)] at ZO;have qf:=(Aq fw (Aq @YK @F9));refine aB [1,5,6,9,10,58,59,60,65] [25,45,801] ?_;refine YM rfl ?_;refine ff (aw _) fun K' ah=>?_;(repeat (refine aJ fun K2 aa=>?_;simp [YH,List.take_of_length_le];(repeat (refine ⟨by omega,?_⟩));refine aa _ ?_;clear aa K2));refine Y0 (ah _ ?_);clear ah K';refine Zm _ (AW.norm [1,5,6,58,59,60] [25,45,801] (fun _ _=>trivial) (AW.st (by simp [YH,List.take_of_length_le];rfl) ?_));refine cf fw ?_;(try simp only [YP,bd]);refine bn.mk (k+1) (by omega) (by omega) ?_;rw [ZO];refine bz (Aq fw @ZF.eq_1)
       | false=>
        rw [if_neg (by simp),if_neg (by simp),List.append_nil] at ZO;have qf:=(Aq fw (Aq @YK @F9));refine aB [1,5,6,9,10,58,59,60,65] [25,45,801] ?_;refine af rfl ?_;refine ab fw [1,5,6,9,10,58,59,60,91] [25,45,801] ?_;refine af rfl ?_;refine ao ?_;refine Zm _ (AW.norm [1,5,6,58,59,60] [25,45,801] (fun _ _=>trivial) (AW.st (by simp [YH];rfl) ?_));refine cf fw ?_;(try simp only [YP,bd]);refine bn.mk (k+1) (by omega) (by omega) ?_;rw [ZO];refine bz fw
      .rw [if_neg (by simp [k1,k2]),if_pos k1] at ZO;have qf:=(Aq fw (Aq @k1 @k2));refine aB [1,5,6,9,10,58,59,60,65] [25,45,801] ?_;refine af (by simp [k1,k2]) ?_;have qf:=(Aq fw @k1);refine aB [1,5,6,9,10,58,59,60,91] [25,45,801] ?_;refine YM (by simp [k1]) ?_;refine vl (aw _) (by kernel_rfl) ([(11,(801,105))]) ([(0,[801])]) ([0,1,2,3,4,5,6,7,8,9,10,11,12,13,14]) (by kernel_rfl) fun K' ah=>?_;(repeat (refine kF rfl fun K2 aa=>?_;simp [YH,List.take_of_length_le];(repeat (refine ⟨by omega,?_⟩));refine aa _ ?_;clear aa K2));refine qH (ah _ ?_);clear ah K';refine Zm _ (AW.norm [1,5,6,58,59,60] [25,45,801] (fun _ _=>trivial) (AW.st (by simp [YH,List.take_of_length_le];rfl) ?_));refine cf fw ?_;(try simp only [YP,bd]);refine bn.mk (k+1) (by omega) (by omega) ?_;rw [ZO];refine bz (Aq fw @ZF.eq_1)
    .have fA:¬ (k:Int) < (NN.length:Int):=by omega
     obtain rfl:k=p.names.length:=by omega
     rw [Aa] at gW;subst gW;refine af (by simp<;>omega) ?_;refine bY (dD _ ?_);refine AW.imp (aC.freeze 801 trivial) ?_;refine AW.st (by simp [YH,s7,List.take_of_length_le];rfl) ?_;refine ae fun K9 hK9=>?_
     have FF:((bl p).map ZF).length=(bl p).length:=by simp
     have N1:∀ i (h:i < (bl p).length),((bl p).map ZF)[i]? = some [.v (.int .i64 (bl p)[i].nm),.v (.int .i64 (bl p)[i].most),.v (.bool (bl p)[i].far)]:=fun i h=>by simp [h,ZF]
     generalize z8:bl p=YY at *;generalize YY.map ZF=PT at *;refine ab fw [1,5,113,114,115] [25] ?_;refine Zc (S:=Nat) (fun k=>k<=YY.length) (fun k=>⟨aZ [(1,.d (.ip [.sl none NN,.sl none RR])),(5,.ref 25 0 0),(113,.d (.sl none PT)),(114,int PT.length),(115,int k)],YI [(25,.box 48 [.d (.sl none NN),.d (.sl none RR),int (YV (YY.take k)),int ((2 ^ m:Nat):Int),.d (.sl (some false) []),.d (.sl none PT),.d (.sl none IN)])]⟩) (fun k=>YY.length - k) 0 ?_ (by omega) ?_
     .refine bz (Aq fw (Aq @YV.eq_1 @YV.eq_2))
     .intro k nz;have hq:=P0 k;have P2:=oQ (k+1);have lR:=ez k;have P3:=oQ k;generalize hQ:YV (YY.take k)=Q at hq lR P3 ⊢;refine ab fw [1,5,113,114,115,116] [25] ?_;refine ae fun qT iX=>?_;by_cases YK:k < YY.length
      .have bZ:k < PT.length:=by omega
       have fA:(k:Int) < (PT.length:Int):=by omega
       refine YM (by simp<;>omega) ?_;refine ao (iX _ ?_);refine ae fun DD sY=>?_;refine YS ?_;have kp:=hq YK;have G1:=hm2 _ (List.getElem_mem YK)
       have gW:PT[k]=[.v (.int .i64 YY[k].nm),.v (.int .i64 YY[k].most),.v (.bool YY[k].far)]:=by
        have:=N1 k YK;rw [List.getElem?_eq_getElem bZ] at this;exact Option.some.inj this
       generalize YY[k]=x at gW kp G1;obtain ⟨xi,M,fa⟩:=x;dsimp only at gW kp G1;rw [kp] at P2;have FI:0 < Q * M:=Int.mul_pos lR (by omega)
       have N5:¬ Q * M > 4096:=by omega
       have qf:=(Aq fw (Aq @bZ @gW));refine aB [1,5,12,113,114,115] [25,12] ?_;refine cq fw 12 ?_;refine Kj (aw _) (by kernel_rfl) [(3,25),(5,999),(9,25)] [1,5,113,114,115] [25] (fun _ _=>trivial) (by kernel_rfl) fun K' ah=>?_;(repeat (refine nZ fun K2 aa=>?_;simp [YH,FI];(repeat (refine ⟨by omega,?_⟩));refine aa _ ?_;clear aa K2));refine n0 (ah _ ?_);refine AW.st (by simp [YH,FI];rfl) ?_;clear ah K';have qf:=(Aq fw @N5);refine aB [1,5,113,114,115,132] [25] ?_;refine af (by simp<;>omega) ?_;refine ao (sY _ ?_);refine cf fw ?_;(try simp only [YP,bd]);refine bn.mk (k+1) (by omega) (by omega) ?_;rw [kp];refine bz fw
      .have fA:¬ (k:Int) < (PT.length:Int):=by omega
       refine af (by simp<;>omega) ?_;refine bY (hK9 _ ?_);rw [List.take_of_length_le (by omega)] at hQ;refine ae fun DE sZ=>?_;obtain ⟨S,hS⟩:∃ S:Nat,YV YY=(S:Int):=Int.eq_ofNat_of_zero_le (by omega);rw [hS] at eJ hP xg wS bK hQ ⊢;rw [Int.toNat_natCast] at eJ;subst hQ;refine ab fw [1,5,138,139] [25] ?_;refine Zc (S:=Nat) (fun s=>s<=S) (fun s=>⟨aZ [(1,.d (.ip [.sl none NN,.sl none RR])),(5,.ref 25 0 0),(138,int S),(139,int s)],YI [(25,.box 48 [.d (.sl none NN),.d (.sl none RR),int S,int ((2 ^ m:Nat):Int),.own 800 0 s,.d (.sl none PT),.d (.sl none IN)]),(800,.sl 46 1 (eD (NXT.take s)))]⟩) (fun s=>S - s) 0 ?_ (by omega) ?_
       .refine (aC.pC 25 4 800 46 1 rfl rfl rfl).trans ?_;refine bz (Aq fw @eD.eq_1)
       .intro s Qn;have qb:=hnt s
        have iZ:(eD (NXT.take s)).length=s:=by rw [xS,List.length_take];omega
        have adC:s=S->eD (NXT.take s)=eD NXT:=fun e=>by rw [List.take_of_length_le (by omega)]
        generalize eD (NXT.take s)=NX at qb iZ adC ⊢;refine ab fw [1,5,138,139,140] [25,800] ?_;refine ae fun DF acm=>?_;refine eM (b:=s < S) (by simp [D.le,D.le.go,aQ,YH]) (fun hc=>?_) (fun hc=>?_)
        .refine ao (acm _ ?_);refine ae fun KB adj=>?_;refine YS ?_;have Gy:=qb (by omega);have xh:=xg NX s (by omega);have Pg:=wS NX;have F4:=p0 s;have Gz:=fun i=>bK NX _ (OS s i);have tT:=fun i h=>xc s i h;have w9:=Z1 s;generalize Bq:fY p s=Jz at xh F4 Gz tT;generalize Ae:DI s=RS at Gy tT w9;refine ab fw [1,5,13,138,139] [25,800] ?_;refine ab fw [1,5,13,14,138,139] [25,800] ?_;refine ae fun KC s3=>?_;refine ab fw [1,5,13,14,138,139,145,146] [25,800] ?_;refine Zc (S:=Nat) (fun i=>i<=2 ^ m) (fun i=>⟨aZ [(1,.d (.ip [.sl none NN,.sl none RR])),(5,.ref 25 0 0),(13,int s),(14,.own 902 0 i),(138,int S),(139,int s),(145,int ((2 ^ m:Nat):Int)),(146,int i)],YI [(25,.box 48 [.d (.sl none NN),.d (.sl none RR),int S,int ((2 ^ m:Nat):Int),.own 800 0 s,.d (.sl none PT),.d (.sl none IN)]),(800,.sl 46 1 NX),(902,.sl 3 1 ((RS.take i).map fun x=>[.v (.int .i64 x)]))]⟩) (fun i=>2 ^ m - i) 0 ?_ (by omega) ?_
         .refine (aC.lu 14 902 3 1 rfl rfl).trans ?_;refine bz fw
         .intro i gY;have tR:=tT i
          have b9:((RS.take i).map fun x=>[D.v (.int .i64 x)]).length=i:=by simp;omega
          generalize kQ:RS.take i=RI at tR b9 ⊢;refine ab fw [1,5,13,14,138,139,145,146,147] [25,800,902] ?_;refine ae fun Xe ad8=>?_;by_cases eI:i < 2 ^ m
          .have Pe:(i:Int) < ((2 ^ m:Nat):Int):=by exact_mod_cast eI
           refine YM (by simpa using Pe) ?_;refine ao (ad8 _ ?_);refine ae fun Xf ad9=>?_;refine YS ?_;have tS:=tR eI;have AO:=Pg i;have wG:=F4 i;have tM:=Gz i;generalize jB p Jz (dO i m)=d1 at wG tM tS;generalize dO i m=ib at AO wG;generalize Z3 YY d1=v1 at tM tS;obtain ⟨I1,C1⟩:=Jz;obtain ⟨I2,C2⟩:=d1;dsimp only at xh wG tM;rw [iZ] at xh AO tM;refine ab fw [1,5,13,14,15,138,139,145,146] [25,800,902] ?_;refine Ku (aw _) (by kernel_rfl) ([12]) ([]) ([5,8,10]) ([(2,.d (.ip [.sl none NN,.sl none RR]))]) (List.range 14) (by kernel_rfl) fun K' ah=>?_;(repeat (refine nV rfl fun K2 aa=>?_;simp [YH,b9,List.take_of_length_le];(repeat (refine ⟨by omega,?_⟩));refine aa _ ?_;clear aa K2));refine nV rfl fun K2 aa=>?_;simp [YH,b9,List.take_of_length_le];refine rm.mc (xh) (by simp [YH,b9,List.take_of_length_le]) (by simp [YH,b9,List.take_of_length_le]) (by simp [YH,b9,List.take_of_length_le]) (by simp [YH,b9,List.take_of_length_le]) (by simp [YH,b9,List.take_of_length_le]) (by simp [YH,b9,List.take_of_length_le]) (by simp [fK,YH,b9,List.take_of_length_le]) ?_;simp [YH,b9,List.take_of_length_le];refine aa _ ?_;clear aa K2;(repeat (refine nV rfl fun K2 aa=>?_;simp [YH,b9,List.take_of_length_le];(repeat (refine ⟨by omega,?_⟩));refine aa _ ?_;clear aa K2));refine nV rfl fun K2 aa=>?_;simp [YH,b9,List.take_of_length_le];refine rm.mc (AO) (by simp [YH,b9,List.take_of_length_le]) (by simp [YH,b9,List.take_of_length_le]) (by simp [YH,b9,List.take_of_length_le]) (by simp [YH,b9,List.take_of_length_le]) (by simp [YH,b9,List.take_of_length_le]) (by simp [YH,b9,List.take_of_length_le]) (by simp [fK,YH,b9,List.take_of_length_le]) ?_;simp [YH,b9,List.take_of_length_le];refine aa _ ?_;clear aa K2;(repeat (refine nV rfl fun K2 aa=>?_;simp [YH,b9,List.take_of_length_le];(repeat (refine ⟨by omega,?_⟩));refine aa _ ?_;clear aa K2));refine nV rfl fun K2 aa=>?_;simp [YH,b9,List.take_of_length_le];refine kc.mk (wG) (by simp;rfl) (by simp;rfl) (by first | exact D.ba _ | simp [aQ,List.map_map,Function.comp_def,D.le,D.le.go,D.le_refl,D.ba,YH,b9,List.take_of_length_le]) (by simp) ?_;refine aa _ ?_;clear aa K2;simp only [au,cw];(repeat (refine nV rfl fun K2 aa=>?_;simp [YH,b9,List.take_of_length_le];(repeat (refine ⟨by omega,?_⟩));refine aa _ ?_;clear aa K2));refine nV rfl fun K2 aa=>?_;simp [YH,b9,List.take_of_length_le];refine rm.mc (tM) (by simp [YH,b9,List.take_of_length_le]) (by simp [YH,b9,List.take_of_length_le]) (by simp [YH,b9,List.take_of_length_le]) (by simp [YH,b9,List.take_of_length_le]) (by simp [YH,b9,List.take_of_length_le]) (by simp [YH,b9,List.take_of_length_le]) (by simp [fK,YH,b9,List.take_of_length_le]) ?_
           simp [YH,b9,List.take_of_length_le];refine aa _ ?_;clear aa K2;(repeat (refine nV rfl fun K2 aa=>?_;simp [YH,b9,List.take_of_length_le];(repeat (refine ⟨by omega,?_⟩));refine aa _ ?_;clear aa K2));refine V4 (ah _ ?_);clear ah K';refine ad9 _ (AW.norm [1,5,13,14,138,139,145,146] [25,800,902] (fun _ _=>trivial) (AW.st (by simp [YH,b9,List.take_of_length_le];rfl) ?_));refine cf fw ?_;(try simp only [YP,bd]);refine bn.mk (i+1) (by omega) (by omega) ?_;rw [tS];refine bz fw
          .obtain rfl:i=2 ^ m:=by omega
           have Ad:RI=RS:=by rw [<- kQ];exact List.take_of_length_le (by omega)
           subst Ad;refine af (by simp) ?_;refine bY (s3 _ ?_);refine AW.imp (aC.freeze 902 trivial) ?_;refine AW.st (by simp [YH,b9,List.take_of_length_le];rfl) ?_;refine ff (aw _) fun K' ah=>?_;(repeat (refine aJ fun K2 aa=>?_;simp [YH,iZ,List.take_of_length_le];(repeat (refine ⟨by omega,?_⟩));refine aa _ ?_;clear aa K2));refine Y0 (ah _ ?_);clear ah K';refine adj _ (AW.norm [1,5,138,139] [25,800] (fun _ _=>trivial) (AW.st (by simp [YH,iZ,List.take_of_length_le];rfl) ?_));refine cf fw ?_;(try simp only [YP,bd]);refine bn.mk (s+1) (by omega) (by omega) ?_;rw [Gy];refine bz fw
        .obtain rfl:s=S:=by omega
         obtain rfl:=adC rfl;refine bY (sZ _ ?_);refine AW.imp (aC.freeze 800 trivial) ?_;refine AW.st (by simp [YH,iZ,List.take_of_length_le];rfl) ?_;refine ab fw [2,3] [25] ?_;exact aV (Aq fw @hS)
def cR (p:YN):Nat:=2 ^ (YR p).length
def fN (p:YN):D:=jz p (YV (bl p)) ((cR p:Nat):Int) (eD (aO p))
set_option maxRecDepth 100000 in
set_option maxHeartbeats 8000000 in
theorem VH (G:YJ) (p:YN) (aS:Y4 p=none) (hk:∀ r∈p.ar,j4 r) (s i:Nat) (hP:YV (bl p)<=4096) (hs:(s:Int) < YV (bl p)) (hi:i < cR p):aq Tryz.prog G 20 [fN p,YH s,YH i] (.aT [eW (jB p (fY p s) (dO i (YR p).length)).is,.v .nilIface]):=by
 have bA:=HI G p aS (YV (bl p)) ((cR p:Nat):Int) (eD (aO p)) s (by omega) (by omega);have ax:=Tn G p aS (YV (bl p)) ((cR p:Nat):Int) (eD (aO p)) i;have p0:=En G p aS hk (fY p s) (acJ aS s) (dO i (YR p).length) (uq _ _);simp only [fN,jz,lv,cz,cu,iA,eG,YH,kN,iQ,eW,cA,cy] at bA ax p0 ⊢;generalize jB p (fY p s) (dO i (YR p).length)=d at *;generalize fY p s=t at *;generalize dO i (YR p).length=ib at *;generalize eD (aO p)=NX at *;generalize YV (bl p)=S at *;generalize cR p=N at *;generalize (YR p).map (fun n=>[D.v (.int .i64 n)])=IN at *;generalize (bl p).map ZF=PT at *;generalize p.names.map bk=NN at *;generalize p.ar.map bF=RR at *;obtain ⟨I1,C1⟩:=t;obtain ⟨I2,C2⟩:=d;dsimp only at bA p0 ⊢
 have h1:¬ S<=(s:Int):=by omega
 have h2:¬ N<=i:=by omega
 have h0:¬ (s:Int) < 0:=by omega
 have h3:¬ (i:Int) < 0:=by omega
 refine aq.aI (aw _) Tryz.func20 rfl rfl (rs:=[.tmp 6,.tmp 7]) Tryz.results20 (by simp [Tryz.ntmps20]) fun X=>?_;simp only [Tryz.ntmps20,List.map];have fw:=@YH.eq_1;refine ab fw [0,1,2] [] ?_;refine ae fun K1 ay=>?_;refine ab fw [0,1,2,9] [] ?_;refine af rfl ?_;refine ao (ay _ ?_);refine ae fun K2 aa=>?_;have qf:=(Aq fw (Aq @h0 (Aq @h1 (Aq @h2 @h3))));refine aB [0,1,2,32] [] ?_;refine af (by simp<;>omega) ?_;refine ao (aa _ ?_);refine mL (aw _) (by kernel_rfl) [6,7] [] (fun _ _=>trivial) (by kernel_rfl) fun K' ah=>?_;(repeat (refine e9 fun K2 aa=>?_;simp [YH];(repeat (refine ⟨by omega,?_⟩));refine aa _ ?_;clear aa K2));refine e9 fun K2 aa=>?_;simp [YH];refine hZ.data (bA) (by simp;rfl) (by simp;rfl) (by first | exact D.ba _ | simp [aQ,List.map_map,Function.comp_def,D.le,D.le.go,D.le_refl,D.ba,YH]) ?_;refine aa _ ?_;clear aa K2;simp only [au,cw];(repeat (refine e9 fun K2 aa=>?_;simp [YH];(repeat (refine ⟨by omega,?_⟩));refine aa _ ?_;clear aa K2));refine e9 fun K2 aa=>?_;simp [YH];refine hZ.data (ax) (by simp;rfl) (by simp;rfl) (by first | exact D.ba _ | simp [aQ,List.map_map,Function.comp_def,D.le,D.le.go,D.le_refl,D.ba,YH]) ?_;refine aa _ ?_;clear aa K2;simp only [au,cw];(repeat (refine e9 fun K2 aa=>?_;simp [YH];(repeat (refine ⟨by omega,?_⟩));refine aa _ ?_;clear aa K2));refine e9 fun K2 aa=>?_;simp [YH];refine hZ.data (p0) (by simp;rfl) (by simp;rfl) (by first | exact D.ba _ | simp [aQ,List.map_map,Function.comp_def,D.le,D.le.go,D.le_refl,D.ba,YH]) ?_;refine aa _ ?_;clear aa K2;simp only [au,cw];(repeat (refine e9 fun K2 aa=>?_;simp [YH];(repeat (refine ⟨by omega,?_⟩));refine aa _ ?_;clear aa K2));refine nY (ah _ ?_);refine AW.st (by simp [YH];rfl) ?_;clear ah K';exact aV fw
def iS (l:List Int):List (Value×D):=l.foldl (fun E k=>jD (.int .i64 k) (.v (.bool true)) E) []
theorem Et (l:List Int) (k:Int):iS (l ++ [k])=jD (.int .i64 k) (.v (.bool true)) (iS l):=by simp [iS]
theorem Sw (a b:Int):dP (.int .i64 a) (.int .i64 b)=decide (a=b):=by
 by_cases h:a=b
 .subst h;simp [dP]
 .simp [dP,h]
theorem EB {k:Value} {x:D}:∀ {l:List (Value×D)},(∀ p∈l,eB (.int .i64) p.1=true)->eB (.int .i64) k=true->∀ p∈jD k x l,eB (.int .i64) p.1=true
 | [],_,hk,p,hp=>by
  rw [EC,List.mem_singleton] at hp;subst hp;exact hk
 | q :: l,hl,hk,p,hp=>by
  rw [EA] at hp;split at hp
  .rcases List.mem_cons.1 hp with rfl | hp
   .exact hk
   .exact hl p (by simp [hp])
  .rcases List.mem_cons.1 hp with rfl | hp
   .exact hl _ (by simp)
   .exact EB (fun p hp=>hl p (by simp [hp])) hk p hp
theorem zt (i:Int) (l:List Int):(∀ p∈iS l,eB (.int .i64) p.1=true)/\aeO (.int .i64 i) (iS l)=if i∈l then some (.v (.bool true)) else none:=by
 suffices h:∀ (n:Nat) (l:List Int),l.length=n->(∀ p∈iS l,eB (.int .i64) p.1=true)/\aeO (.int .i64 i) (iS l)=if i∈l then some (.v (.bool true)) else none from h _ l rfl
 intro n
 induction n with
 | zero=>
  intro l h;obtain rfl:=List.eq_nil_of_length_eq_zero h;exact ⟨by simp [iS],rfl⟩
 | succ n ih=>
  intro l h
  have aG:l≠[]:=fun e=>by subst e;cases h
  obtain ⟨l',k,rfl⟩:∃ l' k,l=l' ++ [k]:=⟨l.dropLast,l.getLast aG,(List.dropLast_concat_getLast aG).symm⟩;obtain ⟨h1,h2⟩:=ih l' (by simpa using h);rw [Et];refine ⟨EB h1 rfl,?_⟩;rw [Ez (d:=.int .i64) rfl rfl _ h1,h2,Sw];by_cases e:i=k
  .subst e;simp
  .simp [e]
def qp (t:Tx) (most:Int):Option YN:=match pc t with
 | none=>none
 | some p=>if 4 < (YR p).length\/most < YV (bl p) then none else some p
def aaU:Option YN->D
 | none=>.aT [.v (.pointer none),.v (.bool false)]
 | some p=>.aT [fN p,.v (.bool true)]
theorem Tg {t:Tx} {most:Int} {p:YN} (h:qp t most=some p):Y4 p=none/\(∀ r∈p.ar,j4 r)/\(YR p).length<=4/\YV (bl p)<=most:=by
 unfold qp at h;split at h
 .cases h
 .rename_i q hq;split at h
  .cases h
  .rename_i hn;obtain rfl:=Option.some.inj h;obtain ⟨h1,h2⟩:=CA (IF hq);exact ⟨h1,h2,by omega,by omega⟩
theorem Uz {p:YN} (hg:qS p):∀ {k:Nat},k<=p.names.length->YV (dJ p k)<=YV (bl p):=fun {k} hk=>by
 have h:∀ d,k+d<=p.names.length->YV (dJ p k)<=YV (dJ p (k+d)):=by
  intro d
  induction d with
  | zero=>intro _;exact Int.le_refl _
  | succ d ih=>
   intro hd;have h1:=ih (by omega)
   have hm:∀ x∈dJ p (k+d+1),2<=x.most:=fun x hx=>by
    obtain ⟨i,hi,_,h2⟩:=(acg (by omega)).1 hx;exact (jT hg ((acg (Nat.le_refl _)).2 ⟨i,hi,hi,h2⟩)).m2
   have e:dJ p (k+d+1)=dJ p (k+d) ++ partOf p.names[k+d] (edB p p.names[k+d]) (k+d):=ac2 (by omega);have h3:=Iw hm (dJ p (k+d)).length;rw [e,List.take_left] at h3;rw [<- Nat.add_assoc,e];omega
 have:=h (p.names.length - k) (by omega);rw [show k+(p.names.length - k)=p.names.length from by omega] at this;exact this
theorem W6 {p:YN} {k:Nat} (hk:k < p.names.length):((k:Int)∈ZL p p.names.length)↔edB p p.names[k]=true:=by
 rw [qM (Nat.le_refl _)];constructor
 .rintro ⟨i,hi,_,he,ha⟩
  obtain rfl:k=i:=by omega
  exact ha
 .intro ha;exact ⟨k,hk,hk,rfl,ha⟩
set_option maxRecDepth 100000 in
set_option maxHeartbeats 16000000 in
theorem HE (G:YJ) (hM:n9 G) (hP:abI G) (hG:mO G) {es er:Value} (hE:px G es er) (t:Tx) (most:Int) (h1:1<=most) (h2:most<=4096):aq Tryz.prog G 34 [dS t,YH most] (aaU (qp t most)):=by
 have bq:=SE G hM hP hG hE t;unfold qp;simp only [dS] at bq ⊢
 cases hre:pc t with
 | none=>
  rw [hre] at bq;simp only [sJ,Ej,YH,aaU] at bq ⊢;refine aq.aI (aw _) Tryz.func34 rfl rfl (rs:=[.tmp 4,.tmp 5]) Tryz.results34 (by simp [Tryz.ntmps34]) fun X=>?_;simp only [Tryz.ntmps34,List.map];have fw:=@YH.eq_1;refine ab fw [0,1] [] ?_;refine aP fw bq [1,6,7] [6] ?_;refine ae fun K1 ay=>?_;refine ab fw [1,6,28] [6] ?_;refine YM rfl ?_;refine ab fw [4,5] [6] ?_;exact aV fw
 | some p=>
  rw [hre] at bq;obtain ⟨aS,hk⟩:=CA (IF hre);have hg:=ZV aS;have gZ:=hg.names;have jO:=adr G p (by omega) 1;have ny:gF p.names 1 p.names.length=YR p:=rfl;rw [ny] at jO
  have oA:((YR p).map fun x=>[D.v (.int .i64 x)]).length=(YR p).length:=by simp
  by_cases h4:4 < (YR p).length
  .simp only [h4,true_or,if_true]
   have sU:((YR p).length:Int) > 4:=by omega
   simp only [sJ,cA,cy,cz,cu,YH,aaU] at bq jO ⊢;generalize ((YR p).map fun x=>[D.v (.int .i64 x)])=IN at *;generalize p.names.map bk=NN at *;generalize p.ar.map bF=RR at *
   have zT:(IN.length:Int) > 4:=by omega
   refine aq.aI (aw _) Tryz.func34 rfl rfl (rs:=[.tmp 4,.tmp 5]) Tryz.results34 (by simp [Tryz.ntmps34]) fun X=>?_;simp only [Tryz.ntmps34,List.map];have fw:=@YH.eq_1;refine ab fw [0,1] [] ?_;refine aP fw bq [1,6,7] [6] ?_;refine cq fw 6 ?_;refine ae fun K1 ay=>?_;have qf:=(Aq fw @zT);refine eu jO [1,6,28] [] ?_;refine YM (by simp<;>omega) ?_;refine ab fw [4,5] [] ?_;exact aV fw
  .simp only [h4,false_or];have Be:YV (bl p)<=most->aq Tryz.prog G 15 [cA p] (.aT [fN p,.v .nilIface]):=fun h=>Tr G p aS hk (by omega) (by omega)
   have kR:=Hz G p (by omega) (by have:=hg.ar;omega) (fun r hr=>by
    obtain ⟨e,he,_,_,hb⟩:=hk r hr
    exact ⟨e,he,by omega⟩)
   rw [Ew aS] at kR;have ij:=Di p p.names.length;have ue:=fun k (h:k < p.names.length)=>W6 (p:=p) h;generalize ZL p p.names.length=E at *
   have pV:∀ k (h:k < p.names.length),YV (dJ p (k+1))=YV (dJ p k) * YV (partOf p.names[k] (edB p p.names[k]) k):=fun k h=>by rw [ac2 h,ac4]
   have FD:YV (dJ p 0)=1:=rfl;have Aa:YV (dJ p p.names.length)=YV (bl p):=rfl;have s7:=fun k (h:k<=p.names.length)=>Uz hg h
   have FH:∀ k,k<=p.names.length->0 < YV (dJ p k):=fun k h=>k9 fun x hx=>by
    obtain ⟨i,hi,_,h2⟩:=(acg h).1 hx;exact (jT hg ((acg (Nat.le_refl _)).2 ⟨i,hi,hi,h2⟩)).m2
   generalize YV (bl p)=PP at *;obtain ⟨PN,FE⟩:∃ PN:Nat->Int,∀ k,YV (dJ p k)=PN k:=⟨_,fun _=>rfl⟩;simp only [FE] at pV FD Aa s7 FH;clear FE;have oB:=hg.count;have ml:=hg.name;have OQ:∃ c,fN p = .ip c:=⟨_,rfl⟩;obtain ⟨MC,ZN⟩:=OQ;simp only [ZN] at Be
   have jh:(most < PP/\aaU (if most < PP then none else some p)=D.aT [.v (.pointer none),.v (.bool false)])\/(¬ most < PP/\aaU (if most < PP then none else some p)=D.aT [.ip MC,.v (.bool true)]):=by
    by_cases hb:most < PP
    .exact .inl ⟨hb,by rw [if_pos hb];rfl⟩
    .exact .inr ⟨hb,by rw [if_neg hb];simp only [aaU,ZN]⟩
   generalize N7:aaU (if most < PP then none else some p)=Xg at jh ⊢;clear N7;simp only [sJ,cA,cy,cz,cu,YH] at bq jO Be kR ⊢;generalize ((YR p).map fun x=>[D.v (.int .i64 x)])=IN at *
   have me:(p.names.map bk).length=p.names.length:=by simp
   have iY:∀ i (h:i < p.names.length),(p.names.map bk)[i]? = some [.v (.string (bs p.names[i].name)),.v (.int .i64 p.names[i].kind),.v (.int .i64 p.names[i].count)]:=fun i h=>by simp [h,bk,dS]
   generalize p.names.map bk=NN at *;generalize p.ar.map bF=RR at *
   have zW:(E.map fun x=>[D.v (.int .i64 x)]).length=E.length:=by simp
   have zT:¬ (IN.length:Int) > 4:=by omega
   refine aq.aI (aw _) Tryz.func34 rfl rfl (rs:=[.tmp 4,.tmp 5]) Tryz.results34 (by simp [Tryz.ntmps34]) fun X=>?_;simp only [Tryz.ntmps34,List.map];have fw:=@YH.eq_1;refine ab fw [0,1] [] ?_;refine aP fw bq [1,6,7] [6] ?_;refine cq fw 6 ?_;refine ae fun K1 ay=>?_;have qf:=(Aq fw @zT);refine eu jO [1,6,28] [] ?_;refine af (by simp<;>omega) ?_;refine ao (ay _ ?_);refine ab fw [1,6,8] [] ?_;refine ab fw [1,6,8,9] [29] ?_;refine ae fun K2 aa=>?_;refine aP fw kR [1,6,8,9,10,11] [29] ?_;refine Zc (S:=Nat) (fun j=>j<=E.length) (fun j=>⟨aZ [(1,int most),(6,.d (.ip [.sl none NN,.sl none RR])),(8,int 1),(9,.mp 29),(10,int j),(11,.d (.sl none (E.map fun x=>[.v (.int .i64 x)])))],YI [(29,.mp 152 (iS (E.take j)))]⟩) (fun j=>E.length - j) 0 ?_ (by omega) ?_
   .refine aC.cO (fun _ _=>trivial) (by simp [YH,iS]) (by simp [YH,iS])
   .intro j hj;refine ae fun K3 YT=>?_;by_cases YK:j < E.length
    .have rI:iS (E.take (j+1))=jD (.int .i64 E[j]) (.v (.bool true)) (iS (E.take j)):=by rw [List.take_succ_eq_append_getElem YK,Et]
     have wX:=(zt 0 (E.take j)).1;have hkB:=wX;simp at hkB;have cQ:=eq_true hkB;have qf:=(Aq fw @YK);refine aB [1,6,8,9,10,11,35] [29] ?_;refine YM (by simp [YK]) ?_;refine ao (YT _ ?_);refine ae fun K4 Y5=>?_;refine YS ?_;have qf:=(Aq fw (Aq @YK (Aq @k7.eq_1 (Aq @lp.eq_1 (Aq @lp.eq_2 @cQ)))));refine gK Y5 [1,6,8,9,10,11] [29] ?_;refine cf fw ?_;(try simp only [YP,bd]);refine bn.mk (j+1) (by omega) (by omega) ?_;rw [rI];refine bz fw
    .obtain rfl:j=E.length:=by omega
     refine ab fw [1,6,8,9,10,11,35] [29] ?_;refine af (by simp) ?_;refine bY (aa _ ?_)
     try rw [List.take_of_length_le (Nat.le_refl _)]
     have hlk:∀ k (h:k < p.names.length),aeO (.int .i64 (k:Int)) (iS E)=if edB p p.names[k]=true then some (.v (.bool true)) else none:=fun k h=>by
      rw [(zt (k:Int) E).2];simp only [ue k h]
     have wX:=(zt 0 E).1;generalize iS E=EE at hlk wX ⊢;have hkB:=wX;simp at hkB;have cQ:=eq_true hkB;refine ae fun K5 b8=>?_;refine ab fw [1,6,8,9,12] [29] ?_;refine Zc (S:=Nat) (fun k=>k<=p.names.length) (fun k=>⟨aZ [(1,int most),(6,.d (.ip [.sl none NN,.sl none RR])),(8,int (PN k)),(9,.mp 29),(12,int k)],YI [(29,.mp 152 EE)]⟩) (fun k=>p.names.length - k) 0 ?_ (by omega) ?_
     .refine bz (Aq fw @FD)
     .intro k nz;have s8:=pV k;have N2:=s7 k nz;have N4:=FH k nz;generalize XL:PN k=n at s8 N2 N4 ⊢;refine ae fun K6 dD=>?_;by_cases hgo:k < p.names.length/\n<=most
      .obtain ⟨YK,hle⟩:=hgo
       have bZ:k < NN.length:=by omega
       have fA:(k:Int) < (NN.length:Int):=by omega
       have qf:=(Aq fw (Aq @fA @hle));refine aB [1,6,8,9,12,52] [29] ?_;refine YM (by simp [bZ,hle]) ?_;refine ao (dD _ ?_);refine ae fun K7 dY=>?_;refine YS ?_;have wZ:=hlk k YK;have ZO:=s8 YK;have ja:=oB _ (List.getElem_mem YK);have Gm:=ml _ (List.getElem_mem YK)
       have pR:NN[k]=[.v (.string (bs p.names[k].name)),.v (.int .i64 p.names[k].kind),.v (.int .i64 p.names[k].count)]:=by
        have:=iY k YK;rw [List.getElem?_eq_getElem bZ] at this;exact Option.some.inj this
       generalize edB p p.names[k]=ev at *;unfold partOf at ZO;generalize Gx:p.names[k]=nk at ZO pR ja Gm;obtain ⟨nm,kd,ct⟩:=nk;dsimp only at ZO pR ja Gm;have qf:=(Aq fw (Aq @bZ @pR));refine aB [1,6,8,9,12,13] [29,13] ?_;refine cq fw 13 ?_;refine YS ?_;by_cases k2:kd=2
       .subst k2;rw [if_pos (.inl rfl)] at ZO;simp only [YV,Int.mul_one] at ZO;refine ab fw [1,6,8,9,12,13,60] [29] ?_;refine YM rfl ?_;refine gJ fw dY [1,6,8,9,12] [29] ?_;refine cf fw ?_;(try simp only [YP,bd]);refine bn.mk (k+1) (by omega) (by omega) ?_;rw [ZO];refine bz fw
       .by_cases k1:kd=1
        .subst k1
         cases ev with
         | true=>
          rw [if_pos (.inr ⟨rfl,rfl⟩)] at ZO;simp only [YV,Int.mul_one] at ZO;simp only [if_true] at wZ;have qf:=(Aq fw (Aq @wZ (Aq @k7.eq_1 (Aq @lp.eq_1 (Aq @lp.eq_2 @cQ)))));refine aB [1,6,8,9,12,13,60] [29] ?_;refine YM rfl ?_;refine gJ fw dY [1,6,8,9,12] [29] ?_;refine cf fw ?_;(try simp only [YP,bd]);refine bn.mk (k+1) (by omega) (by omega) ?_;rw [ZO];refine bz fw
         | false=>
          rw [if_neg (by simp),if_neg (by simp)] at ZO;simp only [YV,Int.mul_one] at ZO;simp only [Bool.false_eq_true,if_false] at wZ;have qf:=(Aq fw (Aq @wZ (Aq @k7.eq_1 (Aq @lp.eq_1 (Aq @lp.eq_2 @cQ)))));refine aB [1,6,8,9,12,13,60] [29] ?_;refine af rfl ?_;refine ab fw [1,6,8,9,12,13,76] [29] ?_;refine af rfl ?_;refine ao ?_;refine dY _ (AW.norm [1,6,8,9,12] [29] (fun _ _=>trivial) (AW.st (by simp [YH];rfl) ?_));refine cf fw ?_;(try simp only [YP,bd]);refine bn.mk (k+1) (by omega) (by omega) ?_;rw [ZO];refine bz fw
        .rw [if_neg (by simp [k1,k2]),if_pos k1] at ZO;simp only [YV,Int.mul_one] at ZO;have Zq:n * (ct+1)<=4096 * 8:=Int.mul_le_mul (by omega) (by omega) (by omega) (by omega);have hb0:0<=n * (ct+1):=Int.mul_nonneg (by omega) (by omega);have qf:=(Aq fw (Aq @k1 @k2));refine aB [1,6,8,9,12,13,60] [29] ?_;refine af (by simp [k1,k2]) ?_;have qf:=(Aq fw @k1);refine aB [1,6,8,9,12,13,76] [29] ?_;refine YM (by simp [k1]) ?_;refine gJ fw dY [1,6,8,9,12] [29] ?_;refine cf fw ?_;(try simp only [YP,bd]);refine bn.mk (k+1) (by omega) (by omega) ?_;rw [ZO];refine bz fw
      .rcases jh with ⟨hb,hR⟩ | ⟨hb,hR⟩
       .have wO:n > most:=by
         by_cases YK:k < p.names.length
         .exact Classical.byContradiction fun hn=>hgo ⟨YK,by omega⟩
         .obtain rfl:k=p.names.length:=by omega
          omega
        subst hR
        have aee:¬ n<=most:=by omega
        by_cases YK:k < p.names.length
        .have fA:(k:Int) < (NN.length:Int):=by omega
         have qf:=(Aq fw (Aq @fA @aee));refine aB [1,6,8,9,12,52] [29] ?_;refine af (by simp<;>omega) ?_;refine bY (b8 _ ?_);refine ae fun K8 Zm=>?_;have qf:=(Aq fw @wO);refine aB [6,87] [29] ?_;refine YM (by simp<;>omega) ?_;refine ab fw [4,5] [29] ?_;exact aV fw
        .have fA:¬ (k:Int) < (NN.length:Int):=by omega
         have qf:=(Aq fw @fA);refine aB [1,6,8,9,12,52] [29] ?_;refine af (by simp<;>omega) ?_;refine bY (b8 _ ?_);refine ae fun K8 Zm=>?_;have qf:=(Aq fw @wO);refine aB [6,87] [29] ?_;refine YM (by simp<;>omega) ?_;refine ab fw [4,5] [29] ?_;exact aV fw
       .have Bb:¬ n > most:=by omega
        have aef:=Be (by omega);subst hR;have fA:¬ (k:Int) < (NN.length:Int):=fun h=>hgo ⟨by omega,by omega⟩;have qf:=(Aq fw @fA);refine aB [1,6,8,9,12,52] [29] ?_;refine af (by simp<;>omega) ?_;refine bY (b8 _ ?_);refine ae fun K8 Zm=>?_;have qf:=(Aq fw @Bb);refine aB [6,87] [29] ?_;refine af (by simp<;>omega) ?_;refine ao (Zm _ ?_);refine aP fw aef [14,15] [29] ?_;refine ab fw [4,5] [29] ?_;exact aV fw
def fm (a:Int) (n:Nat):Nat:=((IntKind.u64.wrap a).tmod (n:Int)).toNat
theorem Dt (a:Int):IntKind.u64.wrap a=a % 18446744073709551616:=by
 simp [IntKind.wrap,IntKind.signed,IntKind.bits]
theorem CD (a:Int) {n:Nat} (hn:0 < n):((IntKind.u64.wrap a).tmod (n:Int))=(fm a n:Int)/\fm a n < n:=by
 have h0:0<=IntKind.u64.wrap a:=by rw [Dt];omega
 have h1:0<=(IntKind.u64.wrap a).tmod (n:Int):=Int.tmod_nonneg _ h0;have h2:(IntKind.u64.wrap a).tmod (n:Int) < n:=Int.tmod_lt_of_pos _ (by omega);unfold fm;constructor<;>omega
set_option maxHeartbeats 4000000 in
theorem Uq (G:YJ) (a:Int) (n:Nat) (hn:0 < n) (Z0:n < 2^40):aq Tryz.prog G 50 [YH a,YH n] (YH (fm a n)):=by
 obtain ⟨h1,h2⟩:=CD a hn
 have hw:IntKind.u64.wrap (n:Int)=n:=by rw [Dt];omega
 have oL:¬ n=0:=by omega
 generalize fm a n=w at h1 h2 ⊢;simp only [YH];refine aq.aI (aw _) Tryz.func50 rfl rfl (rs:=[.tmp 4]) Tryz.results50 (by simp [Tryz.ntmps50]) fun X=>?_;simp only [Tryz.ntmps50,List.map];refine al [0,1] [] ?_;have qf:=(Aq @hw (Aq @h1 @oL));refine aB [4] [] ?_;exact dK
theorem M3:pc pM=some fP:=by unfold pc;rw [if_neg (by decide),EY]
theorem EX:aO fP=[[0,1],[1,1]]:=by kernel_rfl
theorem EZ:YV (bl fP)=2:=by kernel_rfl
theorem EW:(YR fP).length=1:=by kernel_rfl
theorem MZ {most:Int} (h:2<=most):qp pM most=some fP:=by
 unfold qp;rw [M3];simp only [EW,EZ];rw [if_neg (by omega)]
theorem QO (p:YN):0 < cR p:=Nat.pow_pos (by decide)
theorem QN {p:YN} (h:(YR p).length<=4):cR p<=16:=Nat.pow_le_pow_right (n:=2) (by decide) h
def jE (p:YN) (e:Ex) (s i:Nat):Bool:=eX (aaF p (jB p (fY p s) (dO (i:Int) (YR p).length)).is) (aaF p (fY p s).is) e
def fQ (p:YN) (e:Ex) (s:Nat):List Bool:=(List.range (cR p)).map (jE p e s)
def gg (p:YN) (e:Ex):List (List Bool):=(List.range (aO p).length).map (fQ p e)
def jv (p:YN) (e:Ex):Bool:=(Zx true e).any fun s=>decide (YX p s < 0)
theorem re (p:YN) (e:Ex):(gg p e).length=(aO p).length:=by simp [gg]
theorem rb {p:YN} {e:Ex} {s:Nat} (h:s < (gg p e).length):(gg p e)[s]=fQ p e s:=by simp [gg]
theorem E6 {p:YN} {e:Ex} {s:Nat} (h:s < (aO p).length):(gg p e).getD s []=fQ p e s:=by rw [cr (by rw [re];exact h),rb]
theorem rf (p:YN) (e:Ex) (s:Nat):(fQ p e s).length=cR p:=by simp [fQ]
theorem wh {p:YN} {e:Ex} {s i:Nat} (h:i < (fQ p e s).length):(fQ p e s)[i]=jE p e s i:=by simp [fQ]
theorem E7 {p:YN} {e:Ex} {s i:Nat} (h:gn (fQ p e s) < 0) (hi:i < cR p):jE p e s i=true:=by
 have h1:i < (fQ p e s).length:=by rw [rf];exact hi
 have:=TQ h i h1
 rwa [wh] at this
theorem Nc {p:YN} {e:Ex} {s i:Nat} (h:gn (fQ p e s)=(i:Int)):i < cR p/\jE p e s i=false:=by
 obtain ⟨k,hk,h1,h2⟩:=TR (l:=fQ p e s) (by omega)
 obtain rfl:k=i:=by omega
 rw [wh] at h2;rw [rf] at hk;exact ⟨hk,h2⟩
theorem Ir {i n:Nat} (h:i < n) (hn:n < 2^40):fm (i:Int) n=i:=by
 have hw:IntKind.u64.wrap (i:Int)=i:=by
  rw [Dt];omega
 unfold fm;rw [hw,Int.tmod_eq_emod_of_nonneg (by omega),Int.emod_eq_of_lt (by omega) (by omega),Int.toNat_natCast]
def qN (p:YN) (l:List Int):List Int:=l.map fun a=>(fm a (cR p):Int)
theorem UF (p:YN) (l:List Int):(qN p l).length=l.length:=by simp [qN]
theorem Je (NX:List (List Int)):∀ (a b:List Int) (s:Nat),runN NX s (a ++ b)=runN NX (runN NX s a) b
 | [],_,_=>rfl
 | i :: a,b,s=>by rw [List.cons_append,runN,runN,Je NX a b]
theorem Vq {NX:List (List Int)} {s j:Nat} {l:List Int} (h:j < l.length):runN NX s (l.take (j+1))=((kA NX (runN NX s (l.take j))).getD l[j].toNat 0).toNat:=by
 rw [List.take_succ_eq_append_getElem h,Je];rfl
def gR (p:YN) (l:List Int) (j:Nat):Nat:=runN (aO p) 0 ((qN p l).take j)
def aa9 (p:YN) (l:List Int) (j:Nat):Nat:=fm (l.getD j 0) (cR p)
theorem acG (p:YN) (l:List Int) (j:Nat):aa9 p l j < cR p:=(CD _ (QO p)).2
theorem Lk (p:YN) (l:List Int):gR p l 0=0:=by simp [gR,runN]
theorem DW {p:YN} {l:List Int} {j:Nat} (h:j < l.length):gR p l (j+1)=((kA (aO p) (gR p l j)).getD (aa9 p l j) 0).toNat:=by
 unfold gR;rw [Vq (by rw [UF];exact h)];congr 2;simp [qN,aa9,h]
theorem CM {p:YN} {s:Nat} (h:s < (aO p).length):(kA (aO p) s).length=cR p:=by
 rw [jV h,uJ h,r6];rfl
theorem vw {p:YN} (aS:Y4 p=none) (l:List Int):∀ j,j<=l.length->gR p l j < (aO p).length/\0<=(iV (aO p)).getD (gR p l j) 0
 | 0,_=>by
  have ht:=abF aS;rw [Lk,(mZ ht).zero];exact ⟨ht.pos,Int.le_refl _⟩
 | j+1,hj=>by
  obtain ⟨h1,h2⟩:=vw aS l j (by omega);have ht:=abF aS
  have hi:aa9 p l j < (aO p)[gR p l j].length:=by
   have:=CM h1;rw [jV h1] at this;rw [this];exact acG p l j
  rw [DW (by omega),jV h1,cr hi];have h3:=ht.mem _ (List.getElem_mem h1) _ (List.getElem_mem hi);exact ⟨by omega,((mZ ht).step _ h1 h2 _ (List.getElem_mem hi)).1⟩
theorem Ll {p:YN} (aS:Y4 p=none) {l:List Int} {j:Nat} (hj:j < l.length):∃ h1:gR p l j < (aO p).length,∃ h2:aa9 p l j < (aO p)[gR p l j].length,(aO p)[gR p l j][aa9 p l j]=(gR p l (j+1):Int):=by
 obtain ⟨h1,_⟩:=vw aS l j (by omega)
 have hi:aa9 p l j < (aO p)[gR p l j].length:=by
  have:=CM h1;rw [jV h1] at this;rw [this];exact acG p l j
 refine ⟨h1,hi,?_⟩;have h3:=(abF aS).mem _ (List.getElem_mem h1) _ (List.getElem_mem hi);rw [DW hj,jV h1,cr hi];omega
noncomputable def Y2 (p:YN) (e:Ex):List Int:=uP (aO p) (iV (aO p)) (gg p e)
theorem IC {p:YN} (h6:cR p<=64):∀ {l:List Int},(∀ j (hj:j < l.length),∃ i:Nat,i < cR p/\l[j]=(i:Int))->qN p l=l
 | [],_=>rfl
 | a :: l,h=>by
  obtain ⟨i,h1,h2⟩:=h 0 (by simp);have e:a=(i:Int):=h2;have:=IC h6 (l:=l) fun j hj=>h (j+1) (by simp;omega);unfold qN at this ⊢;rw [List.map_cons,this,e,Ir h1 (by omega)]
theorem Iu {p:YN} (aS:Y4 p=none) (h6:cR p<=64) {e:Ex} (h:Y2 p e≠[]):qN p (Y2 p e)=Y2 p e/\0 < (Y2 p e).length/\(Y2 p e).length<=(aO p).length/\∀ j,j < (Y2 p e).length->jE p e (gR p (Y2 p e) j) (aa9 p (Y2 p e) j)=decide (j+1 < (Y2 p e).length):=by
 have ht:=abF aS;have hF:=mZ ht
 rcases Ul (aO p) (iV (aO p)) (gg p e) with ⟨g,_⟩ | ⟨d,z,i,hz,hd,hi,g,hb⟩
 .exact absurd g h
 have OP:=EP ht z hz;rw [E6 hz] at hi;obtain ⟨bO,Y9⟩:=Nc hi;have Qa:=fun j (hj:j < d)=>aeH ht hF hz hd hj;have tm:=(yp ht hz d 0 ht.pos (sT hF d z hz hd)).1;have wJ:=JZ ht hF hz hd;have td:=yo (aO p) z d 0;unfold Y2;rw [g];generalize fe (aO p) z d 0=W at *
 have hq:qN p (W ++ [(i:Int)])=W ++ [(i:Int)]:=IC h6 fun j hj=>by
  by_cases Gi:j < d
  .obtain ⟨t,i2,u,h1,h2,h3,h4,_⟩:=Qa j Gi
   have h5:(aO p)[t].length=cR p:=by have:=CM h1;rwa [jV h1] at this
   refine ⟨i2,by omega,?_⟩;rw [List.getElem_append_left (by omega)];rw [cr (by omega)] at h4;exact h4
  .have hl:j=W.length:=by simp at hj;omega
   subst hl;exact ⟨i,bO,by simp⟩
 have b6:∀ j,j<=d->gR p (W ++ [(i:Int)]) j=runN (aO p) 0 (W.take j):=fun j hj=>by
  unfold gR;rw [hq,List.take_append_of_le_length (by omega)]
 refine ⟨hq,by simp,by simp only [List.length_append,List.length_cons,List.length_nil];omega,fun j hj=>?_⟩;simp only [List.length_append,List.length_cons,List.length_nil,td] at hj ⊢;by_cases Gi:j < d
 .obtain ⟨f1,f2,f3⟩:=wJ j (by omega);have:=hb _ f1 f2 (by omega);rw [E6 f1] at this;rw [b6 j (by omega),E7 this (acG p _ j)];exact (decide_eq_true (by omega)).symm
 .obtain rfl:j=d:=by omega
  have e1:aa9 p (W ++ [(i:Int)]) j=i:=by
   unfold aa9;rw [show (W ++ [(i:Int)]).getD j 0=(i:Int) from by rw [cr (by simp;omega)];simp [<- td]];exact Ir bO (by omega)
  have e2:runN (aO p) 0 (W.take j)=z:=by rw [List.take_of_length_le (by omega)];exact tm
  rw [b6 j (Nat.le_refl _),e1,e2,Y9];exact (decide_eq_false (by omega)).symm
def da (p:YN) (e:Ex):Nat->List Bool
 | 0=>(gg p e).map fun l=>decide (0<=gn l)
 | k+1=>(List.range (aO p).length).map fun s=>(List.range (cR p)).any fun i=>jE p e s i && (da p e k).getD ((kA (aO p) s).getD i 0).toNat false
theorem vy (p:YN) (e:Ex):∀ k,(da p e k).length=(aO p).length
 | 0=>by simp [da,gg]
 | k+1=>by simp [da]
def fE (path:List Int) (bad:Nat->List Bool) (most:Nat):Nat->Nat->Nat×Nat×List Int
 | 0,_=>(3,most,[])
 | n+1,k=>if path≠[]/\path.length<=k then (2,k,path) else if (bad k).any id=false then (1,k,[]) else fE path bad most n (k+1)
theorem G7 (path:List Int) (bad:Nat->List Bool) (most:Nat):∀ n k,(fE path bad most n k=(3,most,[])/\∀ j,k<=j->j < k+n->¬ (path≠[]/\path.length<=j))\/(∃ j,k<=j/\j < k+n/\(∀ i,k<=i->i < j->¬ (path≠[]/\path.length<=i))/\((path≠[]/\path.length<=j/\fE path bad most n k=(2,j,path))\/(¬ (path≠[]/\path.length<=j)/\(bad j).any id=false/\fE path bad most n k=(1,j,[]))))
 | 0,k=>.inl ⟨rfl,fun j h1 h2=>by omega⟩
 | n+1,k=>by
  rw [fE];by_cases h:path≠[]/\path.length<=k
  .rw [if_pos h];exact .inr ⟨k,Nat.le_refl _,by omega,fun i h1 h2=>by omega,.inl ⟨h.1,h.2,rfl⟩⟩
  .rw [if_neg h];by_cases hb:(bad k).any id=false
   .rw [if_pos hb];exact .inr ⟨k,Nat.le_refl _,by omega,fun i h1 h2=>by omega,.inr ⟨h,hb,rfl⟩⟩
   .rw [if_neg hb]
    rcases G7 path bad most n (k+1) with ⟨g1,g2⟩ | ⟨j,g1,g2,g3,g4⟩
    .refine .inl ⟨g1,fun j h1 h2=>?_⟩;by_cases e:j=k
     .subst e;exact h
     .exact g2 j (by omega) (by omega)
    .refine .inr ⟨j,by omega,by omega,fun i h1 h2=>?_,g4⟩;by_cases e:i=k
     .subst e;exact h
     .exact g3 i (by omega) h2
theorem BL (path:List Int) (bad:Nat->List Bool) (m m':Nat):∀ n k,(fE path bad m n k).1≠3->fE path bad m' (n+1) k=fE path bad m n k
 | 0,k,h=>absurd rfl h
 | n+1,k,h=>by
  have e1:∀ (q i:Nat),fE path bad q (i+1) k=if path≠[]/\path.length<=k then (2,k,path) else if (bad k).any id=false then (1,k,[]) else fE path bad q i (k+1):=fun _ _=>rfl;rw [e1 m' (n+1),e1 m n];rw [e1 m n] at h;by_cases h1:path≠[]/\path.length<=k
  .rw [if_pos h1,if_pos h1]
  .rw [if_neg h1] at h;rw [if_neg h1,if_neg h1];by_cases h2:(bad k).any id=false
   .rw [if_pos h2,if_pos h2]
   .rw [if_neg h2] at h;rw [if_neg h2,if_neg h2];exact BL path bad m m' n (k+1) h
theorem Ls {p:YN} (aS:Y4 p=none) (h6:cR p<=64) {e:Ex} (h:Y2 p e≠[]):∀ k,k < (Y2 p e).length->(da p e k).any id=true:=by
 obtain ⟨h1,h2,h3,h4⟩:=Iu aS h6 h;generalize Y2 p e=path at *
 have hb:∀ k,k < path.length->(da p e k).getD (gR p path (path.length - 1 - k)) false=true:=by
  intro k
  induction k with
  | zero=>
   intro _;have hj:=h4 (path.length - 1) (by omega);rw [decide_eq_false (by omega)] at hj;have hs:=(vw aS path (path.length - 1) (by omega)).1;have hi:=acG p path (path.length - 1);rw [Nat.sub_zero];generalize gR p path (path.length - 1)=s at *;generalize aa9 p path (path.length - 1)=i at *;rw [cr (by rw [vy];exact hs)];simp only [da,List.getElem_map];rw [rb (by rw [re];exact hs)];refine decide_eq_true ?_;by_cases hn:gn (fQ p e s) < 0
   .rw [E7 hn hi] at hj;cases hj
   .omega
  | succ k ih=>
   intro hk;have ih:=ih (by omega);obtain ⟨g1,g2,g3⟩:=Ll aS (l:=path) (j:=path.length - 1 - (k+1)) (by omega);rw [show path.length - 1 - (k+1)+1=path.length - 1 - k from by omega] at g3;have hj:=h4 (path.length - 1 - (k+1)) (by omega);rw [decide_eq_true (by omega)] at hj;have hi:=acG p path (path.length - 1 - (k+1));generalize gR p path (path.length - 1 - (k+1))=s at *;generalize aa9 p path (path.length - 1 - (k+1))=i at *;rw [cr (by rw [vy];exact g1)];simp only [da,List.getElem_map,List.getElem_range];rw [List.any_eq_true];refine ⟨i,List.mem_range.2 hi,?_⟩;rw [hj,jV g1,cr g2,g3,Int.toNat_natCast,ih];rfl
 intro k hk;have:=hb k hk;have hs:=(vw aS path (path.length - 1 - k) (by omega)).1;generalize gR p path (path.length - 1 - k)=s at *
 have Zw:s < (da p e k).length:=by rw [vy];exact hs
 rw [cr Zw] at this;rw [List.any_eq_true];exact ⟨_,List.getElem_mem Zw,this⟩
theorem QP {p:YN} (aS:Y4 p=none) (h6:cR p<=64) (e:Ex) (most:Nat) (hm:1<=most) :
  (∃ k:Nat,1<=k/\k<=most/\Y2 p e=[]/\fE (Y2 p e) (da p e) most most 1=(1,k,[])/\fE (Y2 p e) (da p e) (most+1) (most+1) 1=(1,k,[]))\/
  (Y2 p e≠[]/\fE (Y2 p e) (da p e) most most 1=(2,(Y2 p e).length,Y2 p e)/\fE (Y2 p e) (da p e) (most+1) (most+1) 1=(2,(Y2 p e).length,Y2 p e))\/
  (fE (Y2 p e) (da p e) most most 1=(3,most,[])/\(Y2 p e=[]\/most < (Y2 p e).length)):=by
 rcases G7 (Y2 p e) (da p e) most most 1 with ⟨g1,g2⟩ | ⟨j,g1,g2,g3,⟨g4,g5,g6⟩ | ⟨g4,g5,g6⟩⟩
 .refine .inr (.inr ⟨g1,?_⟩);have:=g2 most hm (by omega);by_cases h:Y2 p e=[]
  .exact .inl h
  .refine .inr ?_;by_cases h2:(Y2 p e).length<=most
   .exact absurd ⟨h,h2⟩ this
   .omega
 .have hj:(Y2 p e).length=j:=by
   have hl:0 < (Y2 p e).length:=List.length_pos_iff.2 g4;by_cases h1:j=1
   .omega
   .have:=g3 (j - 1) (by omega) (by omega);by_cases h2:(Y2 p e).length<=j - 1
    .exact absurd ⟨g4,h2⟩ this
    .omega
  refine .inr (.inl ⟨g4,?_,?_⟩)
  .rw [g6,hj]
  .rw [BL _ _ most _ _ _ (by rw [g6];exact (by decide:(2:Nat)≠3)),g6,hj]
 .refine .inl ⟨j,g1,by omega,?_,g6,by rw [BL _ _ most _ _ _ (by rw [g6];exact (by decide:(1:Nat)≠3)),g6]⟩;by_cases h:Y2 p e=[]
  .exact h
  .have:=Ls aS h6 h j (by
    by_cases h2:(Y2 p e).length<=j
    .exact absurd ⟨h,h2⟩ g4
    .omega)
   rw [g5] at this;cases this
set_option maxHeartbeats 2000000 in
theorem Hm (G:YJ) (b:Bool) (l:List Bool) (hl:l.length < 2^60):aq Tryz.prog G 100 [.sl none (l.map fun b=>[.v (.bool b)]),.v (.bool b)] (.v (.int .i64 (idx (fun x=>b == x) l))):=by
 refine aq.aI (aw _) Tryz.func100 rfl rfl (rs:=[.tmp 4]) Tryz.results100 (by simp [Tryz.ntmps100]) fun X=>?_;simp only [Tryz.ntmps100,List.map];refine al [0,1] [] ?_;refine ae fun K1 ay=>?_;refine al [0,1,7,8] [] ?_;refine Zc (S:=Nat) (fun n=>n<=l.length/\∀ i (hi:i < l.length),i < n->(b == l[i])=false) (fun n=>⟨aZ [(0,.d (.sl none (l.map fun b=>[.v (.bool b)]))),(1,.d (.v (.bool b))),(7,int l.length),(8,int n)],YI []⟩) (fun n=>l.length - n) 0 ?_ (by simp) ?_
 .refine ZI
 .rintro n ⟨hn,hp⟩;refine al [0,1,7,8,9] [] ?_;refine ae fun K2 aa=>?_;refine eM (b:=n < l.length) (by simp [D.le,D.le.go,aQ]) (fun hc=>?_) (fun hc=>?_)
  .refine ao (aa _ ?_);refine ae fun K3 YT=>?_;refine YS ?_;refine al [0,1,5,7,8] [] ?_;generalize hx:l[n]=x at *;have qf:=(Aq @hc @hx);refine aB [0,1,5,7,8,16] [] ?_;refine kI (b == x) (by simp) (fun he=>?_) (fun he=>?_)
   .refine al [4] [] ?_;refine b7 ?_;simp [D.le,D.le.go,aQ];exact (oV (p:=fun x=>b == x) hc (by rw [hx];exact he) fun i hi=>hp i (by omega) hi).symm
   .refine ao (YT _ ?_);refine eL ?_;(try simp only [YP,bd]);refine bn.mk (n+1) ⟨by omega,fun i hi ax=>?_⟩ (by omega) ?_
    .by_cases h:i=n
     .subst h;rw [hx];exact he
     .exact hp i hi (by omega)
    refine ZI
  .refine bY (ay _ ?_);refine al [4] [] ?_;refine b7 ?_;simp [D.le,D.le.go,aQ];exact (oW (p:=fun x=>b == x) fun i hi=>hp i hi (by omega)).symm
theorem Hj (G:YJ) (b:Bool) (l:List Bool) (hl:l.length < 2^60):aq Tryz.prog G 99 [.sl none (l.map fun b=>[.v (.bool b)]),.v (.bool b)] (.v (.bool (decide (0<=idx (fun x=>b == x) l)))):=by
 refine aq.aI (aw _) Tryz.func99 rfl rfl (rs:=[.tmp 4]) Tryz.results99 (by simp [Tryz.ntmps99]) fun X=>?_;simp only [Tryz.ntmps99,List.map];refine al [0,1] [] ?_;refine aP trivial (Hm G b l hl) [4] [] ?_;exact dK
set_option maxHeartbeats 1000000 in
theorem HT (G:YJ) (a:Int):aq Tryz.prog G 198 [.v (.int .i64 a)] (.v (.bool false)):=by
 refine aq.aI (aw _) Tryz.func198 rfl rfl (rs:=[.tmp 2]) Tryz.results198 (by simp [Tryz.ntmps198]) fun X=>?_;simp only [Tryz.ntmps198,List.map];refine al [0] [] ?_;refine al [2] [] ?_;exact dK
set_option maxHeartbeats 4000000 in
theorem LW (G:YJ) (a b:Int):aq Tryz.prog G 150 [.v (.int .i64 a),.v (.int .i64 b)] (.v (.int .i64 (if a < b then -1 else if b < a then 1 else 0))):=by
 have ha:=HT G a;have hb:=HT G b;refine aq.aI (aw _) Tryz.func150 rfl rfl (rs:=[.tmp 4]) Tryz.results150 (by simp [Tryz.ntmps150]) fun X=>?_;simp only [Tryz.ntmps150,List.map];refine al [0,1] [] ?_;refine aP trivial ha [0,1,5] [] ?_;refine aP trivial hb [0,1,5,6] [] ?_;refine ae fun K1 ay=>?_;refine al [0,1,6,11] [] ?_;refine af rfl ?_;refine ao (ay _ ?_);refine ae fun K3 YT=>?_;refine al [0,1,13] [] ?_;refine af rfl ?_;refine ao (YT _ ?_);refine ae fun K4 Y5=>?_;refine al [0,1,16] [] ?_;refine eM (b:=a < b) (by simp [D.le,D.le.go,aQ]) (fun hc=>?_) (fun hc=>?_)
 .refine al [4] [] ?_;exact aV @hc
 .refine ao (Y5 _ ?_);have ZM:=hc;refine ae fun K5 b8=>?_;refine al [19] [] ?_;refine eM (b:=b < a) (by simp [D.le,D.le.go,aQ]) (fun hc=>?_) (fun hc=>?_)
  .refine al [4] [] ?_;exact aV (Aq @hc @ZM)
  .refine ao (b8 _ ?_);refine al [4] [] ?_;exact aV (Aq @hc @ZM)
theorem LS {l m:List Int} {n:Nat} (h1:n < l.length) (h2:n < m.length):aan (l.drop n) (m.drop n)=if l[n] < m[n] then -1 else if m[n] < l[n] then 1 else aan (l.drop (n+1)) (m.drop (n+1)):=by
 rw [List.drop_eq_getElem_cons h1,List.drop_eq_getElem_cons h2,aan]
theorem LU {l m:List Int} {n:Nat} (h1:n < l.length) (h2:¬ n < m.length):aan (l.drop n) (m.drop n)=1:=by
 rw [List.drop_eq_getElem_cons h1,show m.drop n=[] from List.drop_eq_nil_of_le (by omega),aan]
theorem LV {l m:List Int} {n:Nat} (h1:¬ n < l.length):aan (l.drop n) (m.drop n)=if n < m.length then -1 else 0:=by
 rw [List.drop_eq_nil_of_le (by omega)];by_cases h:n < m.length
 .rw [List.drop_eq_getElem_cons h,aan,if_pos h]
 .rw [List.drop_eq_nil_of_le (by omega),aan,if_neg h]
set_option maxHeartbeats 4000000 in
theorem LX (G:YJ) (k1 k2:Option Bool) (l m:List Int) (hl:l.length < 2^60) (hm:m.length < 2^60):aq Tryz.prog G 101 [.sl k1 (l.map fun n=>[.v (.int .i64 n)]),.sl k2 (m.map fun n=>[.v (.int .i64 n)])] (.v (.int .i64 (aan l m))):=by
 have hcm:=LW G;refine aq.aI (aw _) Tryz.func101 rfl rfl (rs:=[.tmp 4]) Tryz.results101 (by simp [Tryz.ntmps101]) fun X=>?_;simp only [Tryz.ntmps101,List.map];refine al [0,1] [] ?_;refine ae fun K1 ay=>?_;refine al [0,1,9,10,11] [] ?_;refine Zc (S:=Nat) (fun n=>n<=l.length/\aan (l.drop n) (m.drop n)=aan l m/\n<=m.length) (fun n=>⟨aZ [(0,.d (.sl k1 (l.map fun n=>[.v (.int .i64 n)]))),(1,.d (.sl k2 (m.map fun n=>[.v (.int .i64 n)]))),(9,.d (.sl k1 (l.map fun n=>[.v (.int .i64 n)]))),(10,int l.length),(11,int n)],YI []⟩) (fun n=>l.length - n) 0 ?_ (by simp) ?_
 .refine ZI
 .rintro n ⟨hn,hp,gZ⟩;refine al [0,1,9,10,11,12] [] ?_;refine ae fun K2 aa=>?_;refine eM (b:=n < l.length) (by simp [D.le,D.le.go,aQ]) (fun hc=>?_) (fun hc=>?_)
  .have hln:=hc;refine ao (aa _ ?_);refine ae fun K3 YT=>?_;refine YS ?_;have qf:=@hln;refine aB [0,1,5,6,9,10,11] [] ?_;refine ae fun K4 Y5=>?_;by_cases A5:n < m.length
   .have A6:¬ (n:Int) >= (m.length:Int):=by omega
    rw [LS hln A5] at hp;generalize hx:l[n]=x at *;generalize hy:m[n]=y at *;have pZ:=hcm x y;have qf:=@A6;refine aB [0,1,5,6,9,10,11,19] [] ?_;refine af (by simp<;>omega) ?_;refine ao (Y5 _ ?_);have qf:=(Aq @A5 @hy);refine aB [0,1,6,7,9,10,11] [] ?_;by_cases h1:x < y
    .rw [if_pos h1] at hp pZ;refine aP trivial pZ [0,1,8,9,10,11] [] ?_;refine al [0,1,8,9,10,11,28] [] ?_;refine YM rfl ?_;refine al [4] [] ?_;exact aV @hp
    .rw [if_neg h1] at hp pZ;by_cases h2:y < x
     .rw [if_pos h2] at hp pZ;refine aP trivial pZ [0,1,8,9,10,11] [] ?_;refine al [0,1,8,9,10,11,28] [] ?_;refine YM rfl ?_;refine al [4] [] ?_;exact aV @hp
     .rw [if_neg h2] at hp pZ;refine aP trivial pZ [0,1,8,9,10,11] [] ?_;refine al [0,1,8,9,10,11,28] [] ?_;refine af rfl ?_;refine ao (YT _ ?_);refine eL ?_;(try simp only [YP,bd]);refine bn.mk (n+1) ⟨by omega,hp,by omega⟩ (by omega) ?_;refine ZI
   .have A6:(n:Int) >= (m.length:Int):=by omega
    rw [LU hln A5] at hp;have qf:=@A6;refine aB [0,1,5,6,9,10,11,19] [] ?_;refine YM (by simp<;>omega) ?_;refine al [4] [] ?_;exact aV @hp
  .rw [LV hc] at hp
   obtain rfl:n=l.length:=by omega
   refine bY (ay _ ?_);refine ae fun K5 b8=>?_;refine al [35] [] ?_;refine eM (b:=l.length < m.length) (by simp [D.le,D.le.go,aQ]) (fun hc=>?_) (fun hc=>?_)
   .rw [if_pos hc] at hp;refine al [4] [] ?_;exact aV @hp
   .rw [if_neg hc] at hp;refine ao (b8 _ ?_);refine al [4] [] ?_;exact aV @hp
theorem Ip (G:YJ) (p:YN) (hp:p.names.length < 2^62) (s:List UInt8):aq Tryz.prog G 110 [dS s,.ip (cy p)] (.v (.bool (decide (YX p s < 0)))):=by
 have hi:=nN G p hp s;simp only [cA,cy,cz,cu,dS] at hi ⊢;refine aq.aI (aw _) Tryz.func110 rfl rfl (rs:=[.tmp 3]) Tryz.results110 (by simp [Tryz.ntmps110]) fun X=>?_;simp only [Tryz.ntmps110,List.map];refine al [0,1] [] ?_;refine aP trivial hi [3] [] ?_;exact dK
def sH (p:YN) (l:List Bool):D:=.fn (.func 158) [.ip [eW l],.ip (cy p)]
theorem Uj (G:YJ) (p:YN) (l:List Bool):aq Tryz.prog G 111 [cA p,eW l] (sH p l):=by
 simp only [cA,cy,cz,cu,eW,sH];generalize p.names.map bk=NN;generalize p.ar.map bF=RR;generalize (l.map fun b=>[D.v (.bool b)])=L;refine aq.aI (aw _) Tryz.func111 rfl rfl (rs:=[.tmp 4]) Tryz.results111 (by simp [Tryz.ntmps111]) fun X=>?_;simp only [Tryz.ntmps111,List.map];refine al [2,3] [2,3] ?_;refine al [4] [2,3] ?_;exact dK
set_option maxHeartbeats 2000000 in
theorem Im (G:YJ) (p:YN) (hp:p.names.length < 2^62) (L:List Bool) (hl:L.length=p.names.length):pA (fun nm=>¬ YX p nm < 0) G 158 [.ip [eW L],.ip (cy p)] (aaF p L):=by
 intro nm hn;have bK:=nN G p hp nm;obtain ⟨h1,h2⟩:=xR hn
 have hi:(YX p nm).toNat < L.length:=by omega
 have jI:aaF p L nm=L[(YX p nm).toNat]:=by unfold aaF;exact cr hi
 rw [jI];rw [h2] at bK;clear h1 h2 jI hn;simp only [cA,cy,cz,cu,dS] at bK;simp only [eW,cy,cz,cu];generalize fj:(YX p nm).toNat=i at bK hi ⊢;clear fj hl hp;generalize p.names.map bk=NN at bK ⊢;generalize p.ar.map bF=RR at bK ⊢;refine aq.aI (aw _) Tryz.func158 rfl rfl (rs:=[.tmp 4]) Tryz.results158 (by simp [Tryz.ntmps158]) fun X=>?_;simp only [Tryz.ntmps158,List.map];have fw:=@dS.eq_1;refine ab fw [0,1,2] [] ?_;have qf:=(Aq fw @hi);refine CH bK [4] [] ?_;exact aV fw
theorem Lr {p:YN} {e:Ex} (hw:cD e) (h:jv p e=false):gb (fun nm=>¬ YX p nm < 0) (fun nm=>¬ YX p nm < 0) e:=by
 have ax:∀ s∈Zx true e,¬ YX p s < 0:=fun s hs=>by
  unfold jv at h;rw [List.any_eq_false] at h;have:=h s hs;simpa using this
 exact DU hw (fun s hs=>ax s (qq.2 hs)) (fun s hs=>ax s (Ch (qq.2 hs)))
theorem HS {e:Ex} (hb:bE e<=2^28):(Zx true e).length<=2^28:=by
 have h1:=Lib.compact_length_le (jY (Y7 true e));have h2:=mH (Y7 true e);have h3:=qs true e;unfold Zx;omega
theorem Up (G:YJ) {p:YN} (aS:Y4 p=none) {e:Ex} (hw:cD e) (hb:bE e<=2^28) (fB:jv p e=false) (s i:Nat):aq Tryz.prog G 51 [dE e,sH p (jB p (fY p s) (dO (i:Int) (YR p).length)).is,sH p (fY p s).is] (.v (.bool (jE p e s i))):=by
 have gZ:=(ZV aS).names;have hs:=acJ aS (s:Int);have hd:=(zq aS hs (dO (i:Int) (YR p).length)).1;exact EL G _ _ _ _ _ _ _ _ (Im G p (by omega) _ hd.l1) (Im G p (by omega) _ hs.l1) e (Lr hw fB) hb
set_option maxRecDepth 100000 in
set_option maxHeartbeats 4000000 in
theorem E8 (G:YJ) (p:YN) (aS:Y4 p=none) (e:Ex) (hb:bE e<=2^28) (fB:jv p e=true):aq Tryz.prog G 56 [fN p,dE e] (.aT [.sl none [],.bh 40 (.v (.int .i64 7))]):=by
 have gZ:=(ZV aS).names;have tI:=Cg G e hb;have fi:=zh G none (Zx true e) 110 [.ip (cy p)] (fun s=>decide (YX p s < 0)) (by have:=HS hb;omega) (fun s _=>Ip G p (by omega) s);unfold jv at fB;rw [fB] at fi;obtain ⟨ta,ca,he⟩:=dX e;simp only [he,fN,jz,lv,cA,cy,cz,cu,iA,eG,YH,dS] at tI fi ⊢;generalize ((Zx true e).map fun s=>[D.v (.string (bs s))])=NS at *;generalize eD (aO p)=NX at *;generalize YV (bl p)=PP at *;generalize cR p=NI at *;generalize ((YR p).map fun n=>[D.v (.int .i64 n)])=IN at *;generalize (bl p).map ZF=PT at *;generalize p.names.map bk=NN at *;generalize p.ar.map bF=RR at *;refine aq.aI (aw _) Tryz.func56 rfl rfl (rs:=[.tmp 4,.tmp 5]) Tryz.results56 (by simp [Tryz.ntmps56]) fun X=>?_;simp only [Tryz.ntmps56,List.map];have fw:=@dS.eq_1;refine ab fw [0,1] [] ?_;refine ae fun K1 ay=>?_;refine ab fw [0,1,19] [] ?_;refine af rfl ?_;refine ao (ay _ ?_);refine ab fw [0,1,6] [6] ?_;refine cq fw 6 ?_;refine ae fun K2 aa=>?_;refine rg [0,1,6,28] [] (fun _ _=>trivial) fun K' ah=>?_;(repeat (refine aJ fun K2 aa=>?_;simp [dS];(repeat (refine ⟨by omega,?_⟩));refine aa _ ?_;clear aa K2));refine aJ fun K2 aa=>?_;simp [dS];refine bU.data (tI) (by simp;rfl) (by first | exact D.ba _ | simp [aQ,List.map_map,Function.comp_def,D.le,D.le.go,D.le_refl,D.ba,dS]) ?_;refine aa _ ?_;clear aa K2;simp only [au,cw];(repeat (refine aJ fun K2 aa=>?_;simp [dS];(repeat (refine ⟨by omega,?_⟩));refine aa _ ?_;clear aa K2));refine aJ fun K2 aa=>?_;simp [dS];refine bU.data (fi) (by simp;rfl) (by first | exact D.ba _ | simp [aQ,List.map_map,Function.comp_def,D.le,D.le.go,D.le_refl,D.ba,dS]) ?_;refine aa _ ?_;clear aa K2;simp only [au,cw];(repeat (refine aJ fun K2 aa=>?_;simp [dS];(repeat (refine ⟨by omega,?_⟩));refine aa _ ?_;clear aa K2));refine Y0 (ah _ (AW.st (by simp [dS];rfl) ?_));clear ah K';refine YM rfl ?_;refine ab fw [4,5] [] ?_;exact aV fw
theorem M9 {p:YN} {e:Ex} {s:Nat} (h:s < (aO p).length):(gg p e).take (s+1)=(gg p e).take s ++ [fQ p e s]:=by
 have h2:s < (gg p e).length:=by rw [re];exact h
 rw [List.take_succ_eq_append_getElem h2,rb]
theorem Nb {p:YN} {e:Ex} {s i:Nat} (h:i < cR p):(fQ p e s).take (i+1)=(fQ p e s).take i ++ [jE p e s i]:=by
 have h2:i < (fQ p e s).length:=by rw [rf];exact h
 rw [List.take_succ_eq_append_getElem h2,wh]
set_option maxRecDepth 100000 in
set_option maxHeartbeats 16000000 in
theorem E9 (G:YJ) (p:YN) (aS:Y4 p=none) (hk:∀ r∈p.ar,j4 r) (jc:(YR p).length<=6) (hP:YV (bl p)<=4096) (e:Ex) (hw:cD e) (hb:bE e<=2^28) (fB:jv p e=false):aq Tryz.prog G 56 [fN p,dE e] (.aT [vO (gg p e),.v .nilIface]):=by
 have gZ:=(ZV aS).names;have tI:=Cg G e hb;have fi:=zh G none (Zx true e) 110 [.ip (cy p)] (fun s=>decide (YX p s < 0)) (by have:=HS hb;omega) (fun s _=>Ip G p (by omega) s);have aD:=fun s i=>Up G aS hw hb fB s i;have Bo:=fun (s i:Nat) (h1:(s:Int) < YV (bl p)) (h2:i < cR p)=>VH G p aS hk s i hP h1 h2;have bA:=fun (s:Nat) (h1:(s:Int) < YV (bl p))=>HI G p aS (YV (bl p)) ((cR p:Nat):Int) (eD (aO p)) s (by omega) (by omega);have b6:=fun l=>Uj G p l;have wO:=fun s (h:s < (aO p).length)=>M9 (e:=e) h;have xc:=fun s i (h:i < cR p)=>Nb (e:=e) (s:=s) h;have Y8:=re p e;have Z1:=fun s=>rf p e s;have wy:cR p<=64:=Nat.pow_le_pow_right (n:=2) (by decide) jc;have hlen:=nP p;have nE:0 < YV (bl p):=k9 fun x hx=>(jT (ZV aS) hx).m2
 have hcast:((aO p).length:Int)=YV (bl p):=by rw [hlen];omega
 have oM:(aO p).length<=4096:=by omega
 unfold jv at fB;rw [fB] at fi;obtain ⟨ta,ca,he⟩:=dX e;simp only [he,fN,jz,lv,cA,cy,cz,cu,iA,eG,YH,dS,vO,eW,sH,kN,iQ,<- hcast] at tI fi aD Bo bA b6 ⊢;clear hlen hcast nE hP;generalize ((Zx true e).map fun s=>[D.v (.string (bs s))])=NS at *;generalize NL:gg p e=GD at *;generalize NM:fQ p e=GR at *;clear NL NM;generalize eD (aO p)=NX at *;generalize (aO p).length=N at *;obtain ⟨IS,Fw⟩:∃ IS:Nat->Nat->List Bool,∀ s i:Nat,(jB p (fY p s) (dO (i:Int) (YR p).length)).is=IS s i:=⟨_,fun _ _=>rfl⟩;obtain ⟨WS,FR⟩:∃ WS:Nat->List Bool,∀ s:Nat,(fY p s).is=WS s:=⟨_,fun _=>rfl⟩;obtain ⟨CS,Fo⟩:∃ CS:Nat->List Int,∀ s:Nat,(fY p s).ct=CS s:=⟨_,fun _=>rfl⟩;obtain ⟨EV,sX⟩:∃ EV:Nat->Nat->Bool,∀ s i:Nat,jE p e s i=EV s i:=⟨_,fun _ _=>rfl⟩;simp only [Fw,FR,Fo,sX] at aD Bo bA xc;clear Fw FR Fo sX;generalize cR p=NI at *;generalize ((YR p).map fun n=>[D.v (.int .i64 n)])=IN at *;generalize (bl p).map ZF=PT at *;generalize p.names.map bk=NN at *;generalize p.ar.map bF=RR at *;refine aq.aI (aw _) Tryz.func56 rfl rfl (rs:=[.tmp 4,.tmp 5]) Tryz.results56 (by simp [Tryz.ntmps56]) fun X=>?_;simp only [Tryz.ntmps56,List.map];have fw:=@dS.eq_1;refine ab fw [0,1] [] ?_;refine ae fun K1 ay=>?_;refine ab fw [0,1,19] [] ?_;refine af rfl ?_;refine ao (ay _ ?_);refine ab fw [0,1,6] [6] ?_;refine cq fw 6 ?_;refine ae fun K2 aa=>?_;refine rg [0,1,6,28] [] (fun _ _=>trivial) fun K' ah=>?_;(repeat (refine aJ fun K2 aa=>?_;simp [dS];(repeat (refine ⟨by omega,?_⟩));refine aa _ ?_;clear aa K2));refine aJ fun K2 aa=>?_;simp [dS];refine bU.data (tI) (by simp;rfl) (by first | exact D.ba _ | simp [aQ,List.map_map,Function.comp_def,D.le,D.le.go,D.le_refl,D.ba,dS]) ?_;refine aa _ ?_;clear aa K2;simp only [au,cw];(repeat (refine aJ fun K2 aa=>?_;simp [dS];(repeat (refine ⟨by omega,?_⟩));refine aa _ ?_;clear aa K2));refine aJ fun K2 aa=>?_;simp [dS];refine bU.data (fi) (by simp;rfl) (by first | exact D.ba _ | simp [aQ,List.map_map,Function.comp_def,D.le,D.le.go,D.le_refl,D.ba,dS]) ?_;refine aa _ ?_;clear aa K2;simp only [au,cw];(repeat (refine aJ fun K2 aa=>?_;simp [dS];(repeat (refine ⟨by omega,?_⟩));refine aa _ ?_;clear aa K2));refine Y0 (ah _ (AW.st (by simp [dS];rfl) ?_));clear ah K';refine af rfl ?_;refine ao (aa _ ?_);refine ab fw [0,1,6,7] [] ?_;refine ae fun K3 YT=>?_;refine ab fw [0,1,6,7,33,34] [] ?_;refine Zc (S:=Nat) (fun s=>s<=N) (fun s=>⟨aZ [(0,.d (.ip [.sl none NN,.sl none RR,.v (.int .i64 N),.v (.int .i64 NI),.sl none NX,.sl none PT,.sl none IN])),(1,.d (.bh ta ca)),(6,.d (.ip [.sl none NN,.sl none RR])),(7,.own 800 0 s),(33,int N),(34,int s)],YI [(800,.sl 55 1 ((GD.take s).map fun x=>[.sl none (x.map fun b=>[.v (.bool b)])]))]⟩) (fun s=>N - s) 0 ?_ (by omega) ?_
 .refine (aC.lu 7 800 55 1 rfl rfl).trans ?_;refine bz fw
 .intro s hs
  have wv:((GD.take s).map fun x=>[D.sl none (x.map fun b=>[D.v (.bool b)])]).length=s:=by simp;omega
  have Gf:=wO s;generalize rj:GD.take s=GS at wv Gf ⊢;refine ab fw [0,1,6,7,33,34,35] [800] ?_;refine ae fun K4 Y5=>?_;by_cases YK:s < N
  .refine YM (by simp<;>omega) ?_;refine ao (Y5 _ ?_);refine ae fun K5 b8=>?_;refine YS ?_;have Qo:=bA s (by omega);have Qi:=fun i=>Bo s i (by omega);have acw:=aD s;have tT:=xc s;have w9:=Z1 s;have O9:=Gf YK;have Ot:=b6 (WS s);generalize IS s=DA at *;generalize WS s=WW at *;generalize CS s=CC at *;generalize EV s=EE at *;generalize GR s=RS at *;refine ab fw [0,1,6,7,8,33,34] [800] ?_;refine aP fw Qo [0,1,6,7,8,9,33,34] [800] ?_;refine ab fw [0,1,6,7,8,9,10,33,34] [800] ?_;refine ae fun K6 dD=>?_;refine ab fw [0,1,6,7,8,9,10,33,34,44,45] [800] ?_;refine Zc (S:=Nat) (fun i=>i<=NI) (fun i=>⟨aZ [(0,.d (.ip [.sl none NN,.sl none RR,.v (.int .i64 N),.v (.int .i64 NI),.sl none NX,.sl none PT,.sl none IN])),(1,.d (.bh ta ca)),(6,.d (.ip [.sl none NN,.sl none RR])),(7,.own 800 0 s),(8,int s),(9,.d (.sl none (WW.map fun b=>[.v (.bool b)]))),(10,.own 902 0 i),(33,int N),(34,int s),(44,int NI),(45,int i)],YI [(800,.sl 55 1 (GS.map fun x=>[.sl none (x.map fun b=>[.v (.bool b)])])),(902,.sl 4 1 ((RS.take i).map fun b=>[.v (.bool b)]))]⟩) (fun i=>NI - i) 0 ?_ (by omega) ?_
   .refine (aC.lu 10 902 4 1 rfl rfl).trans ?_;refine bz fw
   .intro i hi;have tR:=tT i
    have b9:((RS.take i).map fun b=>[D.v (.bool b)]).length=i:=by simp;omega
    generalize kQ:RS.take i=RI at tR b9 ⊢;refine ab fw [0,1,6,7,8,9,10,33,34,44,45,46] [800,902] ?_;refine ae fun K7 dY=>?_;by_cases eI:i < NI
    .refine YM (by simp<;>omega) ?_;refine ao (dY _ ?_);refine ae fun K8 Zm=>?_;refine YS ?_;have tS:=tR eI;have Qj:=Qi i eI;have aeb:=acw i;have Ou:=b6 (DA i);generalize DA i=II at *;generalize EE i=ee at *;refine ab fw [0,1,6,7,8,9,10,11,33,34,44,45] [800,902] ?_;refine aP fw Qj [0,1,6,7,8,9,10,12,13,33,34,44,45] [800,902] ?_;refine ae fun K9 hK9=>?_;refine ab fw [0,1,6,7,8,9,10,12,33,34,44,45,56] [800,902] ?_;refine af rfl ?_;refine ao (hK9 _ ?_);refine vl (aw _) (by kernel_rfl) ([(10,(902,67))]) ([]) (List.range 12) (by kernel_rfl) fun K' ah=>?_;(repeat (refine kF rfl fun K2 aa=>?_;simp [dS,b9,List.take_of_length_le];(repeat (refine ⟨by omega,?_⟩));refine aa _ ?_;clear aa K2));refine kF rfl fun K2 aa=>?_;simp [dS,b9,List.take_of_length_le];refine kc.mk (Ou) (by simp;rfl) (by simp;rfl) (by first | exact D.ba _ | simp [aQ,List.map_map,Function.comp_def,D.le,D.le.go,D.le_refl,D.ba,dS,b9,List.take_of_length_le]) (by simp) ?_;refine aa _ ?_;clear aa K2;simp only [au,cw];(repeat (refine kF rfl fun K2 aa=>?_;simp [dS,b9,List.take_of_length_le];(repeat (refine ⟨by omega,?_⟩));refine aa _ ?_;clear aa K2));refine kF rfl fun K2 aa=>?_;simp [dS,b9,List.take_of_length_le];refine kc.mk (Ot) (by simp;rfl) (by simp;rfl) (by first | exact D.ba _ | simp [aQ,List.map_map,Function.comp_def,D.le,D.le.go,D.le_refl,D.ba,dS,b9,List.take_of_length_le]) (by simp) ?_;refine aa _ ?_;clear aa K2;simp only [au,cw];(repeat (refine kF rfl fun K2 aa=>?_;simp [dS,b9,List.take_of_length_le];(repeat (refine ⟨by omega,?_⟩));refine aa _ ?_;clear aa K2));refine kF rfl fun K2 aa=>?_;simp [dS,b9,List.take_of_length_le];refine kc.mk (aeb) (by simp;rfl) (by simp;rfl) (by first | exact D.ba _ | simp [aQ,List.map_map,Function.comp_def,D.le,D.le.go,D.le_refl,D.ba,dS,b9,List.take_of_length_le]) (by simp) ?_;refine aa _ ?_;clear aa K2;simp only [au,cw];(repeat (refine kF rfl fun K2 aa=>?_;simp [dS,b9,List.take_of_length_le];(repeat (refine ⟨by omega,?_⟩));refine aa _ ?_;clear aa K2));refine qH (ah _ ?_);clear ah K';refine Zm _ (AW.norm [0,1,6,7,8,9,10,33,34,44,45] [800,902] (fun _ _=>trivial) (AW.st (by simp [dS,b9,List.take_of_length_le];rfl) ?_));refine cf fw ?_;(try simp only [YP,bd]);refine bn.mk (i+1) (by omega) (by omega) ?_;rw [tS];refine bz fw
    .obtain rfl:i=NI:=by omega
     have Ad:RI=RS:=by rw [<- kQ];exact List.take_of_length_le (by omega)
     subst Ad;refine af (by simp) ?_;refine bY (dD _ ?_);refine AW.imp (aC.freeze 902 trivial) ?_;refine AW.st (by simp [dS,b9,List.take_of_length_le];rfl) ?_;refine ff (aw _) fun K' ah=>?_;(repeat (refine aJ fun K2 aa=>?_;simp [dS,wv,List.take_of_length_le];(repeat (refine ⟨by omega,?_⟩));refine aa _ ?_;clear aa K2));refine Y0 (ah _ ?_);clear ah K';refine b8 _ (AW.norm [0,1,6,7,33,34] [800] (fun _ _=>trivial) (AW.st (by simp [dS,wv,List.take_of_length_le];rfl) ?_));refine cf fw ?_;(try simp only [YP,bd]);refine bn.mk (s+1) (by omega) (by omega) ?_;rw [O9];refine bz fw
  .obtain rfl:s=N:=by omega
   have hGe:GS=GD:=by rw [<- rj];exact List.take_of_length_le (by omega)
   subst hGe;refine af (by simp) ?_;refine bY (YT _ ?_);refine AW.imp (aC.freeze 800 trivial) ?_;refine AW.st (by simp [dS,wv,List.take_of_length_le];rfl) ?_;refine ab fw [4,5] [] ?_;exact aV fw
end Go.Proofs.YtdigkhaofjmgkaaGreatDoor
namespace Go.Av
section
variable {P:Program} {T:Ty} {Mv X:Nat->Prop} {G:YJ} {N:Fr} {ops:Array Oper} {σ:St}
def ur:Op->Bool
 | .call { callee:=.builtin .copy,.. }=>true
 | _=>false
theorem zi {o:Oper} (ho:ur o.op=true) {e e':Env} {H:Heap} {c:Prop} {x:AV} {YL:St} (ha:dB o.op e e') (h:wr T G Mv ⟨e,H⟩ o=some (c,x,YL)):YL.env=e/\wr T G Mv ⟨e',H⟩ o=some (c,x,⟨e',YL.H⟩):=by
 obtain ⟨dst,op,type,pos,after,guard⟩:=o;dsimp only at ho ha;unfold ur at ho;split at ho
 .rename_i args argTypes;unfold wr at h ⊢;dsimp only at h ⊢
  cases dst with
  | none=>cases h
  | some d=>
   dsimp only at h ⊢;split at h
   .rename_i x0 y0 t t' wA Ag;have e1:args = #[x0,y0]:=Array.toList_inj.1 wA;subst e1;have hx:aU G e x0=aU G e' x0:=cI fun t ht=>ha t (by simp [Op.operands,Call.operands,ht]);have hy:aU G e y0=aU G e' y0:=cI fun t ht=>ha t (by simp [Op.operands,Call.operands,ht]);rw [hx,hy] at h;split at h
    .rename_i tt b4
     try rw [b4]
     try dsimp only
     split at h
     .rename_i el hd
      try rw [hd]
      try dsimp only
      split at h
      .rename_i te r off n v h1 h2 h3
       try rw [h1,h2,h3]
       try dsimp only
       split at h
       .rename_i ty sz els news g1 g2
        try rw [g1,g2]
        simp only [Option.some.injEq,Prod.mk.injEq] at h;obtain ⟨rfl,rfl,rfl⟩:=h;exact ⟨rfl,rfl⟩
       .cases h
      .rename_i te k v h1 h2 h3
       try rw [h1,h2,h3]
       try dsimp only
       split at h
       .rename_i news g1
        try rw [g1]
        simp only [Option.some.injEq,Prod.mk.injEq] at h;obtain ⟨rfl,rfl,rfl⟩:=h;exact ⟨rfl,rfl⟩
       .cases h
      .cases h
     .cases h
    .cases h
   .cases h
 .cases ho
def yz (P:Program) (T:Ty) (Mv:Nat->Prop) (G:YJ) (N:Fr) (cp:List Nat) (ops:Array Oper) (i:Nat) (o:Oper) (σ ag:St):Prop:=
 (cp.contains i=true/\c8 N o/\o.guard=none/\Y1 o.op=none/\Zs o.op=true/\ur o.op=true/\∃ c x YL,wr T G Mv σ o=some (c,x,YL)/\c/\ag=⟨au YL.env o.dst x,YL.H⟩)\/
 (cp.contains i=false/\j7 P T Mv G N [] [] [] [] ops i o σ ag)
def vK (cp:List Nat) (ops:Array Oper) (i j:Nat) (oi oj:Oper):Bool:=
 if cp.contains i then !cp.contains j && kindOf oj.op == 0 && oi.apart ops oj else if cp.contains j then kindOf oi.op == 0 && oi.apart ops oj else sE [] [] [] ops i j oi oj
theorem Md (hg:Good P T) (cp:List Nat):Sound P X G N Mv (yz P T Mv G N cp ops) ops:=fun i o ho σ ag h w μ a hi Q K hk=>by
 rcases h with ⟨_,hd,bW,hc,hw,_,c,x,YL,h1,h2,rfl⟩ | ⟨_,h⟩
 .refine qF hg ⟨hd,.inl ⟨fZ bW,?_⟩⟩ hi ho hk;unfold iD;simp only [hc];rw [if_pos hw];exact ⟨c,x,YL,h1,h2,rfl⟩
 .exact xL hg [] [] [] [] i o ho _ _ h w μ a hi hk
theorem HJ {i:Nat} {o:Oper} {σ ag:St} (hk:kindOf o.op=0) (h:j7 P T Mv G N [] [] [] [] ops i o σ ag):c8 N o/\o.guard=none/\∃ x,Ex P T Mv G o σ.env σ.H x σ.H/\ag=⟨au σ.env o.dst x,σ.H⟩:=by
 obtain ⟨hd,bW,_,h⟩:=h
 rcases h with ⟨b,_⟩ | ⟨_,b,_⟩ | ⟨_,_,k1,_,x,H',e1,_,rfl⟩
 .cases b
 .cases b
 .obtain rfl:=e1.keeps (by omega);exact ⟨hd,bW,x,e1,rfl⟩
theorem HK {i:Nat} {o:Oper} {e:Env} {H:Heap} {x:AV} (hk:kindOf o.op=0) (hd:c8 N o) (bW:o.guard=none) (h:Ex P T Mv G o e H x H):j7 P T Mv G N [] [] [] [] ops i o ⟨e,H⟩ ⟨au e o.dst x,H⟩:=
 ⟨hd,bW,(fun r hr=>by cases hr),.inr (.inr ⟨rfl,rfl,by omega,(by simp [jk,List.lookup]),x,H,h,(fun r hr=>by cases hr),rfl⟩)⟩
theorem Me (cp:List Nat):abK (yz P T Mv G N cp ops) (vK cp ops) ops:=fun i j oi oj bD bf hc σ YL dh h1 h2=>by
 unfold vK at hc
 have fact:∀ (ck:oi.apart ops oj=true),(∀ v,dB oj.op (au σ.env oi.dst v) σ.env)/\(∀ v,dB oi.op σ.env (au σ.env oj.dst v))/\_:=fun ck=>
  ⟨fun v t ht=>(eE ck (e:=σ.env) (v:=v)).1 t (fF ht),fun v t ht=>((eE ck (e:=σ.env) (v:=v)).2.1 t (fF ht)).symm,(eE ck (e:=σ.env) (v:=Y3)).2.2⟩
 rcases h1 with ⟨ai,di,gi,ci,wi,yi,c,x,τ,w1,cc,rfl⟩ | ⟨ai,h1⟩
 .rw [if_pos ai] at hc;simp only [Bool.and_eq_true,Bool.not_eq_true',beq_iff_eq] at hc;obtain ⟨⟨aj,kj⟩,ck⟩:=hc;obtain ⟨cE,Zk,aG⟩:=fact ck
  rcases h2 with ⟨bj,_⟩ | ⟨_,h2⟩
  .rw [aj] at bj;cases bj
  obtain ⟨dj,gj,z,e2,rfl⟩:=HJ kj h2;have G2:wr T G Mv ⟨σ.env,σ.H⟩ oi=some (c,x,τ):=w1;obtain ⟨he,_⟩:=zi (e':=σ.env) yi (fun t ht=>rfl) G2;rw [he] at e2 ⊢;have e3:Ex P T Mv G oj σ.env σ.H z σ.H:=(e2.congr (by omega) (cE _)).free kj σ.H;refine ⟨⟨au σ.env oj.dst z,σ.H⟩,.inr ⟨aj,HK kj dj gj e3⟩,.inl ⟨ai,di,gi,ci,wi,yi,c,x,_,(zi yi (Zk z) G2).2,cc,?_⟩⟩;dsimp only;rw [dR aG]
 .rw [if_neg (by rw [ai];decide)] at hc
  rcases h2 with ⟨bj,dj,gj,cj,wj,yj,c,x,τ,w1,cc,rfl⟩ | ⟨bj,h2⟩
  .rw [if_pos bj] at hc;simp only [Bool.and_eq_true,beq_iff_eq] at hc;obtain ⟨ki,ck⟩:=hc;obtain ⟨cE,Zk,aG⟩:=fact ck;obtain ⟨di,gi,z,e1,rfl⟩:=HJ ki h1;obtain ⟨he,w2⟩:=zi yj (cE z) w1;refine ⟨⟨au σ.env oj.dst x,τ.H⟩,.inl ⟨bj,dj,gj,cj,wj,yj,c,x,_,w2,cc,rfl⟩,.inr ⟨ai,?_⟩⟩;have e3:Ex P T Mv G oi (au σ.env oj.dst x) τ.H z τ.H:=(e1.congr (by omega) (Zk x)).free ki τ.H;rw [he,dR aG];exact HK ki di gi e3
  .rw [if_neg (by rw [bj];decide)] at hc;obtain ⟨dA,f1,f2⟩:=Ce [] [] [] [] i j oi oj bD bf hc σ YL dh h1 h2;exact ⟨dA,.inr ⟨bj,f1⟩,.inr ⟨ai,f2⟩⟩
def u5 (P:Program) (T:Ty) (Mv:Nat->Prop) (G:YJ) (N:Fr) (cp:List Nat) (ops:Array Oper) (i:Nat) (o:Oper) (σ:St) (K:St->Prop):Prop:=
 if cp.contains i=true then c8 N o/\o.guard=none/\Y1 o.op=none/\Zs o.op=true/\ur o.op=true/\match wr T G Mv σ o with
  | some (c,x,YL)=>c/\K ⟨au YL.env o.dst x,YL.H⟩
  | none=>False
 else sd P T Mv G N [] [] [] [] ops i o σ K
def nX (P:Program) (T:Ty) (Mv:Nat->Prop) (G:YJ) (N:Fr) (cp:List Nat) (ops:Array Oper) (K:St->Prop):List (Nat×Oper)->St->Prop
 | [],σ=>K σ
 | (i,o) :: rest,σ=>u5 P T Mv G N cp ops i o σ (nX P T Mv G N cp ops K rest)
theorem Wa {cp:List Nat} {K:St->Prop}:∀ (l:List Nat) (σ:St),(∀ i∈l,i < ops.size)->nX P T Mv G N cp ops K (YQ ops l) σ->∃ aY,K aY/\fX (yz P T Mv G N cp ops) ops l σ aY:=by
 intro l
 induction l with
 | nil=>intro σ _ h;exact ⟨σ,h,rfl⟩
 | cons i l ih=>
  intro σ hl h;have hi:=hl i (by simp)
  have ho:ops[i]? = some ops[i]:=by simp [hi]
  have ax:YQ ops (i :: l)=(i,ops[i]) :: YQ ops l:=by simp [YQ,hi]
  rw [ax] at h;have h:u5 P T Mv G N cp ops i ops[i] σ (nX P T Mv G N cp ops K (YQ ops l)):=h;unfold u5 at h;split at h
  .rename_i ha;obtain ⟨hd,bW,hc,hw,hy,h⟩:=h;split at h
   .rename_i c x YL h1;obtain ⟨YZ,h⟩:=h;obtain ⟨aY,hk,hr⟩:=ih _ (fun j hj=>hl j (by simp [hj])) h;exact ⟨aY,hk,_,ho,_,.inl ⟨ha,hd,bW,hc,hw,hy,c,x,YL,h1,YZ,rfl⟩,hr⟩
   .exact h.elim
  .rename_i ha
   have tu:YQ ops [i]=[(i,ops[i])]:=by simp [YQ,hi]
   have hm:qI P T Mv G N [] [] [] [] ops (nX P T Mv G N cp ops K (YQ ops l)) (YQ ops [i]) σ:=by rw [tu];exact h
   obtain ⟨YL,cQ,o',Zr,vh,hs,ic⟩:=C6 [i] σ (by simpa using hi) (fun r hr=>by cases hr) hm;have ic:vh=YL:=ic;subst ic;obtain ⟨aY,hk,hr⟩:=ih _ (fun j hj=>hl j (by simp [hj])) cQ;exact ⟨aY,hk,o',Zr,_,.inr ⟨by simpa using ha,hs⟩,hr⟩
theorem Km (hg:Good P T) (hm:P.follows .mixedOrders=true) (cp:List Nat) (ord:List Nat) {id:Nat} (bp:k8 (vK cp ops) ord ops=true) {Q:Exit->St->Prop} (h:nX P T Mv G N cp ops (fun ag=>Q .normal ag) (YQ ops ord) σ):AW P Mv X G N (.region id ops true) Q σ:=
 vk hm (Md hg cp) (Me cp) ord bp fun YK=>Wa ord σ YK h
theorem Ki (hg:Good P T) (hm:P.follows .mixedOrders=true) (cp:List Nat) (ord:List Nat) {id:Nat} (bp:k8 (vK cp ops) ord ops=true) {Q:Exit->St->Prop}
  (h:∀ K:St->Prop,(∀ τ:St,Q .normal τ->K τ)->nX P T Mv G N cp ops K (YQ ops ord) σ):AW P Mv X G N (.region id ops true) Q σ:=Km hg hm cp ord bp (h _ fun _ h=>h)
theorem V8 {cp:List Nat} {K:St->Prop} {i:Nat} {l:List Nat} {o:Oper} (ho:ops[i]? = some o) (h:∀ K':St->Prop,(∀ τ,nX P T Mv G N cp ops K (YQ ops l) τ->K' τ)->u5 P T Mv G N cp ops i o σ K'):nX P T Mv G N cp ops K (YQ ops (i :: l)) σ:=by
 have:YQ ops (i :: l)=(i,o) :: YQ ops l:=by simp [YQ,ho]
 rw [this];exact h _ fun _ h=>h
theorem V9 {cp:List Nat} {K:St->Prop} (h:K σ):nX P T Mv G N cp ops K (YQ ops []) σ:=h
end
attribute [simp] u5 ur
end Go.Av
namespace Go.Av
section
variable {P:Program} {T:Ty} {Mv X:Nat->Prop} {G:YJ} {N:Fr} {ops:Array Oper} {σ:St}
def yJ (P:Program) (T:Ty) (Mv:Nat->Prop) (G:YJ) (N:Fr) (qc:List Nat) (ops:Array Oper) (i:Nat) (o:Oper) (σ ag:St):Prop:=
 (qc.contains i=true/\c8 N o/\o.guard=none/\∃ c g xs y,Y1 o.op=some c/\ZT G σ.env c=some (g,xs)/\HC P G [] g xs σ.H (.d y) σ.H/\ag=⟨au σ.env o.dst (.d y),σ.H⟩)\/
 (qc.contains i=false/\j7 P T Mv G N [] [] [] [] ops i o σ ag)
def vM (qc:List Nat) (ops:Array Oper) (i j:Nat) (oi oj:Oper):Bool:=
 if qc.contains i then !qc.contains j && decide (kindOf oj.op<=1) && oi.apart ops oj else if qc.contains j then decide (kindOf oi.op<=1) && oi.apart ops oj else sE [] [] [] ops i j oi oj
theorem UG (hg:Good P T) (qc:List Nat):Sound P X G N Mv (yJ P T Mv G N qc ops) ops:=fun i o ho σ ag h w μ a hi Q K hk=>by
 rcases h with ⟨_,hd,bW,c,g,xs,y,hc,ht,gA,rfl⟩ | ⟨_,h⟩
 .have dv:∀ d,o.dst=some d->d < N.n:=fun d e=>by unfold c8 at hd;rw [e] at hd;exact hd
  unfold wpOpIn;simp only [ho];rw [abW hi (fZ bW),if_pos rfl];refine (sQ (Mv:=Mv) (K:=fun YL=>YL=⟨au σ.env o.dst (.d y),σ.H⟩) hg hi dv ?_ fun w' ak a' YL e ax aD=>hk w' ak a' (e ▸ ax) aD);unfold ex1;simp only [hc,ht]
  exact (gA Mv X N σ.env (fun r hr=>by cases hr) (fun r hr=>by cases hr)).mono fun x ag ⟨e1,e2⟩=>by rw [e1,e2]
 .exact xL hg [] [] [] [] i o ho _ _ h w μ a hi hk
theorem HM {i:Nat} {o:Oper} {σ ag:St} (hk:kindOf o.op<=1) (h:j7 P T Mv G N [] [] [] [] ops i o σ ag):c8 N o/\o.guard=none/\∃ x,Ex P T Mv G o σ.env σ.H x σ.H/\ag=⟨au σ.env o.dst x,σ.H⟩:=by
 obtain ⟨hd,bW,_,h⟩:=h
 rcases h with ⟨b,_⟩ | ⟨_,b,_⟩ | ⟨_,_,k1,_,x,H',e1,_,rfl⟩
 .cases b
 .cases b
 .obtain rfl:=e1.keeps (by omega);exact ⟨hd,bW,x,e1,rfl⟩
theorem HL {i:Nat} {o:Oper} {e:Env} {H:Heap} {x:AV} (hk:kindOf o.op<=1) (hd:c8 N o) (bW:o.guard=none) (h:Ex P T Mv G o e H x H):j7 P T Mv G N [] [] [] [] ops i o ⟨e,H⟩ ⟨au e o.dst x,H⟩:=
 ⟨hd,bW,(fun r hr=>by cases hr),.inr (.inr ⟨rfl,rfl,by omega,(by simp [jk,List.lookup]),x,H,h,(fun r hr=>by cases hr),rfl⟩)⟩
theorem UH (qc:List Nat):abK (yJ P T Mv G N qc ops) (vM qc ops) ops:=fun i j oi oj bD bf hc σ YL dh h1 h2=>by
 unfold vM at hc;have tg:∀ {o:Oper} {c:Call} {e e':Env},Y1 o.op=some c->dB o.op e e'->ZT G e c=ZT G e' c:=fun {o c e e'} hc ha=>qJ fun t ht=>ha t (by rw [(nK hc).1];exact ht)
 have fact:∀ (ck:oi.apart ops oj=true),(∀ v,dB oj.op (au σ.env oi.dst v) σ.env)/\(∀ v,dB oi.op σ.env (au σ.env oj.dst v))/\_:=fun ck=>
  ⟨fun v t ht=>(eE ck (e:=σ.env) (v:=v)).1 t (fF ht),fun v t ht=>((eE ck (e:=σ.env) (v:=v)).2.1 t (fF ht)).symm,(eE ck (e:=σ.env) (v:=Y3)).2.2⟩
 rcases h1 with ⟨ai,di,gi,c,g,xs,y,ci,ti,bQ,rfl⟩ | ⟨ai,h1⟩
 .rw [if_pos ai] at hc;simp only [Bool.and_eq_true,Bool.not_eq_true',decide_eq_true_eq] at hc;obtain ⟨⟨aj,kj⟩,ck⟩:=hc;obtain ⟨cE,Zk,aG⟩:=fact ck
  rcases h2 with ⟨bj,_⟩ | ⟨_,h2⟩
  .rw [aj] at bj;cases bj
  obtain ⟨dj,gj,z,e2,rfl⟩:=HM kj h2;have e3:Ex P T Mv G oj σ.env σ.H z σ.H:=e2.congr (by omega) (cE _);refine ⟨⟨au σ.env oj.dst z,σ.H⟩,.inr ⟨aj,HL kj dj gj e3⟩,.inl ⟨ai,di,gi,c,g,xs,y,ci,?_,bQ,?_⟩⟩
  .rw [<- tg ci (Zk z)];exact ti
  .dsimp only;rw [dR aG]
 .rw [if_neg (by rw [ai];decide)] at hc
  rcases h2 with ⟨bj,dj,gj,c,g,xs,y,cj,tj,bQ,rfl⟩ | ⟨bj,h2⟩
  .rw [if_pos bj] at hc;simp only [Bool.and_eq_true,decide_eq_true_eq] at hc;obtain ⟨ki,ck⟩:=hc;obtain ⟨cE,Zk,aG⟩:=fact ck;obtain ⟨di,gi,z,e1,rfl⟩:=HM ki h1;have e3:Ex P T Mv G oi (au σ.env oj.dst (.d y)) σ.H z σ.H:=e1.congr (by omega) (Zk _);refine ⟨⟨au σ.env oj.dst (.d y),σ.H⟩,.inl ⟨bj,dj,gj,c,g,xs,y,cj,?_,bQ,rfl⟩,.inr ⟨ai,?_⟩⟩
   .rw [<- tg cj (cE z)];exact tj
   .dsimp only;rw [dR aG];exact HL ki di gi e3
  .rw [if_neg (by rw [bj];decide)] at hc;obtain ⟨dA,f1,f2⟩:=Ce [] [] [] [] i j oi oj bD bf hc σ YL dh h1 h2;exact ⟨dA,.inr ⟨bj,f1⟩,.inr ⟨ai,f2⟩⟩
theorem Gr {a b:List (Nat×Row)} (h1:∀ p∈a,List.lookup p.1 a=List.lookup p.1 b) (h2:∀ p∈b,List.lookup p.1 a=List.lookup p.1 b):YI a=YI b:=by
 funext q;unfold YI
 have mB:∀ (l:List (Nat×Row)),(∀ p∈l,p.1≠q)->List.lookup q l=none:=by
  intro l
  induction l with
  | nil=>intro _;rfl
  | cons p l ih=>
   intro h;rw [List.lookup_cons]
   have:(q == p.1)=false:=by
    rw [beq_eq_false_iff_ne];exact fun e=>h p (by simp) e.symm
   rw [this];exact ih fun p hp=>h p (by simp [hp])
 by_cases ha:∃ p∈a,p.1=q
 .obtain ⟨p,hp,rfl⟩:=ha;exact h1 p hp
 .by_cases hb:∃ p∈b,p.1=q
  .obtain ⟨p,hp,rfl⟩:=hb;exact h2 p hp
  .rw [mB a fun p hp e=>ha ⟨p,hp,e⟩,mB b fun p hp e=>hb ⟨p,hp,e⟩]
def hqK (P:Program) (G:YJ) (g:FuncId) (xs:List AV) (σ:St) (dst:Option Tmp) (K:St->Prop):Prop:=∃ y,HC P G [] g xs σ.H (.d y) σ.H/\K ⟨au σ.env dst (.d y),σ.H⟩
theorem hqK.mc {dst:Option Tmp} {K:St->Prop} {fx:List Nat} {g:FuncId} {Z8 xs:List AV} {bg:List (Nat×Row)} {y:D} (hc:MC P G fx g xs (YI bg) (.d y) (YI bg)) (hx:Z8.map (AV.tr (cT (bg.map (·.1))) (Zj (bg.map (·.1))))=xs)
  (hH:∀ p∈bg,(σ.H p.1).map (Row.tr (cT (bg.map (·.1))) (Zj (bg.map (·.1))))=YI bg p.1) (hd:∀ p∈bg,(bg.map (·.1)).contains p.1=true\/σ.H p.1=none) (hm:∀ r∈bg.map (·.1),fx.contains r=false->r∈([]:List Nat))
  (hj:aaw (YI bg) (Zh (eh (bg.map (·.1))) (Z7 (bg.map (·.1)) fx) (Z6 (bg.map (·.1)) fx) σ.H)=σ.H)
  (h:K ⟨au σ.env dst (.d y),σ.H⟩):hqK P G g Z8 σ dst K:=by
 refine ⟨y,?_,h⟩;have:=HC.mc (mvd:=[]) (H:=σ.H) hc hx hH hd hm;rw [hj] at this;exact this
def u7 (P:Program) (T:Ty) (Mv:Nat->Prop) (G:YJ) (N:Fr) (qc:List Nat) (ops:Array Oper) (i:Nat) (o:Oper) (σ:St) (K:St->Prop):Prop:=
 if qc.contains i=true then c8 N o/\o.guard=none/\match Y1 o.op with
  | some c=>match ZT G σ.env c with
   | some (g,xs)=>hqK P G g xs σ o.dst K
   | none=>False
  | none=>False
 else sd P T Mv G N [] [] [] [] ops i o σ K
def abE (P:Program) (T:Ty) (Mv:Nat->Prop) (G:YJ) (N:Fr) (qc:List Nat) (ops:Array Oper) (K:St->Prop):List (Nat×Oper)->St->Prop
 | [],σ=>K σ
 | (i,o) :: rest,σ=>u7 P T Mv G N qc ops i o σ (abE P T Mv G N qc ops K rest)
theorem Wg {qc:List Nat} {K:St->Prop}:∀ (l:List Nat) (σ:St),(∀ i∈l,i < ops.size)->abE P T Mv G N qc ops K (YQ ops l) σ->∃ aY,K aY/\fX (yJ P T Mv G N qc ops) ops l σ aY:=by
 intro l
 induction l with
 | nil=>intro σ _ h;exact ⟨σ,h,rfl⟩
 | cons i l ih=>
  intro σ hl h;have hi:=hl i (by simp)
  have ho:ops[i]? = some ops[i]:=by simp [hi]
  have ax:YQ ops (i :: l)=(i,ops[i]) :: YQ ops l:=by simp [YQ,hi]
  rw [ax] at h;have h:u7 P T Mv G N qc ops i ops[i] σ (abE P T Mv G N qc ops K (YQ ops l)):=h;unfold u7 at h;split at h
  .rename_i ha;obtain ⟨hd,bW,h⟩:=h;split at h
   .rename_i c hc;split at h
    .rename_i g xs ht;obtain ⟨y,bQ,h⟩:=h;obtain ⟨aY,hk,hr⟩:=ih _ (fun j hj=>hl j (by simp [hj])) h;exact ⟨aY,hk,_,ho,_,.inl ⟨ha,hd,bW,c,g,xs,y,hc,ht,bQ,rfl⟩,hr⟩
    .exact h.elim
   .exact h.elim
  .rename_i ha
   have tu:YQ ops [i]=[(i,ops[i])]:=by simp [YQ,hi]
   have hm:qI P T Mv G N [] [] [] [] ops (abE P T Mv G N qc ops K (YQ ops l)) (YQ ops [i]) σ:=by rw [tu];exact h
   obtain ⟨YL,cQ,o',Zr,vh,hs,ic⟩:=C6 [i] σ (by simpa using hi) (fun r hr=>by cases hr) hm;have ic:vh=YL:=ic;subst ic;obtain ⟨aY,hk,hr⟩:=ih _ (fun j hj=>hl j (by simp [hj])) cQ;exact ⟨aY,hk,o',Zr,_,.inr ⟨by simpa using ha,hs⟩,hr⟩
theorem Kq (hg:Good P T) (hm:P.follows .mixedOrders=true) (qc:List Nat) (ord:List Nat) {id:Nat} (bp:k8 (vM qc ops) ord ops=true) {Q:Exit->St->Prop} (h:abE P T Mv G N qc ops (fun ag=>Q .normal ag) (YQ ops ord) σ):AW P Mv X G N (.region id ops true) Q σ:=
 vk hm (UG hg qc) (UH qc) ord bp fun YK=>Wg ord σ YK h
theorem Kv (hg:Good P T) (hm:P.follows .mixedOrders=true) (qc:List Nat) (ord:List Nat) {id:Nat} (bp:k8 (vM qc ops) ord ops=true) {Q:Exit->St->Prop}
  (h:∀ K:St->Prop,(∀ τ:St,Q .normal τ->K τ)->abE P T Mv G N qc ops K (YQ ops ord) σ):AW P Mv X G N (.region id ops true) Q σ:=Kq hg hm qc ord bp (h _ fun _ h=>h)
theorem C7 {qc:List Nat} {K:St->Prop} {i:Nat} {l:List Nat} {o:Oper} (ho:ops[i]? = some o) (h:∀ K':St->Prop,(∀ τ,abE P T Mv G N qc ops K (YQ ops l) τ->K' τ)->u7 P T Mv G N qc ops i o σ K'):abE P T Mv G N qc ops K (YQ ops (i :: l)) σ:=by
 have:YQ ops (i :: l)=(i,o) :: YQ ops l:=by simp [YQ,ho]
 rw [this];exact h _ fun _ h=>h
theorem Wf {qc:List Nat} {K:St->Prop} (h:K σ):abE P T Mv G N qc ops K (YQ ops []) σ:=h
end
attribute [simp] u7
end Go.Av
