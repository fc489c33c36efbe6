/- Parts. -/
import Derived.Test.YtdigkhaofjmgkaaGreatDoorIs35
set_option linter.unusedSectionVars false
set_option linter.unusedSimpArgs false
set_option linter.unusedVariables false
set_option maxHeartbeats 32000000
set_option maxRecDepth 100000
open Go.Proofs.Tryz
namespace Go.Proofs.YtdigkhaofjmgkaaGreatDoor
open Go.Av
theorem W9 {V:Nat} (h:V<=6):IntKind.i64.wrap (2 ^ (min V IntKind.i64.bits))=((2^V:Nat):Int):=by
 have:V=0\/V=1\/V=2\/V=3\/V=4\/V=5\/V=6:=by omega
 rcases this with rfl | rfl | rfl | rfl | rfl | rfl | rfl<;>decide
def jX (n:Nat) (E:List Int):Nat->List Bool
 | 0=>List.replicate n false
 | j+1=>(jX n E j).set (E.getD j 0).toNat true
theorem uV (n:Nat) (E:List Int):∀ j,(jX n E j).length=n
 | 0=>by simp[jX]
 | j+1=>by rw[jX,List.length_set,uV]
theorem Jr {n:Nat} {E:List Int} {i:Nat} (hi:i < n):∀ j,j<=E.length->((jX n E j).getD i false=true↔∃ q,q < j/\(E.getD q 0).toNat=i)
 | 0,_=>by
  rw[jX,ra];exact⟨fun h=>(by cases h),fun ⟨q,hq,_⟩=>absurd hq (by omega)⟩
 | j+1,hj=>by
  rw[jX];by_cases e:(E.getD j 0).toNat=i
  .rw[<- e,gU (by rw[uV];omega)];exact⟨fun _=>⟨j,by omega,rfl⟩,fun _=>rfl⟩
  .rw[ek e,Jr hi j (by omega)];constructor
   .rintro⟨q,hq,h⟩;exact⟨q,by omega,h⟩
   .rintro⟨q,hq,h⟩;refine⟨q,Classical.byContradiction fun hn=>?_,h⟩
    obtain rfl:q=j:=by omega
    exact e h
theorem VI (p:YM):jX p.names.length (ZK p p.names.length) (ZK p p.names.length).length=p.names.map (edB p):=by
 refine zC (d:=false) (by rw[uV];simp) fun i hi=>?_;rw[uV]at hi
 have e1:(p.names.map (edB p)).getD i false=edB p p.names[i]:=by rw[cr (by simpa using hi)];simp
 rw[e1];have h:=Jr (E:=ZK p p.names.length) hi _ (Nat.le_refl _)
 have h2:(∃ q,q < (ZK p p.names.length).length/\((ZK p p.names.length).getD q 0).toNat=i)↔edB p p.names[i]=true:=by
  constructor
  .rintro⟨q,hq,he⟩;rw[cr hq]at he;obtain⟨k,hk,_,hx,ha⟩:=(qM (Nat.le_refl _)).1 (List.getElem_mem hq);rw[hx,Int.toNat_natCast]at he;subst he;exact ha
  .intro ha;obtain⟨q,hq,he⟩:=List.mem_iff_getElem.1 ((qM (x:=(i:Int)) (Nat.le_refl _)).2 ⟨i,hi,hi,rfl,ha⟩);exact⟨q,hq,by rw[cr hq,he];simp⟩
 rw[h2]at h
 cases h3:edB p p.names[i] with
 | true=>exact h.2 h3
 | false=>
  cases h4:(jX p.names.length (ZK p p.names.length) (ZK p p.names.length).length).getD i false with
  | true=>rw[h.1 h4]at h3;cases h3
  | false=>rfl
theorem W4 {p:YM} {q:Nat} (hq:q < (ZK p p.names.length).length):∃ i,i < p.names.length/\(ZK p p.names.length)[q]=(i:Int):=by
 obtain⟨k,hk,_,hx,_⟩:=(qM (Nat.le_refl _)).1 (List.getElem_mem hq);exact⟨k,hk,hx⟩
theorem TH {p:YM} {s:Nat} (h:s < (aO p).length):eD ((aO p).take (s+1))=eD ((aO p).take s) ++ [[eG (kB p (YQ p).length s)]]:=by
 rw[List.take_succ_eq_append_getElem h,eD,eD,List.map_append,uI h];rfl
theorem Vk {p:YM} {m s i:Nat} (h:i < 2 ^ m):(kB p m s).take (i+1)=(kB p m s).take i ++ [Z2 (bl p) (jB p (fY p s) (dO i m))]:=by
 have h':i < (kB p m s).length:=by rw[r5];exact h
 rw[List.take_succ_eq_append_getElem h',Vi]
theorem Tq (G:YI) (p:YM) (aS:Y3 p=none) (hk:∀ r∈p.ar,j4 r) (ax:(YQ p).length<=6) (hP:YU (bl p)<=4096):aq prog G 15 [cA p] (.aT [jz p (YU (bl p)) ((2 ^ (YQ p).length:Nat):Int) (eD (aO p)),.v .nilIface]):=by
 have hg:=ZU aS;have gZ:=hg.names;have bR:=Hp G p (VO aS hk);rw[aS]at bR;have jO:=B0 G p (by omega) 1;have ny:gF p.names 1 p.names.length=YQ p:=rfl;rw[ny]at jO
 have kR:=Hy G p (by omega) (by have:=hg.ar;omega) (fun r hr=>by
  obtain⟨e,he,_,_,hb⟩:=hk r hr
  exact⟨e,he,by omega⟩)
 rw[adw aS]at kR;have Qf:=uV p.names.length (ZK p p.names.length);have Qe:=VI p;have QC:=fun q (hq:q < (ZK p p.names.length).length)=>W4 hq;have QD:=fun q (hq:q < (ZK p p.names.length).length)=>(show jX p.names.length (ZK p p.names.length) (q+1)=(jX p.names.length (ZK p p.names.length) q).set ((ZK p p.names.length)[q]).toNat true by rw[jX,cr hq]);have Zm:jX p.names.length (ZK p p.names.length) 0=List.replicate p.names.length false:=rfl;have ij:=Dh p p.names.length;have xf:=fun (nx:List (List D)) (n:Nat) (h1:(n:Int) < 4096)=>Tv G p aS (YU (bl p)) ((2 ^ (YQ p).length:Nat):Int) nx n (by omega) (by omega);have wR:=fun (nx:List (List D)) (n:Nat)=>Tl G p aS (YU (bl p)) ((2 ^ (YQ p).length:Nat):Int) nx n;have bK:=fun (nx:List (List D)) (s:Zd) (hs:eN p s)=>Tp G p aS (YU (bl p)) ((2 ^ (YQ p).length:Nat):Int) nx s hs hP;have p0:=fun (s:Nat) (i:Nat)=>Em G p aS hk (fY p s) (u1 aS s) (dO i (YQ p).length) (uo _ _);have OR:=fun (s:Nat) (i:Nat)=>(zp aS (u1 aS s) (dO i (YQ p).length)).1;have pV:∀ k (h:k < p.names.length),dJ p (k+1)=dJ p k ++ partOf p.names[k] (edB p p.names[k]) k:=fun k h=>xZ h;have kh:=uN p;have z8:dJ p p.names.length=bl p:=rfl;have hm2:∀ x∈bl p,2<=x.most:=fun x hx=>(jT hg hx).m2;have PZ:=fun k (h:k < (bl p).length)=>Uz h;have oQ:=fun k=>Iv hm2 k;have nE:0 < YU (bl p):=k9 hm2;have ez:=fun k=>(k9 (l:=(bl p).take k) fun x hx=>hm2 x (List.mem_of_mem_take hx));have hnt:=fun s (h:s < (aO p).length)=>TH h;have eJ:=nP p;have xb:=fun s i (h:i < 2 ^ (YQ p).length)=>Vk (p:=p) (s:=s) h;have Z0:=fun s=>r5 p (YQ p).length s;have nH:=W9 ax
 have Xh:2 ^ (YQ p).length<=64:=by
  have:=Nat.pow_le_pow_right (n:=2) (by omega) ax;omega
 have oB:=hg.count;simp only[mz,YG,kN,iQ,eW,eG,iA]at xf wR bK p0;simp only[cA,cy,cz,cu,aR,jz,lv,iA,eG]at jO bR kR p0 xf wR bK hnt ⊢;generalize aO p=NXT at *;generalize Ab:kB p (YQ p).length=DH at *;clear Ab;generalize ZK p p.names.length=E at *;generalize jX p.names.length E=SB at *
 have oA:((YQ p).map fun x=>[D.v (.int .i64 x)]).length=(YQ p).length:=by simp
 generalize ((YQ p).map fun x=>[D.v (.int .i64 x)])=IN at *;generalize (YQ p).length=m at *
 have me:(p.names.map bk).length=p.names.length:=by simp
 have iY:∀ i (h:i < p.names.length),(p.names.map bk)[i]? = some [.v (.string (bs p.names[i].name)),.v (.int .i64 p.names[i].kind),.v (.int .i64 p.names[i].count)]:=fun i h=>by simp[h,bk,dS]
 generalize p.names.map bk=NN at *;generalize p.ar.map bF=RR at *
 have zV:(E.map fun x=>[D.v (.int .i64 x)]).length=E.length:=by simp
 refine aq.aI (aw _) func15 rfl rfl (rs:=[.tmp 2,.tmp 3]) results15 (by simp[ntmps15]) fun X=>?_;simp only[ntmps15,List.map];have fw:=@YG.eq_1;refine ab fw [1] [1] ?_;refine cq fw 1 ?_;refine ae fun K1 ay=>?_;refine aP fw bR [1,4] [] ?_;refine ab fw [1,4,19] [] ?_;refine af rfl ?_;refine ao (ay _ ?_);refine UR fw jO [1,5] [25] ?_;refine ae fun K2 aa=>?_
 have rq:¬ (IN.length:Int) > 6:=by omega
 have qf:=(Aq fw @rq);refine aB [1,5,31] [25] ?_;refine af (by simp<;>omega) ?_;refine ao (aa _ ?_);have qf:=(Aq fw (Aq @kD.eq_1 (Aq @kD.eq_2 (Aq @kD.eq_3 (Aq @oA @nH)))));refine aB [1,5] [25] ?_;refine ab (Aq fw (Aq @aeM.eq_1 (Aq @cM.eq_1 @cM.eq_2))) [1,5,6] [25,45] ?_;refine ae fun K3 YS=>?_;refine aP fw kR [1,5,6,47,48,49] [25,45] ?_;refine Zb (S:=Nat) (fun j=>j<=E.length) (fun j=>⟨aZ [(1,.d (.ip [.sl none NN,.sl none RR])),(5,.ref 25 0 0),(6,.own 45 0 p.names.length),(47,.d (.sl none (E.map fun x=>[.v (.int .i64 x)]))),(48,int E.length),(49,int j)],YH [(25,.box 48 [.d (.sl none NN),.d (.sl none RR),int 1,int ((2 ^ m:Nat):Int),.d (.sl (some false) []),.d (.sl (some false) []),.d (.sl none IN)]),(45,.sl 4 1 ((SB j).map fun b=>[.v (.bool b)]))]⟩) (fun j=>E.length - j) 0 ?_ (by omega) ?_
 .rw[Zm];refine aC.cO (fun _ _=>trivial) (by simp[YG,List.map_replicate,me,zV]) (by simp[YG,List.map_replicate,me,zV])
 .intro j hj;have Qj:=Qf j;have GW:=QD j;generalize FJ:SB j=B at Qj GW ⊢;refine ab fw [1,5,6,47,48,49,50] [25,45] ?_;refine ae fun K4 Y4=>?_;refine eM (b:=j < E.length) (by simp[D.le,D.le.go,aQ,YG]) (fun hc=>?_) (fun hc=>?_)
  .refine ao (Y4 _ ?_);refine ae fun K5 b8=>?_;refine YR ?_;obtain⟨i,hi,Fs⟩:=QC j hc;have GX:=GW hc;rw[Fs,Int.toNat_natCast]at GX
   have Y8:i < B.length:=by omega
   have qf:=(Aq fw (Aq @hc @Fs));refine aB [1,5,6,8,47,48,49] [25,45] ?_;have qf:=(Aq fw (Aq @Y8 @hi));refine gK b8 [1,5,6,47,48,49] [25,45] ?_;refine cf fw ?_;(try simp only[YO,bd]);refine bn.mk (j+1) (by omega) (by omega) ?_;rw[GX];refine aC.cO (fun _ _=>trivial) (by simp[YG,List.map_set]) (by simp[YG,List.map_set])
  .obtain rfl:j=E.length:=by omega
   rw[Qe]at FJ;subst FJ;refine bY (YS _ ?_);refine ae fun K6 dD=>?_;refine ab fw [1,5,6,58,59,60] [25,45] ?_;refine Zb (S:=Nat) (fun k=>k<=p.names.length) (fun k=>⟨aZ [(1,.d (.ip [.sl none NN,.sl none RR])),(5,.ref 25 0 0),(6,.own 45 0 p.names.length),(58,.d (.sl none NN)),(59,int NN.length),(60,int k)],YH [(25,.box 48 [.d (.sl none NN),.d (.sl none RR),int 1,int ((2 ^ m:Nat):Int),.d (.sl (some false) []),.own 801 0 (dJ p k).length,.d (.sl none IN)]),(45,.sl 4 1 ((p.names.map (edB p)).map fun b=>[.v (.bool b)])),(801,.sl 134 3 ((dJ p k).map ZE))]⟩) (fun k=>p.names.length - k) 0 ?_ (by omega) ?_
   .refine (aC.pC 25 5 801 134 3 rfl rfl rfl).trans ?_;refine bz (Aq fw (Aq @dJ.eq_1 @dJ.eq_2))
   .intro k nz;have s7:=pV k;have FF:=kh k
    have s6:((dJ p k).map ZE).length=(dJ p k).length:=by simp
    generalize gW:dJ p k=PK at s7 FF s6 ⊢;refine ab fw [1,5,6,58,59,60,61] [25,45,801] ?_;refine ae fun K7 dY=>?_;by_cases YJ:k < p.names.length
    .have bZ:k < NN.length:=by omega
     have fA:(k:Int) < (NN.length:Int):=by omega
     refine YL (by simp<;>omega) ?_;refine ao (dY _ ?_);refine ae fun K8 Zl=>?_;refine YR ?_;have ZN:=s7 YJ;have ja:=oB _ (List.getElem_mem YJ)
     have pR:NN[k]=[.v (.string (bs p.names[k].name)),.v (.int .i64 p.names[k].kind),.v (.int .i64 p.names[k].count)]:=by
      have:=iY k YJ;rw[List.getElem?_eq_getElem bZ]at this;exact Option.some.inj this
     unfold partOf at ZN;generalize Gw:p.names[k]=nk at ZN pR ja;obtain⟨nm,kd,ct⟩:=nk;dsimp only at ZN pR ja
     have F8:edB p p.names[k]=edB p ⟨nm,kd,ct⟩:=by rw[Gw]
     generalize aD:edB p ⟨nm,kd,ct⟩=ev at *;have qf:=(Aq fw (Aq @bZ @pR));refine aB [1,5,6,9,10,58,59,60] [25,45,801,10] ?_;refine cq fw 10 ?_;refine YR ?_;by_cases k2:kd=2
     .subst k2;rw[if_pos (.inl rfl)]at ZN;refine ab fw [1,5,6,9,10,58,59,60,65] [25,45,801] ?_;refine YL rfl ?_;refine ff (aw _) fun K' ah=>?_;(repeat (refine aJ fun K2 aa=>?_;simp[YG,List.take_of_length_le];(repeat (refine⟨by omega,?_⟩));refine aa _ ?_;clear aa K2));refine YZ (ah _ ?_);clear ah K';refine Zl _ (AW.norm [1,5,6,58,59,60] [25,45,801] (fun _ _=>trivial) (AW.st (by simp[YG,List.take_of_length_le];rfl) ?_));refine cf fw ?_;(try simp only[YO,bd]);refine bn.mk (k+1) (by omega) (by omega) ?_;rw[ZN];refine bz (Aq fw @ZE.eq_1)
     .by_cases k1:kd=1
      .subst k1
       cases ev with
       | true=>
        rw[if_pos (.inr ⟨rfl,rfl⟩)]at ZN;have qf:=(Aq fw (Aq @YJ @F8));refine aB [1,5,6,9,10,58,59,60,65] [25,45,801] ?_;refine YL rfl ?_;refine ff (aw _) fun K' ah=>?_;(repeat (refine aJ fun K2 aa=>?_;simp[YG,List.take_of_length_le];(repeat (refine⟨by omega,?_⟩));refine aa _ ?_;clear aa K2));refine YZ (ah _ ?_);clear ah K';refine Zl _ (AW.norm [1,5,6,58,59,60] [25,45,801] (fun _ _=>trivial) (AW.st (by simp[YG,List.take_of_length_le];rfl) ?_));refine cf fw ?_;(try simp only[YO,bd]);refine bn.mk (k+1) (by omega) (by omega) ?_;rw[ZN];refine bz (Aq fw @ZE.eq_1)
       | false=>
        rw[if_neg (by simp),if_neg (by simp),List.append_nil]at ZN;have qf:=(Aq fw (Aq @YJ @F8));refine aB [1,5,6,9,10,58,59,60,65] [25,45,801] ?_;refine af rfl ?_;refine ab fw [1,5,6,9,10,58,59,60,91] [25,45,801] ?_;refine af rfl ?_;refine ao ?_;refine Zl _ (AW.norm [1,5,6,58,59,60] [25,45,801] (fun _ _=>trivial) (AW.st (by simp[YG];rfl) ?_));refine cf fw ?_;(try simp only[YO,bd]);refine bn.mk (k+1) (by omega) (by omega) ?_;rw[ZN];refine bz fw
      .rw[if_neg (by simp[k1,k2]),if_pos k1]at ZN;have qf:=(Aq fw (Aq @k1 @k2));refine aB [1,5,6,9,10,58,59,60,65] [25,45,801] ?_;refine af (by simp[k1,k2]) ?_;have qf:=(Aq fw @k1);refine aB [1,5,6,9,10,58,59,60,91] [25,45,801] ?_;refine YL (by simp[k1]) ?_;refine vk (aw _) (by kernel_rfl) ([(11,(801,105))]) ([(0,[801])]) ([0,1,2,3,4,5,6,7,8,9,10,11,12,13,14]) (by kernel_rfl) fun K' ah=>?_;(repeat (refine kF rfl fun K2 aa=>?_;simp[YG,List.take_of_length_le];(repeat (refine⟨by omega,?_⟩));refine aa _ ?_;clear aa K2));refine qH (ah _ ?_);clear ah K';refine Zl _ (AW.norm [1,5,6,58,59,60] [25,45,801] (fun _ _=>trivial) (AW.st (by simp[YG,List.take_of_length_le];rfl) ?_));refine cf fw ?_;(try simp only[YO,bd]);refine bn.mk (k+1) (by omega) (by omega) ?_;rw[ZN];refine bz (Aq fw @ZE.eq_1)
    .have fA:¬ (k:Int) < (NN.length:Int):=by omega
     obtain rfl:k=p.names.length:=by omega
     rw[z8]at gW;subst gW;refine af (by simp<;>omega) ?_;refine bY (dD _ ?_);refine AW.imp (aC.freeze 801 trivial) ?_;refine AW.st (by simp[YG,s6,List.take_of_length_le];rfl) ?_;refine ae fun K9 hK9=>?_
     have FE:((bl p).map ZE).length=(bl p).length:=by simp
     have N0:∀ i (h:i < (bl p).length),((bl p).map ZE)[i]? = some [.v (.int .i64 (bl p)[i].nm),.v (.int .i64 (bl p)[i].most),.v (.bool (bl p)[i].far)]:=fun i h=>by simp[h,ZE]
     generalize z7:bl p=YX at *;generalize YX.map ZE=PT at *;refine ab fw [1,5,113,114,115] [25] ?_;refine Zb (S:=Nat) (fun k=>k<=YX.length) (fun k=>⟨aZ [(1,.d (.ip [.sl none NN,.sl none RR])),(5,.ref 25 0 0),(113,.d (.sl none PT)),(114,int PT.length),(115,int k)],YH [(25,.box 48 [.d (.sl none NN),.d (.sl none RR),int (YU (YX.take k)),int ((2 ^ m:Nat):Int),.d (.sl (some false) []),.d (.sl none PT),.d (.sl none IN)])]⟩) (fun k=>YX.length - k) 0 ?_ (by omega) ?_
     .refine bz (Aq fw (Aq @YU.eq_1 @YU.eq_2))
     .intro k nz;have hq:=PZ k;have P1:=oQ (k+1);have lR:=ez k;have P2:=oQ k;generalize hQ:YU (YX.take k)=Q at hq lR P2 ⊢;refine ab fw [1,5,113,114,115,116] [25] ?_;refine ae fun qT iX=>?_;by_cases YJ:k < YX.length
      .have bZ:k < PT.length:=by omega
       have fA:(k:Int) < (PT.length:Int):=by omega
       refine YL (by simp<;>omega) ?_;refine ao (iX _ ?_);refine ae fun DC sX=>?_;refine YR ?_;have kp:=hq YJ;have G0:=hm2 _ (List.getElem_mem YJ)
       have gW:PT[k]=[.v (.int .i64 YX[k].nm),.v (.int .i64 YX[k].most),.v (.bool YX[k].far)]:=by
        have:=N0 k YJ;rw[List.getElem?_eq_getElem bZ]at this;exact Option.some.inj this
       generalize YX[k]=x at gW kp G0;obtain⟨xi,M,fa⟩:=x;dsimp only at gW kp G0;rw[kp]at P1;have FH:0 < Q * M:=Int.mul_pos lR (by omega)
       have N4:¬ Q * M > 4096:=by omega
       have qf:=(Aq fw (Aq @bZ @gW));refine aB [1,5,12,113,114,115] [25,12] ?_;refine cq fw 12 ?_;refine Ki (aw _) (by kernel_rfl) [(3,25),(5,999),(9,25)] [1,5,113,114,115] [25] (fun _ _=>trivial) (by kernel_rfl) fun K' ah=>?_;(repeat (refine nZ fun K2 aa=>?_;simp[YG,FH];(repeat (refine⟨by omega,?_⟩));refine aa _ ?_;clear aa K2));refine n0 (ah _ ?_);refine AW.st (by simp[YG,FH];rfl) ?_;clear ah K';have qf:=(Aq fw @N4);refine aB [1,5,113,114,115,132] [25] ?_;refine af (by simp<;>omega) ?_;refine ao (sX _ ?_);refine cf fw ?_;(try simp only[YO,bd]);refine bn.mk (k+1) (by omega) (by omega) ?_;rw[kp];refine bz fw
      .have fA:¬ (k:Int) < (PT.length:Int):=by omega
       refine af (by simp<;>omega) ?_;refine bY (hK9 _ ?_);rw[List.take_of_length_le (by omega)]at hQ;refine ae fun DD sY=>?_;obtain⟨S,hS⟩:∃ S:Nat,YU YX=(S:Int):=Int.eq_ofNat_of_zero_le (by omega);rw[hS]at eJ hP xf wR bK hQ ⊢;rw[Int.toNat_natCast]at eJ;subst hQ;refine ab fw [1,5,138,139] [25] ?_;refine Zb (S:=Nat) (fun s=>s<=S) (fun s=>⟨aZ [(1,.d (.ip [.sl none NN,.sl none RR])),(5,.ref 25 0 0),(138,int S),(139,int s)],YH [(25,.box 48 [.d (.sl none NN),.d (.sl none RR),int S,int ((2 ^ m:Nat):Int),.own 800 0 s,.d (.sl none PT),.d (.sl none IN)]),(800,.sl 46 1 (eD (NXT.take s)))]⟩) (fun s=>S - s) 0 ?_ (by omega) ?_
       .refine (aC.pC 25 4 800 46 1 rfl rfl rfl).trans ?_;refine bz (Aq fw @eD.eq_1)
       .intro s Qm;have qb:=hnt s
        have iZ:(eD (NXT.take s)).length=s:=by rw[xR,List.length_take];omega
        have FA:s=S->eD (NXT.take s)=eD NXT:=fun e=>by rw[List.take_of_length_le (by omega)]
        generalize eD (NXT.take s)=NX at qb iZ FA ⊢;refine ab fw [1,5,138,139,140] [25,800] ?_;refine ae fun DE sZ=>?_;refine eM (b:=s < S) (by simp[D.le,D.le.go,aQ,YG]) (fun hc=>?_) (fun hc=>?_)
        .refine ao (sZ _ ?_);refine ae fun KA zZ=>?_;refine YR ?_;have Gx:=qb (by omega);have xg:=xf NX s (by omega);have Pf:=wR NX;have F3:=p0 s;have Gy:=fun i=>bK NX _ (OR s i);have tS:=fun i h=>xb s i h;have w8:=Z0 s;generalize Bp:fY p s=Jy at xg F3 Gy tS;generalize Ad:DH s=RS at Gx tS w8;refine ab fw [1,5,13,138,139] [25,800] ?_;refine ab fw [1,5,13,14,138,139] [25,800] ?_;refine ae fun KB ack=>?_;refine ab fw [1,5,13,14,138,139,145,146] [25,800] ?_;refine Zb (S:=Nat) (fun i=>i<=2 ^ m) (fun i=>⟨aZ [(1,.d (.ip [.sl none NN,.sl none RR])),(5,.ref 25 0 0),(13,int s),(14,.own 902 0 i),(138,int S),(139,int s),(145,int ((2 ^ m:Nat):Int)),(146,int i)],YH [(25,.box 48 [.d (.sl none NN),.d (.sl none RR),int S,int ((2 ^ m:Nat):Int),.own 800 0 s,.d (.sl none PT),.d (.sl none IN)]),(800,.sl 46 1 NX),(902,.sl 3 1 ((RS.take i).map fun x=>[.v (.int .i64 x)]))]⟩) (fun i=>2 ^ m - i) 0 ?_ (by omega) ?_
         .refine (aC.lu 14 902 3 1 rfl rfl).trans ?_;refine bz fw
         .intro i gY;have tQ:=tS i
          have b9:((RS.take i).map fun x=>[D.v (.int .i64 x)]).length=i:=by simp;omega
          generalize kQ:RS.take i=RI at tQ b9 ⊢;refine ab fw [1,5,13,14,138,139,145,146,147] [25,800,902] ?_;refine ae fun Xd NQ=>?_;by_cases eI:i < 2 ^ m
          .have Pd:(i:Int) < ((2 ^ m:Nat):Int):=by exact_mod_cast eI
           refine YL (by simpa using Pd) ?_;refine ao (NQ _ ?_);refine ae fun Xe ad7=>?_;refine YR ?_;have tR:=tQ eI;have adm:=Pf i;have wF:=F3 i;have tL:=Gy i;generalize jB p Jy (dO i m)=d1 at wF tL tR;generalize dO i m=ib at adm wF;generalize Z2 YX d1=v1 at tL tR;obtain⟨I1,C1⟩:=Jy;obtain⟨I2,C2⟩:=d1;dsimp only at xg wF tL;rw[iZ]at xg adm tL;refine ab fw [1,5,13,14,15,138,139,145,146] [25,800,902] ?_;refine Kt (aw _) (by kernel_rfl) ([12]) ([]) ([5,8,10]) ([(2,.d (.ip [.sl none NN,.sl none RR]))]) (List.range 14) (by kernel_rfl) fun K' ah=>?_;(repeat (refine nV rfl fun K2 aa=>?_;simp[YG,b9,List.take_of_length_le];(repeat (refine⟨by omega,?_⟩));refine aa _ ?_;clear aa K2));refine nV rfl fun K2 aa=>?_;simp[YG,b9,List.take_of_length_le];refine rm.mc (xg) (by simp[YG,b9,List.take_of_length_le]) (by simp[YG,b9,List.take_of_length_le]) (by simp[YG,b9,List.take_of_length_le]) (by simp[YG,b9,List.take_of_length_le]) (by simp[YG,b9,List.take_of_length_le]) (by simp[YG,b9,List.take_of_length_le]) (by simp[fK,YG,b9,List.take_of_length_le]) ?_;simp[YG,b9,List.take_of_length_le];refine aa _ ?_;clear aa K2;(repeat (refine nV rfl fun K2 aa=>?_;simp[YG,b9,List.take_of_length_le];(repeat (refine⟨by omega,?_⟩));refine aa _ ?_;clear aa K2));refine nV rfl fun K2 aa=>?_;simp[YG,b9,List.take_of_length_le];refine rm.mc (adm) (by simp[YG,b9,List.take_of_length_le]) (by simp[YG,b9,List.take_of_length_le]) (by simp[YG,b9,List.take_of_length_le]) (by simp[YG,b9,List.take_of_length_le]) (by simp[YG,b9,List.take_of_length_le]) (by simp[YG,b9,List.take_of_length_le]) (by simp[fK,YG,b9,List.take_of_length_le]) ?_;simp[YG,b9,List.take_of_length_le];refine aa _ ?_;clear aa K2;(repeat (refine nV rfl fun K2 aa=>?_;simp[YG,b9,List.take_of_length_le];(repeat (refine⟨by omega,?_⟩));refine aa _ ?_;clear aa K2));refine nV rfl fun K2 aa=>?_;simp[YG,b9,List.take_of_length_le];refine kc.mk (wF) (by simp;rfl) (by simp;rfl) (by first | exact D.ba _ | simp[aQ,List.map_map,Function.comp_def,D.le,D.le.go,D.le_refl,D.ba,YG,b9,List.take_of_length_le]) (by simp) ?_;refine aa _ ?_;clear aa K2;simp only[au,cw];(repeat (refine nV rfl fun K2 aa=>?_;simp[YG,b9,List.take_of_length_le];(repeat (refine⟨by omega,?_⟩));refine aa _ ?_;clear aa K2));refine nV rfl fun K2 aa=>?_;simp[YG,b9,List.take_of_length_le];refine rm.mc (tL) (by simp[YG,b9,List.take_of_length_le]) (by simp[YG,b9,List.take_of_length_le]) (by simp[YG,b9,List.take_of_length_le]) (by simp[YG,b9,List.take_of_length_le]) (by simp[YG,b9,List.take_of_length_le]) (by simp[YG,b9,List.take_of_length_le]) (by simp[fK,YG,b9,List.take_of_length_le]) ?_
           simp[YG,b9,List.take_of_length_le];refine aa _ ?_;clear aa K2;(repeat (refine nV rfl fun K2 aa=>?_;simp[YG,b9,List.take_of_length_le];(repeat (refine⟨by omega,?_⟩));refine aa _ ?_;clear aa K2));refine V3 (ah _ ?_);clear ah K';refine ad7 _ (AW.norm [1,5,13,14,138,139,145,146] [25,800,902] (fun _ _=>trivial) (AW.st (by simp[YG,b9,List.take_of_length_le];rfl) ?_));refine cf fw ?_;(try simp only[YO,bd]);refine bn.mk (i+1) (by omega) (by omega) ?_;rw[tR];refine bz fw
          .obtain rfl:i=2 ^ m:=by omega
           have Ac:RI=RS:=by rw[<- kQ];exact List.take_of_length_le (by omega)
           subst Ac;refine af (by simp) ?_;refine bY (ack _ ?_);refine AW.imp (aC.freeze 902 trivial) ?_;refine AW.st (by simp[YG,b9,List.take_of_length_le];rfl) ?_;refine ff (aw _) fun K' ah=>?_;(repeat (refine aJ fun K2 aa=>?_;simp[YG,iZ,List.take_of_length_le];(repeat (refine⟨by omega,?_⟩));refine aa _ ?_;clear aa K2));refine YZ (ah _ ?_);clear ah K';refine zZ _ (AW.norm [1,5,138,139] [25,800] (fun _ _=>trivial) (AW.st (by simp[YG,iZ,List.take_of_length_le];rfl) ?_));refine cf fw ?_;(try simp only[YO,bd]);refine bn.mk (s+1) (by omega) (by omega) ?_;rw[Gx];refine bz fw
        .obtain rfl:s=S:=by omega
         obtain rfl:=FA rfl;refine bY (sY _ ?_);refine AW.imp (aC.freeze 800 trivial) ?_;refine AW.st (by simp[YG,iZ,List.take_of_length_le];rfl) ?_;refine ab fw [2,3] [25] ?_;exact aV (Aq fw @hS)
def cR (p:YM):Nat:=2 ^ (YQ p).length
def fN (p:YM):D:=jz p (YU (bl p)) ((cR p:Nat):Int) (eD (aO p))
theorem VG (G:YI) (p:YM) (aS:Y3 p=none) (hk:∀ r∈p.ar,j4 r) (s i:Nat) (hP:YU (bl p)<=4096) (hs:(s:Int) < YU (bl p)) (hi:i < cR p):aq prog G 20 [fN p,YG s,YG i] (.aT [eW (jB p (fY p s) (dO i (YQ p).length)).is,.v .nilIface]):=by
 have bA:=HH G p aS (YU (bl p)) ((cR p:Nat):Int) (eD (aO p)) s (by omega) (by omega);have ax:=Tm G p aS (YU (bl p)) ((cR p:Nat):Int) (eD (aO p)) i;have p0:=Em G p aS hk (fY p s) (u1 aS s) (dO i (YQ p).length) (uo _ _);simp only[fN,jz,lv,cz,cu,iA,eG,YG,kN,iQ,eW,cA,cy]at bA ax p0 ⊢;generalize jB p (fY p s) (dO i (YQ p).length)=d at *;generalize fY p s=t at *;generalize dO i (YQ p).length=ib at *;generalize eD (aO p)=NX at *;generalize YU (bl p)=S at *;generalize cR p=N at *;generalize (YQ p).map (fun n=>[D.v (.int .i64 n)])=IN at *;generalize (bl p).map ZE=PT at *;generalize p.names.map bk=NN at *;generalize p.ar.map bF=RR at *;obtain⟨I1,C1⟩:=t;obtain⟨I2,C2⟩:=d;dsimp only at bA p0 ⊢
 have h1:¬ S<=(s:Int):=by omega
 have h2:¬ N<=i:=by omega
 have h0:¬ (s:Int) < 0:=by omega
 have h3:¬ (i:Int) < 0:=by omega
 refine aq.aI (aw _) func20 rfl rfl (rs:=[.tmp 6,.tmp 7]) results20 (by simp[ntmps20]) fun X=>?_;simp only[ntmps20,List.map];have fw:=@YG.eq_1;refine ab fw [0,1,2] [] ?_;refine ae fun K1 ay=>?_;refine ab fw [0,1,2,9] [] ?_;refine af rfl ?_;refine ao (ay _ ?_);refine ae fun K2 aa=>?_;have qf:=(Aq fw (Aq @h0 (Aq @h1 (Aq @h2 @h3))));refine aB [0,1,2,32] [] ?_;refine af (by simp<;>omega) ?_;refine ao (aa _ ?_);refine mL (aw _) (by kernel_rfl) [6,7] [] (fun _ _=>trivial) (by kernel_rfl) fun K' ah=>?_;(repeat (refine e9 fun K2 aa=>?_;simp[YG];(repeat (refine⟨by omega,?_⟩));refine aa _ ?_;clear aa K2));refine e9 fun K2 aa=>?_;simp[YG];refine hZ.data (bA) (by simp;rfl) (by simp;rfl) (by first | exact D.ba _ | simp[aQ,List.map_map,Function.comp_def,D.le,D.le.go,D.le_refl,D.ba,YG]) ?_;refine aa _ ?_;clear aa K2;simp only[au,cw];(repeat (refine e9 fun K2 aa=>?_;simp[YG];(repeat (refine⟨by omega,?_⟩));refine aa _ ?_;clear aa K2));refine e9 fun K2 aa=>?_;simp[YG];refine hZ.data (ax) (by simp;rfl) (by simp;rfl) (by first | exact D.ba _ | simp[aQ,List.map_map,Function.comp_def,D.le,D.le.go,D.le_refl,D.ba,YG]) ?_;refine aa _ ?_;clear aa K2;simp only[au,cw];(repeat (refine e9 fun K2 aa=>?_;simp[YG];(repeat (refine⟨by omega,?_⟩));refine aa _ ?_;clear aa K2));refine e9 fun K2 aa=>?_;simp[YG];refine hZ.data (p0) (by simp;rfl) (by simp;rfl) (by first | exact D.ba _ | simp[aQ,List.map_map,Function.comp_def,D.le,D.le.go,D.le_refl,D.ba,YG]) ?_;refine aa _ ?_;clear aa K2;simp only[au,cw];(repeat (refine e9 fun K2 aa=>?_;simp[YG];(repeat (refine⟨by omega,?_⟩));refine aa _ ?_;clear aa K2));refine nY (ah _ ?_);refine AW.st (by simp[YG];rfl) ?_;clear ah K';exact aV fw
def iS (l:List Int):List (Value×D):=l.foldl (fun E k=>jD (.int .i64 k) (.v (.bool true)) E) []
theorem Es (l:List Int) (k:Int):iS (l ++ [k])=jD (.int .i64 k) (.v (.bool true)) (iS l):=by simp[iS]
theorem Sv (a b:Int):dP (.int .i64 a) (.int .i64 b)=decide (a=b):=by
 by_cases h:a=b
 .subst h;simp[dP]
 .simp[dP,h]
theorem EA {k:Value} {x:D}:∀ {l:List (Value×D)},(∀ p∈l,eB (.int .i64) p.1=true)->eB (.int .i64) k=true->∀ p∈jD k x l,eB (.int .i64) p.1=true
 | [],_,hk,p,hp=>by
  rw[EB,List.mem_singleton]at hp;subst hp;exact hk
 | q :: l,hl,hk,p,hp=>by
  rw[Ez]at hp;split at hp
  .rcases List.mem_cons.1 hp with rfl | hp
   .exact hk
   .exact hl p (by simp[hp])
  .rcases List.mem_cons.1 hp with rfl | hp
   .exact hl _ (by simp)
   .exact EA (fun p hp=>hl p (by simp[hp])) hk p hp
theorem adh (i:Int) (l:List Int):(∀ p∈iS l,eB (.int .i64) p.1=true)/\aeN (.int .i64 i) (iS l)=if i∈l then some (.v (.bool true)) else none:=by
 suffices h:∀ (n:Nat) (l:List Int),l.length=n->(∀ p∈iS l,eB (.int .i64) p.1=true)/\aeN (.int .i64 i) (iS l)=if i∈l then some (.v (.bool true)) else none from h _ l rfl
 intro n
 induction n with
 | zero=>
  intro l h;obtain rfl:=List.eq_nil_of_length_eq_zero h;exact⟨by simp[iS],rfl⟩
 | succ n ih=>
  intro l h
  have aG:l≠[]:=fun e=>by subst e;cases h
  obtain⟨l',k,rfl⟩:∃ l' k,l=l' ++ [k]:=⟨l.dropLast,l.getLast aG,(List.dropLast_concat_getLast aG).symm⟩;obtain⟨h1,h2⟩:=ih l' (by simpa using h);rw[Es];refine⟨EA h1 rfl,?_⟩;rw[Ey (d:=.int .i64) rfl rfl _ h1,h2,Sv];by_cases e:i=k
  .subst e;simp
  .simp[e]
def qp (t:Tx) (most:Int):Option YM:=match pc t with
 | none=>none
 | some p=>if 4 < (YQ p).length\/most < YU (bl p) then none else some p
def aaT:Option YM->D
 | none=>.aT [.v (.pointer none),.v (.bool false)]
 | some p=>.aT [fN p,.v (.bool true)]
theorem Tf {t:Tx} {most:Int} {p:YM} (h:qp t most=some p):Y3 p=none/\(∀ r∈p.ar,j4 r)/\(YQ p).length<=4/\YU (bl p)<=most:=by
 unfold qp at h;split at h
 .cases h
 .rename_i q hq;split at h
  .cases h
  .rename_i hn;obtain rfl:=Option.some.inj h;obtain⟨h1,h2⟩:=Cz (IE hq);exact⟨h1,h2,by omega,by omega⟩
theorem Uy {p:YM} (hg:qS p):∀ {k:Nat},k<=p.names.length->YU (dJ p k)<=YU (bl p):=fun {k} hk=>by
 have h:∀ d,k+d<=p.names.length->YU (dJ p k)<=YU (dJ p (k+d)):=by
  intro d
  induction d with
  | zero=>intro _;exact Int.le_refl _
  | succ d ih=>
   intro hd;have h1:=ih (by omega)
   have hm:∀ x∈dJ p (k+d+1),2<=x.most:=fun x hx=>by
    obtain⟨i,hi,_,h2⟩:=(ace (by omega)).1 hx;exact (jT hg ((ace (Nat.le_refl _)).2 ⟨i,hi,hi,h2⟩)).m2
   have e:dJ p (k+d+1)=dJ p (k+d) ++ partOf p.names[k+d] (edB p p.names[k+d]) (k+d):=xZ (by omega);have h3:=Iv hm (dJ p (k+d)).length;rw[e,List.take_left]at h3;rw[<- Nat.add_assoc,e];omega
 have:=h (p.names.length - k) (by omega);rw[show k+(p.names.length - k)=p.names.length from by omega]at this;exact this
theorem W5 {p:YM} {k:Nat} (hk:k < p.names.length):((k:Int)∈ZK p p.names.length)↔edB p p.names[k]=true:=by
 rw[qM (Nat.le_refl _)];constructor
 .rintro⟨i,hi,_,he,ha⟩
  obtain rfl:k=i:=by omega
  exact ha
 .intro ha;exact⟨k,hk,hk,rfl,ha⟩
theorem HD (G:YI) (hM:n9 G) (hP:abH G) (hG:mO G) {es er:Value} (hE:px G es er) (t:Tx) (most:Int) (h1:1<=most) (h2:most<=4096):aq prog G 34 [dS t,YG most] (aaT (qp t most)):=by
 have bq:=SD G hM hP hG hE t;unfold qp;simp only[dS]at bq ⊢
 cases hre:pc t with
 | none=>
  rw[hre]at bq;simp only[sI,Ei,YG,aaT]at bq ⊢;refine aq.aI (aw _) func34 rfl rfl (rs:=[.tmp 4,.tmp 5]) results34 (by simp[ntmps34]) fun X=>?_;simp only[ntmps34,List.map];have fw:=@YG.eq_1;refine ab fw [0,1] [] ?_;refine aP fw bq [1,6,7] [6] ?_;refine ae fun K1 ay=>?_;refine ab fw [1,6,28] [6] ?_;refine YL rfl ?_;refine ab fw [4,5] [6] ?_;exact aV fw
 | some p=>
  rw[hre]at bq;obtain⟨aS,hk⟩:=Cz (IE hre);have hg:=ZU aS;have gZ:=hg.names;have jO:=B0 G p (by omega) 1;have ny:gF p.names 1 p.names.length=YQ p:=rfl;rw[ny]at jO
  have oA:((YQ p).map fun x=>[D.v (.int .i64 x)]).length=(YQ p).length:=by simp
  by_cases h4:4 < (YQ p).length
  .simp only[h4,true_or,if_true]
   have sT:((YQ p).length:Int) > 4:=by omega
   simp only[sI,cA,cy,cz,cu,YG,aaT]at bq jO ⊢;generalize ((YQ p).map fun x=>[D.v (.int .i64 x)])=IN at *;generalize p.names.map bk=NN at *;generalize p.ar.map bF=RR at *
   have zS:(IN.length:Int) > 4:=by omega
   refine aq.aI (aw _) func34 rfl rfl (rs:=[.tmp 4,.tmp 5]) results34 (by simp[ntmps34]) fun X=>?_;simp only[ntmps34,List.map];have fw:=@YG.eq_1;refine ab fw [0,1] [] ?_;refine aP fw bq [1,6,7] [6] ?_;refine cq fw 6 ?_;refine ae fun K1 ay=>?_;have qf:=(Aq fw @zS);refine eu jO [1,6,28] [] ?_;refine YL (by simp<;>omega) ?_;refine ab fw [4,5] [] ?_;exact aV fw
  .simp only[h4,false_or];have Bd:YU (bl p)<=most->aq prog G 15 [cA p] (.aT [fN p,.v .nilIface]):=fun h=>Tq G p aS hk (by omega) (by omega)
   have kR:=Hy G p (by omega) (by have:=hg.ar;omega) (fun r hr=>by
    obtain⟨e,he,_,_,hb⟩:=hk r hr
    exact⟨e,he,by omega⟩)
   rw[adw aS]at kR;have ij:=Dh p p.names.length;have ud:=fun k (h:k < p.names.length)=>W5 (p:=p) h;generalize ZK p p.names.length=E at *
   have pV:∀ k (h:k < p.names.length),YU (dJ p (k+1))=YU (dJ p k) * YU (partOf p.names[k] (edB p p.names[k]) k):=fun k h=>by rw[xZ h,ac2]
   have FC:YU (dJ p 0)=1:=rfl;have z8:YU (dJ p p.names.length)=YU (bl p):=rfl;have s6:=fun k (h:k<=p.names.length)=>Uy hg h
   have FG:∀ k,k<=p.names.length->0 < YU (dJ p k):=fun k h=>k9 fun x hx=>by
    obtain⟨i,hi,_,h2⟩:=(ace h).1 hx;exact (jT hg ((ace (Nat.le_refl _)).2 ⟨i,hi,hi,h2⟩)).m2
   generalize YU (bl p)=PP at *;obtain⟨PN,FD⟩:∃ PN:Nat->Int,∀ k,YU (dJ p k)=PN k:=⟨_,fun _=>rfl⟩;simp only[FD]at pV FC z8 s6 FG;clear FD;have oB:=hg.count;have ml:=hg.name;have OP:∃ c,fN p = .ip c:=⟨_,rfl⟩;obtain⟨MC,ZM⟩:=OP;simp only[ZM]at Bd
   have jh:(most < PP/\aaT (if most < PP then none else some p)=D.aT [.v (.pointer none),.v (.bool false)])\/(¬ most < PP/\aaT (if most < PP then none else some p)=D.aT [.ip MC,.v (.bool true)]):=by
    by_cases hb:most < PP
    .exact .inl ⟨hb,by rw[if_pos hb];rfl⟩
    .exact .inr ⟨hb,by rw[if_neg hb];simp only[aaT,ZM]⟩
   generalize N6:aaT (if most < PP then none else some p)=Xf at jh ⊢;clear N6;simp only[sI,cA,cy,cz,cu,YG]at bq jO Bd kR ⊢;generalize ((YQ p).map fun x=>[D.v (.int .i64 x)])=IN at *
   have me:(p.names.map bk).length=p.names.length:=by simp
   have iY:∀ i (h:i < p.names.length),(p.names.map bk)[i]? = some [.v (.string (bs p.names[i].name)),.v (.int .i64 p.names[i].kind),.v (.int .i64 p.names[i].count)]:=fun i h=>by simp[h,bk,dS]
   generalize p.names.map bk=NN at *;generalize p.ar.map bF=RR at *
   have zV:(E.map fun x=>[D.v (.int .i64 x)]).length=E.length:=by simp
   have zS:¬ (IN.length:Int) > 4:=by omega
   refine aq.aI (aw _) func34 rfl rfl (rs:=[.tmp 4,.tmp 5]) results34 (by simp[ntmps34]) fun X=>?_;simp only[ntmps34,List.map];have fw:=@YG.eq_1;refine ab fw [0,1] [] ?_;refine aP fw bq [1,6,7] [6] ?_;refine cq fw 6 ?_;refine ae fun K1 ay=>?_;have qf:=(Aq fw @zS);refine eu jO [1,6,28] [] ?_;refine af (by simp<;>omega) ?_;refine ao (ay _ ?_);refine ab fw [1,6,8] [] ?_;refine ab fw [1,6,8,9] [29] ?_;refine ae fun K2 aa=>?_;refine aP fw kR [1,6,8,9,10,11] [29] ?_;refine Zb (S:=Nat) (fun j=>j<=E.length) (fun j=>⟨aZ [(1,int most),(6,.d (.ip [.sl none NN,.sl none RR])),(8,int 1),(9,.mp 29),(10,int j),(11,.d (.sl none (E.map fun x=>[.v (.int .i64 x)])))],YH [(29,.mp 152 (iS (E.take j)))]⟩) (fun j=>E.length - j) 0 ?_ (by omega) ?_
   .refine aC.cO (fun _ _=>trivial) (by simp[YG,iS]) (by simp[YG,iS])
   .intro j hj;refine ae fun K3 YS=>?_;by_cases YJ:j < E.length
    .have rH:iS (E.take (j+1))=jD (.int .i64 E[j]) (.v (.bool true)) (iS (E.take j)):=by rw[List.take_succ_eq_append_getElem YJ,Es]
     have wW:=(adh 0 (E.take j)).1;have tw:=wW;simp at tw;have cQ:=eq_true tw;have qf:=(Aq fw @YJ);refine aB [1,6,8,9,10,11,35] [29] ?_;refine YL (by simp[YJ]) ?_;refine ao (YS _ ?_);refine ae fun K4 Y4=>?_;refine YR ?_;have qf:=(Aq fw (Aq @YJ (Aq @k7.eq_1 (Aq @lp.eq_1 (Aq @lp.eq_2 @cQ)))));refine gK Y4 [1,6,8,9,10,11] [29] ?_;refine cf fw ?_;(try simp only[YO,bd]);refine bn.mk (j+1) (by omega) (by omega) ?_;rw[rH];refine bz fw
    .obtain rfl:j=E.length:=by omega
     refine ab fw [1,6,8,9,10,11,35] [29] ?_;refine af (by simp) ?_;refine bY (aa _ ?_)
     try rw[List.take_of_length_le (Nat.le_refl _)]
     have hlk:∀ k (h:k < p.names.length),aeN (.int .i64 (k:Int)) (iS E)=if edB p p.names[k]=true then some (.v (.bool true)) else none:=fun k h=>by
      rw[(adh (k:Int) E).2];simp only[ud k h]
     have wW:=(adh 0 E).1;generalize iS E=EE at hlk wW ⊢;have tw:=wW;simp at tw;have cQ:=eq_true tw;refine ae fun K5 b8=>?_;refine ab fw [1,6,8,9,12] [29] ?_;refine Zb (S:=Nat) (fun k=>k<=p.names.length) (fun k=>⟨aZ [(1,int most),(6,.d (.ip [.sl none NN,.sl none RR])),(8,int (PN k)),(9,.mp 29),(12,int k)],YH [(29,.mp 152 EE)]⟩) (fun k=>p.names.length - k) 0 ?_ (by omega) ?_
     .refine bz (Aq fw @FC)
     .intro k nz;have s7:=pV k;have N1:=s6 k nz;have N3:=FG k nz;generalize XK:PN k=n at s7 N1 N3 ⊢;refine ae fun K6 dD=>?_;by_cases hgo:k < p.names.length/\n<=most
      .obtain⟨YJ,hle⟩:=hgo
       have bZ:k < NN.length:=by omega
       have fA:(k:Int) < (NN.length:Int):=by omega
       have qf:=(Aq fw (Aq @fA @hle));refine aB [1,6,8,9,12,52] [29] ?_;refine YL (by simp[bZ,hle]) ?_;refine ao (dD _ ?_);refine ae fun K7 dY=>?_;refine YR ?_;have wY:=hlk k YJ;have ZN:=s7 YJ;have ja:=oB _ (List.getElem_mem YJ);have Gl:=ml _ (List.getElem_mem YJ)
       have pR:NN[k]=[.v (.string (bs p.names[k].name)),.v (.int .i64 p.names[k].kind),.v (.int .i64 p.names[k].count)]:=by
        have:=iY k YJ;rw[List.getElem?_eq_getElem bZ]at this;exact Option.some.inj this
       generalize edB p p.names[k]=ev at *;unfold partOf at ZN;generalize Gw:p.names[k]=nk at ZN pR ja Gl;obtain⟨nm,kd,ct⟩:=nk;dsimp only at ZN pR ja Gl;have qf:=(Aq fw (Aq @bZ @pR));refine aB [1,6,8,9,12,13] [29,13] ?_;refine cq fw 13 ?_;refine YR ?_;by_cases k2:kd=2
       .subst k2;rw[if_pos (.inl rfl)]at ZN;simp only[YU,Int.mul_one]at ZN;refine ab fw [1,6,8,9,12,13,60] [29] ?_;refine YL rfl ?_;refine gJ fw dY [1,6,8,9,12] [29] ?_;refine cf fw ?_;(try simp only[YO,bd]);refine bn.mk (k+1) (by omega) (by omega) ?_;rw[ZN];refine bz fw
       .by_cases k1:kd=1
        .subst k1
         cases ev with
         | true=>
          rw[if_pos (.inr ⟨rfl,rfl⟩)]at ZN;simp only[YU,Int.mul_one]at ZN;simp only[if_true]at wY;have qf:=(Aq fw (Aq @wY (Aq @k7.eq_1 (Aq @lp.eq_1 (Aq @lp.eq_2 @cQ)))));refine aB [1,6,8,9,12,13,60] [29] ?_;refine YL rfl ?_;refine gJ fw dY [1,6,8,9,12] [29] ?_;refine cf fw ?_;(try simp only[YO,bd]);refine bn.mk (k+1) (by omega) (by omega) ?_;rw[ZN];refine bz fw
         | false=>
          rw[if_neg (by simp),if_neg (by simp)]at ZN;simp only[YU,Int.mul_one]at ZN;simp only[Bool.false_eq_true,if_false]at wY;have qf:=(Aq fw (Aq @wY (Aq @k7.eq_1 (Aq @lp.eq_1 (Aq @lp.eq_2 @cQ)))));refine aB [1,6,8,9,12,13,60] [29] ?_;refine af rfl ?_;refine ab fw [1,6,8,9,12,13,76] [29] ?_;refine af rfl ?_;refine ao ?_;refine dY _ (AW.norm [1,6,8,9,12] [29] (fun _ _=>trivial) (AW.st (by simp[YG];rfl) ?_));refine cf fw ?_;(try simp only[YO,bd]);refine bn.mk (k+1) (by omega) (by omega) ?_;rw[ZN];refine bz fw
        .rw[if_neg (by simp[k1,k2]),if_pos k1]at ZN;simp only[YU,Int.mul_one]at ZN;have Zp:n * (ct+1)<=4096 * 8:=Int.mul_le_mul (by omega) (by omega) (by omega) (by omega);have hb0:0<=n * (ct+1):=Int.mul_nonneg (by omega) (by omega);have qf:=(Aq fw (Aq @k1 @k2));refine aB [1,6,8,9,12,13,60] [29] ?_;refine af (by simp[k1,k2]) ?_;have qf:=(Aq fw @k1);refine aB [1,6,8,9,12,13,76] [29] ?_;refine YL (by simp[k1]) ?_;refine gJ fw dY [1,6,8,9,12] [29] ?_;refine cf fw ?_;(try simp only[YO,bd]);refine bn.mk (k+1) (by omega) (by omega) ?_;rw[ZN];refine bz fw
      .rcases jh with⟨hb,hR⟩ | ⟨hb,hR⟩
       .have wN:n > most:=by
         by_cases YJ:k < p.names.length
         .exact Classical.byContradiction fun hn=>hgo ⟨YJ,by omega⟩
         .obtain rfl:k=p.names.length:=by omega
          omega
        subst hR
        have PJ:¬ n<=most:=by omega
        by_cases YJ:k < p.names.length
        .have fA:(k:Int) < (NN.length:Int):=by omega
         have qf:=(Aq fw (Aq @fA @PJ));refine aB [1,6,8,9,12,52] [29] ?_;refine af (by simp<;>omega) ?_;refine bY (b8 _ ?_);refine ae fun K8 Zl=>?_;have qf:=(Aq fw @wN);refine aB [6,87] [29] ?_;refine YL (by simp<;>omega) ?_;refine ab fw [4,5] [29] ?_;exact aV fw
        .have fA:¬ (k:Int) < (NN.length:Int):=by omega
         have qf:=(Aq fw @fA);refine aB [1,6,8,9,12,52] [29] ?_;refine af (by simp<;>omega) ?_;refine bY (b8 _ ?_);refine ae fun K8 Zl=>?_;have qf:=(Aq fw @wN);refine aB [6,87] [29] ?_;refine YL (by simp<;>omega) ?_;refine ab fw [4,5] [29] ?_;exact aV fw
       .have Ba:¬ n > most:=by omega
        have PM:=Bd (by omega);subst hR;have fA:¬ (k:Int) < (NN.length:Int):=fun h=>hgo ⟨by omega,by omega⟩;have qf:=(Aq fw @fA);refine aB [1,6,8,9,12,52] [29] ?_;refine af (by simp<;>omega) ?_;refine bY (b8 _ ?_);refine ae fun K8 Zl=>?_;have qf:=(Aq fw @Ba);refine aB [6,87] [29] ?_;refine af (by simp<;>omega) ?_;refine ao (Zl _ ?_);refine aP fw PM [14,15] [29] ?_;refine ab fw [4,5] [29] ?_;exact aV fw
def fm (a:Int) (n:Nat):Nat:=((IntKind.u64.wrap a).tmod (n:Int)).toNat
theorem Ds (a:Int):IntKind.u64.wrap a=a % 18446744073709551616:=by
 simp[IntKind.wrap,IntKind.signed,IntKind.bits]
theorem adr (a:Int) {n:Nat} (hn:0 < n):((IntKind.u64.wrap a).tmod (n:Int))=(fm a n:Int)/\fm a n < n:=by
 have h0:0<=IntKind.u64.wrap a:=by rw[Ds];omega
 have h1:0<=(IntKind.u64.wrap a).tmod (n:Int):=Int.tmod_nonneg _ h0;have h2:(IntKind.u64.wrap a).tmod (n:Int) < n:=Int.tmod_lt_of_pos _ (by omega);unfold fm;constructor<;>omega
theorem Up (G:YI) (a:Int) (n:Nat) (hn:0 < n) (ZZ:n < 2^40):aq prog G 50 [YG a,YG n] (YG (fm a n)):=by
 obtain⟨h1,h2⟩:=adr a hn
 have hw:IntKind.u64.wrap (n:Int)=n:=by rw[Ds];omega
 have oL:¬ n=0:=by omega
 generalize fm a n=w at h1 h2 ⊢;simp only[YG];refine aq.aI (aw _) func50 rfl rfl (rs:=[.tmp 4]) results50 (by simp[ntmps50]) fun X=>?_;simp only[ntmps50,List.map];refine al [0,1] [] ?_;have qf:=(Aq @hw (Aq @h1 @oL));refine aB [4] [] ?_;exact dK
theorem M1:pc pM=some fP:=by unfold pc;rw[if_neg (by decide),EX]
theorem EW:aO fP=[[0,1],[1,1]]:=by kernel_rfl
theorem EY:YU (bl fP)=2:=by kernel_rfl
theorem adz:(YQ fP).length=1:=by kernel_rfl
theorem MY {most:Int} (h:2<=most):qp pM most=some fP:=by
 unfold qp;rw[M1];simp only[adz,EY];rw[if_neg (by omega)]
theorem QN (p:YM):0 < cR p:=Nat.pow_pos (by decide)
theorem QM {p:YM} (h:(YQ p).length<=4):cR p<=16:=Nat.pow_le_pow_right (n:=2) (by decide) h
def jE (p:YM) (e:Ex) (s i:Nat):Bool:=eX (aaE p (jB p (fY p s) (dO (i:Int) (YQ p).length)).is) (aaE p (fY p s).is) e
def fQ (p:YM) (e:Ex) (s:Nat):List Bool:=(List.range (cR p)).map (jE p e s)
def gg (p:YM) (e:Ex):List (List Bool):=(List.range (aO p).length).map (fQ p e)
def jv (p:YM) (e:Ex):Bool:=(Zw true e).any fun s=>decide (YW p s < 0)
theorem re (p:YM) (e:Ex):(gg p e).length=(aO p).length:=by simp[gg]
theorem rb {p:YM} {e:Ex} {s:Nat} (h:s < (gg p e).length):(gg p e)[s]=fQ p e s:=by simp[gg]
theorem E5 {p:YM} {e:Ex} {s:Nat} (h:s < (aO p).length):(gg p e).getD s []=fQ p e s:=by rw[cr (by rw[re];exact h),rb]
theorem rf (p:YM) (e:Ex) (s:Nat):(fQ p e s).length=cR p:=by simp[fQ]
theorem wg {p:YM} {e:Ex} {s i:Nat} (h:i < (fQ p e s).length):(fQ p e s)[i]=jE p e s i:=by simp[fQ]
theorem E6 {p:YM} {e:Ex} {s i:Nat} (h:gn (fQ p e s) < 0) (hi:i < cR p):jE p e s i=true:=by
 have h1:i < (fQ p e s).length:=by rw[rf];exact hi
 have:=TP h i h1
 rwa [wg]at this
theorem Nb {p:YM} {e:Ex} {s i:Nat} (h:gn (fQ p e s)=(i:Int)):i < cR p/\jE p e s i=false:=by
 obtain⟨k,hk,h1,h2⟩:=TQ (l:=fQ p e s) (by omega)
 obtain rfl:k=i:=by omega
 rw[wg]at h2;rw[rf]at hk;exact⟨hk,h2⟩
theorem Iq {i n:Nat} (h:i < n) (hn:n < 2^40):fm (i:Int) n=i:=by
 have hw:IntKind.u64.wrap (i:Int)=i:=by
  rw[Ds];omega
 unfold fm;rw[hw,Int.tmod_eq_emod_of_nonneg (by omega),Int.emod_eq_of_lt (by omega) (by omega),Int.toNat_natCast]
def qN (p:YM) (l:List Int):List Int:=l.map fun a=>(fm a (cR p):Int)
theorem UE (p:YM) (l:List Int):(qN p l).length=l.length:=by simp[qN]
theorem Jd (NX:List (List Int)):∀ (a b:List Int) (s:Nat),runN NX s (a ++ b)=runN NX (runN NX s a) b
 | [],_,_=>rfl
 | i :: a,b,s=>by rw[List.cons_append,runN,runN,Jd NX a b]
theorem Vp {NX:List (List Int)} {s j:Nat} {l:List Int} (h:j < l.length):runN NX s (l.take (j+1))=((kA NX (runN NX s (l.take j))).getD l[j].toNat 0).toNat:=by
 rw[List.take_succ_eq_append_getElem h,Jd];rfl
def gR (p:YM) (l:List Int) (j:Nat):Nat:=runN (aO p) 0 ((qN p l).take j)
def aa8 (p:YM) (l:List Int) (j:Nat):Nat:=fm (l.getD j 0) (cR p)
theorem acE (p:YM) (l:List Int) (j:Nat):aa8 p l j < cR p:=(adr _ (QN p)).2
theorem Lj (p:YM) (l:List Int):gR p l 0=0:=by simp[gR,runN]
theorem DV {p:YM} {l:List Int} {j:Nat} (h:j < l.length):gR p l (j+1)=((kA (aO p) (gR p l j)).getD (aa8 p l j) 0).toNat:=by
 unfold gR;rw[Vp (by rw[UE];exact h)];congr 2;simp[qN,aa8,h]
theorem CL {p:YM} {s:Nat} (h:s < (aO p).length):(kA (aO p) s).length=cR p:=by
 rw[jV h,uI h,r5];rfl
theorem vv {p:YM} (aS:Y3 p=none) (l:List Int):∀ j,j<=l.length->gR p l j < (aO p).length/\0<=(iV (aO p)).getD (gR p l j) 0
 | 0,_=>by
  have ht:=abE aS;rw[Lj,(mZ ht).zero];exact⟨ht.pos,Int.le_refl _⟩
 | j+1,hj=>by
  obtain⟨h1,h2⟩:=vv aS l j (by omega);have ht:=abE aS
  have hi:aa8 p l j < (aO p)[gR p l j].length:=by
   have:=CL h1;rw[jV h1]at this;rw[this];exact acE p l j
  rw[DV (by omega),jV h1,cr hi];have h3:=ht.mem _ (List.getElem_mem h1) _ (List.getElem_mem hi);exact⟨by omega,((mZ ht).step _ h1 h2 _ (List.getElem_mem hi)).1⟩
theorem Lk {p:YM} (aS:Y3 p=none) {l:List Int} {j:Nat} (hj:j < l.length):∃ h1:gR p l j < (aO p).length,∃ h2:aa8 p l j < (aO p)[gR p l j].length,(aO p)[gR p l j][aa8 p l j]=(gR p l (j+1):Int):=by
 obtain⟨h1,_⟩:=vv aS l j (by omega)
 have hi:aa8 p l j < (aO p)[gR p l j].length:=by
  have:=CL h1;rw[jV h1]at this;rw[this];exact acE p l j
 refine⟨h1,hi,?_⟩;have h3:=(abE aS).mem _ (List.getElem_mem h1) _ (List.getElem_mem hi);rw[DV hj,jV h1,cr hi];omega
noncomputable def Y1 (p:YM) (e:Ex):List Int:=uO (aO p) (iV (aO p)) (gg p e)
theorem IB {p:YM} (h6:cR p<=64):∀ {l:List Int},(∀ j (hj:j < l.length),∃ i:Nat,i < cR p/\l[j]=(i:Int))->qN p l=l
 | [],_=>rfl
 | a :: l,h=>by
  obtain⟨i,h1,h2⟩:=h 0 (by simp);have e:a=(i:Int):=h2;have:=IB h6 (l:=l) fun j hj=>h (j+1) (by simp;omega);unfold qN at this ⊢;rw[List.map_cons,this,e,Iq h1 (by omega)]
theorem It {p:YM} (aS:Y3 p=none) (h6:cR p<=64) {e:Ex} (h:Y1 p e≠[]):qN p (Y1 p e)=Y1 p e/\0 < (Y1 p e).length/\(Y1 p e).length<=(aO p).length/\∀ j,j < (Y1 p e).length->jE p e (gR p (Y1 p e) j) (aa8 p (Y1 p e) j)=decide (j+1 < (Y1 p e).length):=by
 have ht:=abE aS;have hF:=mZ ht
 rcases Uk (aO p) (iV (aO p)) (gg p e) with⟨g,_⟩ | ⟨d,z,i,hz,hd,hi,g,hb⟩
 .exact absurd g h
 have OO:=EO ht z hz;rw[E5 hz]at hi;obtain⟨bO,Y8⟩:=Nb hi;have P9:=fun j (hj:j < d)=>aeF ht hF hz hd hj;have tl:=(yo ht hz d 0 ht.pos (sS hF d z hz hd)).1;have wI:=JY ht hF hz hd;have hWl:=yn (aO p) z d 0;unfold Y1;rw[g];generalize fe (aO p) z d 0=W at *
 have hq:qN p (W ++ [(i:Int)])=W ++ [(i:Int)]:=IB h6 fun j hj=>by
  by_cases Gh:j < d
  .obtain⟨t,i2,u,h1,h2,h3,h4,_⟩:=P9 j Gh
   have h5:(aO p)[t].length=cR p:=by have:=CL h1;rwa [jV h1]at this
   refine⟨i2,by omega,?_⟩;rw[List.getElem_append_left (by omega)];rw[cr (by omega)]at h4;exact h4
  .have hl:j=W.length:=by simp at hj;omega
   subst hl;exact⟨i,bO,by simp⟩
 have b6:∀ j,j<=d->gR p (W ++ [(i:Int)]) j=runN (aO p) 0 (W.take j):=fun j hj=>by
  unfold gR;rw[hq,List.take_append_of_le_length (by omega)]
 refine⟨hq,by simp,by simp only[List.length_append,List.length_cons,List.length_nil];omega,fun j hj=>?_⟩;simp only[List.length_append,List.length_cons,List.length_nil,hWl]at hj ⊢;by_cases Gh:j < d
 .obtain⟨f1,f2,f3⟩:=wI j (by omega);have:=hb _ f1 f2 (by omega);rw[E5 f1]at this;rw[b6 j (by omega),E6 this (acE p _ j)];exact (decide_eq_true (by omega)).symm
 .obtain rfl:j=d:=by omega
  have e1:aa8 p (W ++ [(i:Int)]) j=i:=by
   unfold aa8;rw[show (W ++ [(i:Int)]).getD j 0=(i:Int) from by rw[cr (by simp;omega)];simp[<- hWl]];exact Iq bO (by omega)
  have e2:runN (aO p) 0 (W.take j)=z:=by rw[List.take_of_length_le (by omega)];exact tl
  rw[b6 j (Nat.le_refl _),e1,e2,Y8];exact (decide_eq_false (by omega)).symm
def da (p:YM) (e:Ex):Nat->List Bool
 | 0=>(gg p e).map fun l=>decide (0<=gn l)
 | k+1=>(List.range (aO p).length).map fun s=>(List.range (cR p)).any fun i=>jE p e s i && (da p e k).getD ((kA (aO p) s).getD i 0).toNat false
theorem vx (p:YM) (e:Ex):∀ k,(da p e k).length=(aO p).length
 | 0=>by simp[da,gg]
 | k+1=>by simp[da]
def fE (path:List Int) (bad:Nat->List Bool) (most:Nat):Nat->Nat->Nat×Nat×List Int
 | 0,_=>(3,most,[])
 | n+1,k=>if path≠[]/\path.length<=k then (2,k,path) else if (bad k).any id=false then (1,k,[]) else fE path bad most n (k+1)
theorem G6 (path:List Int) (bad:Nat->List Bool) (most:Nat):∀ n k,(fE path bad most n k=(3,most,[])/\∀ j,k<=j->j < k+n->¬ (path≠[]/\path.length<=j))\/(∃ j,k<=j/\j < k+n/\(∀ i,k<=i->i < j->¬ (path≠[]/\path.length<=i))/\((path≠[]/\path.length<=j/\fE path bad most n k=(2,j,path))\/(¬ (path≠[]/\path.length<=j)/\(bad j).any id=false/\fE path bad most n k=(1,j,[]))))
 | 0,k=>.inl ⟨rfl,fun j h1 h2=>by omega⟩
 | n+1,k=>by
  rw[fE];by_cases h:path≠[]/\path.length<=k
  .rw[if_pos h];exact .inr ⟨k,Nat.le_refl _,by omega,fun i h1 h2=>by omega,.inl ⟨h.1,h.2,rfl⟩⟩
  .rw[if_neg h];by_cases hb:(bad k).any id=false
   .rw[if_pos hb];exact .inr ⟨k,Nat.le_refl _,by omega,fun i h1 h2=>by omega,.inr ⟨h,hb,rfl⟩⟩
   .rw[if_neg hb]
    rcases G6 path bad most n (k+1) with⟨g1,g2⟩ | ⟨j,g1,g2,g3,g4⟩
    .refine .inl ⟨g1,fun j h1 h2=>?_⟩;by_cases e:j=k
     .subst e;exact h
     .exact g2 j (by omega) (by omega)
    .refine .inr ⟨j,by omega,by omega,fun i h1 h2=>?_,g4⟩;by_cases e:i=k
     .subst e;exact h
     .exact g3 i (by omega) h2
theorem BK (path:List Int) (bad:Nat->List Bool) (m m':Nat):∀ n k,(fE path bad m n k).1≠3->fE path bad m' (n+1) k=fE path bad m n k
 | 0,k,h=>absurd rfl h
 | n+1,k,h=>by
  have e1:∀ (q i:Nat),fE path bad q (i+1) k=if path≠[]/\path.length<=k then (2,k,path) else if (bad k).any id=false then (1,k,[]) else fE path bad q i (k+1):=fun _ _=>rfl;rw[e1 m' (n+1),e1 m n];rw[e1 m n]at h;by_cases h1:path≠[]/\path.length<=k
  .rw[if_pos h1,if_pos h1]
  .rw[if_neg h1]at h;rw[if_neg h1,if_neg h1];by_cases h2:(bad k).any id=false
   .rw[if_pos h2,if_pos h2]
   .rw[if_neg h2]at h;rw[if_neg h2,if_neg h2];exact BK path bad m m' n (k+1) h
theorem Lr {p:YM} (aS:Y3 p=none) (h6:cR p<=64) {e:Ex} (h:Y1 p e≠[]):∀ k,k < (Y1 p e).length->(da p e k).any id=true:=by
 obtain⟨h1,h2,h3,h4⟩:=It aS h6 h;generalize Y1 p e=path at *
 have hb:∀ k,k < path.length->(da p e k).getD (gR p path (path.length - 1 - k)) false=true:=by
  intro k
  induction k with
  | zero=>
   intro _;have hj:=h4 (path.length - 1) (by omega);rw[decide_eq_false (by omega)]at hj;have hs:=(vv aS path (path.length - 1) (by omega)).1;have hi:=acE p path (path.length - 1);rw[Nat.sub_zero];generalize gR p path (path.length - 1)=s at *;generalize aa8 p path (path.length - 1)=i at *;rw[cr (by rw[vx];exact hs)];simp only[da,List.getElem_map];rw[rb (by rw[re];exact hs)];refine decide_eq_true ?_;by_cases hn:gn (fQ p e s) < 0
   .rw[E6 hn hi]at hj;cases hj
   .omega
  | succ k ih=>
   intro hk;have ih:=ih (by omega);obtain⟨g1,g2,g3⟩:=Lk aS (l:=path) (j:=path.length - 1 - (k+1)) (by omega);rw[show path.length - 1 - (k+1)+1=path.length - 1 - k from by omega]at g3;have hj:=h4 (path.length - 1 - (k+1)) (by omega);rw[decide_eq_true (by omega)]at hj;have hi:=acE p path (path.length - 1 - (k+1));generalize gR p path (path.length - 1 - (k+1))=s at *;generalize aa8 p path (path.length - 1 - (k+1))=i at *;rw[cr (by rw[vx];exact g1)];simp only[da,List.getElem_map,List.getElem_range];rw[List.any_eq_true];refine⟨i,List.mem_range.2 hi,?_⟩;rw[hj,jV g1,cr g2,g3,Int.toNat_natCast,ih];rfl
 intro k hk;have:=hb k hk;have hs:=(vv aS path (path.length - 1 - k) (by omega)).1;generalize gR p path (path.length - 1 - k)=s at *
 have Zv:s < (da p e k).length:=by rw[vx];exact hs
 rw[cr Zv]at this;rw[List.any_eq_true];exact⟨_,List.getElem_mem Zv,this⟩
theorem QO {p:YM} (aS:Y3 p=none) (h6:cR p<=64) (e:Ex) (most:Nat) (hm:1<=most) :
  (∃ k:Nat,1<=k/\k<=most/\Y1 p e=[]/\fE (Y1 p e) (da p e) most most 1=(1,k,[])/\fE (Y1 p e) (da p e) (most+1) (most+1) 1=(1,k,[]))\/
  (Y1 p e≠[]/\fE (Y1 p e) (da p e) most most 1=(2,(Y1 p e).length,Y1 p e)/\fE (Y1 p e) (da p e) (most+1) (most+1) 1=(2,(Y1 p e).length,Y1 p e))\/
  (fE (Y1 p e) (da p e) most most 1=(3,most,[])/\(Y1 p e=[]\/most < (Y1 p e).length)):=by
 rcases G6 (Y1 p e) (da p e) most most 1 with⟨g1,g2⟩ | ⟨j,g1,g2,g3,⟨g4,g5,g6⟩ | ⟨g4,g5,g6⟩⟩
 .refine .inr (.inr ⟨g1,?_⟩);have:=g2 most hm (by omega);by_cases h:Y1 p e=[]
  .exact .inl h
  .refine .inr ?_;by_cases h2:(Y1 p e).length<=most
   .exact absurd ⟨h,h2⟩ this
   .omega
 .have hj:(Y1 p e).length=j:=by
   have hl:0 < (Y1 p e).length:=List.length_pos_iff.2 g4;by_cases h1:j=1
   .omega
   .have:=g3 (j - 1) (by omega) (by omega);by_cases h2:(Y1 p e).length<=j - 1
    .exact absurd ⟨g4,h2⟩ this
    .omega
  refine .inr (.inl ⟨g4,?_,?_⟩)
  .rw[g6,hj]
  .rw[BK _ _ most _ _ _ (by rw[g6];exact (by decide:(2:Nat)≠3)),g6,hj]
 .refine .inl ⟨j,g1,by omega,?_,g6,by rw[BK _ _ most _ _ _ (by rw[g6];exact (by decide:(1:Nat)≠3)),g6]⟩;by_cases h:Y1 p e=[]
  .exact h
  .have:=Lr aS h6 h j (by
    by_cases h2:(Y1 p e).length<=j
    .exact absurd ⟨h,h2⟩ g4
    .omega)
   rw[g5]at this;cases this
theorem Hl (G:YI) (b:Bool) (l:List Bool) (hl:l.length < 2^60):aq prog G 100 [.sl none (l.map fun b=>[.v (.bool b)]),.v (.bool b)] (.v (.int .i64 (idx (fun x=>b == x) l))):=by
 refine aq.aI (aw _) func100 rfl rfl (rs:=[.tmp 4]) results100 (by simp[ntmps100]) fun X=>?_;simp only[ntmps100,List.map];refine al [0,1] [] ?_;refine ae fun K1 ay=>?_;refine al [0,1,7,8] [] ?_;refine Zb (S:=Nat) (fun n=>n<=l.length/\∀ i (hi:i < l.length),i < n->(b == l[i])=false) (fun n=>⟨aZ [(0,.d (.sl none (l.map fun b=>[.v (.bool b)]))),(1,.d (.v (.bool b))),(7,int l.length),(8,int n)],YH []⟩) (fun n=>l.length - n) 0 ?_ (by simp) ?_
 .refine ZH
 .rintro n ⟨hn,hp⟩;refine al [0,1,7,8,9] [] ?_;refine ae fun K2 aa=>?_;refine eM (b:=n < l.length) (by simp[D.le,D.le.go,aQ]) (fun hc=>?_) (fun hc=>?_)
  .refine ao (aa _ ?_);refine ae fun K3 YS=>?_;refine YR ?_;refine al [0,1,5,7,8] [] ?_;generalize hx:l[n]=x at *;have qf:=(Aq @hc @hx);refine aB [0,1,5,7,8,16] [] ?_;refine kI (b == x) (by simp) (fun he=>?_) (fun he=>?_)
   .refine al [4] [] ?_;refine b7 ?_;simp[D.le,D.le.go,aQ];exact (oV (p:=fun x=>b == x) hc (by rw[hx];exact he) fun i hi=>hp i (by omega) hi).symm
   .refine ao (YS _ ?_);refine eL ?_;(try simp only[YO,bd]);refine bn.mk (n+1) ⟨by omega,fun i hi ax=>?_⟩ (by omega) ?_
    .by_cases h:i=n
     .subst h;rw[hx];exact he
     .exact hp i hi (by omega)
    refine ZH
  .refine bY (ay _ ?_);refine al [4] [] ?_;refine b7 ?_;simp[D.le,D.le.go,aQ];exact (oW (p:=fun x=>b == x) fun i hi=>hp i hi (by omega)).symm
theorem Hi (G:YI) (b:Bool) (l:List Bool) (hl:l.length < 2^60):aq prog G 99 [.sl none (l.map fun b=>[.v (.bool b)]),.v (.bool b)] (.v (.bool (decide (0<=idx (fun x=>b == x) l)))):=by
 refine aq.aI (aw _) func99 rfl rfl (rs:=[.tmp 4]) results99 (by simp[ntmps99]) fun X=>?_;simp only[ntmps99,List.map];refine al [0,1] [] ?_;refine aP trivial (Hl G b l hl) [4] [] ?_;exact dK
theorem HS (G:YI) (a:Int):aq prog G 198 [.v (.int .i64 a)] (.v (.bool false)):=by
 refine aq.aI (aw _) func198 rfl rfl (rs:=[.tmp 2]) results198 (by simp[ntmps198]) fun X=>?_;simp only[ntmps198,List.map];refine al [0] [] ?_;refine al [2] [] ?_;exact dK
theorem LV (G:YI) (a b:Int):aq prog G 150 [.v (.int .i64 a),.v (.int .i64 b)] (.v (.int .i64 (if a < b then -1 else if b < a then 1 else 0))):=by
 have ha:=HS G a;have hb:=HS G b;refine aq.aI (aw _) func150 rfl rfl (rs:=[.tmp 4]) results150 (by simp[ntmps150]) fun X=>?_;simp only[ntmps150,List.map];refine al [0,1] [] ?_;refine aP trivial ha [0,1,5] [] ?_;refine aP trivial hb [0,1,5,6] [] ?_;refine ae fun K1 ay=>?_;refine al [0,1,6,11] [] ?_;refine af rfl ?_;refine ao (ay _ ?_);refine ae fun K3 YS=>?_;refine al [0,1,13] [] ?_;refine af rfl ?_;refine ao (YS _ ?_);refine ae fun K4 Y4=>?_;refine al [0,1,16] [] ?_;refine eM (b:=a < b) (by simp[D.le,D.le.go,aQ]) (fun hc=>?_) (fun hc=>?_)
 .refine al [4] [] ?_;exact aV @hc
 .refine ao (Y4 _ ?_);have ZL:=hc;refine ae fun K5 b8=>?_;refine al [19] [] ?_;refine eM (b:=b < a) (by simp[D.le,D.le.go,aQ]) (fun hc=>?_) (fun hc=>?_)
  .refine al [4] [] ?_;exact aV (Aq @hc @ZL)
  .refine ao (b8 _ ?_);refine al [4] [] ?_;exact aV (Aq @hc @ZL)
theorem LR {l m:List Int} {n:Nat} (h1:n < l.length) (h2:n < m.length):aam (l.drop n) (m.drop n)=if l[n] < m[n] then -1 else if m[n] < l[n] then 1 else aam (l.drop (n+1)) (m.drop (n+1)):=by
 rw[List.drop_eq_getElem_cons h1,List.drop_eq_getElem_cons h2,aam]
theorem LS {l m:List Int} {n:Nat} (h1:n < l.length) (h2:¬ n < m.length):aam (l.drop n) (m.drop n)=1:=by
 rw[List.drop_eq_getElem_cons h1,show m.drop n=[] from List.drop_eq_nil_of_le (by omega),aam]
theorem LU {l m:List Int} {n:Nat} (h1:¬ n < l.length):aam (l.drop n) (m.drop n)=if n < m.length then -1 else 0:=by
 rw[List.drop_eq_nil_of_le (by omega)];by_cases h:n < m.length
 .rw[List.drop_eq_getElem_cons h,aam,if_pos h]
 .rw[List.drop_eq_nil_of_le (by omega),aam,if_neg h]
theorem LW (G:YI) (k1 k2:Option Bool) (l m:List Int) (hl:l.length < 2^60) (hm:m.length < 2^60):aq prog G 101 [.sl k1 (l.map fun n=>[.v (.int .i64 n)]),.sl k2 (m.map fun n=>[.v (.int .i64 n)])] (.v (.int .i64 (aam l m))):=by
 have Ap:=LV G;refine aq.aI (aw _) func101 rfl rfl (rs:=[.tmp 4]) results101 (by simp[ntmps101]) fun X=>?_;simp only[ntmps101,List.map];refine al [0,1] [] ?_;refine ae fun K1 ay=>?_;refine al [0,1,9,10,11] [] ?_;refine Zb (S:=Nat) (fun n=>n<=l.length/\aam (l.drop n) (m.drop n)=aam l m/\n<=m.length) (fun n=>⟨aZ [(0,.d (.sl k1 (l.map fun n=>[.v (.int .i64 n)]))),(1,.d (.sl k2 (m.map fun n=>[.v (.int .i64 n)]))),(9,.d (.sl k1 (l.map fun n=>[.v (.int .i64 n)]))),(10,int l.length),(11,int n)],YH []⟩) (fun n=>l.length - n) 0 ?_ (by simp) ?_
 .refine ZH
 .rintro n ⟨hn,hp,gZ⟩;refine al [0,1,9,10,11,12] [] ?_;refine ae fun K2 aa=>?_;refine eM (b:=n < l.length) (by simp[D.le,D.le.go,aQ]) (fun hc=>?_) (fun hc=>?_)
  .have hln:=hc;refine ao (aa _ ?_);refine ae fun K3 YS=>?_;refine YR ?_;have qf:=@hln;refine aB [0,1,5,6,9,10,11] [] ?_;refine ae fun K4 Y4=>?_;by_cases A4:n < m.length
   .have A5:¬ (n:Int) >= (m.length:Int):=by omega
    rw[LR hln A4]at hp;generalize hx:l[n]=x at *;generalize hy:m[n]=y at *;have pZ:=Ap x y;have qf:=@A5;refine aB [0,1,5,6,9,10,11,19] [] ?_;refine af (by simp<;>omega) ?_;refine ao (Y4 _ ?_);have qf:=(Aq @A4 @hy);refine aB [0,1,6,7,9,10,11] [] ?_;by_cases h1:x < y
    .rw[if_pos h1]at hp pZ;refine aP trivial pZ [0,1,8,9,10,11] [] ?_;refine al [0,1,8,9,10,11,28] [] ?_;refine YL rfl ?_;refine al [4] [] ?_;exact aV @hp
    .rw[if_neg h1]at hp pZ;by_cases h2:y < x
     .rw[if_pos h2]at hp pZ;refine aP trivial pZ [0,1,8,9,10,11] [] ?_;refine al [0,1,8,9,10,11,28] [] ?_;refine YL rfl ?_;refine al [4] [] ?_;exact aV @hp
     .rw[if_neg h2]at hp pZ;refine aP trivial pZ [0,1,8,9,10,11] [] ?_;refine al [0,1,8,9,10,11,28] [] ?_;refine af rfl ?_;refine ao (YS _ ?_);refine eL ?_;(try simp only[YO,bd]);refine bn.mk (n+1) ⟨by omega,hp,by omega⟩ (by omega) ?_;refine ZH
   .have A5:(n:Int) >= (m.length:Int):=by omega
    rw[LS hln A4]at hp;have qf:=@A5;refine aB [0,1,5,6,9,10,11,19] [] ?_;refine YL (by simp<;>omega) ?_;refine al [4] [] ?_;exact aV @hp
  .rw[LU hc]at hp
   obtain rfl:n=l.length:=by omega
   refine bY (ay _ ?_);refine ae fun K5 b8=>?_;refine al [35] [] ?_;refine eM (b:=l.length < m.length) (by simp[D.le,D.le.go,aQ]) (fun hc=>?_) (fun hc=>?_)
   .rw[if_pos hc]at hp;refine al [4] [] ?_;exact aV @hp
   .rw[if_neg hc]at hp;refine ao (b8 _ ?_);refine al [4] [] ?_;exact aV @hp
theorem Io (G:YI) (p:YM) (hp:p.names.length < 2^62) (s:List UInt8):aq prog G 110 [dS s,.ip (cy p)] (.v (.bool (decide (YW p s < 0)))):=by
 have hi:=nN G p hp s;simp only[cA,cy,cz,cu,dS]at hi ⊢;refine aq.aI (aw _) func110 rfl rfl (rs:=[.tmp 3]) results110 (by simp[ntmps110]) fun X=>?_;simp only[ntmps110,List.map];refine al [0,1] [] ?_;refine aP trivial hi [3] [] ?_;exact dK
def sG (p:YM) (l:List Bool):D:=.fn (.func 158) [.ip [eW l],.ip (cy p)]
theorem Ui (G:YI) (p:YM) (l:List Bool):aq prog G 111 [cA p,eW l] (sG p l):=by
 simp only[cA,cy,cz,cu,eW,sG];generalize p.names.map bk=NN;generalize p.ar.map bF=RR;generalize (l.map fun b=>[D.v (.bool b)])=L;refine aq.aI (aw _) func111 rfl rfl (rs:=[.tmp 4]) results111 (by simp[ntmps111]) fun X=>?_;simp only[ntmps111,List.map];refine al [2,3] [2,3] ?_;refine al [4] [2,3] ?_;exact dK
theorem Il (G:YI) (p:YM) (hp:p.names.length < 2^62) (L:List Bool) (hl:L.length=p.names.length):pA (fun nm=>¬ YW p nm < 0) G 158 [.ip [eW L],.ip (cy p)] (aaE p L):=by
 intro nm hn;have bK:=nN G p hp nm;obtain⟨h1,h2⟩:=xQ hn
 have hi:(YW p nm).toNat < L.length:=by omega
 have jI:aaE p L nm=L[(YW p nm).toNat]:=by unfold aaE;exact cr hi
 rw[jI];rw[h2]at bK;clear h1 h2 jI hn;simp only[cA,cy,cz,cu,dS]at bK;simp only[eW,cy,cz,cu];generalize fj:(YW p nm).toNat=i at bK hi ⊢;clear fj hl hp;generalize p.names.map bk=NN at bK ⊢;generalize p.ar.map bF=RR at bK ⊢;refine aq.aI (aw _) func158 rfl rfl (rs:=[.tmp 4]) results158 (by simp[ntmps158]) fun X=>?_;simp only[ntmps158,List.map];have fw:=@dS.eq_1;refine ab fw [0,1,2] [] ?_;have qf:=(Aq fw @hi);refine CG bK [4] [] ?_;exact aV fw
theorem Lq {p:YM} {e:Ex} (hw:cD e) (h:jv p e=false):gb (fun nm=>¬ YW p nm < 0) (fun nm=>¬ YW p nm < 0) e:=by
 have ax:∀ s∈Zw true e,¬ YW p s < 0:=fun s hs=>by
  unfold jv at h;rw[List.any_eq_false]at h;have:=h s hs;simpa using this
 exact DT hw (fun s hs=>ax s (qq.2 hs)) (fun s hs=>ax s (Cg (qq.2 hs)))
theorem HR {e:Ex} (hb:bE e<=2^28):(Zw true e).length<=2^28:=by
 have h1:=Lib.compact_length_le (jY (Y6 true e));have h2:=mH (Y6 true e);have h3:=qs true e;unfold Zw;omega
theorem Uo (G:YI) {p:YM} (aS:Y3 p=none) {e:Ex} (hw:cD e) (hb:bE e<=2^28) (fB:jv p e=false) (s i:Nat):aq prog G 51 [dE e,sG p (jB p (fY p s) (dO (i:Int) (YQ p).length)).is,sG p (fY p s).is] (.v (.bool (jE p e s i))):=by
 have gZ:=(ZU aS).names;have hs:=u1 aS (s:Int);have hd:=(zp aS hs (dO (i:Int) (YQ p).length)).1;exact EK G _ _ _ _ _ _ _ _ (Il G p (by omega) _ hd.l1) (Il G p (by omega) _ hs.l1) e (Lq hw fB) hb
theorem E7 (G:YI) (p:YM) (aS:Y3 p=none) (e:Ex) (hb:bE e<=2^28) (fB:jv p e=true):aq prog G 56 [fN p,dE e] (.aT [.sl none [],.bh 40 (.v (.int .i64 7))]):=by
 have gZ:=(ZU aS).names;have tH:=Cf G e hb;have fi:=zg G none (Zw true e) 110 [.ip (cy p)] (fun s=>decide (YW p s < 0)) (by have:=HR hb;omega) (fun s _=>Io G p (by omega) s);unfold jv at fB;rw[fB]at fi;obtain⟨ta,ca,he⟩:=dX e;simp only[he,fN,jz,lv,cA,cy,cz,cu,iA,eG,YG,dS]at tH fi ⊢;generalize ((Zw true e).map fun s=>[D.v (.string (bs s))])=NS at *;generalize eD (aO p)=NX at *;generalize YU (bl p)=PP at *;generalize cR p=NI at *;generalize ((YQ p).map fun n=>[D.v (.int .i64 n)])=IN at *;generalize (bl p).map ZE=PT at *;generalize p.names.map bk=NN at *;generalize p.ar.map bF=RR at *;refine aq.aI (aw _) func56 rfl rfl (rs:=[.tmp 4,.tmp 5]) results56 (by simp[ntmps56]) fun X=>?_;simp only[ntmps56,List.map];have fw:=@dS.eq_1;refine ab fw [0,1] [] ?_;refine ae fun K1 ay=>?_;refine ab fw [0,1,19] [] ?_;refine af rfl ?_;refine ao (ay _ ?_);refine ab fw [0,1,6] [6] ?_;refine cq fw 6 ?_;refine ae fun K2 aa=>?_;refine rg [0,1,6,28] [] (fun _ _=>trivial) fun K' ah=>?_;(repeat (refine aJ fun K2 aa=>?_;simp[dS];(repeat (refine⟨by omega,?_⟩));refine aa _ ?_;clear aa K2));refine aJ fun K2 aa=>?_;simp[dS];refine bU.data (tH) (by simp;rfl) (by first | exact D.ba _ | simp[aQ,List.map_map,Function.comp_def,D.le,D.le.go,D.le_refl,D.ba,dS]) ?_;refine aa _ ?_;clear aa K2;simp only[au,cw];(repeat (refine aJ fun K2 aa=>?_;simp[dS];(repeat (refine⟨by omega,?_⟩));refine aa _ ?_;clear aa K2));refine aJ fun K2 aa=>?_;simp[dS];refine bU.data (fi) (by simp;rfl) (by first | exact D.ba _ | simp[aQ,List.map_map,Function.comp_def,D.le,D.le.go,D.le_refl,D.ba,dS]) ?_;refine aa _ ?_;clear aa K2;simp only[au,cw];(repeat (refine aJ fun K2 aa=>?_;simp[dS];(repeat (refine⟨by omega,?_⟩));refine aa _ ?_;clear aa K2));refine YZ (ah _ (AW.st (by simp[dS];rfl) ?_));clear ah K';refine YL rfl ?_;refine ab fw [4,5] [] ?_;exact aV fw
theorem M8 {p:YM} {e:Ex} {s:Nat} (h:s < (aO p).length):(gg p e).take (s+1)=(gg p e).take s ++ [fQ p e s]:=by
 have h2:s < (gg p e).length:=by rw[re];exact h
 rw[List.take_succ_eq_append_getElem h2,rb]
theorem Na {p:YM} {e:Ex} {s i:Nat} (h:i < cR p):(fQ p e s).take (i+1)=(fQ p e s).take i ++ [jE p e s i]:=by
 have h2:i < (fQ p e s).length:=by rw[rf];exact h
 rw[List.take_succ_eq_append_getElem h2,wg]
theorem E8 (G:YI) (p:YM) (aS:Y3 p=none) (hk:∀ r∈p.ar,j4 r) (jc:(YQ p).length<=6) (hP:YU (bl p)<=4096) (e:Ex) (hw:cD e) (hb:bE e<=2^28) (fB:jv p e=false):aq prog G 56 [fN p,dE e] (.aT [vN (gg p e),.v .nilIface]):=by
 have gZ:=(ZU aS).names;have tH:=Cf G e hb;have fi:=zg G none (Zw true e) 110 [.ip (cy p)] (fun s=>decide (YW p s < 0)) (by have:=HR hb;omega) (fun s _=>Io G p (by omega) s);have aD:=fun s i=>Uo G aS hw hb fB s i;have Bn:=fun (s i:Nat) (h1:(s:Int) < YU (bl p)) (h2:i < cR p)=>VG G p aS hk s i hP h1 h2;have bA:=fun (s:Nat) (h1:(s:Int) < YU (bl p))=>HH G p aS (YU (bl p)) ((cR p:Nat):Int) (eD (aO p)) s (by omega) (by omega);have b6:=fun l=>Ui G p l;have wN:=fun s (h:s < (aO p).length)=>M8 (e:=e) h;have xb:=fun s i (h:i < cR p)=>Na (e:=e) (s:=s) h;have Y7:=re p e;have Z0:=fun s=>rf p e s;have wx:cR p<=64:=Nat.pow_le_pow_right (n:=2) (by decide) jc;have hlen:=nP p;have nE:0 < YU (bl p):=k9 fun x hx=>(jT (ZU aS) hx).m2
 have hcast:((aO p).length:Int)=YU (bl p):=by rw[hlen];omega
 have oM:(aO p).length<=4096:=by omega
 unfold jv at fB;rw[fB]at fi;obtain⟨ta,ca,he⟩:=dX e;simp only[he,fN,jz,lv,cA,cy,cz,cu,iA,eG,YG,dS,vN,eW,sG,kN,iQ,<- hcast]at tH fi aD Bn bA b6 ⊢;clear hlen hcast nE hP;generalize ((Zw true e).map fun s=>[D.v (.string (bs s))])=NS at *;generalize NK:gg p e=GD at *;generalize NL:fQ p e=GR at *;clear NK NL;generalize eD (aO p)=NX at *;generalize (aO p).length=N at *;obtain⟨IS,Fv⟩:∃ IS:Nat->Nat->List Bool,∀ s i:Nat,(jB p (fY p s) (dO (i:Int) (YQ p).length)).is=IS s i:=⟨_,fun _ _=>rfl⟩;obtain⟨WS,FQ⟩:∃ WS:Nat->List Bool,∀ s:Nat,(fY p s).is=WS s:=⟨_,fun _=>rfl⟩;obtain⟨CS,hCS⟩:∃ CS:Nat->List Int,∀ s:Nat,(fY p s).ct=CS s:=⟨_,fun _=>rfl⟩;obtain⟨EV,sW⟩:∃ EV:Nat->Nat->Bool,∀ s i:Nat,jE p e s i=EV s i:=⟨_,fun _ _=>rfl⟩;simp only[Fv,FQ,hCS,sW]at aD Bn bA xb;clear Fv FQ hCS sW;generalize cR p=NI at *;generalize ((YQ p).map fun n=>[D.v (.int .i64 n)])=IN at *;generalize (bl p).map ZE=PT at *;generalize p.names.map bk=NN at *;generalize p.ar.map bF=RR at *;refine aq.aI (aw _) func56 rfl rfl (rs:=[.tmp 4,.tmp 5]) results56 (by simp[ntmps56]) fun X=>?_;simp only[ntmps56,List.map];have fw:=@dS.eq_1;refine ab fw [0,1] [] ?_;refine ae fun K1 ay=>?_;refine ab fw [0,1,19] [] ?_;refine af rfl ?_;refine ao (ay _ ?_);refine ab fw [0,1,6] [6] ?_;refine cq fw 6 ?_;refine ae fun K2 aa=>?_;refine rg [0,1,6,28] [] (fun _ _=>trivial) fun K' ah=>?_;(repeat (refine aJ fun K2 aa=>?_;simp[dS];(repeat (refine⟨by omega,?_⟩));refine aa _ ?_;clear aa K2));refine aJ fun K2 aa=>?_;simp[dS];refine bU.data (tH) (by simp;rfl) (by first | exact D.ba _ | simp[aQ,List.map_map,Function.comp_def,D.le,D.le.go,D.le_refl,D.ba,dS]) ?_;refine aa _ ?_;clear aa K2;simp only[au,cw];(repeat (refine aJ fun K2 aa=>?_;simp[dS];(repeat (refine⟨by omega,?_⟩));refine aa _ ?_;clear aa K2));refine aJ fun K2 aa=>?_;simp[dS];refine bU.data (fi) (by simp;rfl) (by first | exact D.ba _ | simp[aQ,List.map_map,Function.comp_def,D.le,D.le.go,D.le_refl,D.ba,dS]) ?_;refine aa _ ?_;clear aa K2;simp only[au,cw];(repeat (refine aJ fun K2 aa=>?_;simp[dS];(repeat (refine⟨by omega,?_⟩));refine aa _ ?_;clear aa K2));refine YZ (ah _ (AW.st (by simp[dS];rfl) ?_));clear ah K';refine af rfl ?_;refine ao (aa _ ?_);refine ab fw [0,1,6,7] [] ?_;refine ae fun K3 YS=>?_;refine ab fw [0,1,6,7,33,34] [] ?_;refine Zb (S:=Nat) (fun s=>s<=N) (fun s=>⟨aZ [(0,.d (.ip [.sl none NN,.sl none RR,.v (.int .i64 N),.v (.int .i64 NI),.sl none NX,.sl none PT,.sl none IN])),(1,.d (.bh ta ca)),(6,.d (.ip [.sl none NN,.sl none RR])),(7,.own 800 0 s),(33,int N),(34,int s)],YH [(800,.sl 55 1 ((GD.take s).map fun x=>[.sl none (x.map fun b=>[.v (.bool b)])]))]⟩) (fun s=>N - s) 0 ?_ (by omega) ?_
 .refine (aC.lu 7 800 55 1 rfl rfl).trans ?_;refine bz fw
 .intro s hs
  have wu:((GD.take s).map fun x=>[D.sl none (x.map fun b=>[D.v (.bool b)])]).length=s:=by simp;omega
  have Ge:=wN s;generalize rj:GD.take s=GS at wu Ge ⊢;refine ab fw [0,1,6,7,33,34,35] [800] ?_;refine ae fun K4 Y4=>?_;by_cases YJ:s < N
  .refine YL (by simp<;>omega) ?_;refine ao (Y4 _ ?_);refine ae fun K5 b8=>?_;refine YR ?_;have Qn:=bA s (by omega);have Qh:=fun i=>Bn s i (by omega);have tm:=aD s;have tS:=xb s;have w8:=Z0 s;have O8:=Ge YJ;have Oq:=b6 (WS s);generalize IS s=Dz at *;generalize WS s=WW at *;generalize CS s=CC at *;generalize EV s=EE at *;generalize GR s=RS at *;refine ab fw [0,1,6,7,8,33,34] [800] ?_;refine aP fw Qn [0,1,6,7,8,9,33,34] [800] ?_;refine ab fw [0,1,6,7,8,9,10,33,34] [800] ?_;refine ae fun K6 dD=>?_;refine ab fw [0,1,6,7,8,9,10,33,34,44,45] [800] ?_;refine Zb (S:=Nat) (fun i=>i<=NI) (fun i=>⟨aZ [(0,.d (.ip [.sl none NN,.sl none RR,.v (.int .i64 N),.v (.int .i64 NI),.sl none NX,.sl none PT,.sl none IN])),(1,.d (.bh ta ca)),(6,.d (.ip [.sl none NN,.sl none RR])),(7,.own 800 0 s),(8,int s),(9,.d (.sl none (WW.map fun b=>[.v (.bool b)]))),(10,.own 902 0 i),(33,int N),(34,int s),(44,int NI),(45,int i)],YH [(800,.sl 55 1 (GS.map fun x=>[.sl none (x.map fun b=>[.v (.bool b)])])),(902,.sl 4 1 ((RS.take i).map fun b=>[.v (.bool b)]))]⟩) (fun i=>NI - i) 0 ?_ (by omega) ?_
   .refine (aC.lu 10 902 4 1 rfl rfl).trans ?_;refine bz fw
   .intro i hi;have tQ:=tS i
    have b9:((RS.take i).map fun b=>[D.v (.bool b)]).length=i:=by simp;omega
    generalize kQ:RS.take i=RI at tQ b9 ⊢;refine ab fw [0,1,6,7,8,9,10,33,34,44,45,46] [800,902] ?_;refine ae fun K7 dY=>?_;by_cases eI:i < NI
    .refine YL (by simp<;>omega) ?_;refine ao (dY _ ?_);refine ae fun K8 Zl=>?_;refine YR ?_;have tR:=tQ eI;have Qi:=Qh i eI;have O1:=tm i;have Ot:=b6 (Dz i);generalize Dz i=II at *;generalize EE i=ee at *;refine ab fw [0,1,6,7,8,9,10,11,33,34,44,45] [800,902] ?_;refine aP fw Qi [0,1,6,7,8,9,10,12,13,33,34,44,45] [800,902] ?_;refine ae fun K9 hK9=>?_;refine ab fw [0,1,6,7,8,9,10,12,33,34,44,45,56] [800,902] ?_;refine af rfl ?_;refine ao (hK9 _ ?_);refine vk (aw _) (by kernel_rfl) ([(10,(902,67))]) ([]) (List.range 12) (by kernel_rfl) fun K' ah=>?_;(repeat (refine kF rfl fun K2 aa=>?_;simp[dS,b9,List.take_of_length_le];(repeat (refine⟨by omega,?_⟩));refine aa _ ?_;clear aa K2));refine kF rfl fun K2 aa=>?_;simp[dS,b9,List.take_of_length_le];refine kc.mk (Ot) (by simp;rfl) (by simp;rfl) (by first | exact D.ba _ | simp[aQ,List.map_map,Function.comp_def,D.le,D.le.go,D.le_refl,D.ba,dS,b9,List.take_of_length_le]) (by simp) ?_;refine aa _ ?_;clear aa K2;simp only[au,cw];(repeat (refine kF rfl fun K2 aa=>?_;simp[dS,b9,List.take_of_length_le];(repeat (refine⟨by omega,?_⟩));refine aa _ ?_;clear aa K2));refine kF rfl fun K2 aa=>?_;simp[dS,b9,List.take_of_length_le];refine kc.mk (Oq) (by simp;rfl) (by simp;rfl) (by first | exact D.ba _ | simp[aQ,List.map_map,Function.comp_def,D.le,D.le.go,D.le_refl,D.ba,dS,b9,List.take_of_length_le]) (by simp) ?_;refine aa _ ?_;clear aa K2;simp only[au,cw];(repeat (refine kF rfl fun K2 aa=>?_;simp[dS,b9,List.take_of_length_le];(repeat (refine⟨by omega,?_⟩));refine aa _ ?_;clear aa K2));refine kF rfl fun K2 aa=>?_;simp[dS,b9,List.take_of_length_le];refine kc.mk (O1) (by simp;rfl) (by simp;rfl) (by first | exact D.ba _ | simp[aQ,List.map_map,Function.comp_def,D.le,D.le.go,D.le_refl,D.ba,dS,b9,List.take_of_length_le]) (by simp) ?_;refine aa _ ?_;clear aa K2;simp only[au,cw];(repeat (refine kF rfl fun K2 aa=>?_;simp[dS,b9,List.take_of_length_le];(repeat (refine⟨by omega,?_⟩));refine aa _ ?_;clear aa K2));refine qH (ah _ ?_);clear ah K';refine Zl _ (AW.norm [0,1,6,7,8,9,10,33,34,44,45] [800,902] (fun _ _=>trivial) (AW.st (by simp[dS,b9,List.take_of_length_le];rfl) ?_));refine cf fw ?_;(try simp only[YO,bd]);refine bn.mk (i+1) (by omega) (by omega) ?_;rw[tR];refine bz fw
    .obtain rfl:i=NI:=by omega
     have Ac:RI=RS:=by rw[<- kQ];exact List.take_of_length_le (by omega)
     subst Ac;refine af (by simp) ?_;refine bY (dD _ ?_);refine AW.imp (aC.freeze 902 trivial) ?_;refine AW.st (by simp[dS,b9,List.take_of_length_le];rfl) ?_;refine ff (aw _) fun K' ah=>?_;(repeat (refine aJ fun K2 aa=>?_;simp[dS,wu,List.take_of_length_le];(repeat (refine⟨by omega,?_⟩));refine aa _ ?_;clear aa K2));refine YZ (ah _ ?_);clear ah K';refine b8 _ (AW.norm [0,1,6,7,33,34] [800] (fun _ _=>trivial) (AW.st (by simp[dS,wu,List.take_of_length_le];rfl) ?_));refine cf fw ?_;(try simp only[YO,bd]);refine bn.mk (s+1) (by omega) (by omega) ?_;rw[O8];refine bz fw
  .obtain rfl:s=N:=by omega
   have NM:GS=GD:=by rw[<- rj];exact List.take_of_length_le (by omega)
   subst NM;refine af (by simp) ?_;refine bY (YS _ ?_);refine AW.imp (aC.freeze 800 trivial) ?_;refine AW.st (by simp[dS,wu,List.take_of_length_le];rfl) ?_;refine ab fw [4,5] [] ?_;exact aV fw
end Go.Proofs.YtdigkhaofjmgkaaGreatDoor
namespace Go.Av
section
variable {P:Program} {T:Ty} {Mv X:Nat->Prop} {G:YI} {N:Fr} {ops:Array Oper} {σ:St}
def uq:Op->Bool
 | .call { callee:=.builtin .copy,.. }=>true
 | _=>false
theorem zh {o:Oper} (ho:uq o.op=true) {e e':Env} {H:Heap} {c:Prop} {x:AV} {YK:St} (ha:dB o.op e e') (h:wr T G Mv ⟨e,H⟩ o=some (c,x,YK)):YK.env=e/\wr T G Mv ⟨e',H⟩ o=some (c,x,⟨e',YK.H⟩):=by
 obtain⟨dst,op,type,pos,after,guard⟩:=o;dsimp only at ho ha;unfold uq at ho;split at ho
 .rename_i args argTypes;unfold wr at h ⊢;dsimp only at h ⊢
  cases dst with
  | none=>cases h
  | some d=>
   dsimp only at h ⊢;split at h
   .rename_i x0 y0 t t' wz Af;have e1:args = #[x0,y0]:=Array.toList_inj.1 wz;subst e1;have hx:aU G e x0=aU G e' x0:=cI fun t ht=>ha t (by simp[Op.operands,Call.operands,ht]);have hy:aU G e y0=aU G e' y0:=cI fun t ht=>ha t (by simp[Op.operands,Call.operands,ht]);rw[hx,hy]at h;split at h
    .rename_i tt b4
     try rw[b4]
     try dsimp only
     split at h
     .rename_i el hd
      try rw[hd]
      try dsimp only
      split at h
      .rename_i te r off n v h1 h2 h3
       try rw[h1,h2,h3]
       try dsimp only
       split at h
       .rename_i ty sz els news g1 g2
        try rw[g1,g2]
        simp only[Option.some.injEq,Prod.mk.injEq]at h;obtain⟨rfl,rfl,rfl⟩:=h;exact⟨rfl,rfl⟩
       .cases h
      .rename_i te k v h1 h2 h3
       try rw[h1,h2,h3]
       try dsimp only
       split at h
       .rename_i news g1
        try rw[g1]
        simp only[Option.some.injEq,Prod.mk.injEq]at h;obtain⟨rfl,rfl,rfl⟩:=h;exact⟨rfl,rfl⟩
       .cases h
      .cases h
     .cases h
    .cases h
   .cases h
 .cases ho
def yy (P:Program) (T:Ty) (Mv:Nat->Prop) (G:YI) (N:Fr) (cp:List Nat) (ops:Array Oper) (i:Nat) (o:Oper) (σ ag:St):Prop:=
 (cp.contains i=true/\c8 N o/\o.guard=none/\Y0 o.op=none/\Zr o.op=true/\uq o.op=true/\∃ c x YK,wr T G Mv σ o=some (c,x,YK)/\c/\ag=⟨au YK.env o.dst x,YK.H⟩)\/
 (cp.contains i=false/\j7 P T Mv G N [] [] [] [] ops i o σ ag)
def vJ (cp:List Nat) (ops:Array Oper) (i j:Nat) (oi oj:Oper):Bool:=
 if cp.contains i then !cp.contains j && kindOf oj.op == 0 && oi.apart ops oj else if cp.contains j then kindOf oi.op == 0 && oi.apart ops oj else sD [] [] [] ops i j oi oj
theorem Mc (hg:Good P T) (cp:List Nat):Sound P X G N Mv (yy P T Mv G N cp ops) ops:=fun i o ho σ ag h w μ a hi Q K hk=>by
 rcases h with⟨_,hd,bW,hc,hw,_,c,x,YK,h1,h2,rfl⟩ | ⟨_,h⟩
 .refine qF hg ⟨hd,.inl ⟨fZ bW,?_⟩⟩ hi ho hk;unfold iD;simp only[hc];rw[if_pos hw];exact⟨c,x,YK,h1,h2,rfl⟩
 .exact xK hg [] [] [] [] i o ho _ _ h w μ a hi hk
theorem HI {i:Nat} {o:Oper} {σ ag:St} (hk:kindOf o.op=0) (h:j7 P T Mv G N [] [] [] [] ops i o σ ag):c8 N o/\o.guard=none/\∃ x,Ex P T Mv G o σ.env σ.H x σ.H/\ag=⟨au σ.env o.dst x,σ.H⟩:=by
 obtain⟨hd,bW,_,h⟩:=h
 rcases h with⟨b,_⟩ | ⟨_,b,_⟩ | ⟨_,_,k1,_,x,H',e1,_,rfl⟩
 .cases b
 .cases b
 .obtain rfl:=e1.keeps (by omega);exact⟨hd,bW,x,e1,rfl⟩
theorem HJ {i:Nat} {o:Oper} {e:Env} {H:Heap} {x:AV} (hk:kindOf o.op=0) (hd:c8 N o) (bW:o.guard=none) (h:Ex P T Mv G o e H x H):j7 P T Mv G N [] [] [] [] ops i o ⟨e,H⟩ ⟨au e o.dst x,H⟩:=
 ⟨hd,bW,(fun r hr=>by cases hr),.inr (.inr ⟨rfl,rfl,by omega,(by simp[jk,List.lookup]),x,H,h,(fun r hr=>by cases hr),rfl⟩)⟩
theorem Md (cp:List Nat):abJ (yy P T Mv G N cp ops) (vJ cp ops) ops:=fun i j oi oj bD bf hc σ YK dh h1 h2=>by
 unfold vJ at hc
 have fact:∀ (ck:oi.apart ops oj=true),(∀ v,dB oj.op (au σ.env oi.dst v) σ.env)/\(∀ v,dB oi.op σ.env (au σ.env oj.dst v))/\_:=fun ck=>
  ⟨fun v t ht=>(eE ck (e:=σ.env) (v:=v)).1 t (fF ht),fun v t ht=>((eE ck (e:=σ.env) (v:=v)).2.1 t (fF ht)).symm,(eE ck (e:=σ.env) (v:=Y2)).2.2⟩
 rcases h1 with⟨ai,di,gi,ci,wi,yi,c,x,τ,w1,cc,rfl⟩ | ⟨ai,h1⟩
 .rw[if_pos ai]at hc;simp only[Bool.and_eq_true,Bool.not_eq_true',beq_iff_eq]at hc;obtain⟨⟨aj,kj⟩,ck⟩:=hc;obtain⟨cE,Zj,aG⟩:=fact ck
  rcases h2 with⟨bj,_⟩ | ⟨_,h2⟩
  .rw[aj]at bj;cases bj
  obtain⟨dj,gj,z,e2,rfl⟩:=HI kj h2;have G1:wr T G Mv ⟨σ.env,σ.H⟩ oi=some (c,x,τ):=w1;obtain⟨he,_⟩:=zh (e':=σ.env) yi (fun t ht=>rfl) G1;rw[he]at e2 ⊢;have e3:Ex P T Mv G oj σ.env σ.H z σ.H:=(e2.congr (by omega) (cE _)).free kj σ.H;refine⟨⟨au σ.env oj.dst z,σ.H⟩,.inr ⟨aj,HJ kj dj gj e3⟩,.inl ⟨ai,di,gi,ci,wi,yi,c,x,_,(zh yi (Zj z) G1).2,cc,?_⟩⟩;dsimp only;rw[dR aG]
 .rw[if_neg (by rw[ai];decide)]at hc
  rcases h2 with⟨bj,dj,gj,cj,wj,yj,c,x,τ,w1,cc,rfl⟩ | ⟨bj,h2⟩
  .rw[if_pos bj]at hc;simp only[Bool.and_eq_true,beq_iff_eq]at hc;obtain⟨ki,ck⟩:=hc;obtain⟨cE,Zj,aG⟩:=fact ck;obtain⟨di,gi,z,e1,rfl⟩:=HI ki h1;obtain⟨he,w2⟩:=zh yj (cE z) w1;refine⟨⟨au σ.env oj.dst x,τ.H⟩,.inl ⟨bj,dj,gj,cj,wj,yj,c,x,_,w2,cc,rfl⟩,.inr ⟨ai,?_⟩⟩;have e3:Ex P T Mv G oi (au σ.env oj.dst x) τ.H z τ.H:=(e1.congr (by omega) (Zj x)).free ki τ.H;rw[he,dR aG];exact HJ ki di gi e3
  .rw[if_neg (by rw[bj];decide)]at hc;obtain⟨dA,f1,f2⟩:=Cd [] [] [] [] i j oi oj bD bf hc σ YK dh h1 h2;exact⟨dA,.inr ⟨bj,f1⟩,.inr ⟨ai,f2⟩⟩
def acK (P:Program) (T:Ty) (Mv:Nat->Prop) (G:YI) (N:Fr) (cp:List Nat) (ops:Array Oper) (i:Nat) (o:Oper) (σ:St) (K:St->Prop):Prop:=
 if cp.contains i=true then c8 N o/\o.guard=none/\Y0 o.op=none/\Zr o.op=true/\uq o.op=true/\match wr T G Mv σ o with
  | some (c,x,YK)=>c/\K ⟨au YK.env o.dst x,YK.H⟩
  | none=>False
 else sc P T Mv G N [] [] [] [] ops i o σ K
def nX (P:Program) (T:Ty) (Mv:Nat->Prop) (G:YI) (N:Fr) (cp:List Nat) (ops:Array Oper) (K:St->Prop):List (Nat×Oper)->St->Prop
 | [],σ=>K σ
 | (i,o) :: rest,σ=>acK P T Mv G N cp ops i o σ (nX P T Mv G N cp ops K rest)
theorem V9 {cp:List Nat} {K:St->Prop}:∀ (l:List Nat) (σ:St),(∀ i∈l,i < ops.size)->nX P T Mv G N cp ops K (YP ops l) σ->∃ aY,K aY/\fX (yy P T Mv G N cp ops) ops l σ aY:=by
 intro l
 induction l with
 | nil=>intro σ _ h;exact⟨σ,h,rfl⟩
 | cons i l ih=>
  intro σ hl h;have hi:=hl i (by simp)
  have ho:ops[i]? = some ops[i]:=by simp[hi]
  have ax:YP ops (i :: l)=(i,ops[i]) :: YP ops l:=by simp[YP,hi]
  rw[ax]at h;have h:acK P T Mv G N cp ops i ops[i] σ (nX P T Mv G N cp ops K (YP ops l)):=h;unfold acK at h;split at h
  .rename_i ha;obtain⟨hd,bW,hc,hw,hy,h⟩:=h;split at h
   .rename_i c x YK h1;obtain⟨YY,h⟩:=h;obtain⟨aY,hk,hr⟩:=ih _ (fun j hj=>hl j (by simp[hj])) h;exact⟨aY,hk,_,ho,_,.inl ⟨ha,hd,bW,hc,hw,hy,c,x,YK,h1,YY,rfl⟩,hr⟩
   .exact h.elim
  .rename_i ha
   have acy:YP ops [i]=[(i,ops[i])]:=by simp[YP,hi]
   have hm:qI P T Mv G N [] [] [] [] ops (nX P T Mv G N cp ops K (YP ops l)) (YP ops [i]) σ:=by rw[acy];exact h
   obtain⟨YK,cQ,o',Zq,vg,hs,ic⟩:=C5 [i] σ (by simpa using hi) (fun r hr=>by cases hr) hm;have ic:vg=YK:=ic;subst ic;obtain⟨aY,hk,hr⟩:=ih _ (fun j hj=>hl j (by simp[hj])) cQ;exact⟨aY,hk,o',Zq,_,.inr ⟨by simpa using ha,hs⟩,hr⟩
theorem Kl (hg:Good P T) (hm:P.follows .mixedOrders=true) (cp:List Nat) (ord:List Nat) {id:Nat} (bp:k8 (vJ cp ops) ord ops=true) {Q:Exit->St->Prop} (h:nX P T Mv G N cp ops (fun ag=>Q .normal ag) (YP ops ord) σ):AW P Mv X G N (.region id ops true) Q σ:=
 acM hm (Mc hg cp) (Md cp) ord bp fun YJ=>V9 ord σ YJ h
theorem Kh (hg:Good P T) (hm:P.follows .mixedOrders=true) (cp:List Nat) (ord:List Nat) {id:Nat} (bp:k8 (vJ cp ops) ord ops=true) {Q:Exit->St->Prop}
  (h:∀ K:St->Prop,(∀ τ:St,Q .normal τ->K τ)->nX P T Mv G N cp ops K (YP ops ord) σ):AW P Mv X G N (.region id ops true) Q σ:=Kl hg hm cp ord bp (h _ fun _ h=>h)
theorem V7 {cp:List Nat} {K:St->Prop} {i:Nat} {l:List Nat} {o:Oper} (ho:ops[i]? = some o) (h:∀ K':St->Prop,(∀ τ,nX P T Mv G N cp ops K (YP ops l) τ->K' τ)->acK P T Mv G N cp ops i o σ K'):nX P T Mv G N cp ops K (YP ops (i :: l)) σ:=by
 have:YP ops (i :: l)=(i,o) :: YP ops l:=by simp[YP,ho]
 rw[this];exact h _ fun _ h=>h
theorem V8 {cp:List Nat} {K:St->Prop} (h:K σ):nX P T Mv G N cp ops K (YP ops []) σ:=h
end
attribute [simp] acK uq
end Go.Av
namespace Go.Av
section
variable {P:Program} {T:Ty} {Mv X:Nat->Prop} {G:YI} {N:Fr} {ops:Array Oper} {σ:St}
def yI (P:Program) (T:Ty) (Mv:Nat->Prop) (G:YI) (N:Fr) (qc:List Nat) (ops:Array Oper) (i:Nat) (o:Oper) (σ ag:St):Prop:=
 (qc.contains i=true/\c8 N o/\o.guard=none/\∃ c g xs y,Y0 o.op=some c/\ZS G σ.env c=some (g,xs)/\HC P G [] g xs σ.H (.d y) σ.H/\ag=⟨au σ.env o.dst (.d y),σ.H⟩)\/
 (qc.contains i=false/\j7 P T Mv G N [] [] [] [] ops i o σ ag)
def vL (qc:List Nat) (ops:Array Oper) (i j:Nat) (oi oj:Oper):Bool:=
 if qc.contains i then !qc.contains j && decide (kindOf oj.op<=1) && oi.apart ops oj else if qc.contains j then decide (kindOf oi.op<=1) && oi.apart ops oj else sD [] [] [] ops i j oi oj
theorem UF (hg:Good P T) (qc:List Nat):Sound P X G N Mv (yI P T Mv G N qc ops) ops:=fun i o ho σ ag h w μ a hi Q K hk=>by
 rcases h with⟨_,hd,bW,c,g,xs,y,hc,ht,gA,rfl⟩ | ⟨_,h⟩
 .have dv:∀ d,o.dst=some d->d < N.n:=fun d e=>by unfold c8 at hd;rw[e]at hd;exact hd
  unfold wpOpIn;simp only[ho];rw[abV hi (fZ bW),if_pos rfl];refine (sP (Mv:=Mv) (K:=fun YK=>YK=⟨au σ.env o.dst (.d y),σ.H⟩) hg hi dv ?_ fun w' ak a' YK e ax aD=>hk w' ak a' (e ▸ ax) aD);unfold ex1;simp only[hc,ht]
  exact (gA Mv X N σ.env (fun r hr=>by cases hr) (fun r hr=>by cases hr)).mono fun x ag ⟨e1,e2⟩=>by rw[e1,e2]
 .exact xK hg [] [] [] [] i o ho _ _ h w μ a hi hk
theorem HL {i:Nat} {o:Oper} {σ ag:St} (hk:kindOf o.op<=1) (h:j7 P T Mv G N [] [] [] [] ops i o σ ag):c8 N o/\o.guard=none/\∃ x,Ex P T Mv G o σ.env σ.H x σ.H/\ag=⟨au σ.env o.dst x,σ.H⟩:=by
 obtain⟨hd,bW,_,h⟩:=h
 rcases h with⟨b,_⟩ | ⟨_,b,_⟩ | ⟨_,_,k1,_,x,H',e1,_,rfl⟩
 .cases b
 .cases b
 .obtain rfl:=e1.keeps (by omega);exact⟨hd,bW,x,e1,rfl⟩
theorem HK {i:Nat} {o:Oper} {e:Env} {H:Heap} {x:AV} (hk:kindOf o.op<=1) (hd:c8 N o) (bW:o.guard=none) (h:Ex P T Mv G o e H x H):j7 P T Mv G N [] [] [] [] ops i o ⟨e,H⟩ ⟨au e o.dst x,H⟩:=
 ⟨hd,bW,(fun r hr=>by cases hr),.inr (.inr ⟨rfl,rfl,by omega,(by simp[jk,List.lookup]),x,H,h,(fun r hr=>by cases hr),rfl⟩)⟩
theorem UG (qc:List Nat):abJ (yI P T Mv G N qc ops) (vL qc ops) ops:=fun i j oi oj bD bf hc σ YK dh h1 h2=>by
 unfold vL at hc;have tg:∀ {o:Oper} {c:Call} {e e':Env},Y0 o.op=some c->dB o.op e e'->ZS G e c=ZS G e' c:=fun {o c e e'} hc ha=>qJ fun t ht=>ha t (by rw[(nK hc).1];exact ht)
 have fact:∀ (ck:oi.apart ops oj=true),(∀ v,dB oj.op (au σ.env oi.dst v) σ.env)/\(∀ v,dB oi.op σ.env (au σ.env oj.dst v))/\_:=fun ck=>
  ⟨fun v t ht=>(eE ck (e:=σ.env) (v:=v)).1 t (fF ht),fun v t ht=>((eE ck (e:=σ.env) (v:=v)).2.1 t (fF ht)).symm,(eE ck (e:=σ.env) (v:=Y2)).2.2⟩
 rcases h1 with⟨ai,di,gi,c,g,xs,y,ci,ti,bQ,rfl⟩ | ⟨ai,h1⟩
 .rw[if_pos ai]at hc;simp only[Bool.and_eq_true,Bool.not_eq_true',decide_eq_true_eq]at hc;obtain⟨⟨aj,kj⟩,ck⟩:=hc;obtain⟨cE,Zj,aG⟩:=fact ck
  rcases h2 with⟨bj,_⟩ | ⟨_,h2⟩
  .rw[aj]at bj;cases bj
  obtain⟨dj,gj,z,e2,rfl⟩:=HL kj h2;have e3:Ex P T Mv G oj σ.env σ.H z σ.H:=e2.congr (by omega) (cE _);refine⟨⟨au σ.env oj.dst z,σ.H⟩,.inr ⟨aj,HK kj dj gj e3⟩,.inl ⟨ai,di,gi,c,g,xs,y,ci,?_,bQ,?_⟩⟩
  .rw[<- tg ci (Zj z)];exact ti
  .dsimp only;rw[dR aG]
 .rw[if_neg (by rw[ai];decide)]at hc
  rcases h2 with⟨bj,dj,gj,c,g,xs,y,cj,tj,bQ,rfl⟩ | ⟨bj,h2⟩
  .rw[if_pos bj]at hc;simp only[Bool.and_eq_true,decide_eq_true_eq]at hc;obtain⟨ki,ck⟩:=hc;obtain⟨cE,Zj,aG⟩:=fact ck;obtain⟨di,gi,z,e1,rfl⟩:=HL ki h1;have e3:Ex P T Mv G oi (au σ.env oj.dst (.d y)) σ.H z σ.H:=e1.congr (by omega) (Zj _);refine⟨⟨au σ.env oj.dst (.d y),σ.H⟩,.inl ⟨bj,dj,gj,c,g,xs,y,cj,?_,bQ,rfl⟩,.inr ⟨ai,?_⟩⟩
   .rw[<- tg cj (cE z)];exact tj
   .dsimp only;rw[dR aG];exact HK ki di gi e3
  .rw[if_neg (by rw[bj];decide)]at hc;obtain⟨dA,f1,f2⟩:=Cd [] [] [] [] i j oi oj bD bf hc σ YK dh h1 h2;exact⟨dA,.inr ⟨bj,f1⟩,.inr ⟨ai,f2⟩⟩
theorem Gq {a b:List (Nat×Row)} (h1:∀ p∈a,List.lookup p.1 a=List.lookup p.1 b) (h2:∀ p∈b,List.lookup p.1 a=List.lookup p.1 b):YH a=YH b:=by
 funext q;unfold YH
 have mB:∀ (l:List (Nat×Row)),(∀ p∈l,p.1≠q)->List.lookup q l=none:=by
  intro l
  induction l with
  | nil=>intro _;rfl
  | cons p l ih=>
   intro h;rw[List.lookup_cons]
   have:(q == p.1)=false:=by
    rw[beq_eq_false_iff_ne];exact fun e=>h p (by simp) e.symm
   rw[this];exact ih fun p hp=>h p (by simp[hp])
 by_cases ha:∃ p∈a,p.1=q
 .obtain⟨p,hp,rfl⟩:=ha;exact h1 p hp
 .by_cases hb:∃ p∈b,p.1=q
  .obtain⟨p,hp,rfl⟩:=hb;exact h2 p hp
  .rw[mB a fun p hp e=>ha ⟨p,hp,e⟩,mB b fun p hp e=>hb ⟨p,hp,e⟩]
def hqK (P:Program) (G:YI) (g:FuncId) (xs:List AV) (σ:St) (dst:Option Tmp) (K:St->Prop):Prop:=∃ y,HC P G [] g xs σ.H (.d y) σ.H/\K ⟨au σ.env dst (.d y),σ.H⟩
theorem hqK.mc {dst:Option Tmp} {K:St->Prop} {fx:List Nat} {g:FuncId} {Z7 xs:List AV} {bg:List (Nat×Row)} {y:D} (hc:MC P G fx g xs (YH bg) (.d y) (YH bg)) (hx:Z7.map (AV.tr (cT (bg.map (·.1))) (Zi (bg.map (·.1))))=xs)
  (hH:∀ p∈bg,(σ.H p.1).map (Row.tr (cT (bg.map (·.1))) (Zi (bg.map (·.1))))=YH bg p.1) (hd:∀ p∈bg,(bg.map (·.1)).contains p.1=true\/σ.H p.1=none) (hm:∀ r∈bg.map (·.1),fx.contains r=false->r∈([]:List Nat))
  (hj:aav (YH bg) (Zg (eh (bg.map (·.1))) (Z6 (bg.map (·.1)) fx) (Z5 (bg.map (·.1)) fx) σ.H)=σ.H)
  (h:K ⟨au σ.env dst (.d y),σ.H⟩):hqK P G g Z7 σ dst K:=by
 refine⟨y,?_,h⟩;have:=HC.mc (mvd:=[]) (H:=σ.H) hc hx hH hd hm;rw[hj]at this;exact this
def u6 (P:Program) (T:Ty) (Mv:Nat->Prop) (G:YI) (N:Fr) (qc:List Nat) (ops:Array Oper) (i:Nat) (o:Oper) (σ:St) (K:St->Prop):Prop:=
 if qc.contains i=true then c8 N o/\o.guard=none/\match Y0 o.op with
  | some c=>match ZS G σ.env c with
   | some (g,xs)=>hqK P G g xs σ o.dst K
   | none=>False
  | none=>False
 else sc P T Mv G N [] [] [] [] ops i o σ K
def abD (P:Program) (T:Ty) (Mv:Nat->Prop) (G:YI) (N:Fr) (qc:List Nat) (ops:Array Oper) (K:St->Prop):List (Nat×Oper)->St->Prop
 | [],σ=>K σ
 | (i,o) :: rest,σ=>u6 P T Mv G N qc ops i o σ (abD P T Mv G N qc ops K rest)
theorem Wf {qc:List Nat} {K:St->Prop}:∀ (l:List Nat) (σ:St),(∀ i∈l,i < ops.size)->abD P T Mv G N qc ops K (YP ops l) σ->∃ aY,K aY/\fX (yI P T Mv G N qc ops) ops l σ aY:=by
 intro l
 induction l with
 | nil=>intro σ _ h;exact⟨σ,h,rfl⟩
 | cons i l ih=>
  intro σ hl h;have hi:=hl i (by simp)
  have ho:ops[i]? = some ops[i]:=by simp[hi]
  have ax:YP ops (i :: l)=(i,ops[i]) :: YP ops l:=by simp[YP,hi]
  rw[ax]at h;have h:u6 P T Mv G N qc ops i ops[i] σ (abD P T Mv G N qc ops K (YP ops l)):=h;unfold u6 at h;split at h
  .rename_i ha;obtain⟨hd,bW,h⟩:=h;split at h
   .rename_i c hc;split at h
    .rename_i g xs ht;obtain⟨y,bQ,h⟩:=h;obtain⟨aY,hk,hr⟩:=ih _ (fun j hj=>hl j (by simp[hj])) h;exact⟨aY,hk,_,ho,_,.inl ⟨ha,hd,bW,c,g,xs,y,hc,ht,bQ,rfl⟩,hr⟩
    .exact h.elim
   .exact h.elim
  .rename_i ha
   have acy:YP ops [i]=[(i,ops[i])]:=by simp[YP,hi]
   have hm:qI P T Mv G N [] [] [] [] ops (abD P T Mv G N qc ops K (YP ops l)) (YP ops [i]) σ:=by rw[acy];exact h
   obtain⟨YK,cQ,o',Zq,vg,hs,ic⟩:=C5 [i] σ (by simpa using hi) (fun r hr=>by cases hr) hm;have ic:vg=YK:=ic;subst ic;obtain⟨aY,hk,hr⟩:=ih _ (fun j hj=>hl j (by simp[hj])) cQ;exact⟨aY,hk,o',Zq,_,.inr ⟨by simpa using ha,hs⟩,hr⟩
theorem Kp (hg:Good P T) (hm:P.follows .mixedOrders=true) (qc:List Nat) (ord:List Nat) {id:Nat} (bp:k8 (vL qc ops) ord ops=true) {Q:Exit->St->Prop} (h:abD P T Mv G N qc ops (fun ag=>Q .normal ag) (YP ops ord) σ):AW P Mv X G N (.region id ops true) Q σ:=
 acM hm (UF hg qc) (UG qc) ord bp fun YJ=>Wf ord σ YJ h
theorem Ku (hg:Good P T) (hm:P.follows .mixedOrders=true) (qc:List Nat) (ord:List Nat) {id:Nat} (bp:k8 (vL qc ops) ord ops=true) {Q:Exit->St->Prop}
  (h:∀ K:St->Prop,(∀ τ:St,Q .normal τ->K τ)->abD P T Mv G N qc ops K (YP ops ord) σ):AW P Mv X G N (.region id ops true) Q σ:=Kp hg hm qc ord bp (h _ fun _ h=>h)
theorem C6 {qc:List Nat} {K:St->Prop} {i:Nat} {l:List Nat} {o:Oper} (ho:ops[i]? = some o) (h:∀ K':St->Prop,(∀ τ,abD P T Mv G N qc ops K (YP ops l) τ->K' τ)->u6 P T Mv G N qc ops i o σ K'):abD P T Mv G N qc ops K (YP ops (i :: l)) σ:=by
 have:YP ops (i :: l)=(i,o) :: YP ops l:=by simp[YP,ho]
 rw[this];exact h _ fun _ h=>h
theorem We {qc:List Nat} {K:St->Prop} (h:K σ):abD P T Mv G N qc ops K (YP ops []) σ:=h
end
attribute [simp] u6
