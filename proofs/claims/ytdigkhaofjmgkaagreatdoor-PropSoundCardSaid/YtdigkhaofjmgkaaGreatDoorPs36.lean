/- Parts. -/
import Derived.Test.YtdigkhaofjmgkaaGreatDoorPs35
set_option linter.unusedSectionVars false
set_option linter.unusedSimpArgs false
set_option linter.unusedVariables false
set_option maxHeartbeats 32000000
set_option maxRecDepth 100000
open Go.Proofs.Tryz
namespace Go.Proofs.YtdigkhaofjmgkaaGreatDoor
open Go.Av
theorem WT {V:Nat} (h:V<=6):IntKind.i64.wrap (2 ^ (min V IntKind.i64.bits))=((2^V:Nat):Int):=by
 have:V=0\/V=1\/V=2\/V=3\/V=4\/V=5\/V=6:=by omega
 rcases this with rfl | rfl | rfl | rfl | rfl | rfl | rfl<;>decide
def jN (n:Nat) (E:List Int):Nat->List Bool
 | 0=>List.replicate n false
 | j+1=>(jN n E j).set (E.getD j 0).toNat true
theorem ux (n:Nat) (E:List Int):∀ j,(jN n E j).length=n
 | 0=>by simp[jN]
 | j+1=>by rw[jN,List.length_set,ux]
theorem I8 {n:Nat} {E:List Int} {i:Nat} (hi:i < n):∀ j,j<=E.length->((jN n E j).getD i false=true↔∃ q,q < j/\(E.getD q 0).toNat=i)
 | 0,_=>by
  rw[jN,qW];exact⟨fun h=>(by cases h),fun ⟨q,hq,_⟩=>absurd hq (by omega)⟩
 | j+1,hj=>by
  rw[jN];by_cases e:(E.getD j 0).toNat=i
  .rw[<- e,gK (by rw[ux];omega)];exact⟨fun _=>⟨j,by omega,rfl⟩,fun _=>rfl⟩
  .rw[Zr e,I8 hi j (by omega)];constructor
   .rintro⟨q,hq,h⟩;exact⟨q,by omega,h⟩
   .rintro⟨q,hq,h⟩;refine⟨q,Classical.byContradiction fun hn=>?_,h⟩
    obtain rfl:q=j:=by omega
    exact e h
theorem Vq (p:Yy):jN p.names.length (ez p p.names.length) (ez p p.names.length).length=p.names.map (Z2 p):=by
 refine zh (d:=false) (by rw[ux];simp) fun i hi=>?_;rw[ux]at hi
 have e1:(p.names.map (Z2 p)).getD i false=Z2 p p.names[i]:=by rw[cD (by simpa using hi)];simp
 rw[e1];have h:=I8 (E:=ez p p.names.length) hi _ (Nat.le_refl _)
 have h2:(∃ q,q < (ez p p.names.length).length/\((ez p p.names.length).getD q 0).toNat=i)↔Z2 p p.names[i]=true:=by
  constructor
  .rintro⟨q,hq,he⟩;rw[cD hq]at he;obtain⟨k,hk,_,hx,ha⟩:=(qx (Nat.le_refl _)).1 (List.getElem_mem hq);rw[hx,Int.toNat_natCast]at he;subst he;exact ha
  .intro ha;obtain⟨q,hq,he⟩:=List.mem_iff_getElem.1 ((qx (x:=(i:Int)) (Nat.le_refl _)).2 ⟨i,hi,hi,rfl,ha⟩);exact⟨q,hq,by rw[cD hq,he];simp⟩
 rw[h2]at h
 cases h3:Z2 p p.names[i] with
 | true=>exact h.2 h3
 | false=>
  cases h4:(jN p.names.length (ez p p.names.length) (ez p p.names.length).length).getD i false with
  | true=>rw[h.1 h4]at h3;cases h3
  | false=>rfl
theorem WN {p:Yy} {q:Nat} (hq:q < (ez p p.names.length).length):∃ i,i < p.names.length/\(ez p p.names.length)[q]=(i:Int):=by
 obtain⟨k,hk,_,hx,_⟩:=(qx (Nat.le_refl _)).1 (List.getElem_mem hq);exact⟨k,hk,hx⟩
theorem ad4 {p:Yy} {s:Nat} (h:s < (aN p).length):ew ((aN p).take (s+1))=ew ((aN p).take s) ++ [[dr (aaL p (aZ p).length s)]]:=by
 rw[List.take_succ_eq_append_getElem h,ew,ew,List.map_append,xn h];rfl
theorem U1 {p:Yy} {m s i:Nat} (h:i < 2 ^ m):(aaL p m s).take (i+1)=(aaL p m s).take i ++ [gU (bk p) (iA p (eV p s) (dv i m))]:=by
 have h':i < (aaL p m s).length:=by rw[uu];exact h
 rw[List.take_succ_eq_append_getElem h',UZ]
theorem ad0 (G:Yt) (p:Yy) (aS:YP p=none) (hk:∀ r∈p.aq,jU r) (ax:(aZ p).length<=6) (hP:bl (bk p)<=4096):ao prog G 15 [cg p] (.aR [jt p (bl (bk p)) ((2 ^ (aZ p).length:Nat):Int) (ew (aN p)),.v .nilIface]):=by
 have hg:=fh aS;have gw:=hg.names;have bR:=G2 G p (Vx aS hk);rw[aS]at bR;have jF:=BJ G p (by omega) 1;have nj:gy p.names 1 p.names.length=aZ p:=rfl;rw[nj]at jF
 have kM:=Hb G p (by omega) (by have:=hg.aq;omega) (fun r hr=>by
  obtain⟨e,he,_,_,hb⟩:=hk r hr
  exact⟨e,he,by omega⟩)
 rw[Ed aS]at kM;have PS:=ux p.names.length (ez p p.names.length);have PR:=Vq p;have Qb:=fun q (hq:q < (ez p p.names.length).length)=>WN hq;have Qc:=fun q (hq:q < (ez p p.names.length).length)=>(show jN p.names.length (ez p p.names.length) (q+1)=(jN p.names.length (ez p p.names.length) q).set ((ez p p.names.length)[q]).toNat true by rw[jN,cD hq]);have c6:jN p.names.length (ez p p.names.length) 0=List.replicate p.names.length false:=rfl;have hwl:=ac9 p p.names.length;have wR:=fun (nx:List (List D)) (n:Nat) (h1:(n:Int) < 4096)=>ad1 G p aS (bl (bk p)) ((2 ^ (aZ p).length:Nat):Int) nx n (by omega) (by omega);have wo:=fun (nx:List (List D)) (n:Nat)=>Ry G p aS (bl (bk p)) ((2 ^ (aZ p).length:Nat):Int) nx n;have bB:=fun (nx:List (List D)) (s:YY) (hs:eN p s)=>RC G p aS (bl (bk p)) ((2 ^ (aZ p).length:Nat):Int) nx s hs hP;have pL:=fun (s:Nat) (i:Nat)=>D5 G p aS hk (eV p s) (rW aS s) (dv i (aZ p).length) (tO _ _);have Ot:=fun (s:Nat) (i:Nat)=>(vq aS (rW aS s) (dv i (aZ p).length)).1;have pG:∀ k (h:k < p.names.length),dP p (k+1)=dP p k ++ partOf p.names[k] (Z2 p p.names[k]) k:=fun k h=>xB h;have eO:=uj p;have zO:dP p p.names.length=bk p:=rfl;have hm2:∀ x∈bk p,2<=x.most:=fun x hx=>(jK hg hx).m2;have PB:=fun k (h:k < (bk p).length)=>SP h;have oD:=fun k=>H6 hm2 k;have hpp:0 < bl (bk p):=aaQ hm2;have eC:=fun k=>(aaQ (l:=(bk p).take k) fun x hx=>hm2 x (List.mem_of_mem_take hx));have wC:=fun s (h:s < (aN p).length)=>ad4 h;have eK:=nB p;have wM:=fun s i (h:i < 2 ^ (aZ p).length)=>U1 (p:=p) (s:=s) h;have hrl:=fun s=>uu p (aZ p).length s;have nu:=WT ax
 have h26:2 ^ (aZ p).length<=64:=by
  have:=Nat.pow_le_pow_right (n:=2) (by omega) ax;omega
 have abu:=hg.count;simp only[mi,ab,j2,iw,dI,dr,aaB]at wR wo bB pL;simp only[cg,b9,YW,ch,aO,jt,cMa,aaB,dr]at jF bR kM pL wR wo bB wC ⊢;generalize aN p=r4 at *;generalize zQ:aaL p (aZ p).length=Dp at *;clear zQ;generalize ez p p.names.length=E at *;generalize jN p.names.length E=SB at *
 have oh:((aZ p).map fun x=>[D.v (.int .i64 x)]).length=(aZ p).length:=by simp
 generalize ((aZ p).map fun x=>[D.v (.int .i64 x)])=IN at *;generalize (aZ p).length=m at *
 have lZ:(p.names.map YE).length=p.names.length:=by simp
 have iX:∀ i (h:i < p.names.length),(p.names.map YE)[i]? = some [.v (.string (bs p.names[i].name)),.v (.int .i64 p.names[i].kind),.v (.int .i64 p.names[i].count)]:=fun i h=>by simp[h,YE,dS]
 generalize p.names.map YE=NN at *;generalize p.aq.map bD=RR at *
 have zE:(E.map fun x=>[D.v (.int .i64 x)]).length=E.length:=by simp
 refine ao.aI (au _) func15 rfl rfl (rs:=[.tmp 2,.tmp 3]) results15 (by simp[ntmps15]) fun X=>?_;simp only[ntmps15,List.map];have fw:=@ab.eq_1;refine Ys fw [1] [1] ?_;refine Y5 fw 1 ?_;refine ae fun K1 Yw=>?_;refine aW fw bR [1,4] [] ?_;refine Ys fw [1,4,19] [] ?_;refine ag rfl ?_;refine ar (Yw _ ?_);refine Uv fw jF [1,5] [25] ?_;refine ae fun K2 aa=>?_
 have oo:¬ (IN.length:Int) > 6:=by omega
 have qf:=(Aq fw @oo);refine aC [1,5,31] [25] ?_;refine ag (by simp<;>omega) ?_;refine ar (aa _ ?_);have qf:=(Aq fw (Aq @shI.eq_1 (Aq @shI.eq_2 (Aq @shI.eq_3 (Aq @oh @nu)))));refine aC [1,5] [25] ?_;refine Ys (Aq fw (Aq @aad.eq_1 (Aq @dW.eq_1 @dW.eq_2))) [1,5,6] [25,45] ?_;refine ae fun K3 bf=>?_;refine aW fw kM [1,5,6,47,48,49] [25,45] ?_;refine cr (S:=Nat) (fun j=>j<=E.length) (fun j=>⟨YB [(1,.d (.ip [.sl none NN,.sl none RR])),(5,.ref 25 0 0),(6,.own 45 0 p.names.length),(47,.d (.sl none (E.map fun x=>[.v (.int .i64 x)]))),(48,int E.length),(49,int j)],ah [(25,.box 48 [.d (.sl none NN),.d (.sl none RR),int 1,int ((2 ^ m:Nat):Int),.d (.sl (some false) []),.d (.sl (some false) []),.d (.sl none IN)]),(45,.sl 4 1 ((SB j).map fun b=>[.v (.bool b)]))]⟩) (fun j=>E.length - j) 0 ?_ (by omega) ?_
 .rw[c6];refine aD.dw (fun _ _=>trivial) (by simp[ab,List.map_replicate,lZ,zE]) (by simp[ab,List.map_replicate,lZ,zE])
 .intro j hj;have PV:=PS j;have Gy:=Qc j;generalize Fk:SB j=B at PV Gy ⊢;refine Ys fw [1,5,6,47,48,49,50] [25,45] ?_;refine ae fun K4 bZ=>?_;refine eM (b:=j < E.length) (by simp[D.le,D.le.go,aQ,ab]) (fun hc=>?_) (fun hc=>?_)
  .refine ar (bZ _ ?_);refine ae fun K5 b4=>?_;refine YF ?_;obtain⟨i,hi,E5⟩:=Qb j hc;have Gz:=Gy hc;rw[E5,Int.toNat_natCast]at Gz
   have dD:i < B.length:=by omega
   have qf:=(Aq fw (Aq @hc @E5));refine aC [1,5,6,8,47,48,49] [25,45] ?_;have qf:=(Aq fw (Aq @dD @hi));refine ZY b4 [1,5,6,47,48,49] [25,45] ?_;refine b8 fw ?_;(try simp only[YC,bd]);refine bo.mk (j+1) (by omega) (by omega) ?_;rw[Gz];refine aD.dw (fun _ _=>trivial) (by simp[ab,List.map_set]) (by simp[ab,List.map_set])
  .obtain rfl:j=E.length:=by omega
   rw[PR]at Fk;subst Fk;refine bY (bf _ ?_);refine ae fun K6 dB=>?_;refine Ys fw [1,5,6,58,59,60] [25,45] ?_;refine cr (S:=Nat) (fun k=>k<=p.names.length) (fun k=>⟨YB [(1,.d (.ip [.sl none NN,.sl none RR])),(5,.ref 25 0 0),(6,.own 45 0 p.names.length),(58,.d (.sl none NN)),(59,int NN.length),(60,int k)],ah [(25,.box 48 [.d (.sl none NN),.d (.sl none RR),int 1,int ((2 ^ m:Nat):Int),.d (.sl (some false) []),.own 801 0 (dP p k).length,.d (.sl none IN)]),(45,.sl 4 1 ((p.names.map (Z2 p)).map fun b=>[.v (.bool b)])),(801,.sl 134 3 ((dP p k).map eo))]⟩) (fun k=>p.names.length - k) 0 ?_ (by omega) ?_
   .refine (aD.po 25 5 801 134 3 rfl rfl rfl).trans ?_;refine bz (Aq fw (Aq @dP.eq_1 @dP.eq_2))
   .intro k hkk;have sP:=pG k;have NB:=eO k
    have sO:((dP p k).map eo).length=(dP p k).length:=by simp
    generalize gL:dP p k=PK at sP NB sO ⊢;refine Ys fw [1,5,6,58,59,60,61] [25,45,801] ?_;refine ae fun K7 Zl=>?_;by_cases Yv:k < p.names.length
    .have bU:k < NN.length:=by omega
     have fy:(k:Int) < (NN.length:Int):=by omega
     refine Yx (by simp<;>omega) ?_;refine ar (Zl _ ?_);refine ae fun K8 cU=>?_;refine YF ?_;have Zx:=sP Yv;have iZ:=abu _ (List.getElem_mem Yv)
     have pD:NN[k]=[.v (.string (bs p.names[k].name)),.v (.int .i64 p.names[k].kind),.v (.int .i64 p.names[k].count)]:=by
      have:=iX k Yv;rw[List.getElem?_eq_getElem bU]at this;exact Option.some.inj this
     unfold partOf at Zx;generalize F8:p.names[k]=nk at Zx pD iZ;obtain⟨nm,kd,ct⟩:=nk;dsimp only at Zx pD iZ
     have FJ:Z2 p p.names[k]=Z2 p ⟨nm,kd,ct⟩:=by rw[F8]
     generalize aB:Z2 p ⟨nm,kd,ct⟩=ev at *;have qf:=(Aq fw (Aq @bU @pD));refine aC [1,5,6,9,10,58,59,60] [25,45,801,10] ?_;refine Y5 fw 10 ?_;refine YF ?_;by_cases k2:kd=2
     .subst k2;rw[if_pos (.inl rfl)]at Zx;refine Ys fw [1,5,6,9,10,58,59,60,65] [25,45,801] ?_;refine Yx rfl ?_;refine ZD (au _) fun K' Yu=>?_;(repeat (refine aP fun K2 aa=>?_;simp[ab,List.take_of_length_le];(repeat (refine⟨by omega,?_⟩));refine aa _ ?_;clear aa K2));refine YM (Yu _ ?_);clear Yu K';refine cU _ (AW.norm [1,5,6,58,59,60] [25,45,801] (fun _ _=>trivial) (AW.st (by simp[ab,List.take_of_length_le];rfl) ?_));refine b8 fw ?_;(try simp only[YC,bd]);refine bo.mk (k+1) (by omega) (by omega) ?_;rw[Zx];refine bz (Aq fw @eo.eq_1)
     .by_cases k1:kd=1
      .subst k1
       cases ev with
       | true=>
        rw[if_pos (.inr ⟨rfl,rfl⟩)]at Zx;have qf:=(Aq fw (Aq @Yv @FJ));refine aC [1,5,6,9,10,58,59,60,65] [25,45,801] ?_;refine Yx rfl ?_;refine ZD (au _) fun K' Yu=>?_;(repeat (refine aP fun K2 aa=>?_;simp[ab,List.take_of_length_le];(repeat (refine⟨by omega,?_⟩));refine aa _ ?_;clear aa K2));refine YM (Yu _ ?_);clear Yu K';refine cU _ (AW.norm [1,5,6,58,59,60] [25,45,801] (fun _ _=>trivial) (AW.st (by simp[ab,List.take_of_length_le];rfl) ?_));refine b8 fw ?_;(try simp only[YC,bd]);refine bo.mk (k+1) (by omega) (by omega) ?_;rw[Zx];refine bz (Aq fw @eo.eq_1)
       | false=>
        rw[if_neg (by simp),if_neg (by simp),List.append_nil]at Zx;have qf:=(Aq fw (Aq @Yv @FJ));refine aC [1,5,6,9,10,58,59,60,65] [25,45,801] ?_;refine ag rfl ?_;refine Ys fw [1,5,6,9,10,58,59,60,91] [25,45,801] ?_;refine ag rfl ?_;refine ar ?_;refine cU _ (AW.norm [1,5,6,58,59,60] [25,45,801] (fun _ _=>trivial) (AW.st (by simp[ab];rfl) ?_));refine b8 fw ?_;(try simp only[YC,bd]);refine bo.mk (k+1) (by omega) (by omega) ?_;rw[Zx];refine bz fw
      .rw[if_neg (by simp[k1,k2]),if_pos k1]at Zx;have qf:=(Aq fw (Aq @k1 @k2));refine aC [1,5,6,9,10,58,59,60,65] [25,45,801] ?_;refine ag (by simp[k1,k2]) ?_;have qf:=(Aq fw @k1);refine aC [1,5,6,9,10,58,59,60,91] [25,45,801] ?_;refine Yx (by simp[k1]) ?_;refine uV (au _) (by kernel_rfl) ([(11,(801,105))]) ([(0,[801])]) ([0,1,2,3,4,5,6,7,8,9,10,11,12,13,14]) (by kernel_rfl) fun K' Yu=>?_;(repeat (refine gg rfl fun K2 aa=>?_;simp[ab,List.take_of_length_le];(repeat (refine⟨by omega,?_⟩));refine aa _ ?_;clear aa K2));refine o6 (Yu _ ?_);clear Yu K';refine cU _ (AW.norm [1,5,6,58,59,60] [25,45,801] (fun _ _=>trivial) (AW.st (by simp[ab,List.take_of_length_le];rfl) ?_));refine b8 fw ?_;(try simp only[YC,bd]);refine bo.mk (k+1) (by omega) (by omega) ?_;rw[Zx];refine bz (Aq fw @eo.eq_1)
    .have fy:¬ (k:Int) < (NN.length:Int):=by omega
     obtain rfl:k=p.names.length:=by omega
     rw[zO]at gL;subst gL;refine ag (by simp<;>omega) ?_;refine bY (dB _ ?_);refine AW.imp (aD.freeze 801 trivial) ?_;refine AW.st (by simp[ab,sO,List.take_of_length_le];rfl) ?_;refine ae fun K9 iD=>?_
     have Xd:((bk p).map eo).length=(bk p).length:=by simp
     have adJ:∀ i (h:i < (bk p).length),((bk p).map eo)[i]? = some [.v (.int .i64 (bk p)[i].nm),.v (.int .i64 (bk p)[i].most),.v (.bool (bk p)[i].far)]:=fun i h=>by simp[h,eo]
     generalize zM:bk p=bG at *;generalize bG.map eo=PT at *;refine Ys fw [1,5,113,114,115] [25] ?_;refine cr (S:=Nat) (fun k=>k<=bG.length) (fun k=>⟨YB [(1,.d (.ip [.sl none NN,.sl none RR])),(5,.ref 25 0 0),(113,.d (.sl none PT)),(114,int PT.length),(115,int k)],ah [(25,.box 48 [.d (.sl none NN),.d (.sl none RR),int (bl (bG.take k)),int ((2 ^ m:Nat):Int),.d (.sl (some false) []),.d (.sl none PT),.d (.sl none IN)])]⟩) (fun k=>bG.length - k) 0 ?_ (by omega) ?_
     .refine bz (Aq fw (Aq @bl.eq_1 @bl.eq_2))
     .intro k hkk;have hq:=PB k;have PE:=oD (k+1);have lH:=eC k;have PF:=oD k;generalize hQ:bl (bG.take k)=Q at hq lH PF ⊢;refine Ys fw [1,5,113,114,115,116] [25] ?_;refine ae fun qE jA=>?_;by_cases Yv:k < bG.length
      .have bU:k < PT.length:=by omega
       have fy:(k:Int) < (PT.length:Int):=by omega
       refine Yx (by simp<;>omega) ?_;refine ar (jA _ ?_);refine ae fun Dl sK=>?_;refine YF ?_;have hq1:=hq Yv;have GC:=hm2 _ (List.getElem_mem Yv)
       have gL:PT[k]=[.v (.int .i64 bG[k].nm),.v (.int .i64 bG[k].most),.v (.bool bG[k].far)]:=by
        have:=adJ k Yv;rw[List.getElem?_eq_getElem bU]at this;exact Option.some.inj this
       generalize bG[k]=x at gL hq1 GC;obtain⟨xi,M,fa⟩:=x;dsimp only at gL hq1 GC;rw[hq1]at PE;have Fi:0 < Q * M:=Int.mul_pos lH (by omega)
       have NG:¬ Q * M > 4096:=by omega
       have qf:=(Aq fw (Aq @bU @gL));refine aC [1,5,12,113,114,115] [25,12] ?_;refine Y5 fw 12 ?_;refine JY (au _) (by kernel_rfl) [(3,25),(5,999),(9,25)] [1,5,113,114,115] [25] (fun _ _=>trivial) (by kernel_rfl) fun K' Yu=>?_;(repeat (refine nL fun K2 aa=>?_;simp[ab,Fi];(repeat (refine⟨by omega,?_⟩));refine aa _ ?_;clear aa K2));refine nM (Yu _ ?_);refine AW.st (by simp[ab,Fi];rfl) ?_;clear Yu K';have qf:=(Aq fw @NG);refine aC [1,5,113,114,115,132] [25] ?_;refine ag (by simp<;>omega) ?_;refine ar (sK _ ?_);refine b8 fw ?_;(try simp only[YC,bd]);refine bo.mk (k+1) (by omega) (by omega) ?_;rw[hq1];refine bz fw
      .have fy:¬ (k:Int) < (PT.length:Int):=by omega
       refine ag (by simp<;>omega) ?_;refine bY (iD _ ?_);rw[List.take_of_length_le (by omega)]at hQ;refine ae fun Kg zI=>?_;obtain⟨S,hS⟩:∃ S:Nat,bl bG=(S:Int):=Int.eq_ofNat_of_zero_le (by omega);rw[hS]at eK hP wR wo bB hQ ⊢;rw[Int.toNat_natCast]at eK;subst hQ;refine Ys fw [1,5,138,139] [25] ?_;refine cr (S:=Nat) (fun s=>s<=S) (fun s=>⟨YB [(1,.d (.ip [.sl none NN,.sl none RR])),(5,.ref 25 0 0),(138,int S),(139,int s)],ah [(25,.box 48 [.d (.sl none NN),.d (.sl none RR),int S,int ((2 ^ m:Nat):Int),.own 800 0 s,.d (.sl none PT),.d (.sl none IN)]),(800,.sl 46 1 (ew (r4.take s)))]⟩) (fun s=>S - s) 0 ?_ (by omega) ?_
       .refine (aD.po 25 4 800 46 1 rfl rfl rfl).trans ?_;refine bz (Aq fw @ew.eq_1)
       .intro s PY;have pX:=wC s
        have iY:(ew (r4.take s)).length=s:=by rw[xt,List.length_take];omega
        have Fc:s=S->ew (r4.take s)=ew r4:=fun e=>by rw[List.take_of_length_le (by omega)]
        generalize ew (r4.take s)=NX at pX iY Fc ⊢;refine Ys fw [1,5,138,139,140] [25,800] ?_;refine ae fun Kh zJ=>?_;refine eM (b:=s < S) (by simp[D.le,D.le.go,aQ,ab]) (fun hc=>?_) (fun hc=>?_)
        .refine ar (zJ _ ?_);refine ae fun WX Nn=>?_;refine YF ?_;have F9:=pX (by omega);have wS:=wR NX s (by omega);have OT:=wo NX;have FF:=pL s;have Ga:=fun i=>bB NX _ (Ot s i);have ach:=fun i h=>wM s i h;have Gj:=hrl s;generalize A9:eV p s=Jf at wS FF Ga ach;generalize zS:Dp s=RS at F9 ach Gj;refine Ys fw [1,5,13,138,139] [25,800] ?_;refine Ys fw [1,5,13,14,138,139] [25,800] ?_;refine ae fun WY Np=>?_;refine Ys fw [1,5,13,14,138,139,145,146] [25,800] ?_;refine cr (S:=Nat) (fun i=>i<=2 ^ m) (fun i=>⟨YB [(1,.d (.ip [.sl none NN,.sl none RR])),(5,.ref 25 0 0),(13,int s),(14,.own 902 0 i),(138,int S),(139,int s),(145,int ((2 ^ m:Nat):Int)),(146,int i)],ah [(25,.box 48 [.d (.sl none NN),.d (.sl none RR),int S,int ((2 ^ m:Nat):Int),.own 800 0 s,.d (.sl none PT),.d (.sl none IN)]),(800,.sl 46 1 NX),(902,.sl 3 1 ((RS.take i).map fun x=>[.v (.int .i64 x)]))]⟩) (fun i=>2 ^ m - i) 0 ?_ (by omega) ?_
         .refine (aD.kD 14 902 3 1 rfl rfl).trans ?_;refine bz fw
         .intro i gN;have tw:=ach i
          have b7:((RS.take i).map fun x=>[D.v (.int .i64 x)]).length=i:=by simp;omega
          generalize kL:RS.take i=RI at tw b7 ⊢;refine Ys fw [1,5,13,14,138,139,145,146,147] [25,800,902] ?_;refine ae fun WZ Nq=>?_;by_cases Zz:i < 2 ^ m
          .have OR:(i:Int) < ((2 ^ m:Nat):Int):=by exact_mod_cast Zz
           refine Yx (by simpa using OR) ?_;refine ar (Nq _ ?_);refine ae fun W0 Nr=>?_;refine YF ?_;have acg:=tw Zz;have Ax:=OT i;have vZ:=FF i;have acd:=Ga i;generalize iA p Jf (dv i m)=d1 at vZ acd acg;generalize dv i m=ib at Ax vZ;generalize gU bG d1=v1 at acd acg;obtain⟨I1,C1⟩:=Jf;obtain⟨I2,C2⟩:=d1;dsimp only at wS vZ acd;rw[iY]at wS Ax acd;refine Ys fw [1,5,13,14,15,138,139,145,146] [25,800,902] ?_;refine J9 (au _) (by kernel_rfl) ([12]) ([]) ([5,8,10]) ([(2,.d (.ip [.sl none NN,.sl none RR]))]) (List.range 14) (by kernel_rfl) fun K' Yu=>?_;(repeat (refine nH rfl fun K2 aa=>?_;simp[ab,b7,List.take_of_length_le];(repeat (refine⟨by omega,?_⟩));refine aa _ ?_;clear aa K2));refine nH rfl fun K2 aa=>?_;simp[ab,b7,List.take_of_length_le];refine q4.mc (wS) (by simp[ab,b7,List.take_of_length_le]) (by simp[ab,b7,List.take_of_length_le]) (by simp[ab,b7,List.take_of_length_le]) (by simp[ab,b7,List.take_of_length_le]) (by simp[ab,b7,List.take_of_length_le]) (by simp[ab,b7,List.take_of_length_le]) (by simp[fG,ab,b7,List.take_of_length_le]) ?_;simp[ab,b7,List.take_of_length_le];refine aa _ ?_;clear aa K2;(repeat (refine nH rfl fun K2 aa=>?_;simp[ab,b7,List.take_of_length_le];(repeat (refine⟨by omega,?_⟩));refine aa _ ?_;clear aa K2));refine nH rfl fun K2 aa=>?_;simp[ab,b7,List.take_of_length_le];refine q4.mc (Ax) (by simp[ab,b7,List.take_of_length_le]) (by simp[ab,b7,List.take_of_length_le]) (by simp[ab,b7,List.take_of_length_le]) (by simp[ab,b7,List.take_of_length_le]) (by simp[ab,b7,List.take_of_length_le]) (by simp[ab,b7,List.take_of_length_le]) (by simp[fG,ab,b7,List.take_of_length_le]) ?_;simp[ab,b7,List.take_of_length_le];refine aa _ ?_;clear aa K2;(repeat (refine nH rfl fun K2 aa=>?_;simp[ab,b7,List.take_of_length_le];(repeat (refine⟨by omega,?_⟩));refine aa _ ?_;clear aa K2));refine nH rfl fun K2 aa=>?_;simp[ab,b7,List.take_of_length_le];refine aaj.mk (vZ) (by simp;rfl) (by simp;rfl) (by first | exact D.YG _ | simp[aQ,List.map_map,Function.comp_def,D.le,D.le.go,D.le_refl,D.YG,ab,b7,List.take_of_length_le]) (by simp) ?_;refine aa _ ?_;clear aa K2;simp only[aw,cJ];(repeat (refine nH rfl fun K2 aa=>?_;simp[ab,b7,List.take_of_length_le];(repeat (refine⟨by omega,?_⟩));refine aa _ ?_;clear aa K2));refine nH rfl fun K2 aa=>?_;simp[ab,b7,List.take_of_length_le];refine q4.mc (acd) (by simp[ab,b7,List.take_of_length_le]) (by simp[ab,b7,List.take_of_length_le]) (by simp[ab,b7,List.take_of_length_le]) (by simp[ab,b7,List.take_of_length_le]) (by simp[ab,b7,List.take_of_length_le]) (by simp[ab,b7,List.take_of_length_le]) (by simp[fG,ab,b7,List.take_of_length_le]) ?_
           simp[ab,b7,List.take_of_length_le];refine aa _ ?_;clear aa K2;(repeat (refine nH rfl fun K2 aa=>?_;simp[ab,b7,List.take_of_length_le];(repeat (refine⟨by omega,?_⟩));refine aa _ ?_;clear aa K2));refine VM (Yu _ ?_);clear Yu K';refine Nr _ (AW.norm [1,5,13,14,138,139,145,146] [25,800,902] (fun _ _=>trivial) (AW.st (by simp[ab,b7,List.take_of_length_le];rfl) ?_));refine b8 fw ?_;(try simp only[YC,bd]);refine bo.mk (i+1) (by omega) (by omega) ?_;rw[acg];refine bz fw
          .obtain rfl:i=2 ^ m:=by omega
           have zR:RI=RS:=by rw[<- kL];exact List.take_of_length_le (by omega)
           subst zR;refine ag (by simp) ?_;refine bY (Np _ ?_);refine AW.imp (aD.freeze 902 trivial) ?_;refine AW.st (by simp[ab,b7,List.take_of_length_le];rfl) ?_;refine ZD (au _) fun K' Yu=>?_;(repeat (refine aP fun K2 aa=>?_;simp[ab,iY,List.take_of_length_le];(repeat (refine⟨by omega,?_⟩));refine aa _ ?_;clear aa K2));refine YM (Yu _ ?_);clear Yu K';refine Nn _ (AW.norm [1,5,138,139] [25,800] (fun _ _=>trivial) (AW.st (by simp[ab,iY,List.take_of_length_le];rfl) ?_));refine b8 fw ?_;(try simp only[YC,bd]);refine bo.mk (s+1) (by omega) (by omega) ?_;rw[F9];refine bz fw
        .obtain rfl:s=S:=by omega
         obtain rfl:=Fc rfl;refine bY (zI _ ?_);refine AW.imp (aD.freeze 800 trivial) ?_;refine AW.st (by simp[ab,iY,List.take_of_length_le];rfl) ?_;refine Ys fw [2,3] [25] ?_;exact aY (Aq fw @hS)
def cY (p:Yy):Nat:=2 ^ (aZ p).length
def gk (p:Yy):D:=jt p (bl (bk p)) ((cY p:Nat):Int) (ew (aN p))
theorem I7 (G:Yt) (p:Yy) (aS:YP p=none) (hk:∀ r∈p.aq,jU r) (s i:Nat) (hP:bl (bk p)<=4096) (hs:(s:Int) < bl (bk p)) (hi:i < cY p):ao prog G 20 [gk p,ab s,ab i] (.aR [dI (iA p (eV p s) (dv i (aZ p).length)).is,.v .nilIface]):=by
 have bw:=BW G p aS (bl (bk p)) ((cY p:Nat):Int) (ew (aN p)) s (by omega) (by omega);have ax:=Rz G p aS (bl (bk p)) ((cY p:Nat):Int) (ew (aN p)) i;have pL:=D5 G p aS hk (eV p s) (rW aS s) (dv i (aZ p).length) (tO _ _);simp only[gk,jt,cMa,YW,ch,aaB,dr,ab,j2,iw,dI,cg,b9]at bw ax pL ⊢;generalize iA p (eV p s) (dv i (aZ p).length)=d at *;generalize eV p s=t at *;generalize dv i (aZ p).length=ib at *;generalize ew (aN p)=NX at *;generalize bl (bk p)=S at *;generalize cY p=N at *;generalize (aZ p).map (fun n=>[D.v (.int .i64 n)])=IN at *;generalize (bk p).map eo=PT at *;generalize p.names.map YE=NN at *;generalize p.aq.map bD=RR at *;obtain⟨I1,C1⟩:=t;obtain⟨I2,C2⟩:=d;dsimp only at bw pL ⊢
 have h1:¬ S<=(s:Int):=by omega
 have h2:¬ N<=i:=by omega
 have h0:¬ (s:Int) < 0:=by omega
 have h3:¬ (i:Int) < 0:=by omega
 refine ao.aI (au _) func20 rfl rfl (rs:=[.tmp 6,.tmp 7]) results20 (by simp[ntmps20]) fun X=>?_;simp only[ntmps20,List.map];have fw:=@ab.eq_1;refine Ys fw [0,1,2] [] ?_;refine ae fun K1 Yw=>?_;refine Ys fw [0,1,2,9] [] ?_;refine ag rfl ?_;refine ar (Yw _ ?_);refine ae fun K2 aa=>?_;have qf:=(Aq fw (Aq @h0 (Aq @h1 (Aq @h2 @h3))));refine aC [0,1,2,32] [] ?_;refine ag (by simp<;>omega) ?_;refine ar (aa _ ?_);refine aa3 (au _) (by kernel_rfl) [6,7] [] (fun _ _=>trivial) (by kernel_rfl) fun K' Yu=>?_;(repeat (refine e9 fun K2 aa=>?_;simp[ab];(repeat (refine⟨by omega,?_⟩));refine aa _ ?_;clear aa K2));refine e9 fun K2 aa=>?_;simp[ab];refine aak.data (bw) (by simp;rfl) (by simp;rfl) (by first | exact D.YG _ | simp[aQ,List.map_map,Function.comp_def,D.le,D.le.go,D.le_refl,D.YG,ab]) ?_;refine aa _ ?_;clear aa K2;simp only[aw,cJ];(repeat (refine e9 fun K2 aa=>?_;simp[ab];(repeat (refine⟨by omega,?_⟩));refine aa _ ?_;clear aa K2));refine e9 fun K2 aa=>?_;simp[ab];refine aak.data (ax) (by simp;rfl) (by simp;rfl) (by first | exact D.YG _ | simp[aQ,List.map_map,Function.comp_def,D.le,D.le.go,D.le_refl,D.YG,ab]) ?_;refine aa _ ?_;clear aa K2;simp only[aw,cJ];(repeat (refine e9 fun K2 aa=>?_;simp[ab];(repeat (refine⟨by omega,?_⟩));refine aa _ ?_;clear aa K2));refine e9 fun K2 aa=>?_;simp[ab];refine aak.data (pL) (by simp;rfl) (by simp;rfl) (by first | exact D.YG _ | simp[aQ,List.map_map,Function.comp_def,D.le,D.le.go,D.le_refl,D.YG,ab]) ?_;refine aa _ ?_;clear aa K2;simp only[aw,cJ];(repeat (refine e9 fun K2 aa=>?_;simp[ab];(repeat (refine⟨by omega,?_⟩));refine aa _ ?_;clear aa K2));refine nK (Yu _ ?_);refine AW.st (by simp[ab];rfl) ?_;clear Yu K';exact aY fw
def iT (l:List Int):List (Value×D):=l.foldl (fun E k=>jv (.int .i64 k) (.v (.bool true)) E) []
theorem Ea (l:List Int) (k:Int):iT (l ++ [k])=jv (.int .i64 k) (.v (.bool true)) (iT l):=by simp[iT]
theorem QH (a b:Int):dT (.int .i64 a) (.int .i64 b)=decide (a=b):=by
 by_cases h:a=b
 .subst h;simp[dT]
 .simp[dT,h]
theorem Ei {k:Value} {x:D}:∀ {l:List (Value×D)},(∀ p∈l,eE (.int .i64) p.1=true)->eE (.int .i64) k=true->∀ p∈jv k x l,eE (.int .i64) p.1=true
 | [],_,hk,p,hp=>by
  rw[Ej,List.mem_singleton]at hp;subst hp;exact hk
 | q :: l,hl,hk,p,hp=>by
  rw[Eh]at hp;split at hp
  .rcases List.mem_cons.1 hp with rfl | hp
   .exact hk
   .exact hl p (by simp[hp])
  .rcases List.mem_cons.1 hp with rfl | hp
   .exact hl _ (by simp)
   .exact Ei (fun p hp=>hl p (by simp[hp])) hk p hp
theorem y6 (i:Int) (l:List Int):(∀ p∈iT l,eE (.int .i64) p.1=true)/\hU (.int .i64 i) (iT l)=if i∈l then some (.v (.bool true)) else none:=by
 suffices h:∀ (n:Nat) (l:List Int),l.length=n->(∀ p∈iT l,eE (.int .i64) p.1=true)/\hU (.int .i64 i) (iT l)=if i∈l then some (.v (.bool true)) else none from h _ l rfl
 intro n
 induction n with
 | zero=>
  intro l h;obtain rfl:=List.eq_nil_of_length_eq_zero h;exact⟨by simp[iT],rfl⟩
 | succ n ih=>
  intro l h
  have aG:l≠[]:=fun e=>by subst e;cases h
  obtain⟨l',k,rfl⟩:∃ l' k,l=l' ++ [k]:=⟨l.dropLast,l.getLast aG,(List.dropLast_concat_getLast aG).symm⟩;obtain⟨h1,h2⟩:=ih l' (by simpa using h);rw[Ea];refine⟨Ei h1 rfl,?_⟩;rw[Eg (d:=.int .i64) rfl rfl _ h1,h2,QH];by_cases e:i=k
  .subst e;simp
  .simp[e]
def abJ (t:Tx) (most:Int):Option Yy:=match o0 t with
 | none=>none
 | some p=>if 4 < (aZ p).length\/most < bl (bk p) then none else some p
def iQ:Option Yy->D
 | none=>.aR [.v (.pointer none),.v (.bool false)]
 | some p=>.aR [gk p,.v (.bool true)]
theorem adY {t:Tx} {most:Int} {p:Yy} (h:abJ t most=some p):YP p=none/\(∀ r∈p.aq,jU r)/\(aZ p).length<=4/\bl (bk p)<=most:=by
 unfold abJ at h;split at h
 .cases h
 .rename_i q hq;split at h
  .cases h
  .rename_i hn;obtain rfl:=Option.some.inj h;obtain⟨h1,h2⟩:=Ck (Ii hq);exact⟨h1,h2,by omega,by omega⟩
theorem SO {p:Yy} (hg:qD p):∀ {k:Nat},k<=p.names.length->bl (dP p k)<=bl (bk p):=fun {k} hk=>by
 have h:∀ d,k+d<=p.names.length->bl (dP p k)<=bl (dP p (k+d)):=by
  intro d
  induction d with
  | zero=>intro _;exact Int.le_refl _
  | succ d ih=>
   intro hd;have h1:=ih (by omega)
   have hm:∀ x∈dP p (k+d+1),2<=x.most:=fun x hx=>by
    obtain⟨i,hi,_,h2⟩:=(rM (by omega)).1 hx;exact (jK hg ((rM (Nat.le_refl _)).2 ⟨i,hi,hi,h2⟩)).m2
   have e:dP p (k+d+1)=dP p (k+d) ++ partOf p.names[k+d] (Z2 p p.names[k+d]) (k+d):=xB (by omega);have h3:=H6 hm (dP p (k+d)).length;rw[e,List.take_left]at h3;rw[<- Nat.add_assoc,e];omega
 have:=h (p.names.length - k) (by omega);rw[show k+(p.names.length - k)=p.names.length from by omega]at this;exact this
theorem WO {p:Yy} {k:Nat} (hk:k < p.names.length):((k:Int)∈ez p p.names.length)↔Z2 p p.names[k]=true:=by
 rw[qx (Nat.le_refl _)];constructor
 .rintro⟨i,hi,_,he,ha⟩
  obtain rfl:k=i:=by omega
  exact ha
 .intro ha;exact⟨k,hk,hk,rfl,ha⟩
theorem Hg (G:Yt) (hM:nU G) (hP:nV G) (hG:mD G) {es er:Value} (hE:ph G es er) (t:Tx) (most:Int) (h1:1<=most) (h2:most<=4096):ao prog G 34 [dS t,ab most] (iQ (abJ t most)):=by
 have bq:=QP G hM hP hG hE t;unfold abJ;simp only[dS]at bq ⊢
 cases pZ:o0 t with
 | none=>
  rw[pZ]at bq;simp only[dRd,D1,ab,iQ]at bq ⊢;refine ao.aI (au _) func34 rfl rfl (rs:=[.tmp 4,.tmp 5]) results34 (by simp[ntmps34]) fun X=>?_;simp only[ntmps34,List.map];have fw:=@ab.eq_1;refine Ys fw [0,1] [] ?_;refine aW fw bq [1,6,7] [6] ?_;refine ae fun K1 Yw=>?_;refine Ys fw [1,6,28] [6] ?_;refine Yx rfl ?_;refine Ys fw [4,5] [6] ?_;exact aY fw
 | some p=>
  rw[pZ]at bq;obtain⟨aS,hk⟩:=Ck (Ii pZ);have hg:=fh aS;have gw:=hg.names;have jF:=BJ G p (by omega) 1;have nj:gy p.names 1 p.names.length=aZ p:=rfl;rw[nj]at jF
  have oh:((aZ p).map fun x=>[D.v (.int .i64 x)]).length=(aZ p).length:=by simp
  by_cases h4:4 < (aZ p).length
  .simp only[h4,true_or,if_true]
   have jz:((aZ p).length:Int) > 4:=by omega
   simp only[dRd,cg,b9,YW,ch,ab,iQ]at bq jF ⊢;generalize ((aZ p).map fun x=>[D.v (.int .i64 x)])=IN at *;generalize p.names.map YE=NN at *;generalize p.aq.map bD=RR at *
   have zz:(IN.length:Int) > 4:=by omega
   refine ao.aI (au _) func34 rfl rfl (rs:=[.tmp 4,.tmp 5]) results34 (by simp[ntmps34]) fun X=>?_;simp only[ntmps34,List.map];have fw:=@ab.eq_1;refine Ys fw [0,1] [] ?_;refine aW fw bq [1,6,7] [6] ?_;refine Y5 fw 6 ?_;refine ae fun K1 Yw=>?_;have qf:=(Aq fw @zz);refine Zq jF [1,6,28] [] ?_;refine Yx (by simp<;>omega) ?_;refine Ys fw [4,5] [] ?_;exact aY fw
  .simp only[h4,false_or];have AY:bl (bk p)<=most->ao prog G 15 [cg p] (.aR [gk p,.v .nilIface]):=fun h=>ad0 G p aS hk (by omega) (by omega)
   have kM:=Hb G p (by omega) (by have:=hg.aq;omega) (fun r hr=>by
    obtain⟨e,he,_,_,hb⟩:=hk r hr
    exact⟨e,he,by omega⟩)
   rw[Ed aS]at kM;have hwl:=ac9 p p.names.length;have tG:=fun k (h:k < p.names.length)=>WO (p:=p) h;generalize ez p p.names.length=E at *
   have pG:∀ k (h:k < p.names.length),bl (dP p (k+1))=bl (dP p k) * bl (partOf p.names[k] (Z2 p p.names[k]) k):=fun k h=>by rw[xB h,xD]
   have Ff:bl (dP p 0)=1:=rfl;have zO:bl (dP p p.names.length)=bl (bk p):=rfl;have sO:=fun k (h:k<=p.names.length)=>SO hg h
   have Fh:∀ k,k<=p.names.length->0 < bl (dP p k):=fun k h=>aaQ fun x hx=>by
    obtain⟨i,hi,_,h2⟩:=(rM h).1 hx;exact (jK hg ((rM (Nat.le_refl _)).2 ⟨i,hi,hi,h2⟩)).m2
   generalize bl (bk p)=PP at *;obtain⟨PN,Fg⟩:∃ PN:Nat->Int,∀ k,bl (dP p k)=PN k:=⟨_,fun _=>rfl⟩;simp only[Fg]at pG Ff zO sO Fh;clear Fg;have abu:=hg.count;have l4:=hg.name;have Oo:∃ c,gk p = .ip c:=⟨_,rfl⟩;obtain⟨MC,eI⟩:=Oo;simp only[eI]at AY
   have jc:(most < PP/\iQ (if most < PP then none else some p)=D.aR [.v (.pointer none),.v (.bool false)])\/(¬ most < PP/\iQ (if most < PP then none else some p)=D.aR [.ip MC,.v (.bool true)]):=by
    by_cases hb:most < PP
    .exact .inl ⟨hb,by rw[if_pos hb];rfl⟩
    .exact .inr ⟨hb,by rw[if_neg hb];simp only[iQ,eI]⟩
   generalize adK:iQ (if most < PP then none else some p)=RES at jc ⊢;clear adK;simp only[dRd,cg,b9,YW,ch,ab]at bq jF AY kM ⊢;generalize ((aZ p).map fun x=>[D.v (.int .i64 x)])=IN at *
   have lZ:(p.names.map YE).length=p.names.length:=by simp
   have iX:∀ i (h:i < p.names.length),(p.names.map YE)[i]? = some [.v (.string (bs p.names[i].name)),.v (.int .i64 p.names[i].kind),.v (.int .i64 p.names[i].count)]:=fun i h=>by simp[h,YE,dS]
   generalize p.names.map YE=NN at *;generalize p.aq.map bD=RR at *
   have zE:(E.map fun x=>[D.v (.int .i64 x)]).length=E.length:=by simp
   have zz:¬ (IN.length:Int) > 4:=by omega
   refine ao.aI (au _) func34 rfl rfl (rs:=[.tmp 4,.tmp 5]) results34 (by simp[ntmps34]) fun X=>?_;simp only[ntmps34,List.map];have fw:=@ab.eq_1;refine Ys fw [0,1] [] ?_;refine aW fw bq [1,6,7] [6] ?_;refine Y5 fw 6 ?_;refine ae fun K1 Yw=>?_;have qf:=(Aq fw @zz);refine Zq jF [1,6,28] [] ?_;refine ag (by simp<;>omega) ?_;refine ar (Yw _ ?_);refine Ys fw [1,6,8] [] ?_;refine Ys fw [1,6,8,9] [29] ?_;refine ae fun K2 aa=>?_;refine aW fw kM [1,6,8,9,10,11] [29] ?_;refine cr (S:=Nat) (fun j=>j<=E.length) (fun j=>⟨YB [(1,int most),(6,.d (.ip [.sl none NN,.sl none RR])),(8,int 1),(9,.mp 29),(10,int j),(11,.d (.sl none (E.map fun x=>[.v (.int .i64 x)])))],ah [(29,.mp 152 (iT (E.take j)))]⟩) (fun j=>E.length - j) 0 ?_ (by omega) ?_
   .refine aD.dw (fun _ _=>trivial) (by simp[ab,iT]) (by simp[ab,iT])
   .intro j hj;refine ae fun K3 bf=>?_;by_cases Yv:j < E.length
    .have hsn:iT (E.take (j+1))=jv (.int .i64 E[j]) (.v (.bool true)) (iT (E.take j)):=by rw[List.take_succ_eq_append_getElem Yv,Ea]
     have wx:=(y6 0 (E.take j)).1;have hkB:=wx;simp at hkB;have Y2:=eq_true hkB;have qf:=(Aq fw @Yv);refine aC [1,6,8,9,10,11,35] [29] ?_;refine Yx (by simp[Yv]) ?_;refine ar (bf _ ?_);refine ae fun K4 bZ=>?_;refine YF ?_;have qf:=(Aq fw (Aq @Yv (Aq @kY.eq_1 (Aq @lf.eq_1 (Aq @lf.eq_2 @Y2)))));refine ZY bZ [1,6,8,9,10,11] [29] ?_;refine b8 fw ?_;(try simp only[YC,bd]);refine bo.mk (j+1) (by omega) (by omega) ?_;rw[hsn];refine bz fw
    .obtain rfl:j=E.length:=by omega
     refine Ys fw [1,6,8,9,10,11,35] [29] ?_;refine ag (by simp) ?_;refine bY (aa _ ?_)
     try rw[List.take_of_length_le (Nat.le_refl _)]
     have ot:∀ k (h:k < p.names.length),hU (.int .i64 (k:Int)) (iT E)=if Z2 p p.names[k]=true then some (.v (.bool true)) else none:=fun k h=>by
      rw[(y6 (k:Int) E).2];simp only[tG k h]
     have wx:=(y6 0 E).1;generalize iT E=EE at ot wx ⊢;have hkB:=wx;simp at hkB;have Y2:=eq_true hkB;refine ae fun K5 b4=>?_;refine Ys fw [1,6,8,9,12] [29] ?_;refine cr (S:=Nat) (fun k=>k<=p.names.length) (fun k=>⟨YB [(1,int most),(6,.d (.ip [.sl none NN,.sl none RR])),(8,int (PN k)),(9,.mp 29),(12,int k)],ah [(29,.mp 152 EE)]⟩) (fun k=>p.names.length - k) 0 ?_ (by omega) ?_
     .refine bz (Aq fw @Ff)
     .intro k hkk;have sP:=pG k;have NC:=sO k hkk;have NF:=Fh k hkk;generalize Xw:PN k=n at sP NC NF ⊢;refine ae fun K6 dB=>?_;by_cases Z8:k < p.names.length/\n<=most
      .obtain⟨Yv,hle⟩:=Z8
       have bU:k < NN.length:=by omega
       have fy:(k:Int) < (NN.length:Int):=by omega
       have qf:=(Aq fw (Aq @fy @hle));refine aC [1,6,8,9,12,52] [29] ?_;refine Yx (by simp[bU,hle]) ?_;refine ar (dB _ ?_);refine ae fun K7 Zl=>?_;refine YF ?_;have wz:=ot k Yv;have Zx:=sP Yv;have iZ:=abu _ (List.getElem_mem Yv);have FX:=l4 _ (List.getElem_mem Yv)
       have pD:NN[k]=[.v (.string (bs p.names[k].name)),.v (.int .i64 p.names[k].kind),.v (.int .i64 p.names[k].count)]:=by
        have:=iX k Yv;rw[List.getElem?_eq_getElem bU]at this;exact Option.some.inj this
       generalize Z2 p p.names[k]=ev at *;unfold partOf at Zx;generalize F8:p.names[k]=nk at Zx pD iZ FX;obtain⟨nm,kd,ct⟩:=nk;dsimp only at Zx pD iZ FX;have qf:=(Aq fw (Aq @bU @pD));refine aC [1,6,8,9,12,13] [29,13] ?_;refine Y5 fw 13 ?_;refine YF ?_;by_cases k2:kd=2
       .subst k2;rw[if_pos (.inl rfl)]at Zx;simp only[bl,Int.mul_one]at Zx;refine Ys fw [1,6,8,9,12,13,60] [29] ?_;refine Yx rfl ?_;refine gB fw Zl [1,6,8,9,12] [29] ?_;refine b8 fw ?_;(try simp only[YC,bd]);refine bo.mk (k+1) (by omega) (by omega) ?_;rw[Zx];refine bz fw
       .by_cases k1:kd=1
        .subst k1
         cases ev with
         | true=>
          rw[if_pos (.inr ⟨rfl,rfl⟩)]at Zx;simp only[bl,Int.mul_one]at Zx;simp only[if_true]at wz;have qf:=(Aq fw (Aq @wz (Aq @kY.eq_1 (Aq @lf.eq_1 (Aq @lf.eq_2 @Y2)))));refine aC [1,6,8,9,12,13,60] [29] ?_;refine Yx rfl ?_;refine gB fw Zl [1,6,8,9,12] [29] ?_;refine b8 fw ?_;(try simp only[YC,bd]);refine bo.mk (k+1) (by omega) (by omega) ?_;rw[Zx];refine bz fw
         | false=>
          rw[if_neg (by simp),if_neg (by simp)]at Zx;simp only[bl,Int.mul_one]at Zx;simp only[Bool.false_eq_true,if_false]at wz;have qf:=(Aq fw (Aq @wz (Aq @kY.eq_1 (Aq @lf.eq_1 (Aq @lf.eq_2 @Y2)))));refine aC [1,6,8,9,12,13,60] [29] ?_;refine ag rfl ?_;refine Ys fw [1,6,8,9,12,13,76] [29] ?_;refine ag rfl ?_;refine ar ?_;refine Zl _ (AW.norm [1,6,8,9,12] [29] (fun _ _=>trivial) (AW.st (by simp[ab];rfl) ?_));refine b8 fw ?_;(try simp only[YC,bd]);refine bo.mk (k+1) (by omega) (by omega) ?_;rw[Zx];refine bz fw
        .rw[if_neg (by simp[k1,k2]),if_pos k1]at Zx;simp only[bl,Int.mul_one]at Zx;have Y8:n * (ct+1)<=4096 * 8:=Int.mul_le_mul (by omega) (by omega) (by omega) (by omega);have ZQ:0<=n * (ct+1):=Int.mul_nonneg (by omega) (by omega);have qf:=(Aq fw (Aq @k1 @k2));refine aC [1,6,8,9,12,13,60] [29] ?_;refine ag (by simp[k1,k2]) ?_;have qf:=(Aq fw @k1);refine aC [1,6,8,9,12,13,76] [29] ?_;refine Yx (by simp[k1]) ?_;refine gB fw Zl [1,6,8,9,12] [29] ?_;refine b8 fw ?_;(try simp only[YC,bd]);refine bo.mk (k+1) (by omega) (by omega) ?_;rw[Zx];refine bz fw
      .rcases jc with⟨hb,hR⟩ | ⟨hb,hR⟩
       .have hgt:n > most:=by
         by_cases Yv:k < p.names.length
         .exact Classical.byContradiction fun hn=>Z8 ⟨Yv,by omega⟩
         .obtain rfl:k=p.names.length:=by omega
          omega
        subst hR
        have Pl:¬ n<=most:=by omega
        by_cases Yv:k < p.names.length
        .have fy:(k:Int) < (NN.length:Int):=by omega
         have qf:=(Aq fw (Aq @fy @Pl));refine aC [1,6,8,9,12,52] [29] ?_;refine ag (by simp<;>omega) ?_;refine bY (b4 _ ?_);refine ae fun K8 cU=>?_;have qf:=(Aq fw @hgt);refine aC [6,87] [29] ?_;refine Yx (by simp<;>omega) ?_;refine Ys fw [4,5] [29] ?_;exact aY fw
        .have fy:¬ (k:Int) < (NN.length:Int):=by omega
         have qf:=(Aq fw @fy);refine aC [1,6,8,9,12,52] [29] ?_;refine ag (by simp<;>omega) ?_;refine bY (b4 _ ?_);refine ae fun K8 cU=>?_;have qf:=(Aq fw @hgt);refine aC [6,87] [29] ?_;refine Yx (by simp<;>omega) ?_;refine Ys fw [4,5] [29] ?_;exact aY fw
       .have hng:¬ n > most:=by omega
        have Po:=AY (by omega);subst hR;have fy:¬ (k:Int) < (NN.length:Int):=fun h=>Z8 ⟨by omega,by omega⟩;have qf:=(Aq fw @fy);refine aC [1,6,8,9,12,52] [29] ?_;refine ag (by simp<;>omega) ?_;refine bY (b4 _ ?_);refine ae fun K8 cU=>?_;have qf:=(Aq fw @hng);refine aC [6,87] [29] ?_;refine ag (by simp<;>omega) ?_;refine ar (cU _ ?_);refine aW fw Po [14,15] [29] ?_;refine Ys fw [4,5] [29] ?_;exact aY fw
def pkF (a:Int) (n:Nat):Nat:=((IntKind.u64.wrap a).tmod (n:Int)).toNat
theorem Db (a:Int):IntKind.u64.wrap a=a % 18446744073709551616:=by
 simp[IntKind.wrap,IntKind.signed,IntKind.bits]
theorem ado (a:Int) {n:Nat} (hn:0 < n):((IntKind.u64.wrap a).tmod (n:Int))=(pkF a n:Int)/\pkF a n < n:=by
 have h0:0<=IntKind.u64.wrap a:=by rw[Db];omega
 have h1:0<=(IntKind.u64.wrap a).tmod (n:Int):=Int.tmod_nonneg _ h0;have h2:(IntKind.u64.wrap a).tmod (n:Int) < n:=Int.tmod_lt_of_pos _ (by omega);unfold pkF;constructor<;>omega
theorem SC (G:Yt) (a:Int) (n:Nat) (hn:0 < n) (gQ:n < 2^40):ao prog G 50 [ab a,ab n] (ab (pkF a n)):=by
 obtain⟨h1,h2⟩:=ado a hn
 have hw:IntKind.u64.wrap (n:Int)=n:=by rw[Db];omega
 have hn0:¬ n=0:=by omega
 generalize pkF a n=w at h1 h2 ⊢;simp only[ab];refine ao.aI (au _) func50 rfl rfl (rs:=[.tmp 4]) results50 (by simp[ntmps50]) fun X=>?_;simp only[ntmps50,List.map];refine al [0,1] [] ?_;have qf:=(Aq @hw (Aq @h1 @hn0));refine aC [4] [] ?_;exact da
theorem MD:o0 pz=some fK:=by unfold o0;rw[if_neg (by decide),EH]
theorem acY:aN fK=[[0,1],[1,1]]:=by kernel_rfl
theorem zt:bl (bk fK)=2:=by kernel_rfl
theorem zr:(aZ fK).length=1:=by kernel_rfl
theorem MB {most:Int} (h:2<=most):abJ pz most=some fK:=by
 unfold abJ;rw[MD];simp only[zr,zt];rw[if_neg (by omega)]
theorem GJ (p:Yy):0 < cY p:=Nat.pow_pos (by decide)
theorem Qm {p:Yy} (h:(aZ p).length<=4):cY p<=16:=Nat.pow_le_pow_right (n:=2) (by decide) h
def jw (p:Yy) (e:Ex) (s i:Nat):Bool:=eY (gH p (iA p (eV p s) (dv (i:Int) (aZ p).length)).is) (gH p (eV p s).is) e
def aam (p:Yy) (e:Ex) (s:Nat):List Bool:=(List.range (cY p)).map (jw p e s)
def ZP (p:Yy) (e:Ex):List (List Bool):=(List.range (aN p).length).map (aam p e)
def aaA (p:Yy) (e:Ex):Bool:=(Zh true e).any fun s=>decide (YH p s < 0)
theorem vJ (p:Yy) (e:Ex):(ZP p e).length=(aN p).length:=by simp[ZP]
theorem zu {p:Yy} {e:Ex} {s:Nat} (h:s < (ZP p e).length):(ZP p e)[s]=aam p e s:=by simp[ZP]
theorem zv {p:Yy} {e:Ex} {s:Nat} (h:s < (aN p).length):(ZP p e).getD s []=aam p e s:=by rw[cD (by rw[vJ];exact h),zu]
theorem sF (p:Yy) (e:Ex) (s:Nat):(aam p e s).length=cY p:=by simp[aam]
theorem zw {p:Yy} {e:Ex} {s i:Nat} (h:i < (aam p e s).length):(aam p e s)[i]=jw p e s i:=by simp[aam]
theorem EO {p:Yy} {e:Ex} {s i:Nat} (h:gT (aam p e s) < 0) (hi:i < cY p):jw p e s i=true:=by
 have h1:i < (aam p e s).length:=by rw[sF];exact hi
 have:=ad6 h i h1
 rwa [zw]at this
theorem MQ {p:Yy} {e:Ex} {s i:Nat} (h:gT (aam p e s)=(i:Int)):i < cY p/\jw p e s i=false:=by
 obtain⟨k,hk,h1,h2⟩:=R3 (l:=aam p e s) (by omega)
 obtain rfl:k=i:=by omega
 rw[zw]at h2;rw[sF]at hk;exact⟨hk,h2⟩
theorem HZ {i n:Nat} (h:i < n) (hn:n < 2^40):pkF (i:Int) n=i:=by
 have hw:IntKind.u64.wrap (i:Int)=i:=by
  rw[Db];omega
 unfold pkF;rw[hw,Int.tmod_eq_emod_of_nonneg (by omega),Int.emod_eq_of_lt (by omega) (by omega),Int.toNat_natCast]
def qN (p:Yy) (l:List Int):List Int:=l.map fun a=>(pkF a (cY p):Int)
theorem Ui (p:Yy) (l:List Int):(qN p l).length=l.length:=by simp[qN]
theorem IQ (NX:List (List Int)):∀ (a b:List Int) (s:Nat),runN NX s (a ++ b)=runN NX (runN NX s a) b
 | [],_,_=>rfl
 | i :: a,b,s=>by rw[List.cons_append,runN,runN,IQ NX a b]
theorem U6 {NX:List (List Int)} {s j:Nat} {l:List Int} (h:j < l.length):runN NX s (l.take (j+1))=((aa2 NX (runN NX s (l.take j))).getD l[j].toNat 0).toNat:=by
 rw[List.take_succ_eq_append_getElem h,IQ];rfl
def ZI (p:Yy) (l:List Int) (j:Nat):Nat:=runN (aN p) 0 ((qN p l).take j)
def ie (p:Yy) (l:List Int) (j:Nat):Nat:=pkF (l.getD j 0) (cY p)
theorem tM (p:Yy) (l:List Int) (j:Nat):ie p l j < cY p:=(ado _ (GJ p)).2
def aaf (p:Yy) (e:Ex) (l:List Int) (k:Nat):List Bool:=(List.range k).map fun j=>jw p e (ZI p l j) (ie p l j)
theorem Cn (p:Yy) (e:Ex) (l:List Int) (k:Nat):(aaf p e l k).length=k:=by simp[aaf]
theorem SF (p:Yy) (e:Ex) (l:List Int) (k:Nat):aaf p e l (k+1)=aaf p e l k ++ [jw p e (ZI p l k) (ie p l k)]:=by simp[aaf,List.range_succ]
theorem H4 {p:Yy} {e:Ex} {l:List Int} {k j:Nat} (h:j < (aaf p e l k).length):(aaf p e l k)[j]=jw p e (ZI p l j) (ie p l j):=by simp[aaf]
theorem DE (p:Yy) (l:List Int):ZI p l 0=0:=by simp[ZI,runN]
theorem DD {p:Yy} {l:List Int} {j:Nat} (h:j < l.length):ZI p l (j+1)=((aa2 (aN p) (ZI p l j)).getD (ie p l j) 0).toNat:=by
 unfold ZI;rw[U6 (by rw[Ui];exact h)];congr 2;simp[qN,ie,h]
theorem Cv {p:Yy} {s:Nat} (h:s < (aN p).length):(aa2 (aN p) s).length=cY p:=by
 rw[k5 h,xn h,uu];rfl
theorem u6 {p:Yy} (aS:YP p=none) (l:List Int):∀ j,j<=l.length->ZI p l j < (aN p).length/\0<=(iC (aN p)).getD (ZI p l j) 0
 | 0,_=>by
  have ht:=nO aS;rw[DE,(mO ht).zero];exact⟨ht.pos,Int.le_refl _⟩
 | j+1,hj=>by
  obtain⟨h1,h2⟩:=u6 aS l j (by omega);have ht:=nO aS
  have hi:ie p l j < (aN p)[ZI p l j].length:=by
   have:=Cv h1;rw[k5 h1]at this;rw[this];exact tM p l j
  rw[DD (by omega),k5 h1,cD hi];have h3:=ht.mem _ (List.getElem_mem h1) _ (List.getElem_mem hi);exact⟨by omega,((mO ht).step _ h1 h2 _ (List.getElem_mem hi)).1⟩
theorem KW {p:Yy} (aS:YP p=none) {l:List Int} {j:Nat} (hj:j < l.length):∃ h1:ZI p l j < (aN p).length,∃ h2:ie p l j < (aN p)[ZI p l j].length,(aN p)[ZI p l j][ie p l j]=(ZI p l (j+1):Int):=by
 obtain⟨h1,_⟩:=u6 aS l j (by omega)
 have hi:ie p l j < (aN p)[ZI p l j].length:=by
  have:=Cv h1;rw[k5 h1]at this;rw[this];exact tM p l j
 refine⟨h1,hi,?_⟩;have h3:=(nO aS).mem _ (List.getElem_mem h1) _ (List.getElem_mem hi);rw[DD hj,k5 h1,cD hi];omega
noncomputable def dH (p:Yy) (e:Ex):List Int:=acm (aN p) (iC (aN p)) (ZP p e)
theorem SG {p:Yy} (aS:YP p=none) {e:Ex} (h:dH p e=[]) (l:List Int):∀ j,j < l.length->jw p e (ZI p l j) (ie p l j)=true:=fun j hj=>by
 obtain⟨h1,h2⟩:=u6 aS l j (by omega)
 rcases HW (aN p) (iC (aN p)) (ZP p e) with⟨_,g⟩ | ⟨d,z,i,_,_,_,g,_⟩
 .have:=g _ h1 h2;rw[zv h1]at this;exact EO this (tM p l j)
 .unfold dH at h;rw[h]at g;exact absurd g.symm (by simp)
theorem Ie {p:Yy} (h6:cY p<=64):∀ {l:List Int},(∀ j (hj:j < l.length),∃ i:Nat,i < cY p/\l[j]=(i:Int))->qN p l=l
 | [],_=>rfl
 | a :: l,h=>by
  obtain⟨i,h1,h2⟩:=h 0 (by simp);have e:a=(i:Int):=h2;have:=Ie h6 (l:=l) fun j hj=>h (j+1) (by simp;omega);unfold qN at this ⊢;rw[List.map_cons,this,e,HZ h1 (by omega)]
theorem SH {p:Yy} (aS:YP p=none) (h6:cY p<=64) {e:Ex} (h:dH p e≠[]):qN p (dH p e)=dH p e/\0 < (dH p e).length/\(dH p e).length<=(aN p).length/\∀ j,j < (dH p e).length->jw p e (ZI p (dH p e) j) (ie p (dH p e) j)=decide (j+1 < (dH p e).length):=by
 have ht:=nO aS;have hF:=mO ht
 rcases HW (aN p) (iC (aN p)) (ZP p e) with⟨g,_⟩ | ⟨d,z,i,hz,hd,hi,g,hb⟩
 .exact absurd g h
 have Ae:=Ey ht z hz;rw[zv hz]at hi;obtain⟨cE,dD⟩:=MQ hi;have adS:=fun j (hj:j < d)=>WK ht hF hz hd hj;have s3:=(acM ht hz d 0 ht.pos (sE hF d z hz hd)).1;have wa:=JE ht hF hz hd;have sU:=acL (aN p) z d 0;unfold dH;rw[g];generalize fe (aN p) z d 0=W at *
 have hq:qN p (W ++ [(i:Int)])=W ++ [(i:Int)]:=Ie h6 fun j hj=>by
  by_cases hjd:j < d
  .obtain⟨t,i2,u,h1,h2,h3,h4,_⟩:=adS j hjd
   have h5:(aN p)[t].length=cY p:=by have:=Cv h1;rwa [k5 h1]at this
   refine⟨i2,by omega,?_⟩;rw[List.getElem_append_left (by omega)];rw[cD (by omega)]at h4;exact h4
  .have hl:j=W.length:=by simp at hj;omega
   subst hl;exact⟨i,cE,by simp⟩
 have bT:∀ j,j<=d->ZI p (W ++ [(i:Int)]) j=runN (aN p) 0 (W.take j):=fun j hj=>by
  unfold ZI;rw[hq,List.take_append_of_le_length (by omega)]
 refine⟨hq,by simp,by simp only[List.length_append,List.length_cons,List.length_nil];omega,fun j hj=>?_⟩;simp only[List.length_append,List.length_cons,List.length_nil,sU]at hj ⊢;by_cases hjd:j < d
 .obtain⟨f1,f2,f3⟩:=wa j (by omega);have:=hb _ f1 f2 (by omega);rw[zv f1]at this;rw[bT j (by omega),EO this (tM p _ j)];exact (decide_eq_true (by omega)).symm
 .obtain rfl:j=d:=by omega
  have e1:ie p (W ++ [(i:Int)]) j=i:=by
   unfold ie;rw[show (W ++ [(i:Int)]).getD j 0=(i:Int) from by rw[cD (by simp;omega)];simp[<- sU]];exact HZ cE (by omega)
  have e2:runN (aN p) 0 (W.take j)=z:=by rw[List.take_of_length_le (by omega)];exact s3
  rw[bT j (Nat.le_refl _),e1,e2,dD];exact (decide_eq_false (by omega)).symm
theorem GW (G:Yt) (b:Bool) (l:List Bool) (hl:l.length < 2^60):ao prog G 100 [.sl none (l.map fun b=>[.v (.bool b)]),.v (.bool b)] (.v (.int .i64 (idx (fun x=>b == x) l))):=by
 refine ao.aI (au _) func100 rfl rfl (rs:=[.tmp 4]) results100 (by simp[ntmps100]) fun X=>?_;simp only[ntmps100,List.map];refine al [0,1] [] ?_;refine ae fun K1 Yw=>?_;refine al [0,1,7,8] [] ?_;refine cr (S:=Nat) (fun n=>n<=l.length/\∀ i (hi:i < l.length),i < n->(b == l[i])=false) (fun n=>⟨YB [(0,.d (.sl none (l.map fun b=>[.v (.bool b)]))),(1,.d (.v (.bool b))),(7,int l.length),(8,int n)],ah []⟩) (fun n=>l.length - n) 0 ?_ (by simp) ?_
 .refine eg
 .rintro n ⟨hn,hp⟩;refine al [0,1,7,8,9] [] ?_;refine ae fun K2 aa=>?_;refine eM (b:=n < l.length) (by simp[D.le,D.le.go,aQ]) (fun hc=>?_) (fun hc=>?_)
  .refine ar (aa _ ?_);refine ae fun K3 bf=>?_;refine YF ?_;refine al [0,1,5,7,8] [] ?_;generalize hx:l[n]=x at *;have qf:=(Aq @hc @hx);refine aC [0,1,5,7,8,16] [] ?_;refine kB (b == x) (by simp) (fun he=>?_) (fun he=>?_)
   .refine al [4] [] ?_;refine b6 ?_;simp[D.le,D.le.go,aQ];exact (oI (p:=fun x=>b == x) hc (by rw[hx];exact he) fun i hi=>hp i (by omega) hi).symm
   .refine ar (bf _ ?_);refine fk ?_;(try simp only[YC,bd]);refine bo.mk (n+1) ⟨by omega,fun i hi ax=>?_⟩ (by omega) ?_
    .by_cases h:i=n
     .subst h;rw[hx];exact he
     .exact hp i hi (by omega)
    refine eg
  .refine bY (Yw _ ?_);refine al [4] [] ?_;refine b6 ?_;simp[D.le,D.le.go,aQ];exact (oJ (p:=fun x=>b == x) fun i hi=>hp i hi (by omega)).symm
theorem QE (G:Yt) (b:Bool) (l:List Bool) (hl:l.length < 2^60):ao prog G 99 [.sl none (l.map fun b=>[.v (.bool b)]),.v (.bool b)] (.v (.bool (decide (0<=idx (fun x=>b == x) l)))):=by
 refine ao.aI (au _) func99 rfl rfl (rs:=[.tmp 4]) results99 (by simp[ntmps99]) fun X=>?_;simp only[ntmps99,List.map];refine al [0,1] [] ?_;refine aW trivial (GW G b l hl) [4] [] ?_;exact da
theorem Hu (G:Yt) (a:Int):ao prog G 198 [.v (.int .i64 a)] (.v (.bool false)):=by
 refine ao.aI (au _) func198 rfl rfl (rs:=[.tmp 2]) results198 (by simp[ntmps198]) fun X=>?_;simp only[ntmps198,List.map];refine al [0] [] ?_;refine al [2] [] ?_;exact da
theorem Ls (G:Yt) (a b:Int):ao prog G 150 [.v (.int .i64 a),.v (.int .i64 b)] (.v (.int .i64 (if a < b then -1 else if b < a then 1 else 0))):=by
 have ha:=Hu G a;have hb:=Hu G b;refine ao.aI (au _) func150 rfl rfl (rs:=[.tmp 4]) results150 (by simp[ntmps150]) fun X=>?_;simp only[ntmps150,List.map];refine al [0,1] [] ?_;refine aW trivial ha [0,1,5] [] ?_;refine aW trivial hb [0,1,5,6] [] ?_;refine ae fun K1 Yw=>?_;refine al [0,1,6,11] [] ?_;refine ag rfl ?_;refine ar (Yw _ ?_);refine ae fun K3 bf=>?_;refine al [0,1,13] [] ?_;refine ag rfl ?_;refine ar (bf _ ?_);refine ae fun K4 bZ=>?_;refine al [0,1,16] [] ?_;refine eM (b:=a < b) (by simp[D.le,D.le.go,aQ]) (fun hc=>?_) (fun hc=>?_)
 .refine al [4] [] ?_;exact aY @hc
 .refine ar (bZ _ ?_);have dJ:=hc;refine ae fun K5 b4=>?_;refine al [19] [] ?_;refine eM (b:=b < a) (by simp[D.le,D.le.go,aQ]) (fun hc=>?_) (fun hc=>?_)
  .refine al [4] [] ?_;exact aY (Aq @hc @dJ)
  .refine ar (b4 _ ?_);refine al [4] [] ?_;exact aY (Aq @hc @dJ)
theorem Lp {l m:List Int} {n:Nat} (h1:n < l.length) (h2:n < m.length):Z0 (l.drop n) (m.drop n)=if l[n] < m[n] then -1 else if m[n] < l[n] then 1 else Z0 (l.drop (n+1)) (m.drop (n+1)):=by
 rw[List.drop_eq_getElem_cons h1,List.drop_eq_getElem_cons h2,Z0]
theorem Lq {l m:List Int} {n:Nat} (h1:n < l.length) (h2:¬ n < m.length):Z0 (l.drop n) (m.drop n)=1:=by
 rw[List.drop_eq_getElem_cons h1,show m.drop n=[] from List.drop_eq_nil_of_le (by omega),Z0]
theorem Lr {l m:List Int} {n:Nat} (h1:¬ n < l.length):Z0 (l.drop n) (m.drop n)=if n < m.length then -1 else 0:=by
 rw[List.drop_eq_nil_of_le (by omega)];by_cases h:n < m.length
 .rw[List.drop_eq_getElem_cons h,Z0,if_pos h]
 .rw[List.drop_eq_nil_of_le (by omega),Z0,if_neg h]
theorem Lt (G:Yt) (k1 k2:Option Bool) (l m:List Int) (hl:l.length < 2^60) (hm:m.length < 2^60):ao prog G 101 [.sl k1 (l.map fun n=>[.v (.int .i64 n)]),.sl k2 (m.map fun n=>[.v (.int .i64 n)])] (.v (.int .i64 (Z0 l m))):=by
 have Aa:=Ls G;refine ao.aI (au _) func101 rfl rfl (rs:=[.tmp 4]) results101 (by simp[ntmps101]) fun X=>?_;simp only[ntmps101,List.map];refine al [0,1] [] ?_;refine ae fun K1 Yw=>?_;refine al [0,1,9,10,11] [] ?_;refine cr (S:=Nat) (fun n=>n<=l.length/\Z0 (l.drop n) (m.drop n)=Z0 l m/\n<=m.length) (fun n=>⟨YB [(0,.d (.sl k1 (l.map fun n=>[.v (.int .i64 n)]))),(1,.d (.sl k2 (m.map fun n=>[.v (.int .i64 n)]))),(9,.d (.sl k1 (l.map fun n=>[.v (.int .i64 n)]))),(10,int l.length),(11,int n)],ah []⟩) (fun n=>l.length - n) 0 ?_ (by simp) ?_
 .refine eg
 .rintro n ⟨hn,hp,gw⟩;refine al [0,1,9,10,11,12] [] ?_;refine ae fun K2 aa=>?_;refine eM (b:=n < l.length) (by simp[D.le,D.le.go,aQ]) (fun hc=>?_) (fun hc=>?_)
  .have kg:=hc;refine ar (aa _ ?_);refine ae fun K3 bf=>?_;refine YF ?_;have qf:=@kg;refine aC [0,1,5,6,9,10,11] [] ?_;refine ae fun K4 bZ=>?_;by_cases AO:n < m.length
   .have AP:¬ (n:Int) >= (m.length:Int):=by omega
    rw[Lp kg AO]at hp;generalize hx:l[n]=x at *;generalize hy:m[n]=y at *;have pK:=Aa x y;have qf:=@AP;refine aC [0,1,5,6,9,10,11,19] [] ?_;refine ag (by simp<;>omega) ?_;refine ar (bZ _ ?_);have qf:=(Aq @AO @hy);refine aC [0,1,6,7,9,10,11] [] ?_;by_cases h1:x < y
    .rw[if_pos h1]at hp pK;refine aW trivial pK [0,1,8,9,10,11] [] ?_;refine al [0,1,8,9,10,11,28] [] ?_;refine Yx rfl ?_;refine al [4] [] ?_;exact aY @hp
    .rw[if_neg h1]at hp pK;by_cases h2:y < x
     .rw[if_pos h2]at hp pK;refine aW trivial pK [0,1,8,9,10,11] [] ?_;refine al [0,1,8,9,10,11,28] [] ?_;refine Yx rfl ?_;refine al [4] [] ?_;exact aY @hp
     .rw[if_neg h2]at hp pK;refine aW trivial pK [0,1,8,9,10,11] [] ?_;refine al [0,1,8,9,10,11,28] [] ?_;refine ag rfl ?_;refine ar (bf _ ?_);refine fk ?_;(try simp only[YC,bd]);refine bo.mk (n+1) ⟨by omega,hp,by omega⟩ (by omega) ?_;refine eg
   .have AP:(n:Int) >= (m.length:Int):=by omega
    rw[Lq kg AO]at hp;have qf:=@AP;refine aC [0,1,5,6,9,10,11,19] [] ?_;refine Yx (by simp<;>omega) ?_;refine al [4] [] ?_;exact aY @hp
  .rw[Lr hc]at hp
   obtain rfl:n=l.length:=by omega
   refine bY (Yw _ ?_);refine ae fun K5 b4=>?_;refine al [35] [] ?_;refine eM (b:=l.length < m.length) (by simp[D.le,D.le.go,aQ]) (fun hc=>?_) (fun hc=>?_)
   .rw[if_pos hc]at hp;refine al [4] [] ?_;exact aY @hp
   .rw[if_neg hc]at hp;refine ar (b4 _ ?_);refine al [4] [] ?_;exact aY @hp
theorem HX (G:Yt) (p:Yy) (hp:p.names.length < 2^62) (s:List UInt8):ao prog G 110 [dS s,.ip (b9 p)] (.v (.bool (decide (YH p s < 0)))):=by
 have hi:=mf G p hp s;simp only[cg,b9,YW,ch,dS]at hi ⊢;refine ao.aI (au _) func110 rfl rfl (rs:=[.tmp 3]) results110 (by simp[ntmps110]) fun X=>?_;simp only[ntmps110,List.map];refine al [0,1] [] ?_;refine aW trivial hi [3] [] ?_;exact da
def abZ (p:Yy) (l:List Bool):D:=.fn (.func 158) [.ip [dI l],.ip (b9 p)]
theorem Sw (G:Yt) (p:Yy) (l:List Bool):ao prog G 111 [cg p,dI l] (abZ p l):=by
 simp only[cg,b9,YW,ch,dI,abZ];generalize p.names.map YE=NN;generalize p.aq.map bD=RR;generalize (l.map fun b=>[D.v (.bool b)])=L;refine ao.aI (au _) func111 rfl rfl (rs:=[.tmp 4]) results111 (by simp[ntmps111]) fun X=>?_;simp only[ntmps111,List.map];refine al [2,3] [2,3] ?_;refine al [4] [2,3] ?_;exact da
theorem HU (G:Yt) (p:Yy) (hp:p.names.length < 2^62) (L:List Bool) (hl:L.length=p.names.length):nY (fun nm=>¬ YH p nm < 0) G 158 [.ip [dI L],.ip (b9 p)] (gH p L):=by
 intro nm hn;have bB:=mf G p hp nm;obtain⟨h1,h2⟩:=uf hn
 have hi:(YH p nm).toNat < L.length:=by omega
 have hbv:gH p L nm=L[(YH p nm).toNat]:=by unfold gH;exact cD hi
 rw[hbv];rw[h2]at bB;clear h1 h2 hbv hn;simp only[cg,b9,YW,ch,dS]at bB;simp only[dI,b9,YW,ch];generalize eQ:(YH p nm).toNat=i at bB hi ⊢;clear eQ hl hp;generalize p.names.map YE=NN at bB ⊢;generalize p.aq.map bD=RR at bB ⊢;refine ao.aI (au _) func158 rfl rfl (rs:=[.tmp 4]) results158 (by simp[ntmps158]) fun X=>?_;simp only[ntmps158,List.map];have fw:=@dS.eq_1;refine Ys fw [0,1,2] [] ?_;have qf:=(Aq fw @hi);refine xG bB [4] [] ?_;exact aY fw
theorem DI {p:Yy} {e:Ex} (hw:cu e) (h:aaA p e=false):fW (fun nm=>¬ YH p nm < 0) (fun nm=>¬ YH p nm < 0) e:=by
 have ax:∀ s∈Zh true e,¬ YH p s < 0:=fun s hs=>by
  unfold aaA at h;rw[List.any_eq_false]at h;have:=h s hs;simpa using this
 exact DB hw (fun s hs=>ax s (oS.2 hs)) (fun s hs=>ax s (B1 (oS.2 hs)))
theorem Ht {e:Ex} (hb:bE e<=2^28):(Zh true e).length<=2^28:=by
 have h1:=Lib.compact_length_le (jO (b5 true e));have h2:=mv (b5 true e);have h3:=qd true e;unfold Zh;omega
theorem ad9 (G:Yt) {p:Yy} (aS:YP p=none) {e:Ex} (hw:cu e) (hb:bE e<=2^28) (gv:aaA p e=false) (s i:Nat):ao prog G 51 [dE e,abZ p (iA p (eV p s) (dv (i:Int) (aZ p).length)).is,abZ p (eV p s).is] (.v (.bool (jw p e s i))):=by
 have gw:=(fh aS).names;have hs:=rW aS (s:Int);have hd:=(vq aS hs (dv (i:Int) (aZ p).length)).1;exact zg G _ _ _ _ _ _ _ _ (HU G p (by omega) _ hd.l1) (HU G p (by omega) _ hs.l1) e (DI hw gv) hb
theorem MO (G:Yt) (p:Yy) (aS:YP p=none) (e:Ex) (hb:bE e<=2^28) (gv:aaA p e=true):ao prog G 56 [gk p,dE e] (.aR [.sl none [],.bg 40 (.v (.int .i64 7))]):=by
 have gw:=(fh aS).names;have tm:=B0 G e hb;have fN:=yU G none (Zh true e) 110 [.ip (b9 p)] (fun s=>decide (YH p s < 0)) (by have:=Ht hb;omega) (fun s _=>HX G p (by omega) s);unfold aaA at gv;rw[gv]at fN;obtain⟨ta,ca,he⟩:=dY e;simp only[he,gk,jt,cMa,cg,b9,YW,ch,aaB,dr,ab,dS]at tm fN ⊢;generalize ((Zh true e).map fun s=>[D.v (.string (bs s))])=NS at *;generalize ew (aN p)=NX at *;generalize bl (bk p)=PP at *;generalize cY p=NI at *;generalize ((aZ p).map fun n=>[D.v (.int .i64 n)])=IN at *;generalize (bk p).map eo=PT at *;generalize p.names.map YE=NN at *;generalize p.aq.map bD=RR at *;refine ao.aI (au _) func56 rfl rfl (rs:=[.tmp 4,.tmp 5]) results56 (by simp[ntmps56]) fun X=>?_;simp only[ntmps56,List.map];have fw:=@dS.eq_1;refine Ys fw [0,1] [] ?_;refine ae fun K1 Yw=>?_;refine Ys fw [0,1,19] [] ?_;refine ag rfl ?_;refine ar (Yw _ ?_);refine Ys fw [0,1,6] [6] ?_;refine Y5 fw 6 ?_;refine ae fun K2 aa=>?_;refine rg [0,1,6,28] [] (fun _ _=>trivial) fun K' Yu=>?_;(repeat (refine aP fun K2 aa=>?_;simp[dS];(repeat (refine⟨by omega,?_⟩));refine aa _ ?_;clear aa K2));refine aP fun K2 aa=>?_;simp[dS];refine YR.data (tm) (by simp;rfl) (by first | exact D.YG _ | simp[aQ,List.map_map,Function.comp_def,D.le,D.le.go,D.le_refl,D.YG,dS]) ?_;refine aa _ ?_;clear aa K2;simp only[aw,cJ];(repeat (refine aP fun K2 aa=>?_;simp[dS];(repeat (refine⟨by omega,?_⟩));refine aa _ ?_;clear aa K2));refine aP fun K2 aa=>?_;simp[dS];refine YR.data (fN) (by simp;rfl) (by first | exact D.YG _ | simp[aQ,List.map_map,Function.comp_def,D.le,D.le.go,D.le_refl,D.YG,dS]) ?_;refine aa _ ?_;clear aa K2;simp only[aw,cJ];(repeat (refine aP fun K2 aa=>?_;simp[dS];(repeat (refine⟨by omega,?_⟩));refine aa _ ?_;clear aa K2));refine YM (Yu _ (AW.st (by simp[dS];rfl) ?_));clear Yu K';refine Yx rfl ?_;refine Ys fw [4,5] [] ?_;exact aY fw
theorem MK {p:Yy} {e:Ex} {s:Nat} (h:s < (aN p).length):(ZP p e).take (s+1)=(ZP p e).take s ++ [aam p e s]:=by
 have h2:s < (ZP p e).length:=by rw[vJ];exact h
 rw[List.take_succ_eq_append_getElem h2,zu]
theorem MN {p:Yy} {e:Ex} {s i:Nat} (h:i < cY p):(aam p e s).take (i+1)=(aam p e s).take i ++ [jw p e s i]:=by
 have h2:i < (aam p e s).length:=by rw[sF];exact h
 rw[List.take_succ_eq_append_getElem h2,zw]
theorem MP (G:Yt) (p:Yy) (aS:YP p=none) (hk:∀ r∈p.aq,jU r) (hi6:(aZ p).length<=6) (hP:bl (bk p)<=4096) (e:Ex) (hw:cu e) (hb:bE e<=2^28) (gv:aaA p e=false):ao prog G 56 [gk p,dE e] (.aR [acX (ZP p e),.v .nilIface]):=by
 have gw:=(fh aS).names;have tm:=B0 G e hb;have fN:=yU G none (Zh true e) 110 [.ip (b9 p)] (fun s=>decide (YH p s < 0)) (by have:=Ht hb;omega) (fun s _=>HX G p (by omega) s);have aB:=fun s i=>ad9 G aS hw hb gv s i;have oF:=fun (s i:Nat) (h1:(s:Int) < bl (bk p)) (h2:i < cY p)=>I7 G p aS hk s i hP h1 h2;have bw:=fun (s:Nat) (h1:(s:Int) < bl (bk p))=>BW G p aS (bl (bk p)) ((cY p:Nat):Int) (ew (aN p)) s (by omega) (by omega);have bT:=fun l=>Sw G p l;have hgt:=fun s (h:s < (aN p).length)=>MK (e:=e) h;have wM:=fun s i (h:i < cY p)=>MN (e:=e) (s:=s) h;have ck:=vJ p e;have hrl:=fun s=>sF p e s;have zF:cY p<=64:=Nat.pow_le_pow_right (n:=2) (by decide) hi6;have hlen:=nB p;have hpp:0 < bl (bk p):=aaQ fun x hx=>(jK (fh aS) hx).m2
 have hcast:((aN p).length:Int)=bl (bk p):=by rw[hlen];omega
 have rj:(aN p).length<=4096:=by omega
 unfold aaA at gv;rw[gv]at fN;obtain⟨ta,ca,he⟩:=dY e;simp only[he,gk,jt,cMa,cg,b9,YW,ch,aaB,dr,ab,dS,acX,dI,abZ,j2,iw,<- hcast]at tm fN aB oF bw bT ⊢;clear hlen hcast hpp hP;generalize ((Zh true e).map fun s=>[D.v (.string (bs s))])=NS at *;generalize Nf:ZP p e=GD at *;generalize Ng:aam p e=GR at *;clear Nf Ng;generalize ew (aN p)=NX at *;generalize (aN p).length=N at *;obtain⟨IS,sJ⟩:∃ IS:Nat->Nat->List Bool,∀ s i:Nat,(iA p (eV p s) (dv (i:Int) (aZ p).length)).is=IS s i:=⟨_,fun _ _=>rfl⟩;obtain⟨WS,sT⟩:∃ WS:Nat->List Bool,∀ s:Nat,(eV p s).is=WS s:=⟨_,fun _=>rfl⟩;obtain⟨CS,sH⟩:∃ CS:Nat->List Int,∀ s:Nat,(eV p s).ct=CS s:=⟨_,fun _=>rfl⟩;obtain⟨EV,sI⟩:∃ EV:Nat->Nat->Bool,∀ s i:Nat,jw p e s i=EV s i:=⟨_,fun _ _=>rfl⟩;simp only[sJ,sT,sH,sI]at aB oF bw wM;clear sJ sT sH sI;generalize cY p=NI at *;generalize ((aZ p).map fun n=>[D.v (.int .i64 n)])=IN at *;generalize (bk p).map eo=PT at *;generalize p.names.map YE=NN at *;generalize p.aq.map bD=RR at *;refine ao.aI (au _) func56 rfl rfl (rs:=[.tmp 4,.tmp 5]) results56 (by simp[ntmps56]) fun X=>?_;simp only[ntmps56,List.map];have fw:=@dS.eq_1;refine Ys fw [0,1] [] ?_;refine ae fun K1 Yw=>?_;refine Ys fw [0,1,19] [] ?_;refine ag rfl ?_;refine ar (Yw _ ?_);refine Ys fw [0,1,6] [6] ?_;refine Y5 fw 6 ?_;refine ae fun K2 aa=>?_;refine rg [0,1,6,28] [] (fun _ _=>trivial) fun K' Yu=>?_;(repeat (refine aP fun K2 aa=>?_;simp[dS];(repeat (refine⟨by omega,?_⟩));refine aa _ ?_;clear aa K2));refine aP fun K2 aa=>?_;simp[dS];refine YR.data (tm) (by simp;rfl) (by first | exact D.YG _ | simp[aQ,List.map_map,Function.comp_def,D.le,D.le.go,D.le_refl,D.YG,dS]) ?_;refine aa _ ?_;clear aa K2;simp only[aw,cJ];(repeat (refine aP fun K2 aa=>?_;simp[dS];(repeat (refine⟨by omega,?_⟩));refine aa _ ?_;clear aa K2));refine aP fun K2 aa=>?_;simp[dS];refine YR.data (fN) (by simp;rfl) (by first | exact D.YG _ | simp[aQ,List.map_map,Function.comp_def,D.le,D.le.go,D.le_refl,D.YG,dS]) ?_;refine aa _ ?_;clear aa K2;simp only[aw,cJ];(repeat (refine aP fun K2 aa=>?_;simp[dS];(repeat (refine⟨by omega,?_⟩));refine aa _ ?_;clear aa K2));refine YM (Yu _ (AW.st (by simp[dS];rfl) ?_));clear Yu K';refine ag rfl ?_;refine ar (aa _ ?_);refine Ys fw [0,1,6,7] [] ?_;refine ae fun K3 bf=>?_;refine Ys fw [0,1,6,7,33,34] [] ?_;refine cr (S:=Nat) (fun s=>s<=N) (fun s=>⟨YB [(0,.d (.ip [.sl none NN,.sl none RR,.v (.int .i64 N),.v (.int .i64 NI),.sl none NX,.sl none PT,.sl none IN])),(1,.d (.bg ta ca)),(6,.d (.ip [.sl none NN,.sl none RR])),(7,.own 800 0 s),(33,int N),(34,int s)],ah [(800,.sl 55 1 ((GD.take s).map fun x=>[.sl none (x.map fun b=>[.v (.bool b)])]))]⟩) (fun s=>N - s) 0 ?_ (by omega) ?_
 .refine (aD.kD 7 800 55 1 rfl rfl).trans ?_;refine bz fw
 .intro s hs
  have vO:((GD.take s).map fun x=>[D.sl none (x.map fun b=>[D.v (.bool b)])]).length=s:=by simp;omega
  have FP:=hgt s;generalize Ni:GD.take s=GS at vO FP ⊢;refine Ys fw [0,1,6,7,33,34,35] [800] ?_;refine ae fun K4 bZ=>?_;by_cases Yv:s < N
  .refine Yx (by simp<;>omega) ?_;refine ar (bZ _ ?_);refine ae fun K5 b4=>?_;refine YF ?_;have Ba:=bw s (by omega);have A7:=fun i=>oF s i (by omega);have pO:=aB s;have ach:=wM s;have Gj:=hrl s;have OM:=FP Yv;have zY:=bT (WS s);generalize IS s=Di at *;generalize WS s=WW at *;generalize CS s=CC at *;generalize EV s=EE at *;generalize GR s=RS at *;refine Ys fw [0,1,6,7,8,33,34] [800] ?_;refine aW fw Ba [0,1,6,7,8,9,33,34] [800] ?_;refine Ys fw [0,1,6,7,8,9,10,33,34] [800] ?_;refine ae fun K6 dB=>?_;refine Ys fw [0,1,6,7,8,9,10,33,34,44,45] [800] ?_;refine cr (S:=Nat) (fun i=>i<=NI) (fun i=>⟨YB [(0,.d (.ip [.sl none NN,.sl none RR,.v (.int .i64 N),.v (.int .i64 NI),.sl none NX,.sl none PT,.sl none IN])),(1,.d (.bg ta ca)),(6,.d (.ip [.sl none NN,.sl none RR])),(7,.own 800 0 s),(8,int s),(9,.d (.sl none (WW.map fun b=>[.v (.bool b)]))),(10,.own 902 0 i),(33,int N),(34,int s),(44,int NI),(45,int i)],ah [(800,.sl 55 1 (GS.map fun x=>[.sl none (x.map fun b=>[.v (.bool b)])])),(902,.sl 4 1 ((RS.take i).map fun b=>[.v (.bool b)]))]⟩) (fun i=>NI - i) 0 ?_ (by omega) ?_
   .refine (aD.kD 10 902 4 1 rfl rfl).trans ?_;refine bz fw
   .intro i hi;have tw:=ach i
    have b7:((RS.take i).map fun b=>[D.v (.bool b)]).length=i:=by simp;omega
    generalize kL:RS.take i=RI at tw b7 ⊢;refine Ys fw [0,1,6,7,8,9,10,33,34,44,45,46] [800,902] ?_;refine ae fun K7 Zl=>?_;by_cases Zz:i < NI
    .refine Yx (by simp<;>omega) ?_;refine ar (Zl _ ?_);refine ae fun K8 cU=>?_;refine YF ?_;have acg:=tw Zz;have PU:=A7 i Zz;have OD:=pO i;have N0:=bT (Di i);generalize Di i=II at *;generalize EE i=ee at *;refine Ys fw [0,1,6,7,8,9,10,11,33,34,44,45] [800,902] ?_;refine aW fw PU [0,1,6,7,8,9,10,12,13,33,34,44,45] [800,902] ?_;refine ae fun K9 iD=>?_;refine Ys fw [0,1,6,7,8,9,10,12,33,34,44,45,56] [800,902] ?_;refine ag rfl ?_;refine ar (iD _ ?_);refine uV (au _) (by kernel_rfl) ([(10,(902,67))]) ([]) (List.range 12) (by kernel_rfl) fun K' Yu=>?_;(repeat (refine gg rfl fun K2 aa=>?_;simp[dS,b7,List.take_of_length_le];(repeat (refine⟨by omega,?_⟩));refine aa _ ?_;clear aa K2));refine gg rfl fun K2 aa=>?_;simp[dS,b7,List.take_of_length_le];refine aaj.mk (N0) (by simp;rfl) (by simp;rfl) (by first | exact D.YG _ | simp[aQ,List.map_map,Function.comp_def,D.le,D.le.go,D.le_refl,D.YG,dS,b7,List.take_of_length_le]) (by simp) ?_;refine aa _ ?_;clear aa K2;simp only[aw,cJ];(repeat (refine gg rfl fun K2 aa=>?_;simp[dS,b7,List.take_of_length_le];(repeat (refine⟨by omega,?_⟩));refine aa _ ?_;clear aa K2));refine gg rfl fun K2 aa=>?_;simp[dS,b7,List.take_of_length_le];refine aaj.mk (zY) (by simp;rfl) (by simp;rfl) (by first | exact D.YG _ | simp[aQ,List.map_map,Function.comp_def,D.le,D.le.go,D.le_refl,D.YG,dS,b7,List.take_of_length_le]) (by simp) ?_;refine aa _ ?_;clear aa K2;simp only[aw,cJ];(repeat (refine gg rfl fun K2 aa=>?_;simp[dS,b7,List.take_of_length_le];(repeat (refine⟨by omega,?_⟩));refine aa _ ?_;clear aa K2));refine gg rfl fun K2 aa=>?_;simp[dS,b7,List.take_of_length_le];refine aaj.mk (OD) (by simp;rfl) (by simp;rfl) (by first | exact D.YG _ | simp[aQ,List.map_map,Function.comp_def,D.le,D.le.go,D.le_refl,D.YG,dS,b7,List.take_of_length_le]) (by simp) ?_;refine aa _ ?_;clear aa K2;simp only[aw,cJ];(repeat (refine gg rfl fun K2 aa=>?_;simp[dS,b7,List.take_of_length_le];(repeat (refine⟨by omega,?_⟩));refine aa _ ?_;clear aa K2));refine o6 (Yu _ ?_);clear Yu K';refine cU _ (AW.norm [0,1,6,7,8,9,10,33,34,44,45] [800,902] (fun _ _=>trivial) (AW.st (by simp[dS,b7,List.take_of_length_le];rfl) ?_));refine b8 fw ?_;(try simp only[YC,bd]);refine bo.mk (i+1) (by omega) (by omega) ?_;rw[acg];refine bz fw
    .obtain rfl:i=NI:=by omega
     have zR:RI=RS:=by rw[<- kL];exact List.take_of_length_le (by omega)
     subst zR;refine ag (by simp) ?_;refine bY (dB _ ?_);refine AW.imp (aD.freeze 902 trivial) ?_;refine AW.st (by simp[dS,b7,List.take_of_length_le];rfl) ?_;refine ZD (au _) fun K' Yu=>?_;(repeat (refine aP fun K2 aa=>?_;simp[dS,vO,List.take_of_length_le];(repeat (refine⟨by omega,?_⟩));refine aa _ ?_;clear aa K2));refine YM (Yu _ ?_);clear Yu K';refine b4 _ (AW.norm [0,1,6,7,33,34] [800] (fun _ _=>trivial) (AW.st (by simp[dS,vO,List.take_of_length_le];rfl) ?_));refine b8 fw ?_;(try simp only[YC,bd]);refine bo.mk (s+1) (by omega) (by omega) ?_;rw[OM];refine bz fw
  .obtain rfl:s=N:=by omega
   have Nh:GS=GD:=by rw[<- Ni];exact List.take_of_length_le (by omega)
   subst Nh;refine ag (by simp) ?_;refine bY (bf _ ?_);refine AW.imp (aD.freeze 800 trivial) ?_;refine AW.st (by simp[dS,vO,List.take_of_length_le];rfl) ?_;refine Ys fw [4,5] [] ?_;exact aY fw
end Go.Proofs.YtdigkhaofjmgkaaGreatDoor
namespace Go.Av
section
variable {P:Program} {T:Ty} {Mv X:Nat->Prop} {G:Yt} {N:Fr} {ops:Array Oper} {σ:St}
def tP:Op->Bool
 | .call { callee:=.builtin .copy,.. }=>true
 | _=>false
theorem yV {o:Oper} (ho:tP o.op=true) {e e':Env} {H:Heap} {c:Prop} {x:AV} {ay:St} (ha:dz o.op e e') (h:wr T G Mv ⟨e,H⟩ o=some (c,x,ay)):ay.env=e/\wr T G Mv ⟨e',H⟩ o=some (c,x,⟨e',ay.H⟩):=by
 obtain⟨dst,op,type,pos,after,guard⟩:=o;dsimp only at ho ha;unfold tP at ho;split at ho
 .rename_i args argTypes;unfold wr at h ⊢;dsimp only at h ⊢
  cases dst with
  | none=>cases h
  | some d=>
   dsimp only at h ⊢;split at h
   .rename_i x0 y0 t t' vR zU;have e1:args = #[x0,y0]:=Array.toList_inj.1 vR;subst e1;have hx:aT G e x0=aT G e' x0:=cG fun t ht=>ha t (by simp[Op.operands,Call.operands,ht]);have hy:aT G e y0=aT G e' y0:=cG fun t ht=>ha t (by simp[Op.operands,Call.operands,ht]);rw[hx,hy]at h;split at h
    .rename_i tt YO
     try rw[YO]
     try dsimp only
     split at h
     .rename_i el hd
      try rw[hd]
      try dsimp only
      split at h
      .rename_i te r off n v h1 h2 h3
       try rw[h1,h2,h3]
       try dsimp only
       split at h
       .rename_i ty sz els news g1 g2
        try rw[g1,g2]
        simp only[Option.some.injEq,Prod.mk.injEq]at h;obtain⟨rfl,rfl,rfl⟩:=h;exact⟨rfl,rfl⟩
       .cases h
      .rename_i te k v h1 h2 h3
       try rw[h1,h2,h3]
       try dsimp only
       split at h
       .rename_i news g1
        try rw[g1]
        simp only[Option.some.injEq,Prod.mk.injEq]at h;obtain⟨rfl,rfl,rfl⟩:=h;exact⟨rfl,rfl⟩
       .cases h
      .cases h
     .cases h
    .cases h
   .cases h
 .cases ho
def yb (P:Program) (T:Ty) (Mv:Nat->Prop) (G:Yt) (N:Fr) (cp:List Nat) (ops:Array Oper) (i:Nat) (o:Oper) (σ af:St):Prop:=
 (cp.contains i=true/\cZ N o/\o.guard=none/\YK o.op=none/\dk o.op=true/\tP o.op=true/\∃ c x ay,wr T G Mv σ o=some (c,x,ay)/\c/\af=⟨aw ay.env o.dst x,ay.H⟩)\/
 (cp.contains i=false/\jX P T Mv G N [] [] [] [] ops i o σ af)
def vk (cp:List Nat) (ops:Array Oper) (i j:Nat) (oi oj:Oper):Bool:=
 if cp.contains i then !cp.contains j && kindOf oj.op == 0 && oi.apart ops oj else if cp.contains j then kindOf oi.op == 0 && oi.apart ops oj else sj [] [] [] ops i j oi oj
theorem LK (hg:Good P T) (cp:List Nat):Sound P X G N Mv (yb P T Mv G N cp ops) ops:=fun i o ho σ af h w μ a hi Q K hk=>by
 rcases h with⟨_,hd,YL,hc,hw,_,c,x,ay,h1,h2,rfl⟩ | ⟨_,h⟩
 .refine qq hg ⟨hd,.inl ⟨fU YL,?_⟩⟩ hi ho hk;unfold iB;simp only[hc];rw[if_pos hw];exact⟨c,x,ay,h1,h2,rfl⟩
 .exact xl hg [] [] [] [] i o ho _ _ h w μ a hi hk
theorem Hk {i:Nat} {o:Oper} {σ af:St} (hk:kindOf o.op=0) (h:jX P T Mv G N [] [] [] [] ops i o σ af):cZ N o/\o.guard=none/\∃ x,Ex P T Mv G o σ.env σ.H x σ.H/\af=⟨aw σ.env o.dst x,σ.H⟩:=by
 obtain⟨hd,YL,_,h⟩:=h
 rcases h with⟨b,_⟩ | ⟨_,b,_⟩ | ⟨_,_,k1,_,x,H',e1,_,rfl⟩
 .cases b
 .cases b
 .obtain rfl:=e1.keeps (by omega);exact⟨hd,YL,x,e1,rfl⟩
theorem Hl {i:Nat} {o:Oper} {e:Env} {H:Heap} {x:AV} (hk:kindOf o.op=0) (hd:cZ N o) (YL:o.guard=none) (h:Ex P T Mv G o e H x H):jX P T Mv G N [] [] [] [] ops i o ⟨e,H⟩ ⟨aw e o.dst x,H⟩:=
 ⟨hd,YL,(fun r hr=>by cases hr),.inr (.inr ⟨rfl,rfl,by omega,(by simp[jf,List.lookup]),x,H,h,(fun r hr=>by cases hr),rfl⟩)⟩
theorem adG (cp:List Nat):nX (yb P T Mv G N cp ops) (vk cp ops) ops:=fun i j oi oj YI ba hc σ ay Y6 h1 h2=>by
 unfold vk at hc
 have fact:∀ (YU:oi.apart ops oj=true),(∀ v,dz oj.op (aw σ.env oi.dst v) σ.env)/\(∀ v,dz oi.op σ.env (aw σ.env oj.dst v))/\_:=fun YU=>
  ⟨fun v t ht=>(eG YU (e:=σ.env) (v:=v)).1 t (fB ht),fun v t ht=>((eG YU (e:=σ.env) (v:=v)).2.1 t (fB ht)).symm,(eG YU (e:=σ.env) (v:=bX)).2.2⟩
 rcases h1 with⟨ai,di,gi,ci,wi,yi,c,x,τ,w1,cc,rfl⟩ | ⟨ai,h1⟩
 .rw[if_pos ai]at hc;simp only[Bool.and_eq_true,Bool.not_eq_true',beq_iff_eq]at hc;obtain⟨⟨aj,kj⟩,YU⟩:=hc;obtain⟨cC,cN,aG⟩:=fact YU
  rcases h2 with⟨bj,_⟩ | ⟨_,h2⟩
  .rw[aj]at bj;cases bj
  obtain⟨dj,gj,z,e2,rfl⟩:=Hk kj h2;have hσ:wr T G Mv ⟨σ.env,σ.H⟩ oi=some (c,x,τ):=w1;obtain⟨he,_⟩:=yV (e':=σ.env) yi (fun t ht=>rfl) hσ;rw[he]at e2 ⊢;have e3:Ex P T Mv G oj σ.env σ.H z σ.H:=(e2.congr (by omega) (cC _)).free kj σ.H;refine⟨⟨aw σ.env oj.dst z,σ.H⟩,.inr ⟨aj,Hl kj dj gj e3⟩,.inl ⟨ai,di,gi,ci,wi,yi,c,x,_,(yV yi (cN z) hσ).2,cc,?_⟩⟩;dsimp only;rw[Zk aG]
 .rw[if_neg (by rw[ai];decide)]at hc
  rcases h2 with⟨bj,dj,gj,cj,wj,yj,c,x,τ,w1,cc,rfl⟩ | ⟨bj,h2⟩
  .rw[if_pos bj]at hc;simp only[Bool.and_eq_true,beq_iff_eq]at hc;obtain⟨ki,YU⟩:=hc;obtain⟨cC,cN,aG⟩:=fact YU;obtain⟨di,gi,z,e1,rfl⟩:=Hk ki h1;obtain⟨he,w2⟩:=yV yj (cC z) w1;refine⟨⟨aw σ.env oj.dst x,τ.H⟩,.inl ⟨bj,dj,gj,cj,wj,yj,c,x,_,w2,cc,rfl⟩,.inr ⟨ai,?_⟩⟩;have e3:Ex P T Mv G oi (aw σ.env oj.dst x) τ.H z τ.H:=(e1.congr (by omega) (cN x)).free ki τ.H;rw[he,Zk aG];exact Hl ki di gi e3
  .rw[if_neg (by rw[bj];decide)]at hc;obtain⟨dy,f1,f2⟩:=BX [] [] [] [] i j oi oj YI ba hc σ ay Y6 h1 h2;exact⟨dy,.inr ⟨bj,f1⟩,.inr ⟨ai,f2⟩⟩
def uF (P:Program) (T:Ty) (Mv:Nat->Prop) (G:Yt) (N:Fr) (cp:List Nat) (ops:Array Oper) (i:Nat) (o:Oper) (σ:St) (K:St->Prop):Prop:=
 if cp.contains i=true then cZ N o/\o.guard=none/\YK o.op=none/\dk o.op=true/\tP o.op=true/\match wr T G Mv σ o with
  | some (c,x,ay)=>c/\K ⟨aw ay.env o.dst x,ay.H⟩
  | none=>False
 else rX P T Mv G N [] [] [] [] ops i o σ K
def nJ (P:Program) (T:Ty) (Mv:Nat->Prop) (G:Yt) (N:Fr) (cp:List Nat) (ops:Array Oper) (K:St->Prop):List (Nat×Oper)->St->Prop
 | [],σ=>K σ
 | (i,o) :: rest,σ=>uF P T Mv G N cp ops i o σ (nJ P T Mv G N cp ops K rest)
theorem VS {cp:List Nat} {K:St->Prop}:∀ (l:List Nat) (σ:St),(∀ i∈l,i < ops.size)->nJ P T Mv G N cp ops K (YA ops l) σ->∃ aX,K aX/\fT (yb P T Mv G N cp ops) ops l σ aX:=by
 intro l
 induction l with
 | nil=>intro σ _ h;exact⟨σ,h,rfl⟩
 | cons i l ih=>
  intro σ hl h;have hi:=hl i (by simp)
  have ho:ops[i]? = some ops[i]:=by simp[hi]
  have ax:YA ops (i :: l)=(i,ops[i]) :: YA ops l:=by simp[YA,hi]
  rw[ax]at h;have h:uF P T Mv G N cp ops i ops[i] σ (nJ P T Mv G N cp ops K (YA ops l)):=h;unfold uF at h;split at h
  .rename_i ha;obtain⟨hd,YL,hc,hw,hy,h⟩:=h;split at h
   .rename_i c x ay h1;obtain⟨bL,h⟩:=h;obtain⟨aX,hk,hr⟩:=ih _ (fun j hj=>hl j (by simp[hj])) h;exact⟨aX,hk,_,ho,_,.inl ⟨ha,hd,YL,hc,hw,hy,c,x,ay,h1,bL,rfl⟩,hr⟩
   .exact h.elim
  .rename_i ha
   have s8:YA ops [i]=[(i,ops[i])]:=by simp[YA,hi]
   have hm:qt P T Mv G N [] [] [] [] ops (nJ P T Mv G N cp ops K (YA ops l)) (YA ops [i]) σ:=by rw[s8];exact h
   obtain⟨ay,Y2,o',Y9,uQ,hs,hr1⟩:=CP [i] σ (by simpa using hi) (fun r hr=>by cases hr) hm;have hr1:uQ=ay:=hr1;subst hr1;obtain⟨aX,hk,hr⟩:=ih _ (fun j hj=>hl j (by simp[hj])) Y2;exact⟨aX,hk,o',Y9,_,.inr ⟨by simpa using ha,hs⟩,hr⟩
theorem J1 (hg:Good P T) (hm:P.follows .mixedOrders=true) (cp:List Nat) (ord:List Nat) {id:Nat} (bp:kZ (vk cp ops) ord ops=true) {Q:Exit->St->Prop} (h:nJ P T Mv G N cp ops (fun af=>Q .normal af) (YA ops ord) σ):AW P Mv X G N (.region id ops true) Q σ:=
 uT hm (LK hg cp) (adG cp) ord bp fun Yv=>VS ord σ Yv h
theorem JX (hg:Good P T) (hm:P.follows .mixedOrders=true) (cp:List Nat) (ord:List Nat) {id:Nat} (bp:kZ (vk cp ops) ord ops=true) {Q:Exit->St->Prop}
  (h:∀ K:St->Prop,(∀ τ:St,Q .normal τ->K τ)->nJ P T Mv G N cp ops K (YA ops ord) σ):AW P Mv X G N (.region id ops true) Q σ:=J1 hg hm cp ord bp (h _ fun _ h=>h)
theorem VQ {cp:List Nat} {K:St->Prop} {i:Nat} {l:List Nat} {o:Oper} (ho:ops[i]? = some o) (h:∀ K':St->Prop,(∀ τ,nJ P T Mv G N cp ops K (YA ops l) τ->K' τ)->uF P T Mv G N cp ops i o σ K'):nJ P T Mv G N cp ops K (YA ops (i :: l)) σ:=by
 have:YA ops (i :: l)=(i,o) :: YA ops l:=by simp[YA,ho]
 rw[this];exact h _ fun _ h=>h
theorem VR {cp:List Nat} {K:St->Prop} (h:K σ):nJ P T Mv G N cp ops K (YA ops []) σ:=h
end
attribute [simp] uF tP
end Go.Av
namespace Go.Av
section
variable {P:Program} {T:Ty} {Mv X:Nat->Prop} {G:Yt} {N:Fr} {ops:Array Oper} {σ:St}
def yl (P:Program) (T:Ty) (Mv:Nat->Prop) (G:Yt) (N:Fr) (qc:List Nat) (ops:Array Oper) (i:Nat) (o:Oper) (σ af:St):Prop:=
 (qc.contains i=true/\cZ N o/\o.guard=none/\∃ c g xs y,YK o.op=some c/\ZC G σ.env c=some (g,xs)/\HC P G [] g xs σ.H (.d y) σ.H/\af=⟨aw σ.env o.dst (.d y),σ.H⟩)\/
 (qc.contains i=false/\jX P T Mv G N [] [] [] [] ops i o σ af)
def vm (qc:List Nat) (ops:Array Oper) (i j:Nat) (oi oj:Oper):Bool:=
 if qc.contains i then !qc.contains j && decide (kindOf oj.op<=1) && oi.apart ops oj else if qc.contains j then decide (kindOf oi.op<=1) && oi.apart ops oj else sj [] [] [] ops i j oi oj
theorem Uj (hg:Good P T) (qc:List Nat):Sound P X G N Mv (yl P T Mv G N qc ops) ops:=fun i o ho σ af h w μ a hi Q K hk=>by
 rcases h with⟨_,hd,YL,c,g,xs,y,hc,ht,gq,rfl⟩ | ⟨_,h⟩
 .have dt:∀ d,o.dst=some d->d < N.n:=fun d e=>by unfold cZ at hd;rw[e]at hd;exact hd
  unfold wpOpIn;simp only[ho];rw[o9 hi (fU YL),if_pos rfl];refine (sB (Mv:=Mv) (K:=fun ay=>ay=⟨aw σ.env o.dst (.d y),σ.H⟩) hg hi dt ?_ fun w' ak a' ay e ax aB=>hk w' ak a' (e ▸ ax) aB);unfold Z3;simp only[hc,ht]
  exact (gq Mv X N σ.env (fun r hr=>by cases hr) (fun r hr=>by cases hr)).mono fun x af ⟨e1,e2⟩=>by rw[e1,e2]
 .exact xl hg [] [] [] [] i o ho _ _ h w μ a hi hk
theorem Hn {i:Nat} {o:Oper} {σ af:St} (hk:kindOf o.op<=1) (h:jX P T Mv G N [] [] [] [] ops i o σ af):cZ N o/\o.guard=none/\∃ x,Ex P T Mv G o σ.env σ.H x σ.H/\af=⟨aw σ.env o.dst x,σ.H⟩:=by
 obtain⟨hd,YL,_,h⟩:=h
 rcases h with⟨b,_⟩ | ⟨_,b,_⟩ | ⟨_,_,k1,_,x,H',e1,_,rfl⟩
 .cases b
 .cases b
 .obtain rfl:=e1.keeps (by omega);exact⟨hd,YL,x,e1,rfl⟩
theorem Hm {i:Nat} {o:Oper} {e:Env} {H:Heap} {x:AV} (hk:kindOf o.op<=1) (hd:cZ N o) (YL:o.guard=none) (h:Ex P T Mv G o e H x H):jX P T Mv G N [] [] [] [] ops i o ⟨e,H⟩ ⟨aw e o.dst x,H⟩:=
 ⟨hd,YL,(fun r hr=>by cases hr),.inr (.inr ⟨rfl,rfl,by omega,(by simp[jf,List.lookup]),x,H,h,(fun r hr=>by cases hr),rfl⟩)⟩
theorem Uk (qc:List Nat):nX (yl P T Mv G N qc ops) (vm qc ops) ops:=fun i j oi oj YI ba hc σ ay Y6 h1 h2=>by
 unfold vm at hc;have tg:∀ {o:Oper} {c:Call} {e e':Env},YK o.op=some c->dz o.op e e'->ZC G e c=ZC G e' c:=fun {o c e e'} hc ha=>qu fun t ht=>ha t (by rw[(abj hc).1];exact ht)
 have fact:∀ (YU:oi.apart ops oj=true),(∀ v,dz oj.op (aw σ.env oi.dst v) σ.env)/\(∀ v,dz oi.op σ.env (aw σ.env oj.dst v))/\_:=fun YU=>
  ⟨fun v t ht=>(eG YU (e:=σ.env) (v:=v)).1 t (fB ht),fun v t ht=>((eG YU (e:=σ.env) (v:=v)).2.1 t (fB ht)).symm,(eG YU (e:=σ.env) (v:=bX)).2.2⟩
 rcases h1 with⟨ai,di,gi,c,g,xs,y,ci,ti,bO,rfl⟩ | ⟨ai,h1⟩
 .rw[if_pos ai]at hc;simp only[Bool.and_eq_true,Bool.not_eq_true',decide_eq_true_eq]at hc;obtain⟨⟨aj,kj⟩,YU⟩:=hc;obtain⟨cC,cN,aG⟩:=fact YU
  rcases h2 with⟨bj,_⟩ | ⟨_,h2⟩
  .rw[aj]at bj;cases bj
  obtain⟨dj,gj,z,e2,rfl⟩:=Hn kj h2;have e3:Ex P T Mv G oj σ.env σ.H z σ.H:=e2.congr (by omega) (cC _);refine⟨⟨aw σ.env oj.dst z,σ.H⟩,.inr ⟨aj,Hm kj dj gj e3⟩,.inl ⟨ai,di,gi,c,g,xs,y,ci,?_,bO,?_⟩⟩
  .rw[<- tg ci (cN z)];exact ti
  .dsimp only;rw[Zk aG]
 .rw[if_neg (by rw[ai];decide)]at hc
  rcases h2 with⟨bj,dj,gj,c,g,xs,y,cj,tj,bO,rfl⟩ | ⟨bj,h2⟩
  .rw[if_pos bj]at hc;simp only[Bool.and_eq_true,decide_eq_true_eq]at hc;obtain⟨ki,YU⟩:=hc;obtain⟨cC,cN,aG⟩:=fact YU;obtain⟨di,gi,z,e1,rfl⟩:=Hn ki h1;have e3:Ex P T Mv G oi (aw σ.env oj.dst (.d y)) σ.H z σ.H:=e1.congr (by omega) (cN _);refine⟨⟨aw σ.env oj.dst (.d y),σ.H⟩,.inl ⟨bj,dj,gj,c,g,xs,y,cj,?_,bO,rfl⟩,.inr ⟨ai,?_⟩⟩
   .rw[<- tg cj (cC z)];exact tj
   .dsimp only;rw[Zk aG];exact Hm ki di gi e3
  .rw[if_neg (by rw[bj];decide)]at hc;obtain⟨dy,f1,f2⟩:=BX [] [] [] [] i j oi oj YI ba hc σ ay Y6 h1 h2;exact⟨dy,.inr ⟨bj,f1⟩,.inr ⟨ai,f2⟩⟩
theorem F2 {a b:List (Nat×Row)} (h1:∀ p∈a,List.lookup p.1 a=List.lookup p.1 b) (h2:∀ p∈b,List.lookup p.1 a=List.lookup p.1 b):ah a=ah b:=by
 funext q;unfold ah
 have ml:∀ (l:List (Nat×Row)),(∀ p∈l,p.1≠q)->List.lookup q l=none:=by
  intro l
  induction l with
  | nil=>intro _;rfl
  | cons p l ih=>
   intro h;rw[List.lookup_cons]
   have:(q == p.1)=false:=by
    rw[beq_eq_false_iff_ne];exact fun e=>h p (by simp) e.symm
   rw[this];exact ih fun p hp=>h p (by simp[hp])
 by_cases ha:∃ p∈a,p.1=q
 .obtain⟨p,hp,rfl⟩:=ha;exact h1 p hp
 .by_cases hb:∃ p∈b,p.1=q
  .obtain⟨p,hp,rfl⟩:=hb;exact h2 p hp
  .rw[ml a fun p hp e=>ha ⟨p,hp,e⟩,ml b fun p hp e=>hb ⟨p,hp,e⟩]
def wG (P:Program) (G:Yt) (g:FuncId) (xs:List AV) (σ:St) (dst:Option Tmp) (K:St->Prop):Prop:=∃ y,HC P G [] g xs σ.H (.d y) σ.H/\K ⟨aw σ.env dst (.d y),σ.H⟩
theorem wG.mc {dst:Option Tmp} {K:St->Prop} {fx:List Nat} {g:FuncId} {ZL xs:List AV} {YD:List (Nat×Row)} {y:D} (hc:MC P G fx g xs (ah YD) (.d y) (ah YD)) (hx:ZL.map (AV.tr (cM (YD.map (·.1))) (cL (YD.map (·.1))))=xs)
  (hH:∀ p∈YD,(σ.H p.1).map (Row.tr (cM (YD.map (·.1))) (cL (YD.map (·.1))))=ah YD p.1) (hd:∀ p∈YD,(YD.map (·.1)).contains p.1=true\/σ.H p.1=none) (hm:∀ r∈YD.map (·.1),fx.contains r=false->r∈([]:List Nat))
  (hj:Z9 (ah YD) (cy (Zp (YD.map (·.1))) (ZK (YD.map (·.1)) fx) (gZ (YD.map (·.1)) fx) σ.H)=σ.H)
  (h:K ⟨aw σ.env dst (.d y),σ.H⟩):wG P G g ZL σ dst K:=by
 refine⟨y,?_,h⟩;have:=HC.mc (mvd:=[]) (H:=σ.H) hc hx hH hd hm;rw[hj]at this;exact this
def uH (P:Program) (T:Ty) (Mv:Nat->Prop) (G:Yt) (N:Fr) (qc:List Nat) (ops:Array Oper) (i:Nat) (o:Oper) (σ:St) (K:St->Prop):Prop:=
 if qc.contains i=true then cZ N o/\o.guard=none/\match YK o.op with
  | some c=>match ZC G σ.env c with
   | some (g,xs)=>wG P G g xs σ o.dst K
   | none=>False
  | none=>False
 else rX P T Mv G N [] [] [] [] ops i o σ K
def nN (P:Program) (T:Ty) (Mv:Nat->Prop) (G:Yt) (N:Fr) (qc:List Nat) (ops:Array Oper) (K:St->Prop):List (Nat×Oper)->St->Prop
 | [],σ=>K σ
 | (i,o) :: rest,σ=>uH P T Mv G N qc ops i o σ (nN P T Mv G N qc ops K rest)
theorem VY {qc:List Nat} {K:St->Prop}:∀ (l:List Nat) (σ:St),(∀ i∈l,i < ops.size)->nN P T Mv G N qc ops K (YA ops l) σ->∃ aX,K aX/\fT (yl P T Mv G N qc ops) ops l σ aX:=by
 intro l
 induction l with
 | nil=>intro σ _ h;exact⟨σ,h,rfl⟩
 | cons i l ih=>
  intro σ hl h;have hi:=hl i (by simp)
  have ho:ops[i]? = some ops[i]:=by simp[hi]
  have ax:YA ops (i :: l)=(i,ops[i]) :: YA ops l:=by simp[YA,hi]
  rw[ax]at h;have h:uH P T Mv G N qc ops i ops[i] σ (nN P T Mv G N qc ops K (YA ops l)):=h;unfold uH at h;split at h
  .rename_i ha;obtain⟨hd,YL,h⟩:=h;split at h
   .rename_i c hc;split at h
    .rename_i g xs ht;obtain⟨y,bO,h⟩:=h;obtain⟨aX,hk,hr⟩:=ih _ (fun j hj=>hl j (by simp[hj])) h;exact⟨aX,hk,_,ho,_,.inl ⟨ha,hd,YL,c,g,xs,y,hc,ht,bO,rfl⟩,hr⟩
    .exact h.elim
   .exact h.elim
  .rename_i ha
   have s8:YA ops [i]=[(i,ops[i])]:=by simp[YA,hi]
   have hm:qt P T Mv G N [] [] [] [] ops (nN P T Mv G N qc ops K (YA ops l)) (YA ops [i]) σ:=by rw[s8];exact h
   obtain⟨ay,Y2,o',Y9,uQ,hs,hr1⟩:=CP [i] σ (by simpa using hi) (fun r hr=>by cases hr) hm;have hr1:uQ=ay:=hr1;subst hr1;obtain⟨aX,hk,hr⟩:=ih _ (fun j hj=>hl j (by simp[hj])) Y2;exact⟨aX,hk,o',Y9,_,.inr ⟨by simpa using ha,hs⟩,hr⟩
theorem J5 (hg:Good P T) (hm:P.follows .mixedOrders=true) (qc:List Nat) (ord:List Nat) {id:Nat} (bp:kZ (vm qc ops) ord ops=true) {Q:Exit->St->Prop} (h:nN P T Mv G N qc ops (fun af=>Q .normal af) (YA ops ord) σ):AW P Mv X G N (.region id ops true) Q σ:=
 uT hm (Uj hg qc) (Uk qc) ord bp fun Yv=>VY ord σ Yv h
theorem Ka (hg:Good P T) (hm:P.follows .mixedOrders=true) (qc:List Nat) (ord:List Nat) {id:Nat} (bp:kZ (vm qc ops) ord ops=true) {Q:Exit->St->Prop}
  (h:∀ K:St->Prop,(∀ τ:St,Q .normal τ->K τ)->nN P T Mv G N qc ops K (YA ops ord) σ):AW P Mv X G N (.region id ops true) Q σ:=J5 hg hm qc ord bp (h _ fun _ h=>h)
theorem CQ {qc:List Nat} {K:St->Prop} {i:Nat} {l:List Nat} {o:Oper} (ho:ops[i]? = some o) (h:∀ K':St->Prop,(∀ τ,nN P T Mv G N qc ops K (YA ops l) τ->K' τ)->uH P T Mv G N qc ops i o σ K'):nN P T Mv G N qc ops K (YA ops (i :: l)) σ:=by
 have:YA ops (i :: l)=(i,o) :: YA ops l:=by simp[YA,ho]
 rw[this];exact h _ fun _ h=>h
theorem VX {qc:List Nat} {K:St->Prop} (h:K σ):nN P T Mv G N qc ops K (YA ops []) σ:=h
end
attribute [simp] uH
