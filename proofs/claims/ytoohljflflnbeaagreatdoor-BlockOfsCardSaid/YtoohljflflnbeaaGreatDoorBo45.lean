/- Parts. -/
import Derived.Test.YtoohljflflnbeaaGreatDoorBo44
set_option linter.unusedSimpArgs false
set_option linter.unusedVariables false
set_option maxHeartbeats 32000000
set_option maxRecDepth 100000
open Go.Proofs.Tryz
namespace Go.Proofs.YtoohljflflnbeaaGreatDoor
open Go.Av
theorem TT (G:aC) (L:List (List D)):aD prog G 44 [.v (.pointer none),.sl none L] (.bx [.agg [.sl none [],.sl none []],.bZ 50 (.v (.int .i64 7))]):=by
 refine aD.aQ (aB _) func44 rfl rfl (rs:=[.cell 4 95,.tmp 5]) results44 (by simp[ntmps44]) fun X=>?_;simp only[ntmps44,List.map];refine aq [0,1,4] [4] ?_;refine ag fun K1 aF=>aq [0,1,4,20] [4] ?_;refine aI (aq [4,5] [4] ?_);exact gw
theorem TS (G:aC) (p:aP) (L:List (List D)) (hl:12 < L.length):aD prog G 44 [rf p,.sl none L] (.bx [.agg [.sl none [],.sl none []],.bZ 50 (.v (.int .i64 4))]):=by
 have gC:(12:Int) < (L.length:Int):=aa
 simp only[rf,pU,rU];refine aD.aQ (aB _) func44 rfl rfl (rs:=[.cell 4 95,.tmp 5]) results44 (by simp[ntmps44]) fun X=>?_;simp only[ntmps44,List.map];refine aq [0,1,4] [4] ?_;refine ag fun K1 aF=>aq [0,1,4,20] [4] ?_;refine al (ar (aF _ ?_));refine ag fun K2 au=>?_;have qf:=@gC;refine ay [0,1,4,32] [4] ?_;refine cm (by simp[gC]) (aq [4,5] [4] ?_);exact gw
def Ax (p:aP) (l:List Tx):D:=if l.any (fun s=>decide (bH p s < 0))=true then .bx [.agg [.sl none [],.sl none []],.bZ 50 (.v (.int .i64 7))]
 else .bx [.agg [.sl none (cW (ef p)),.sl none (cW (gx p (cu p l)))],.v .nilIface]
theorem PS {p:aP} {l:List Tx} {i:Nat} (h:i < l.length):(cu p l).take (i+1)=(cu p l).take i ++ [bH p l[i]]:=by
 rw[agB (by simpa[cu]using h)];simp[cu]
theorem abJ {p:aP} {s:Nat} (h:s < (ef p).length):(cW (ef p))[s]? = some [gg (ef p)[s]]:=by simp[cW,h]
theorem JP {L:List (List Int)} {s:Nat} (h:s < L.length):cW (L.take (s+1))=cW (L.take s) ++ [[gg L[s]]]:=by
 rw[agB h,cW,cW,agV];rfl
theorem TR (G:aC) (p:aP) (aZ:dr p=none) (hk:∀ r∈p.ax,mR r) (l:List Tx) (hl:l.length<=12) (hP:b6 (bU p)<=500) (aS:(aY p).length<=4):aD prog G 44 [rf p,.sl none (l.map fun s=>[dS s])] (Ax p l):=by
 have hg:=iB aZ;have fy:=hg.names;have Hn:0 < b6 (bU p):=sB fun x hx=>(rM hg hx).m2;have XF:eZ p<=16:=I4 aS;have b5:=fun s=>vn G p aa s;have BS:=fun (s i:Nat) (h1:(s:Int) < b6 (bU p)) (h2:i < eZ p)=>adG G p aZ hk s i aa h1 h2;have dD:=fun (s i:Nat)=>(Dz aZ (sF aZ (s:Int)) (de i (aY p).length)).1.l1;have il:Ax p l=if l.any (fun s=>decide (bH p s < 0))=true then .bx [.agg [.sl none [],.sl none []],.bZ 50 (.v (.int .i64 7))] else .bx [.agg [.sl none (cW (ef p)),.sl none (cW (gx p (cu p l)))],.v .nilIface]:=rfl;generalize lk:Ax p l=res;rw[lk]at il;have yW:b6 (bU p)=(fS p:Int):=(Int.toNat_of_nonneg aa).symm;have eX:=fun s (h:s < (ef p).length)=>abJ h;have nh:=fun s (h:s < (ef p).length)=>JP h;have cL:=fun s (h:s < (gx p (cu p l)).length)=>JP h;have fN:(ef p).length=fS p:=Fc p;have kW:(gx p (cu p l)).length=fS p:=KN p _;have eY:=fun s (h:s < (ef p).length)=>(show (ef p)[s].length=eZ p by rw[JI h,CF];rfl);have lp:=fun s (h:s < (gx p (cu p l)).length)=>(show (gx p (cu p l))[s]=j0 p (cu p l) s by simp[gx]);have IA:=fun s i (h:i < eZ p)=>R3 (p:=p) (at':=cu p l) (s:=s) h;have BO:=fun s=>FW p (cu p l) s
 have pX:(cu p l).length=l.length:=by simp[cu]
 have Zn:(cW (ef p)).length=fS p:=by rw[zO,fN]
 have y4:∀ k (h:k < l.length),(cu p l)[k]? = some (bH p l[k]):=fun k h=>by simp[cu,h]
 have EC:∀ s i,z6 p (cu p l) s i=(iX (lW p (iW p s) (de i (aY p).length)).is (cu p l) (cu p l).length:Nat):=fun s i=>rfl;have Im:=fun i (h:i < l.length)=>PS (p:=p) h;have Il:∀ s:Tx,¬ bH p s < 0->∃ j:Nat,bH p s=(j:Int)/\j < p.names.length:=fun s h=>⟨(bH p s).toNat,(xR h).2,(xR h).1⟩;have Nv:=fun (r:List Int) (h:r.length < 2^40)=>VE G r h;rw[yW]at BS hP
 have Hn:0 < fS p:=aa
 simp only[rf,pU,rU,cj,fq,pa,gg,ab,iM,fH,fW,dS,s7,mh]at b5 BS eX nh cL Nv ⊢;simp only[yW]at BS ⊢;generalize (aY p).map (fun n=>[D.v (.int .i64 n)])=IN at *;generalize (bU p).map iZ=PT at *;generalize p.names.map bo=NN at *;generalize p.ax.map c8=RR at *;have afy:p.names.length<=12:=fy
 have MZ:(l.map fun s=>[D.v (.string (bs s))]).length=l.length:=ak
 have D8:∀ i (h:i < l.length),(l.map fun s=>[D.v (.string (bs s))])[i]? = some [.v (.string (bs l[i]))]:=fun i h=>by simp[h]
 generalize (l.map fun s=>[D.v (.string (bs s))])=LL at *
 have M0:¬ (12:Int) < (LL.length:Int):=aa
 have Nf:¬ (500:Int) < ((fS p:Nat):Int):=aa
 obtain⟨M,hM⟩:∃ M:D,M = .ip [.sl none NN,.sl none RR,.v (.int .i64 ((fS p:Nat):Int)),.v (.int .i64 ((eZ p:Nat):Int)),.sl none (cW (ef p)),.sl none PT,.sl none IN]:=⟨_,rfl⟩;refine aD.aQ (aB _) func44 rfl rfl (rs:=[.cell 4 95,.tmp 5]) results44 (by simp[ntmps44]) fun X=>?_;simp only[ntmps44,List.map];refine aq [0,1,4] [4] ?_;refine ag fun K1 aF=>aq [0,1,4,20] [4] ?_;refine al (ar (aF _ ?_));refine ag fun K2 au=>?_;have qf:=(Aq @M0 @Nf);refine ay [0,1,4,32] [4] ?_;refine cw (by simp[M0,Nf]<;>omega) ?_;refine ar (au _ (aq [0,1,4,6] [4] ?_));refine ag fun K3 aU=>?_;refine aq [0,4,6,35,36,37] [4] ?_;refine cy (S:=Nat) (fun i=>i<=l.length/\∀ k (hk:k < l.length),k < i->¬ bH p l[k] < 0) (fun i=>⟨bn [(0,.d (.ip [.sl none NN,.sl none RR,.v (.int .i64 ((fS p:Nat):Int)),.v (.int .i64 ((eZ p:Nat):Int)),.sl none (cW (ef p)),.sl none PT,.sl none IN])),(4,.ref 4 0 0),(6,.own 90 0 i),(35,.d (.sl none LL)),(36,int LL.length),(37,int i)],aw [(4,.box 95 [.d (.sl (some false) []),.d (.sl (some false) [])]),(90,.sl 3 1 (((cu p l).take i).map fun n=>[.v (.int .i64 n)]))]⟩) (fun i=>l.length - i) 0 ?_ ⟨aa,fun k _ h=>absurd h aa⟩ ?_
 .refine (aK.kC 6 90 3 1 rfl rfl).trans ?_;refine cI
 .rintro i ⟨hi,r8⟩
  have eb:(((cu p l).take i).map fun n=>[D.v (.int .i64 n)]).length=i:=by simp;omega
  have eI:i=l.length->((cu p l).take i).map (fun n=>[D.v (.int .i64 n)])=(cu p l).map fun n=>[.v (.int .i64 n)]:=fun h=>by rw[sh aa]
  have dJ:∀ h:i < l.length,((cu p l).take (i+1)).map (fun n=>[D.v (.int .i64 n)])=((cu p l).take i).map (fun n=>[D.v (.int .i64 n)]) ++ [[.v (.int .i64 (bH p l[i]))]]:=fun h=>by rw[Im i h,agV];rfl
  generalize ((cu p l).take i).map (fun n=>[D.v (.int .i64 n)])=P1 at eb eI dJ ⊢;refine aq [0,4,6,35,36,37,38] [4,90] ?_;refine ag fun K4 ck=>eE (b:=i < LL.length) (by simp[D.le,D.le.go,aL]) (fun hc=>?_) (fun hc=>?_)
  .have aG:i < l.length:=aa
   have u1:LL[i]=[.v (.string (bs l[i]))]:=by
    have:=D8 i aG;rw[By hc]at this;exact AI this
   have jJ:=b5 l[i];have dJ:=dJ aG;have bY:bH p l[i] < 0->l.any (fun s=>decide (bH p s < 0))=true:=fun h=>ahp.2 ⟨_,OF aG,by simpa using h⟩
   have ka:¬ bH p l[i] < 0->∀ k (hk:k < l.length),k < i+1->¬ bH p l[k] < 0:=fun h k bC wZ=>by
    by_cases e:k=i
    .subst e;exact h
    .exact r8 k bC aa
   generalize bH p l[i]=nu at jJ dJ bY ka;generalize bs l[i]=nm at u1 jJ;refine ar (ck _ (ag fun K5 b9=>bd ?_));have qf:=(Aq @hc @u1);refine ay [0,4,6,8,35,36,37] [4,90] ?_;refine br trivial jJ [0,4,6,9,35,36,37] [4,90] ?_;refine ag fun K6 eH=>?_;by_cases lh:nu < 0
   .rw[if_pos (bY lh)]at il;rw[il];have qf:=@lh;refine ay [0,4,6,9,35,36,37,48] [4,90] ?_;refine cm (by simp[lh]) (aq [4,5] [4,90] ?_);exact gw
   .have qf:=@lh;refine ay [0,4,6,9,35,36,37,48] [4,90] ?_;refine cw (by simp[lh]<;>omega) ?_;refine ar (eH _ (eU (aB _) fun K' ao=>?_));(repeat refine aM fun Kq af=>?_;simp[eb,sh];(repeat refine⟨aa,?_⟩);refine af _ ?_);refine bK (ao _ ?_);refine b9 _ (AW.norm [0,4,6,35,36,37] [4,90] aN (AW.st (by simp[eb,sh];rfl) ?_));refine c6 ?_;(try simp only[aT,aV]);refine ba.mk (i+1) ⟨aa,ka lh⟩ aa ?_;rw[dJ];refine cI
  .have bl:i=l.length:=aa
   refine bW (aU _ ?_);rw[eI bl]at eb ⊢;have dy:∀ k (hk:k < l.length),¬ bH p l[k] < 0:=fun k hk=>r8 k hk aa
   have r7:¬ l.any (fun s=>decide (bH p s < 0))=true:=fun h=>by
    obtain⟨s,hs,h⟩:=ahp.1 h;obtain⟨k,bC,rfl⟩:=agG.1 hs;exact dy k bC (by simpa using h)
   rw[if_neg r7]at il;rw[il];clear b5 D8 dJ eI r8
   have AP:((cu p l).map fun n=>[D.v (.int .i64 n)]).length=l.length:=by simp[pX]
   have D1:∀ k (h:k < l.length),∃ j:Nat,j < p.names.length/\((cu p l).map fun n=>[D.v (.int .i64 n)])[k]? = some [.v (.int .i64 (j:Int))]/\∀ is,iX is (cu p l) (k+1)=iX is (cu p l) k+if is.getD j false then 2 ^ k else 0:=fun k h=>by
    obtain⟨j,hj,iQ⟩:=Il _ (dy k h);have h1:=y4 k h;refine⟨j,iQ,by simp[h1,hj],fun is=>?_⟩;rw[iX,show (cu p l).getD k 0=(j:Int) by rw[agw,h1,hj];rfl];rfl
   rw[pX]at EC;rw[bl]at eb ⊢;generalize ((cu p l).map fun n=>[D.v (.int .i64 n)])=AT at eb AP D1 ⊢;refine AW.imp (aK.freeze 90 trivial) ?_;refine AW.st (by simp[eb,sh];rfl) ?_;refine aq [0,4,6,10] [4,10] ?_;refine ag fun K7 eL=>aq [0,4,6,10,59,60] [4,10] ?_;generalize Hh:cW (ef p)=NX at eX Zn BS ⊢;refine cy (S:=Nat) (fun s=>s<=fS p) (fun s=>⟨bn [(0,.d (.ip [.sl none NN,.sl none RR,.v (.int .i64 ((fS p:Nat):Int)),.v (.int .i64 ((eZ p:Nat):Int)),.sl none NX,.sl none PT,.sl none IN])),(4,.ref 4 0 0),(6,.d (.sl none AT)),(10,.ref 10 0 0),(59,int (fS p)),(60,int s)],aw [(4,.box 95 [.d (.sl (some false) []),.d (.sl (some false) [])]),(10,.box 95 [.own 55 0 s,.own 65 0 s]),(55,.sl 41 1 (cW ((ef p).take s))),(65,.sl 41 1 (cW ((gx p (cu p l)).take s)))]⟩) (fun s=>fS p - s) 0 ?_ aa ?_
   .refine (aK.o7 10 0 55 41 1 rfl rfl rfl).trans ((aK.o7 10 1 65 41 1 rfl rfl rfl).trans ?_);refine bq @cW.eq_1
   .intro s hs
    have va:(cW ((ef p).take s)).length=s:=by rw[zO,agM];omega
    have pr:(cW ((gx p (cu p l)).take s)).length=s:=by rw[zO,agM];omega
    have N8:s=fS p->cW ((ef p).take s)=NX:=fun h=>by rw[sh aa,Hh]
    have BL:s=fS p->cW ((gx p (cu p l)).take s)=cW (gx p (cu p l)):=fun h=>by rw[sh aa]
    have nh:=nh s;have cL:=cL s;have eX:=eX s;have eY:=eY s;have lp:=lp s;generalize cW ((ef p).take s)=P5 at va N8 nh ⊢;generalize cW ((gx p (cu p l)).take s)=P6 at pr BL cL ⊢;refine aq [0,4,6,10,59,60,61] [4,10,55,65] ?_;refine ag fun K8 fA=>eE (b:=s < fS p) (by simp[D.le,D.le.go,aL]) (fun hc=>?_) (fun hc=>?_)
    .have nh:=nh aa;have cL:=cL aa;have eX:=eX aa;have eY:=eY aa;rw[lp aa]at cL
     have tY:s < NX.length:=aa
     rw[By tY]at eX;have yU:=AI eX;have cN:=Nv (ef p)[s] aa
     have ZM:(s:Int) < ((fS p:Nat):Int):=aa
     generalize ((ef p)[s]).map (fun n=>[D.v (.int .i64 n)])=RW at nh yU cN;clear eX lp eY;refine ar (fA _ (ag fun K9 jt=>bd (aq [0,4,6,10,11,59,60] [4,10,55,65] ?_)));refine aq [0,4,6,10,11,12,59,60] [4,10,55,65] ?_;refine ag fun ot e7=>aq [0,4,6,10,11,12,59,60,66,67] [4,10,55,65] ?_;refine cy (S:=Nat) (fun i=>i<=eZ p) (fun i=>⟨bn [(0,.d (.ip [.sl none NN,.sl none RR,.v (.int .i64 ((fS p:Nat):Int)),.v (.int .i64 ((eZ p:Nat):Int)),.sl none NX,.sl none PT,.sl none IN])),(4,.ref 4 0 0),(6,.d (.sl none AT)),(10,.ref 10 0 0),(11,int s),(12,.own 70 0 i),(59,int (fS p)),(60,int s),(66,int (eZ p)),(67,int i)],aw [(4,.box 95 [.d (.sl (some false) []),.d (.sl (some false) [])]),(10,.box 95 [.own 55 0 s,.own 65 0 s]),(55,.sl 41 1 P5),(65,.sl 41 1 P6),(70,.sl 3 1 (((j0 p (cu p l) s).take i).map fun n=>[.v (.int .i64 n)]))]⟩) (fun i=>eZ p - i) 0 ?_ aa ?_
     .refine (aK.kC 12 70 3 1 rfl rfl).trans ?_;refine cI
     .intro i hi
      have oM:(((j0 p (cu p l) s).take i).map fun n=>[D.v (.int .i64 n)]).length=i:=by rw[ag5,agM,BO];omega
      have xd:i=eZ p->((j0 p (cu p l) s).take i).map (fun n=>[D.v (.int .i64 n)])=(j0 p (cu p l) s).map fun n=>[.v (.int .i64 n)]:=fun h=>by rw[sh (by rw[BO];omega)]
      have mC:∀ h:i < eZ p,((j0 p (cu p l) s).take (i+1)).map (fun n=>[D.v (.int .i64 n)])=((j0 p (cu p l) s).take i).map (fun n=>[D.v (.int .i64 n)]) ++ [[.v (.int .i64 (z6 p (cu p l) s i))]]:=fun h=>by rw[IA s i h,agV];rfl
      generalize ((j0 p (cu p l) s).take i).map (fun n=>[D.v (.int .i64 n)])=P7 at oM xd mC ⊢;refine aq [0,4,6,10,11,12,59,60,66,67,68] [4,10,55,65,70] ?_;refine ag fun sR mj=>eE (b:=i < eZ p) (by simp[D.le,D.le.go,aL]) (fun hc=>?_) (fun hc=>?_)
      .have mC:=mC hc;rw[EC s i]at mC;have nj:=BS s i ZM hc;have dD:=dD s i;generalize (lW p (iW p (s:Int)) (de (i:Int) (aY p).length)).is=IS at nj dD mC
       have kT:(IS.map fun b=>[D.v (.bool b)]).length=p.names.length:=by rw[ag5,dD]
       have AR:∀ j (h:j < p.names.length),(IS.map fun b=>[D.v (.bool b)])[j]? = some [.v (.bool (IS.getD j false))]:=fun j h=>by
        rw[gV (by omega:j < IS.length)];simp[show j < IS.length by omega]
       generalize (IS.map fun b=>[D.v (.bool b)])=ID at nj kT AR;refine ar (mj _ (ag fun vY j9=>bd (aq [0,4,6,10,11,12,13,59,60,66,67] [4,10,55,65,70] ?_)));refine br trivial nj [0,4,6,10,11,12,14,15,59,60,66,67] [4,10,55,65,70] ?_;refine ag fun mT gp=>aq [0,4,6,10,11,12,14,15,59,60,66,67,78] [4,10,55,65,70] ?_;refine al (ar (gp _ ?_));refine aq [0,4,6,10,11,12,14,16,59,60,66,67] [4,10,55,65,70] ?_;refine ag fun yh rr=>aq [0,4,6,10,11,12,14,16,59,60,66,67,81,82,83] [4,10,55,65,70] ?_;refine cy (S:=Nat) (fun k=>k<=l.length) (fun k=>⟨bn [(0,.d (.ip [.sl none NN,.sl none RR,.v (.int .i64 ((fS p:Nat):Int)),.v (.int .i64 ((eZ p:Nat):Int)),.sl none NX,.sl none PT,.sl none IN])),(4,.ref 4 0 0),(6,.d (.sl none AT)),(10,.ref 10 0 0),(11,int s),(12,.own 70 0 i),(14,.d (.sl none ID)),(16,int (iX IS (cu p l) k)),(59,int (fS p)),(60,int s),(66,int (eZ p)),(67,int i),(81,.d (.sl none AT)),(82,int AT.length),(83,int k)],aw [(4,.box 95 [.d (.sl (some false) []),.d (.sl (some false) [])]),(10,.box 95 [.own 55 0 s,.own 65 0 s]),(55,.sl 41 1 P5),(65,.sl 41 1 P6),(70,.sl 3 1 P7)]⟩) (fun k=>l.length - k) 0 ?_ aa ?_
       .refine aK.fk aN (by simp[iX]) (by simp[iX])
       .intro k YZ;have hx:=KM IS (cu p l) k
        have IM:k=l.length->iX IS (cu p l) k=iX IS (cu p l) l.length:=fun h=>by rw[h]
        refine aq [0,4,6,10,11,12,14,16,59,60,66,67,81,82,83,84] [4,10,55,65,70] ?_;refine ag fun C7 tw=>eE (b:=k < AT.length) (by simp[D.le,D.le.go,aL]) (fun hc=>?_) (fun hc=>?_)
        .obtain⟨j,hj,tu,ke⟩:=D1 k aa;have ke:=ke IS;rw[By hc]at tu;have tu:=AI tu
         have iQ:j < ID.length:=aa
         have rq:=AR j hj;rw[By iQ]at rq;have rq:=AI rq
         have ff:k < 12:=aa
         have BT:=Rv (V:=k) aa;have ni:=aca hx ff;have hw:2 ^ k<=2 ^ 12:=ahG bO aa;generalize IS.getD j false=b at rq ke;generalize hy:iX IS (cu p l) (k+1)=y at ke;generalize iX IS (cu p l) k=x at hx ke ni ⊢;generalize 2 ^ k=w at hx ke ni BT hw;refine ar (tw _ (ag fun SP D6=>bd ?_));have qf:=(Aq @hc @tu);refine ay [0,4,6,10,11,12,14,16,17,18,59,60,66,67,81,82,83] [4,10,55,65,70] ?_;have qf:=(Aq @iQ @rq);refine ay [0,4,6,10,11,12,14,16,17,59,60,66,67,81,82,83,91] [4,10,55,65,70] ?_
         cases b with
         | true=>
          have ke:y=x+w:=ke;rw[<- ke]at ni;refine aI ?_;have qf:=(Aq @od.eq_1 (Aq @od.eq_2 (Aq @od.eq_3 (Aq @BT @ni))));refine eJ D6 [0,4,6,10,11,12,14,16,59,60,66,67,81,82,83] [4,10,55,65,70] ?_;refine c6 ?_;(try simp only[aT,aV]);refine ba.mk (k+1) aa aa ?_;rw[hy];refine cI
         | false=>
          have ke:y=x:=ke;subst ke;refine al (ar (D6 _ ?_));refine c6 ?_;(try simp only[aT,aV]);refine ba.mk (k+1) aa aa ?_;rw[hy];refine cI
        .refine bW (rr _ ?_);rw[IM aa];generalize iX IS (cu p l) l.length=x at mC ⊢;refine eU (aB _) fun K' ao=>?_;(repeat refine aM fun Kq af=>?_;simp[oM,sh];(repeat refine⟨aa,?_⟩);refine af _ ?_);refine bK (ao _ ?_);refine j9 _ (AW.norm [0,4,6,10,11,12,59,60,66,67] [4,10,55,65,70] aN (AW.st (by simp[oM,sh];rfl) ?_));refine c6 ?_;(try simp only[aT,aV]);refine ba.mk (i+1) aa aa ?_;rw[mC];refine cI
      .have Bp:i=eZ p:=aa
       refine bW (e7 _ ?_);rw[xd Bp]at oM ⊢;rw[Bp]at oM ⊢;clear xd mC;generalize ((j0 p (cu p l) s).map fun n=>[D.v (.int .i64 n)])=P7 at oM cL ⊢;refine AW.imp (aK.freeze 70 trivial) ?_;refine AW.st (by simp[oM,sh];rfl) ?_;refine sM (aB _) ah ([(11,(55,112)),(16,(65,117))]) ([(12,[55]),(13,[55]),(14,[55]),(15,[55]),(17,[65])]) ([0,1,2,3,4,5,6,7,8,9,12,13,14,15,10,11,17,16,18,19,20]) ah fun K' ao=>?_;(repeat refine qV rfl fun K2 au=>?_;simp[va,pr,tY,yU,sh];(repeat refine⟨aa,?_⟩);refine au _ ?_;clear au K2);refine qV rfl fun K2 au=>?_;simp[va,pr,tY,yU,sh];refine qt.mk (cN) bA bA (by first | exact D.bJ _ | simp[aL,agF,agy,D.le,D.le.go,D.le_refl,D.bJ,va,pr,tY,yU,sh]) ak ?_;refine au _ ?_;clear au K2;simp only[aR,dY];(repeat refine qV rfl fun K2 au=>?_;simp[va,pr,tY,yU,sh];(repeat refine⟨aa,?_⟩);refine au _ ?_;clear au K2);refine sI (ao _ ?_);refine jt _ (AW.norm [0,4,6,10,59,60] [4,10,55,65] aN (AW.st (by simp[va,pr,tY,yU,sh];rfl) ?_));refine c6 ?_;(try simp only[aT,aV]);refine ba.mk (s+1) aa aa ?_;rw[nh,cL];refine cI
    .have nj:s=fS p:=aa
     refine bW (eL _ ?_);rw[N8 nj]at va ⊢;rw[BL nj]at pr ⊢;refine aq [4,5] [4,10,55,65] ?_;refine bR ?_;simp[D.le,D.le.go,aL,va,pr,sh];exact Hh.symm
theorem afh (G:aC) (hM:j3 G) (p:aP) (aZ:dr p=none) (hk:∀ r∈p.ax,mR r) (at':List Int) (hl:at'.length<=12) (dB:∀ k (h:k < at'.length),∃ j:Nat,at'[k]=(j:Int)/\j < p.names.length) (hP:b6 (bU p)<=500) (aS:(aY p).length<=4):aD prog G 45 [wm p,gg at'] (.agg [.sl none (cW (ef p)),.sl none (cW (gx p at'))]):=by
 have hg:=iB aZ;have fy:=hg.names;have Hn:0 < b6 (bU p):=sB fun x hx=>(rM hg hx).m2;have XF:eZ p<=16:=I4 aS;have yW:b6 (bU p)=(fS p:Int):=(Int.toNat_of_nonneg aa).symm;have nV:=fun (s':Nat)=>afg G hM p aZ hk (b6 (bU p)) ((eZ p:Nat):Int) (cW (ef p)) s' aa;have zt:=fun (i':Nat) (h2:i' < eZ p)=>ae3 G p aZ (b6 (bU p)) ((eZ p:Nat):Int) (cW (ef p)) i' aa aa aa;have mG:=fun s':Nat=>Pu aZ (s':Int) aa;have lI:=fun (s' i':Nat)=>Q4 G p aZ hk (iW p s') (sF aZ s') (de i' (aY p).length) (ui _ _) _ _ (mG s');have uY:=fun (s' i':Nat)=>(Dz aZ (sF aZ s') (de i' (aY p).length)).1;have mo:=fun (s' i':Nat)=>Pw aZ (sF aZ s') (de i' (aY p).length) (m:=((ko p s' p.names.length).2.1,(ko p s' p.names.length).2.2)) (mG s');have ll:=fun (s' i':Nat)=>aet G p hg _ (uY s' i').l1 (uY s' i').l2 _ _ (mo s' i');have dD:=fun (s i:Nat)=>(uY s i).l1;clear mG uY mo;have cL:=fun s (h:s < (gx p at').length)=>JP h;have kW:(gx p at').length=fS p:=KN p _;have lp:=fun s (h:s < (gx p at').length)=>(show (gx p at')[s]=j0 p at' s by simp[gx]);have IA:=fun s i (h:i < eZ p)=>R3 (p:=p) (at':=at') (s:=s) h;have BO:=fun s=>FW p at' s;have EC:∀ s i,z6 p at' s i=(iX (lW p (iW p s) (de i (aY p).length)).is at' at'.length:Nat):=fun s i=>rfl
 have AP:(at'.map fun n=>[D.v (.int .i64 n)]).length=at'.length:=ak
 have D1:∀ k (h:k < at'.length),∃ j:Nat,j < p.names.length/\(at'.map fun n=>[D.v (.int .i64 n)])[k]? = some [.v (.int .i64 (j:Int))]/\∀ is,iX is at' (k+1)=iX is at' k+if is.getD j false then 2 ^ k else 0:=fun k h=>by
  obtain⟨j,hj,iQ⟩:=dB k h;refine⟨j,iQ,by simp[h,hj],fun is=>?_⟩;rw[iX,gV h,hj];rfl
 rw[yW]at hP;simp only[yW]at nV zt
 have Hn:0 < fS p:=aa
 simp only[wm,rh,uH,cj,gg,ab,iM,qw,ou,uK,dU,ft,mh,yW]at nV zt lI ll cL ⊢;generalize Hh:cW (ef p)=NX at *;generalize p.names.map bo=NN at *;generalize p.ax.map eg=RW at *;generalize (at'.map fun n=>[D.v (.int .i64 n)])=AT at *;refine aD.aQ (aB _) func45 rfl rfl (rs:=[.cell 4 100]) results45 (by simp[ntmps45]) fun X=>?_;simp only[ntmps45,List.map];refine aq [0,1,4] [4] ?_;refine aq [0,1,4,5] [4,5] ?_;refine ag fun K1 aF=>aq [0,1,4,5,22,23] [4,5] ?_;refine cy (S:=Nat) (fun s=>s<=fS p) (fun s=>⟨bn [(0,.d (.ip [.sl none NN,.sl none RW,.v (.int .i64 ((fS p:Nat):Int)),.v (.int .i64 ((eZ p:Nat):Int)),.sl none NX])),(1,.d (.sl none AT)),(4,.ref 4 0 0),(5,.ref 5 0 0),(22,int (fS p)),(23,int s)],aw [(4,.box 100 [.d (.sl (some false) []),.d (.sl (some false) [])]),(5,.box 100 [.d (.sl none NX),.own 65 0 s]),(65,.sl 41 1 (cW ((gx p at').take s)))]⟩) (fun s=>fS p - s) 0 ?_ aa ?_
 .refine (aK.o7 5 1 65 41 1 rfl rfl rfl).trans ?_;refine bq @cW.eq_1
 .intro s hs
  have pr:(cW ((gx p at').take s)).length=s:=by rw[zO,agM];omega
  have BL:s=fS p->cW ((gx p at').take s)=cW (gx p at'):=fun h=>by rw[sh aa]
  have cL:=cL s;have lp:=lp s;generalize cW ((gx p at').take s)=P6 at pr BL cL ⊢;refine aq [0,1,4,5,22,23,24] [4,5,65] ?_;refine ag fun K2 au=>eE (b:=s < fS p) (by simp[D.le,D.le.go,aL]) (fun hc=>?_) (fun hc=>?_)
  .have cL:=cL aa;rw[lp aa]at cL;clear lp;have nV:=nV s aa;refine ar (au _ (ag fun K3 aU=>bd (aq [0,1,4,5,6,22,23] [4,5,65] ?_)));refine aq [0,1,4,5,6,7,22,23] [4,5,65] ?_;refine ag fun K4 ck=>aq [0,1,4,5,6,7,22,23,29,30] [4,5,65] ?_;refine cy (S:=Nat) (fun i=>i<=eZ p) (fun i=>⟨bn [(0,.d (.ip [.sl none NN,.sl none RW,.v (.int .i64 ((fS p:Nat):Int)),.v (.int .i64 ((eZ p:Nat):Int)),.sl none NX])),(1,.d (.sl none AT)),(4,.ref 4 0 0),(5,.ref 5 0 0),(6,int s),(7,.own 700 0 i),(22,int (fS p)),(23,int s),(29,int (eZ p)),(30,int i)],aw [(4,.box 100 [.d (.sl (some false) []),.d (.sl (some false) [])]),(5,.box 100 [.d (.sl none NX),.own 65 0 s]),(65,.sl 41 1 P6),(700,.sl 3 1 (((j0 p at' s).take i).map fun n=>[.v (.int .i64 n)]))]⟩) (fun i=>eZ p - i) 0 ?_ aa ?_
   .refine (aK.kC 7 700 3 1 rfl rfl).trans ?_;refine cI
   .intro i hi
    have oM:(((j0 p at' s).take i).map fun n=>[D.v (.int .i64 n)]).length=i:=by rw[ag5,agM,BO];omega
    have xd:i=eZ p->((j0 p at' s).take i).map (fun n=>[D.v (.int .i64 n)])=(j0 p at' s).map fun n=>[.v (.int .i64 n)]:=fun h=>by rw[sh (by rw[BO];omega)]
    have mC:∀ h:i < eZ p,((j0 p at' s).take (i+1)).map (fun n=>[D.v (.int .i64 n)])=((j0 p at' s).take i).map (fun n=>[D.v (.int .i64 n)]) ++ [[.v (.int .i64 (z6 p at' s i))]]:=fun h=>by rw[IA s i h,agV];rfl
    generalize ((j0 p at' s).take i).map (fun n=>[D.v (.int .i64 n)])=P7 at oM xd mC ⊢;refine aq [0,1,4,5,6,7,22,23,29,30,31] [4,5,65,700] ?_;refine ag fun K5 b9=>eE (b:=i < eZ p) (by simp[D.le,D.le.go,aL]) (fun hc=>?_) (fun hc=>?_)
    .have mC:=mC hc;rw[EC s i]at mC;have zt:=zt i hc;have lI:=lI s i;have ll:=ll s i;have dD:=dD s i;generalize xN p (iW p s) (de i (aY p).length) ((ko p s p.names.length).2.1,(ko p s p.names.length).2.2)=md at lI ll;generalize lW p (iW p s) (de i (aY p).length)=d1 at ll dD mC;generalize (ko p s p.names.length).2=ms at nV lI;generalize de i (aY p).length=ib at zt lI;obtain⟨I1,C1⟩:=ms;obtain⟨I2,C2⟩:=md;obtain⟨IS,T2⟩:=d1;dsimp only at nV lI ll dD mC
     have kT:(IS.map fun b=>[D.v (.bool b)]).length=p.names.length:=by rw[ag5,dD]
     have AR:∀ j (h:j < p.names.length),(IS.map fun b=>[D.v (.bool b)])[j]? = some [.v (.bool (IS.getD j false))]:=fun j h=>by
      rw[gV (by omega:j < IS.length)];simp[show j < IS.length by omega]
     generalize (IS.map fun b=>[D.v (.bool b)])=ID at ll kT AR;generalize (T2.map fun n=>[D.v (.int .i64 n)])=TD at ll;refine ar (b9 _ (ag fun K6 eH=>bd (aq [0,1,4,5,6,7,8,22,23,29,30] [4,5,65,700] ?_)));refine qY (aB _) ah [0,1,4,5,6,7,9,22,23,29,30] [4,5,65,700] aN ah fun K' ao=>?_;(repeat refine eK fun Kq af=>?_;simp[pE];(repeat refine⟨aa,?_⟩);refine af _ ?_);refine eK fun Kq af=>?_;simp[pE];refine kG.data (nV) bA bA (by first | exact D.bJ _ | simp[aL,agF,agy,D.le,D.le.go,D.le_refl,D.bJ,pE]) ?_;refine af _ ?_;simp only[aR,dY];(repeat refine eK fun Kq af=>?_;simp[pE];(repeat refine⟨aa,?_⟩);refine af _ ?_);refine eK fun Kq af=>?_;simp[pE];refine kG.data (zt) bA bA (by first | exact D.bJ _ | simp[aL,agF,agy,D.le,D.le.go,D.le_refl,D.bJ,pE]) ?_;refine af _ ?_;simp only[aR,dY];(repeat refine eK fun Kq af=>?_;simp[pE];(repeat refine⟨aa,?_⟩);refine af _ ?_);refine eK fun Kq af=>?_;simp[pE];refine kG.data (lI) bA bA (by first | exact D.bJ _ | simp[aL,agF,agy,D.le,D.le.go,D.le_refl,D.bJ,pE]) ?_;refine af _ ?_;simp only[aR,dY];(repeat refine eK fun Kq af=>?_;simp[pE];(repeat refine⟨aa,?_⟩);refine af _ ?_);refine eK fun Kq af=>?_;simp[pE];refine kG.data (ll) bA bA (by first | exact D.bJ _ | simp[aL,agF,agy,D.le,D.le.go,D.le_refl,D.bJ,pE]) ?_;refine af _ ?_;simp only[aR,dY];(repeat refine eK fun Kq af=>?_;simp[pE];(repeat refine⟨aa,?_⟩);refine af _ ?_);refine mQ (ao _ ?_);refine AW.st (by simp[pE];rfl) ?_;refine aq [0,1,4,5,6,7,9,11,22,23,29,30] [4,5,65,700] ?_;refine ag fun K7 eL=>aq [0,1,4,5,6,7,9,11,22,23,29,30,52,53,54] [4,5,65,700] ?_;refine cy (S:=Nat) (fun k=>k<=at'.length) (fun k=>⟨bn [(0,.d (.ip [.sl none NN,.sl none RW,.v (.int .i64 ((fS p:Nat):Int)),.v (.int .i64 ((eZ p:Nat):Int)),.sl none NX])),(1,.d (.sl none AT)),(4,.ref 4 0 0),(5,.ref 5 0 0),(6,int s),(7,.own 700 0 i),(9,.d (.sl none ID)),(11,int (iX IS at' k)),(22,int (fS p)),(23,int s),(29,int (eZ p)),(30,int i),(52,.d (.sl none AT)),(53,int AT.length),(54,int k)],aw [(4,.box 100 [.d (.sl (some false) []),.d (.sl (some false) [])]),(5,.box 100 [.d (.sl none NX),.own 65 0 s]),(65,.sl 41 1 P6),(700,.sl 3 1 P7)]⟩) (fun k=>at'.length - k) 0 ?_ aa ?_
     .refine aK.fk aN (by simp[iX]) (by simp[iX])
     .intro k YZ;have hx:=KM IS at' k
      have IM:k=at'.length->iX IS at' k=iX IS at' at'.length:=fun h=>by rw[h]
      refine aq [0,1,4,5,6,7,9,11,22,23,29,30,52,53,54,55] [4,5,65,700] ?_;refine ag fun K8 fA=>eE (b:=k < AT.length) (by simp[D.le,D.le.go,aL]) (fun hc=>?_) (fun hc=>?_)
      .obtain⟨j,hj,tu,ke⟩:=D1 k aa;have ke:=ke IS;rw[By hc]at tu;have tu:=AI tu
       have iQ:j < ID.length:=aa
       have rq:=AR j hj;rw[By iQ]at rq;have rq:=AI rq
       have ff:k < 12:=aa
       have BT:=Rv (V:=k) aa;have hw:2 ^ k<=2 ^ 12:=ahG bO aa;generalize IS.getD j false=b at rq ke;generalize hy:iX IS at' (k+1)=y at ke;generalize iX IS at' k=x at hx ke ⊢;generalize 2 ^ k=w at hx ke BT hw;refine ar (fA _ (ag fun K9 jt=>bd ?_));have qf:=(Aq @hc @tu);refine ay [0,1,4,5,6,7,9,11,12,13,22,23,29,30,52,53,54] [4,5,65,700] ?_;have qf:=(Aq @iQ @rq);refine ay [0,1,4,5,6,7,9,11,12,22,23,29,30,52,53,54,62] [4,5,65,700] ?_
       cases b with
       | true=>
        have ke:y=x+w:=ke
        have ni:(x:Int)+(w:Int)=(y:Int):=aa
        refine aI ?_;have qf:=(Aq @od.eq_1 (Aq @od.eq_2 (Aq @od.eq_3 (Aq @BT @ni))));refine eJ jt [0,1,4,5,6,7,9,11,22,23,29,30,52,53,54] [4,5,65,700] ?_;refine c6 ?_;(try simp only[aT,aV]);refine ba.mk (k+1) aa aa ?_;rw[hy];refine cI
       | false=>
        have ke:y=x:=ke;subst ke;refine al (ar (jt _ ?_));refine c6 ?_;(try simp only[aT,aV]);refine ba.mk (k+1) aa aa ?_;rw[hy];refine cI
      .refine bW (eL _ ?_);rw[IM aa];generalize iX IS at' at'.length=x at mC ⊢;refine eU (aB _) fun K' ao=>?_;(repeat refine aM fun Kq af=>?_;simp[oM,sh];(repeat refine⟨aa,?_⟩);refine af _ ?_);refine bK (ao _ ?_);refine eH _ (AW.norm [0,1,4,5,6,7,22,23,29,30] [4,5,65,700] aN (AW.st (by simp[oM,sh];rfl) ?_));refine c6 ?_;(try simp only[aT,aV]);refine ba.mk (i+1) aa aa ?_;rw[mC];refine cI
    .have Bp:i=eZ p:=aa
     refine bW (ck _ ?_);rw[xd Bp]at oM ⊢;rw[Bp]at oM ⊢;clear xd mC;generalize ((j0 p at' s).map fun n=>[D.v (.int .i64 n)])=P7 at oM cL ⊢;refine AW.imp (aK.freeze 700 trivial) ?_;refine AW.st (by simp[oM,sh];rfl) ?_;refine eU (aB _) fun K' ao=>?_;(repeat refine aM fun Kq af=>?_;simp[pr,sh];(repeat refine⟨aa,?_⟩);refine af _ ?_);refine bK (ao _ ?_);refine aU _ (AW.norm [0,1,4,5,22,23] [4,5,65] aN (AW.st (by simp[pr,sh];rfl) ?_));refine c6 ?_;(try simp only[aT,aV]);refine ba.mk (s+1) aa aa ?_;rw[cL];refine cI
  .have nj:s=fS p:=aa
   refine bW (aF _ ?_);rw[BL nj]at pr ⊢;refine aq [4] [4,5,65] ?_;refine bR ?_;simp[D.le,D.le.go,aL,pr,sh]
theorem Vb (G:aC) (hF:uD G) (hM:j3 G) (hP:rQ G) (hG:qm G) {es er:Value} (hE:sQ G es er) (qC:Ah G) (qD:Ai G) (t:Tx) (l:List Tx):aD prog G 7 [dS t,.sl none (l.map fun s=>[dS s])] (.v (.bool true)):=by
 have qE:=abj G hF hM hP hG hE qC qD t 40;have tG:=LH G hG 7;have uX:=LH G hG 4;rw[show th 7=some (7,none) from rfl]at tG;rw[show th 4=some (4,none) from rfl]at uX;simp only[bB]at tG uX;simp only[dS,ab]at qE tG uX ⊢
 have MZ:(l.map fun s=>[D.v (.string (bs s))]).length=l.length:=ak
 cases Ih:Cb t 40 with
 | none=>
  rw[Ih]at qE;simp only[wh]at qE;generalize (l.map fun s=>[D.v (.string (bs s))])=LL at *;refine aD.aQ (aB _) func7 rfl rfl (rs:=[.tmp 4]) results7 (by simp[ntmps7]) fun X=>?_;simp only[ntmps7,List.map];refine aq [0,1] [] ?_;refine br trivial qE [1,5,6,7] [] ?_;refine ag fun K1 aF=>aq [1,5,6,29] [] ?_;refine aI (aq [4] [] ?_);exact gw
 | some p=>
  rw[Ih]at qE;obtain⟨aZ,hk,Ek,hP4,afn⟩:=abh Ih;have hg:=iB aZ;have fy:=hg.names;have ry:=TT G (l.map fun s=>[D.v (.string (bs s))]);have gX:=fun h=>TS G p (l.map fun s=>[D.v (.string (bs s))]) h;have pd:=fun h=>TR G p aZ hk l h aa Ek;have rF:=fun s=>KV G p aa s;simp only[wh,dS]at qE pd rF;by_cases h30:(l.length:Int) > 30
  .generalize (l.map fun s=>[D.v (.string (bs s))])=LL at *
   have uT:(LL.length:Int) > 30:=aa
   clear pd gX ry rF;obtain⟨c1,gq⟩:∃ c,rf p = .ip c:=⟨_,rfl⟩;obtain⟨c2,gY⟩:∃ c,wm p = .ip c:=⟨_,rfl⟩;rw[gq,gY]at qE;refine aD.aQ (aB _) func7 rfl rfl (rs:=[.tmp 4]) results7 (by simp[ntmps7]) fun X=>?_;simp only[ntmps7,List.map];refine aq [0,1] [] ?_;refine br trivial qE [1,5,6,7] [] ?_;refine ag fun K1 aF=>?_;have qf:=@uT;refine ay [1,5,6,29] [] ?_;refine cm (by simp[uT]) (aq [4] [] ?_);exact gw
  by_cases MK:12 < l.length
  .have gX:=gX aa;generalize (l.map fun s=>[D.v (.string (bs s))])=LL at *
   have uT:¬ (LL.length:Int) > 30:=aa
   have AN:(LL.length:Int) > 12:=aa
   clear pd rF;obtain⟨c1,gq⟩:∃ c,rf p = .ip c:=⟨_,rfl⟩;obtain⟨c2,gY⟩:∃ c,wm p = .ip c:=⟨_,rfl⟩;rw[gq,gY]at qE;rw[gq]at gX;refine aD.aQ (aB _) func7 rfl rfl (rs:=[.tmp 4]) results7 (by simp[ntmps7]) fun X=>?_;simp only[ntmps7,List.map];refine aq [0,1] [] ?_;refine br trivial qE [1,5,6,7] [] ?_;refine ag fun K1 aF=>?_;have qf:=@uT;refine ay [1,5,6,29] [] ?_;refine cw (by simp[uT]<;>omega) ?_;refine ar (aF _ (br trivial gX [1,5,6,8,9] [8] ?_));refine br trivial ry [1,5,6,8,9,11] [8] ?_;refine ag fun K2 au=>br trivial tG [1,6,8,9,47] [8] ?_;refine al (ar (au _ ?_));refine aq [1,6,8,9,12] [8] ?_;refine aq [1,6,8,9,12,13] [8] ?_;refine ag fun K3 aU=>?_;have qf:=@AN;refine ay [1,6,8,9,12,13,50] [8] ?_;refine cm (by simp[AN]) (gH trivial aU [1,6,8,9,12,13] [8] ?_);refine ag fun K4 ck=>aq [1,6,8,9,12,13,14] [8] ?_;refine cy (S:=Nat) (fun n=>n=0) (fun n=>⟨bn [(1,.d (.sl none LL)),(6,.d (.ip c2)),(8,.ref 8 0 0),(9,.d (.bZ 50 (.v (.int .i64 4)))),(12,int 4),(14,int 0)],aw [(8,.box 95 [.d (.sl none []),.d (.sl none [])])]⟩) (fun n=>0) 0 ?_ rfl ?_
   .refine cI
   .intro n hn
    have yN:0 < LL.length:=aa
    refine ag fun K5 b9=>?_;have qf:=@yN;refine ay [1,6,8,9,12,14,58] [8] ?_;refine cw ak ?_;refine bW (ck _ (ag fun K7 eL=>aq [6,8,9,12,77] [8] ?_));refine aI ?_;refine br trivial uX [4] [8] ?_;exact gw
  .have pd:=pd aa;have Il:∀ s:Tx,¬ bH p s < 0->∃ j:Nat,bH p s=(j:Int)/\j < p.names.length:=fun s h=>⟨(bH p s).toNat,(xR h).2,(xR h).1⟩;have xB:=fun (h:∀ k (h:k < (cu p l).length),∃ j:Nat,(cu p l)[k]=(j:Int)/\j < p.names.length)=>afh G hM p aZ hk (cu p l) (by simp[cu];omega) h aa Ek
   have tZ:=Pk G (ef p) (ef p) (by rw[Fc];omega) (fun r hr=>by
    obtain⟨s,hs,rfl⟩:=agG.1 hr;rw[JI hs,CF];have:2 ^ (aY p).length<=2 ^ 4:=ahG bO Ek
    omega)
   have dP:=Pk G (gx p (cu p l)) (gx p (cu p l)) (by rw[KN];unfold fS;omega) (fun r hr=>by
    obtain⟨s,hs,rfl⟩:=agG.1 hr
    have:(gx p (cu p l))[s]=j0 p (cu p l) s:=by simp[gx]
    rw[this,FW];have:=I4 Ek
    omega)
   rw[show (ef p == ef p)=true by simp]at tZ;rw[show (gx p (cu p l) == gx p (cu p l))=true by simp]at dP;rw[show qv (ef p) = .sl none (cW (ef p)) from rfl]at tZ;rw[show qv (gx p (cu p l)) = .sl none (cW (gx p (cu p l))) from rfl]at dP
   obtain⟨A,B,AB,hd,hA⟩:∃ A B AB,Ax p l = .bx [.agg [.sl none A,.sl none B],AB]/\((l.any (fun s=>decide (bH p s < 0))=true/\A=[]/\B=[]/\AB = .bZ 50 (.v (.int .i64 7)))\/(¬ l.any (fun s=>decide (bH p s < 0))=true/\A=cW (ef p)/\B=cW (gx p (cu p l))/\AB = .v .nilIface)):=by
    unfold Ax;by_cases h:l.any (fun s=>decide (bH p s < 0))=true
    .rw[if_pos h];exact⟨_,_,_,rfl,.inl ⟨h,rfl,rfl,rfl⟩⟩
    .rw[if_neg h];exact⟨_,_,_,rfl,.inr ⟨h,rfl,rfl,rfl⟩⟩
   rw[hd]at pd;have Im:=fun i (h:i < l.length)=>PS (p:=p) h
   have pX:(cu p l).length=l.length:=by simp[cu]
   have D8:∀ i (h:i < l.length),(l.map fun s=>[D.v (.string (bs s))])[i]? = some [.v (.string (bs l[i]))]:=fun i h=>by simp[h]
   simp only[rf,pU,rU,wm,rh,uH,cj,fq,pa,gg,dU,ft]at qE pd xB rF;generalize cW (ef p)=NX at *;generalize cW (gx p (cu p l))=TX at *;generalize (aY p).map (fun n=>[D.v (.int .i64 n)])=IN at *;generalize (bU p).map iZ=PT at *;generalize p.names.map bo=NN at *;generalize p.ax.map c8=RR at *;generalize p.ax.map eg=RW at *;generalize b6 (bU p)=S0 at *;generalize ((eZ p:Nat):Int)=N0 at *;generalize (l.map fun s=>[D.v (.string (bs s))])=LL at *
   have uT:¬ (LL.length:Int) > 30:=aa
   have AN:¬ (LL.length:Int) > 12:=aa
   refine aD.aQ (aB _) func7 rfl rfl (rs:=[.tmp 4]) results7 (by simp[ntmps7]) fun X=>?_;simp only[ntmps7,List.map];refine aq [0,1] [] ?_;refine br trivial qE [1,5,6,7] [] ?_;refine ag fun K1 aF=>?_;have qf:=@uT;refine ay [1,5,6,29] [] ?_;refine cw (by simp[uT]<;>omega) ?_;refine ar (aF _ (br trivial pd [1,5,6,8,9] [8] ?_));refine br trivial ry [1,5,6,8,9,11] [8] ?_;refine ag fun K2 au=>br trivial tG [1,6,8,9,47] [8] ?_;refine al (ar (au _ ?_));refine aq [1,6,8,9,12] [8] ?_;refine aq [1,6,8,9,12,13] [8] ?_;refine ag fun K3 aU=>?_;have qf:=@AN;refine ay [1,6,8,9,12,13,50] [8] ?_;refine cw (by simp[AN]<;>omega) ?_;refine ar (aU _ (ag fun K4 ck=>aq [1,6,8,9,12,13,14] [8] ?_));refine cy (S:=Nat×Bool) (fun x=>x.1<=l.length/\(x.2=false->∀ k (hk:k < l.length),k < x.1->¬ bH p l[k] < 0)/\(x.2=true->l.any (fun s=>decide (bH p s < 0))=true)) (fun x=>⟨bn [(1,.d (.sl none LL)),(6,.d (.ip [.sl none NN,.sl none RW,.v (.int .i64 S0),.v (.int .i64 N0),.sl none NX])),(8,.ref 8 0 0),(9,.d AB),(12,int (if x.2 then 7 else 0)),(13,.own 90 0 x.1),(14,int x.1)],aw [(8,.box 95 [.d (.sl none A),.d (.sl none B)]),(90,.sl 3 1 (((cu p l).take x.1).map fun n=>[.v (.int .i64 n)]))]⟩) (fun x=>l.length - x.1) (0,false) ?_ ⟨ak,fun _ k _ h=>absurd h aa,fun h=>by cases h⟩ ?_
   .refine (aK.kC 13 90 3 1 rfl rfl).trans ?_;refine cI
   .rintro⟨i,b⟩ ⟨hi,r8,bY⟩;dsimp only at hi r8 bY ⊢
    have eb:(((cu p l).take i).map fun n=>[D.v (.int .i64 n)]).length=i:=by simp;omega
    have eI:i=l.length->((cu p l).take i).map (fun n=>[D.v (.int .i64 n)])=(cu p l).map fun n=>[.v (.int .i64 n)]:=fun h=>by rw[sh aa]
    have dJ:∀ h:i < l.length,((cu p l).take (i+1)).map (fun n=>[D.v (.int .i64 n)])=((cu p l).take i).map (fun n=>[D.v (.int .i64 n)]) ++ [[.v (.int .i64 (bH p l[i]))]]:=fun h=>by rw[Im i h,agV];rfl
    generalize ((cu p l).take i).map (fun n=>[D.v (.int .i64 n)])=P1 at eb eI dJ ⊢;refine ag fun K5 b9=>?_
    cases b with
    | true=>
     rcases hA with⟨_,rfl,rfl,rfl⟩ | ⟨h,_⟩
     .refine' B7 (fun dP=>?_) ?_
      rotate_left
      .by_cases aG:i < LL.length
       .have qf:=@aG;refine ay [6,8,9,12,58] [8] ?_;exact dP.out
       .have qf:=@aG;refine ay [6,8,9,12,58] [8] ?_;exact dP.out
      refine al (bW (ck _ ?_));refine ag fun K7 eL=>aq [6,8,9,12,77] [8] ?_;refine aI (br trivial tG [4] [8] ?_);exact gw
     .exact absurd (bY rfl) h
    | false=>
     have r8:=r8 rfl;by_cases aG:i < l.length
     .have NT:i < LL.length:=aa
      have tT:i < LL.length:=aa
      have u1:LL[i]=[.v (.string (bs l[i]))]:=by
       have:=D8 i aG;rw[By NT]at this;exact AI this
      have jJ:=rF l[i];have dJ:=dJ aG;have Nr:bH p l[i] < 0->l.any (fun s=>decide (bH p s < 0))=true:=fun h=>ahp.2 ⟨_,OF aG,by simpa using h⟩
      have ka:¬ bH p l[i] < 0->∀ k (hk:k < l.length),k < i+1->¬ bH p l[k] < 0:=fun h k bC wZ=>by
       by_cases e:k=i
       .subst e;exact h
       .exact r8 k bC aa
      generalize bH p l[i]=nu at jJ dJ Nr ka;generalize bs l[i]=nm at u1 jJ;have qf:=@tT;refine ay [1,6,8,9,12,13,14,58] [8,90] ?_;refine cm (by simp[tT]) (ar (b9 _ ?_));refine ag fun K6 eH=>bd ?_;have qf:=(Aq @NT (Aq @tT @u1));refine vB jJ [1,6,8,9,12,13,14,15] [8,90] ?_;refine rg [1,6,8,9,12,13,14,15] [8,90] aN fun K' ao=>?_;(repeat refine aM fun Kq af=>?_;simp[eb,sh];(repeat refine⟨aa,?_⟩);refine af _ ?_);refine bK (ao _ (AW.st (by simp[eb,sh];rfl) ?_));by_cases lh:nu < 0
      .have qf:=@lh;refine ay [1,6,8,9,12,13,14,75] [8,90] ?_;refine cm (by simp[lh]) (gH trivial eH [1,6,8,9,12,13,14] [8,90] ?_);refine c6 ?_;(try simp only[aT,aV]);refine ba.mk (i+1,true) ⟨by dsimp only;omega,fun h=>(by cases h),fun _=>Nr lh⟩ (by dsimp only;omega) ?_;dsimp only;rw[dJ];refine cI
      .have qf:=@lh;refine ay [1,6,8,9,12,13,14,75] [8,90] ?_;refine cw (by simp[lh]<;>omega) ?_;refine ar (eH _ (c6 ?_));(try simp only[aT,aV]);refine ba.mk (i+1,false) ⟨by dsimp only;omega,fun _=>ka lh,fun h=>(by cases h)⟩ (by dsimp only;omega) ?_;dsimp only;rw[dJ];refine cI
     .have bl:i=l.length:=aa
      have tT:¬ i < LL.length:=aa
      rcases hA with⟨h,_⟩ | ⟨_,rfl,rfl,rfl⟩
      .exact absurd h (fun h=>by
        obtain⟨s,hs,h⟩:=ahp.1 h;obtain⟨k,bC,rfl⟩:=agG.1 hs
        exact r8 k bC aa (by simpa using h))
      have xB:=xB fun k h=>by
       obtain⟨j,hj,iQ⟩:=Il _ (r8 k aa aa);exact⟨j,by simp[cu,hj],iQ⟩
      rw[eI bl]at eb ⊢;rw[bl]at eb ⊢;generalize ((cu p l).map fun n=>[D.v (.int .i64 n)])=AT at eb xB ⊢;have qf:=@MZ;refine ay [6,8,9,12,13,58] [8,90] ?_;refine cw ak ?_;refine bW (ck _ (AW.imp (aK.freeze 90 trivial) ?_));refine AW.st (by simp[eb,sh];rfl) ?_;refine ag fun K7 eL=>aq [6,8,9,12,13,77] [8] ?_;refine al (ar (eL _ ?_));refine br trivial xB [8,9,16] [8,16] ?_;refine rg [4] [8,16] aN fun K' ao=>?_;(repeat refine aM fun Kq af=>?_;simp;(repeat refine⟨aa,?_⟩);refine af _ ?_);refine aM fun Kq af=>?_;simp;refine Ru (tZ) bA (af _ ?_);simp only[aR,dY];(repeat refine aM fun Kq af=>?_;simp;(repeat refine⟨aa,?_⟩);refine af _ ?_);refine aM fun Kq af=>?_;simp;refine Ru (dP) bA (af _ ?_);simp only[aR,dY];(repeat refine aM fun Kq af=>?_;simp;(repeat refine⟨aa,?_⟩);refine af _ ?_);refine bK (ao _ (AW.st bA ?_));exact gw
open Go.ChangeAt Go.ChangeShapes Go.RowKit Go.WideShapes
theorem aaE:ownKnob prog.godebug=none:=ah
theorem aaD:laidOutB prog=true:=ah
theorem Vz:prog.cellsOf 3=1:=ah
section
variable {H:Type} {enc:TypeId×Value->H} {w:World} {base:Nat} {spare:Nat->Bool} {held:Bool} {X:Nat->Prop}
end
