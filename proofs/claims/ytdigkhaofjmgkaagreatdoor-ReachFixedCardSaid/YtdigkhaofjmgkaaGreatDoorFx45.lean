/- Parts. -/
import Derived.Test.YtdigkhaofjmgkaaGreatDoorFx44
set_option linter.unusedSectionVars false
set_option linter.unusedSimpArgs false
set_option linter.unusedVariables false
set_option maxHeartbeats 32000000
set_option maxRecDepth 100000
open Go.Proofs.Tryz
namespace Go.Proofs.YtdigkhaofjmgkaaGreatDoor
open Go.Av
theorem tI (l:List Bool):(∀ el∈l.map (fun b=>[D.v (.bool b)]),el.length=1)/\(∀ el∈l.map (fun b=>[D.v (.bool b)]),∀ c∈el,D.one c=true)/\(l.map (fun b=>[D.v (.bool b)])).length=l.length:=by
 refine⟨fun el h=>?_,fun el h c hc=>?_,by simp⟩
 .obtain⟨b,_,rfl⟩:=acD.1 h;rfl
 .obtain⟨b,_,rfl⟩:=acD.1 h;obtain rfl:=acV.1 hc;rfl
theorem aag (G:aq) (p:PgP) (aP:acg p=none) (hi:(ba p).length<=6) (hP:bp (bn p)<=4096) (B:List Bool) (hB:B.length=(abZ p).length):ar prog G 33 [ae4 p,(.v (.string ⟨#[115,116,97,121,115]⟩)),dBl B] (dBl (adN (abZ p) eN true B)):=by
 have ht:=aeY aP;have pL:aeF (abZ p) eN true:=EV (aeY aP);have hLe:=afu pL hB;have hpp:0 < bp (bn p):=kW fun x hx=>(kr (fq aP) hx).m2;have hlen:=oL p
 have hrl:∀ s (h:s < (abZ p).length),(abZ p)[s].length<=64:=fun s h=>by
  rw[s5 h,p4];have:=adH (n:=2) (by omega) hi;omega
 have adJ:=ht.mem
 have It:(abZ p).length<=4096:=by omega
 have Iu:=ht.pos;simp only[ae4,dMw,o7,bO,dBl];have Ig:(nxD (abZ p)).length=(abZ p).length:=s9 _
 have gx:∀ s (h:s < (abZ p).length),(nxD (abZ p))[s]? = some [dk (abZ p)[s]]:=fun s h=>by simp[nxD,h]
 simp only[dk]at gx;clear hlen hpp hP hi ht aP;generalize adN (abZ p) eN true B=LE at *;generalize nxD (abZ p)=NX at *;generalize abZ p=TN at *;generalize bp (bn p)=S at *;generalize ((nT p:Nat):Int)=I at *;generalize p.names.map cNm=NN at *;generalize p.ao.map cL=RR at *;refine ar.abS (al _) func33 rfl rfl (rs:=[.tmp 6]) results33 (by simp[ntmps33]) fun X=>?_;simp only[ntmps33,List.map];refine ah [0,1,2] [] ?_;obtain⟨dG,dH,jH⟩:=tI B;generalize hCB:B.map (fun b=>[D.v (.bool b)])=CB at dG dH jH ⊢;have dG:=eq_true dG;have dH:=eq_true dH;refine rg [0,1,7] [15] (fun _ _=>trivial) fun K' ae=>?_;(repeat (refine sxn fun K2 aa=>?_;simp[sh,dG,dH];(repeat (refine⟨by omega,?_⟩));refine aa _ ?_;clear aa K2));refine sxz (ae _ (AW.st (by simp[sh,dG,dH];rfl) ?_));clear ae K';refine AW.imp (aB.freeze 15 trivial) ?_;refine AW.st (by simp[sh];rfl) ?_;clear dG dH jH;subst hCB;refine bQ (S:=List Bool) (fun X=>aek TN eN true B X) (fun X=>⟨aV [(0,.d (.ip [.sl none NN,.sl none RR,.v (.int .i64 S),.v (.int .i64 I),.sl none NX])),(1,.d (.v (.string ⟨#[115,116,97,121,115]⟩))),(7,.d (.sl none (X.map fun b=>[.v (.bool b)])))],ak []⟩) (fun X=>iJ true X) B ?_ (vC hB) ?_
 .refine bJ
 .intro X hX;have fU:=hX.lx;have qL:=Gd pL hX;have ad9:=fun he=>xC (Em hX he) hLe;have qP:=fun aI=>En (kp:=eN) (d:=true) fU aI;have nw:=u7 TN eN true X;have qE:=fun s (h:s < TN.length) h2=>AL (NX:=TN) (kp:=eN) (d:=true) (X:=X) (s:=s) h h2;generalize lG TN eN true X=Z at qL ad9 qP nw qE
  have hXZ:X.length=Z.length:=by omega
  refine aR ?_;obtain⟨dG,dH,jH⟩:=tI X;generalize hCB:X.map (fun b=>[D.v (.bool b)])=CB at dG dH jH ⊢;have dG:=eq_true dG;have dH:=eq_true dH;refine rg [0,1,7,8] [18] (fun _ _=>trivial) fun K' ae=>?_;(repeat (refine sxn fun K2 aa=>?_;simp[sh,dG,dH];(repeat (refine⟨by omega,?_⟩));refine aa _ ?_;clear aa K2));refine sxz (ae _ (AW.st (by simp[sh,dG,dH];rfl) ?_));clear ae K';clear dG dH jH;subst hCB;refine ah [0,1,7,8,9] [18] ?_;refine af fun K1 ax=>?_;refine ah [0,1,7,8,9,24,25,26] [18] ?_;refine bQ (S:=Nat) (fun s=>s<=TN.length) (fun s=>⟨aV [(0,.d (.ip [.sl none NN,.sl none RR,.v (.int .i64 S),.v (.int .i64 I),.sl none NX])),(1,.d (.v (.string ⟨#[115,116,97,121,115]⟩))),(7,.d (.sl none (X.map fun b=>[.v (.bool b)]))),(8,.own 18 0 Z.length),(9,.d (.v (.bool (aeh Z X s)))),(24,.d (.sl none NX)),(25,int NX.length),(26,int s)],ak [(18,.sl 4 1 ((e8 Z X s).map fun b=>[.v (.bool b)]))]⟩) (fun s=>TN.length - s) 0 ?_ (by omega) ?_
  .rw[FJ,ER];refine abW @hXZ
  .intro s hs;have fk:=fun h1 h2=>FI (Z:=Z) (X:=X) (s:=s) h1 h2;have dh:=fun h=>EP (Z:=Z) (X:=X) (s:=s) hXZ h;have jv:=fun h h2=>EO (Z:=Z) (X:=X) (s:=s) hXZ h h2;have kg:=uZ (Z:=Z) (X:=X) (s:=s) hXZ (by omega);have nC:=fun h=>uZ (Z:=Z) (X:=X) (s:=s+1) hXZ h
   have qT:s=TN.length->e8 Z X s=Z:=fun e=>by rw[e,<- nw];exact EN hXZ
   have jS:s=TN.length->aeh Z X s=decide (Z=X):=fun e=>by rw[e,<- nw];exact FH hXZ
   generalize aeh Z X s=same at fk jS ⊢;generalize e8 Z X s=Y at dh kg qT ⊢;refine ah [0,1,7,8,9,24,25,26,27] [18] ?_;refine af fun K2 aa=>?_;by_cases au:s < TN.length
   .have nB:s < NX.length:=by omega
    refine abP (by simp[nB]) ?_;refine abO (aa _ ?_);refine af fun K3 aQ=>?_;refine aR ?_
    have nu:NX[s]=[.sl none (TN[s].map fun n=>[.v (.int .i64 n)])]:=by
     have:=gx s au;rw[By nB]at this;exact AI this
    have eD:s < Z.length:=by omega
    have hsX:s < X.length:=by omega
    have iG:s < Y.length:=by omega
    have hr:=hrl s au;have mL:=adJ _ (abH au);have iB:=qE s au eD;have fk:=fk eD hsX
    have hbe:decide (Z[s]=X[s])=(Z[s] == X[s]):=by cases Z[s]<;>cases X[s]<;>rfl
    rw[hbe]at fk;clear hbe;have dh:=dh eD;have nC:=nC (by omega)
    have lu:(e8 Z X (s+1)).getD s false=Z[s]:=by
     have h9:s < (e8 Z X (s+1)).length:=by omega
     rw[cT h9];exact jv eD h9
    clear jv;rw[cT hsX]at iB;generalize TN[s]=L at nu hr mL iB;have qf:=(Aq @nB @nu);refine abQ [0,1,7,8,9,10,11,24,25,26] [18] ?_;refine ah [0,1,7,8,9,10,11,12,24,25,26] [18] ?_;refine af fun K4 bK=>?_;refine ah [0,1,7,8,9,10,11,12,24,25,26,31,32,33] [18] ?_;refine bQ (S:=Nat) (fun j=>j<=L.length) (fun j=>⟨aV [(0,.d (.ip [.sl none NN,.sl none RR,.v (.int .i64 S),.v (.int .i64 I),.sl none NX])),(1,.d (.v (.string ⟨#[115,116,97,121,115]⟩))),(7,.d (.sl none (X.map fun b=>[.v (.bool b)]))),(8,.own 18 0 Z.length),(9,.d (.v (.bool same))),(10,int s),(11,.d (.sl none (L.map fun n=>[.v (.int .i64 n)]))),(12,int (adQ L X j)),(24,.d (.sl none NX)),(25,int NX.length),(26,int s),(31,.d (.sl none (L.map fun n=>[.v (.int .i64 n)]))),(32,int L.length),(33,int j)],ak [(18,.sl 4 1 (Y.map fun b=>[.v (.bool b)]))]⟩) (fun j=>L.length - j) 0 ?_ (by omega) ?_
    .rw[Ce];refine bJ
    .intro j hj;have cm:=fun h=>Cd (l:=L) (X:=X) (j:=j) h;have hcl:=Cc L X j
     have lk:j=L.length->adQ L X L.length=adQ L X j:=fun e=>by rw[e]
     generalize adQ L X j=c at cm hcl lk ⊢;refine ah [0,1,7,8,9,10,11,12,24,25,26,31,32,33,34] [18] ?_;refine af fun K5 bB=>?_;by_cases fg:j < L.length
     .refine abP (by simp[fg]) ?_;refine abO (bB _ ?_);refine af fun K6 cq=>?_;refine aR ?_;have cm:=cm fg;obtain⟨v0,v1⟩:=mL L[j] (abH fg);obtain⟨u,hu⟩:=acn v0
      have nQ:u < X.length:=by omega
      rw[hu,abX,cT nQ]at cm;have qf:=(Aq @fg @hu);refine abQ [0,1,7,8,9,10,11,12,14,24,25,26,31,32,33] [18] ?_
      cases lB:X[u] with
      | true=>
       rw[lB,if_pos rfl]at cm;have qf:=(Aq @nQ @lB);refine abQ [0,1,7,8,9,10,11,12,24,25,26,31,32,33,40] [18] ?_;refine abP rfl ?_;refine reK trivial cq [0,1,7,8,9,10,11,12,24,25,26,31,32,33] [18] ?_;refine re0 ?_;(try simp only[aJ,aL]);refine aS.mk (j+1) (by omega) (by omega) ?_;rw[cm];refine bJ
      | false=>
       rw[lB,if_neg (by simp),adF]at cm;have qf:=(Aq @nQ @lB);refine abQ [0,1,7,8,9,10,11,12,24,25,26,31,32,33,40] [18] ?_;refine abN rfl ?_;refine abO ?_;refine cq _ (AW.norm [0,1,7,8,9,10,11,12,24,25,26,31,32,33] [18] (fun _ _=>trivial) (AW.st (by simp;rfl) ?_));refine re0 ?_;(try simp only[aJ,aL]);refine aS.mk (j+1) (by omega) (by omega) ?_;rw[cm];refine bJ
     .have wY:j=L.length:=by omega
      have lk:=lk wY;clear cm;refine abN (by simp<;>omega) ?_;refine bx (bK _ ?_);refine af fun K7 de=>?_;refine ah [0,1,7,8,9,10,11,12,24,25,26,44] [18] ?_;refine aR ?_;refine rg [0,1,7,8,9,10,11,12,24,25,26,44,58] [18] (fun _ _=>trivial) fun K' ae=>?_;(repeat (refine sxn fun K2 aa=>?_;simp[aO];(repeat (refine⟨by omega,?_⟩));refine aa _ ?_;clear aa K2));refine sxz (ae _ (AW.st (by simp[aO];rfl) ?_));clear ae K';refine abP (by first | rfl | simp) ?_;have lq:=He L X;rw[lk]at lq;rw[lq]at iB
      have pU:X[s]=true\/X[s]=false:=by cases X[s]<;>simp
      have tl:∀ τ,St.norm [0,1,7,8,9,10,24,25,26] [18] τ=⟨aV [(0,.d (.ip [.sl none NN,.sl none RR,.v (.int .i64 S),.v (.int .i64 I),.sl none NX])),(1,.d (.v (.string ⟨#[115,116,97,121,115]⟩))),(7,.d (.sl none (X.map fun b=>[.v (.bool b)]))),(8,.own 18 0 Z.length),(9,.d (.v (.bool same))),(10,int s),(24,.d (.sl none NX)),(25,int NX.length),(26,int s)],ak [(18,.sl 4 1 ((e8 Z X (s+1)).map fun b=>[.v (.bool b)]))]⟩->K7 τ:=by
       intro τ e;refine de τ (AW.norm [0,1,7,8,9,10,24,25,26] [18] (fun _ _=>trivial) (AW.st e ?_));clear e;generalize qC:e8 Z X (s+1)=W at nC lu ⊢
       have nK:s < W.length:=by omega
       rw[cT nK]at lu
       cases same with
       | false=>
        refine aeR (al _) (by kernel_rfl) (by kernel_rfl) fun K' ae=>?_;(repeat (refine eC fun K2 aa=>?_;simp;(repeat (refine⟨by omega,?_⟩));refine aa _ ?_;clear aa K2));refine iL (ae _ ?_);clear ae K';refine aQ _ (AW.norm [0,1,7,8,9,24,25,26] [18] (fun _ _=>trivial) (AW.st (by simp;rfl) ?_));refine re0 ?_;(try simp only[aJ,aL]);refine aS.mk (s+1) (by omega) (by omega) ?_;rw[fk,qC,Bool.false_and];refine bJ
       | true=>
        rw[aeK]at fk;refine aeR (al _) (by kernel_rfl) (by kernel_rfl) fun K' ae=>?_;(repeat (refine eC fun K2 aa=>?_;simp[hsX,nK,lu];(repeat (refine⟨by omega,?_⟩));refine aa _ ?_;clear aa K2));refine iL (ae _ ?_);clear ae K';refine aQ _ (AW.norm [0,1,7,8,9,24,25,26] [18] (fun _ _=>trivial) (AW.st (by simp[hsX,nK,lu];rfl) ?_));refine re0 ?_;(try simp only[aJ,aL]);refine aS.mk (s+1) (by omega) (by omega) ?_;rw[fk,qC];refine bJ
      rcases pU with hx | hx
      .by_cases hc:c=L.length
       .have dA:((c:Int)=(L.length:Int))=True:=eq_true (by omega);refine cR (al _) fun K' ae=>?_;(repeat (refine sxn fun K2 aa=>?_;simp[hsX,hx,dA,iG,kg];(repeat (refine⟨by omega,?_⟩));refine aa _ ?_;clear aa K2));refine sxz (ae _ ?_);clear ae K'
        have hz:Z[s]=true:=by rw[iB];simp[hx,hc]
        rw[hz]at dh;refine tl _ ?_;rw[<- dh];simp[ab5,By iG]
       .have dA:((c:Int)=(L.length:Int))=False:=eq_false (by omega);refine cR (al _) fun K' ae=>?_;(repeat (refine sxn fun K2 aa=>?_;simp[hsX,hx,dA,iG,kg];(repeat (refine⟨by omega,?_⟩));refine aa _ ?_;clear aa K2));refine sxz (ae _ ?_);clear ae K'
        have hz:Z[s]=false:=by rw[iB];simp[hx,hc]
        rw[hz]at dh;refine tl _ ?_;rw[<- dh];simp[ab5,By iG]
      .have hc:True:=trivial;refine cR (al _) fun K' ae=>?_;(repeat (refine sxn fun K2 aa=>?_;simp[hsX,hx,iG,kg];(repeat (refine⟨by omega,?_⟩));refine aa _ ?_;clear aa K2));refine sxz (ae _ ?_);clear ae K'
       have hz:Z[s]=false:=by rw[iB];simp[hx,hc]
       rw[hz]at dh;refine tl _ ?_;rw[<- dh];simp[ab5,By iG]
   .have nL:=jS (by omega);have w7:=qT (by omega);subst nL;subst w7;refine abN (by simp<;>omega) ?_;refine bx (ax _ ?_);refine af fun K8 dz=>?_;refine AW.imp (aB.freeze 18 trivial) ?_;refine AW.st (by simp[sh];rfl) ?_;by_cases eD:Y=X
    .have wo:=ad9 eD;have qf:=@eD;refine abQ [0,1,7,8,99] [] ?_;refine abP (by simp[eD]) ?_;refine ah [6] [] ?_;exact aN @wo
    .have qf:=@eD;refine abQ [0,1,7,8,99] [] ?_;refine abN (by simp[eD]) ?_;refine abO (dz _ ?_);refine re0 ?_;(try simp only[aJ,aL]);refine aS.mk Y qL (qP eD) ?_;refine bJ
theorem aae (G:aq) (p:PgP) (aP:acg p=none) (hi:(ba p).length<=6) (hP:bp (bn p)<=4096) (B:List Bool) (hB:B.length=(abZ p).length):ar prog G 33 [ae4 p,(.v (.string ⟨#[99,111,109,101,115]⟩)),dBl B] (dBl (adN (abZ p) jk false B)):=by
 have ht:=aeY aP;have pL:aeF (abZ p) jk false:=EW (abZ p);have hLe:=afu pL hB;have hpp:0 < bp (bn p):=kW fun x hx=>(kr (fq aP) hx).m2;have hlen:=oL p
 have hrl:∀ s (h:s < (abZ p).length),(abZ p)[s].length<=64:=fun s h=>by
  rw[s5 h,p4];have:=adH (n:=2) (by omega) hi;omega
 have adJ:=ht.mem
 have It:(abZ p).length<=4096:=by omega
 have Iu:=ht.pos;simp only[ae4,dMw,o7,bO,dBl];have Ig:(nxD (abZ p)).length=(abZ p).length:=s9 _
 have gx:∀ s (h:s < (abZ p).length),(nxD (abZ p))[s]? = some [dk (abZ p)[s]]:=fun s h=>by simp[nxD,h]
 simp only[dk]at gx;clear hlen hpp hP hi ht aP;generalize adN (abZ p) jk false B=LE at *;generalize nxD (abZ p)=NX at *;generalize abZ p=TN at *;generalize bp (bn p)=S at *;generalize ((nT p:Nat):Int)=I at *;generalize p.names.map cNm=NN at *;generalize p.ao.map cL=RR at *;refine ar.abS (al _) func33 rfl rfl (rs:=[.tmp 6]) results33 (by simp[ntmps33]) fun X=>?_;simp only[ntmps33,List.map];refine ah [0,1,2] [] ?_;obtain⟨dG,dH,jH⟩:=tI B;generalize hCB:B.map (fun b=>[D.v (.bool b)])=CB at dG dH jH ⊢;have dG:=eq_true dG;have dH:=eq_true dH;refine rg [0,1,7] [15] (fun _ _=>trivial) fun K' ae=>?_;(repeat (refine sxn fun K2 aa=>?_;simp[sh,dG,dH];(repeat (refine⟨by omega,?_⟩));refine aa _ ?_;clear aa K2));refine sxz (ae _ (AW.st (by simp[sh,dG,dH];rfl) ?_));clear ae K';refine AW.imp (aB.freeze 15 trivial) ?_;refine AW.st (by simp[sh];rfl) ?_;clear dG dH jH;subst hCB;refine bQ (S:=List Bool) (fun X=>aek TN jk false B X) (fun X=>⟨aV [(0,.d (.ip [.sl none NN,.sl none RR,.v (.int .i64 S),.v (.int .i64 I),.sl none NX])),(1,.d (.v (.string ⟨#[99,111,109,101,115]⟩))),(7,.d (.sl none (X.map fun b=>[.v (.bool b)])))],ak []⟩) (fun X=>iJ false X) B ?_ (vC hB) ?_
 .refine bJ
 .intro X hX;have fU:=hX.lx;have qL:=Gd pL hX;have ad9:=fun he=>xC (Em hX he) hLe;have qP:=fun aI=>En (kp:=jk) (d:=false) fU aI;have nw:=u7 TN jk false X;have qE:=fun s (h:s < TN.length) h2=>AL (NX:=TN) (kp:=jk) (d:=false) (X:=X) (s:=s) h h2;generalize lG TN jk false X=Z at qL ad9 qP nw qE
  have hXZ:X.length=Z.length:=by omega
  refine aR ?_;obtain⟨dG,dH,jH⟩:=tI X;generalize hCB:X.map (fun b=>[D.v (.bool b)])=CB at dG dH jH ⊢;have dG:=eq_true dG;have dH:=eq_true dH;refine rg [0,1,7,8] [18] (fun _ _=>trivial) fun K' ae=>?_;(repeat (refine sxn fun K2 aa=>?_;simp[sh,dG,dH];(repeat (refine⟨by omega,?_⟩));refine aa _ ?_;clear aa K2));refine sxz (ae _ (AW.st (by simp[sh,dG,dH];rfl) ?_));clear ae K';clear dG dH jH;subst hCB;refine ah [0,1,7,8,9] [18] ?_;refine af fun K1 ax=>?_;refine ah [0,1,7,8,9,24,25,26] [18] ?_;refine bQ (S:=Nat) (fun s=>s<=TN.length) (fun s=>⟨aV [(0,.d (.ip [.sl none NN,.sl none RR,.v (.int .i64 S),.v (.int .i64 I),.sl none NX])),(1,.d (.v (.string ⟨#[99,111,109,101,115]⟩))),(7,.d (.sl none (X.map fun b=>[.v (.bool b)]))),(8,.own 18 0 Z.length),(9,.d (.v (.bool (aeh Z X s)))),(24,.d (.sl none NX)),(25,int NX.length),(26,int s)],ak [(18,.sl 4 1 ((e8 Z X s).map fun b=>[.v (.bool b)]))]⟩) (fun s=>TN.length - s) 0 ?_ (by omega) ?_
  .rw[FJ,ER];refine abW @hXZ
  .intro s hs;have fk:=fun h1 h2=>FI (Z:=Z) (X:=X) (s:=s) h1 h2;have dh:=fun h=>EP (Z:=Z) (X:=X) (s:=s) hXZ h;have jv:=fun h h2=>EO (Z:=Z) (X:=X) (s:=s) hXZ h h2;have kg:=uZ (Z:=Z) (X:=X) (s:=s) hXZ (by omega);have nC:=fun h=>uZ (Z:=Z) (X:=X) (s:=s+1) hXZ h
   have qT:s=TN.length->e8 Z X s=Z:=fun e=>by rw[e,<- nw];exact EN hXZ
   have jS:s=TN.length->aeh Z X s=decide (Z=X):=fun e=>by rw[e,<- nw];exact FH hXZ
   generalize aeh Z X s=same at fk jS ⊢;generalize e8 Z X s=Y at dh kg qT ⊢;refine ah [0,1,7,8,9,24,25,26,27] [18] ?_;refine af fun K2 aa=>?_;by_cases au:s < TN.length
   .have nB:s < NX.length:=by omega
    refine abP (by simp[nB]) ?_;refine abO (aa _ ?_);refine af fun K3 aQ=>?_;refine aR ?_
    have nu:NX[s]=[.sl none (TN[s].map fun n=>[.v (.int .i64 n)])]:=by
     have:=gx s au;rw[By nB]at this;exact AI this
    have eD:s < Z.length:=by omega
    have hsX:s < X.length:=by omega
    have iG:s < Y.length:=by omega
    have hr:=hrl s au;have mL:=adJ _ (abH au);have iB:=qE s au eD;have fk:=fk eD hsX
    have hbe:decide (Z[s]=X[s])=(Z[s] == X[s]):=by cases Z[s]<;>cases X[s]<;>rfl
    rw[hbe]at fk;clear hbe;have dh:=dh eD;have nC:=nC (by omega)
    have lu:(e8 Z X (s+1)).getD s false=Z[s]:=by
     have h9:s < (e8 Z X (s+1)).length:=by omega
     rw[cT h9];exact jv eD h9
    clear jv;rw[cT hsX]at iB;generalize TN[s]=L at nu hr mL iB;have qf:=(Aq @nB @nu);refine abQ [0,1,7,8,9,10,11,24,25,26] [18] ?_;refine ah [0,1,7,8,9,10,11,12,24,25,26] [18] ?_;refine af fun K4 bK=>?_;refine ah [0,1,7,8,9,10,11,12,24,25,26,31,32,33] [18] ?_;refine bQ (S:=Nat) (fun j=>j<=L.length) (fun j=>⟨aV [(0,.d (.ip [.sl none NN,.sl none RR,.v (.int .i64 S),.v (.int .i64 I),.sl none NX])),(1,.d (.v (.string ⟨#[99,111,109,101,115]⟩))),(7,.d (.sl none (X.map fun b=>[.v (.bool b)]))),(8,.own 18 0 Z.length),(9,.d (.v (.bool same))),(10,int s),(11,.d (.sl none (L.map fun n=>[.v (.int .i64 n)]))),(12,int (adQ L X j)),(24,.d (.sl none NX)),(25,int NX.length),(26,int s),(31,.d (.sl none (L.map fun n=>[.v (.int .i64 n)]))),(32,int L.length),(33,int j)],ak [(18,.sl 4 1 (Y.map fun b=>[.v (.bool b)]))]⟩) (fun j=>L.length - j) 0 ?_ (by omega) ?_
    .rw[Ce];refine bJ
    .intro j hj;have cm:=fun h=>Cd (l:=L) (X:=X) (j:=j) h;have hcl:=Cc L X j
     have lk:j=L.length->adQ L X L.length=adQ L X j:=fun e=>by rw[e]
     generalize adQ L X j=c at cm hcl lk ⊢;refine ah [0,1,7,8,9,10,11,12,24,25,26,31,32,33,34] [18] ?_;refine af fun K5 bB=>?_;by_cases fg:j < L.length
     .refine abP (by simp[fg]) ?_;refine abO (bB _ ?_);refine af fun K6 cq=>?_;refine aR ?_;have cm:=cm fg;obtain⟨v0,v1⟩:=mL L[j] (abH fg);obtain⟨u,hu⟩:=acn v0
      have nQ:u < X.length:=by omega
      rw[hu,abX,cT nQ]at cm;have qf:=(Aq @fg @hu);refine abQ [0,1,7,8,9,10,11,12,14,24,25,26,31,32,33] [18] ?_
      cases lB:X[u] with
      | true=>
       rw[lB,if_pos rfl]at cm;have qf:=(Aq @nQ @lB);refine abQ [0,1,7,8,9,10,11,12,24,25,26,31,32,33,40] [18] ?_;refine abP rfl ?_;refine reK trivial cq [0,1,7,8,9,10,11,12,24,25,26,31,32,33] [18] ?_;refine re0 ?_;(try simp only[aJ,aL]);refine aS.mk (j+1) (by omega) (by omega) ?_;rw[cm];refine bJ
      | false=>
       rw[lB,if_neg (by simp),adF]at cm;have qf:=(Aq @nQ @lB);refine abQ [0,1,7,8,9,10,11,12,24,25,26,31,32,33,40] [18] ?_;refine abN rfl ?_;refine abO ?_;refine cq _ (AW.norm [0,1,7,8,9,10,11,12,24,25,26,31,32,33] [18] (fun _ _=>trivial) (AW.st (by simp;rfl) ?_));refine re0 ?_;(try simp only[aJ,aL]);refine aS.mk (j+1) (by omega) (by omega) ?_;rw[cm];refine bJ
     .have wY:j=L.length:=by omega
      have lk:=lk wY;clear cm;refine abN (by simp<;>omega) ?_;refine bx (bK _ ?_);refine af fun K7 de=>?_;refine ah [0,1,7,8,9,10,11,12,24,25,26,44] [18] ?_;refine aR ?_;refine rg [0,1,7,8,9,10,11,12,24,25,26,44,58] [18] (fun _ _=>trivial) fun K' ae=>?_;(repeat (refine sxn fun K2 aa=>?_;simp[aO];(repeat (refine⟨by omega,?_⟩));refine aa _ ?_;clear aa K2));refine sxz (ae _ (AW.st (by simp[aO];rfl) ?_));clear ae K';refine abN (by first | rfl | simp) ?_;refine rg [0,1,7,8,9,10,11,12,24,25,26,73] [18] (fun _ _=>trivial) fun K' ae=>?_;(repeat (refine sxn fun K2 aa=>?_;simp[aO];(repeat (refine⟨by omega,?_⟩));refine aa _ ?_;clear aa K2));refine sxz (ae _ (AW.st (by simp[aO];rfl) ?_));clear ae K';refine abP (by first | rfl | simp) ?_;have lq:=OD L X;rw[lk]at lq;rw[lq]at iB
      have pU:X[s]=true\/X[s]=false:=by cases X[s]<;>simp
      have tl:∀ τ,St.norm [0,1,7,8,9,10,24,25,26] [18] τ=⟨aV [(0,.d (.ip [.sl none NN,.sl none RR,.v (.int .i64 S),.v (.int .i64 I),.sl none NX])),(1,.d (.v (.string ⟨#[99,111,109,101,115]⟩))),(7,.d (.sl none (X.map fun b=>[.v (.bool b)]))),(8,.own 18 0 Z.length),(9,.d (.v (.bool same))),(10,int s),(24,.d (.sl none NX)),(25,int NX.length),(26,int s)],ak [(18,.sl 4 1 ((e8 Z X (s+1)).map fun b=>[.v (.bool b)]))]⟩->K7 τ:=by
       intro τ e;refine de τ (AW.norm [0,1,7,8,9,10,24,25,26] [18] (fun _ _=>trivial) (AW.st e ?_));clear e;generalize qC:e8 Z X (s+1)=W at nC lu ⊢
       have nK:s < W.length:=by omega
       rw[cT nK]at lu
       cases same with
       | false=>
        refine aeR (al _) (by kernel_rfl) (by kernel_rfl) fun K' ae=>?_;(repeat (refine eC fun K2 aa=>?_;simp;(repeat (refine⟨by omega,?_⟩));refine aa _ ?_;clear aa K2));refine iL (ae _ ?_);clear ae K';refine aQ _ (AW.norm [0,1,7,8,9,24,25,26] [18] (fun _ _=>trivial) (AW.st (by simp;rfl) ?_));refine re0 ?_;(try simp only[aJ,aL]);refine aS.mk (s+1) (by omega) (by omega) ?_;rw[fk,qC,Bool.false_and];refine bJ
       | true=>
        rw[aeK]at fk;refine aeR (al _) (by kernel_rfl) (by kernel_rfl) fun K' ae=>?_;(repeat (refine eC fun K2 aa=>?_;simp[hsX,nK,lu];(repeat (refine⟨by omega,?_⟩));refine aa _ ?_;clear aa K2));refine iL (ae _ ?_);clear ae K';refine aQ _ (AW.norm [0,1,7,8,9,24,25,26] [18] (fun _ _=>trivial) (AW.st (by simp[hsX,nK,lu];rfl) ?_));refine re0 ?_;(try simp only[aJ,aL]);refine aS.mk (s+1) (by omega) (by omega) ?_;rw[fk,qC];refine bJ
      rcases pU with hx | hx
      .have hc:True:=trivial;refine cR (al _) fun K' ae=>?_;(repeat (refine sxn fun K2 aa=>?_;simp[hsX,hx,iG,kg];(repeat (refine⟨by omega,?_⟩));refine aa _ ?_;clear aa K2));refine sxz (ae _ ?_);clear ae K'
       have hz:Z[s]=true:=by rw[iB];simp[hx,hc]
       rw[hz]at dh;refine tl _ ?_;rw[<- dh];simp[ab5,By iG]
      .by_cases hc:0 < c
       .have dA:(0 < c)=True:=eq_true (by omega);refine cR (al _) fun K' ae=>?_;(repeat (refine sxn fun K2 aa=>?_;simp[hsX,hx,dA,iG,kg];(repeat (refine⟨by omega,?_⟩));refine aa _ ?_;clear aa K2));refine sxz (ae _ ?_);clear ae K'
        have hz:Z[s]=true:=by rw[iB];simp[hx,hc]
        rw[hz]at dh;refine tl _ ?_;rw[<- dh];simp[ab5,By iG]
       .have dA:(0 < c)=False:=eq_false (by omega);refine cR (al _) fun K' ae=>?_;(repeat (refine sxn fun K2 aa=>?_;simp[hsX,hx,dA,iG,kg];(repeat (refine⟨by omega,?_⟩));refine aa _ ?_;clear aa K2));refine sxz (ae _ ?_);clear ae K'
        have hz:Z[s]=false:=by rw[iB];simp[hx,hc]
        rw[hz]at dh;refine tl _ ?_;rw[<- dh];simp[ab5,By iG]
   .have nL:=jS (by omega);have w7:=qT (by omega);subst nL;subst w7;refine abN (by simp<;>omega) ?_;refine bx (ax _ ?_);refine af fun K8 dz=>?_;refine AW.imp (aB.freeze 18 trivial) ?_;refine AW.st (by simp[sh];rfl) ?_;by_cases eD:Y=X
    .have wo:=ad9 eD;have qf:=@eD;refine abQ [0,1,7,8,99] [] ?_;refine abP (by simp[eD]) ?_;refine ah [6] [] ?_;exact aN @wo
    .have qf:=@eD;refine abQ [0,1,7,8,99] [] ?_;refine abN (by simp[eD]) ?_;refine abO (dz _ ?_);refine re0 ?_;(try simp only[aJ,aL]);refine aS.mk Y qL (qP eD) ?_;refine bJ
theorem aaf (G:aq) (p:PgP) (aP:acg p=none) (hi:(ba p).length<=6) (hP:bp (bn p)<=4096) (B:List Bool) (hB:B.length=(abZ p).length):ar prog G 33 [ae4 p,(.v (.string ⟨#[102,111,114,99,101,115]⟩)),dBl B] (dBl (adN (abZ p) eN false B)):=by
 have ht:=aeY aP;have pL:aeF (abZ p) eN false:=EU (abZ p);have hLe:=afu pL hB;have hpp:0 < bp (bn p):=kW fun x hx=>(kr (fq aP) hx).m2;have hlen:=oL p
 have hrl:∀ s (h:s < (abZ p).length),(abZ p)[s].length<=64:=fun s h=>by
  rw[s5 h,p4];have:=adH (n:=2) (by omega) hi;omega
 have adJ:=ht.mem
 have It:(abZ p).length<=4096:=by omega
 have Iu:=ht.pos;simp only[ae4,dMw,o7,bO,dBl];have Ig:(nxD (abZ p)).length=(abZ p).length:=s9 _
 have gx:∀ s (h:s < (abZ p).length),(nxD (abZ p))[s]? = some [dk (abZ p)[s]]:=fun s h=>by simp[nxD,h]
 simp only[dk]at gx;clear hlen hpp hP hi ht aP;generalize adN (abZ p) eN false B=LE at *;generalize nxD (abZ p)=NX at *;generalize abZ p=TN at *;generalize bp (bn p)=S at *;generalize ((nT p:Nat):Int)=I at *;generalize p.names.map cNm=NN at *;generalize p.ao.map cL=RR at *;refine ar.abS (al _) func33 rfl rfl (rs:=[.tmp 6]) results33 (by simp[ntmps33]) fun X=>?_;simp only[ntmps33,List.map];refine ah [0,1,2] [] ?_;obtain⟨dG,dH,jH⟩:=tI B;generalize hCB:B.map (fun b=>[D.v (.bool b)])=CB at dG dH jH ⊢;have dG:=eq_true dG;have dH:=eq_true dH;refine rg [0,1,7] [15] (fun _ _=>trivial) fun K' ae=>?_;(repeat (refine sxn fun K2 aa=>?_;simp[sh,dG,dH];(repeat (refine⟨by omega,?_⟩));refine aa _ ?_;clear aa K2));refine sxz (ae _ (AW.st (by simp[sh,dG,dH];rfl) ?_));clear ae K';refine AW.imp (aB.freeze 15 trivial) ?_;refine AW.st (by simp[sh];rfl) ?_;clear dG dH jH;subst hCB;refine bQ (S:=List Bool) (fun X=>aek TN eN false B X) (fun X=>⟨aV [(0,.d (.ip [.sl none NN,.sl none RR,.v (.int .i64 S),.v (.int .i64 I),.sl none NX])),(1,.d (.v (.string ⟨#[102,111,114,99,101,115]⟩))),(7,.d (.sl none (X.map fun b=>[.v (.bool b)])))],ak []⟩) (fun X=>iJ false X) B ?_ (vC hB) ?_
 .refine bJ
 .intro X hX;have fU:=hX.lx;have qL:=Gd pL hX;have ad9:=fun he=>xC (Em hX he) hLe;have qP:=fun aI=>En (kp:=eN) (d:=false) fU aI;have nw:=u7 TN eN false X;have qE:=fun s (h:s < TN.length) h2=>AL (NX:=TN) (kp:=eN) (d:=false) (X:=X) (s:=s) h h2;generalize lG TN eN false X=Z at qL ad9 qP nw qE
  have hXZ:X.length=Z.length:=by omega
  refine aR ?_;obtain⟨dG,dH,jH⟩:=tI X;generalize hCB:X.map (fun b=>[D.v (.bool b)])=CB at dG dH jH ⊢;have dG:=eq_true dG;have dH:=eq_true dH;refine rg [0,1,7,8] [18] (fun _ _=>trivial) fun K' ae=>?_;(repeat (refine sxn fun K2 aa=>?_;simp[sh,dG,dH];(repeat (refine⟨by omega,?_⟩));refine aa _ ?_;clear aa K2));refine sxz (ae _ (AW.st (by simp[sh,dG,dH];rfl) ?_));clear ae K';clear dG dH jH;subst hCB;refine ah [0,1,7,8,9] [18] ?_;refine af fun K1 ax=>?_;refine ah [0,1,7,8,9,24,25,26] [18] ?_;refine bQ (S:=Nat) (fun s=>s<=TN.length) (fun s=>⟨aV [(0,.d (.ip [.sl none NN,.sl none RR,.v (.int .i64 S),.v (.int .i64 I),.sl none NX])),(1,.d (.v (.string ⟨#[102,111,114,99,101,115]⟩))),(7,.d (.sl none (X.map fun b=>[.v (.bool b)]))),(8,.own 18 0 Z.length),(9,.d (.v (.bool (aeh Z X s)))),(24,.d (.sl none NX)),(25,int NX.length),(26,int s)],ak [(18,.sl 4 1 ((e8 Z X s).map fun b=>[.v (.bool b)]))]⟩) (fun s=>TN.length - s) 0 ?_ (by omega) ?_
  .rw[FJ,ER];refine abW @hXZ
  .intro s hs;have fk:=fun h1 h2=>FI (Z:=Z) (X:=X) (s:=s) h1 h2;have dh:=fun h=>EP (Z:=Z) (X:=X) (s:=s) hXZ h;have jv:=fun h h2=>EO (Z:=Z) (X:=X) (s:=s) hXZ h h2;have kg:=uZ (Z:=Z) (X:=X) (s:=s) hXZ (by omega);have nC:=fun h=>uZ (Z:=Z) (X:=X) (s:=s+1) hXZ h
   have qT:s=TN.length->e8 Z X s=Z:=fun e=>by rw[e,<- nw];exact EN hXZ
   have jS:s=TN.length->aeh Z X s=decide (Z=X):=fun e=>by rw[e,<- nw];exact FH hXZ
   generalize aeh Z X s=same at fk jS ⊢;generalize e8 Z X s=Y at dh kg qT ⊢;refine ah [0,1,7,8,9,24,25,26,27] [18] ?_;refine af fun K2 aa=>?_;by_cases au:s < TN.length
   .have nB:s < NX.length:=by omega
    refine abP (by simp[nB]) ?_;refine abO (aa _ ?_);refine af fun K3 aQ=>?_;refine aR ?_
    have nu:NX[s]=[.sl none (TN[s].map fun n=>[.v (.int .i64 n)])]:=by
     have:=gx s au;rw[By nB]at this;exact AI this
    have eD:s < Z.length:=by omega
    have hsX:s < X.length:=by omega
    have iG:s < Y.length:=by omega
    have hr:=hrl s au;have mL:=adJ _ (abH au);have iB:=qE s au eD;have fk:=fk eD hsX
    have hbe:decide (Z[s]=X[s])=(Z[s] == X[s]):=by cases Z[s]<;>cases X[s]<;>rfl
    rw[hbe]at fk;clear hbe;have dh:=dh eD;have nC:=nC (by omega)
    have lu:(e8 Z X (s+1)).getD s false=Z[s]:=by
     have h9:s < (e8 Z X (s+1)).length:=by omega
     rw[cT h9];exact jv eD h9
    clear jv;rw[cT hsX]at iB;generalize TN[s]=L at nu hr mL iB;have qf:=(Aq @nB @nu);refine abQ [0,1,7,8,9,10,11,24,25,26] [18] ?_;refine ah [0,1,7,8,9,10,11,12,24,25,26] [18] ?_;refine af fun K4 bK=>?_;refine ah [0,1,7,8,9,10,11,12,24,25,26,31,32,33] [18] ?_;refine bQ (S:=Nat) (fun j=>j<=L.length) (fun j=>⟨aV [(0,.d (.ip [.sl none NN,.sl none RR,.v (.int .i64 S),.v (.int .i64 I),.sl none NX])),(1,.d (.v (.string ⟨#[102,111,114,99,101,115]⟩))),(7,.d (.sl none (X.map fun b=>[.v (.bool b)]))),(8,.own 18 0 Z.length),(9,.d (.v (.bool same))),(10,int s),(11,.d (.sl none (L.map fun n=>[.v (.int .i64 n)]))),(12,int (adQ L X j)),(24,.d (.sl none NX)),(25,int NX.length),(26,int s),(31,.d (.sl none (L.map fun n=>[.v (.int .i64 n)]))),(32,int L.length),(33,int j)],ak [(18,.sl 4 1 (Y.map fun b=>[.v (.bool b)]))]⟩) (fun j=>L.length - j) 0 ?_ (by omega) ?_
    .rw[Ce];refine bJ
    .intro j hj;have cm:=fun h=>Cd (l:=L) (X:=X) (j:=j) h;have hcl:=Cc L X j
     have lk:j=L.length->adQ L X L.length=adQ L X j:=fun e=>by rw[e]
     generalize adQ L X j=c at cm hcl lk ⊢;refine ah [0,1,7,8,9,10,11,12,24,25,26,31,32,33,34] [18] ?_;refine af fun K5 bB=>?_;by_cases fg:j < L.length
     .refine abP (by simp[fg]) ?_;refine abO (bB _ ?_);refine af fun K6 cq=>?_;refine aR ?_;have cm:=cm fg;obtain⟨v0,v1⟩:=mL L[j] (abH fg);obtain⟨u,hu⟩:=acn v0
      have nQ:u < X.length:=by omega
      rw[hu,abX,cT nQ]at cm;have qf:=(Aq @fg @hu);refine abQ [0,1,7,8,9,10,11,12,14,24,25,26,31,32,33] [18] ?_
      cases lB:X[u] with
      | true=>
       rw[lB,if_pos rfl]at cm;have qf:=(Aq @nQ @lB);refine abQ [0,1,7,8,9,10,11,12,24,25,26,31,32,33,40] [18] ?_;refine abP rfl ?_;refine reK trivial cq [0,1,7,8,9,10,11,12,24,25,26,31,32,33] [18] ?_;refine re0 ?_;(try simp only[aJ,aL]);refine aS.mk (j+1) (by omega) (by omega) ?_;rw[cm];refine bJ
      | false=>
       rw[lB,if_neg (by simp),adF]at cm;have qf:=(Aq @nQ @lB);refine abQ [0,1,7,8,9,10,11,12,24,25,26,31,32,33,40] [18] ?_;refine abN rfl ?_;refine abO ?_;refine cq _ (AW.norm [0,1,7,8,9,10,11,12,24,25,26,31,32,33] [18] (fun _ _=>trivial) (AW.st (by simp;rfl) ?_));refine re0 ?_;(try simp only[aJ,aL]);refine aS.mk (j+1) (by omega) (by omega) ?_;rw[cm];refine bJ
     .have wY:j=L.length:=by omega
      have lk:=lk wY;clear cm;refine abN (by simp<;>omega) ?_;refine bx (bK _ ?_);refine af fun K7 de=>?_;refine ah [0,1,7,8,9,10,11,12,24,25,26,44] [18] ?_;refine aR ?_;refine rg [0,1,7,8,9,10,11,12,24,25,26,44,58] [18] (fun _ _=>trivial) fun K' ae=>?_;(repeat (refine sxn fun K2 aa=>?_;simp[aO];(repeat (refine⟨by omega,?_⟩));refine aa _ ?_;clear aa K2));refine sxz (ae _ (AW.st (by simp[aO];rfl) ?_));clear ae K';refine abN (by first | rfl | simp) ?_;refine rg [0,1,7,8,9,10,11,12,24,25,26,73] [18] (fun _ _=>trivial) fun K' ae=>?_;(repeat (refine sxn fun K2 aa=>?_;simp[aO];(repeat (refine⟨by omega,?_⟩));refine aa _ ?_;clear aa K2));refine sxz (ae _ (AW.st (by simp[aO];rfl) ?_));clear ae K';refine abN (by first | rfl | simp) ?_;have lq:=He L X;rw[lk]at lq;rw[lq]at iB
      have pU:X[s]=true\/X[s]=false:=by cases X[s]<;>simp
      have tl:∀ τ,St.norm [0,1,7,8,9,10,24,25,26] [18] τ=⟨aV [(0,.d (.ip [.sl none NN,.sl none RR,.v (.int .i64 S),.v (.int .i64 I),.sl none NX])),(1,.d (.v (.string ⟨#[102,111,114,99,101,115]⟩))),(7,.d (.sl none (X.map fun b=>[.v (.bool b)]))),(8,.own 18 0 Z.length),(9,.d (.v (.bool same))),(10,int s),(24,.d (.sl none NX)),(25,int NX.length),(26,int s)],ak [(18,.sl 4 1 ((e8 Z X (s+1)).map fun b=>[.v (.bool b)]))]⟩->K7 τ:=by
       intro τ e;refine de τ (AW.norm [0,1,7,8,9,10,24,25,26] [18] (fun _ _=>trivial) (AW.st e ?_));clear e;generalize qC:e8 Z X (s+1)=W at nC lu ⊢
       have nK:s < W.length:=by omega
       rw[cT nK]at lu
       cases same with
       | false=>
        refine aeR (al _) (by kernel_rfl) (by kernel_rfl) fun K' ae=>?_;(repeat (refine eC fun K2 aa=>?_;simp;(repeat (refine⟨by omega,?_⟩));refine aa _ ?_;clear aa K2));refine iL (ae _ ?_);clear ae K';refine aQ _ (AW.norm [0,1,7,8,9,24,25,26] [18] (fun _ _=>trivial) (AW.st (by simp;rfl) ?_));refine re0 ?_;(try simp only[aJ,aL]);refine aS.mk (s+1) (by omega) (by omega) ?_;rw[fk,qC,Bool.false_and];refine bJ
       | true=>
        rw[aeK]at fk;refine aeR (al _) (by kernel_rfl) (by kernel_rfl) fun K' ae=>?_;(repeat (refine eC fun K2 aa=>?_;simp[hsX,nK,lu];(repeat (refine⟨by omega,?_⟩));refine aa _ ?_;clear aa K2));refine iL (ae _ ?_);clear ae K';refine aQ _ (AW.norm [0,1,7,8,9,24,25,26] [18] (fun _ _=>trivial) (AW.st (by simp[hsX,nK,lu];rfl) ?_));refine re0 ?_;(try simp only[aJ,aL]);refine aS.mk (s+1) (by omega) (by omega) ?_;rw[fk,qC];refine bJ
      rcases pU with hx | hx
      .have hc:True:=trivial;refine cR (al _) fun K' ae=>?_;(repeat (refine sxn fun K2 aa=>?_;simp[hsX,hx,iG,kg];(repeat (refine⟨by omega,?_⟩));refine aa _ ?_;clear aa K2));refine sxz (ae _ ?_);clear ae K'
       have hz:Z[s]=true:=by rw[iB];simp[hx,hc]
       rw[hz]at dh;refine tl _ ?_;rw[<- dh];simp[ab5,By iG]
      .by_cases hc:c=L.length
       .have dA:(((c:Int)=(L.length:Int)))=True:=eq_true (by omega);refine cR (al _) fun K' ae=>?_;(repeat (refine sxn fun K2 aa=>?_;simp[hsX,hx,dA,iG,kg];(repeat (refine⟨by omega,?_⟩));refine aa _ ?_;clear aa K2));refine sxz (ae _ ?_);clear ae K'
        have hz:Z[s]=true:=by rw[iB];simp[hx,hc]
        rw[hz]at dh;refine tl _ ?_;rw[<- dh];simp[ab5,By iG]
       .have dA:(((c:Int)=(L.length:Int)))=False:=eq_false (by omega);refine cR (al _) fun K' ae=>?_;(repeat (refine sxn fun K2 aa=>?_;simp[hsX,hx,dA,iG,kg];(repeat (refine⟨by omega,?_⟩));refine aa _ ?_;clear aa K2));refine sxz (ae _ ?_);clear ae K'
        have hz:Z[s]=false:=by rw[iB];simp[hx,hc]
        rw[hz]at dh;refine tl _ ?_;rw[<- dh];simp[ab5,By iG]
   .have nL:=jS (by omega);have w7:=qT (by omega);subst nL;subst w7;refine abN (by simp<;>omega) ?_;refine bx (ax _ ?_);refine af fun K8 dz=>?_;refine AW.imp (aB.freeze 18 trivial) ?_;refine AW.st (by simp[sh];rfl) ?_;by_cases eD:Y=X
    .have wo:=ad9 eD;have qf:=@eD;refine abQ [0,1,7,8,99] [] ?_;refine abP (by simp[eD]) ?_;refine ah [6] [] ?_;exact aN @wo
    .have qf:=@eD;refine abQ [0,1,7,8,99] [] ?_;refine abN (by simp[eD]) ?_;refine abO (dz _ ?_);refine re0 ?_;(try simp only[aJ,aL]);refine aS.mk Y qL (qP eD) ?_;refine bJ
end Go.Proofs.YtdigkhaofjmgkaaGreatDoor
namespace Go.Av
section
variable {P:Program} {T:Ty} {Mv X:Nat->Prop} {G:aq} {N:Fr} {ops:Array Oper} {σ:St}
def JO:Op->Bool
 | .call { callee:=.builtin .copy,.. }=>true
 | _=>false
def Y9 (P:Program) (T:Ty) (Mv:Nat->Prop) (G:aq) (N:Fr) (cp:List Nat) (ops:Array Oper) (i:Nat) (o:Oper) (σ:St) (K:St->Prop):Prop:=
 if cp.contains i=true then eU N o/\o.guard=none/\acm o.op=none/\acS o.op=true/\JO o.op=true/\match wr T G Mv σ o with
  | some (c,x,aG)=>c/\K ⟨aD aG.env o.dst x,aG.H⟩
  | none=>False
 else yj P T Mv G N [] [] [] [] ops i o σ K
end
attribute [simp] Y9 JO
end Go.Av
namespace Go.Proofs.YtdigkhaofjmgkaaGreatDoor
open Go.Av
theorem Uw:k9 .and .u64 1 4294967295=1:=by decide
theorem Uv:k9 .and .u64 0 4294967295=0:=by decide
theorem UC (n:Nat) (h:n < 2^32):k9 .and .u64 (n:Int) 4294967295=n:=by
 have:=ZO n 4294967295 (by omega) (by decide)
 have e:n &&& 4294967295=n:=by
  have:=Nat.and_two_pow_sub_one_eq_mod n 32;simp only[Nat.reducePow,Nat.reduceSub]at this;rw[this];omega
 rw[e]at this;exact this
theorem UQ:Int.fdiv 1 (2 ^ (min 32 IntKind.u64.bits))=0:=by decide
theorem UP:Int.fdiv 0 (2 ^ (min 32 IntKind.u64.bits))=0:=by decide
theorem UR (n:Nat) (h:n < 2^32):Int.fdiv (n:Int) (2 ^ (min 32 IntKind.u64.bits))=0:=by
 have e:(2:Int) ^ (min 32 IntKind.u64.bits)=4294967296:=by decide
 rw[e,Int.fdiv_eq_ediv_of_nonneg _ (by decide)];omega
theorem UX:IntKind.u64.wrap 0=0:=by decide
theorem UY:IntKind.u64.wrap 1=1:=by decide
theorem UZ (n:Nat) (h:n < 2^32):IntKind.u64.wrap (n:Int)=n:=MH n (by omega)
def dU (n:Int):D:=.v (.int .u64 n)
theorem UW (G:aq) (n:Nat) (h:n < 2^32):ar prog G 189 [dU 1,dU n] (.aW [dU 0,dU n]):=by
 have a2:=UC n h;have s2:=UR n h;have w2:=UZ n h;simp only[dU];refine ar.abS (al _) func189 rfl rfl (rs:=[.tmp 4,.tmp 5]) results189 (by simp[ntmps189]) fun X=>?_;simp only[ntmps189,List.map];have fw:=(Aq @nY.eq_1 (Aq @nY.eq_2 (Aq @nY.eq_3 (Aq @Uw (Aq @Uv (Aq @a2 (Aq @UQ (Aq @UP (Aq @s2 (Aq @UX (Aq @UY @w2)))))))))));refine rgq fw [0,1] [] ?_;refine rgq fw [0,1,6] [] ?_;refine rgq fw [0,1,6,7] [] ?_;refine rgq fw [0,1,6,7,8] [] ?_;refine rgq fw [0,1,6,7,8,9] [] ?_;refine rgq fw [0,1,6,7,8,9,10] [] ?_;refine rgq fw [0,1,6,7,9,11] [] ?_;refine rgq fw [0,1,6,7,9,11,12] [] ?_;refine rgq fw [0,1,6,7,9,12,13] [] ?_;refine rgq fw [0,1,7,9,12,13] [] ?_;refine rgq fw [0,1,4] [] ?_;refine rgq fw [4,5] [] ?_;exact aN fw
theorem mul_one (G:aq) (n:Nat) (h:n < 2^32):ar prog G 143 [dU 1,dU n] (.aW [dU 0,dU n]):=by
 have hm:=UW G n h;simp only[dU]at hm ⊢;refine ar.abS (al _) func143 rfl rfl (rs:=[.tmp 4,.tmp 5]) results143 (by simp[ntmps143]) fun X=>?_;simp only[ntmps143,List.map];refine ah [0,1] [] ?_;refine af fun K1 ax=>?_;refine abN rfl ?_;refine abO (ax _ ?_);refine aT trivial hm [8,9] [] ?_;refine ah [4,5] [] ?_;exact cZ
theorem GL (l:List Int) (X:List Bool):(!l.any fun t=>!X.getD t.toNat false)=eN l X:=by
 unfold eN;rw[aeB];simp
theorem Y4 (G:aq) (X:List Bool) (l:List Int) (hl:∀ x∈l,0<=x/\x < X.length):qc G 79 [.ip [dBl X]] (fun n=>.v (.int .i64 n)) (fun x=>!X.getD x.toNat false) l:=by
 intro x hx;obtain⟨h0,h1⟩:=hl x hx;obtain⟨u,rfl⟩:=acn h0
 have hu:u < X.length:=by omega
 simp only[dBl,abX];rw[cT hu];generalize hb:X[u]=b;refine ar.abS (al _) func79 rfl rfl (rs:=[.tmp 3]) results79 (by simp[ntmps79]) fun X=>?_;simp only[ntmps79,List.map];refine ah [0,1] [] ?_;have qf:=(Aq @hu @hb);refine abQ [3] [] ?_;exact cZ
theorem Y5 (G:aq) (X:List Bool) (l:List Int) (hl:∀ x∈l,0<=x/\x < X.length) (hL:l.length < 2^40):ar prog G 77 [dk l,dBl X] (.v (.bool (eN l X))):=by
 have hc:=Cj G none (fun n=>.v (.int .i64 n)) l _ _ _ (by omega) (Y4 G X l hl);rw[<- GL];generalize (l.any fun x=>!X.getD x.toNat false)=b at hc ⊢;simp only[dk,dBl]at hc ⊢;generalize (l.map fun n=>[D.v (.int .i64 n)])=LL at *;generalize (X.map fun b=>[D.v (.bool b)])=XX at *;refine ar.abS (al _) func77 rfl rfl (rs:=[.tmp 4]) results77 (by simp[ntmps77]) fun X=>?_;simp only[ntmps77,List.map];refine ah [0,3] [3] ?_;refine dX 3 ?_;refine aT trivial hc [4] [] ?_;exact cZ
theorem OJ (G:aq) (X:List Bool) (l:List Int) (hl:∀ x∈l,0<=x/\x < X.length):qc G 81 [.ip [dBl X]] (fun n=>.v (.int .i64 n)) (fun x=>X.getD x.toNat false) l:=by
 intro x hx;obtain⟨h0,h1⟩:=hl x hx;obtain⟨u,rfl⟩:=acn h0
 have hu:u < X.length:=by omega
 simp only[dBl,abX];rw[cT hu];generalize hb:X[u]=b;refine ar.abS (al _) func81 rfl rfl (rs:=[.tmp 3]) results81 (by simp[ntmps81]) fun X=>?_;simp only[ntmps81,List.map];refine ah [0,1] [] ?_;have qf:=(Aq @hu @hb);refine abQ [3] [] ?_;exact cZ
theorem OK (G:aq) (X:List Bool) (l:List Int) (hl:∀ x∈l,0<=x/\x < X.length) (hL:l.length < 2^40):ar prog G 80 [dk l,dBl X] (.v (.bool (jk l X))):=by
 have hc:=Cj G none (fun n=>.v (.int .i64 n)) l _ _ _ (by omega) (OJ G X l hl);unfold jk;generalize (l.any fun x=>X.getD x.toNat false)=b at hc ⊢;simp only[dk,dBl]at hc ⊢;generalize (l.map fun n=>[D.v (.int .i64 n)])=LL at *;generalize (X.map fun b=>[D.v (.bool b)])=XX at *;refine ar.abS (al _) func80 rfl rfl (rs:=[.tmp 4]) results80 (by simp[ntmps80]) fun X=>?_;simp only[ntmps80,List.map];refine ah [0,3] [3] ?_;refine dX 3 ?_;refine aT trivial hc [4] [] ?_;exact cZ
theorem PZ (G:aq) (X:List Bool) (l:List Int) (hl:∀ x∈l,0<=x/\x < X.length):qc G 83 [.ip [dBl X]] (fun n=>.v (.int .i64 n)) (fun x=>!X.getD x.toNat false) l:=by
 intro x hx;obtain⟨h0,h1⟩:=hl x hx;obtain⟨u,rfl⟩:=acn h0
 have hu:u < X.length:=by omega
 simp only[dBl,abX];rw[cT hu];generalize hb:X[u]=b;refine ar.abS (al _) func83 rfl rfl (rs:=[.tmp 3]) results83 (by simp[ntmps83]) fun X=>?_;simp only[ntmps83,List.map];refine ah [0,1] [] ?_;have qf:=(Aq @hu @hb);refine abQ [3] [] ?_;exact cZ
theorem P0 (G:aq) (X:List Bool) (l:List Int) (hl:∀ x∈l,0<=x/\x < X.length) (hL:l.length < 2^40):ar prog G 82 [dk l,dBl X] (.v (.bool (eN l X))):=by
 have hc:=Cj G none (fun n=>.v (.int .i64 n)) l _ _ _ (by omega) (PZ G X l hl);rw[<- GL];generalize (l.any fun x=>!X.getD x.toNat false)=b at hc ⊢;simp only[dk,dBl]at hc ⊢;generalize (l.map fun n=>[D.v (.int .i64 n)])=LL at *;generalize (X.map fun b=>[D.v (.bool b)])=XX at *;refine ar.abS (al _) func82 rfl rfl (rs:=[.tmp 4]) results82 (by simp[ntmps82]) fun X=>?_;simp only[ntmps82,List.map];refine ah [0,3] [3] ?_;refine dX 3 ?_;refine aT trivial hc [4] [] ?_;exact cZ
theorem PW (G:aq) (p:PgP) (aP:acg p=none) (hP:bp (bn p)<=4096) (g:FuncId) (kp:List Int->List Bool->Bool) (hm:aeF (abZ p) kp true)
  (lq:∀ (s:Nat) (h:s < (abZ p).length) (X:List Bool),X.length=(abZ p).length->ar prog G g [dk (abZ p)[s],dBl X] (.v (.bool (kp (abZ p)[s] X)))) (B:List Bool) (hB:B.length=(abZ p).length) :
  ar prog G 76 [lf p,dBl B,.fn (.func g) [],.v (.bool true)] (.aW [dBl (adN (abZ p) kp true B),.v .nilIface]):=by
 have ht:=aeY aP;have mO:=ht.pos;have hlen:=oL p;have hpp:0 < bp (bn p):=kW fun x hx=>(kr (fq aP) hx).m2;have ae8:∀ X,n5 (abZ p) kp true B X->X=adN (abZ p) kp true B:=fun X h=>xC h (afu hm hB);have cU:=vC (kp:=kp) (d:=true) hB;have nt:=s9 (abZ p)
 have gx:∀ s (h:s < (abZ p).length),(nxD (abZ p))[s]? = some [dk (abZ p)[s]]:=fun s h=>by simp[nxD,h]
 have hcast:((abZ p).length:Int)=bp (bn p):=by rw[hlen];omega
 have hcl:=Cb G B (by omega);simp only[lf,pc,qk,bO,dP,lX,dk,dBl]at gx lq hcl ⊢;rw[<- hcast]
 have DO:(abZ p).length<=4096:=by omega
 generalize adN (abZ p) kp true B=F at *;generalize nxD (abZ p)=NX at *;generalize abZ p=TN at *;clear hlen hcast;generalize ((ba p).map fun n=>[D.v (.int .i64 n)])=IN at *;generalize (bn p).map cPa=PT at *;generalize p.names.map cNm=NN at *;generalize p.ao.map cf=RR at *;obtain⟨N,hN⟩:∃ N:Nat,TN.length=N:=⟨_,rfl⟩;rw[hN]at nt DO mO hB ⊢
 have lg:(B.map fun b=>[D.v (.bool b)]).length=N:=by simp[hB]
 refine ar.abS (al _) func76 rfl rfl (rs:=[.tmp 8,.tmp 9]) results76 (by simp[ntmps76]) fun X=>?_;simp only[ntmps76,List.map];refine ah [0,1,2,3] [] ?_;refine af fun K1 ax=>?_;refine ah [0,1,2,3,15] [] ?_;refine abN rfl ?_;refine abO (ax _ ?_);refine af fun K2 aa=>?_;have qf:=@hB;refine abQ [0,1,2,3,23] [] ?_;refine abN (by simp) ?_;refine abO (aa _ ?_);refine bf trivial hcl [0,2,3,10] [701] ?_;refine af fun K3 aQ=>?_;refine ah [0,2,3,10,11] [701] ?_;refine bQ (S:=Bool×List Bool) (fun q=>aek TN kp true B q.2/\(q.1=false->∀ s (h:s < TN.length),q.2.getD s true=true->kp TN[s] q.2=true)) (fun q=>⟨aV [(0,.d (.ip [.sl none NN,.sl none RR,.v (.int .i64 N),.v (.int .i64 (nT p)),.sl none NX,.sl none PT,.sl none IN])),(2,.d (.fn (.func g) [])),(3,.d (.v (.bool true))),(10,.own 701 0 N),(11,.d (.v (.bool q.1)))],ak [(701,.sl 4 1 (q.2.map fun b=>[.v (.bool b)]))]⟩) (fun q=>2 * iJ true q.2+(if q.1 then 1 else 0)) (true,B) ?_ ⟨cU,fun h=>by cases h⟩ ?_
 .refine abW @hB
 .rintro⟨ag,X⟩ ⟨hw,hsh⟩;dsimp only at hw hsh ⊢;refine af fun K4 bK=>?_
  cases ag with
  | false=>
   refine ah [0,2,3,10,27] [701] ?_;refine abN rfl ?_;refine bx (aQ _ ?_);obtain rfl:=ae8 X (agA hw (hsh rfl))
   have fU:(X.map fun b=>[D.v (.bool b)]).length=N:=by rw[ac1,hw.lx,hN]
   refine AW.imp (aB.freeze 701 trivial) ?_;refine AW.st (by simp[fU,sh];rfl) ?_;refine ah [8,9] [] ?_;exact cZ
  | true=>
   clear hsh;refine ah [0,2,3,10,27] [701] ?_;refine abP rfl ?_;refine abO (bK _ ?_);refine aR ?_;refine ah [0,2,3,10,11] [701] ?_;refine ah [0,2,3,10,11,31,32,33] [701] ?_;refine bQ (S:=Nat×Bool×List Bool) (fun q=>q.1<=N/\aek TN kp true B q.2.2/\(q.2.1=false->∀ s (h:s < TN.length),s < q.1->q.2.2.getD s true=true->kp TN[s] q.2.2=true)/\2 * iJ true q.2.2+(if q.2.1 then 1 else 0)<=2 * iJ true X) (fun q=>⟨aV [(0,.d (.ip [.sl none NN,.sl none RR,.v (.int .i64 N),.v (.int .i64 (nT p)),.sl none NX,.sl none PT,.sl none IN])),(2,.d (.fn (.func g) [])),(3,.d (.v (.bool true))),(10,.own 701 0 N),(11,.d (.v (.bool q.2.1))),(31,.d (.sl none NX)),(32,int NX.length),(33,int q.1)],ak [(701,.sl 4 1 (q.2.2.map fun b=>[.v (.bool b)]))]⟩) (fun q=>N - q.1) (0,false,X) ?_ ⟨by simp,hw,fun _ s h hs=>absurd hs (by dsimp only;omega),by simp⟩ ?_
   .refine bJ
   .rintro⟨k,ag,Y⟩ ⟨hk,l8,sE,dh⟩;dsimp only at hk l8 sE dh ⊢;have C3:=l8.lx;rw[hN]at C3;refine ah [0,2,3,10,11,31,32,33,34] [701] ?_;refine af fun K5 bB=>?_;by_cases au:k < N
    .have cr:k < NX.length:=by omega
     have ju:(k:Int) < (NX.length:Int):=by omega
     have su:k < TN.length:=by omega
     refine abP (by simp<;>omega) ?_;refine abO (bB _ ?_);refine af fun K6 cq=>?_;refine aR ?_
     have hXs:NX[k]=[.sl none (TN[k].map fun n=>[.v (.int .i64 n)])]:=by
      have wJ:=gx k su;rw[By cr]at wJ;exact AI wJ
     have hkk:=lq k su Y (by omega)
     have hkY:k < Y.length:=by omega
     have fJ:N<=Y.length:=by omega
     have fO:List.take N (List.map (fun b=>[D.v (.bool b)]) Y)=List.map (fun b=>[D.v (.bool b)]) Y:=sh (by simp;omega);have sq:=aid (d:=true) (X:=Y) hkY;have hwt:=fun h=>Ge hm l8 su h
     have acO:(Y.getD k true=true->kp TN[k] Y=true)->ag=false->∀ s (h:s < TN.length),s < k+1->Y.getD s true=true->kp TN[s] Y=true:=fun hh ha s h hs=>by
      by_cases e:s=k
      .subst e;exact hh
      .exact sE ha s h (by omega)
     have qf:=(Aq @cr @hXs);refine abQ [0,2,3,10,11,12,13,31,32,33] [701] ?_;rw[cT hkY]at sq acO;generalize dY:Y[k]=b at sq acO;generalize Se:kp TN[k] Y=kv at *;by_cases hb:b=true
     .subst hb
      cases kv with
      | false=>
       refine rg [0,2,3,10,11,12,31,32,33,51] [701] (fun _ _=>trivial) fun K' ae=>?_;(repeat (refine sxn fun K2 aa=>?_;simp[hkY,au,dY,fJ,fO];(repeat (refine⟨by omega,?_⟩));refine aa _ ?_;clear aa K2));refine sxn fun K2 aa=>?_;simp[hkY,au,dY,fJ,fO];refine ab8.aee (hkk) (by simp[hkY,au,dY,fJ,fO];rfl) (by first | exact D.abY _ | simp[aC,abU,abK,D.le,D.le.go,D.le_refl,D.abY,hkY,au,dY,fJ,fO]) (by simp[D.scalar,hkY,au,dY,fJ,fO]) ?_;refine aa _ ?_;clear aa K2;simp only[aD,cz];(repeat (refine sxn fun K2 aa=>?_;simp[hkY,au,dY,fJ,fO];(repeat (refine⟨by omega,?_⟩));refine aa _ ?_;clear aa K2));refine sxz (ae _ (AW.st (by simp[hkY,au,dY,fJ,fO];rfl) ?_));clear ae K';refine abP rfl ?_;have qf:=(Aq @hkY @au);refine abQ [0,2,3,10,31,32,33] [701] ?_;refine reK trivial cq [0,2,3,10,11,31,32,33] [701] ?_;refine re0 ?_;(try simp only[aJ,aL]);have fX:=sq rfl;simp only[Bool.not_true]at fX;have jz:=hwt (by decide);simp only[Bool.not_true]at jz;refine aS.mk (k+1,true,Y.set k false) ⟨by dsimp only;omega,jz,fun h=>(by cases h),by dsimp only;simp only[if_true];split at dh<;>omega⟩ (by dsimp only;omega) ?_;refine aB.to' (fun _ _=>trivial) (by simp[ab5]) (by simp[ab5])
      | true=>
       refine rg [0,2,3,10,11,12,31,32,33,51] [701] (fun _ _=>trivial) fun K' ae=>?_;(repeat (refine sxn fun K2 aa=>?_;simp[hkY,au,dY,fJ,fO];(repeat (refine⟨by omega,?_⟩));refine aa _ ?_;clear aa K2));refine sxn fun K2 aa=>?_;simp[hkY,au,dY,fJ,fO];refine ab8.aee (hkk) (by simp[hkY,au,dY,fJ,fO];rfl) (by first | exact D.abY _ | simp[aC,abU,abK,D.le,D.le.go,D.le_refl,D.abY,hkY,au,dY,fJ,fO]) (by simp[D.scalar,hkY,au,dY,fJ,fO]) ?_;refine aa _ ?_;clear aa K2;simp only[aD,cz];(repeat (refine sxn fun K2 aa=>?_;simp[hkY,au,dY,fJ,fO];(repeat (refine⟨by omega,?_⟩));refine aa _ ?_;clear aa K2));refine sxz (ae _ (AW.st (by simp[hkY,au,dY,fJ,fO];rfl) ?_));clear ae K';refine abN rfl ?_;refine abO (cq _ ?_);refine re0 ?_;(try simp only[aJ,aL]);refine aS.mk (k+1,ag,Y) ⟨by dsimp only;omega,l8,acO fun _=>rfl,dh⟩ (by dsimp only;omega) ?_;refine bJ
     .have hb2:b=false:=by cases b<;>simp_all
      subst hb2;have qf:=(Aq @hkY (Aq @au @dY));refine abQ [0,2,3,10,11,12,31,32,33,51] [701] ?_;refine abN rfl ?_;refine abO (cq _ ?_);refine re0 ?_;(try simp only[aJ,aL]);refine aS.mk (k+1,ag,Y) ⟨by dsimp only;omega,l8,acO fun h=>(by cases h),dh⟩ (by dsimp only;omega) ?_;refine bJ
    .have ju:¬ (k:Int) < (NX.length:Int):=by omega
     obtain rfl:k=N:=by omega
     refine abN (by simp<;>omega) ?_;refine bx ?_;refine aS.mk (ag,Y) ⟨l8,fun ha s h=>sE ha s h (by omega)⟩ (by dsimp only;simp only[if_true];omega) ?_;refine bJ
theorem HJ (G:aq) (p:PgP) (aP:acg p=none) (hP:bp (bn p)<=4096) (g:FuncId) (kp:List Int->List Bool->Bool) (hm:aeF (abZ p) kp false)
  (lq:∀ (s:Nat) (h:s < (abZ p).length) (X:List Bool),X.length=(abZ p).length->ar prog G g [dk (abZ p)[s],dBl X] (.v (.bool (kp (abZ p)[s] X)))) (B:List Bool) (hB:B.length=(abZ p).length) :
  ar prog G 76 [lf p,dBl B,.fn (.func g) [],.v (.bool false)] (.aW [dBl (adN (abZ p) kp false B),.v .nilIface]):=by
 have ht:=aeY aP;have mO:=ht.pos;have hlen:=oL p;have hpp:0 < bp (bn p):=kW fun x hx=>(kr (fq aP) hx).m2;have ae8:∀ X,n5 (abZ p) kp false B X->X=adN (abZ p) kp false B:=fun X h=>xC h (afu hm hB);have cU:=vC (kp:=kp) (d:=false) hB;have nt:=s9 (abZ p)
 have gx:∀ s (h:s < (abZ p).length),(nxD (abZ p))[s]? = some [dk (abZ p)[s]]:=fun s h=>by simp[nxD,h]
 have hcast:((abZ p).length:Int)=bp (bn p):=by rw[hlen];omega
 have hcl:=Cb G B (by omega);simp only[lf,pc,qk,bO,dP,lX,dk,dBl]at gx lq hcl ⊢;rw[<- hcast]
 have DO:(abZ p).length<=4096:=by omega
 generalize adN (abZ p) kp false B=F at *;generalize nxD (abZ p)=NX at *;generalize abZ p=TN at *;clear hlen hcast;generalize ((ba p).map fun n=>[D.v (.int .i64 n)])=IN at *;generalize (bn p).map cPa=PT at *;generalize p.names.map cNm=NN at *;generalize p.ao.map cf=RR at *;obtain⟨N,hN⟩:∃ N:Nat,TN.length=N:=⟨_,rfl⟩;rw[hN]at nt DO mO hB ⊢
 have lg:(B.map fun b=>[D.v (.bool b)]).length=N:=by simp[hB]
 refine ar.abS (al _) func76 rfl rfl (rs:=[.tmp 8,.tmp 9]) results76 (by simp[ntmps76]) fun X=>?_;simp only[ntmps76,List.map];refine ah [0,1,2,3] [] ?_;refine af fun K1 ax=>?_;refine ah [0,1,2,3,15] [] ?_;refine abN rfl ?_;refine abO (ax _ ?_);refine af fun K2 aa=>?_;have qf:=@hB;refine abQ [0,1,2,3,23] [] ?_;refine abN (by simp) ?_;refine abO (aa _ ?_);refine bf trivial hcl [0,2,3,10] [701] ?_;refine af fun K3 aQ=>?_;refine ah [0,2,3,10,11] [701] ?_;refine bQ (S:=Bool×List Bool) (fun q=>aek TN kp false B q.2/\(q.1=false->∀ s (h:s < TN.length),q.2.getD s false=false->kp TN[s] q.2=false)) (fun q=>⟨aV [(0,.d (.ip [.sl none NN,.sl none RR,.v (.int .i64 N),.v (.int .i64 (nT p)),.sl none NX,.sl none PT,.sl none IN])),(2,.d (.fn (.func g) [])),(3,.d (.v (.bool false))),(10,.own 701 0 N),(11,.d (.v (.bool q.1)))],ak [(701,.sl 4 1 (q.2.map fun b=>[.v (.bool b)]))]⟩) (fun q=>2 * iJ false q.2+(if q.1 then 1 else 0)) (true,B) ?_ ⟨cU,fun h=>by cases h⟩ ?_
 .refine abW @hB
 .rintro⟨ag,X⟩ ⟨hw,hsh⟩;dsimp only at hw hsh ⊢;refine af fun K4 bK=>?_
  cases ag with
  | false=>
   refine ah [0,2,3,10,27] [701] ?_;refine abN rfl ?_;refine bx (aQ _ ?_);obtain rfl:=ae8 X (agA hw (hsh rfl))
   have fU:(X.map fun b=>[D.v (.bool b)]).length=N:=by rw[ac1,hw.lx,hN]
   refine AW.imp (aB.freeze 701 trivial) ?_;refine AW.st (by simp[fU,sh];rfl) ?_;refine ah [8,9] [] ?_;exact cZ
  | true=>
   clear hsh;refine ah [0,2,3,10,27] [701] ?_;refine abP rfl ?_;refine abO (bK _ ?_);refine aR ?_;refine ah [0,2,3,10,11] [701] ?_;refine ah [0,2,3,10,11,31,32,33] [701] ?_;refine bQ (S:=Nat×Bool×List Bool) (fun q=>q.1<=N/\aek TN kp false B q.2.2/\(q.2.1=false->∀ s (h:s < TN.length),s < q.1->q.2.2.getD s false=false->kp TN[s] q.2.2=false)/\2 * iJ false q.2.2+(if q.2.1 then 1 else 0)<=2 * iJ false X) (fun q=>⟨aV [(0,.d (.ip [.sl none NN,.sl none RR,.v (.int .i64 N),.v (.int .i64 (nT p)),.sl none NX,.sl none PT,.sl none IN])),(2,.d (.fn (.func g) [])),(3,.d (.v (.bool false))),(10,.own 701 0 N),(11,.d (.v (.bool q.2.1))),(31,.d (.sl none NX)),(32,int NX.length),(33,int q.1)],ak [(701,.sl 4 1 (q.2.2.map fun b=>[.v (.bool b)]))]⟩) (fun q=>N - q.1) (0,false,X) ?_ ⟨by simp,hw,fun _ s h hs=>absurd hs (by dsimp only;omega),by simp⟩ ?_
   .refine bJ
   .rintro⟨k,ag,Y⟩ ⟨hk,l8,sE,dh⟩;dsimp only at hk l8 sE dh ⊢;have C3:=l8.lx;rw[hN]at C3;refine ah [0,2,3,10,11,31,32,33,34] [701] ?_;refine af fun K5 bB=>?_;by_cases au:k < N
    .have cr:k < NX.length:=by omega
     have ju:(k:Int) < (NX.length:Int):=by omega
     have su:k < TN.length:=by omega
     refine abP (by simp<;>omega) ?_;refine abO (bB _ ?_);refine af fun K6 cq=>?_;refine aR ?_
     have hXs:NX[k]=[.sl none (TN[k].map fun n=>[.v (.int .i64 n)])]:=by
      have wJ:=gx k su;rw[By cr]at wJ;exact AI wJ
     have hkk:=lq k su Y (by omega)
     have hkY:k < Y.length:=by omega
     have fJ:N<=Y.length:=by omega
     have fO:List.take N (List.map (fun b=>[D.v (.bool b)]) Y)=List.map (fun b=>[D.v (.bool b)]) Y:=sh (by simp;omega);have sq:=aid (d:=false) (X:=Y) hkY;have hwt:=fun h=>Ge hm l8 su h
     have acO:(Y.getD k false=false->kp TN[k] Y=false)->ag=false->∀ s (h:s < TN.length),s < k+1->Y.getD s false=false->kp TN[s] Y=false:=fun hh ha s h hs=>by
      by_cases e:s=k
      .subst e;exact hh
      .exact sE ha s h (by omega)
     have qf:=(Aq @cr @hXs);refine abQ [0,2,3,10,11,12,13,31,32,33] [701] ?_;rw[cT hkY]at sq acO;generalize dY:Y[k]=b at sq acO;generalize Se:kp TN[k] Y=kv at *;by_cases hb:b=false
     .subst hb
      cases kv with
      | true=>
       refine rg [0,2,3,10,11,12,31,32,33,51] [701] (fun _ _=>trivial) fun K' ae=>?_;(repeat (refine sxn fun K2 aa=>?_;simp[hkY,au,dY,fJ,fO];(repeat (refine⟨by omega,?_⟩));refine aa _ ?_;clear aa K2));refine sxn fun K2 aa=>?_;simp[hkY,au,dY,fJ,fO];refine ab8.aee (hkk) (by simp[hkY,au,dY,fJ,fO];rfl) (by first | exact D.abY _ | simp[aC,abU,abK,D.le,D.le.go,D.le_refl,D.abY,hkY,au,dY,fJ,fO]) (by simp[D.scalar,hkY,au,dY,fJ,fO]) ?_;refine aa _ ?_;clear aa K2;simp only[aD,cz];(repeat (refine sxn fun K2 aa=>?_;simp[hkY,au,dY,fJ,fO];(repeat (refine⟨by omega,?_⟩));refine aa _ ?_;clear aa K2));refine sxz (ae _ (AW.st (by simp[hkY,au,dY,fJ,fO];rfl) ?_));clear ae K';refine abP rfl ?_;have qf:=(Aq @hkY @au);refine abQ [0,2,3,10,31,32,33] [701] ?_;refine reK trivial cq [0,2,3,10,11,31,32,33] [701] ?_;refine re0 ?_;(try simp only[aJ,aL]);have fX:=sq rfl;simp only[adg]at fX;have jz:=hwt (by decide);simp only[adg]at jz;refine aS.mk (k+1,true,Y.set k true) ⟨by dsimp only;omega,jz,fun h=>(by cases h),by dsimp only;simp only[if_true];split at dh<;>omega⟩ (by dsimp only;omega) ?_;refine aB.to' (fun _ _=>trivial) (by simp[ab5]) (by simp[ab5])
      | false=>
       refine rg [0,2,3,10,11,12,31,32,33,51] [701] (fun _ _=>trivial) fun K' ae=>?_;(repeat (refine sxn fun K2 aa=>?_;simp[hkY,au,dY,fJ,fO];(repeat (refine⟨by omega,?_⟩));refine aa _ ?_;clear aa K2));refine sxn fun K2 aa=>?_;simp[hkY,au,dY,fJ,fO];refine ab8.aee (hkk) (by simp[hkY,au,dY,fJ,fO];rfl) (by first | exact D.abY _ | simp[aC,abU,abK,D.le,D.le.go,D.le_refl,D.abY,hkY,au,dY,fJ,fO]) (by simp[D.scalar,hkY,au,dY,fJ,fO]) ?_;refine aa _ ?_;clear aa K2;simp only[aD,cz];(repeat (refine sxn fun K2 aa=>?_;simp[hkY,au,dY,fJ,fO];(repeat (refine⟨by omega,?_⟩));refine aa _ ?_;clear aa K2));refine sxz (ae _ (AW.st (by simp[hkY,au,dY,fJ,fO];rfl) ?_));clear ae K';refine abN rfl ?_;refine abO (cq _ ?_);refine re0 ?_;(try simp only[aJ,aL]);refine aS.mk (k+1,ag,Y) ⟨by dsimp only;omega,l8,acO fun _=>rfl,dh⟩ (by dsimp only;omega) ?_;refine bJ
     .have hb2:b=true:=by cases b<;>simp_all
      subst hb2;have qf:=(Aq @hkY (Aq @au @dY));refine abQ [0,2,3,10,11,12,31,32,33,51] [701] ?_;refine abN rfl ?_;refine abO (cq _ ?_);refine re0 ?_;(try simp only[aJ,aL]);refine aS.mk (k+1,ag,Y) ⟨by dsimp only;omega,l8,acO fun h=>(by cases h),dh⟩ (by dsimp only;omega) ?_;refine bJ
    .have ju:¬ (k:Int) < (NX.length:Int):=by omega
     obtain rfl:k=N:=by omega
     refine abN (by simp<;>omega) ?_;refine bx ?_;refine aS.mk (ag,Y) ⟨l8,fun ha s h=>sE ha s h (by omega)⟩ (by dsimp only;simp only[if_true];omega) ?_;refine bJ
theorem Y8 (G:aq) (p:PgP) (aP:acg p=none) (hi:(ba p).length<=6) (hP:bp (bn p)<=4096) (B:List Bool) (hB:B.length=(abZ p).length):ar prog G 30 [lf p,dBl B] (.aW [dBl (adN (abZ p) eN true B),.v .nilIface]):=by
 have ht:=aeY aP
 have hf:=PW G p aP hP _ eN (EV (aeY aP)) (fun s h X hX=>Y5 G X _ (fun x hx=>by
  obtain⟨h0,h1⟩:=ht.mem _ (abH h) x hx
  omega) (by
  rw[s5 h,p4];have:=adH (n:=2) (by decide) hi
  omega)) B hB
 have pD:∃ c,lf p = .ip c:=⟨_,rfl⟩;obtain⟨MC,wu⟩:=pD;simp only[wu,dBl]at hf ⊢;generalize (adN (abZ p) eN true B)=F at *;generalize (B.map fun b=>[D.v (.bool b)])=BB at *;refine ar.abS (al _) func30 rfl rfl (rs:=[.tmp 4,.tmp 5]) results30 (by simp[ntmps30]) fun X=>?_;simp only[ntmps30,List.map];refine ah [0,1] [] ?_;refine aT trivial hf [4,5] [] ?_;exact cZ
theorem OM (G:aq) (p:PgP) (aP:acg p=none) (hi:(ba p).length<=6) (hP:bp (bn p)<=4096) (B:List Bool) (hB:B.length=(abZ p).length):ar prog G 31 [lf p,dBl B] (.aW [dBl (adN (abZ p) jk false B),.v .nilIface]):=by
 have ht:=aeY aP
 have hf:=HJ G p aP hP _ jk (EW _) (fun s h X hX=>OK G X _ (fun x hx=>by
  obtain⟨h0,h1⟩:=ht.mem _ (abH h) x hx
  omega) (by
  rw[s5 h,p4];have:=adH (n:=2) (by decide) hi
  omega)) B hB
 have pD:∃ c,lf p = .ip c:=⟨_,rfl⟩;obtain⟨MC,wu⟩:=pD;simp only[wu,dBl]at hf ⊢;generalize (adN (abZ p) jk false B)=F at *;generalize (B.map fun b=>[D.v (.bool b)])=BB at *;refine ar.abS (al _) func31 rfl rfl (rs:=[.tmp 4,.tmp 5]) results31 (by simp[ntmps31]) fun X=>?_;simp only[ntmps31,List.map];refine ah [0,1] [] ?_;refine aT trivial hf [4,5] [] ?_;exact cZ
theorem P2 (G:aq) (p:PgP) (aP:acg p=none) (hi:(ba p).length<=6) (hP:bp (bn p)<=4096) (B:List Bool) (hB:B.length=(abZ p).length):ar prog G 32 [lf p,dBl B] (.aW [dBl (adN (abZ p) eN false B),.v .nilIface]):=by
 have ht:=aeY aP
 have hf:=HJ G p aP hP _ eN (EU _) (fun s h X hX=>P0 G X _ (fun x hx=>by
  obtain⟨h0,h1⟩:=ht.mem _ (abH h) x hx
  omega) (by
  rw[s5 h,p4];have:=adH (n:=2) (by decide) hi
  omega)) B hB
 have pD:∃ c,lf p = .ip c:=⟨_,rfl⟩;obtain⟨MC,wu⟩:=pD;simp only[wu,dBl]at hf ⊢;generalize (adN (abZ p) eN false B)=F at *;generalize (B.map fun b=>[D.v (.bool b)])=BB at *;refine ar.abS (al _) func32 rfl rfl (rs:=[.tmp 4,.tmp 5]) results32 (by simp[ntmps32]) fun X=>?_;simp only[ntmps32,List.map];refine ah [0,1] [] ?_;refine aT trivial hf [4,5] [] ?_;exact cZ
theorem PV (G:aq) (BB:List (List D)) (g:FuncId) (d:Bool):ar prog G 76 [.v (.pointer none),.sl none BB,.fn (.func g) [],.v (.bool d)] (.aW [.sl none [],.bt 40 (.v (.int .i64 7))]):=by
 refine ar.abS (al _) func76 rfl rfl (rs:=[.tmp 8,.tmp 9]) results76 (by simp[ntmps76]) fun X=>?_;simp only[ntmps76,List.map];refine ah [0,1,2,3] [] ?_;refine af fun K1 ax=>?_;refine ah [0,1,2,3,15] [] ?_;refine abP rfl ?_;refine ah [8,9] [] ?_;exact cZ
theorem Y6 (G:aq) (BB:List (List D)):ar prog G 30 [.v (.pointer none),.sl none BB] (.aW [.sl none [],.bt 40 (.v (.int .i64 7))]):=by
 have hf:=PV G BB 77 true;refine ar.abS (al _) func30 rfl rfl (rs:=[.tmp 4,.tmp 5]) results30 (by simp[ntmps30]) fun X=>?_;simp only[ntmps30,List.map];refine ah [0,1] [] ?_;refine aT trivial hf [4,5] [] ?_;exact cZ
theorem CG (G:aq) (a b c e f:D) (S N:Int) (BB:List (List D)) (hb:(BB.length:Int)≠S) (g:FuncId) (d:Bool):ar prog G 76 [.ip [a,b,.v (.int .i64 S),.v (.int .i64 N),c,e,f],.sl none BB,.fn (.func g) [],.v (.bool d)] (.aW [.sl none [],.bt 40 (.v (.int .i64 3))]):=by
 refine ar.abS (al _) func76 rfl rfl (rs:=[.tmp 8,.tmp 9]) results76 (by simp[ntmps76]) fun X=>?_;simp only[ntmps76,List.map];refine ah [0,1,2,3] [] ?_;refine af fun K1 ax=>?_;refine ah [0,1,2,3,15] [] ?_;refine abN rfl ?_;refine abO (ax _ ?_);refine af fun K2 aa=>?_;have qf:=@hb;refine abQ [0,1,2,3,23] [] ?_;refine abP (by simp[hb]) ?_;refine ah [8,9] [] ?_;exact cZ
theorem Y7 (G:aq) (a b c e f:D) (S N:Int) (BB:List (List D)) (hb:(BB.length:Int)≠S):ar prog G 30 [.ip [a,b,.v (.int .i64 S),.v (.int .i64 N),c,e,f],.sl none BB] (.aW [.sl none [],.bt 40 (.v (.int .i64 3))]):=by
 have hf:=CG G a b c e f S N BB hb 77 true;refine ar.abS (al _) func30 rfl rfl (rs:=[.tmp 4,.tmp 5]) results30 (by simp[ntmps30]) fun X=>?_;simp only[ntmps30,List.map];refine ah [0,1] [] ?_;refine aT trivial hf [4,5] [] ?_;exact cZ
theorem OL (G:aq) (a b c e f:D) (S N:Int) (BB:List (List D)) (hb:(BB.length:Int)≠S):ar prog G 31 [.ip [a,b,.v (.int .i64 S),.v (.int .i64 N),c,e,f],.sl none BB] (.aW [.sl none [],.bt 40 (.v (.int .i64 3))]):=by
 have hf:=CG G a b c e f S N BB hb 80 false;refine ar.abS (al _) func31 rfl rfl (rs:=[.tmp 4,.tmp 5]) results31 (by simp[ntmps31]) fun X=>?_;simp only[ntmps31,List.map];refine ah [0,1] [] ?_;refine aT trivial hf [4,5] [] ?_;exact cZ
theorem P1 (G:aq) (a b c e f:D) (S N:Int) (BB:List (List D)) (hb:(BB.length:Int)≠S):ar prog G 32 [.ip [a,b,.v (.int .i64 S),.v (.int .i64 N),c,e,f],.sl none BB] (.aW [.sl none [],.bt 40 (.v (.int .i64 3))]):=by
 have hf:=CG G a b c e f S N BB hb 82 false;refine ar.abS (al _) func32 rfl rfl (rs:=[.tmp 4,.tmp 5]) results32 (by simp[ntmps32]) fun X=>?_;simp only[ntmps32,List.map];refine ah [0,1] [] ?_;refine aT trivial hf [4,5] [] ?_;exact cZ
theorem XO (G:aq) (hF:qe G) (hM:adP G) (hP:ae1 G) (hG:mo G) {es er:Value} (hE:o0 G es er) (hNW:vH G) (mH:vI G) (t:Tx) (B:List Bool):ar prog G 5 [dS t,dBl B] (.v (.bool true)):=by
 have jv:=Uy G hF hM hP hG hE hNW mH t 60;have qG:=GW G hG 7;have oo:=GW G hG 3;rw[show pg 7=some (7,none) from rfl]at qG;rw[show pg 3=some (3,none) from rfl]at oo;simp only[bd]at qG oo;have fk:=Y6 G (B.map fun b=>[.v (.bool b)])
 have lg:(B.map fun b=>[D.v (.bool b)]).length=B.length:=by simp
 simp only[dS,ab,dBl]at jv qG oo ⊢
 cases DN:xF t 60 with
 | none=>
  rw[DN]at jv;simp only[rQ]at jv;refine ar.abS (al _) func5 rfl rfl (rs:=[.tmp 4]) results5 (by simp[ntmps5]) fun X=>?_;simp only[ntmps5,List.map];refine ah [0,1] [] ?_;refine aT trivial jv [1,5,6,7] [] ?_;refine af fun K1 ax=>?_;refine ah [1,5,6,28] [] ?_;refine abP rfl ?_;refine ah [4] [] ?_;exact cZ
 | some p=>
  rw[DN]at jv;obtain⟨aP,hk,hi4,uf,aaB⟩:=Ux DN;have hpp:0 < bp (bn p):=kW fun x hx=>(kr (fq aP) hx).m2;have hlen:=oL p
  have hcast:((abZ p).length:Int)=bp (bn p):=by rw[hlen];omega
  have cU:=fun (h:B.length=(abZ p).length)=>Y8 G p aP (by omega) uf B h;have iT:=fun (h:B.length=(abZ p).length)=>OM G p aP (by omega) uf B h;have qH:=fun (h:B.length=(abZ p).length)=>P2 G p aP (by omega) uf B h;have lA:=fun (h:B.length=(abZ p).length)=>aag G p aP (by omega) uf B h;have xp:=fun (h:B.length=(abZ p).length)=>aae G p aP (by omega) uf B h;have l7:=fun (h:B.length=(abZ p).length)=>aaf G p aP (by omega) uf B h;have fY:=fun (h:B.length=(abZ p).length)=>(afu (EV (aeY aP)) h).lx;have hlc:=fun (h:B.length=(abZ p).length)=>(afu (EW (abZ p)) h).lx;have hlf:=fun (h:B.length=(abZ p).length)=>(afu (EU (abZ p)) h).lx;simp only[rQ,lf,pc,qk,ae4,dMw,o7,bO,dP,lX,dk]at jv;simp only[lf,pc,qk,ae4,dMw,o7,bO,dP,lX,dk,dBl]at cU iT qH lA xp l7;generalize adN (abZ p) eN true B=X1 at *;generalize adN (abZ p) jk false B=X2 at *;generalize adN (abZ p) eN false B=X3 at *;generalize nxD (abZ p)=NX at *;generalize (abZ p).length=L at *;generalize bp (bn p)=S at *;generalize ((nT p:Nat):Int)=N at *;generalize ((ba p).map fun n=>[D.v (.int .i64 n)])=IN at *;generalize (bn p).map cPa=PT at *;generalize p.names.map cNm=NN at *;generalize p.ao.map cf=RR at *;generalize p.ao.map cL=RW at *;by_cases Qj:(B.length:Int) > 300
  .refine ar.abS (al _) func5 rfl rfl (rs:=[.tmp 4]) results5 (by simp[ntmps5]) fun X=>?_;simp only[ntmps5,List.map];refine ah [0,1] [] ?_;refine aT trivial jv [1,5,6,7] [] ?_;refine af fun K1 ax=>?_;have qf:=@Qj;refine abQ [1,5,6,28] [] ?_;refine abP (by simp<;>omega) ?_;refine ah [4] [] ?_;exact cZ
  .by_cases hB:B.length=L
   .have cU:=cU hB;have iT:=iT hB;have qH:=qH hB;have lA:=lA hB;have xp:=xp hB;have l7:=l7 hB;have gO:=Gp G X1 X1 (by have:=fY hB;omega);have eS:=Gp G X2 X2 (by have:=hlc hB;omega);have xf:=Gp G X3 X3 (by have:=hlf hB;omega)
    have tb:∀ l:List Bool,(l == l)=true:=fun l=>by simp
    simp only[tb,dBl]at gO eS xf
    have hBS:(B.length:Int)=S:=by omega
    generalize (X1.map fun b=>[D.v (.bool b)])=Y1 at *;generalize (X2.map fun b=>[D.v (.bool b)])=Y2 at *;generalize (X3.map fun b=>[D.v (.bool b)])=Y3 at *;generalize (B.map fun b=>[D.v (.bool b)])=BB at *
    have Qr:(BB.length:Int)=S:=by omega
    have CL:¬ (BB.length:Int) > 300:=by omega
    refine ar.abS (al _) func5 rfl rfl (rs:=[.tmp 4]) results5 (by simp[ntmps5]) fun X=>?_;simp only[ntmps5,List.map];refine ah [0,1] [] ?_;refine aT trivial jv [1,5,6,7] [] ?_;refine af fun K1 ax=>?_;have qf:=@CL;refine abQ [1,5,6,28] [] ?_;refine abN (by simp<;>omega) ?_;refine abO (ax _ ?_);refine af fun K2 aa=>?_;refine ah [1,5,6,30] [] ?_;refine abN rfl ?_;refine abO (aa _ ?_);refine aT trivial cU [1,5,6,8,9] [] ?_;refine aT trivial iT [1,5,6,8,9,10,11] [] ?_;refine aT trivial qH [1,6,8,9,10,11,12,13] [] ?_;refine aT trivial fk [1,6,8,9,10,11,12,13,15] [] ?_;refine af fun K3 aQ=>?_;refine aT trivial qG [1,6,8,9,10,11,12,13,56] [] ?_;refine abN rfl ?_;refine abO (aQ _ ?_);refine af fun K4 bK=>?_;refine ah [1,6,8,9,10,11,12,13,63] [] ?_;refine abN (by simp[Qr]) ?_;refine abO (bK _ ?_);refine rg [4] [] (fun _ _=>trivial) fun K' ae=>?_;(repeat (refine sxn fun K2 aa=>?_;simp;(repeat (refine⟨by omega,?_⟩));refine aa _ ?_;clear aa K2));refine sxn fun K2 aa=>?_;simp;refine ab8.data (lA) (by simp;rfl) (by first | exact D.abY _ | simp[aC,abU,abK,D.le,D.le.go,D.le_refl,D.abY]) ?_;refine aa _ ?_;clear aa K2;simp only[aD,cz];(repeat (refine sxn fun K2 aa=>?_;simp;(repeat (refine⟨by omega,?_⟩));refine aa _ ?_;clear aa K2));refine sxn fun K2 aa=>?_;simp;refine ab8.data (gO) (by simp;rfl) (by first | exact D.abY _ | simp[aC,abU,abK,D.le,D.le.go,D.le_refl,D.abY]) ?_;refine aa _ ?_;clear aa K2;simp only[aD,cz];(repeat (refine sxn fun K2 aa=>?_;simp;(repeat (refine⟨by omega,?_⟩));refine aa _ ?_;clear aa K2));refine sxn fun K2 aa=>?_;simp;refine ab8.data (xp) (by simp;rfl) (by first | exact D.abY _ | simp[aC,abU,abK,D.le,D.le.go,D.le_refl,D.abY]) ?_;refine aa _ ?_;clear aa K2;simp only[aD,cz];(repeat (refine sxn fun K2 aa=>?_;simp;(repeat (refine⟨by omega,?_⟩));refine aa _ ?_;clear aa K2));refine sxn fun K2 aa=>?_;simp;refine ab8.data (eS) (by simp;rfl) (by first | exact D.abY _ | simp[aC,abU,abK,D.le,D.le.go,D.le_refl,D.abY]) ?_;refine aa _ ?_;clear aa K2;simp only[aD,cz];(repeat (refine sxn fun K2 aa=>?_;simp;(repeat (refine⟨by omega,?_⟩));refine aa _ ?_;clear aa K2));refine sxn fun K2 aa=>?_;simp;refine ab8.data (l7) (by simp;rfl) (by first | exact D.abY _ | simp[aC,abU,abK,D.le,D.le.go,D.le_refl,D.abY]) ?_;refine aa _ ?_;clear aa K2;simp only[aD,cz];(repeat (refine sxn fun K2 aa=>?_;simp;(repeat (refine⟨by omega,?_⟩));refine aa _ ?_;clear aa K2));refine sxn fun K2 aa=>?_;simp
    refine ab8.data (xf) (by simp;rfl) (by first | exact D.abY _ | simp[aC,abU,abK,D.le,D.le.go,D.le_refl,D.abY]) ?_;refine aa _ ?_;clear aa K2;simp only[aD,cz];(repeat (refine sxn fun K2 aa=>?_;simp;(repeat (refine⟨by omega,?_⟩));refine aa _ ?_;clear aa K2));refine sxz (ae _ (AW.st (by simp;rfl) ?_));clear ae K';exact cZ
   .have aI:((B.map fun b=>[D.v (.bool b)]).length:Int)≠S:=by rw[lg];omega
    have o1:=Y7 G (.sl none NN) (.sl none RR) (.sl none NX) (.sl none PT) (.sl none IN) S N _ aI;have o2:=OL G (.sl none NN) (.sl none RR) (.sl none NX) (.sl none PT) (.sl none IN) S N _ aI;have o3:=P1 G (.sl none NN) (.sl none RR) (.sl none NX) (.sl none PT) (.sl none IN) S N _ aI;clear cU iT qH lA xp l7 fY hlc hlf;generalize (B.map fun b=>[D.v (.bool b)])=BB at *
    have CL:¬ (BB.length:Int) > 300:=by omega
    refine ar.abS (al _) func5 rfl rfl (rs:=[.tmp 4]) results5 (by simp[ntmps5]) fun X=>?_;simp only[ntmps5,List.map];refine ah [0,1] [] ?_;refine aT trivial jv [1,5,6,7] [] ?_;refine af fun K1 ax=>?_;have qf:=@CL;refine abQ [1,5,6,28] [] ?_;refine abN (by simp<;>omega) ?_;refine abO (ax _ ?_);refine af fun K2 aa=>?_;refine ah [1,5,6,30] [] ?_;refine abN rfl ?_;refine abO (aa _ ?_);refine aT trivial o1 [1,5,6,8,9] [] ?_;refine aT trivial o2 [1,5,6,8,9,10,11] [] ?_;refine aT trivial o3 [1,6,8,9,10,11,12,13] [] ?_;refine aT trivial fk [1,6,8,9,10,11,12,13,15] [] ?_;refine af fun K3 aQ=>?_;refine aT trivial qG [1,6,8,9,10,11,12,13,56] [] ?_;refine abN rfl ?_;refine abO (aQ _ ?_);refine af fun K4 bK=>?_;refine ah [1,6,8,9,10,11,12,13,63] [] ?_;refine abP (by simp[aI]) ?_;refine rg [4] [] (fun _ _=>trivial) fun K' ae=>?_;(repeat (refine sxn fun K2 aa=>?_;simp;(repeat (refine⟨by omega,?_⟩));refine aa _ ?_;clear aa K2));refine sxn fun K2 aa=>?_;simp;refine ab8.data (oo) (by simp;rfl) (by first | exact D.abY _ | simp[aC,abU,abK,D.le,D.le.go,D.le_refl,D.abY]) ?_;refine aa _ ?_;clear aa K2;simp only[aD,cz];(repeat (refine sxn fun K2 aa=>?_;simp;(repeat (refine⟨by omega,?_⟩));refine aa _ ?_;clear aa K2));refine sxn fun K2 aa=>?_;simp;refine ab8.data (oo) (by simp;rfl) (by first | exact D.abY _ | simp[aC,abU,abK,D.le,D.le.go,D.le_refl,D.abY]) ?_;refine aa _ ?_;clear aa K2;simp only[aD,cz];(repeat (refine sxn fun K2 aa=>?_;simp;(repeat (refine⟨by omega,?_⟩));refine aa _ ?_;clear aa K2));refine sxn fun K2 aa=>?_;simp;refine ab8.data (oo) (by simp;rfl) (by first | exact D.abY _ | simp[aC,abU,abK,D.le,D.le.go,D.le_refl,D.abY]) ?_;refine aa _ ?_;clear aa K2;simp only[aD,cz];(repeat (refine sxn fun K2 aa=>?_;simp;(repeat (refine⟨by omega,?_⟩));refine aa _ ?_;clear aa K2));refine sxz (ae _ (AW.st (by simp;rfl) ?_));clear ae K';exact cZ
open Go.ChangeAt Go.ChangeShapes Go.RowKit Go.WideShapes
theorem TT:ownKnob prog.godebug=none:=by kernel_rfl
theorem TS:laidOutB prog=true:=by kernel_rfl
theorem Oy:prog.cellsOf 3=1:=by kernel_rfl
section
variable {H:Type} {enc:TypeId×Value->H} {w:World} {base:Nat} {spare:Nat->Bool} {held:Bool} {X:Nat->Prop}
end
end Go.Proofs.YtdigkhaofjmgkaaGreatDoor
namespace Go.Proofs.YtdigkhaofjmgkaaGreatDoor
open Go.Av Go.ChangeShapes Go.WideShapes Go.ChangeAt Go.RowKit
section
variable {H:Type} {enc:TypeId×Value->H} {w:World} {base:Nat} {spare:Nat->Bool} {held:Bool} {X:Nat->Prop}
theorem Wl:yA enc prog w base spare held X 4 (fun _:Bool=>True) (fun b=>[.v (.bool b)]):=by
 intro fuel cs x h;obtain⟨b,rfl,_⟩:=DataW.trod_bool underlying4 h;exact⟨b,trivial,.one (.v _)⟩
theorem Ow:prog.cellsOf 4=1:=by kernel_rfl
theorem Wm (hX:∀ b,¬ X b):yA enc prog w base spare held X 55 (fun _:List Bool=>True) (fun l=>[dBl l]):=by
 intro fuel cs x h;obtain⟨l,_,hr⟩:=Wn underlying55 Ow (by omega) hX Wl fuel cs x h;exact⟨l,trivial,hr⟩
end
