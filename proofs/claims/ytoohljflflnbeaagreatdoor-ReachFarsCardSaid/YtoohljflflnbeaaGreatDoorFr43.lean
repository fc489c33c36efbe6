/- Parts. -/
import Derived.Test.YtoohljflflnbeaaGreatDoorFr42
set_option linter.unusedSimpArgs false
set_option linter.unusedVariables false
set_option maxHeartbeats 16000000
set_option maxRecDepth 100000
open Go.Proofs.Tryz
namespace Go.Proofs.YtoohljflflnbeaaGreatDoor
open Go.Av
def jF (x:ky):List D:=[.v (.int .i64 x.nm),.v (.int .i64 x.most),.v (.bool x.far)]
def nY (l:List ky):D:=.sl none (l.map jF)
def sa (p:aS) (st gN:Int) (nx:List (List D)):List D:=[cE p.names,fg p.ax,.v (.int .i64 st),.v (.int .i64 gN),.sl none nx,nY (bO p),fI (bA p)]
def tH (p:aS) (st gN:Int) (nx:List (List D)):List (Nat×Row):=[(25,.box 113 [.d (cE p.names),.d (fg p.ax),.d (.v (.int .i64 st)),.d (.v (.int .i64 gN)),.own 800 0 nx.length,.d (nY (bO p)),.d (fI (bA p))]),(800,.sl 41 1 nx)]
def ri (p:aS) (st gN:Int) (nx:List (List D)):D:=.ip (sa p st gN nx)
def fL (l:List (List Int)):List (List D):=l.map fun r=>[fI r]
theorem Bc (l:List (List Int)):(fL l).length=l.length:=by simp[fL]
theorem agW (G:ay) (p:aS) (hp:p.names.length < 2^40):MC prog G [] 111 [.d (gu p)] (aq []) (.agg [.own 701 0 (mC p).is.length,.own 702 0 (mC p).ct.length]) (aq [(701,.sl 4 1 ((mC p).is.map fun b=>[.v (.bool b)])),(702,.sl 3 1 ((mC p).ct.map fun n=>[.v (.int .i64 n)]))]):=by
 have kH:(p.names.map bw).length=p.names.length:=ak
 simp only[gu,gX,cE,fg,mC,ake,List.length_replicate];rw[<- kH];rw[<- kH]at hp;generalize p.names.map bw=NN at *;generalize p.ax.map cU=RR at *;refine MC.aQ (aC _) func111 rfl rfl (rs:=[.cell 2 88]) results111 (by simp[ntmps111]) rfl fun X=>?_;simp only[ntmps111];refine aB [1,2] [1,2] ?_;refine gv 1 ?_;refine HZ (aC _) ah ([]) ([]) ([0,1,2,4,5,6,3,7,8,9]) [2] [2,6,10] (ew rfl) ah fun K' ao=>?_;(repeat refine zh rfl fun K2 aw=>?_;simp[lZ,gg];(repeat refine⟨aa,?_⟩);refine aw _ ?_;clear aw K2);refine zi (ao _ ?_);refine AW.st (by simp[lZ,gg];rfl) ?_;refine AW.imp (aM.dI (r:=6) (r':=701) bF ak) ?_;refine AW.st (by simp[ik,ij,Go.Av.dI,qU];rfl) ?_;refine AW.imp (aM.dI (r:=10) (r':=702) bF ak) ?_;refine AW.st (by simp[ik,ij,Go.Av.dI,qU];rfl) ?_;exact gn
theorem acK (G:ay) (p:aS) (bn:c8 p=none) (st gN:Int) (nx:List (List D)) (n:Int) (h0:0<=n) (h1:n<=2^40):MC prog G [25,800] 66 [.ref 25 0 0,.d (ab n)] (aq (tH p st gN nx)) (.d (vJ (pt p n))) (aq (tH p st gN nx)):=by
 have hg:=iB bn;have iF:=hg.names;have eL:=agW G p aa;have Cl:∀ x∈bO p,zu p x:=fun x hx=>nJ hg hx
 have eZ:(mC p).is.length=p.names.length:=by simp[mC]
 have fi:(mC p).ct.length=p.names.length:=by simp[mC]
 have so:qX ((bO p).drop 0) n (mC p)=pt p n:=rfl;have pF:=G9 p p.names.length;have Jv:gQ p p.names.length=bO p:=rfl;rw[Jv]at pF;simp only[gu,gX,cE,fg]at eL;simp only[tH,cE,fg,nY,fI,ab,vJ,rh,mG];generalize aiu:pt p n=VF at *;generalize hST:mC p=ST at *;generalize PG:bO p=dZ at *
 have Ac:(dZ.map jF).length=dZ.length:=ak
 have Jz:∀ i (h:i < dZ.length),(dZ.map jF)[i]? = some [.v (.int .i64 dZ[i].nm),.v (.int .i64 dZ[i].most),.v (.bool dZ[i].far)]:=fun i h=>by simp[h,jF]
 generalize dZ.map jF=PT at *;generalize (bA p).map (fun n=>[D.v (.int .i64 n)])=IN at *;generalize p.names.map bw=NN at *;generalize p.ax.map cU=RR at *;refine MC.aQ (aC _) func66 rfl rfl (rs:=[.cell 4 88]) results66 (by simp[ntmps66]) rfl fun X=>?_;simp only[ntmps66];have fw:=@alv;refine ae fw [0,1,4] [25,800,4] ?_;refine bG fw eL [0,1,4,5] [25,800,4,5,701,702] ?_;refine ag fun K1 aF=>ae fw [1,4,5,17,18,19] [25,800,4,5,701,702] ?_;refine cG (S:=Nat×Int×cL) (fun s=>s.1<=dZ.length/\0<=s.2.1/\s.2.1<=2^40/\s.2.2.is.length=p.names.length/\s.2.2.ct.length=p.names.length/\qX (dZ.drop s.1) s.2.1 s.2.2=VF) (fun s=>⟨bp [(1,int s.2.1),(4,.ref 4 0 0),(5,.ref 5 0 0),(17,.d (.sl none PT)),(18,int PT.length),(19,int s.1)],aq [(25,.box 113 [.d (.sl none NN),.d (.sl none RR),.d (.v (.int .i64 st)),.d (.v (.int .i64 gN)),.own 800 0 nx.length,.d (.sl none PT),.d (.sl none IN)]),(800,.sl 41 1 nx),(4,.box 88 [.d (.sl (some false) []),.d (.sl (some false) [])]),(5,.box 88 [.own 701 0 s.2.2.is.length,.own 702 0 s.2.2.ct.length]),(701,.sl 4 1 (s.2.2.is.map fun b=>[.v (.bool b)])),(702,.sl 3 1 (s.2.2.ct.map fun n=>[.v (.int .i64 n)]))]⟩) (fun s=>dZ.length - s.1) (0,n,ST) ?_ ⟨ak,h0,h1,eZ,fi,so⟩ ?_
 .refine bt fw
 .rintro⟨k,m,T⟩ ⟨hk,CR,CS,kG,kH,dH⟩;dsimp only at hk CR CS kG kH dH ⊢;obtain⟨TI,TC⟩:=T;dsimp only at kG kH ⊢;refine ae fw [1,4,5,17,18,19,20] [25,800,4,5,701,702] ?_;refine ag fun K2 aw=>?_;by_cases aH:k < dZ.length
  .have eD:k < PT.length:=aa
   have ot:(k:Int) < (PT.length:Int):=aa
   refine b8 (by simp<;>omega) ?_;refine ar (aw _ (ag fun K3 aZ=>bg ?_));have hx:=Cl _ (By aH)
   have n9:PT[k]=[.v (.int .i64 dZ[k].nm),.v (.int .i64 dZ[k].most),.v (.bool dZ[k].far)]:=by
    have:=Jz k aH;rw[AT eD]at this;exact AI this
   rw[aj4 aH,qX]at dH;have jt:=hx.lt;have pO:=hx.m2;have Qx:=hx.m8;clear hx;generalize dZ[k]=x at n9 dH jt pO Qx;obtain⟨i,M,fa⟩:=x;dsimp only at n9 dH jt pO Qx
   have zY:¬ M=0:=aa
   have pP:m.tmod M=m % M:=Int.tmod_eq_emod_of_nonneg CR;have ji:0<=m / M:=Int.ediv_nonneg CR aa;have uT:m / M<=m:=Int.ediv_le_self _ CR
   have hdiv:IntKind.i64.wrap (m.tdiv M)=m / M:=by
    rw[Int.tdiv_eq_ediv_of_nonneg CR];exact HX aa
   have nG:0<=m % M:=Int.emod_nonneg _ zY;have pV:m % M < M:=Int.emod_lt_of_pos _ aa;generalize hq:m / M=q at *;generalize hr:m % M=r at *
   have gx:i < TI.length:=aa
   have gJ:i < TC.length:=aa
   have qf:=(Aq fw (Aq @eD @n9));refine au [1,4,5,7,17,18,19] [25,800,4,5,7,701,702] ?_;refine dT fw 7 ?_;have qf:=(Aq fw (Aq @zY @pP));refine au [1,4,5,7,8,17,18,19] [25,800,4,5,701,702] ?_;have qf:=(Aq fw (Aq @zY @hdiv));refine au [1,4,5,7,8,17,18,19] [25,800,4,5,701,702] ?_;refine ae fw [1,4,5,7,8,17,18,19,32] [25,800,4,5,701,702] ?_
   cases fa with
   | true=>
    simp only[tL,if_true]at dH;refine aJ ?_;have qf:=(Aq fw @gJ);refine au [1,4,5,7,8,17,18,19] [25,800,4,5,701,702] ?_;have qf:=(Aq fw @gx);refine e6 aZ [1,4,5,17,18,19] [25,800,4,5,701,702] ?_;refine cD fw ?_;(try simp only[aV,aX]);refine bh.mk (k+1,q,⟨TI.set i (decide (r=M - 1)),TC.set i r⟩) ⟨by dsimp only;omega,ji,by dsimp only;omega,by simp[kG],by simp[kH],dH⟩ (by dsimp only;omega) ?_;refine aM.dk (ew rfl) (by simp[ab,ajV]) (by simp[ab,ajV])
   | false=>
    simp only[tL,ajM,if_false]at dH;refine al ?_;have qf:=(Aq fw @gx);refine e6 aZ [1,4,5,17,18,19] [25,800,4,5,701,702] ?_;refine cD fw ?_;(try simp only[aV,aX]);refine bh.mk (k+1,q,⟨TI.set i (decide (r=1)),TC⟩) ⟨by dsimp only;omega,ji,by dsimp only;omega,by simp[kG],kH,dH⟩ (by dsimp only;omega) ?_;refine aM.dk (ew rfl) (by simp[ab,ajV]) (by simp[ab,ajV])
  .have ot:¬ (k:Int) < (PT.length:Int):=aa
   rw[akr aa,qX]at dH;subst dH;refine b9 (by simp;omega) ?_;refine b5 (aF _ (AW.imp (aM.freeze 701 bF) ?_));refine AW.st (by simp[ab,sh];rfl) ?_;refine AW.imp (aM.freeze 702 bF) ?_;refine AW.st (by simp[ab,sh];rfl) ?_;refine ae fw [4] [25,800,4] ?_;exact aU fw
theorem acD (G:ay) (p:aS) (bn:c8 p=none) (st gN:Int) (nx:List (List D)) (s:cL) (hs:fV p s) (hP:bZ (bO p)<=4096):MC prog G [25,800] 84 [.ref 25 0 0,.d (vJ s)] (aq (tH p st gN nx)) (.d (ab (gF (bO p) s))) (aq (tH p st gN nx)):=by
 have hg:=iB bn;have iF:=hg.names;have Cl:∀ x∈bO p,zu p x:=fun x hx=>nJ hg hx;have JV:∀ x∈bO p,0<=sS x s/\sS x s < x.most:=fun x hx=>IV hs (Cl x hx);have pS:=G1 JV;have pO:∀ x∈bO p,2<=x.most:=fun x hx=>(Cl x hx).m2;have JX:∀ k,0<=gF ((bO p).drop k) s:=fun k=>(G1 fun x hx=>JV x (aks hx)).1;have Z2:∀ k,0 < bZ ((bO p).drop k):=fun k=>oJ fun x hx=>pO x (aks hx);have eZ:=hs.l1;have fi:=hs.l2;clear hs;have pF:=G9 p p.names.length;have Jv:gQ p p.names.length=bO p:=rfl;rw[Jv]at pF;simp only[tH,cE,fg,nY,fI,ab,vJ,rh,mG];obtain⟨TI,TC⟩:=s;dsimp only at eZ fi ⊢;generalize PG:bO p=dZ at *
 have Ac:(dZ.map jF).length=dZ.length:=ak
 have Jz:∀ i (h:i < dZ.length),(dZ.map jF)[i]? = some [.v (.int .i64 dZ[i].nm),.v (.int .i64 dZ[i].most),.v (.bool dZ[i].far)]:=fun i h=>by simp[h,jF]
 generalize dZ.map jF=PT at *;generalize (bA p).map (fun n=>[D.v (.int .i64 n)])=IN at *;generalize p.names.map bw=NN at *;generalize p.ax.map cU=RR at *;refine MC.aQ (aC _) func84 rfl rfl (rs:=[.tmp 4]) results84 (by simp[ntmps84]) rfl fun X=>?_;simp only[ntmps84];have fw:=@alv;refine ae fw [0,3] [25,800,3] ?_;refine dT fw 3 ?_;refine ae fw [0,3,5,6] [25,800] ?_;refine ag fun K1 aF=>ae fw [3,5,6,13,14,15] [25,800] ?_;refine cG (S:=Nat×Int×Int) (fun s=>s.1<=dZ.length/\0<=s.2.1/\0 < s.2.2/\s.2.2 * bZ (dZ.drop s.1)=bZ dZ/\s.2.1+s.2.2 * gF (dZ.drop s.1) ⟨TI,TC⟩=gF dZ ⟨TI,TC⟩) (fun s=>⟨bp [(3,.d (.ip [.sl none (TI.map fun b=>[.v (.bool b)]),.sl none (TC.map fun n=>[.v (.int .i64 n)])])),(5,int s.2.1),(6,int s.2.2),(13,.d (.sl none PT)),(14,int PT.length),(15,int s.1)],aq [(25,.box 113 [.d (.sl none NN),.d (.sl none RR),.d (.v (.int .i64 st)),.d (.v (.int .i64 gN)),.own 800 0 nx.length,.d (.sl none PT),.d (.sl none IN)]),(800,.sl 41 1 nx)]⟩) (fun s=>dZ.length - s.1) (0,0,1) ?_ ⟨ak,ak,ak,ak,ak⟩ ?_
 .refine bt fw
 .rintro⟨k,n,b⟩ ⟨hk,u4,ke,iG,dH⟩;dsimp only at hk u4 ke iG dH ⊢;have s8:=JX k;have xS:0<=b * gF (dZ.drop k) ⟨TI,TC⟩:=alr aa s8;refine ae fw [3,5,6,13,14,15,16] [25,800] ?_;refine ag fun K2 aw=>?_;by_cases aH:k < dZ.length
  .have eD:k < PT.length:=aa
   have ot:(k:Int) < (PT.length:Int):=aa
   refine b8 (by simp<;>omega) ?_;refine ar (aw _ (ag fun K3 aZ=>bg ?_));have hx:=Cl _ (By aH);obtain⟨ji,uT⟩:=JV _ (By aH)
   have n9:PT[k]=[.v (.int .i64 dZ[k].nm),.v (.int .i64 dZ[k].most),.v (.bool dZ[k].far)]:=by
    have:=Jz k aH;rw[AT eD]at this;exact AI this
   have ZZ:=JX (k+1);have aiE:=Z2 (k+1);rw[aj4 aH,gF]at dH;rw[aj4 aH,bZ,<- Int.mul_assoc]at iG;rw[Int.mul_add,<- Int.add_assoc,<- Int.mul_assoc]at dH;have jt:=hx.lt;have pO:=hx.m2;clear hx xS s8;unfold sS at dH ji uT;generalize dZ[k]=x at n9 dH iG jt pO ji uT;obtain⟨i,M,fa⟩:=x;dsimp only at n9 dH iG jt pO ji uT;have FJ:0 < b * M:=Int.mul_pos ke aa
   have aiB:b * M<=4096:=by
    have:=akC (show (1:Int)<=bZ (dZ.drop (k+1)) by omega) (ak6 FJ);omega
   have aiC:0<=b * M * gF (dZ.drop (k+1)) ⟨TI,TC⟩:=alr aa ZZ
   have gx:i < TI.length:=aa
   have gJ:i < TC.length:=aa
   rw[dV gx,dV gJ]at dH ji uT;generalize sj:TI[i]=bv at *;generalize pK:TC[i]=c at *;generalize JI:b * M=bM at *;have qf:=(Aq fw (Aq @eD @n9));refine au [3,5,6,8,13,14,15] [25,800,8] ?_;refine dT fw 8 ?_;refine ae fw [3,5,6,8,9,13,14,15] [25,800] ?_;refine ag fun K4 cr=>ae fw [3,5,6,8,9,13,14,15,20] [25,800] ?_
   cases fa with
   | true=>
    simp only[if_true]at dH ji uT;have ly:0<=b * c:=alr aa ji
    have gI:b * c<=bM:=by
     have:=akC (ak6 uT) (ak6 ke);omega
    generalize ZD:b * c=bc at *;refine aJ ?_;have qf:=(Aq fw (Aq @gJ @pK));refine e6 cr [3,5,6,8,9,13,14,15] [25,800] ?_;have qf:=(Aq fw @ZD);refine au [3,5,6,8,13,14,15] [25,800] ?_;have qf:=(Aq fw @JI);refine e6 aZ [3,5,6,13,14,15] [25,800] ?_;refine cD fw ?_;(try simp only[aV,aX]);refine bh.mk (k+1,n+bc,bM) ⟨by dsimp only;omega,by dsimp only;omega,FJ,iG,dH⟩ (by dsimp only;omega) ?_;refine bt fw
   | false=>
    simp only[ajM,if_false]at dH ji uT;refine al ?_;have qf:=(Aq fw (Aq @gx @sj));refine au [3,5,6,8,9,13,14,15,32] [25,800] ?_
    cases bv with
    | true=>
     simp only[if_true,Int.mul_one]at dH
     have e9:b<=bM:=by
      have:=akC (show (1:Int)<=M by omega) (ak6 ke);omega
     refine aJ (gR fw cr [3,5,6,8,9,13,14,15] [25,800] ?_);refine ae fw [3,5,6,8,13,14,15] [25,800] ?_;have qf:=(Aq fw @JI);refine e6 aZ [3,5,6,13,14,15] [25,800] ?_;refine cD fw ?_;(try simp only[aV,aX]);refine bh.mk (k+1,n+b,bM) ⟨by dsimp only;omega,by dsimp only;omega,FJ,iG,dH⟩ (by dsimp only;omega) ?_;refine bt fw
    | false=>
     simp only[ajM,if_false,Int.mul_zero,Int.add_zero]at dH;refine al (ar (cr _ ?_));refine ae fw [3,5,6,8,13,14,15] [25,800] ?_;have qf:=(Aq fw @JI);refine e6 aZ [3,5,6,13,14,15] [25,800] ?_;refine cD fw ?_;(try simp only[aV,aX]);refine bh.mk (k+1,n,bM) ⟨by dsimp only;omega,by dsimp only;omega,FJ,iG,dH⟩ (by dsimp only;omega) ?_;refine bt fw
  .have ot:¬ (k:Int) < (PT.length:Int):=aa
   rw[akr aa,gF,Int.mul_zero,Int.add_zero]at dH;subst dH;refine b9 (by simp;omega) ?_;refine b5 (aF _ (ae fw [4] [25,800] ?_));exact aU fw
theorem acz (G:ay) (p:aS) (bn:c8 p=none) (st gN:Int) (nx:List (List D)) (x:Int):MC prog G [25,800] 86 [.ref 25 0 0,.d (ab x)] (aq (tH p st gN nx)) (.d (mG (iu x (bA p).length))) (aq (tH p st gN nx)):=by
 have iF:=(iB bn).names;have CE:=yP p.names 1 p.names.length;have oX:jQ p.names 1 p.names.length=bA p:=rfl;rw[oX]at CE;simp only[tH,cE,fg,nY,fI,ab,mG]
 have pE:((bA p).map fun n=>[D.v (.int .i64 n)]).length=(bA p).length:=ak
 generalize (bA p).length=m at *;generalize (bA p).map (fun n=>[D.v (.int .i64 n)])=IN at *;generalize (bO p).map jF=PT at *;generalize p.names.map bw=NN at *;generalize p.ax.map cU=RR at *;refine MC.aQ (aC _) func86 rfl rfl (rs:=[.tmp 4]) results86 (by simp[ntmps86]) rfl fun X=>?_;simp only[ntmps86];have fw:=@alv;refine ae fw [0,1] [25,800] ?_;refine ae fw [0,1,5] [25,800] ?_;refine ag fun K1 aF=>ae fw [1,5,11,12] [25,800] ?_;refine cG (S:=Nat) (fun k=>k<=m) (fun k=>⟨bp [(1,int x),(5,.own 901 0 k),(11,int m),(12,int k)],aq [(25,.box 113 [.d (.sl none NN),.d (.sl none RR),.d (.v (.int .i64 st)),.d (.v (.int .i64 gN)),.own 800 0 nx.length,.d (.sl none PT),.d (.sl none IN)]),(800,.sl 41 1 nx),(901,.sl 4 1 ((iu x k).map fun b=>[.v (.bool b)]))]⟩) (fun k=>m - k) 0 ?_ aa ?_
 .refine (aM.nU 5 901 4 1 rfl rfl).trans ?_;refine bt (Aq fw (Aq @iu.eq_1 (Aq @iu.eq_2 @pE)))
 .intro k F0
  have sZ:((iu x k).map fun b=>[D.v (.bool b)]).length=k:=by simp[Dm]
  have Cc:iu x (k+1)=iu x k ++ [Dl x k]:=rfl;have Qm:(pA .and .i64 (x.fdiv (2 ^ (min k IntKind.i64.bits))) 1 == 1)=Dl x k:=rfl;generalize jn:iu x k=B at sZ Cc ⊢;refine ae fw [1,5,11,12,13] [25,800,901] ?_;refine ag fun K2 aw=>fG (b:=k < m) (by simp[D.le,D.le.go,aR,ab]) (fun hc=>?_) (fun hc=>?_)
  .refine ar (aw _ (ag fun K3 aZ=>bg (ae fw [1,5,6,11,12] [25,800,901] ?_)));refine fH (aC _) fun K' ao=>?_;(repeat refine aK fun Kq af=>?_;simp[ab,sZ,sh,sH,Qm];(repeat refine⟨aa,?_⟩);refine af _ ?_);refine bJ (ao _ ?_);refine aZ _ (AW.norm [1,5,11,12] [25,800,901] (ew rfl) (AW.st (by simp[ab,sZ,sh,sH,Qm];rfl) ?_));refine cD fw ?_;(try simp only[aV,aX]);refine bh.mk (k+1) aa aa ?_;rw[Cc];refine bt fw
  .obtain rfl:k=m:=aa
   refine b5 (aF _ ?_);rw[jn];refine AW.imp (aM.freeze 901 bF) ?_;refine AW.st (by simp[ab,sZ,sh];rfl) ?_;refine ae fw [4] [25,800] ?_;exact aU fw
theorem agl {p:aS} {k:Nat} (h:k < p.names.length):(fM p).take (k+1)=(fM p).take k ++ [dh p p.names[k]]:=by
 have h':k < (fM p).length:=by simpa[fM]using h
 rw[ajO h'];simp[fM]
theorem Hr (G:ay) (hM:k9 G) (p:aS) (bn:c8 p=none) (hk:∀ r∈p.ax,qj r):aD prog G 186 [eF p] (fI (fM p)):=by
 have hg:=iB bn;have iF:=hg.names
 have og:=ah7 G hM p aa (fun n hn e=>by
  have:=(hg.name n hn).1;rw[e]at this
  exact absurd this bF) (by have:=hg.ax;omega) (fun r hr=>by
  obtain⟨e,he,_,_,hb⟩:=hk r hr
  exact⟨e,he,aa⟩)
 have lX:=HO p p.names.length;have AM:=fun k (h:k < p.names.length)=>(zm (p:=p) (x:=(k:Int)) (ajJ _))
 have Z5:∀ k (h:k < p.names.length),((k:Int)∈gp p p.names.length)↔ka p p.names[k]=true:=fun k h=>by
  rw[AM k h];constructor
  .rintro⟨i,hi,_,he,ha⟩
   obtain rfl:k=i:=aa
   exact ha
  .intro ha;exact⟨k,h,h,rfl,ha⟩
 have C7:=fun k (h:k < p.names.length)=>agl h
 have fq:(fM p).length=p.names.length:=by simp[fM]
 have lQ:=hg.count;have nD:=hg.name;generalize fM p=RP at *;generalize gp p p.names.length=E at *;clear AM;simp only[eF,gr,cE,fI]at og ⊢
 have oT:(p.names.map bw).length=p.names.length:=ak
 have kc:∀ i (h:i < p.names.length),(p.names.map bw)[i]? = some [.v (.string (bs p.names[i].name)),.v (.int .i64 p.names[i].kind),.v (.int .i64 p.names[i].count)]:=fun i h=>by simp[h,bw,dS]
 generalize p.names.map bw=NN at *;generalize p.ax.map eo=RR at *;refine aD.aQ (aC _) func186 rfl rfl (rs:=[.tmp 2]) results186 (by simp[ntmps186]) fun X=>?_;simp only[ntmps186,List.map];refine aB [1] [1] ?_;refine gv 1 ?_;refine br trivial og [1,3] [] ?_;refine aB [1,3,4] [] ?_;refine ag fun K1 aF=>aB [3,4,13,14,15] [] ?_;refine cG (S:=Nat) (fun k=>k<=p.names.length) (fun k=>⟨bp [(3,.d (.sl none (E.map fun x=>[.v (.int .i64 x)]))),(4,.own 905 0 k),(13,.d (.sl none NN)),(14,int NN.length),(15,int k)],aq [(905,.sl 3 1 ((RP.take k).map fun x=>[.v (.int .i64 x)]))]⟩) (fun k=>p.names.length - k) 0 ?_ aa ?_
 .refine (aM.nU 4 905 3 1 rfl rfl).trans ?_;refine df
 .intro k mR;have QN:=C7 k
  have pF:((RP.take k).map fun x=>[D.v (.int .i64 x)]).length=k:=by simp;omega
  generalize Zd:RP.take k=PT at QN pF ⊢;refine aB [3,4,13,14,15,16] [905] ?_;refine ag fun K2 aw=>?_;by_cases aH:k < p.names.length
  .have eD:k < NN.length:=aa
   have ot:(k:Int) < (NN.length:Int):=aa
   refine b8 (by simp<;>omega) ?_;refine ar (aw _ (ag fun K3 aZ=>bg ?_));have Gd:=QN aH;have Z6:=Z5 k aH;have jh:=lQ _ (By aH);have gZ:=nD _ (By aH)
   have qy:NN[k]=[.v (.string (bs p.names[k].name)),.v (.int .i64 p.names[k].kind),.v (.int .i64 p.names[k].count)]:=by
    have:=kc k aH;rw[AT eD]at this;exact AI this
   unfold dh at Gd;generalize ka p p.names[k]=ev at *;generalize QE:p.names[k]=nk at Gd qy jh gZ;obtain⟨nm,kd,ct⟩:=nk;dsimp only at Gd qy jh gZ;have qf:=(Aq @eD @qy);refine au [3,4,5,6,13,14,15] [905,6] ?_;refine gv 6 ?_;refine aB [3,4,5,6,7,13,14,15] [905] ?_;refine ag fun K4 cr=>bg ?_;obtain⟨v0,js⟩:∃ v0:Int,v0=if 3<=kd then ct+1 else if kd=2 then 2 else 0:=⟨_,rfl⟩
   have tl:∀ τ,St.norm [3,4,5,6,7,13,14,15] [905] τ=⟨bp [(3,.d (.sl none (E.map fun x=>[.v (.int .i64 x)]))),(4,.own 905 0 k),(5,int k),(6,.d (.ip [.v (.string (bs nm)),.v (.int .i64 kd),.v (.int .i64 ct)])),(7,int v0),(13,.d (.sl none NN)),(14,int NN.length),(15,int k)],aq [(905,.sl 3 1 (PT.map fun x=>[.v (.int .i64 x)]))]⟩->K4 τ:=by
    intro τ e;refine cr τ (AW.norm [3,4,5,6,7,13,14,15] [905] aN (AW.st e ?_));clear e;refine ag fun K5 cg=>aB [3,4,5,6,7,13,14,15,31,32,33] [905] ?_;refine cG (S:=Nat) (fun j=>j<=E.length) (fun j=>⟨bp [(3,.d (.sl none (E.map fun x=>[.v (.int .i64 x)]))),(4,.own 905 0 k),(5,int k),(6,.d (.ip [.v (.string (bs nm)),.v (.int .i64 kd),.v (.int .i64 ct)])),(7,int (if kd=1/\(k:Int)∈E.take j then 2 else v0)),(13,.d (.sl none NN)),(14,int NN.length),(15,int k),(31,.d (.sl none (E.map fun x=>[.v (.int .i64 x)]))),(32,int E.length),(33,int j)],aq [(905,.sl 3 1 (PT.map fun x=>[.v (.int .i64 x)]))]⟩) (fun j=>E.length - j) 0 ?_ aa ?_
    .refine df
    .intro j hj;generalize De:(if kd=1/\(k:Int)∈E.take j then 2 else v0)=vj;refine aB [3,4,5,6,7,13,14,15,31,32,33,34] [905] ?_;refine ag fun K6 eB=>fG (b:=j < E.length) (by simp[D.le,D.le.go,aR]) (fun hc=>?_) (fun hc=>?_)
     .refine ar (eB _ (ag fun K7 eO=>bg ?_));have cY:E.take (j+1)=E.take j ++ [E[j]]:=ajO hc;have qf:=@hc;refine au [3,4,5,6,7,9,13,14,15,31,32,33] [905] ?_
      have nE:(k:Int)∈E.take (j+1)↔(k:Int)∈E.take j\/(k:Int)=E[j]:=by rw[cY,ajR,aj3]
      by_cases kX:(k:Int)=E[j]
      .have Qt:=eq_true kX;by_cases k1:kd=1
       .have k11:=eq_true k1;have qf:=(Aq @Qt @k11);refine au [3,4,5,6,7,13,14,15,31,32,33,44] [905] ?_;refine aJ (gR trivial eO [3,4,5,6,7,13,14,15,31,32,33] [905] ?_);refine dN ?_;(try simp only[aV,aX]);refine bh.mk (j+1) aa aa ?_;rw[if_pos ⟨k1,nE.2 (.inr kX)⟩];refine df
       .have qf:=(Aq @Qt @k1);refine au [3,4,5,6,7,13,14,15,31,32,33,44] [905] ?_;refine b9 (by simp[k1]) (ar (eO _ ?_));refine dN ?_;(try simp only[aV,aX]);refine bh.mk (j+1) aa aa ?_;rw[if_neg (fun h=>k1 h.1)]at De;rw[if_neg (fun h=>k1 h.1),De];refine df
      .have qf:=@kX;refine au [3,4,5,6,7,13,14,15,31,32,33,44] [905] ?_;refine b9 (by simp[kX]) (ar (eO _ ?_));refine dN ?_;(try simp only[aV,aX]);refine bh.mk (j+1) aa aa ?_;have tp:(kd=1/\(k:Int)∈E.take (j+1))=(kd=1/\(k:Int)∈E.take j):=propext (and_congr_right fun _=>nE.trans (or_iff_left kX));simp only[tp,De];refine df
     .obtain rfl:j=E.length:=aa
      rw[sh (ajJ _)]at De;refine b5 (cg _ (fH (aC _) fun K' ao=>?_));(repeat refine aK fun Kq af=>?_;simp[pF,sh];(repeat refine⟨aa,?_⟩);refine af _ ?_);refine bJ (ao _ ?_);refine aZ _ (AW.norm [3,4,13,14,15] [905] aN (AW.st (by simp[pF,sh];rfl) ?_));refine dN ?_;(try simp only[aV,aX]);refine bh.mk (k+1) aa aa ?_
      have so:vj=if 3<=kd then ct+1 else if kd=2 then 2 else if kd=1/\ev=true then 2 else 0:=by
       rw[<- De,js];by_cases k3:3<=kd
       .rw[if_neg aa,if_pos k3,if_pos k3]
       .by_cases k2:kd=2
        .rw[if_neg aa,if_neg k3,if_pos k2,if_neg k3,if_pos k2]
        .rw[if_neg k3,if_neg k2,if_neg k3,if_neg k2];simp only[Z6]
      rw[Gd,<- so];refine df
   by_cases k3:3<=kd
   .rw[if_pos k3]at js;subst js;have ju:kd >= 3:=k3;have qf:=@ju;refine au [3,4,5,6,7,13,14,15,20] [905] ?_;refine b8 (by simp<;>omega) ?_;refine fH (aC _) fun K' ao=>?_;(repeat refine aK fun Kq af=>?_;simp;(repeat refine⟨aa,?_⟩);refine af _ ?_);refine bJ (ao _ ?_);exact tl _ ak
   .have ju:¬ kd >= 3:=k3;rw[if_neg k3]at js;have qf:=@ju;refine au [3,4,5,6,7,13,14,15,20] [905] ?_;refine b9 (by simp<;>omega) ?_;by_cases k2:kd=2
    .rw[if_pos k2]at js;subst js;have k22:=eq_true k2;have qf:=@k22;refine au [3,4,5,6,7,13,14,15,27] [905] ?_;refine b8 (by simp[k2]) (fH (aC _) fun K' ao=>?_);(repeat refine aK fun Kq af=>?_;simp;(repeat refine⟨aa,?_⟩);refine af _ ?_);refine bJ (ao _ ?_);exact tl _ ak
    .rw[if_neg k2]at js;subst js;have qf:=@k2;refine au [3,4,5,6,7,13,14,15,27] [905] ?_;refine b9 (by simp[k2]) (ar (tl _ ak))
  .have ot:¬ (k:Int) < (NN.length:Int):=aa
   obtain rfl:k=p.names.length:=aa
   have Jw:PT=RP:=by rw[<- Zd];exact sh aa
   subst Jw;refine b9 (by simp<;>omega) ?_;refine b5 (aF _ (AW.imp (aM.freeze 905 trivial) ?_));refine AW.st (by simp[pF,sh];rfl) ?_;refine aB [2] [] ?_;exact gn
