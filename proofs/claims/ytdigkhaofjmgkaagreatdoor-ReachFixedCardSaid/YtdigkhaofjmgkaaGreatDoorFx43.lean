/- Parts. -/
import Derived.Test.YtdigkhaofjmgkaaGreatDoorFx42
set_option linter.unusedSimpArgs false
set_option linter.unusedVariables false
set_option maxHeartbeats 16000000
set_option maxRecDepth 100000
open Go.Proofs.Tryz
namespace Go.Proofs.YtdigkhaofjmgkaaGreatDoor
open Go.Av
def cPa (x:PtP):List D:=[.v (.int .i64 x.nm),.v (.int .i64 x.most),.v (.bool x.far)]
def lX (l:List PtP):D:=.sl none (l.map cPa)
def qk (p:PgP) (st eI:Int) (nx:List (List D)):List D:=[bO p.names,dP p.ao,.v (.int .i64 st),.v (.int .i64 eI),.sl none nx,lX (bn p),dk (ba p)]
def oJ (p:PgP) (st eI:Int) (nx:List (List D)):List (Nat×Row):=[(25,.box 48 [.d (bO p.names),.d (dP p.ao),.d (.v (.int .i64 st)),.d (.v (.int .i64 eI)),.own 800 0 nx.length,.d (lX (bn p)),.d (dk (ba p))]),(800,.sl 46 1 nx)]
def pc (p:PgP) (st eI:Int) (nx:List (List D)):D:=.ip (qk p st eI nx)
def nxD (l:List (List Int)):List (List D):=l.map fun r=>[dk r]
theorem s9 (l:List (List Int)):(nxD l).length=l.length:=by simp[nxD]
theorem aia (G:aq) (p:PgP) (hp:p.names.length < 2^40):MC prog G [] 75 [.d (dPg p)] (ak []) (.agg [.own 701 0 (jg p).is.length,.own 702 0 (jg p).ct.length]) (ak [(701,.sl 4 1 ((jg p).is.map fun b=>[.v (.bool b)])),(702,.sl 3 1 ((jg p).ct.map fun n=>[.v (.int .i64 n)]))]):=by
 have fX:(p.names.map cNm).length=p.names.length:=by simp
 simp only[dPg,cPg,bO,dP,jg,List.map_replicate,List.length_replicate];rw[<- fX];rw[<- fX]at hp;generalize p.names.map cNm=NN at *;generalize p.ao.map cf=RR at *;refine MC.abS (al _) func75 rfl rfl (rs:=[.cell 2 68]) results75 (by simp[ntmps75]) rfl fun X=>?_;simp only[ntmps75];refine ah [1,2] [1,2] ?_;refine dX 1 ?_;refine Nc (al _) (by kernel_rfl) ([]) ([]) ([0,1,2,4,5,6,3,7,8,9]) [2] [2,6,10] (cJ rfl) (by kernel_rfl) fun K' ae=>?_;(repeat (refine yn rfl fun K2 aa=>?_;simp[mW,adx];(repeat (refine⟨by omega,?_⟩));refine aa _ ?_;clear aa K2));refine yo (ae _ ?_);refine AW.st (by simp[mW,adx];rfl) ?_;clear ae K';refine AW.imp (aB.ren (r:=6) (r':=701) (by decide) (by simp)) ?_;refine AW.st (by simp[fb,ac4,Go.Av.ren,mZ];rfl) ?_;refine AW.imp (aB.ren (r:=10) (r':=702) (by decide) (by simp)) ?_;refine AW.st (by simp[fb,ac4,Go.Av.ren,mZ];rfl) ?_;exact cZ
theorem US (G:aq) (p:PgP) (aP:acg p=none) (st eI:Int) (nx:List (List D)) (n:Int) (h0:0<=n) (h1:n<=2^40):MC prog G [25,800] 25 [.ref 25 0 0,.d (ab n)] (ak (oJ p st eI nx)) (.d (qo (stP p n))) (ak (oJ p st eI nx)):=by
 have hg:=fq aP;have fj:=hg.names;have cU:=aia G p (by omega);have wC:∀ x∈bn p,afY p x:=fun x hx=>kr hg hx
 have hs1:(jg p).is.length=p.names.length:=by simp[jg]
 have du:(jg p).ct.length=p.names.length:=by simp[jg]
 have ae8:ml ((bn p).drop 0) n (jg p)=stP p n:=rfl;have mG:=AU p p.names.length;have CW:eJ p p.names.length=bn p:=rfl;rw[CW]at mG;simp only[dPg,cPg,bO,dP]at cU;simp only[oJ,bO,dP,lX,dk,ab,qo,mv,dBl];generalize aaz:stP p n=Ng at *;generalize hST:jg p=ST at *;generalize Ii:bn p=cG at *
 have hTl:(cG.map cPa).length=cG.length:=by simp
 have hTg:∀ i (h:i < cG.length),(cG.map cPa)[i]? = some [.v (.int .i64 cG[i].nm),.v (.int .i64 cG[i].most),.v (.bool cG[i].far)]:=fun i h=>by simp[h,cPa]
 generalize cG.map cPa=PT at *;generalize (ba p).map (fun n=>[D.v (.int .i64 n)])=IN at *;generalize p.names.map cNm=NN at *;generalize p.ao.map cf=RR at *;refine MC.abS (al _) func25 rfl rfl (rs:=[.cell 4 68]) results25 (by simp[ntmps25]) rfl fun X=>?_;simp only[ntmps25];have fw:=@afg;refine rgq fw [0,1,4] [25,800,4] ?_;refine bf fw cU [0,1,4,5] [25,800,4,5,701,702] ?_;refine af fun K1 ax=>?_;refine rgq fw [1,4,5,17,18,19] [25,800,4,5,701,702] ?_;refine bQ (S:=Nat×Int×bX) (fun s=>s.1<=cG.length/\0<=s.2.1/\s.2.1<=2^40/\s.2.2.is.length=p.names.length/\s.2.2.ct.length=p.names.length/\ml (cG.drop s.1) s.2.1 s.2.2=Ng) (fun s=>⟨aV [(1,int s.2.1),(4,.ref 4 0 0),(5,.ref 5 0 0),(17,.d (.sl none PT)),(18,int PT.length),(19,int s.1)],ak [(25,.box 48 [.d (.sl none NN),.d (.sl none RR),.d (.v (.int .i64 st)),.d (.v (.int .i64 eI)),.own 800 0 nx.length,.d (.sl none PT),.d (.sl none IN)]),(800,.sl 46 1 nx),(4,.box 68 [.d (.sl (some false) []),.d (.sl (some false) [])]),(5,.box 68 [.own 701 0 s.2.2.is.length,.own 702 0 s.2.2.ct.length]),(701,.sl 4 1 (s.2.2.is.map fun b=>[.v (.bool b)])),(702,.sl 3 1 (s.2.2.ct.map fun n=>[.v (.int .i64 n)]))]⟩) (fun s=>cG.length - s.1) (0,n,ST) ?_ ⟨by simp,h0,h1,hs1,du,ae8⟩ ?_
 .refine abW fw
 .rintro⟨k,m,T⟩ ⟨hk,w5,w6,hl1,fX,b9⟩;dsimp only at hk w5 w6 hl1 fX b9 ⊢;obtain⟨TI,TC⟩:=T;dsimp only at hl1 fX ⊢;refine rgq fw [1,4,5,17,18,19,20] [25,800,4,5,701,702] ?_;refine af fun K2 aa=>?_;by_cases au:k < cG.length
  .have cr:k < PT.length:=by omega
   have ju:(k:Int) < (PT.length:Int):=by omega
   refine abP (by simp<;>omega) ?_;refine abO (aa _ ?_);refine af fun K3 aQ=>?_;refine aR ?_;have hx:=wC _ (abH au)
   have ka:PT[k]=[.v (.int .i64 cG[k].nm),.v (.int .i64 cG[k].most),.v (.bool cG[k].far)]:=by
    have:=hTg k au;rw[By cr]at this;exact AI this
   rw[acy au,ml]at b9;have hxl:=hx.lt;have hm2:=hx.m2;have I4:=hx.m8;clear hx;generalize cG[k]=x at ka b9 hxl hm2 I4;obtain⟨i,M,fa⟩:=x;dsimp only at ka b9 hxl hm2 I4
   have uc:¬ M=0:=by omega
   have lv:m.tmod M=m % M:=Int.tmod_eq_emod_of_nonneg w5;have gY:0<=m / M:=Int.ediv_nonneg w5 (by omega);have pC:m / M<=m:=Int.ediv_le_self _ w5
   have hdiv:IntKind.i64.wrap (m.tdiv M)=m / M:=by
    rw[Int.tdiv_eq_ediv_of_nonneg w5];exact BE (by omega)
   have jR:0<=m % M:=Int.emod_nonneg _ uc;have qW:m % M < M:=Int.emod_lt_of_pos _ (by omega);generalize hq:m / M=q at *;generalize hr:m % M=r at *
   have hi1:i < TI.length:=by omega
   have eE:i < TC.length:=by omega
   have qf:=(Aq fw (Aq @cr @ka));refine abQ [1,4,5,7,17,18,19] [25,800,4,5,7,701,702] ?_;refine acp fw 7 ?_;have qf:=(Aq fw (Aq @uc @lv));refine abQ [1,4,5,7,8,17,18,19] [25,800,4,5,701,702] ?_;have qf:=(Aq fw (Aq @uc @hdiv));refine abQ [1,4,5,7,8,17,18,19] [25,800,4,5,701,702] ?_;refine rgq fw [1,4,5,7,8,17,18,19,32] [25,800,4,5,701,702] ?_
   cases fa with
   | true=>
    simp only[oN,if_true]at b9;refine abP rfl ?_;have qf:=(Aq fw @eE);refine abQ [1,4,5,7,8,17,18,19] [25,800,4,5,701,702] ?_;have qf:=(Aq fw @hi1);refine dN aQ [1,4,5,17,18,19] [25,800,4,5,701,702] ?_;refine reQ fw ?_;(try simp only[aJ,aL]);refine aS.mk (k+1,q,⟨TI.set i (decide (r=M - 1)),TC.set i r⟩) ⟨by dsimp only;omega,gY,by dsimp only;omega,by simp[hl1],by simp[fX],b9⟩ (by dsimp only;omega) ?_;refine aB.to' (cJ rfl) (by simp[ab,ab5]) (by simp[ab,ab5])
   | false=>
    simp only[oN,abT,if_false]at b9;refine abN rfl ?_;have qf:=(Aq fw @hi1);refine dN aQ [1,4,5,17,18,19] [25,800,4,5,701,702] ?_;refine reQ fw ?_;(try simp only[aJ,aL]);refine aS.mk (k+1,q,⟨TI.set i (decide (r=1)),TC⟩) ⟨by dsimp only;omega,gY,by dsimp only;omega,by simp[hl1],fX,b9⟩ (by dsimp only;omega) ?_;refine aB.to' (cJ rfl) (by simp[ab,ab5]) (by simp[ab,ab5])
  .have ju:¬ (k:Int) < (PT.length:Int):=by omega
   rw[adI (by omega),ml]at b9;subst b9;refine abN (by simp;omega) ?_;refine bx (ax _ ?_);refine AW.imp (aB.freeze 701 (by decide)) ?_;refine AW.st (by simp[ab,sh];rfl) ?_;refine AW.imp (aB.freeze 702 (by decide)) ?_;refine AW.st (by simp[ab,sh];rfl) ?_;refine rgq fw [4] [25,800,4] ?_;exact aN fw
theorem UI (G:aq) (p:PgP) (aP:acg p=none) (st eI:Int) (nx:List (List D)) (s:bX) (hs:eb p s) (hP:bp (bn p)<=4096):MC prog G [25,800] 29 [.ref 25 0 0,.d (qo s)] (ak (oJ p st eI nx)) (.d (ab (eA (bn p) s))) (ak (oJ p st eI nx)):=by
 have hg:=fq aP;have fj:=hg.names;have wC:∀ x∈bn p,afY p x:=fun x hx=>kr hg hx;have Di:∀ x∈bn p,0<=ae6 x s/\ae6 x s < x.most:=fun x hx=>Cr hs (wC x hx);have nE:=AG Di;have hm2:∀ x∈bn p,2<=x.most:=fun x hx=>(wC x hx).m2;have ID:∀ k,0<=eA ((bn p).drop k) s:=fun k=>(AG fun x hx=>Di x (ac7 hx)).1;have RC:∀ k,0 < bp ((bn p).drop k):=fun k=>kW fun x hx=>hm2 x (ac7 hx);have hs1:=hs.l1;have du:=hs.l2;clear hs;have mG:=AU p p.names.length;have CW:eJ p p.names.length=bn p:=rfl;rw[CW]at mG;simp only[oJ,bO,dP,lX,dk,ab,qo,mv,dBl];obtain⟨TI,TC⟩:=s;dsimp only at hs1 du ⊢;generalize Ii:bn p=cG at *
 have hTl:(cG.map cPa).length=cG.length:=by simp
 have hTg:∀ i (h:i < cG.length),(cG.map cPa)[i]? = some [.v (.int .i64 cG[i].nm),.v (.int .i64 cG[i].most),.v (.bool cG[i].far)]:=fun i h=>by simp[h,cPa]
 generalize cG.map cPa=PT at *;generalize (ba p).map (fun n=>[D.v (.int .i64 n)])=IN at *;generalize p.names.map cNm=NN at *;generalize p.ao.map cf=RR at *;refine MC.abS (al _) func29 rfl rfl (rs:=[.tmp 4]) results29 (by simp[ntmps29]) rfl fun X=>?_;simp only[ntmps29];have fw:=@afg;refine rgq fw [0,3] [25,800,3] ?_;refine acp fw 3 ?_;refine rgq fw [0,3,5,6] [25,800] ?_;refine af fun K1 ax=>?_;refine rgq fw [3,5,6,13,14,15] [25,800] ?_;refine bQ (S:=Nat×Int×Int) (fun s=>s.1<=cG.length/\0<=s.2.1/\0 < s.2.2/\s.2.2 * bp (cG.drop s.1)=bp cG/\s.2.1+s.2.2 * eA (cG.drop s.1) ⟨TI,TC⟩=eA cG ⟨TI,TC⟩) (fun s=>⟨aV [(3,.d (.ip [.sl none (TI.map fun b=>[.v (.bool b)]),.sl none (TC.map fun n=>[.v (.int .i64 n)])])),(5,int s.2.1),(6,int s.2.2),(13,.d (.sl none PT)),(14,int PT.length),(15,int s.1)],ak [(25,.box 48 [.d (.sl none NN),.d (.sl none RR),.d (.v (.int .i64 st)),.d (.v (.int .i64 eI)),.own 800 0 nx.length,.d (.sl none PT),.d (.sl none IN)]),(800,.sl 46 1 nx)]⟩) (fun s=>cG.length - s.1) (0,0,1) ?_ ⟨by simp,by simp,by simp,by simp,by simp⟩ ?_
 .refine abW fw
 .rintro⟨k,n,b⟩ ⟨hk,hn0,hb0,fM,b9⟩;dsimp only at hk hn0 hb0 fM b9 ⊢;have ov:=ID k;have r8:0<=b * eA (cG.drop k) ⟨TI,TC⟩:=ae7 (by omega) ov;refine rgq fw [3,5,6,13,14,15,16] [25,800] ?_;refine af fun K2 aa=>?_;by_cases au:k < cG.length
  .have cr:k < PT.length:=by omega
   have ju:(k:Int) < (PT.length:Int):=by omega
   refine abP (by simp<;>omega) ?_;refine abO (aa _ ?_);refine af fun K3 aQ=>?_;refine aR ?_;have hx:=wC _ (abH au);obtain⟨gY,pC⟩:=Di _ (abH au)
   have ka:PT[k]=[.v (.int .i64 cG[k].nm),.v (.int .i64 cG[k].most),.v (.bool cG[k].far)]:=by
    have:=hTg k au;rw[By cr]at this;exact AI this
   have Rz:=ID (k+1);have aaI:=RC (k+1);rw[acy au,eA]at b9;rw[acy au,bp,<- Int.mul_assoc]at fM;rw[Int.mul_add,<- Int.add_assoc,<- Int.mul_assoc]at b9;have hxl:=hx.lt;have hm2:=hx.m2;clear hx r8 ov;unfold ae6 at b9 gY pC;generalize cG[k]=x at ka b9 fM hxl hm2 gY pC;obtain⟨i,M,fa⟩:=x;dsimp only at ka b9 fM hxl hm2 gY pC;have zz:0 < b * M:=Int.mul_pos hb0 (by omega)
   have aaG:b * M<=4096:=by
    have:=adv (show (1:Int)<=bp (cG.drop (k+1)) by omega) (aex zz);omega
   have aaH:0<=b * M * eA (cG.drop (k+1)) ⟨TI,TC⟩:=ae7 (by omega) Rz
   have hi1:i < TI.length:=by omega
   have eE:i < TC.length:=by omega
   rw[cT hi1,cT eE]at b9 gY pC;generalize dY:TI[i]=bv at *;generalize hcv:TC[i]=c at *;generalize C9:b * M=bM at *;have qf:=(Aq fw (Aq @cr @ka));refine abQ [3,5,6,8,13,14,15] [25,800,8] ?_;refine acp fw 8 ?_;refine rgq fw [3,5,6,8,9,13,14,15] [25,800] ?_;refine af fun K4 bK=>?_;refine rgq fw [3,5,6,8,9,13,14,15,20] [25,800] ?_
   cases fa with
   | true=>
    simp only[if_true]at b9 gY pC;have ic:0<=b * c:=ae7 (by omega) gY
    have dA:b * c<=bM:=by
     have:=adv (aex pC) (aex hb0);omega
    generalize Rc:b * c=bc at *;refine abP rfl ?_;have qf:=(Aq fw (Aq @eE @hcv));refine dN bK [3,5,6,8,9,13,14,15] [25,800] ?_;have qf:=(Aq fw @Rc);refine abQ [3,5,6,8,13,14,15] [25,800] ?_;have qf:=(Aq fw @C9);refine dN aQ [3,5,6,13,14,15] [25,800] ?_;refine reQ fw ?_;(try simp only[aJ,aL]);refine aS.mk (k+1,n+bc,bM) ⟨by dsimp only;omega,by dsimp only;omega,zz,fM,b9⟩ (by dsimp only;omega) ?_;refine abW fw
   | false=>
    simp only[abT,if_false]at b9 gY pC;refine abN rfl ?_;have qf:=(Aq fw (Aq @hi1 @dY));refine abQ [3,5,6,8,9,13,14,15,32] [25,800] ?_
    cases bv with
    | true=>
     simp only[if_true,Int.mul_one]at b9
     have hb1:b<=bM:=by
      have:=adv (show (1:Int)<=M by omega) (aex hb0);omega
     refine abP rfl ?_;refine reK fw bK [3,5,6,8,9,13,14,15] [25,800] ?_;refine rgq fw [3,5,6,8,13,14,15] [25,800] ?_;have qf:=(Aq fw @C9);refine dN aQ [3,5,6,13,14,15] [25,800] ?_;refine reQ fw ?_;(try simp only[aJ,aL]);refine aS.mk (k+1,n+b,bM) ⟨by dsimp only;omega,by dsimp only;omega,zz,fM,b9⟩ (by dsimp only;omega) ?_;refine abW fw
    | false=>
     simp only[abT,if_false,Int.mul_zero,Int.add_zero]at b9;refine abN rfl ?_;refine abO (bK _ ?_);refine rgq fw [3,5,6,8,13,14,15] [25,800] ?_;have qf:=(Aq fw @C9);refine dN aQ [3,5,6,13,14,15] [25,800] ?_;refine reQ fw ?_;(try simp only[aJ,aL]);refine aS.mk (k+1,n,bM) ⟨by dsimp only;omega,by dsimp only;omega,zz,fM,b9⟩ (by dsimp only;omega) ?_;refine abW fw
  .have ju:¬ (k:Int) < (PT.length:Int):=by omega
   rw[adI (by omega),eA,Int.mul_zero,Int.add_zero]at b9;subst b9;refine abN (by simp;omega) ?_;refine bx (ax _ ?_);refine rgq fw [4] [25,800] ?_;exact aN fw
theorem UE (G:aq) (p:PgP) (aP:acg p=none) (st eI:Int) (nx:List (List D)) (x:Int):MC prog G [25,800] 28 [.ref 25 0 0,.d (ab x)] (ak (oJ p st eI nx)) (.d (dBl (e6 x (ba p).length))) (ak (oJ p st eI nx)):=by
 have fj:=(fq aP).names;have wV:=sX p.names 1 p.names.length;have kI:gD p.names 1 p.names.length=ba p:=rfl;rw[kI]at wV;simp only[oJ,bO,dP,lX,dk,ab,dBl]
 have lh:((ba p).map fun n=>[D.v (.int .i64 n)]).length=(ba p).length:=by simp
 generalize (ba p).length=m at *;generalize (ba p).map (fun n=>[D.v (.int .i64 n)])=IN at *;generalize (bn p).map cPa=PT at *;generalize p.names.map cNm=NN at *;generalize p.ao.map cf=RR at *;refine MC.abS (al _) func28 rfl rfl (rs:=[.tmp 4]) results28 (by simp[ntmps28]) rfl fun X=>?_;simp only[ntmps28];have fw:=@afg;refine rgq fw [0,1] [25,800] ?_;refine rgq fw [0,1,5] [25,800] ?_;refine af fun K1 ax=>?_;refine rgq fw [1,5,11,12] [25,800] ?_;refine bQ (S:=Nat) (fun k=>k<=m) (fun k=>⟨aV [(1,int x),(5,.own 901 0 k),(11,int m),(12,int k)],ak [(25,.box 48 [.d (.sl none NN),.d (.sl none RR),.d (.v (.int .i64 st)),.d (.v (.int .i64 eI)),.own 800 0 nx.length,.d (.sl none PT),.d (.sl none IN)]),(800,.sl 46 1 nx),(901,.sl 4 1 ((e6 x k).map fun b=>[.v (.bool b)]))]⟩) (fun k=>m - k) 0 ?_ (by omega) ?_
 .refine (aB.ky 5 901 4 1 rfl rfl).trans ?_;refine abW (Aq fw (Aq @e6.eq_1 (Aq @e6.eq_2 @lh)))
 .intro k zJ
  have lg:((e6 x k).map fun b=>[D.v (.bool b)]).length=k:=by simp[xz]
  have hBs:e6 x (k+1)=e6 x k ++ [xy x k]:=rfl;have IQ:(k9 .and .i64 (x.fdiv (2 ^ (min k IntKind.i64.bits))) 1 == 1)=xy x k:=rfl;generalize iS:e6 x k=B at lg hBs ⊢;refine rgq fw [1,5,11,12,13] [25,800,901] ?_;refine af fun K2 aa=>?_;refine eh (b:=k < m) (by simp[D.le,D.le.go,aC,ab]) (fun hc=>?_) (fun hc=>?_)
  .refine abO (aa _ ?_);refine af fun K3 aQ=>?_;refine aR ?_;refine rgq fw [1,5,6,11,12] [25,800,901] ?_;refine cR (al _) fun K' ae=>?_;(repeat (refine sxn fun K2 aa=>?_;simp[ab,lg,sh,nY,IQ];(repeat (refine⟨by omega,?_⟩));refine aa _ ?_;clear aa K2));refine sxz (ae _ ?_);clear ae K';refine aQ _ (AW.norm [1,5,11,12] [25,800,901] (cJ rfl) (AW.st (by simp[ab,lg,sh,nY,IQ];rfl) ?_));refine reQ fw ?_;(try simp only[aJ,aL]);refine aS.mk (k+1) (by omega) (by omega) ?_;rw[hBs];refine abW fw
  .obtain rfl:k=m:=by omega
   refine bx (ax _ ?_);rw[iS];refine AW.imp (aB.freeze 901 (by decide)) ?_;refine AW.st (by simp[ab,lg,sh];rfl) ?_;refine rgq fw [4] [25,800] ?_;exact aN fw
theorem Yk {p:PgP} {k:Nat} (h:k < p.names.length):(dT p).take (k+1)=(dT p).take k ++ [ch p p.names[k]]:=by
 have h':k < (dT p).length:=by simpa[dT]using h
 rw[abR h'];simp[dT]
theorem Bc (G:aq) (hM:adP G) (p:PgP) (aP:acg p=none) (hk:∀ r∈p.ao,lQ r):ar prog G 61 [cX p] (dk (dT p)):=by
 have hg:=fq aP;have fj:=hg.names
 have kc:=aad G hM p (by omega) (fun n hn e=>by
  have:=(hg.name n hn).1;rw[e]at this
  exact absurd this (by decide)) (by have:=hg.ao;omega) (fun r hr=>by
  obtain⟨e,he,_,_,hb⟩:=hk r hr
  exact⟨e,he,by omega⟩)
 have jT:=Bu p p.names.length;have uM:=fun k (h:k < p.names.length)=>(afV (p:=p) (x:=(k:Int)) (abL _))
 have RE:∀ k (h:k < p.names.length),((k:Int)∈acU p p.names.length)↔gV p p.names[k]=true:=fun k h=>by
  rw[uM k h];constructor
  .rintro⟨i,hi,_,he,ha⟩
   obtain rfl:k=i:=by omega
   exact ha
  .intro ha;exact⟨k,h,h,rfl,ha⟩
 have hrt:=fun k (h:k < p.names.length)=>Yk h
 have hrl:(dT p).length=p.names.length:=by simp[dT]
 have jM:=hg.count;have kJ:=hg.name;generalize dT p=RP at *;generalize acU p p.names.length=E at *;clear uM;simp only[cX,eu,bO,dk]at kc ⊢
 have nt:(p.names.map cNm).length=p.names.length:=by simp
 have gx:∀ i (h:i < p.names.length),(p.names.map cNm)[i]? = some [.v (.string (bs p.names[i].name)),.v (.int .i64 p.names[i].kind),.v (.int .i64 p.names[i].count)]:=fun i h=>by simp[h,cNm,dS]
 generalize p.names.map cNm=NN at *;generalize p.ao.map cL=RR at *;refine ar.abS (al _) func61 rfl rfl (rs:=[.tmp 2]) results61 (by simp[ntmps61]) fun X=>?_;simp only[ntmps61,List.map];refine ah [1] [1] ?_;refine dX 1 ?_;refine aT trivial kc [1,3] [] ?_;refine ah [1,3,4] [] ?_;refine af fun K1 ax=>?_;refine ah [3,4,13,14,15] [] ?_;refine bQ (S:=Nat) (fun k=>k<=p.names.length) (fun k=>⟨aV [(3,.d (.sl none (E.map fun x=>[.v (.int .i64 x)]))),(4,.own 905 0 k),(13,.d (.sl none NN)),(14,int NN.length),(15,int k)],ak [(905,.sl 3 1 ((RP.take k).map fun x=>[.v (.int .i64 x)]))]⟩) (fun k=>p.names.length - k) 0 ?_ (by omega) ?_
 .refine (aB.ky 4 905 3 1 rfl rfl).trans ?_;refine bJ
 .intro k hkk;have Jh:=hrt k
  have mG:((RP.take k).map fun x=>[D.v (.int .i64 x)]).length=k:=by simp;omega
  generalize QO:RP.take k=PT at Jh mG ⊢;refine ah [3,4,13,14,15,16] [905] ?_;refine af fun K2 aa=>?_;by_cases au:k < p.names.length
  .have cr:k < NN.length:=by omega
   have ju:(k:Int) < (NN.length:Int):=by omega
   refine abP (by simp<;>omega) ?_;refine abO (aa _ ?_);refine af fun K3 aQ=>?_;refine aR ?_;have zR:=Jh au;have RF:=RE k au;have cm:=jM _ (abH au);have hkd:=kJ _ (abH au)
   have mF:NN[k]=[.v (.string (bs p.names[k].name)),.v (.int .i64 p.names[k].kind),.v (.int .i64 p.names[k].count)]:=by
    have:=gx k au;rw[By cr]at this;exact AI this
   unfold ch at zR;generalize gV p p.names[k]=ev at *;generalize I9:p.names[k]=nk at zR mF cm hkd;obtain⟨nm,kd,ct⟩:=nk;dsimp only at zR mF cm hkd;have qf:=(Aq @cr @mF);refine abQ [3,4,5,6,13,14,15] [905,6] ?_;refine dX 6 ?_;refine ah [3,4,5,6,7,13,14,15] [905] ?_;refine af fun K4 bK=>?_;refine aR ?_;obtain⟨v0,ga⟩:∃ v0:Int,v0=if 3<=kd then ct+1 else if kd=2 then 2 else 0:=⟨_,rfl⟩
   have tl:∀ τ,St.norm [3,4,5,6,7,13,14,15] [905] τ=⟨aV [(3,.d (.sl none (E.map fun x=>[.v (.int .i64 x)]))),(4,.own 905 0 k),(5,int k),(6,.d (.ip [.v (.string (bs nm)),.v (.int .i64 kd),.v (.int .i64 ct)])),(7,int v0),(13,.d (.sl none NN)),(14,int NN.length),(15,int k)],ak [(905,.sl 3 1 (PT.map fun x=>[.v (.int .i64 x)]))]⟩->K4 τ:=by
    intro τ e;refine bK τ (AW.norm [3,4,5,6,7,13,14,15] [905] (fun _ _=>trivial) (AW.st e ?_));clear e;refine af fun K5 bB=>?_;refine ah [3,4,5,6,7,13,14,15,31,32,33] [905] ?_;refine bQ (S:=Nat) (fun j=>j<=E.length) (fun j=>⟨aV [(3,.d (.sl none (E.map fun x=>[.v (.int .i64 x)]))),(4,.own 905 0 k),(5,int k),(6,.d (.ip [.v (.string (bs nm)),.v (.int .i64 kd),.v (.int .i64 ct)])),(7,int (if kd=1/\(k:Int)∈E.take j then 2 else v0)),(13,.d (.sl none NN)),(14,int NN.length),(15,int k),(31,.d (.sl none (E.map fun x=>[.v (.int .i64 x)]))),(32,int E.length),(33,int j)],ak [(905,.sl 3 1 (PT.map fun x=>[.v (.int .i64 x)]))]⟩) (fun j=>E.length - j) 0 ?_ (by omega) ?_
    .refine bJ
    .intro j hj;generalize xo:(if kd=1/\(k:Int)∈E.take j then 2 else v0)=vj;refine ah [3,4,5,6,7,13,14,15,31,32,33,34] [905] ?_;refine af fun K6 cq=>?_;refine eh (b:=j < E.length) (by simp[D.le,D.le.go,aC]) (fun hc=>?_) (fun hc=>?_)
     .refine abO (cq _ ?_);refine af fun K7 de=>?_;refine aR ?_;have cw:E.take (j+1)=E.take j ++ [E[j]]:=abR hc;have qf:=@hc;refine abQ [3,4,5,6,7,9,13,14,15,31,32,33] [905] ?_
      have adJ:(k:Int)∈E.take (j+1)↔(k:Int)∈E.take j\/(k:Int)=E[j]:=by rw[cw,ab4,acV]
      by_cases hke:(k:Int)=E[j]
      .have IY:=eq_true hke;by_cases k1:kd=1
       .have k11:=eq_true k1;have qf:=(Aq @IY @k11);refine abQ [3,4,5,6,7,13,14,15,31,32,33,44] [905] ?_;refine abP rfl ?_;refine reK trivial de [3,4,5,6,7,13,14,15,31,32,33] [905] ?_;refine re0 ?_;(try simp only[aJ,aL]);refine aS.mk (j+1) (by omega) (by omega) ?_;rw[if_pos ⟨k1,adJ.2 (.inr hke)⟩];refine bJ
       .have qf:=(Aq @IY @k1);refine abQ [3,4,5,6,7,13,14,15,31,32,33,44] [905] ?_;refine abN (by simp[k1]) ?_;refine abO (de _ ?_);refine re0 ?_;(try simp only[aJ,aL]);refine aS.mk (j+1) (by omega) (by omega) ?_;rw[if_neg (fun h=>k1 h.1)]at xo;rw[if_neg (fun h=>k1 h.1),xo];refine bJ
      .have qf:=@hke;refine abQ [3,4,5,6,7,13,14,15,31,32,33,44] [905] ?_;refine abN (by simp[hke]) ?_;refine abO (de _ ?_);refine re0 ?_;(try simp only[aJ,aL]);refine aS.mk (j+1) (by omega) (by omega) ?_;have afb:(kd=1/\(k:Int)∈E.take (j+1))=(kd=1/\(k:Int)∈E.take j):=propext (and_congr_right fun _=>adJ.trans (or_iff_left hke));simp only[afb,xo];refine bJ
     .obtain rfl:j=E.length:=by omega
      rw[sh (abL _)]at xo;refine bx (bB _ ?_);refine cR (al _) fun K' ae=>?_;(repeat (refine sxn fun K2 aa=>?_;simp[mG,sh];(repeat (refine⟨by omega,?_⟩));refine aa _ ?_;clear aa K2));refine sxz (ae _ ?_);clear ae K';refine aQ _ (AW.norm [3,4,13,14,15] [905] (fun _ _=>trivial) (AW.st (by simp[mG,sh];rfl) ?_));refine re0 ?_;(try simp only[aJ,aL]);refine aS.mk (k+1) (by omega) (by omega) ?_
      have ae8:vj=if 3<=kd then ct+1 else if kd=2 then 2 else if kd=1/\ev=true then 2 else 0:=by
       rw[<- xo,ga];by_cases k3:3<=kd
       .rw[if_neg (by omega),if_pos k3,if_pos k3]
       .by_cases k2:kd=2
        .rw[if_neg (by omega),if_neg k3,if_pos k2,if_neg k3,if_pos k2]
        .rw[if_neg k3,if_neg k2,if_neg k3,if_neg k2];simp only[RF]
      rw[zR,<- ae8];refine bJ
   by_cases k3:3<=kd
   .rw[if_pos k3]at ga;subst ga;have gb:kd >= 3:=k3;have qf:=@gb;refine abQ [3,4,5,6,7,13,14,15,20] [905] ?_;refine abP (by simp<;>omega) ?_;refine cR (al _) fun K' ae=>?_;(repeat (refine sxn fun K2 aa=>?_;simp;(repeat (refine⟨by omega,?_⟩));refine aa _ ?_;clear aa K2));refine sxz (ae _ ?_);clear ae K';exact tl _ (by simp)
   .have gb:¬ kd >= 3:=k3;rw[if_neg k3]at ga;have qf:=@gb;refine abQ [3,4,5,6,7,13,14,15,20] [905] ?_;refine abN (by simp<;>omega) ?_;by_cases k2:kd=2
    .rw[if_pos k2]at ga;subst ga;have k22:=eq_true k2;have qf:=@k22;refine abQ [3,4,5,6,7,13,14,15,27] [905] ?_;refine abP (by simp[k2]) ?_;refine cR (al _) fun K' ae=>?_;(repeat (refine sxn fun K2 aa=>?_;simp;(repeat (refine⟨by omega,?_⟩));refine aa _ ?_;clear aa K2));refine sxz (ae _ ?_);clear ae K';exact tl _ (by simp)
    .rw[if_neg k2]at ga;subst ga;have qf:=@k2;refine abQ [3,4,5,6,7,13,14,15,27] [905] ?_;refine abN (by simp[k2]) ?_;refine abO (tl _ (by simp))
  .have ju:¬ (k:Int) < (NN.length:Int):=by omega
   obtain rfl:k=p.names.length:=by omega
   have CX:PT=RP:=by rw[<- QO];exact sh (by omega)
   subst CX;refine abN (by simp<;>omega) ?_;refine bx (ax _ ?_);refine AW.imp (aB.freeze 905 trivial) ?_;refine AW.st (by simp[mG,sh];rfl) ?_;refine ah [2] [] ?_;exact cZ
