/- Parts. -/
import Derived.Test.YtdigkhaofjmgkaaGreatDoorMs42
set_option linter.unusedSimpArgs false
set_option linter.unusedVariables false
set_option maxHeartbeats 16000000
set_option maxRecDepth 100000
open Go.Proofs.Tryz
namespace Go.Proofs.YtdigkhaofjmgkaaGreatDoor
open Go.Av
def e9 (x:fh):List D:=[.v (.int .i64 x.nm),.v (.int .i64 x.most),.v (.bool x.far)]
def ac1 (l:List fh):D:=.sl none (l.map e9)
def nC (p:PgP) (st df:Int) (nx:List (List D)):List D:=[bK p.names,dr p.aaw,.v (.int .i64 st),.v (.int .i64 df),.sl none nx,ac1 (bh p),eV (aQ p)]
def maR (p:PgP) (st df:Int) (nx:List (List D)):List (Nat×Row):=[(25,.box 48 [.d (bK p.names),.d (dr p.aaw),.d (.v (.int .i64 st)),.d (.v (.int .i64 df)),.own 800 0 nx.length,.d (ac1 (bh p)),.d (eV (aQ p))]),(800,.sl 46 1 nx)]
def dMa (p:PgP) (st df:Int) (nx:List (List D)):D:=.ip (nC p st df nx)
def fg (l:List (List Int)):List (List D):=l.map fun r=>[eV r]
theorem Jw (l:List (List Int)):(fg l).length=l.length:=by simp[fg]
theorem afW (G:ao) (p:PgP) (hp:p.names.length < 2^40):MC prog G [] 75 [.d (dPg p)] (ak []) (.agg [.own 701 0 (fP p).is.length,.own 702 0 (fP p).ct.length]) (ak [(701,.sl 4 1 ((fP p).is.map fun b=>[.v (.bool b)])),(702,.sl 3 1 ((fP p).ct.map fun n=>[.v (.int .i64 n)]))]):=by
 have fq:(p.names.map aW).length=p.names.length:=by simp
 simp only[dPg,ey,bK,dr,fP,List.map_replicate,List.length_replicate];rw[<- fq];rw[<- fq]at hp;generalize p.names.map aW=NN at *;generalize p.aaw.map b7=RR at *;refine MC.aC (aay _) func75 rfl rfl (rs:=[.cell 2 68]) results75 (by simp[ntmps75]) rfl fun X=>?_;simp only[ntmps75];refine aq [1,2] [1,2] ?_;refine dV 1 ?_;refine af0 (aay _) (by kernel_rfl) ([]) ([]) ([0,1,2,4,5,6,3,7,8,9]) [2] [2,6,10] (cK rfl) (by kernel_rfl) fun K' af=>?_;(repeat (refine pF rfl fun K2 aa=>?_;simp[mz,ab9];(repeat (refine⟨by omega,?_⟩));refine aa _ ?_;clear aa K2));refine pG (af _ ?_);refine AW.st (by simp[mz,ab9];rfl) ?_;clear af K';refine AW.imp (aB.ren (r:=6) (r':=701) (by decide) (by simp)) ?_;refine AW.st (by simp[abI,abH,Go.Av.ren,mC];rfl) ?_;refine AW.imp (aB.ren (r:=10) (r':=702) (by decide) (by simp)) ?_;refine AW.st (by simp[abI,abH,Go.Av.ren,mC];rfl) ?_;exact gG
theorem UQ (G:ao) (p:PgP) (aN:cf p=none) (st df:Int) (nx:List (List D)) (n:Int) (h0:0<=n) (h1:n<=2^40):MC prog G [25,800] 25 [.ref 25 0 0,.d (ab n)] (ak (maR p st df nx)) (.d (k7 (stP p n))) (ak (maR p st df nx)):=by
 have hg:=fB aN;have dX:=hg.names;have cZ:=afW G p (by omega);have hPg:∀ x∈bh p,pJ p x:=fun x hx=>nu hg hx
 have cm:(fP p).is.length=p.names.length:=by simp[fP]
 have hs2:(fP p).ct.length=p.names.length:=by simp[fP]
 have qa:stN ((bh p).drop 0) n (fP p)=stP p n:=rfl;have ka:=uL p p.names.length;have rr:eb p p.names.length=bh p:=rfl;rw[rr]at ka;simp only[dPg,ey,bK,dr]at cZ;simp only[maR,bK,dr,ac1,eV,ab,k7,j4,dN];generalize O6:stP p n=AG at *;generalize Px:fP p=ST at *;generalize yH:bh p=bu at *
 have vQ:(bu.map e9).length=bu.length:=by simp
 have rz:∀ i (h:i < bu.length),(bu.map e9)[i]? = some [.v (.int .i64 bu[i].nm),.v (.int .i64 bu[i].most),.v (.bool bu[i].far)]:=fun i h=>by simp[h,e9]
 generalize bu.map e9=PT at *;generalize (aQ p).map (fun n=>[D.v (.int .i64 n)])=IN at *;generalize p.names.map aW=NN at *;generalize p.aaw.map b7=RR at *;refine MC.aC (aay _) func25 rfl rfl (rs:=[.cell 4 68]) results25 (by simp[ntmps25]) rfl fun X=>?_;simp only[ntmps25];have fw:=@ab.eq_1;refine rgq fw [0,1,4] [25,800,4] ?_;refine rgm fw cZ [0,1,4,5] [25,800,4,5,701,702] ?_;refine ae fun K1 au=>?_;refine rgq fw [1,4,5,17,18,19] [25,800,4,5,701,702] ?_;refine bZ (S:=Nat×Int×StP) (fun s=>s.1<=bu.length/\0<=s.2.1/\s.2.1<=2^40/\s.2.2.is.length=p.names.length/\s.2.2.ct.length=p.names.length/\stN (bu.drop s.1) s.2.1 s.2.2=AG) (fun s=>⟨lst [(1,int s.2.1),(4,.ref 4 0 0),(5,.ref 5 0 0),(17,.d (.sl none PT)),(18,int PT.length),(19,int s.1)],ak [(25,.box 48 [.d (.sl none NN),.d (.sl none RR),.d (.v (.int .i64 st)),.d (.v (.int .i64 df)),.own 800 0 nx.length,.d (.sl none PT),.d (.sl none IN)]),(800,.sl 46 1 nx),(4,.box 68 [.d (.sl (some false) []),.d (.sl (some false) [])]),(5,.box 68 [.own 701 0 s.2.2.is.length,.own 702 0 s.2.2.ct.length]),(701,.sl 4 1 (s.2.2.is.map fun b=>[.v (.bool b)])),(702,.sl 3 1 (s.2.2.ct.map fun n=>[.v (.int .i64 n)]))]⟩) (fun s=>bu.length - s.1) (0,n,ST) ?_ ⟨by simp,h0,h1,cm,hs2,qa⟩ ?_
 .refine aX fw
 .rintro⟨k,m,T⟩ ⟨hk,lO,o6,fo,fq,bt⟩;dsimp only at hk lO o6 fo fq bt ⊢;obtain⟨TI,TC⟩:=T;dsimp only at fo fq ⊢;refine rgq fw [1,4,5,17,18,19,20] [25,800,4,5,701,702] ?_;refine ae fun K2 aa=>?_;by_cases ay:k < bu.length
  .have aaZ:k < PT.length:=by omega
   have ju:(k:Int) < (PT.length:Int):=by omega
   refine aax (by simp<;>omega) ?_;refine ah (aa _ ?_);refine ae fun K3 aH=>?_;refine aU ?_;have hx:=hPg _ (List.getElem_mem ay)
   have hPk:PT[k]=[.v (.int .i64 bu[k].nm),.v (.int .i64 bu[k].most),.v (.bool bu[k].far)]:=by
    have:=rz k ay;rw[List.getElem?_eq_getElem aaZ]at this;exact Option.some.inj this
   rw[List.drop_eq_getElem_cons ay,stN]at bt;have fZ:=hx.lt;have iB:=hx.m2;have wo:=hx.m8;clear hx;generalize bu[k]=x at hPk bt fZ iB wo;obtain⟨i,M,fa⟩:=x;dsimp only at hPk bt fZ iB wo
   have nK:¬ M=0:=by omega
   have gY:m.tmod M=m % M:=Int.tmod_eq_emod_of_nonneg lO;have hd0:0<=m / M:=Int.ediv_nonneg lO (by omega);have iO:m / M<=m:=Int.ediv_le_self _ lO
   have hdiv:IntKind.i64.wrap (m.tdiv M)=m / M:=by
    rw[Int.tdiv_eq_ediv_of_nonneg lO];exact sW (by omega)
   have jy:0<=m % M:=Int.emod_nonneg _ nK;have rX:m % M < M:=Int.emod_lt_of_pos _ (by omega);generalize hq:m / M=q at *;generalize hr:m % M=r at *
   have cO:i < TI.length:=by omega
   have hi2:i < TC.length:=by omega
   have qf:=(Aq fw (Aq @aaZ @hPk));refine al [1,4,5,7,17,18,19] [25,800,4,5,7,701,702] ?_;refine aa1 fw 7 ?_;have qf:=(Aq fw (Aq @nK @gY));refine al [1,4,5,7,8,17,18,19] [25,800,4,5,701,702] ?_;have qf:=(Aq fw (Aq @nK @hdiv));refine al [1,4,5,7,8,17,18,19] [25,800,4,5,701,702] ?_;refine rgq fw [1,4,5,7,8,17,18,19,32] [25,800,4,5,701,702] ?_
   cases fa with
   | true=>
    simp only[acp,if_true]at bt;refine aax rfl ?_;have qf:=(Aq fw @hi2);refine al [1,4,5,7,8,17,18,19] [25,800,4,5,701,702] ?_;have qf:=(Aq fw @cO);refine cT aH [1,4,5,17,18,19] [25,800,4,5,701,702] ?_;refine bO fw ?_;(try simp only[aM,aP]);refine aV.mk (k+1,q,⟨TI.set i (decide (r=M - 1)),TC.set i r⟩) ⟨by dsimp only;omega,hd0,by dsimp only;omega,by simp[fo],by simp[fq],bt⟩ (by dsimp only;omega) ?_;refine aB.dK (cK rfl) (by simp[ab,List.map_set]) (by simp[ab,List.map_set])
   | false=>
    simp only[acp,Bool.false_eq_true,if_false]at bt;refine ag rfl ?_;have qf:=(Aq fw @cO);refine cT aH [1,4,5,17,18,19] [25,800,4,5,701,702] ?_;refine bO fw ?_;(try simp only[aM,aP]);refine aV.mk (k+1,q,⟨TI.set i (decide (r=1)),TC⟩) ⟨by dsimp only;omega,hd0,by dsimp only;omega,by simp[fo],fq,bt⟩ (by dsimp only;omega) ?_;refine aB.dK (cK rfl) (by simp[ab,List.map_set]) (by simp[ab,List.map_set])
  .have ju:¬ (k:Int) < (PT.length:Int):=by omega
   rw[List.drop_eq_nil_of_le (by omega),stN]at bt;subst bt;refine ag (by simp;omega) ?_;refine bG (au _ ?_);refine AW.imp (aB.freeze 701 (by decide)) ?_;refine AW.st (by simp[ab,List.take_of_length_le];rfl) ?_;refine AW.imp (aB.freeze 702 (by decide)) ?_;refine AW.st (by simp[ab,List.take_of_length_le];rfl) ?_;refine rgq fw [4] [25,800,4] ?_;exact aG fw
theorem Jd (G:ao) (p:PgP) (aN:cf p=none) (st df:Int) (nx:List (List D)) (n:Int) (h0:0<=n) (h1:n<=2^40):ar prog G 25 [dMa p st df nx,ab n] (k7 (stP p n)):=by
 have hg:=fB aN;have dX:=hg.names;have cZ:=afW G p (by omega);have hPg:∀ x∈bh p,pJ p x:=fun x hx=>nu hg hx
 have cm:(fP p).is.length=p.names.length:=by simp[fP]
 have hs2:(fP p).ct.length=p.names.length:=by simp[fP]
 have qa:stN ((bh p).drop 0) n (fP p)=stP p n:=rfl;have ka:=uL p p.names.length;have rr:eb p p.names.length=bh p:=rfl;rw[rr]at ka;simp only[dPg,ey,bK,dr]at cZ;simp only[dMa,nC,bK,dr,ac1,eV,ab,k7,j4,dN];generalize O6:stP p n=AG at *;generalize Px:fP p=ST at *;generalize yH:bh p=bu at *
 have vQ:(bu.map e9).length=bu.length:=by simp
 have rz:∀ i (h:i < bu.length),(bu.map e9)[i]? = some [.v (.int .i64 bu[i].nm),.v (.int .i64 bu[i].most),.v (.bool bu[i].far)]:=fun i h=>by simp[h,e9]
 generalize bu.map e9=PT at *;generalize (aQ p).map (fun n=>[D.v (.int .i64 n)])=IN at *;generalize p.names.map aW=NN at *;generalize p.aaw.map b7=RR at *;refine ar.aC (aay _) func25 rfl rfl (rs:=[.cell 4 68]) results25 (by simp[ntmps25]) fun X=>?_;simp only[ntmps25,List.map];have fw:=@ab.eq_1;refine rgq fw [0,1,4] [4] ?_;refine rgm fw cZ [0,1,4,5] [4,5,701,702] ?_;refine ae fun K1 au=>?_;refine rgq fw [1,4,5,17,18,19] [4,5,701,702] ?_;refine bZ (S:=Nat×Int×StP) (fun s=>s.1<=bu.length/\0<=s.2.1/\s.2.1<=2^40/\s.2.2.is.length=p.names.length/\s.2.2.ct.length=p.names.length/\stN (bu.drop s.1) s.2.1 s.2.2=AG) (fun s=>⟨lst [(1,int s.2.1),(4,.ref 4 0 0),(5,.ref 5 0 0),(17,.d (.sl none PT)),(18,int PT.length),(19,int s.1)],ak [(4,.box 68 [.d (.sl (some false) []),.d (.sl (some false) [])]),(5,.box 68 [.own 701 0 s.2.2.is.length,.own 702 0 s.2.2.ct.length]),(701,.sl 4 1 (s.2.2.is.map fun b=>[.v (.bool b)])),(702,.sl 3 1 (s.2.2.ct.map fun n=>[.v (.int .i64 n)]))]⟩) (fun s=>bu.length - s.1) (0,n,ST) ?_ ⟨by simp,h0,h1,cm,hs2,qa⟩ ?_
 .refine aX fw
 .rintro⟨k,m,T⟩ ⟨hk,lO,o6,fo,fq,bt⟩;dsimp only at hk lO o6 fo fq bt ⊢;obtain⟨TI,TC⟩:=T;dsimp only at fo fq ⊢;refine rgq fw [1,4,5,17,18,19,20] [4,5,701,702] ?_;refine ae fun K2 aa=>?_;by_cases ay:k < bu.length
  .have aaZ:k < PT.length:=by omega
   have ju:(k:Int) < (PT.length:Int):=by omega
   refine aax (by simp<;>omega) ?_;refine ah (aa _ ?_);refine ae fun K3 aH=>?_;refine aU ?_;have hx:=hPg _ (List.getElem_mem ay)
   have hPk:PT[k]=[.v (.int .i64 bu[k].nm),.v (.int .i64 bu[k].most),.v (.bool bu[k].far)]:=by
    have:=rz k ay;rw[List.getElem?_eq_getElem aaZ]at this;exact Option.some.inj this
   rw[List.drop_eq_getElem_cons ay,stN]at bt;have fZ:=hx.lt;have iB:=hx.m2;have wo:=hx.m8;clear hx;generalize bu[k]=x at hPk bt fZ iB wo;obtain⟨i,M,fa⟩:=x;dsimp only at hPk bt fZ iB wo
   have nK:¬ M=0:=by omega
   have gY:m.tmod M=m % M:=Int.tmod_eq_emod_of_nonneg lO;have hd0:0<=m / M:=Int.ediv_nonneg lO (by omega);have iO:m / M<=m:=Int.ediv_le_self _ lO
   have hdiv:IntKind.i64.wrap (m.tdiv M)=m / M:=by
    rw[Int.tdiv_eq_ediv_of_nonneg lO];exact sW (by omega)
   have jy:0<=m % M:=Int.emod_nonneg _ nK;have rX:m % M < M:=Int.emod_lt_of_pos _ (by omega);generalize hq:m / M=q at *;generalize hr:m % M=r at *
   have cO:i < TI.length:=by omega
   have hi2:i < TC.length:=by omega
   have qf:=(Aq fw (Aq @aaZ @hPk));refine al [1,4,5,7,17,18,19] [4,5,7,701,702] ?_;refine aa1 fw 7 ?_;have qf:=(Aq fw (Aq @nK @gY));refine al [1,4,5,7,8,17,18,19] [4,5,701,702] ?_;have qf:=(Aq fw (Aq @nK @hdiv));refine al [1,4,5,7,8,17,18,19] [4,5,701,702] ?_;refine rgq fw [1,4,5,7,8,17,18,19,32] [4,5,701,702] ?_
   cases fa with
   | true=>
    simp only[acp,if_true]at bt;refine aax rfl ?_;have qf:=(Aq fw @hi2);refine al [1,4,5,7,8,17,18,19] [4,5,701,702] ?_;have qf:=(Aq fw @cO);refine cT aH [1,4,5,17,18,19] [4,5,701,702] ?_;refine bO fw ?_;(try simp only[aM,aP]);refine aV.mk (k+1,q,⟨TI.set i (decide (r=M - 1)),TC.set i r⟩) ⟨by dsimp only;omega,hd0,by dsimp only;omega,by simp[fo],by simp[fq],bt⟩ (by dsimp only;omega) ?_;refine aB.dK (fun _ _=>trivial) (by simp[ab,List.map_set]) (by simp[ab,List.map_set])
   | false=>
    simp only[acp,Bool.false_eq_true,if_false]at bt;refine ag rfl ?_;have qf:=(Aq fw @cO);refine cT aH [1,4,5,17,18,19] [4,5,701,702] ?_;refine bO fw ?_;(try simp only[aM,aP]);refine aV.mk (k+1,q,⟨TI.set i (decide (r=1)),TC⟩) ⟨by dsimp only;omega,hd0,by dsimp only;omega,by simp[fo],fq,bt⟩ (by dsimp only;omega) ?_;refine aB.dK (fun _ _=>trivial) (by simp[ab,List.map_set]) (by simp[ab,List.map_set])
  .have ju:¬ (k:Int) < (PT.length:Int):=by omega
   rw[List.drop_eq_nil_of_le (by omega),stN]at bt;subst bt;refine ag (by simp;omega) ?_;refine bG (au _ ?_);refine AW.imp (aB.freeze 701 trivial) ?_;refine AW.st (by simp[ab,List.take_of_length_le];rfl) ?_;refine AW.imp (aB.freeze 702 trivial) ?_;refine AW.st (by simp[ab,List.take_of_length_le];rfl) ?_;refine rgq fw [4] [4] ?_;exact aG fw
theorem Tk (G:ao) (p:PgP) (aN:cf p=none) (st df:Int) (nx:List (List D)) (s:StP) (hs:abr p s) (hP:bq (bh p)<=4096):MC prog G [25,800] 29 [.ref 25 0 0,.d (k7 s)] (ak (maR p st df nx)) (.d (ab (nrP (bh p) s))) (ak (maR p st df nx)):=by
 have hg:=fB aN;have dX:=hg.names;have hPg:∀ x∈bh p,pJ p x:=fun x hx=>nu hg hx;have rE:∀ x∈bh p,0<=kz x s/\kz x s < x.most:=fun x hx=>Bs hs (hPg x hx);have jQ:=w6 rE;have iB:∀ x∈bh p,2<=x.most:=fun x hx=>(hPg x hx).m2;have vZ:∀ k,0<=nrP ((bh p).drop k) s:=fun k=>(w6 fun x hx=>rE x (List.mem_of_mem_drop hx)).1;have Ck:∀ k,0 < bq ((bh p).drop k):=fun k=>px fun x hx=>iB x (List.mem_of_mem_drop hx);have cm:=hs.l1;have hs2:=hs.l2;clear hs;have ka:=uL p p.names.length;have rr:eb p p.names.length=bh p:=rfl;rw[rr]at ka;simp only[maR,bK,dr,ac1,eV,ab,k7,j4,dN];obtain⟨TI,TC⟩:=s;dsimp only at cm hs2 ⊢;generalize yH:bh p=bu at *
 have vQ:(bu.map e9).length=bu.length:=by simp
 have rz:∀ i (h:i < bu.length),(bu.map e9)[i]? = some [.v (.int .i64 bu[i].nm),.v (.int .i64 bu[i].most),.v (.bool bu[i].far)]:=fun i h=>by simp[h,e9]
 generalize bu.map e9=PT at *;generalize (aQ p).map (fun n=>[D.v (.int .i64 n)])=IN at *;generalize p.names.map aW=NN at *;generalize p.aaw.map b7=RR at *;refine MC.aC (aay _) func29 rfl rfl (rs:=[.tmp 4]) results29 (by simp[ntmps29]) rfl fun X=>?_;simp only[ntmps29];have fw:=@ab.eq_1;refine rgq fw [0,3] [25,800,3] ?_;refine aa1 fw 3 ?_;refine rgq fw [0,3,5,6] [25,800] ?_;refine ae fun K1 au=>?_;refine rgq fw [3,5,6,13,14,15] [25,800] ?_;refine bZ (S:=Nat×Int×Int) (fun s=>s.1<=bu.length/\0<=s.2.1/\0 < s.2.2/\s.2.2 * bq (bu.drop s.1)=bq bu/\s.2.1+s.2.2 * nrP (bu.drop s.1) ⟨TI,TC⟩=nrP bu ⟨TI,TC⟩) (fun s=>⟨lst [(3,.d (.ip [.sl none (TI.map fun b=>[.v (.bool b)]),.sl none (TC.map fun n=>[.v (.int .i64 n)])])),(5,int s.2.1),(6,int s.2.2),(13,.d (.sl none PT)),(14,int PT.length),(15,int s.1)],ak [(25,.box 48 [.d (.sl none NN),.d (.sl none RR),.d (.v (.int .i64 st)),.d (.v (.int .i64 df)),.own 800 0 nx.length,.d (.sl none PT),.d (.sl none IN)]),(800,.sl 46 1 nx)]⟩) (fun s=>bu.length - s.1) (0,0,1) ?_ ⟨by simp,by simp,by simp,by simp,by simp⟩ ?_
 .refine aX fw
 .rintro⟨k,n,b⟩ ⟨hk,o9,eF,eu,bt⟩;dsimp only at hk o9 eF eu bt ⊢;have kL:=vZ k;have oT:0<=b * nrP (bu.drop k) ⟨TI,TC⟩:=Int.mul_nonneg (by omega) kL;refine rgq fw [3,5,6,13,14,15,16] [25,800] ?_;refine ae fun K2 aa=>?_;by_cases ay:k < bu.length
  .have aaZ:k < PT.length:=by omega
   have ju:(k:Int) < (PT.length:Int):=by omega
   refine aax (by simp<;>omega) ?_;refine ah (aa _ ?_);refine ae fun K3 aH=>?_;refine aU ?_;have hx:=hPg _ (List.getElem_mem ay);obtain⟨hd0,iO⟩:=rE _ (List.getElem_mem ay)
   have hPk:PT[k]=[.v (.int .i64 bu[k].nm),.v (.int .i64 bu[k].most),.v (.bool bu[k].far)]:=by
    have:=rz k ay;rw[List.getElem?_eq_getElem aaZ]at this;exact Option.some.inj this
   have Cj:=vZ (k+1);have Qc:=Ck (k+1);rw[List.drop_eq_getElem_cons ay,nrP]at bt;rw[List.drop_eq_getElem_cons ay,bq,<- Int.mul_assoc]at eu;rw[Int.mul_add,<- Int.add_assoc,<- Int.mul_assoc]at bt;have fZ:=hx.lt;have iB:=hx.m2;clear hx oT kL;unfold kz at bt hd0 iO;generalize bu[k]=x at hPk bt eu fZ iB hd0 iO;obtain⟨i,M,fa⟩:=x;dsimp only at hPk bt eu fZ iB hd0 iO;have oR:0 < b * M:=Int.mul_pos eF (by omega)
   have agh:b * M<=4096:=by
    have:=Int.mul_le_mul_of_nonneg_left (show (1:Int)<=bq (bu.drop (k+1)) by omega) (Int.le_of_lt oR);omega
   have agi:0<=b * M * nrP (bu.drop (k+1)) ⟨TI,TC⟩:=Int.mul_nonneg (by omega) Cj
   have cO:i < TI.length:=by omega
   have hi2:i < TC.length:=by omega
   rw[fj cO,fj hi2]at bt hd0 iO;generalize oV:TI[i]=bv at *;generalize kc:TC[i]=c at *;generalize rA:b * M=bM at *;have qf:=(Aq fw (Aq @aaZ @hPk));refine al [3,5,6,8,13,14,15] [25,800,8] ?_;refine aa1 fw 8 ?_;refine rgq fw [3,5,6,8,9,13,14,15] [25,800] ?_;refine ae fun K4 hK4=>?_;refine rgq fw [3,5,6,8,9,13,14,15,20] [25,800] ?_
   cases fa with
   | true=>
    simp only[if_true]at bt hd0 iO;have hU:0<=b * c:=Int.mul_nonneg (by omega) hd0
    have fk:b * c<=bM:=by
     have:=Int.mul_le_mul_of_nonneg_left (Int.le_of_lt iO) (Int.le_of_lt eF);omega
    generalize Ca:b * c=bc at *;refine aax rfl ?_;have qf:=(Aq fw (Aq @hi2 @kc));refine cT hK4 [3,5,6,8,9,13,14,15] [25,800] ?_;have qf:=(Aq fw @Ca);refine al [3,5,6,8,13,14,15] [25,800] ?_;have qf:=(Aq fw @rA);refine cT aH [3,5,6,13,14,15] [25,800] ?_;refine bO fw ?_;(try simp only[aM,aP]);refine aV.mk (k+1,n+bc,bM) ⟨by dsimp only;omega,by dsimp only;omega,oR,eu,bt⟩ (by dsimp only;omega) ?_;refine aX fw
   | false=>
    simp only[Bool.false_eq_true,if_false]at bt hd0 iO;refine ag rfl ?_;have qf:=(Aq fw (Aq @cO @oV));refine al [3,5,6,8,9,13,14,15,32] [25,800] ?_
    cases bv with
    | true=>
     simp only[if_true,Int.mul_one]at bt
     have cY:b<=bM:=by
      have:=Int.mul_le_mul_of_nonneg_left (show (1:Int)<=M by omega) (Int.le_of_lt eF);omega
     refine aax rfl ?_;refine reK fw hK4 [3,5,6,8,9,13,14,15] [25,800] ?_;refine rgq fw [3,5,6,8,13,14,15] [25,800] ?_;have qf:=(Aq fw @rA);refine cT aH [3,5,6,13,14,15] [25,800] ?_;refine bO fw ?_;(try simp only[aM,aP]);refine aV.mk (k+1,n+b,bM) ⟨by dsimp only;omega,by dsimp only;omega,oR,eu,bt⟩ (by dsimp only;omega) ?_;refine aX fw
    | false=>
     simp only[Bool.false_eq_true,if_false,Int.mul_zero,Int.add_zero]at bt;refine ag rfl ?_;refine ah (hK4 _ ?_);refine rgq fw [3,5,6,8,13,14,15] [25,800] ?_;have qf:=(Aq fw @rA);refine cT aH [3,5,6,13,14,15] [25,800] ?_;refine bO fw ?_;(try simp only[aM,aP]);refine aV.mk (k+1,n,bM) ⟨by dsimp only;omega,by dsimp only;omega,oR,eu,bt⟩ (by dsimp only;omega) ?_;refine aX fw
  .have ju:¬ (k:Int) < (PT.length:Int):=by omega
   rw[List.drop_eq_nil_of_le (by omega),nrP,Int.mul_zero,Int.add_zero]at bt;subst bt;refine ag (by simp;omega) ?_;refine bG (au _ ?_);refine rgq fw [4] [25,800] ?_;exact aG fw
theorem Tl (G:ao) (p:PgP) (aN:cf p=none) (st df:Int) (nx:List (List D)) (s:StP) (hs:abr p s) (hP:bq (bh p)<=4096):ar prog G 29 [dMa p st df nx,k7 s] (ab (nrP (bh p) s)):=by
 have hg:=fB aN;have dX:=hg.names;have hPg:∀ x∈bh p,pJ p x:=fun x hx=>nu hg hx;have rE:∀ x∈bh p,0<=kz x s/\kz x s < x.most:=fun x hx=>Bs hs (hPg x hx);have jQ:=w6 rE;have iB:∀ x∈bh p,2<=x.most:=fun x hx=>(hPg x hx).m2;have vZ:∀ k,0<=nrP ((bh p).drop k) s:=fun k=>(w6 fun x hx=>rE x (List.mem_of_mem_drop hx)).1;have Ck:∀ k,0 < bq ((bh p).drop k):=fun k=>px fun x hx=>iB x (List.mem_of_mem_drop hx);have cm:=hs.l1;have hs2:=hs.l2;clear hs;have ka:=uL p p.names.length;have rr:eb p p.names.length=bh p:=rfl;rw[rr]at ka;simp only[dMa,nC,bK,dr,ac1,eV,ab,k7,j4,dN];obtain⟨TI,TC⟩:=s;dsimp only at cm hs2 ⊢;generalize yH:bh p=bu at *
 have vQ:(bu.map e9).length=bu.length:=by simp
 have rz:∀ i (h:i < bu.length),(bu.map e9)[i]? = some [.v (.int .i64 bu[i].nm),.v (.int .i64 bu[i].most),.v (.bool bu[i].far)]:=fun i h=>by simp[h,e9]
 generalize bu.map e9=PT at *;generalize (aQ p).map (fun n=>[D.v (.int .i64 n)])=IN at *;generalize p.names.map aW=NN at *;generalize p.aaw.map b7=RR at *;refine ar.aC (aay _) func29 rfl rfl (rs:=[.tmp 4]) results29 (by simp[ntmps29]) fun X=>?_;simp only[ntmps29,List.map];have fw:=@ab.eq_1;refine rgq fw [0,3] [3] ?_;refine aa1 fw 3 ?_;refine rgq fw [0,3,5,6] [] ?_;refine ae fun K1 au=>?_;refine rgq fw [3,5,6,13,14,15] [] ?_;refine bZ (S:=Nat×Int×Int) (fun s=>s.1<=bu.length/\0<=s.2.1/\0 < s.2.2/\s.2.2 * bq (bu.drop s.1)=bq bu/\s.2.1+s.2.2 * nrP (bu.drop s.1) ⟨TI,TC⟩=nrP bu ⟨TI,TC⟩) (fun s=>⟨lst [(3,.d (.ip [.sl none (TI.map fun b=>[.v (.bool b)]),.sl none (TC.map fun n=>[.v (.int .i64 n)])])),(5,int s.2.1),(6,int s.2.2),(13,.d (.sl none PT)),(14,int PT.length),(15,int s.1)],ak []⟩) (fun s=>bu.length - s.1) (0,0,1) ?_ ⟨by simp,by simp,by simp,by simp,by simp⟩ ?_
 .refine aX fw
 .rintro⟨k,n,b⟩ ⟨hk,o9,eF,eu,bt⟩;dsimp only at hk o9 eF eu bt ⊢;have kL:=vZ k;have oT:0<=b * nrP (bu.drop k) ⟨TI,TC⟩:=Int.mul_nonneg (by omega) kL;refine rgq fw [3,5,6,13,14,15,16] [] ?_;refine ae fun K2 aa=>?_;by_cases ay:k < bu.length
  .have aaZ:k < PT.length:=by omega
   have ju:(k:Int) < (PT.length:Int):=by omega
   refine aax (by simp<;>omega) ?_;refine ah (aa _ ?_);refine ae fun K3 aH=>?_;refine aU ?_;have hx:=hPg _ (List.getElem_mem ay);obtain⟨hd0,iO⟩:=rE _ (List.getElem_mem ay)
   have hPk:PT[k]=[.v (.int .i64 bu[k].nm),.v (.int .i64 bu[k].most),.v (.bool bu[k].far)]:=by
    have:=rz k ay;rw[List.getElem?_eq_getElem aaZ]at this;exact Option.some.inj this
   have Cj:=vZ (k+1);have Qc:=Ck (k+1);rw[List.drop_eq_getElem_cons ay,nrP]at bt;rw[List.drop_eq_getElem_cons ay,bq,<- Int.mul_assoc]at eu;rw[Int.mul_add,<- Int.add_assoc,<- Int.mul_assoc]at bt;have fZ:=hx.lt;have iB:=hx.m2;clear hx oT kL;unfold kz at bt hd0 iO;generalize bu[k]=x at hPk bt eu fZ iB hd0 iO;obtain⟨i,M,fa⟩:=x;dsimp only at hPk bt eu fZ iB hd0 iO;have oR:0 < b * M:=Int.mul_pos eF (by omega)
   have agh:b * M<=4096:=by
    have:=Int.mul_le_mul_of_nonneg_left (show (1:Int)<=bq (bu.drop (k+1)) by omega) (Int.le_of_lt oR);omega
   have agi:0<=b * M * nrP (bu.drop (k+1)) ⟨TI,TC⟩:=Int.mul_nonneg (by omega) Cj
   have cO:i < TI.length:=by omega
   have hi2:i < TC.length:=by omega
   rw[fj cO,fj hi2]at bt hd0 iO;generalize oV:TI[i]=bv at *;generalize kc:TC[i]=c at *;generalize rA:b * M=bM at *;have qf:=(Aq fw (Aq @aaZ @hPk));refine al [3,5,6,8,13,14,15] [8] ?_;refine aa1 fw 8 ?_;refine rgq fw [3,5,6,8,9,13,14,15] [] ?_;refine ae fun K4 hK4=>?_;refine rgq fw [3,5,6,8,9,13,14,15,20] [] ?_
   cases fa with
   | true=>
    simp only[if_true]at bt hd0 iO;have hU:0<=b * c:=Int.mul_nonneg (by omega) hd0
    have fk:b * c<=bM:=by
     have:=Int.mul_le_mul_of_nonneg_left (Int.le_of_lt iO) (Int.le_of_lt eF);omega
    generalize Ca:b * c=bc at *;refine aax rfl ?_;have qf:=(Aq fw (Aq @hi2 @kc));refine cT hK4 [3,5,6,8,9,13,14,15] [] ?_;have qf:=(Aq fw @Ca);refine al [3,5,6,8,13,14,15] [] ?_;have qf:=(Aq fw @rA);refine cT aH [3,5,6,13,14,15] [] ?_;refine bO fw ?_;(try simp only[aM,aP]);refine aV.mk (k+1,n+bc,bM) ⟨by dsimp only;omega,by dsimp only;omega,oR,eu,bt⟩ (by dsimp only;omega) ?_;refine aX fw
   | false=>
    simp only[Bool.false_eq_true,if_false]at bt hd0 iO;refine ag rfl ?_;have qf:=(Aq fw (Aq @cO @oV));refine al [3,5,6,8,9,13,14,15,32] [] ?_
    cases bv with
    | true=>
     simp only[if_true,Int.mul_one]at bt
     have cY:b<=bM:=by
      have:=Int.mul_le_mul_of_nonneg_left (show (1:Int)<=M by omega) (Int.le_of_lt eF);omega
     refine aax rfl ?_;refine reK fw hK4 [3,5,6,8,9,13,14,15] [] ?_;refine rgq fw [3,5,6,8,13,14,15] [] ?_;have qf:=(Aq fw @rA);refine cT aH [3,5,6,13,14,15] [] ?_;refine bO fw ?_;(try simp only[aM,aP]);refine aV.mk (k+1,n+b,bM) ⟨by dsimp only;omega,by dsimp only;omega,oR,eu,bt⟩ (by dsimp only;omega) ?_;refine aX fw
    | false=>
     simp only[Bool.false_eq_true,if_false,Int.mul_zero,Int.add_zero]at bt;refine ag rfl ?_;refine ah (hK4 _ ?_);refine rgq fw [3,5,6,8,13,14,15] [] ?_;have qf:=(Aq fw @rA);refine cT aH [3,5,6,13,14,15] [] ?_;refine bO fw ?_;(try simp only[aM,aP]);refine aV.mk (k+1,n,bM) ⟨by dsimp only;omega,by dsimp only;omega,oR,eu,bt⟩ (by dsimp only;omega) ?_;refine aX fw
  .have ju:¬ (k:Int) < (PT.length:Int):=by omega
   rw[List.drop_eq_nil_of_le (by omega),nrP,Int.mul_zero,Int.add_zero]at bt;subst bt;refine ag (by simp;omega) ?_;refine bG (au _ ?_);refine rgq fw [4] [] ?_;exact aG fw
theorem Tg (G:ao) (p:PgP) (aN:cf p=none) (st df:Int) (nx:List (List D)) (x:Int):MC prog G [25,800] 28 [.ref 25 0 0,.d (ab x)] (ak (maR p st df nx)) (.d (dN (aaY x (aQ p).length))) (ak (maR p st df nx)):=by
 have dX:=(fB aN).names;have rO:=qv p.names 1 p.names.length;have iS:fN p.names 1 p.names.length=aQ p:=rfl;rw[iS]at rO;simp only[maR,bK,dr,ac1,eV,ab,dN]
 have jl:((aQ p).map fun n=>[D.v (.int .i64 n)]).length=(aQ p).length:=by simp
 generalize (aQ p).length=m at *;generalize (aQ p).map (fun n=>[D.v (.int .i64 n)])=IN at *;generalize (bh p).map e9=PT at *;generalize p.names.map aW=NN at *;generalize p.aaw.map b7=RR at *;refine MC.aC (aay _) func28 rfl rfl (rs:=[.tmp 4]) results28 (by simp[ntmps28]) rfl fun X=>?_;simp only[ntmps28];have fw:=@ab.eq_1;refine rgq fw [0,1] [25,800] ?_;refine rgq fw [0,1,5] [25,800] ?_;refine ae fun K1 au=>?_;refine rgq fw [1,5,11,12] [25,800] ?_;refine bZ (S:=Nat) (fun k=>k<=m) (fun k=>⟨lst [(1,int x),(5,.own 901 0 k),(11,int m),(12,int k)],ak [(25,.box 48 [.d (.sl none NN),.d (.sl none RR),.d (.v (.int .i64 st)),.d (.v (.int .i64 df)),.own 800 0 nx.length,.d (.sl none PT),.d (.sl none IN)]),(800,.sl 46 1 nx),(901,.sl 4 1 ((aaY x k).map fun b=>[.v (.bool b)]))]⟩) (fun k=>m - k) 0 ?_ (by omega) ?_
 .refine (aB.iH 5 901 4 1 rfl rfl).trans ?_;refine aX (Aq fw (Aq @aaY.eq_1 (Aq @aaY.eq_2 @jl)))
 .intro k rR
  have hBl:((aaY x k).map fun b=>[D.v (.bool b)]).length=k:=by simp[nW]
  have mT:aaY x (k+1)=aaY x k ++ [inB x k]:=rfl;have wc:(adF .and .i64 (x.fdiv (2 ^ (min k IntKind.i64.bits))) 1 == 1)=inB x k:=rfl;generalize hbk:aaY x k=B at hBl mT ⊢;refine rgq fw [1,5,11,12,13] [25,800,901] ?_;refine ae fun K2 aa=>?_;refine dw (b:=k < m) (by simp[D.le,D.le.go,aaA,ab]) (fun hc=>?_) (fun hc=>?_)
  .refine ah (aa _ ?_);refine ae fun K3 aH=>?_;refine aU ?_;refine rgq fw [1,5,6,11,12] [25,800,901] ?_;refine abl (aay _) fun K' af=>?_;(repeat (refine sxn fun K2 aa=>?_;simp[ab,hBl,List.take_of_length_le,shI,wc];(repeat (refine⟨by omega,?_⟩));refine aa _ ?_;clear aa K2));refine sxz (af _ ?_);clear af K';refine aH _ (AW.norm [1,5,11,12] [25,800,901] (cK rfl) (AW.st (by simp[ab,hBl,List.take_of_length_le,shI,wc];rfl) ?_));refine bO fw ?_;(try simp only[aM,aP]);refine aV.mk (k+1) (by omega) (by omega) ?_;rw[mT];refine aX fw
  .obtain rfl:k=m:=by omega
   refine bG (au _ ?_);rw[hbk];refine AW.imp (aB.freeze 901 (by decide)) ?_;refine AW.st (by simp[ab,hBl,List.take_of_length_le];rfl) ?_;refine rgq fw [4] [25,800] ?_;exact aG fw
theorem I5 (G:ao) (p:PgP) (aN:cf p=none) (st df:Int) (nx:List (List D)) (x:Int):ar prog G 28 [dMa p st df nx,ab x] (dN (aaY x (aQ p).length)):=by
 have dX:=(fB aN).names;have rO:=qv p.names 1 p.names.length;have iS:fN p.names 1 p.names.length=aQ p:=rfl;rw[iS]at rO;simp only[dMa,nC,bK,dr,ac1,eV,ab,dN]
 have jl:((aQ p).map fun n=>[D.v (.int .i64 n)]).length=(aQ p).length:=by simp
 generalize (aQ p).length=m at *;generalize (aQ p).map (fun n=>[D.v (.int .i64 n)])=IN at *;generalize (bh p).map e9=PT at *;generalize p.names.map aW=NN at *;generalize p.aaw.map b7=RR at *;refine ar.aC (aay _) func28 rfl rfl (rs:=[.tmp 4]) results28 (by simp[ntmps28]) fun X=>?_;simp only[ntmps28,List.map];have fw:=@ab.eq_1;refine rgq fw [0,1] [] ?_;refine rgq fw [0,1,5] [] ?_;refine ae fun K1 au=>?_;refine rgq fw [1,5,11,12] [] ?_;refine bZ (S:=Nat) (fun k=>k<=m) (fun k=>⟨lst [(1,int x),(5,.own 901 0 k),(11,int m),(12,int k)],ak [(901,.sl 4 1 ((aaY x k).map fun b=>[.v (.bool b)]))]⟩) (fun k=>m - k) 0 ?_ (by omega) ?_
 .refine (aB.iH 5 901 4 1 rfl rfl).trans ?_;refine aX (Aq fw (Aq @aaY.eq_1 (Aq @aaY.eq_2 @jl)))
 .intro k rR
  have hBl:((aaY x k).map fun b=>[D.v (.bool b)]).length=k:=by simp[nW]
  have mT:aaY x (k+1)=aaY x k ++ [inB x k]:=rfl;have wc:(adF .and .i64 (x.fdiv (2 ^ (min k IntKind.i64.bits))) 1 == 1)=inB x k:=rfl;generalize hbk:aaY x k=B at hBl mT ⊢;refine rgq fw [1,5,11,12,13] [901] ?_;refine ae fun K2 aa=>?_;refine dw (b:=k < m) (by simp[D.le,D.le.go,aaA,ab]) (fun hc=>?_) (fun hc=>?_)
  .refine ah (aa _ ?_);refine ae fun K3 aH=>?_;refine aU ?_;refine rgq fw [1,5,6,11,12] [901] ?_;refine abl (aay _) fun K' af=>?_;(repeat (refine sxn fun K2 aa=>?_;simp[ab,hBl,List.take_of_length_le,shI,wc];(repeat (refine⟨by omega,?_⟩));refine aa _ ?_;clear aa K2));refine sxz (af _ ?_);clear af K';refine aH _ (AW.norm [1,5,11,12] [901] (fun _ _=>trivial) (AW.st (by simp[ab,hBl,List.take_of_length_le,shI,wc];rfl) ?_));refine bO fw ?_;(try simp only[aM,aP]);refine aV.mk (k+1) (by omega) (by omega) ?_;rw[mT];refine aX fw
  .obtain rfl:k=m:=by omega
   refine bG (au _ ?_);rw[hbk];refine AW.imp (aB.freeze 901 trivial) ?_;refine AW.st (by simp[ab,hBl,List.take_of_length_le];rfl) ?_;refine rgq fw [4] [] ?_;exact aG fw
theorem WL {p:PgP} {k:Nat} (h:k < p.names.length):(dk p).take (k+1)=(dk p).take k ++ [b8 p p.names[k]]:=by
 have h':k < (dk p).length:=by simpa[dk]using h
 rw[List.take_succ_eq_append_getElem h'];simp[dk]
theorem xo (G:ao) (hM:acb G) (p:PgP) (aN:cf p=none) (hk:∀ r∈p.aaw,acZ r):ar prog G 61 [cE p] (eV (dk p)):=by
 have hg:=fB aN;have dX:=hg.names
 have hed:=Yy G hM p (by omega) (fun n hn e=>by
  have:=(hg.name n hn).1;rw[e]at this
  exact absurd this (by decide)) (by have:=hg.aaw;omega) (fun r hr=>by
  obtain⟨e,he,_,_,hb⟩:=hk r hr
  exact⟨e,he,by omega⟩)
 have jS:=afo p p.names.length;have ud:=fun k (h:k < p.names.length)=>(sU (p:=p) (x:=(k:Int)) (Nat.le_refl _))
 have Qe:∀ k (h:k < p.names.length),((k:Int)∈ew p p.names.length)↔gS p p.names[k]=true:=fun k h=>by
  rw[ud k h];constructor
  .rintro⟨i,hi,_,he,ha⟩
   obtain rfl:k=i:=by omega
   exact ha
  .intro ha;exact⟨k,h,h,rfl,ha⟩
 have wD:=fun k (h:k < p.names.length)=>WL h
 have dZ:(dk p).length=p.names.length:=by simp[dk]
 have jK:=hg.count;have kG:=hg.name;generalize dk p=RP at *;generalize ew p p.names.length=E at *;clear ud;simp only[cE,dM,bK,eV]at hed ⊢
 have mi:(p.names.map aW).length=p.names.length:=by simp
 have j9:∀ i (h:i < p.names.length),(p.names.map aW)[i]? = some [.v (.string (bs p.names[i].name)),.v (.int .i64 p.names[i].kind),.v (.int .i64 p.names[i].count)]:=fun i h=>by simp[h,aW,dS]
 generalize p.names.map aW=NN at *;generalize p.aaw.map cM=RR at *;refine ar.aC (aay _) func61 rfl rfl (rs:=[.tmp 2]) results61 (by simp[ntmps61]) fun X=>?_;simp only[ntmps61,List.map];refine aq [1] [1] ?_;refine dV 1 ?_;refine aR trivial hed [1,3] [] ?_;refine aq [1,3,4] [] ?_;refine ae fun K1 au=>?_;refine aq [3,4,13,14,15] [] ?_;refine bZ (S:=Nat) (fun k=>k<=p.names.length) (fun k=>⟨lst [(3,.d (.sl none (E.map fun x=>[.v (.int .i64 x)]))),(4,.own 905 0 k),(13,.d (.sl none NN)),(14,int NN.length),(15,int k)],ak [(905,.sl 3 1 ((RP.take k).map fun x=>[.v (.int .i64 x)]))]⟩) (fun k=>p.names.length - k) 0 ?_ (by omega) ?_
 .refine (aB.iH 4 905 3 1 rfl rfl).trans ?_;refine aa2
 .intro k iA;have HO:=wD k
  have ka:((RP.take k).map fun x=>[D.v (.int .i64 x)]).length=k:=by simp;omega
  generalize Pq:RP.take k=PT at HO ka ⊢;refine aq [3,4,13,14,15,16] [905] ?_;refine ae fun K2 aa=>?_;by_cases ay:k < p.names.length
  .have aaZ:k < NN.length:=by omega
   have ju:(k:Int) < (NN.length:Int):=by omega
   refine aax (by simp<;>omega) ?_;refine ah (aa _ ?_);refine ae fun K3 aH=>?_;refine aU ?_;have y3:=HO ay;have Qf:=Qe k ay;have fK:=jK _ (List.getElem_mem ay);have hkd:=kG _ (List.getElem_mem ay)
   have jI:NN[k]=[.v (.string (bs p.names[k].name)),.v (.int .i64 p.names[k].kind),.v (.int .i64 p.names[k].count)]:=by
    have:=j9 k ay;rw[List.getElem?_eq_getElem aaZ]at this;exact Option.some.inj this
   unfold b8 at y3;generalize gS p p.names[k]=ev at *;generalize HG:p.names[k]=nk at y3 jI fK hkd;obtain⟨nm,kd,ct⟩:=nk;dsimp only at y3 jI fK hkd;have qf:=(Aq @aaZ @jI);refine al [3,4,5,6,13,14,15] [905,6] ?_;refine dV 6 ?_;refine aq [3,4,5,6,7,13,14,15] [905] ?_;refine ae fun K4 hK4=>?_;refine aU ?_;obtain⟨v0,ff⟩:∃ v0:Int,v0=if 3<=kd then ct+1 else if kd=2 then 2 else 0:=⟨_,rfl⟩
   have tl:∀ τ,St.norm [3,4,5,6,7,13,14,15] [905] τ=⟨lst [(3,.d (.sl none (E.map fun x=>[.v (.int .i64 x)]))),(4,.own 905 0 k),(5,int k),(6,.d (.ip [.v (.string (bs nm)),.v (.int .i64 kd),.v (.int .i64 ct)])),(7,int v0),(13,.d (.sl none NN)),(14,int NN.length),(15,int k)],ak [(905,.sl 3 1 (PT.map fun x=>[.v (.int .i64 x)]))]⟩->K4 τ:=by
    intro τ e;refine hK4 τ (AW.norm [3,4,5,6,7,13,14,15] [905] (fun _ _=>trivial) (AW.st e ?_));clear e;refine ae fun K5 bN=>?_;refine aq [3,4,5,6,7,13,14,15,31,32,33] [905] ?_;refine bZ (S:=Nat) (fun j=>j<=E.length) (fun j=>⟨lst [(3,.d (.sl none (E.map fun x=>[.v (.int .i64 x)]))),(4,.own 905 0 k),(5,int k),(6,.d (.ip [.v (.string (bs nm)),.v (.int .i64 kd),.v (.int .i64 ct)])),(7,int (if kd=1/\(k:Int)∈E.take j then 2 else v0)),(13,.d (.sl none NN)),(14,int NN.length),(15,int k),(31,.d (.sl none (E.map fun x=>[.v (.int .i64 x)]))),(32,int E.length),(33,int j)],ak [(905,.sl 3 1 (PT.map fun x=>[.v (.int .i64 x)]))]⟩) (fun j=>E.length - j) 0 ?_ (by omega) ?_
    .refine aa2
    .intro j hj;generalize wK:(if kd=1/\(k:Int)∈E.take j then 2 else v0)=vj;refine aq [3,4,5,6,7,13,14,15,31,32,33,34] [905] ?_;refine ae fun K6 hK6=>?_;refine dw (b:=j < E.length) (by simp[D.le,D.le.go,aaA]) (fun hc=>?_) (fun hc=>?_)
     .refine ah (hK6 _ ?_);refine ae fun K7 dW=>?_;refine aU ?_;have cy:E.take (j+1)=E.take j ++ [E[j]]:=List.take_succ_eq_append_getElem hc;have qf:=@hc;refine al [3,4,5,6,7,9,13,14,15,31,32,33] [905] ?_
      have jP:(k:Int)∈E.take (j+1)↔(k:Int)∈E.take j\/(k:Int)=E[j]:=by rw[cy,List.mem_append,List.mem_singleton]
      by_cases hke:(k:Int)=E[j]
      .have Hy:=eq_true hke;by_cases k1:kd=1
       .have R9:=eq_true k1;have qf:=(Aq @Hy @R9);refine al [3,4,5,6,7,13,14,15,31,32,33,44] [905] ?_;refine aax rfl ?_;refine reK trivial dW [3,4,5,6,7,13,14,15,31,32,33] [905] ?_;refine cG ?_;(try simp only[aM,aP]);refine aV.mk (j+1) (by omega) (by omega) ?_;rw[if_pos ⟨k1,jP.2 (.inr hke)⟩];refine aa2
       .have qf:=(Aq @Hy @k1);refine al [3,4,5,6,7,13,14,15,31,32,33,44] [905] ?_;refine ag (by simp[k1]) ?_;refine ah (dW _ ?_);refine cG ?_;(try simp only[aM,aP]);refine aV.mk (j+1) (by omega) (by omega) ?_;rw[if_neg (fun h=>k1 h.1)]at wK;rw[if_neg (fun h=>k1 h.1),wK];refine aa2
      .have qf:=@hke;refine al [3,4,5,6,7,13,14,15,31,32,33,44] [905] ?_;refine ag (by simp[hke]) ?_;refine ah (dW _ ?_);refine cG ?_;(try simp only[aM,aP]);refine aV.mk (j+1) (by omega) (by omega) ?_;have nS:(kd=1/\(k:Int)∈E.take (j+1))=(kd=1/\(k:Int)∈E.take j):=propext (and_congr_right fun _=>jP.trans (or_iff_left hke));simp only[nS,wK];refine aa2
     .obtain rfl:j=E.length:=by omega
      rw[List.take_of_length_le (Nat.le_refl _)]at wK;refine bG (bN _ ?_);refine abl (aay _) fun K' af=>?_;(repeat (refine sxn fun K2 aa=>?_;simp[ka,List.take_of_length_le];(repeat (refine⟨by omega,?_⟩));refine aa _ ?_;clear aa K2));refine sxz (af _ ?_);clear af K';refine aH _ (AW.norm [3,4,13,14,15] [905] (fun _ _=>trivial) (AW.st (by simp[ka,List.take_of_length_le];rfl) ?_));refine cG ?_;(try simp only[aM,aP]);refine aV.mk (k+1) (by omega) (by omega) ?_
      have qa:vj=if 3<=kd then ct+1 else if kd=2 then 2 else if kd=1/\ev=true then 2 else 0:=by
       rw[<- wK,ff];by_cases k3:3<=kd
       .rw[if_neg (by omega),if_pos k3,if_pos k3]
       .by_cases k2:kd=2
        .rw[if_neg (by omega),if_neg k3,if_pos k2,if_neg k3,if_pos k2]
        .rw[if_neg k3,if_neg k2,if_neg k3,if_neg k2];simp only[Qf]
      rw[y3,<- qa];refine aa2
   by_cases k3:3<=kd
   .rw[if_pos k3]at ff;subst ff;have ga:kd >= 3:=k3;have qf:=@ga;refine al [3,4,5,6,7,13,14,15,20] [905] ?_;refine aax (by simp<;>omega) ?_;refine abl (aay _) fun K' af=>?_;(repeat (refine sxn fun K2 aa=>?_;simp;(repeat (refine⟨by omega,?_⟩));refine aa _ ?_;clear aa K2));refine sxz (af _ ?_);clear af K';exact tl _ (by simp)
   .have ga:¬ kd >= 3:=k3;rw[if_neg k3]at ff;have qf:=@ga;refine al [3,4,5,6,7,13,14,15,20] [905] ?_;refine ag (by simp<;>omega) ?_;by_cases k2:kd=2
    .rw[if_pos k2]at ff;subst ff;have Sa:=eq_true k2;have qf:=@Sa;refine al [3,4,5,6,7,13,14,15,27] [905] ?_;refine aax (by simp[k2]) ?_;refine abl (aay _) fun K' af=>?_;(repeat (refine sxn fun K2 aa=>?_;simp;(repeat (refine⟨by omega,?_⟩));refine aa _ ?_;clear aa K2));refine sxz (af _ ?_);clear af K';exact tl _ (by simp)
    .rw[if_neg k2]at ff;subst ff;have qf:=@k2;refine al [3,4,5,6,7,13,14,15,27] [905] ?_;refine ag (by simp[k2]) ?_;refine ah (tl _ (by simp))
  .have ju:¬ (k:Int) < (NN.length:Int):=by omega
   obtain rfl:k=p.names.length:=by omega
   have BX:PT=RP:=by rw[<- Pq];exact List.take_of_length_le (by omega)
   subst BX;refine ag (by simp<;>omega) ?_;refine bG (au _ ?_);refine AW.imp (aB.freeze 905 trivial) ?_;refine AW.st (by simp[ka,List.take_of_length_le];rfl) ?_;refine aq [2] [] ?_;exact gG
