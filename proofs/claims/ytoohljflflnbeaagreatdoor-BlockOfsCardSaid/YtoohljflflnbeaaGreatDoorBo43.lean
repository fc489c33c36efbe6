/- Parts. -/
import Derived.Test.YtoohljflflnbeaaGreatDoorBo42
set_option linter.unusedSimpArgs false
set_option linter.unusedVariables false
set_option maxHeartbeats 16000000
set_option maxRecDepth 100000
open Go.Proofs.Tryz
namespace Go.Proofs.YtoohljflflnbeaaGreatDoor
open Go.Av
theorem adq {p:aP} {k:Nat} (h:k < p.names.length):(e6 p).take (k+1)=(e6 p).take k ++ [cZ p p.names[k]]:=by
 have h':k < (e6 p).length:=by simpa[e6]using h
 rw[agB h'];simp[e6]
theorem CG (G:aC) (hM:j3 G) (p:aP) (aZ:dr p=none) (hk:∀ r∈p.ax,mR r):aD prog G 186 [dU p] (gg (e6 p)):=by
 have hg:=iB aZ;have fy:=hg.names
 have nM:=ae1 G hM p aa (fun n hn e=>by
  have:=(hg.name n hn).1;rw[e]at this
  exact absurd this bO) (by have:=hg.ax;omega) (fun r hr=>by
  obtain⟨e,he,_,_,hb⟩:=hk r hr
  exact⟨e,he,aa⟩)
 have np:=F3 p p.names.length;have zu:=fun k (h:k < p.names.length)=>(x9 (p:=p) (x:=(k:Int)) (agD _))
 have Yz:∀ k (h:k < p.names.length),((k:Int)∈gd p p.names.length)↔jP p p.names[k]=true:=fun k h=>by
  rw[zu k h];constructor
  .rintro⟨i,hi,_,he,ha⟩
   obtain rfl:k=i:=aa
   exact ha
  .intro ha;exact⟨k,h,h,rfl,ha⟩
 have BP:=fun k (h:k < p.names.length)=>adq h
 have eY:(e6 p).length=p.names.length:=by simp[e6]
 have nd:=hg.count;have oH:=hg.name;generalize e6 p=RP at *;generalize gd p p.names.length=E at *;clear zu;simp only[dU,ft,cj,gg]at nM ⊢
 have tB:(p.names.map bo).length=p.names.length:=ak
 have nK:∀ i (h:i < p.names.length),(p.names.map bo)[i]? = some [.v (.string (bs p.names[i].name)),.v (.int .i64 p.names[i].kind),.v (.int .i64 p.names[i].count)]:=fun i h=>by simp[h,bo,dS]
 generalize p.names.map bo=NN at *;generalize p.ax.map eg=RR at *;refine aD.aQ (aB _) func186 rfl rfl (rs:=[.tmp 2]) results186 (by simp[ntmps186]) fun X=>?_;simp only[ntmps186,List.map];refine aq [1] [1] ?_;refine fI 1 ?_;refine br trivial nM [1,3] [] ?_;refine aq [1,3,4] [] ?_;refine ag fun K1 aF=>aq [3,4,13,14,15] [] ?_;refine cy (S:=Nat) (fun k=>k<=p.names.length) (fun k=>⟨bn [(3,.d (.sl none (E.map fun x=>[.v (.int .i64 x)]))),(4,.own 905 0 k),(13,.d (.sl none NN)),(14,int NN.length),(15,int k)],aw [(905,.sl 3 1 ((RP.take k).map fun x=>[.v (.int .i64 x)]))]⟩) (fun k=>p.names.length - k) 0 ?_ aa ?_
 .refine (aK.kC 4 905 3 1 rfl rfl).trans ?_;refine cI
 .intro k lL;have Od:=BP k
  have pb:((RP.take k).map fun x=>[D.v (.int .i64 x)]).length=k:=by simp;omega
  generalize XI:RP.take k=PT at Od pb ⊢;refine aq [3,4,13,14,15,16] [905] ?_;refine ag fun K2 au=>?_;by_cases aG:k < p.names.length
  .have eW:k < NN.length:=aa
   have nR:(k:Int) < (NN.length:Int):=aa
   refine cm (by simp<;>omega) ?_;refine ar (au _ (ag fun K3 aU=>bd ?_));have EA:=Od aG;have YA:=Yz k aG;have iO:=nd _ (OF aG);have ga:=oH _ (OF aG)
   have na:NN[k]=[.v (.string (bs p.names[k].name)),.v (.int .i64 p.names[k].kind),.v (.int .i64 p.names[k].count)]:=by
    have:=nK k aG;rw[By eW]at this;exact AI this
   unfold cZ at EA;generalize jP p p.names[k]=ev at *;generalize NZ:p.names[k]=nk at EA na iO ga;obtain⟨nm,kd,ct⟩:=nk;dsimp only at EA na iO ga;have qf:=(Aq @eW @na);refine ay [3,4,5,6,13,14,15] [905,6] ?_;refine fI 6 ?_;refine aq [3,4,5,6,7,13,14,15] [905] ?_;refine ag fun K4 ck=>bd ?_;obtain⟨v0,hC⟩:∃ v0:Int,v0=if 3<=kd then ct+1 else if kd=2 then 2 else 0:=⟨_,rfl⟩
   have tl:∀ τ,St.norm [3,4,5,6,7,13,14,15] [905] τ=⟨bn [(3,.d (.sl none (E.map fun x=>[.v (.int .i64 x)]))),(4,.own 905 0 k),(5,int k),(6,.d (.ip [.v (.string (bs nm)),.v (.int .i64 kd),.v (.int .i64 ct)])),(7,int v0),(13,.d (.sl none NN)),(14,int NN.length),(15,int k)],aw [(905,.sl 3 1 (PT.map fun x=>[.v (.int .i64 x)]))]⟩->K4 τ:=by
    intro τ e;refine ck τ (AW.norm [3,4,5,6,7,13,14,15] [905] aN (AW.st e ?_));clear e;refine ag fun K5 b9=>aq [3,4,5,6,7,13,14,15,31,32,33] [905] ?_;refine cy (S:=Nat) (fun j=>j<=E.length) (fun j=>⟨bn [(3,.d (.sl none (E.map fun x=>[.v (.int .i64 x)]))),(4,.own 905 0 k),(5,int k),(6,.d (.ip [.v (.string (bs nm)),.v (.int .i64 kd),.v (.int .i64 ct)])),(7,int (if kd=1/\(k:Int)∈E.take j then 2 else v0)),(13,.d (.sl none NN)),(14,int NN.length),(15,int k),(31,.d (.sl none (E.map fun x=>[.v (.int .i64 x)]))),(32,int E.length),(33,int j)],aw [(905,.sl 3 1 (PT.map fun x=>[.v (.int .i64 x)]))]⟩) (fun j=>E.length - j) 0 ?_ aa ?_
    .refine cI
    .intro j hj;generalize B0:(if kd=1/\(k:Int)∈E.take j then 2 else v0)=vj;refine aq [3,4,5,6,7,13,14,15,31,32,33,34] [905] ?_;refine ag fun K6 eH=>eE (b:=j < E.length) (by simp[D.le,D.le.go,aL]) (fun hc=>?_) (fun hc=>?_)
     .refine ar (eH _ (ag fun K7 eL=>bd ?_));have dK:E.take (j+1)=E.take j ++ [E[j]]:=agB hc;have qf:=@hc;refine ay [3,4,5,6,7,9,13,14,15,31,32,33] [905] ?_
      have ng:(k:Int)∈E.take (j+1)↔(k:Int)∈E.take j\/(k:Int)=E[j]:=by rw[dK,agN,ahc]
      by_cases kM:(k:Int)=E[j]
      .have NP:=eq_true kM;by_cases k1:kd=1
       .have k11:=eq_true k1;have qf:=(Aq @NP @k11);refine ay [3,4,5,6,7,13,14,15,31,32,33,44] [905] ?_;refine aI (gH trivial eL [3,4,5,6,7,13,14,15,31,32,33] [905] ?_);refine c6 ?_;(try simp only[aT,aV]);refine ba.mk (j+1) aa aa ?_;rw[if_pos ⟨k1,ng.2 (.inr kM)⟩];refine cI
       .have qf:=(Aq @NP @k1);refine ay [3,4,5,6,7,13,14,15,31,32,33,44] [905] ?_;refine cw (by simp[k1]) (ar (eL _ ?_));refine c6 ?_;(try simp only[aT,aV]);refine ba.mk (j+1) aa aa ?_;rw[if_neg (fun h=>k1 h.1)]at B0;rw[if_neg (fun h=>k1 h.1),B0];refine cI
      .have qf:=@kM;refine ay [3,4,5,6,7,13,14,15,31,32,33,44] [905] ?_;refine cw (by simp[kM]) (ar (eL _ ?_));refine c6 ?_;(try simp only[aT,aV]);refine ba.mk (j+1) aa aa ?_;have sf:(kd=1/\(k:Int)∈E.take (j+1))=(kd=1/\(k:Int)∈E.take j):=propext (and_congr_right fun _=>ng.trans (or_iff_left kM));simp only[sf,B0];refine cI
     .obtain rfl:j=E.length:=aa
      rw[sh (agD _)]at B0;refine bW (b9 _ (eU (aB _) fun K' ao=>?_));(repeat refine aM fun Kq af=>?_;simp[pb,sh];(repeat refine⟨aa,?_⟩);refine af _ ?_);refine bK (ao _ ?_);refine aU _ (AW.norm [3,4,13,14,15] [905] aN (AW.st (by simp[pb,sh];rfl) ?_));refine c6 ?_;(try simp only[aT,aV]);refine ba.mk (k+1) aa aa ?_
      have uZ:vj=if 3<=kd then ct+1 else if kd=2 then 2 else if kd=1/\ev=true then 2 else 0:=by
       rw[<- B0,hC];by_cases k3:3<=kd
       .rw[if_neg aa,if_pos k3,if_pos k3]
       .by_cases k2:kd=2
        .rw[if_neg aa,if_neg k3,if_pos k2,if_neg k3,if_pos k2]
        .rw[if_neg k3,if_neg k2,if_neg k3,if_neg k2];simp only[YA]
      rw[EA,<- uZ];refine cI
   by_cases k3:3<=kd
   .rw[if_pos k3]at hC;subst hC;have jf:kd >= 3:=k3;have qf:=@jf;refine ay [3,4,5,6,7,13,14,15,20] [905] ?_;refine cm (by simp<;>omega) ?_;refine eU (aB _) fun K' ao=>?_;(repeat refine aM fun Kq af=>?_;simp;(repeat refine⟨aa,?_⟩);refine af _ ?_);refine bK (ao _ ?_);exact tl _ ak
   .have jf:¬ kd >= 3:=k3;rw[if_neg k3]at hC;have qf:=@jf;refine ay [3,4,5,6,7,13,14,15,20] [905] ?_;refine cw (by simp<;>omega) ?_;by_cases k2:kd=2
    .rw[if_pos k2]at hC;subst hC;have k22:=eq_true k2;have qf:=@k22;refine ay [3,4,5,6,7,13,14,15,27] [905] ?_;refine cm (by simp[k2]) (eU (aB _) fun K' ao=>?_);(repeat refine aM fun Kq af=>?_;simp;(repeat refine⟨aa,?_⟩);refine af _ ?_);refine bK (ao _ ?_);exact tl _ ak
    .rw[if_neg k2]at hC;subst hC;have qf:=@k2;refine ay [3,4,5,6,7,13,14,15,27] [905] ?_;refine cw (by simp[k2]) (ar (tl _ ak))
  .have nR:¬ (k:Int) < (NN.length:Int):=aa
   obtain rfl:k=p.names.length:=aa
   have Hk:PT=RP:=by rw[<- XI];exact sh aa
   subst Hk;refine cw (by simp<;>omega) ?_;refine bW (aF _ (AW.imp (aK.freeze 905 trivial) ?_));refine AW.st (by simp[pb,sh];rfl) ?_;refine aq [2] [] ?_;exact gw
