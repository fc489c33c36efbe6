/- Parts. -/
import Derived.Test.YtobejfcgcfdpfaaGreatDoorPc45
set_option linter.unusedSimpArgs false
set_option linter.unusedVariables false
set_option maxHeartbeats 32000000
set_option maxRecDepth 100000
open Go.Proofs.Tryz
namespace Go.Proofs.YtobejfcgcfdpfaaGreatDoor
open Go.Av
theorem adO (G:aB) (hM:ky G) (p:aM) (hl:p.names.length < 2^62) (e:Ex) (hb:bE e<=2^28):aD prog G 9 [eB p,.sl none [[dR e]]] (.v (.bool (!nO p e))):=by
 have fL:=Wv G hM e hb;have mf:=fun s=>PR G p hl s;have oT:=Om hb
 have adm:∀ j (h:j < (ey true e).length),b7 p (ey true e)[j] < 0->nO p e=true:=fun j h h2=>by
  unfold nO;exact anr.2 ⟨_,By h,by simpa using h2⟩
 have ji:(∀ j (h:j < (ey true e).length),¬ b7 p (ey true e)[j] < 0)->nO p e=false:=fun h=>by
  unfold nO;refine anX.2 fun s hs=>?_;obtain⟨j,hj,rfl⟩:=amz.1 hs;simpa using h j hj
 obtain⟨cr,hR⟩:=uj e;simp only[hR,eB,fF,ck,dS]at fL mf ⊢;generalize nO p e=BD at *;generalize ey true e=NS at *;generalize p.names.map bw=NN at *;generalize p.aC.map ez=RR at *;generalize b7 p=NU at *;refine aD.aO (ay _) func9 rfl rfl (rs:=[.tmp 4]) results9 (by simp[ntmps9]) fun X=>?_;simp only[ntmps9,List.map];refine ar [1,2] [2] ?_;refine gu 2 ?_;refine ag fun K1 aF=>ar [1,2,5] [] ?_;refine ch (S:=Nat) (fun i=>i<=1/\(i=1->BD=false)) (fun i=>⟨bg [(1,.d (.sl none [[.ip cr]])),(2,.d (.ip [.sl none NN,.sl none RR])),(5,int i)],aw []⟩) (fun i=>1 - i) 0 ?_ aa ?_
 .refine cg
 .rintro i ⟨hi,hB⟩;refine ag fun K2 au=>ar [1,2,5,11] [] ?_;by_cases h1:i < 1
  .obtain rfl:i=0:=aa
   refine bR (by simp<;>omega) ?_;refine aq (au _ (ag fun K3 aX=>bf (bh trivial fL [1,2,5,6,7] [] ?_)));refine ch (S:=Nat) (fun j=>j<=NS.length/\∀ k (h:k < NS.length),k < j->¬ NU NS[k] < 0) (fun j=>⟨bg [(1,.d (.sl none [[.ip cr]])),(2,.d (.ip [.sl none NN,.sl none RR])),(5,int 0),(6,int j),(7,.d (.sl none (NS.map fun s=>[.v (.string (bs s))])))],aw []⟩) (fun j=>NS.length - j) 0 ?_ ⟨aa,fun k _ h=>aa⟩ ?_
   .refine cg
   .rintro j ⟨hj,hJ⟩;refine ag fun K4 b6=>ar [1,2,5,6,7,22] [] ?_;by_cases mb:j < NS.length
    .refine bR (by simp<;>omega) ?_;refine aq (b6 _ (ag fun K5 b5=>bf ?_));have HO:=mf NS[j];have adn:=adm j mb;by_cases hz:NU NS[j] < 0
     .obtain rfl:=adn hz;generalize NU NS[j]=z at *;have qf:=(Aq @mb @hz);refine u1 HO [1,2,5,6,7,31] [] ?_;refine bR (by simp[hz]) (ar [4] [] ?_);exact fP
     .have hJ2:∀ k (h:k < NS.length),k < j+1->¬ NU NS[k] < 0:=fun k h hk=>by
       by_cases e2:k=j
       .subst e2;exact hz
       .exact hJ k h aa
      generalize NU NS[j]=z at *;have qf:=(Aq @mb @hz);refine u1 HO [1,2,5,6,7,31] [] ?_;refine bU (by simp[hz]) (aq (b5 _ ?_));refine cK ?_;(try simp only[aT,aW]);refine aZ.mk (j+1) ⟨aa,hJ2⟩ aa ?_;refine cg
    .obtain rfl:j=NS.length:=aa
     refine bU ak ?_;refine bL (aX _ (cK ?_));(try simp only[aT,aW]);refine aZ.mk 1 ⟨aa,fun _=>ji fun k h=>hJ k h h⟩ aa ?_;refine cg
  .obtain rfl:i=1:=aa
   obtain rfl:=hB rfl;refine bU ak ?_;refine bL (aF _ (ar [4] [] ?_));exact fP
theorem ahj (G:aB) (x:D):aD prog G 6 [.v (.pointer none),x] (.bz [.sl none [],.cC 40 (.v (.int .i64 7))]):=by
 refine aD.aO (ay _) func6 rfl rfl (rs:=[.tmp 4,.tmp 5]) results6 (by simp[ntmps6]) fun X=>?_;simp only[ntmps6,List.map];refine ar [0,1] [] ?_;refine ag fun K1 aF=>ar [0,1,19] [] ?_;refine aJ (ar [4,5] [] ?_);exact fP
theorem ahk (G:aB) (c:List D):aD prog G 6 [.ip c,.v .nilIface] (.bz [.sl none [],.cC 40 (.v (.int .i64 7))]):=by
 refine aD.aO (ay _) func6 rfl rfl (rs:=[.tmp 4,.tmp 5]) results6 (by simp[ntmps6]) fun X=>?_;simp only[ntmps6,List.map];refine ar [0,1] [] ?_;refine ag fun K1 aF=>ar [0,1,19] [] ?_;refine aJ (ar [4,5] [] ?_);exact fP
theorem ag5 (G:aB) (hF:ve G) (hM:ky G) (hP:ub G) (hG:r7 G) {es er:Value} (hE:vf G es er) (sk:CW G) (so:CX G) (t h:Tx):aD prog G 3 [dS t,dS h] (.v (.bool true)):=by
 have sB:=aeP G hF hM hP hG hE sk so t 60;have bQ:=ah8 G hF h;have sr:=Zi G hG 7;rw[show xl 7=some (7,none) from rfl]at sr;simp only[bG]at sr;simp only[dS,ab]at sB bQ sr ⊢
 cases MP:EZ t 60 with
 | none=>
  rw[MP]at sB;simp only[vw]at sB
  cases kB:Au h with
  | none=>
   rw[kB]at bQ;simp only[s9]at bQ;refine aD.aO (ay _) func3 rfl rfl (rs:=[.tmp 4]) results3 (by simp[ntmps3]) fun X=>?_;simp only[ntmps3,List.map];refine ar [0,1] [] ?_;refine bh trivial sB [1,5,6,7] [] ?_;refine bh trivial bQ [5,6,7,8,9,10] [] ?_;refine ag fun K1 aF=>ar [5,6,8,9,40] [] ?_;refine aJ (ar [4] [] ?_);exact fP
  | some e=>
   rw[kB]at bQ;obtain⟨ta,ca,he⟩:=js e;obtain⟨cr,hR⟩:=uj e;simp only[s9,he,hR]at bQ;refine aD.aO (ay _) func3 rfl rfl (rs:=[.tmp 4]) results3 (by simp[ntmps3]) fun X=>?_;simp only[ntmps3,List.map];refine ar [0,1] [] ?_;refine bh trivial sB [1,5,6,7] [] ?_;refine bh trivial bQ [5,6,7,8,9,10] [] ?_;refine ag fun K1 aF=>ar [5,6,8,9,40] [] ?_;refine aJ (ar [4] [] ?_);exact fP
 | some p=>
  rw[MP]at sB;obtain⟨aV,hk,hi4,Hg,akZ⟩:=aeO MP;have fL:=(gb aV).names
  cases kB:Au h with
  | none=>
   rw[kB]at bQ;simp only[s9]at bQ;have uz:∃ c,nQ p = .ip c:=⟨_,rfl⟩;obtain⟨c,uz⟩:=uz;have tu:∃ c,rr p = .ip c:=⟨_,rfl⟩;obtain⟨cw,tu⟩:=tu;simp only[vw,uz,tu]at sB;refine aD.aO (ay _) func3 rfl rfl (rs:=[.tmp 4]) results3 (by simp[ntmps3]) fun X=>?_;simp only[ntmps3,List.map];refine ar [0,1] [] ?_;refine bh trivial sB [1,5,6,7] [] ?_;refine bh trivial bQ [5,6,7,8,9,10] [] ?_;refine ag fun K1 aF=>ar [5,6,8,9,40] [] ?_;refine aJ (ar [4] [] ?_);exact fP
  | some e=>
   rw[kB]at bQ;obtain⟨e9,hw⟩:=ah7 kB
   have hb:bE e<=2^28:=aa
   have ld:=adO G hM p aa e hb;have p6:=ahj G (dE e);have cW:=zd p e
   have eC:∀ s (h:s < (gW p e).length),(gW p e)[s].length<=64:=fun s h=>by
    rw[DB,xt];exact amP (n:=2) bD (show (bl p).length<=6 by omega)
   have hlen:=rX p;have zO:=fun s (h:s < (gW p e).length)=>akM G (gW p e)[s] (gW p e)[s] (by have:=eC s h;omega)
   have tb:∀ l:List Bool,(l == l)=true:=fun l=>ak
   simp only[tb]at zO;obtain⟨c,uz⟩:∃ c,nQ p = .ip c:=⟨_,rfl⟩;have lU:=ahk G c;obtain⟨ta,ca,he⟩:=js e;obtain⟨cr,hR⟩:=uj e
   cases gg:nO p e with
   | true=>
    have iG:=Rz G p aV e hb gg;have lB:=ZJ G p aV e hb gg;rw[gg]at ld;have tu:∃ a b,rr p = .ip (fF p ++ [a,b,.sl none (eW (aS p))]):=⟨_,_,rfl⟩;obtain⟨a,b,tu⟩:=tu;simp only[vw,s9,he,hR,uz,tu,eB,fF,ck,uh,am7,ang]at sB bQ iG lB ld p6;generalize p.names.map bw=NN at *;generalize p.aC.map ez=RR at *;generalize eW (aS p)=NX at *;clear zO eC tb;refine aD.aO (ay _) func3 rfl rfl (rs:=[.tmp 4]) results3 (by simp[ntmps3]) fun X=>?_;simp only[ntmps3,List.map];refine ar [0,1] [] ?_;refine bh trivial sB [1,5,6,7] [] ?_;refine bh trivial bQ [5,6,7,8,9,10] [] ?_;refine ag fun K1 aF=>ar [5,6,8,9,40] [] ?_;refine al (aq (aF _ ?_));refine ag fun K2 au=>ar [5,6,8,9,46] [] ?_;refine al (aq (au _ ?_));refine bh trivial iG [5,6,8,9,11,12] [] ?_;refine bh trivial lB [5,6,8,9,11,12,13,14,15] [] ?_;refine bh trivial p6 [5,6,9,11,12,13,14,15,17] [] ?_;refine bh trivial lU [6,9,11,12,13,14,15,17,19] [] ?_;refine ag fun K3 aX=>rg [6,9,11,12,13,14,15,77] [] aQ fun K' ao=>?_;(repeat refine aK fun Kq af=>?_;simp;(repeat refine⟨aa,?_⟩);refine af _ ?_);refine aK fun Kq af=>?_;simp;refine yt (sr) bt (af _ ?_);simp only[aN,du];(repeat refine aK fun Kq af=>?_;simp;(repeat refine⟨aa,?_⟩);refine af _ ?_);refine aK fun Kq af=>?_;simp;refine yt (sr) bt (af _ ?_);simp only[aN,du];(repeat refine aK fun Kq af=>?_;simp;(repeat refine⟨aa,?_⟩);refine af _ ?_);refine bH (ao _ (AW.st bt ?_));refine al (aq (aX _ ?_));refine ag fun K4 b6=>rg [6,9,11,12,13,14,15,85] [] aQ fun K' ao=>?_;(repeat refine aK fun Kq af=>?_;simp;(repeat refine⟨aa,?_⟩);refine af _ ?_);refine aK fun Kq af=>?_;simp;refine cZ.rT (ld) bt (by first | exact D.bC _ | simp[aP,amk,amc,D.le,D.le.go,D.le_refl,D.bC]) (by simp[D.scalar]) ?_;refine af _ ?_;simp only[aN,du];(repeat refine aK fun Kq af=>?_;simp;(repeat refine⟨aa,?_⟩);refine af _ ?_);refine bH (ao _ (AW.st bt ?_));refine aJ (rg [4] [] aQ fun K' ao=>?_)
    (repeat refine aK fun Kq af=>?_;simp;(repeat refine⟨aa,?_⟩);refine af _ ?_);refine aK fun Kq af=>?_;simp;refine yt (sr) bt (af _ ?_);simp only[aN,du];(repeat refine aK fun Kq af=>?_;simp;(repeat refine⟨aa,?_⟩);refine af _ ?_);refine aK fun Kq af=>?_;simp;refine yt (sr) bt (af _ ?_);simp only[aN,du];(repeat refine aK fun Kq af=>?_;simp;(repeat refine⟨aa,?_⟩);refine af _ ?_);refine bH (ao _ (AW.st bt ?_));exact fP
   | false=>
    have iG:=RB G p aV hk aa Hg e hw hb gg;have lB:=ZK G p aV hk aa Hg e hw hb gg;have TS:=X0 G hM p aV hk aa Hg e hw hb gg;have TR:=adI G hM p aV hk aa Hg e hw hb gg;have M8:=fun k1 k2=>aeL G k1 k2 (mF p e) (mF p e)
    have cH:(mF p e).length < 2^63:=by
     by_cases hc:mF p e=[]
     .rw[hc];simp
     .have:=(ahC aV (amP (n:=2) bD (show (bl p).length<=6 by omega)) hc).2.2.1;omega
    have ti:∀ l:List Int,(l == l)=true:=fun l=>ak
    simp only[ti]at M8;rw[gg]at ld;have tu:∃ a b,rr p = .ip (fF p ++ [a,b,.sl none (eW (aS p))]):=⟨_,_,rfl⟩;obtain⟨a,b,tu⟩:=tu;simp only[vw,s9,he,hR,uz,tu,eB,fF,ck,y4,ff,am7,ang]at sB bQ iG lB ld p6 TS TR zO
    have rH:(gW p e).length<=4096:=aa
    generalize p.names.map bw=NN at *;generalize p.aC.map ez=RR at *;generalize eW (aS p)=NX at *;generalize gW p e=GD at *;generalize mF p e=CK at *;clear eC cW hlen tb ti;refine aD.aO (ay _) func3 rfl rfl (rs:=[.tmp 4]) results3 (by simp[ntmps3]) fun X=>?_;simp only[ntmps3,List.map];refine ar [0,1] [] ?_;refine bh trivial sB [1,5,6,7] [] ?_;refine bh trivial bQ [5,6,7,8,9,10] [] ?_;refine ag fun K1 aF=>ar [5,6,8,9,40] [] ?_;refine al (aq (aF _ ?_));refine ag fun K2 au=>ar [5,6,8,9,46] [] ?_;refine al (aq (au _ ?_));refine bh trivial iG [5,6,8,9,11,12] [] ?_;refine bh trivial lB [5,6,8,9,11,12,13,14,15] [] ?_;refine bh trivial p6 [5,6,9,11,12,13,14,15,17] [] ?_;refine bh trivial lU [6,9,11,12,13,14,15,17,19] [] ?_;refine ag fun K3 aX=>rg [6,9,11,12,13,14,15,77] [] aQ fun K' ao=>?_;(repeat refine aK fun Kq af=>?_;simp;(repeat refine⟨aa,?_⟩);refine af _ ?_);refine aK fun Kq af=>?_;simp;refine yt (sr) bt (af _ ?_);simp only[aN,du];(repeat refine aK fun Kq af=>?_;simp;(repeat refine⟨aa,?_⟩);refine af _ ?_);refine aK fun Kq af=>?_;simp;refine yt (sr) bt (af _ ?_);simp only[aN,du];(repeat refine aK fun Kq af=>?_;simp;(repeat refine⟨aa,?_⟩);refine af _ ?_);refine bH (ao _ (AW.st bt ?_));refine al (aq (aX _ ?_));refine ag fun K4 b6=>rg [6,9,11,12,13,14,15,85] [] aQ fun K' ao=>?_;(repeat refine aK fun Kq af=>?_;simp;(repeat refine⟨aa,?_⟩);refine af _ ?_);refine aK fun Kq af=>?_;simp;refine cZ.rT (ld) bt (by first | exact D.bC _ | simp[aP,amk,amc,D.le,D.le.go,D.le_refl,D.bC]) (by simp[D.scalar]) ?_;refine af _ ?_;simp only[aN,du];(repeat refine aK fun Kq af=>?_;simp;(repeat refine⟨aa,?_⟩);refine af _ ?_);refine bH (ao _ (AW.st bt ?_));refine al (aq (b6 _ ?_));refine bh trivial TS [6,9,11,12,13,14,15,20] [] ?_;refine ag fun K5 b5=>ar [6,9,11,13,14,20,119] [] ?_;refine bU ak ?_;refine aq (b5 _ (ag fun K6 dy=>ar [6,9,11,13,14,20,21] [] ?_));refine ch (S:=Nat) (fun s=>s<=GD.length) (fun s=>⟨bg [(6,.d (.ip [.sl none NN,.sl none RR,a,b,.sl none NX])),(9,.d (.ip cr)),(11,.d (.sl none (GD.map fun x=>[.sl none (x.map fun b=>[.v (.bool b)])]))),(13,.d (.v (.bool (decide (CK=[]))))),(14,.d (qy CK)),(20,.d (.sl none (GD.map fun x=>[.sl none (x.map fun b=>[.v (.bool b)])]))),(21,int s)],aw []⟩) (fun s=>GD.length - s) 0 ?_ aa ?_
    .refine cg
    .intro s hs;refine ag fun K7 eH=>ar [6,9,11,13,14,20,21,123] [] ?_;by_cases aG:s < GD.length
     .refine bR (by simp<;>omega) ?_;refine aq (eH _ (ag fun K8 eo=>bf ?_));have ac5:=zO s aG;have qf:=@aG;refine u1 ac5 [6,9,11,13,14,20,21,135] [] ?_;refine al (aq (eo _ ?_));refine cK ?_;(try simp only[aT,aW]);refine aZ.mk (s+1) aa aa ?_;refine cg
     .obtain rfl:s=GD.length:=aa
      refine bU ak ?_;refine bL (dy _ (bh trivial TR [13,14,22] [] ?_));by_cases hc:CK=[]
      .have ED:=M8 (some false) (some false) cH;subst hc;simp only[uh,sd,anS]at ED ⊢;refine bh trivial ED [4] [] ?_;exact fP
      .have ED:=M8 (some true) (some true) cH;rw[pU hc,decide_eq_false hc];simp only[sd]at ED;refine bh trivial ED [4] [] ?_;exact fP
end Go.Proofs.YtobejfcgcfdpfaaGreatDoor
namespace Go.Proofs.YtobejfcgcfdpfaaGreatDoor
def acr (t:yV) (d:Nat) (m:Nat->Nat->Nat) (a b i:Nat):Bool:=if d=1 then te t a i != te t b i else m (nx t a i) (nx t b i) == d - 1
def mkM (t:yV) (d:Nat) (m:Nat->Nat->Nat) (a b:Nat):Nat:=if m a b=0 then (if (List.range (wd t)).any (acr t d m a b) then d else 0) else m a b
def Kb (t:yV):Nat->Nat->Nat->Nat
 | 0,_,_=>0
 | d+1,a,b=>mkM t (d+1) (Kb t d) a b
def mid (t:yV) (d a b x y:Nat):Nat:=if x < a\/(x=a/\y < b) then Kb t d x y else Kb t (d - 1) x y
open Go.Av Go.ChangeAt Go.ChangeShapes Go.RowKit Go.WideShapes
theorem ad1:ownKnob prog.godebug=none:=ah
theorem ad0:laidOutB prog=true:=ah
theorem ZH:prog.cellsOf 3=1:=ah
section
variable {H:Type} {enc:TypeId×Value->H} {w:World} {base:Nat} {spare:Nat->Bool} {held:Bool} {X:Nat->Prop}
end
