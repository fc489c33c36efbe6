/- Parts. -/
import Derived.Test.YtobejfcgcfdpfaaGreatDoorPc44
set_option linter.unusedSectionVars false
set_option linter.unusedSimpArgs false
set_option linter.unusedVariables false
set_option maxHeartbeats 32000000
set_option maxRecDepth 100000
open Go.Proofs.Tryz
namespace Go.Proofs.YtobejfcgcfdpfaaGreatDoor
open Go.Av
theorem Ut (G:aB) (b:Bool) (l:List Bool) (hl:l.length < 2^60):aD prog G 30 [.sl none (l.map fun b=>[.v (.bool b)]),.v (.bool b)] (.v (.int .i64 (idx (fun x=>b == x) l))):=by
 refine aD.aO (ay _) func30 rfl rfl (rs:=[.tmp 4]) results30 (by simp[ntmps30]) fun X=>?_;simp only[ntmps30,List.map];refine ar [0,1] [] ?_;refine ag fun K1 aF=>ar [0,1,7,8] [] ?_;refine ch (S:=Nat) (fun n=>n<=l.length/\∀ i (hi:i < l.length),i < n->(b == l[i])=false) (fun n=>⟨bg [(0,.d (.sl none (l.map fun b=>[.v (.bool b)]))),(1,.d (.v (.bool b))),(7,int l.length),(8,int n)],aw []⟩) (fun n=>l.length - n) 0 ?_ ak ?_
 .refine cg
 .rintro n ⟨hn,hp⟩;refine ar [0,1,7,8,9] [] ?_;refine ag fun K2 au=>eY (b:=n < l.length) (by simp[D.le,D.le.go,aP]) (fun hc=>?_) (fun hc=>?_)
  .refine aq (au _ (ag fun K3 aX=>bf (ar [0,1,5,7,8] [] ?_)));generalize hx:l[n]=x at *;have qf:=(Aq @hc @hx);refine ax [0,1,5,7,8,16] [] ?_;refine r5 (b == x) ak (fun he=>?_) (fun he=>?_)
   .refine ar [4] [] ?_;refine bW ?_;simp[D.le,D.le.go,aP];exact (uN (p:=fun x=>b == x) hc (by rw[hx];exact he) fun i hi=>hp i aa hi).symm
   .refine aq (aX _ (cK ?_));(try simp only[aT,aW]);refine aZ.mk (n+1) ⟨aa,fun i hi aR=>?_⟩ aa ?_
    .by_cases h:i=n
     .subst h;rw[hx];exact he
     .exact hp i hi aa
    refine cg
  .refine bL (aF _ (ar [4] [] ?_));refine bW ?_;simp[D.le,D.le.go,aP];exact (uO (p:=fun x=>b == x) fun i hi=>hp i hi aa).symm
theorem adH (G:aB) (b:Bool) (l:List Bool) (hl:l.length < 2^60):aD prog G 29 [.sl none (l.map fun b=>[.v (.bool b)]),.v (.bool b)] (.v (.bool (decide (0<=idx (fun x=>b == x) l)))):=by
 refine aD.aO (ay _) func29 rfl rfl (rs:=[.tmp 4]) results29 (by simp[ntmps29]) fun X=>?_;simp only[ntmps29,List.map];refine ar [0,1] [] ?_;refine bh trivial (Ut G b l hl) [4] [] ?_;exact fP
theorem Ve (G:aB) (a:Int):aD prog G 119 [.v (.int .i64 a)] (.v (.bool false)):=by
 refine aD.aO (ay _) func119 rfl rfl (rs:=[.tmp 2]) results119 (by simp[ntmps119]) fun X=>?_;simp only[ntmps119,List.map];refine ar [0] [] ?_;refine ar [2] [] ?_;exact fP
theorem ZS (G:aB) (a b:Int):aD prog G 78 [.v (.int .i64 a),.v (.int .i64 b)] (.v (.int .i64 (if a < b then -1 else if b < a then 1 else 0))):=by
 have ha:=Ve G a;have hb:=Ve G b;refine aD.aO (ay _) func78 rfl rfl (rs:=[.tmp 4]) results78 (by simp[ntmps78]) fun X=>?_;simp only[ntmps78,List.map];refine ar [0,1] [] ?_;refine bh trivial ha [0,1,5] [] ?_;refine bh trivial hb [0,1,5,6] [] ?_;refine ag fun K1 aF=>ar [0,1,6,11] [] ?_;refine al (aq (aF _ ?_));refine ag fun K3 aX=>ar [0,1,13] [] ?_;refine al (aq (aX _ ?_));refine ag fun K4 b6=>ar [0,1,16] [] ?_;refine eY (b:=a < b) (by simp[D.le,D.le.go,aP]) (fun hc=>?_) (fun hc=>?_)
 .refine ar [4] [] ?_;exact aY @hc
 .refine aq (b6 _ ?_);have eU:=hc;refine ag fun K5 b5=>ar [19] [] ?_;refine eY (b:=b < a) (by simp[D.le,D.le.go,aP]) (fun hc=>?_) (fun hc=>?_)
  .refine ar [4] [] ?_;exact aY (Aq @hc @eU)
  .refine aq (b5 _ (ar [4] [] ?_));exact aY (Aq @hc @eU)
theorem ZP {l m:List Int} {n:Nat} (h1:n < l.length) (h2:n < m.length):lP (l.drop n) (m.drop n)=if l[n] < m[n] then -1 else if m[n] < l[n] then 1 else lP (l.drop (n+1)) (m.drop (n+1)):=by
 rw[amu h1,amu h2,lP]
theorem ZQ {l m:List Int} {n:Nat} (h1:n < l.length) (h2:¬ n < m.length):lP (l.drop n) (m.drop n)=1:=by
 rw[amu h1,show m.drop n=[] from amH aa,lP]
theorem ZR {l m:List Int} {n:Nat} (h1:¬ n < l.length):lP (l.drop n) (m.drop n)=if n < m.length then -1 else 0:=by
 rw[amH aa];by_cases h:n < m.length
 .rw[amu h,lP,if_pos h]
 .rw[amH aa,lP,if_neg h]
theorem ZT (G:aB) (k1 k2:Option Bool) (l m:List Int) (hl:l.length < 2^60) (hm:m.length < 2^60):aD prog G 32 [.sl k1 (l.map fun n=>[.v (.int .i64 n)]),.sl k2 (m.map fun n=>[.v (.int .i64 n)])] (.v (.int .i64 (lP l m))):=by
 have BJ:=ZS G;refine aD.aO (ay _) func32 rfl rfl (rs:=[.tmp 4]) results32 (by simp[ntmps32]) fun X=>?_;simp only[ntmps32,List.map];refine ar [0,1] [] ?_;refine ag fun K1 aF=>ar [0,1,9,10,11] [] ?_;refine ch (S:=Nat) (fun n=>n<=l.length/\lP (l.drop n) (m.drop n)=lP l m/\n<=m.length) (fun n=>⟨bg [(0,.d (.sl k1 (l.map fun n=>[.v (.int .i64 n)]))),(1,.d (.sl k2 (m.map fun n=>[.v (.int .i64 n)]))),(9,.d (.sl k1 (l.map fun n=>[.v (.int .i64 n)]))),(10,int l.length),(11,int n)],aw []⟩) (fun n=>l.length - n) 0 ?_ ak ?_
 .refine cg
 .rintro n ⟨hn,hp,fL⟩;refine ar [0,1,9,10,11,12] [] ?_;refine ag fun K2 au=>eY (b:=n < l.length) (by simp[D.le,D.le.go,aP]) (fun hc=>?_) (fun hc=>?_)
  .have od:=hc;refine aq (au _ (ag fun K3 aX=>bf ?_));have qf:=@od;refine ax [0,1,5,6,9,10,11] [] ?_;refine ag fun K4 b6=>?_;by_cases HM:n < m.length
   .have MO:¬ (n:Int) >= (m.length:Int):=aa
    rw[ZP od HM]at hp;generalize hx:l[n]=x at *;generalize hy:m[n]=y at *;have vT:=BJ x y;have qf:=@MO;refine ax [0,1,5,6,9,10,11,19] [] ?_;refine bU (by simp<;>omega) ?_;refine aq (b6 _ ?_);have qf:=(Aq @HM @hy);refine ax [0,1,6,7,9,10,11] [] ?_;by_cases h1:x < y
    .rw[if_pos h1]at hp vT;refine bh trivial vT [0,1,8,9,10,11] [] ?_;refine ar [0,1,8,9,10,11,28] [] ?_;refine aJ (ar [4] [] ?_);exact aY @hp
    .rw[if_neg h1]at hp vT;by_cases h2:y < x
     .rw[if_pos h2]at hp vT;refine bh trivial vT [0,1,8,9,10,11] [] ?_;refine ar [0,1,8,9,10,11,28] [] ?_;refine aJ (ar [4] [] ?_);exact aY @hp
     .rw[if_neg h2]at hp vT;refine bh trivial vT [0,1,8,9,10,11] [] ?_;refine ar [0,1,8,9,10,11,28] [] ?_;refine al (aq (aX _ ?_));refine cK ?_;(try simp only[aT,aW]);refine aZ.mk (n+1) ⟨aa,hp,aa⟩ aa ?_;refine cg
   .have MO:(n:Int) >= (m.length:Int):=aa
    rw[ZQ od HM]at hp;have qf:=@MO;refine ax [0,1,5,6,9,10,11,19] [] ?_;refine bR (by simp<;>omega) ?_;refine ar [4] [] ?_;exact aY @hp
  .rw[ZR hc]at hp
   obtain rfl:n=l.length:=aa
   refine bL (aF _ (ag fun K5 b5=>ar [35] [] ?_));refine eY (b:=l.length < m.length) (by simp[D.le,D.le.go,aP]) (fun hc=>?_) (fun hc=>?_)
   .rw[if_pos hc]at hp;refine ar [4] [] ?_;exact aY @hp
   .rw[if_neg hc]at hp;refine aq (b5 _ (ar [4] [] ?_));exact aY @hp
theorem VN (G:aB) (p:aM) (hp:p.names.length < 2^62) (s:List UInt8):aD prog G 22 [dS s,.ip (fe p)] (.v (.bool (decide (b7 p s < 0)))):=by
 have hi:=wH G p hp s;simp only[fH,fe,ck,eZ,dS]at hi ⊢;refine aD.aO (ay _) func22 rfl rfl (rs:=[.tmp 3]) results22 (by simp[ntmps22]) fun X=>?_;simp only[ntmps22,List.map];refine ar [0,1] [] ?_;refine bh trivial hi [3] [] ?_;exact fP
def Dm (p:aM) (l:List Bool):D:=.fn (.func 72) [.ip [ff l],.ip (fe p)]
theorem afJ (G:aB) (p:aM) (l:List Bool):aD prog G 27 [fH p,ff l] (Dm p l):=by
 simp only[fH,fe,ck,eZ,ff,Dm];generalize p.names.map bw=NN;generalize p.aC.map de=RR;generalize (l.map fun b=>[D.v (.bool b)])=L;refine aD.aO (ay _) func27 rfl rfl (rs:=[.tmp 4]) results27 (by simp[ntmps27]) fun X=>?_;simp only[ntmps27,List.map];refine ar [2,3] [2,3] ?_;refine ar [4] [2,3] ?_;exact fP
theorem VJ (G:aB) (p:aM) (hp:p.names.length < 2^62) (L:List Bool) (hl:L.length=p.names.length):pP (fun nm=>¬ b7 p nm < 0) G 72 [.ip [ff L],.ip (fe p)] (ga p L):=by
 intro nm hn;have cy:=wH G p hp nm;obtain⟨h1,h2⟩:=IV hn
 have hi:(b7 p nm).toNat < L.length:=aa
 have qD:ga p L nm=L[(b7 p nm).toNat]:=by unfold ga;exact dw hi
 rw[qD];rw[h2]at cy;clear h1 h2 qD hn;simp only[fH,fe,ck,eZ,dS]at cy;simp only[ff,fe,ck,eZ];generalize gR:(b7 p nm).toNat=i at cy hi ⊢;clear gR hl hp;generalize p.names.map bw=NN at cy ⊢;generalize p.aC.map de=RR at cy ⊢;refine aD.aO (ay _) func72 rfl rfl (rs:=[.tmp 4]) results72 (by simp[ntmps72]) fun X=>?_;simp only[ntmps72,List.map];have fw:=@an9;refine ae fw [0,1,2] [] ?_;have qf:=(Aq fw @hi);refine u1 cy [4] [] ?_;exact aY fw
theorem Qu {p:aM} {e:Ex} (hw:gF e) (h:nO p e=false):jr (fun nm=>¬ b7 p nm < 0) (fun nm=>¬ b7 p nm < 0) e:=by
 have aR:∀ s∈ey true e,¬ b7 p s < 0:=fun s hs=>by
  unfold nO at h;rw[anX]at h;have:=h s hs;simpa using this
 exact Qq hw (fun s hs=>aR s (Aj.2 hs)) (fun s hs=>aR s (On (Aj.2 hs)))
theorem Om {e:Ex} (hb:bE e<=2^28):(ey true e).length<=2^28:=by
 have h1:=Lib.compact_length_le (oD (dH true e));have h2:=tW (dH true e);have h3:=x8 true e;unfold ey;omega
theorem ahi (G:aB) {p:aM} (aV:cO p=none) {e:Ex} (hw:gF e) (hb:bE e<=2^28) (gg:nO p e=false) (s i:Nat):aD prog G 26 [dE e,Dm p (oP p (jb p s) (dL (i:Int) (bl p).length)).is,Dm p (jb p s).is] (.v (.bool (uq p e s i))):=by
 have fL:=(gb aV).names;have hs:=u3 aV (s:Int);have hd:=(Gv aV hs (dL (i:Int) (bl p).length)).1;exact Ri G _ _ _ _ _ _ _ _ (VJ G p aa _ hd.l1) (VJ G p aa _ hs.l1) e (Qu hw gg) hb
theorem Rz (G:aB) (p:aM) (aV:cO p=none) (e:Ex) (hb:bE e<=2^28) (gg:nO p e=true):aD prog G 6 [nQ p,dE e] (.bz [.sl none [],.cC 40 (.v (.int .i64 7))]):=by
 have fL:=(gb aV).names;have En:=Ol G e hb;have lC:=KC G none (ey true e) 22 [.ip (fe p)] (fun s=>decide (b7 p s < 0)) (by have:=Om hb;omega) (fun s _=>VN G p aa s);unfold nO at gg;rw[gg]at lC;obtain⟨ta,ca,he⟩:=js e;simp only[he,nQ,pV,sc,fH,fe,ck,eZ,oO,gd,ab,dS]at En lC ⊢;generalize ((ey true e).map fun s=>[D.v (.string (bs s))])=NS at *;generalize eW (aS p)=NX at *;generalize bT (bF p)=PP at *;generalize fS p=NI at *;generalize ((bl p).map fun n=>[D.v (.int .i64 n)])=IN at *;generalize (bF p).map jc=PT at *;generalize p.names.map bw=NN at *;generalize p.aC.map de=RR at *;refine aD.aO (ay _) func6 rfl rfl (rs:=[.tmp 4,.tmp 5]) results6 (by simp[ntmps6]) fun X=>?_;simp only[ntmps6,List.map];have fw:=@an9;refine ae fw [0,1] [] ?_;refine ag fun K1 aF=>ae fw [0,1,19] [] ?_;refine al (aq (aF _ ?_));refine ae fw [0,1,6] [6] ?_;refine dZ fw 6 ?_;refine ag fun K2 au=>rg [0,1,6,28] [] aQ fun K' ao=>?_;(repeat refine aK fun Kq af=>?_;simp[dS];(repeat refine⟨aa,?_⟩);refine af _ ?_);refine aK fun Kq af=>?_;simp[dS];refine cZ.data (En) bt (by first | exact D.bC _ | simp[aP,amk,amc,D.le,D.le.go,D.le_refl,D.bC,dS]) ?_;refine af _ ?_;simp only[aN,du];(repeat refine aK fun Kq af=>?_;simp[dS];(repeat refine⟨aa,?_⟩);refine af _ ?_);refine aK fun Kq af=>?_;simp[dS];refine cZ.data (lC) bt (by first | exact D.bC _ | simp[aP,amk,amc,D.le,D.le.go,D.le_refl,D.bC,dS]) ?_;refine af _ ?_;simp only[aN,du];(repeat refine aK fun Kq af=>?_;simp[dS];(repeat refine⟨aa,?_⟩);refine af _ ?_);refine bH (ao _ (AW.st (by simp[dS];rfl) ?_));refine aJ (ae fw [4,5] [] ?_);exact aY fw
theorem Rx {p:aM} {e:Ex} {s:Nat} (h:s < (aS p).length):(gW p e).take (s+1)=(gW p e).take s ++ [nS p e s]:=by
 have h2:s < (gW p e).length:=by rw[zd];exact h
 rw[aml h2,DB]
theorem Ry {p:aM} {e:Ex} {s i:Nat} (h:i < fS p):(nS p e s).take (i+1)=(nS p e s).take i ++ [uq p e s i]:=by
 have h2:i < (nS p e s).length:=by rw[xt];exact h
 rw[aml h2,Ld]
theorem RB (G:aB) (p:aM) (aV:cO p=none) (hk:∀ r∈p.aC,mZ r) (lE:(bl p).length<=6) (hP:bT (bF p)<=4096) (e:Ex) (hw:gF e) (hb:bE e<=2^28) (gg:nO p e=false):aD prog G 6 [nQ p,dE e] (.bz [y4 (gW p e),.v .nilIface]):=by
 have fL:=(gb aV).names;have En:=Ol G e hb;have lC:=KC G none (ey true e) 22 [.ip (fe p)] (fun s=>decide (b7 p s < 0)) (by have:=Om hb;omega) (fun s _=>VN G p aa s);have bd:=fun s i=>ahi G aV hw hb gg s i;have M7:=fun (s i:Nat) (h1:(s:Int) < bT (bF p)) (h2:i < fS p)=>aiX G p aV hk s i hP h1 h2;have dW:=fun (s:Nat) (h1:(s:Int) < bT (bF p))=>U3 G p aV (bT (bF p)) ((fS p:Nat):Int) (eW (aS p)) s aa aa;have dz:=fun l=>afJ G p l;have Mn:=fun s (h:s < (aS p).length)=>Rx (e:=e) h;have tL:=fun s i (h:i < fS p)=>Ry (e:=e) (s:=s) h;have cW:=zd p e;have eC:=fun s=>xt p e s;have abo:fS p<=64:=amP (n:=2) bD lE;have hlen:=rX p;have om:0 < bT (bF p):=o4 fun x hx=>(nJ (gb aV) hx).m2
 have hcast:((aS p).length:Int)=bT (bF p):=by rw[hlen];omega
 have rH:(aS p).length<=4096:=aa
 unfold nO at gg;rw[gg]at lC;obtain⟨ta,ca,he⟩:=js e;simp only[he,nQ,pV,sc,fH,fe,ck,eZ,oO,gd,ab,dS,y4,ff,Dm,se,pS,<- hcast]at En lC bd M7 dW dz ⊢;clear hlen hcast om hP;generalize ((ey true e).map fun s=>[D.v (.string (bs s))])=NS at *;generalize Lm:gW p e=GD at *;generalize Lo:nS p e=GR at *;clear Lm Lo;generalize eW (aS p)=NX at *;generalize (aS p).length=N at *;obtain⟨IS,R9⟩:∃ IS:Nat->Nat->List Bool,∀ s i:Nat,(oP p (jb p s) (dL (i:Int) (bl p).length)).is=IS s i:=⟨_,fun _ _=>rfl⟩;obtain⟨WS,SD⟩:∃ WS:Nat->List Bool,∀ s:Nat,(jb p s).is=WS s:=⟨_,fun _=>rfl⟩;obtain⟨CS,R3⟩:∃ CS:Nat->List Int,∀ s:Nat,(jb p s).ct=CS s:=⟨_,fun _=>rfl⟩;obtain⟨EV,DD⟩:∃ EV:Nat->Nat->Bool,∀ s i:Nat,uq p e s i=EV s i:=⟨_,fun _ _=>rfl⟩;simp only[R9,SD,R3,DD]at bd M7 dW tL;clear R9 SD R3 DD;generalize fS p=NI at *;generalize ((bl p).map fun n=>[D.v (.int .i64 n)])=IN at *;generalize (bF p).map jc=PT at *;generalize p.names.map bw=NN at *;generalize p.aC.map de=RR at *;refine aD.aO (ay _) func6 rfl rfl (rs:=[.tmp 4,.tmp 5]) results6 (by simp[ntmps6]) fun X=>?_;simp only[ntmps6,List.map];have fw:=@an9;refine ae fw [0,1] [] ?_;refine ag fun K1 aF=>ae fw [0,1,19] [] ?_;refine al (aq (aF _ ?_));refine ae fw [0,1,6] [6] ?_;refine dZ fw 6 ?_;refine ag fun K2 au=>rg [0,1,6,28] [] aQ fun K' ao=>?_;(repeat refine aK fun Kq af=>?_;simp[dS];(repeat refine⟨aa,?_⟩);refine af _ ?_);refine aK fun Kq af=>?_;simp[dS];refine cZ.data (En) bt (by first | exact D.bC _ | simp[aP,amk,amc,D.le,D.le.go,D.le_refl,D.bC,dS]) ?_;refine af _ ?_;simp only[aN,du];(repeat refine aK fun Kq af=>?_;simp[dS];(repeat refine⟨aa,?_⟩);refine af _ ?_);refine aK fun Kq af=>?_;simp[dS];refine cZ.data (lC) bt (by first | exact D.bC _ | simp[aP,amk,amc,D.le,D.le.go,D.le_refl,D.bC,dS]) ?_;refine af _ ?_;simp only[aN,du];(repeat refine aK fun Kq af=>?_;simp[dS];(repeat refine⟨aa,?_⟩);refine af _ ?_);refine bH (ao _ (AW.st (by simp[dS];rfl) ?_));refine al (aq (au _ ?_));refine ae fw [0,1,6,7] [] ?_;refine ag fun K3 aX=>ae fw [0,1,6,7,33,34] [] ?_;refine ch (S:=Nat) (fun s=>s<=N) (fun s=>⟨bg [(0,.d (.ip [.sl none NN,.sl none RR,.v (.int .i64 N),.v (.int .i64 NI),.sl none NX,.sl none PT,.sl none IN])),(1,.d (.cC ta ca)),(6,.d (.ip [.sl none NN,.sl none RR])),(7,.own 800 0 s),(33,int N),(34,int s)],aw [(800,.sl 51 1 ((GD.take s).map fun x=>[.sl none (x.map fun b=>[.v (.bool b)])]))]⟩) (fun s=>N - s) 0 ?_ aa ?_
 .refine (aL.lO 7 800 51 1 rfl rfl).trans ?_;refine bo fw
 .intro s hs
  have vF:((GD.take s).map fun x=>[D.sl none (x.map fun b=>[D.v (.bool b)])]).length=s:=by simp;omega
  have D7:=Mn s;generalize Lq:GD.take s=GS at vF D7 ⊢;refine ae fw [0,1,6,7,33,34,35] [800] ?_;refine ag fun K4 b6=>?_;by_cases aG:s < N
  .refine bR (by simp<;>omega) ?_;refine aq (b6 _ (ag fun K5 b5=>bf ?_));have EF:=dW s aa;have ac6:=fun i=>M7 s i aa;have v7:=bd s;have tM:=tL s;have Ez:=eC s;have Mo:=D7 aG;have abO:=dz (WS s);generalize IS s=Qc at *;generalize WS s=WW at *;generalize CS s=CC at *;generalize EV s=EE at *;generalize GR s=RS at *;refine ae fw [0,1,6,7,8,33,34] [800] ?_;refine bh fw EF [0,1,6,7,8,9,33,34] [800] ?_;refine ae fw [0,1,6,7,8,9,10,33,34] [800] ?_;refine ag fun K6 dy=>ae fw [0,1,6,7,8,9,10,33,34,44,45] [800] ?_;refine ch (S:=Nat) (fun i=>i<=NI) (fun i=>⟨bg [(0,.d (.ip [.sl none NN,.sl none RR,.v (.int .i64 N),.v (.int .i64 NI),.sl none NX,.sl none PT,.sl none IN])),(1,.d (.cC ta ca)),(6,.d (.ip [.sl none NN,.sl none RR])),(7,.own 800 0 s),(8,int s),(9,.d (.sl none (WW.map fun b=>[.v (.bool b)]))),(10,.own 902 0 i),(33,int N),(34,int s),(44,int NI),(45,int i)],aw [(800,.sl 51 1 (GS.map fun x=>[.sl none (x.map fun b=>[.v (.bool b)])])),(902,.sl 4 1 ((RS.take i).map fun b=>[.v (.bool b)]))]⟩) (fun i=>NI - i) 0 ?_ aa ?_
   .refine (aL.lO 10 902 4 1 rfl rfl).trans ?_;refine bo fw
   .intro i hi;have tJ:=tM i
    have c6:((RS.take i).map fun b=>[D.v (.bool b)]).length=i:=by simp;omega
    generalize je:RS.take i=RI at tJ c6 ⊢;refine ae fw [0,1,6,7,8,9,10,33,34,44,45,46] [800,902] ?_;refine ag fun K7 eH=>?_;by_cases dr:i < NI
    .refine bR (by simp<;>omega) ?_;refine aq (eH _ (ag fun K8 eo=>bf ?_));have tK:=tJ dr;have ac7:=ac6 i dr;have Ma:=v7 i;have abP:=dz (Qc i);generalize Qc i=II at *;generalize EE i=ee at *;refine ae fw [0,1,6,7,8,9,10,11,33,34,44,45] [800,902] ?_;refine bh fw ac7 [0,1,6,7,8,9,10,12,13,33,34,44,45] [800,902] ?_;refine ag fun K9 jt=>ae fw [0,1,6,7,8,9,10,12,33,34,44,45,56] [800,902] ?_;refine al (aq (jt _ ?_));refine CU (ay _) ah ([(10,(902,67))]) ([]) (List.range 12) ah fun K' ao=>?_;(repeat refine qZ rfl fun K2 au=>?_;simp[dS,c6,sh];(repeat refine⟨aa,?_⟩);refine au _ ?_;clear au K2);refine qZ rfl fun K2 au=>?_;simp[dS,c6,sh];refine pj.mk (abP) bt bt (by first | exact D.bC _ | simp[aP,amk,amc,D.le,D.le.go,D.le_refl,D.bC,dS,c6,sh]) ak ?_;refine au _ ?_;clear au K2;simp only[aN,du];(repeat refine qZ rfl fun K2 au=>?_;simp[dS,c6,sh];(repeat refine⟨aa,?_⟩);refine au _ ?_;clear au K2);refine qZ rfl fun K2 au=>?_;simp[dS,c6,sh];refine pj.mk (abO) bt bt (by first | exact D.bC _ | simp[aP,amk,amc,D.le,D.le.go,D.le_refl,D.bC,dS,c6,sh]) ak ?_;refine au _ ?_;clear au K2;simp only[aN,du];(repeat refine qZ rfl fun K2 au=>?_;simp[dS,c6,sh];(repeat refine⟨aa,?_⟩);refine au _ ?_;clear au K2);refine qZ rfl fun K2 au=>?_;simp[dS,c6,sh];refine pj.mk (Ma) bt bt (by first | exact D.bC _ | simp[aP,amk,amc,D.le,D.le.go,D.le_refl,D.bC,dS,c6,sh]) ak ?_;refine au _ ?_;clear au K2;simp only[aN,du];(repeat refine qZ rfl fun K2 au=>?_;simp[dS,c6,sh];(repeat refine⟨aa,?_⟩);refine au _ ?_;clear au K2);refine yA (ao _ ?_);refine eo _ (AW.norm [0,1,6,7,8,9,10,33,34,44,45] [800,902] aQ (AW.st (by simp[dS,c6,sh];rfl) ?_));refine cA fw ?_;(try simp only[aT,aW]);refine aZ.mk (i+1) aa aa ?_;rw[tK];refine bo fw
    .obtain rfl:i=NI:=aa
     have tw:RI=RS:=by rw[<- je];exact sh aa
     subst tw;refine bU ak ?_;refine bL (dy _ (AW.imp (aL.freeze 902 trivial) ?_));refine AW.st (by simp[dS,c6,sh];rfl) ?_;refine fD (ay _) fun K' ao=>?_;(repeat refine aK fun Kq af=>?_;simp[dS,vF,sh];(repeat refine⟨aa,?_⟩);refine af _ ?_);refine bH (ao _ ?_);refine b5 _ (AW.norm [0,1,6,7,33,34] [800] aQ (AW.st (by simp[dS,vF,sh];rfl) ?_));refine cA fw ?_;(try simp only[aT,aW]);refine aZ.mk (s+1) aa aa ?_;rw[Mo];refine bo fw
  .obtain rfl:s=N:=aa
   have Lp:GS=GD:=by rw[<- Lq];exact sh aa
   subst Lp;refine bU ak ?_;refine bL (aX _ (AW.imp (aL.freeze 800 trivial) ?_));refine AW.st (by simp[dS,vF,sh];rfl) ?_;refine ae fw [4,5] [] ?_;exact aY fw
theorem wK (x:Bool) (e:List (Value×Value)):D.one (.dm x e)=true:=rfl
theorem aa6 (G:aB) {p:aM} {s:cN} {I C:List (Value×Value)} (h:iO p s I C):pP (fun nm=>¬ b7 p nm < 0) G 41 [.ip [.dm false I,.dm false C]] (ga p s.is):=by
 intro nm hn;rw[<- Jh h nm hn];have hg:=vz (bs nm) I;have hb:=h.bI (bs nm);have gn:=pF h.lK;simp at gn;have bO:=eq_true gn;have mO:=h.lK.once;simp only[dS];generalize bs nm=k at *
 cases hl:ew I k with
 | none=>
  rw[hl]at hg;simp only[an6]at hg;refine aD.aO (ay _) func41 rfl rfl (rs:=[.tmp 3]) results41 (by simp[ntmps41]) fun X=>?_;simp only[ntmps41,List.map];refine ar [0,1] [] ?_;have qf:=(Aq @bO (Aq @mO (Aq @hg aot)));refine ax [3] [] ?_;refine bW ?_;simp[D.le,D.le.go,aP,ue]
 | some v=>
  obtain⟨b,rfl⟩:=hb v hl;rw[hl]at hg;simp only[amI]at hg;refine aD.aO (ay _) func41 rfl rfl (rs:=[.tmp 3]) results41 (by simp[ntmps41]) fun X=>?_;simp only[ntmps41,List.map];refine ar [0,1] [] ?_;have qf:=(Aq @bO (Aq @mO (Aq @hg aot)));refine ax [3] [] ?_;refine bW ?_;simp[D.le,D.le.go,aP,ue]
theorem aa7 (G:aB) {p:aM} {s:cN} {I C:List (Value×Value)} (h:iO p s I C):pP (fun nm=>¬ b7 p nm < 0) G 42 [.ip [.dm false I,.dm false C]] (ga p s.is):=by
 intro nm hn;rw[<- Jh h nm hn];have hg:=vz (bs nm) I;have hb:=h.bI (bs nm);have gn:=pF h.lK;simp at gn;have bO:=eq_true gn;have mO:=h.lK.once;simp only[dS];generalize bs nm=k at *
 cases hl:ew I k with
 | none=>
  rw[hl]at hg;simp only[an6]at hg;refine aD.aO (ay _) func42 rfl rfl (rs:=[.tmp 3]) results42 (by simp[ntmps42]) fun X=>?_;simp only[ntmps42,List.map];refine ar [0,1] [] ?_;have qf:=(Aq @bO (Aq @mO (Aq @hg aot)));refine ax [3] [] ?_;refine bW ?_;simp[D.le,D.le.go,aP,ue]
 | some v=>
  obtain⟨b,rfl⟩:=hb v hl;rw[hl]at hg;simp only[amI]at hg;refine aD.aO (ay _) func42 rfl rfl (rs:=[.tmp 3]) results42 (by simp[ntmps42]) fun X=>?_;simp only[ntmps42,List.map];refine ar [0,1] [] ?_;have qf:=(Aq @bO (Aq @mO (Aq @hg aot)));refine ax [3] [] ?_;refine bW ?_;simp[D.le,D.le.go,aP,ue]
theorem X0 (G:aB) (hM:ky G) (p:aM) (aV:cO p=none) (hk:∀ r∈p.aC,mZ r) (lE:(bl p).length<=6) (hP:bT (bF p)<=4096) (e:Ex) (hw:gF e) (hb:bE e<=2^28) (gg:nO p e=false):aD prog G 10 [rr p,dR e] (y4 (gW p e)):=by
 have sL:=fun (s:Nat) (h1:(s:Int) < bT (bF p))=>akO G hM p aV hk (bT (bF p)) ((fS p:Nat):Int) (eW (aS p)) s aa aa;have abo:fS p<=64:=amP (n:=2) bD lE;have Nr:=fun (i:Nat) (h2:i < fS p)=>akz G p aV (bT (bF p)) ((fS p:Nat):Int) (eW (aS p)) i aa aa lE;have kB:=fun s:Nat=>U0 aV (s:Int) aa;have oV:=fun (s i:Nat)=>WJ G p aV hk (jb p s) (u3 aV s) (dL i (bl p).length) (wE _ _) _ _ (kB s);have nZ:=fun (s i:Nat)=>U2 aV (u3 aV s) (dL i (bl p).length) (m:=((lJ p s p.names.length).2.1,(lJ p s p.names.length).2.2)) (kB s);have bd:∀ s i:Nat,aD _ _ _ _ (.v (.bool (uq p e s i))):=fun s i=>Wc G 41 42 _ _ _ _ _ _ (aa6 G (nZ s i)) (aa7 G (kB s)) e (Qu hw gg) hw hb;have Mn:=fun s (h:s < (aS p).length)=>Rx (e:=e) h;have tL:=fun s i (h:i < fS p)=>Ry (e:=e) (s:=s) h;have cW:=zd p e;have eC:=fun s=>xt p e s;have hlen:=rX p;have om:0 < bT (bF p):=o4 fun x hx=>(nJ (gb aV) hx).m2
 have hcast:((aS p).length:Int)=bT (bF p):=by rw[hlen];omega
 have rH:(aS p).length<=4096:=aa
 simp only[rr,rq,ug,xc,eB,fF,ck,ab,ff,y4,<- hcast]at sL Nr oV bd ⊢;clear hlen hcast om hP;generalize Lm:gW p e=GD at *;generalize Lo:nS p e=GR at *;clear Lm Lo nZ kB;generalize eW (aS p)=NX at *;generalize (aS p).length=N at *;obtain⟨C4,Sq⟩:∃ C4:Nat->List (Value×Value),∀ s:Nat,(lJ p s p.names.length).2.1=C4 s:=⟨_,fun _=>rfl⟩;obtain⟨C5,Sp⟩:∃ C5:Nat->List (Value×Value),∀ s:Nat,(lJ p s p.names.length).2.2=C5 s:=⟨_,fun _=>rfl⟩;simp only[Sq,Sp]at sL oV bd;obtain⟨TI,Sw⟩:∃ TI:Nat->Nat->List (Value×Value),∀ s i:Nat,(x7 p (jb p s) (dL i (bl p).length) (C4 s,C5 s)).1=TI s i:=⟨_,fun _ _=>rfl⟩;obtain⟨TC,Sv⟩:∃ TC:Nat->Nat->List (Value×Value),∀ s i:Nat,(x7 p (jb p s) (dL i (bl p).length) (C4 s,C5 s)).2=TC s i:=⟨_,fun _ _=>rfl⟩;obtain⟨EV,DD⟩:∃ EV:Nat->Nat->Bool,∀ s i:Nat,uq p e s i=EV s i:=⟨_,fun _ _=>rfl⟩;simp only[Sw,Sv,DD]at oV bd tL;clear Sq Sp Sw Sv DD;obtain⟨BI,RT⟩:∃ BI:Nat->List Bool,∀ i:Nat,dL i (bl p).length=BI i:=⟨_,fun _=>rfl⟩;simp only[RT]at oV Nr;clear RT;generalize fS p=NI at *;generalize p.names.map bw=NN at *;generalize p.aC.map ez=RR at *;refine aD.aO (ay _) func10 rfl rfl (rs:=[.tmp 4]) results10 (by simp[ntmps10]) fun X=>?_;simp only[ntmps10,List.map];refine ar [0,1] [] ?_;refine ar [0,1,5] [] ?_;refine ag fun K1 aF=>ar [0,1,5,14,15] [] ?_;refine ch (S:=Nat) (fun s=>s<=N) (fun s=>⟨bg [(0,.d (.ip [.sl none NN,.sl none RR,.v (.int .i64 N),.v (.int .i64 NI),.sl none NX])),(1,.d (dR e)),(5,.own 800 0 s),(14,int N),(15,int s)],aw [(800,.sl 51 1 ((GD.take s).map fun x=>[.sl none (x.map fun b=>[.v (.bool b)])]))]⟩) (fun s=>N - s) 0 ?_ aa ?_
 .refine (aL.lO 5 800 51 1 rfl rfl).trans ?_;refine cg
 .intro s hs
  have vF:((GD.take s).map fun x=>[D.sl none (x.map fun b=>[D.v (.bool b)])]).length=s:=by simp;omega
  have D7:=Mn s;generalize Lq:GD.take s=GS at vF D7 ⊢;refine ar [0,1,5,14,15,16] [800] ?_;refine ag fun K2 au=>?_;by_cases aG:s < N
  .refine bR (by simp<;>omega) ?_;refine aq (au _ (ag fun K3 aX=>bf ?_));have EK:=sL s aa;have xA:=oV s;have v7:=bd s;have tM:=tL s;have Ez:=eC s;have Mo:=D7 aG;generalize C4 s=I1 at *;generalize C5 s=C1 at *;generalize TI s=YC at *;generalize TC s=YB at *;generalize EV s=EE at *;generalize GR s=RS at *;refine ar [0,1,5,6,14,15] [800] ?_;have qf:=@wK;refine eF EK [0,1,5,7,14,15] [7,800] ?_;refine gu 7 ?_;refine ar [0,1,5,7,8,14,15] [800] ?_;refine ag fun K4 b6=>ar [0,1,5,7,8,14,15,24,25] [800] ?_;refine ch (S:=Nat) (fun i=>i<=NI) (fun i=>⟨bg [(0,.d (.ip [.sl none NN,.sl none RR,.v (.int .i64 N),.v (.int .i64 NI),.sl none NX])),(1,.d (dR e)),(5,.own 800 0 s),(7,.d (.ip [.dm false I1,.dm false C1])),(8,.own 902 0 i),(14,int N),(15,int s),(24,int NI),(25,int i)],aw [(800,.sl 51 1 (GS.map fun x=>[.sl none (x.map fun b=>[.v (.bool b)])])),(902,.sl 4 1 ((RS.take i).map fun b=>[.v (.bool b)]))]⟩) (fun i=>NI - i) 0 ?_ aa ?_
   .refine (aL.lO 8 902 4 1 rfl rfl).trans ?_;refine cg
   .intro i hi;have tJ:=tM i
    have c6:((RS.take i).map fun b=>[D.v (.bool b)]).length=i:=by simp;omega
    generalize je:RS.take i=RI at tJ c6 ⊢;refine ar [0,1,5,7,8,14,15,24,25,26] [800,902] ?_;refine ag fun K5 b5=>?_;by_cases dr:i < NI
    .refine bR (by simp<;>omega) ?_;refine aq (b5 _ (ag fun K6 dy=>bf ?_));have tK:=tJ dr;have adl:=Nr i dr;have tF:=xA i;have Ma:=v7 i;generalize YC i=I2 at *;generalize YB i=C2 at *;generalize EE i=ee at *;generalize BI i=bb at *;refine ar [0,1,5,7,8,9,14,15,24,25] [800,902] ?_;refine F0 (ay _) ah ([]) ([(3,999),(4,999),(10,10)]) (List.range 11) [0,1,5,7,8,10,14,15,24,25] [10,800,902] aQ ah fun K' ao=>?_;(repeat refine yz rfl fun K2 au=>?_;simp[wK];(repeat refine⟨aa,?_⟩);refine au _ ?_;clear au K2);refine yz rfl fun K2 au=>?_;simp[wK];refine pj.mk (adl) bt bt (by first | exact D.bC _ | simp[aP,amk,amc,D.le,D.le.go,D.le_refl,D.bC,wK]) ak ?_;refine au _ ?_;clear au K2;simp only[aN,du];(repeat refine yz rfl fun K2 au=>?_;simp[wK];(repeat refine⟨aa,?_⟩);refine au _ ?_;clear au K2);refine yz rfl fun K2 au=>?_;simp[wK];refine pj.mk (tF) bt bt (by first | exact D.bC _ | simp[aP,amk,amc,D.le,D.le.go,D.le_refl,D.bC,wK]) ak ?_;refine au _ ?_;clear au K2;simp only[aN,du];(repeat refine yz rfl fun K2 au=>?_;simp[wK];(repeat refine⟨aa,?_⟩);refine au _ ?_;clear au K2);refine JB (ao _ ?_);refine AW.st (by simp[wK];rfl) ?_;refine gu 10 ?_;refine fD (ay _) fun K' ao=>?_;(repeat refine aK fun Kq af=>?_;simp[c6,sh];(repeat refine⟨aa,?_⟩);refine af _ ?_);refine aK fun Kq af=>?_;simp[c6,sh];refine cZ.data (Ma) bt (by first | exact D.bC _ | simp[aP,amk,amc,D.le,D.le.go,D.le_refl,D.bC,c6,sh]) ?_;refine af _ ?_;simp only[aN,du];(repeat refine aK fun Kq af=>?_;simp[c6,sh];(repeat refine⟨aa,?_⟩);refine af _ ?_);refine bH (ao _ ?_);refine dy _ (AW.norm [0,1,5,7,8,14,15,24,25] [800,902] aQ (AW.st (by simp[c6,sh];rfl) ?_));refine cK ?_;(try simp only[aT,aW]);refine aZ.mk (i+1) aa aa ?_;rw[tK];refine cg
    .obtain rfl:i=NI:=aa
     have tw:RI=RS:=by rw[<- je];exact sh aa
     subst tw;refine bU ak ?_;refine bL (b6 _ (AW.imp (aL.freeze 902 trivial) ?_));refine AW.st (by simp[c6,sh];rfl) ?_;refine fD (ay _) fun K' ao=>?_;(repeat refine aK fun Kq af=>?_;simp[vF,sh];(repeat refine⟨aa,?_⟩);refine af _ ?_);refine bH (ao _ ?_);refine aX _ (AW.norm [0,1,5,14,15] [800] aQ (AW.st (by simp[vF,sh];rfl) ?_));refine cK ?_;(try simp only[aT,aW]);refine aZ.mk (s+1) aa aa ?_;rw[Mo];refine cg
  .obtain rfl:s=N:=aa
   have Lp:GS=GD:=by rw[<- Lq];exact sh aa
   subst Lp;refine bU ak ?_;refine bL (aF _ (AW.imp (aL.freeze 800 trivial) ?_));refine AW.st (by simp[vF,sh];rfl) ?_;refine ar [4] [] ?_;exact fP
structure pO (NX:List (List Int)) (O:List Int) (d k:Nat):Prop where
 len:O.length=NX.length
 zero:O.getD 0 0=0
 one:∀ t,t < NX.length->O.getD t 0=0->t=0
 lo:∀ s,s < NX.length->-1<=O.getD s 0
 hi:∀ s,s < NX.length->O.getD s 0<=(d:Int)+1
 back:∀ t,t < NX.length->0 < O.getD t 0->∃ s,∃ h:s < NX.length,O.getD s 0=O.getD t 0 - 1/\(t:Int)∈NX[s]
 done:∀ u (h:u < NX.length),0<=O.getD u 0->(O.getD u 0 < d\/(O.getD u 0=d/\u < k))->∀ t∈NX[u],mi O u t
theorem aez {NX:List (List Int)} (h:nc NX):pO NX ((List.replicate NX.length (-1)).set 0 0) 0 0/\∀ s,s < NX.length->((List.replicate NX.length (-1:Int)).set 0 0).getD s 0<=0:=by
 have hp:=h.pos;have z:((List.replicate NX.length (-1:Int)).set 0 0).getD 0 0=0:=kK (by simpa using hp)
 have o:∀ t,t < NX.length->t≠0->((List.replicate NX.length (-1:Int)).set 0 0).getD t 0 = -1:=fun t ht h0=>by
  rw[gV (ann h0),dw (by simpa using ht)];simp
 have le:∀ s,s < NX.length->((List.replicate NX.length (-1:Int)).set 0 0).getD s 0<=0:=fun s hs=>by
  by_cases e:s=0
  .subst e;rw[z];exact an0 _
  .rw[o s hs e];omega
 refine⟨⟨ak,z,fun t ht e=>?_,fun s hs=>?_,fun s hs=>by have:=le s hs;omega,fun t ht h0=>?_,fun u hu h0 hd t ht=>?_⟩,le⟩
 .by_cases e2:t=0
  .exact e2
  .rw[o t ht e2]at e;omega
 .by_cases e:s=0
  .subst e;rw[z];omega
  .rw[o s hs e];exact an0 _
 .have:=le t ht;omega
 .rcases hd with hd | ⟨_,hd⟩<;>omega
theorem aex {NX:List (List Int)} {O:List Int} {d k s t:Nat} (h:pO NX O d k) (hs:s < NX.length) (TE:O.getD s 0=(d:Int)) (ht:t < NX.length) (aR:(t:Int)∈NX[s]) (iY:O.getD t 0 < 0):pO NX (O.set t ((d:Int)+1)) d k:=by
 have hlen:=h.len
 have rI:t < O.length:=aa
 have gy:t≠s:=fun e=>by subst e;omega
 have same:∀ u,t≠u->(O.set t ((d:Int)+1)).getD u 0=O.getD u 0:=fun u hu=>gV hu;have at':(O.set t ((d:Int)+1)).getD t 0=(d:Int)+1:=kK rI;refine⟨by simp[hlen],?_,fun u hu e=>?_,fun u hu=>?_,fun u hu=>?_,fun u hu h0=>?_,fun u hu h0 hd v hv=>?_⟩
 .have:t≠0:=fun e=>by subst e;rw[h.zero]at iY;omega
  rw[same 0 this];exact h.zero
 .by_cases e2:t=u
  .subst e2;rw[at']at e;omega
  .rw[same u e2]at e;exact h.one u hu e
 .by_cases e2:t=u
  .subst e2;rw[at'];omega
  .rw[same u e2];exact h.lo u hu
 .by_cases e2:t=u
  .subst e2;rw[at'];exact an0 _
  .rw[same u e2];exact h.hi u hu
 .by_cases e2:t=u
  .subst e2;exact⟨s,hs,by rw[at',same s gy];omega,aR⟩
  .rw[same u e2]at h0 ⊢;obtain⟨v,hv,h1,h2⟩:=h.back u hu h0;exact⟨v,hv,by rw[same v fun e=>by subst e;omega];exact h1,h2⟩
 .have sE:t≠u:=fun e=>by
   subst e;rw[at']at hd
   rcases hd with hd | ⟨hd,_⟩<;>omega
  rw[same u sE]at h0 hd;exact Fk (h.done u hu h0 hd v hv) h0 iY
theorem aey {NX:List (List Int)} {O:List Int} {d k:Nat} (h:pO NX O d k) (hk:O.getD k 0≠(d:Int)):pO NX O d (k+1):=
 ⟨h.len,h.zero,h.one,h.lo,h.hi,h.back,fun u hu h0 hd=>h.done u hu h0 (by
  rcases hd with hd | ⟨hd,hl⟩
  .exact .inl hd
  .refine .inr ⟨hd,?_⟩
   have:u≠k:=fun e=>by subst e;exact hk hd
   omega)⟩
theorem aew {NX:List (List Int)} {O:List Int} {d k:Nat} (h:pO NX O d k) (hk:k < NX.length) (cf:∀ t∈NX[k],mi O k t):pO NX O d (k+1):=
 ⟨h.len,h.zero,h.one,h.lo,h.hi,h.back,fun u hu h0 hd=>by
  by_cases e:u=k
  .subst e;exact cf
  .refine h.done u hu h0 ?_
   rcases hd with hd | ⟨hd,hl⟩
   .exact .inl hd
   .exact .inr ⟨hd,aa⟩⟩
theorem aev {NX:List (List Int)} {O:List Int} {d:Nat} (h:pO NX O d NX.length):pO NX O (d+1) 0:=
 ⟨h.len,h.zero,h.one,h.lo,fun s hs=>by have:=h.hi s hs;omega,h.back,fun u hu h0 hd=>h.done u hu h0 (by
  rcases hd with hd | ⟨_,hl⟩
  .by_cases e:O.getD u 0=(d:Int)
   .exact .inr ⟨e,hu⟩
   .exact .inl aa
  .omega)⟩
theorem aeu {NX:List (List Int)} {O:List Int} {d:Nat} (h:pO NX O d NX.length) (hd:∀ s,s < NX.length->O.getD s 0<=(d:Int)):na NX O:=
 ⟨h.len,h.zero,h.one,h.lo,fun s hs h0 t ht=>h.done s hs h0 (by
  have:=hd s hs;by_cases e:O.getD s 0=(d:Int)
  .exact .inr ⟨e,hs⟩
  .exact .inl aa) t ht,h.back⟩
def F1 (NX:List (List Int)) (O:List Int) (d n0:Nat) (b:Bool):Prop:=(b=true->mh O < n0)/\(b=false->∀ s,s < NX.length->O.getD s 0<=(d:Int))/\mh O<=n0
theorem ae1 {NX:List (List Int)} {O:List Int} {d n0 t:Nat} {b:Bool} (h:F1 NX O d n0 b) (ht:t < O.length) (iY:O.getD t 0 < 0):F1 NX (O.set t ((d:Int)+1)) d n0 true:=by
 have:=IJ (x:=(d:Int)+1) ht iY aa;have h3:=h.2.2;exact⟨fun _=>aa,fun e=>(by cases e),aa⟩
theorem aaW {N k:Nat} (h:k < N):(List.replicate k (-1:Int) ++ List.replicate (N - k) 0).set k (-1)=List.replicate (k+1) (-1) ++ List.replicate (N - (k+1)) 0:=by
 have e:N - k=(N - (k+1))+1:=aa
 rw[List.set_append_right _ _ ak,e,List.replicate_succ,List.length_replicate,Nat.sub_self,List.set_cons_zero,List.replicate_succ',am4];rfl
theorem akx (G:aB) (p:aM) (aV:cO p=none) (lE:(bl p).length<=6) (hP:bT (bF p)<=4096):aD prog G 84 [rr p] (gd (gl (aS p))):=by
 have ht:=yD aV;have qL:=ht.pos;have gz:=ht.mem;have hlen:=rX p;have om:0 < bT (bF p):=o4 fun x hx=>(nJ (gb aV) hx).m2;have rE:∀ O d,pO (aS p) O d (aS p).length->(∀ s,s < (aS p).length->O.getD s 0<=(d:Int))->O=gl (aS p):=fun O d h h2=>KY (aeu h h2) (tm ht);obtain⟨zQ,EF⟩:=aez ht
 have xO:∀ s (h:s < (aS p).length),(aS p)[s].length<=64:=fun s h=>by
  rw[Ct h,yo];have:=amP (n:=2) bD lE;omega
 have oT:=Cv (aS p)
 have j6:∀ s (h:s < (aS p).length),(eW (aS p))[s]? = some [gd (aS p)[s]]:=fun s h=>by simp[eW,h]
 have hcast:((aS p).length:Int)=bT (bF p):=by rw[hlen];omega
 simp only[rr,rq,ug,ck,gd]at j6 ⊢;rw[<- hcast]
 have rH:(aS p).length<=4096:=aa
 generalize gl (aS p)=F at *;generalize eW (aS p)=NX at *;generalize aS p=TN at *;clear hlen hcast om hP;generalize fS p=NI at *;generalize p.names.map bw=NN at *;generalize p.aC.map ez=RR at *;obtain⟨N,hN⟩:∃ N:Nat,TN.length=N:=⟨_,rfl⟩;rw[hN]at oT rH qL zQ EF;simp only[hN]at gz rE ⊢;refine aD.aO (ay _) func84 rfl rfl (rs:=[.tmp 2]) results84 (by simp[ntmps84]) fun X=>?_;simp only[ntmps84,List.map];refine ar [0] [] ?_;refine ae (Aq @mX.eq_1 (Aq @gL.eq_1 @gL.eq_2)) [0,3] [15] ?_;refine ag fun K1 aF=>ar [0,3,17,18] [15] ?_;refine ch (S:=Nat) (fun k=>k<=N) (fun k=>⟨bg [(0,.d (.ip [.sl none NN,.sl none RR,.v (.int .i64 N),.v (.int .i64 NI),.sl none NX])),(3,.own 15 0 N),(17,int N),(18,int k)],aw [(15,.sl 3 1 ((List.replicate k (-1:Int) ++ List.replicate (N - k) 0).map fun n=>[.v (.int .i64 n)]))]⟩) (fun k=>N - k) 0 ?_ aa ?_
 .refine aL.ek aQ (by simp[amO]) (by simp[amO])
 .intro k hk;have Hw:=fun (h:k < N)=>aaW h
  have fm:(List.replicate k (-1:Int) ++ List.replicate (N - k) 0).length=N:=by simp;omega
  generalize gP:List.replicate k (-1:Int) ++ List.replicate (N - k) 0=R at Hw fm ⊢;refine ar [0,3,17,18,19] [15] ?_;refine ag fun K2 au=>?_;by_cases aG:k < N
  .have xB:=Hw aG;clear gP Hw;refine bR (by simp<;>omega) ?_;refine aq (au _ (ag fun K3 aX=>bf (ar [0,3,4,17,18] [15] ?_)));have qf:=(Aq @fm @aG);refine eM aX [0,3,17,18] [15] ?_;refine cK ?_;(try simp only[aT,aW]);refine aZ.mk (k+1) aa aa ?_;rw[<- xB];refine aL.ek aQ (by simp[amt]) (by simp[amt])
  .obtain rfl:k=N:=aa
   refine bU (by simp<;>omega) ?_;refine bL (aF _ ?_);rw[Nat.sub_self,List.replicate_zero,am0]at gP;rw[gP]at zQ EF;clear gP Hw;have abG:=fm;generalize hR0:R=R0 at *;generalize nX:k=N at *;have qf:=(Aq @abG @qL);refine ax [0,3] [15] ?_;refine ar [0,3,5] [15] ?_
   refine ch (S:=Nat×List Int) (fun q=>pO TN q.2 q.1 0/\(∀ s,s < N->q.2.getD s 0<=(q.1:Int))/\q.1+mh q.2<=N) (fun q=>⟨bg [(0,.d (.ip [.sl none NN,.sl none RR,.v (.int .i64 N),.v (.int .i64 NI),.sl none NX])),(3,.own 15 0 N),(5,int q.1)],aw [(15,.sl 3 1 (q.2.map fun n=>[.v (.int .i64 n)]))]⟩) (fun q=>mh q.2) (0,R0.set 0 0) ?_ ⟨zQ,EF,by
    have:mh (R0.set 0 0)<=(R0.set 0 0).length:=List.countP_le_length;rw[List.length_set]at this
    dsimp only;omega⟩ ?_
   .refine aL.ek aQ (by simp[amt]) (by simp[amt])
   .rintro⟨d,O⟩ ⟨hL,hle,iY⟩;dsimp only at hL hle iY ⊢;have xy:=hL.len;refine ag fun K4 b6=>bf ?_;refine ar [0,3,5,6] [15] ?_;refine ag fun K5 b5=>ar [0,3,5,6,32,33,34] [15] ?_;refine ch (S:=Nat×List Int×Bool) (fun q=>q.1<=N/\pO TN q.2.1 d q.1/\F1 TN q.2.1 d (mh O) q.2.2) (fun q=>⟨bg [(0,.d (.ip [.sl none NN,.sl none RR,.v (.int .i64 N),.v (.int .i64 NI),.sl none NX])),(3,.own 15 0 N),(5,int d),(6,.d (.v (.bool q.2.2))),(32,.d (.sl none NX)),(33,int NX.length),(34,int q.1)],aw [(15,.sl 3 1 (q.2.1.map fun n=>[.v (.int .i64 n)]))]⟩) (fun q=>N - q.1) (0,O,false) ?_ ⟨aa,hL,fun e=>(by cases e),fun _=>by rw[hN];exact hle,amh _⟩ ?_
    .refine cg
    .rintro⟨k,O2,b⟩ ⟨hk,rA,DG⟩;dsimp only at hk rA DG ⊢
     have Hf:O2.length=N:=by rw[rA.len];exact hN
     refine ar [0,3,5,6,32,33,34,35] [15] ?_;refine ag fun K6 dy=>?_;by_cases aG:k < N
     .have Tc:k < NX.length:=aa
      have Ee:k < TN.length:=aa
      have HG:k < O2.length:=aa
      have sq:NX[k]=[.sl none (TN[k].map fun n=>[.v (.int .i64 n)])]:=by
       have qA:=j6 k Ee;rw[AT Tc]at qA;exact AI qA
      refine bR (by simp<;>omega) ?_;refine aq (dy _ (ag fun K7 eH=>bf ?_));have qf:=(Aq @Tc @sq);refine ax [0,3,5,6,7,8,32,33,34] [15] ?_;refine ag fun K8 eo=>?_;by_cases hd:O2.getD k 0=(d:Int)
      .have fU:=hd;rw[dw HG]at fU;have dA:=gz _ (By Ee);have eC:=xO k Ee;have qf:=(Aq @HG (Aq @fU (Aq @aG @Hf)));refine ax [0,3,5,6,8,32,33,34,44] [15] ?_;refine bU (by simp<;>omega) ?_;refine aq (eo _ ?_);generalize hR:TN[k]=R at *;refine ar [0,3,5,6,32,33,34,45,46,47] [15] ?_;refine ch (S:=Nat×List Int×Bool) (fun q=>q.1<=R.length/\pO TN q.2.1 d k/\q.2.1.getD k 0=(d:Int)/\(∀ t∈R.take q.1,mi q.2.1 k t)/\F1 TN q.2.1 d (mh O) q.2.2) (fun q=>⟨bg [(0,.d (.ip [.sl none NN,.sl none RR,.v (.int .i64 N),.v (.int .i64 NI),.sl none NX])),(3,.own 15 0 N),(5,int d),(6,.d (.v (.bool q.2.2))),(32,.d (.sl none NX)),(33,int NX.length),(34,int k),(45,.d (.sl none (R.map fun n=>[.v (.int .i64 n)]))),(46,int R.length),(47,int q.1)],aw [(15,.sl 3 1 (q.2.1.map fun n=>[.v (.int .i64 n)]))]⟩) (fun q=>R.length - q.1) (0,O2,b) ?_ ⟨aa,rA,hd,ak,DG⟩ ?_
       .refine cg
       .rintro⟨i,O3,c⟩ ⟨hi,rB,Hs,cf,Hc⟩;dsimp only at hi rB Hs cf Hc ⊢
        have Lx:O3.length=N:=by rw[rB.len];exact hN
        refine ar [0,3,5,6,32,33,34,45,46,47,48] [15] ?_;refine ag fun K9 jt=>?_;by_cases dr:i < R.length
        .obtain⟨v0,v1⟩:=dA R[i] (By dr);obtain⟨u,hu⟩:=ami v0
         have qe:u < O3.length:=aa
         have ou:u < N:=aa
         have pD:R.take (i+1)=R.take i ++ [(u:Int)]:=by rw[aml dr,hu]
         have aR:(u:Int)∈TN[k]:=by rw[hR,<- hu];exact By dr
         refine bR (by simp<;>omega) ?_;refine aq (jt _ (ag fun oJ e6=>bf ?_));have qf:=(Aq @dr @hu);refine ax [0,3,5,6,10,32,33,34,45,46,47] [15] ?_;by_cases hn:O3.getD u 0 < 0
         .have j4:=aex rB Ee Hs aa aR hn;have hM4:=ae1 Hc qe hn
          have zS:u≠k:=fun e=>by subst e;omega
          have SR:(O3.set u ((d:Int)+1)).getD k 0=(d:Int):=by rw[gV zS];exact Hs
          have MW:∀ t∈R.take (i+1),mi (O3.set u ((d:Int)+1)) k t:=fun t h=>by
           rw[pD]at h
           rcases amq.1 h with h | h
           .exact Fk (cf t h) aa hn
           .obtain rfl:=amD.1 h;unfold mi;rw[amd,kK qe,SR];omega
          have lf:=hn;rw[dw qe]at lf;generalize wv:O3[u]=ov at lf;have qf:=(Aq @qe (Aq @wv (Aq @lf (Aq @ou @Lx))));refine ax [0,3,5,6,10,32,33,34,45,46,47,55] [15] ?_;refine bR (by simp<;>omega) ?_;have qf:=(Aq @qe (Aq @ou @Lx));refine ax [0,3,5,32,33,34,45,46,47] [15] ?_;refine gq trivial e6 [0,3,5,6,32,33,34,45,46,47] [15] ?_;refine cK ?_;(try simp only[aT,aW]);refine aZ.mk (i+1,O3.set u ((d:Int)+1),true) ⟨by dsimp only;omega,j4,SR,MW,hM4⟩ (by dsimp only;omega) ?_;refine aL.ek aQ (by simp[amt]) (by simp[amt])
         .have MW:∀ t∈R.take (i+1),mi O3 k t:=fun t h=>by
           rw[pD]at h
           rcases amq.1 h with h | h
           .exact cf t h
           .obtain rfl:=amD.1 h;unfold mi;rw[amd];have:=rB.hi u aa;omega
          have lf:=hn;rw[dw qe]at lf;generalize wv:O3[u]=ov at lf;have qf:=(Aq @qe (Aq @wv (Aq @lf (Aq @ou @Lx))));refine ax [0,3,5,6,10,32,33,34,45,46,47,55] [15] ?_;refine bU (by simp<;>omega) ?_;refine aq (e6 _ (cK ?_));(try simp only[aT,aW]);refine aZ.mk (i+1,O3,c) ⟨by dsimp only;omega,rB,Hs,MW,Hc⟩ (by dsimp only;omega) ?_;refine cg
        .obtain rfl:i=R.length:=aa
         rw[sh (amh _)]at cf;refine bU (by simp<;>omega) ?_;refine bL (eH _ (cK ?_));(try simp only[aT,aW]);refine aZ.mk (k+1,O3,c) ⟨by dsimp only;omega,aew rB Ee (by rw[hR];exact cf),Hc⟩ (by dsimp only;omega) ?_;refine cg
      .have fU:=hd;rw[dw HG]at fU;generalize wv:O2[k]=ov at fU;have qf:=(Aq @HG (Aq @wv (Aq @fU (Aq @aG @Hf))));refine ax [0,3,5,6,8,32,33,34,44] [15] ?_;refine bR (by simp<;>omega) ?_;refine bL (eH _ (cK ?_));(try simp only[aT,aW]);refine aZ.mk (k+1,O2,b) ⟨by dsimp only;omega,aey rA hd,DG⟩ (by dsimp only;omega) ?_;refine cg
     .have hkN:k=N:=aa
      subst hkN;refine bU (by simp<;>omega) ?_;refine bL (b5 _ ?_)
      have rB:pO TN O2 d TN.length:=by rw[hN];exact rA
      cases b with
      | false=>
       have hOF:=rE O2 d rA (by have:=DG.2.1 rfl;rw[hN]at this;exact this)
       have abC:(O2.map fun n=>[D.v (.int .i64 n)]).length=k:=by simp[Hf]
       refine ar [0,3,5,64] [15] ?_;refine aJ (AW.imp (aL.freeze 15 trivial) ?_);refine AW.st (by simp[abC,sh];rfl) ?_;refine ar [2] [] ?_;exact aY @hOF
      | true=>
       have dV:=DG.1 rfl;refine ar [0,3,5,64] [15] ?_;refine al (aq (b6 _ ?_));refine cK ?_;(try simp only[aT,aW]);refine aZ.mk (d+1,O2) ⟨aev rB,fun s hs=>by have:=rA.hi s aa;dsimp only;omega,by dsimp only;omega⟩ (by dsimp only;omega) ?_;refine cg
end Go.Proofs.YtobejfcgcfdpfaaGreatDoor
namespace Go.Av
section
variable {P:Program} {T:Ty} {Mv X:Nat->Prop} {G:aB} {N:Fr} {w:World} {μ:Mu} {a:Act} {σ:St}
theorem aiL (t ty e:TypeId) (i:TypeInfo) (ht:P.underlying t=some (.slice e)) (hi:P.info? e=some i)
  (g off Ay O9:Nat) (cur:Array Value) (hg:w.heap[g]? = some (.cells cur e (0,0)))
  (a:Addr) (m c:Nat) (news:List Value) (hl:news.length=m * i.size) (MS:∀ j u,news[j]? = some u->w.cell? (a.add j)=some u) (h1:∀ u∈news,u.oneCell'=true)
  (uK:Ay+m<=O9) (k9:off+Ay * i.size+news.length<=cur.size) :
  (Builtin.append_ #[t,t] ty #[.slice (some ⟨g,off,none⟩) Ay O9,.slice (some a) m c]).run P w =
   .ok (.slice (some ⟨g,off,none⟩) (Ay+m) O9) (w.setRow g (cur.toList.take (off+Ay * i.size) ++ news ++ cur.toList.drop (off+Ay * i.size+news.length)).toArray):=by
 have hf:=run_firstCells_some (P:=P) w i.size m a m c news hl MS;have dW:=run_storeCells_at P g (off+Ay * i.size) e news 0 cur w hg (by simpa using k9) h1;simp only[anj]at dW;simp[Builtin.append_,run_underlying ht,sizeOf,typeInfo,hi,Builtin.lenOf,uK,hf,Addr.add_lit,dW]
theorem YZ (hg:Good P T) (hi:In w X G μ N a σ) {r off n:Nat} (gp:Mv r) {t ty e:TypeId} {tt te:TI} (dP:T t=some tt) (ea:tt.desc = .slice e) (c8:T e=some te) {els news:List (List D)} {u v:Value}
  (hH:σ.H r=some (.sl e te.size els)) (hle:off+n<=els.length) (hu:RV w X μ u (.own r off n)) (hn:uc w X μ te.size v news) (hz:0 < te.size) (sM:(gL te.zero).length=te.size)
  (xv:n+news.length<=maxLen) (hb:(n+news.length) * te.bytes<=140737488355328) :
  ∃ pre:List (List D),pc Mv X G N w μ a ((Builtin.append_ #[t,t] ty #[u,v]).run P w) (.own r pre.length (n+news.length)) ⟨eJ r σ.env,bk (eK r σ.H) r (.sl e te.size (pre ++ ((els.drop off).take n ++ news)))⟩:=by
 by_cases iH:off=0
 .subst iH;exact⟨[],by simpa using Kd (Mv:=Mv) hg hi gp dP ea c8 hH aa hu hn hz sM xv hb⟩
 obtain⟨m,hm,hh⟩:=hu.ml;obtain⟨m',cL,ok⟩:=hi.bx.rows r _ hH;rw[hm]at cL;obtain rfl:=AI cL;obtain⟨xR,i0,ma,eV,iF,mW,_⟩:=hg e te c8;have ht:=(hg t tt dP).1;rw[ea]at ht;have tP:=AR (w:=w) (X:=XX X μ) te.zero
 have LW:te.zero.cells.size=te.size:=by rw[tP.1,sM]
 rcases hh with⟨_,_,h0,_⟩ | ⟨b,iX,rfl,k8⟩
 .exact absurd h0 iH
 cases ok with
 | nil br _=>rw[br]at iX;cases iX
 | sl br bp p4 cY lf iq hl ka hr=>
  rename_i b' cur;rw[iX]at br;obtain rfl:=AI br
  have M0:(els.take off).length=off:=by rw[amw];omega
  have TM:els.take off ++ (els.drop off).take n=els.take (off+n):=by rw[List.take_add]
  have Tj:((els.drop off).take n).length=n:=by rw[amw,amF];omega
  have Ti:∀ el∈(els.drop off).take n,el.length=te.size:=fun el bn=>hl el (am3 (amr bn));by_cases bq:news=[]
  .subst bq
   have hv:∃ ad c,v = .slice ad 0 c:=by
    rcases hn.at_ with⟨_,ad,cap,rfl⟩ | ⟨ad,cap,iy,rfl,_⟩
    .exact⟨_,_,rfl⟩
    .exact⟨_,_,rfl⟩
   obtain⟨ad,c,rfl⟩:=hv;refine⟨els.take off,?_⟩;have dK:=WO (P:=P) (w:=w) (ty:=ty) hg dP ea c8 (some ⟨b,off * m.sz,none⟩) ad n (m.cap - off) c aa;rw[dK]
   obtain⟨aR,bd⟩:=hi.move (Mv:=Mv) (w':=w) (m':=m) hm gp (amh _) rfl rfl rfl (fun _ _ _=>rfl) (fun b hb=>.inr hb) (row:=.sl e te.size (els.take off ++ ((els.drop off).take n ++ []))) fun ev=>by
    rw[am0,TM];refine .sl iX bp p4 cY (by simp;omega) iq (fun el bn=>hl el (amr bn)) ka fun i j el c bn hc=>?_;rw[amv]at bn;split at bn
    .obtain⟨v,hv,bQ⟩:=hr i j el c bn hc;exact⟨v,hv,bQ.ev ev⟩
    .cases bn
   refine⟨_,_,_,rfl,aR,.own (m:=m) (by simp[eG]) ?_,bd⟩;rw[M0];exact .inr ⟨b,iX,rfl,by simpa using k8⟩
  .have MT:0 < news.length:=anc.2 bq
   rcases hn.at_ with⟨h,_⟩ | ⟨ad,cap,iy,rfl,fz,xL,p6,lV⟩
   .exact absurd h bq
   have Na:n+news.length<=9223372036854775807:=by simp only[maxLen]at xv;omega
   have acJ:(off+n) * te.size<=m.cap * te.size:=amB _ k8;rw[amJ]at acJ;by_cases uK:n+news.length<=m.cap - off
   .have k9:off * te.size+n * te.size+iy.length<=cur.size:=by
     rw[fz,cY,<- amJ,<- amJ];exact amB _ aa
    have dK:=aiL (P:=P) (w:=w) t ty e i0 ht ma b (off * te.size) n (m.cap - off) cur p4 ad news.length cap iy (by rw[fz,eV]) xL p6 uK (by rw[eV];exact k9);refine⟨els.take off,?_⟩;rw[bp,dK,eV]
    have jk:(cur.toList.take (off * te.size+n * te.size)).length=(off+n) * te.size:=by rw[amw,amK,cY,amJ];omega
    have rO:Rel w X μ te.size (cur.toList.take (off * te.size+n * te.size)) (els.take (off+n)):=by
     intro i j el c bn hc;rw[amv]at bn;split at bn
     .rename_i aR;obtain⟨v,hv,bQ⟩:=hr i j el c bn hc;have vY:el.length=te.size:=hl _ (amZ bn)
      have hj:j < te.size:=by rw[<- vY];exact (BY.1 hc).1
      refine⟨v,?_,bQ⟩;rw[amv,if_pos]
      .simpa using hv
      .have:(i+1) * te.size<=(off+n) * te.size:=amB _ aR;rw[amJ,amJ]at this;omega
     .cases bn
    obtain⟨aR,bd⟩:=hi.move (Mv:=Mv) (w':=w.setRow b (cur.toList.take (off * te.size+n * te.size) ++ iy ++ cur.toList.drop (off * te.size+n * te.size+iy.length)).toArray) (m':=m) hm gp ak rfl rfl rfl
     (fun k hk Eo=>setRow_other w b k _ fun e'=>Eo (by rw[iX,e'])) (fun b hb=>.inr hb) (row:=.sl e te.size (els.take off ++ ((els.drop off).take n ++ news))) fun ev=>by
      rw[<- am4,TM];refine .sl iX bp (setRow_heap w b cur _ e _ p4) ?_ (by simp;omega) iq (fun el bn=>?_) ka fun i j el c hi hj=>?_
      .simp only[ans,amp,amw,amF,amK];omega
      .rcases amq.1 bn with h | h
       .exact hl el (amr h)
       .exact hn.len el h
      .obtain⟨v,hv,bQ⟩:=((rO.append (by rw[jk,amw,anW hle]) (fun el bn=>hl el (amr bn)) lV).more (l':=cur.toList.drop (off * te.size+n * te.size+iy.length))) i j el c hi hj;exact⟨v,by rw[<- ams];simpa using hv,bQ.ev ev⟩
    refine⟨_,_,_,rfl,aR,.own (m:=m) (by simp[eG]) (.inr ⟨b,iX,by rw[M0,bp],by rw[M0];omega⟩),bd⟩
   .have jk:((cur.toList.drop (off * te.size)).take (n * te.size)).length=n * te.size:=by rw[amw,amF,amK,cY];omega
    have rO:Rel w X μ te.size ((cur.toList.drop (off * te.size)).take (n * te.size)) ((els.drop off).take n):=by
     intro i j el c bn hc;rw[amv]at bn;split at bn
     .rename_i aR;rw[amM]at bn;obtain⟨v,hv,bQ⟩:=hr (off+i) j el c bn hc;have vY:el.length=te.size:=hl _ (amZ bn)
      have hj:j < te.size:=by rw[<- vY];exact (BY.1 hc).1
      refine⟨v,?_,bQ⟩;rw[amv,if_pos,amM]
      .rw[<- am6,<- amJ];simpa using hv
      .have:(i+1) * te.size<=n * te.size:=amB _ aR;rw[amJ]at this;omega
     .cases bn
    have dK:=run_append_grow (P:=P) w t ty e i0 te.zero ht ma mW ⟨b,off * te.size,none⟩ n (m.cap - off) ((cur.toList.drop (off * te.size)).take (n * te.size)) (by rw[jk,eV]) (fun j v hv=>by
     rw[addr_add,cell_of_row w b _ cur e (0,0) p4];rw[amv]at hv;split at hv
     .rw[amM]at hv;simpa using hv
     .cases hv) ad news.length cap iy (by rw[fz,eV]) xL aa aa (by rw[iF];exact growslice_fits aa hb)
    refine⟨[],?_⟩;rw[bp,dK];have eU:=grownCap_ge w (n+news.length) (m.cap - off) e;have gv:=grownCap_le_maxLen w (n+news.length) (m.cap - off) e xv;generalize grownCap w (n+news.length) (m.cap - off) e=gA at *;generalize (cur.toList.drop (off * te.size)).take (n * te.size)=xs at *
    have lS:cX w (w.drew.alloc (.cells (xs.toArray ++ iy.toArray ++ Builtin.zeroCells te.zero.cells (gA - (n+news.length))) e)):=by
     have h1:=cX.alloc w.drew (.cells (xs.toArray ++ iy.toArray ++ Builtin.zeroCells te.zero.cells (gA - (n+news.length))) e);exact⟨h1.size,h1.os,h1.tape,h1.output,h1.same⟩
    have sG:(xs.toArray ++ iy.toArray ++ Builtin.zeroCells te.zero.cells (gA - (n+news.length))).size=gA * te.size:=by
     simp only[Array.size_append,ans,size_zeroCells,LW,jk,fz,<- amJ];congr 1;omega
    obtain⟨aR,bd⟩:=hi.move (Mv:=Mv) (w':=w.drew.alloc (.cells (xs.toArray ++ iy.toArray ++ Builtin.zeroCells te.zero.cells (gA - (n+news.length))) e)) (m':=⟨some w.heap.size,te.size,gA⟩) hm gp lS.size lS.os lS.tape lS.output
     (fun k hk _=>lS.same k hk) (fun b hb=>by simp at hb;omega) (row:=.sl e te.size ([] ++ ((els.drop off).take n ++ news))) fun ev=>by
      rw[ang];refine .sl rfl rfl (by simpa using heap_alloc_new w.drew (.cells (xs.toArray ++ iy.toArray ++ Builtin.zeroCells te.zero.cells (gA - (n+news.length))) e)) sG (by rw[amp,Tj];omega) gv (fun el bn=>?_) hz fun i j el c hi hj=>?_
      .rcases amq.1 bn with h | h
       .exact Ti el h
       .exact hn.len el h
      .have hrel:=((rO.append (by rw[jk,Tj]) Ti lV).more (l':=(Builtin.zeroCells te.zero.cells (gA - (n+news.length))).toList)) i j el c hi hj;obtain⟨v,hv,bQ⟩:=hrel;refine⟨v,?_,bQ.ev ev⟩;rw[<- ams];simpa using hv
    exact⟨_,_,_,rfl,aR,.own (m:=⟨some w.heap.size,te.size,gA⟩) (by simp[eG]) (.inr ⟨w.heap.size,rfl,ak,by simpa using eU⟩),bd⟩
def Py (T:Ty) (G:aB) (Mv:Nat->Prop) (σ:St) (o:Oper):Option (Prop×(List (List D)->AV×St)):=match o.op,o.dst with
 | .call { callee:=.builtin .append,args,argTypes },some _=>match args.toList,argTypes.toList with
  | [x,y],[t,t']=>match T t with
   | some tt=>match tt.desc with
    | .slice e=>match T e,bJ G σ.env x,bJ G σ.env y with
     | some te,some (.own r off n),some v=>match σ.H r,nI σ.H r v with
      | some (.sl ty sz els),some news=>some (t=t'/\Mv r/\ty=e/\sz=te.size/\off+n<=els.length/\(∀ el∈news,el.length=te.size)/\(∀ el∈news,∀ c∈el,D.one c=true)/\0 < te.size/\(gL te.zero).length=te.size/\n+news.length<=9223372036854775807/\(n+news.length) * te.bytes<=140737488355328,
        fun pre=>(.own r pre.length (n+news.length),⟨eJ r σ.env,bk (eK r σ.H) r (.sl e te.size (pre ++ ((els.drop off).take n ++ news)))⟩))
      | _,_=>none
     | _,_,_=>none
    | _=>none
   | none=>none
  | _,_=>none
 | _,_=>none
def Dv (P:Program) (T:Ty) (Mv X:Nat->Prop) (G:aB) (N:Fr) (o:Oper) (σ:St) (next:St->Prop):Prop:=match Py T G Mv σ o with
 | some (c,f)=>c/\∀ pre:List (List D),next ⟨aN (f pre).2.env o.dst (f pre).1,(f pre).2.H⟩
 | none=>uu P T Mv X G N o σ next
theorem aaR (hg:Good P T) (hi:In w X G μ N a σ) {o:Oper} {K:St->Prop} (hd:∀ d,o.dst=some d->d < N.n) (h:Dv P T Mv X G N o σ K) {Q:Exit->Act->World->Prop} {next:Act->World->Prop}
  (hk:∀ w' aI a' aH,K aH->In w' X G aI N a' aH->Ev Mv w μ w' aI->next a' w'):o.wpIn (wd N.ro) 0 P a w next Q:=by
 unfold Dv at h;split at h
 .rename_i c f hw;obtain⟨hc,k⟩:=h;obtain⟨op,dst,type,pos,after,guard⟩:=o;unfold Py at hw;split at hw
  .rename_i args argTypes d j9 uD;simp only at j9 uD;subst j9 uD;refine yG (fun c e=>by cases e) ?_;split at hw
   .rename_i x0 y0 t t' ha ht;have e1:args = #[x0,y0]:=amX.1 ha;have e2:argTypes = #[t,t']:=amX.1 ht;subst e1 e2;split at hw
    .rename_i tt dP;split at hw
     .rename_i e ea;split at hw
      .rename_i te r off n v c8 h1 h2;split at hw
       .rename_i ty sz els news hH hn;obtain⟨rfl,rfl⟩:=eN hw;obtain⟨rfl,g1,rfl,rfl,g2,g3,g4,g5,g6,g7,g8⟩:=hc;obtain⟨pre,v',w',aI,hr,aR,iu,bd⟩:=YZ (Mv:=Mv) (ty:=type) hg hi g1 dP ea c8 hH g2 (hi.eval h1) (Fc hi.bx (hi.eval h2) hn g3 g5 g4) g5 g6 (by unfold maxLen;omega) g8;unfold Oper.wp
        have hx:(execOp a.eval { op:=.call { callee:=.builtin .append,args:=#[x0,y0],argTypes:=#[t,t] },dst:=some d,type:=type,pos:=pos,after:=after,guard:=guard:Oper }).run P w = .ok (.value v') w':=by simp[execOp,resolve,invoke,builtin,hr]
        rw[hx];exact hk _ aI _ _ (k pre) (aR.put iu hd) bd
       .cases hw
      .cases hw
     .cases hw
    .cases hw
   .cases hw
  .cases hw
 .exact GF hg hi hd h hk
def yC (P:Program) (T:Ty) (Mv X:Nat->Prop) (G:aB) (N:Fr) (ops:Array Oper) (K:St->Prop):List Oper->St->Prop
 | [],σ=>K σ
 | o :: rest,σ=>fb N o/\match jx ops σ.env o with
  | some b=>if b=true then Dv P T Mv X G N o σ (yC P T Mv X G N ops K rest) else yC P T Mv X G N ops K rest ⟨aN σ.env o.dst dI,σ.H⟩
  | none=>False
theorem ajF (hg:Good P T) {ops:Array Oper} {Q:Exit->St->Prop} {w0:World} {lY:Mu}:∀ (l:List Oper) (k:Nat) (w:World) (μ:Mu) (a:Act) (σ:St),(∀ j,l[j]? = ops[k+j]?)->yC P T Mv X G N ops (fun aH=>Q .normal aH) l σ->In w X G μ N a σ->Ev Mv w0 lY w μ->
  wpOpsIn (wd N.ro) 0 P ops (After Mv X G N w0 lY Q) (List.range' k l.length) a w:=by
 intro l
 induction l with
 | nil=>intro k w μ a σ _ h hi bd;exact⟨μ,σ,h,hi,bd⟩
 | cons o l ih=>
  intro k w μ a σ hl h hi bd
  have h0:ops[k]? = some o:=by simpa using (hl 0).symm
  have fh:∀ j,l[j]? = ops[k+1+j]?:=fun j=>by have:=hl (j+1);simpa[am6,anN 1 j]using this
  obtain⟨hd,h⟩:=h
  have fU:∀ d,o.dst=some d->d < N.n:=fun d e=>by unfold fb at hd;rw[e]at hd;exact hd
  rw[amo,an4];simp only[wpOpsIn,h0];split at h
  .rename_i b hb;rw[u7 hi hb];split at h
   .rename_i rC;subst rC;rw[if_pos rfl];exact (aaR hg hi fU h fun w' aI a' aH k' aR nu=>ih (k+1) w' aI a' aH fh k' aR (bd.trans nu))
   .rename_i nt;rw[if_neg (by simpa using nt)];exact⟨fun _ _=>trivial,ih (k+1) w μ _ _ fh h (hi.put (.d (.v _)) fU) bd⟩
  .exact h.elim
theorem Yp (hg:Good P T) {id:Nat} {ops:Array Oper} {Q:Exit->St->Prop} (h:yC P T Mv X G N ops (fun aH=>Q .normal aH) ops.toList σ):AW P Mv X G N (.region id ops false) Q σ:=fun w μ a hi=>by
 refine wpIn_region ?_;have:=ajF hg ops.toList 0 w μ a σ ak h hi (.refl _ w μ)
 rwa [<- anU,amK]at this
theorem Yu (hg:Good P T) {id:Nat} {ops:Array Oper} {Q:Exit->St->Prop} (h:∀ K:St->Prop,(∀ τ:St,Q .normal τ->K τ)->yC P T Mv X G N ops K ops.toList σ):AW P Mv X G N (.region id ops false) Q σ:=
 Yp hg (h _ fun _ h=>h)
def stepT (P:Program) (T:Ty) (Mv X:Nat->Prop) (G:aB) (N:Fr) (ops:Array Oper) (o:Oper) (σ:St) (K:St->Prop):Prop:=fb N o/\match jx ops σ.env o with
 | some b=>if b=true then Dv P T Mv X G N o σ K else K ⟨aN σ.env o.dst dI,σ.H⟩
 | none=>False
theorem ajD {ops:Array Oper} {K:St->Prop} {o:Oper} {rest:List Oper} (h:∀ K':St->Prop,(∀ τ,yC P T Mv X G N ops K rest τ->K' τ)->stepT P T Mv X G N ops o σ K'):yC P T Mv X G N ops K (o :: rest) σ:=h _ fun _ h=>h
theorem ajE {ops:Array Oper} {K:St->Prop} (h:K σ):yC P T Mv X G N ops K [] σ:=h
attribute [simp] Py Dv stepT
end
end Go.Av
namespace Go.Av
section
variable {P:Program} {T:Ty} {Mv X:Nat->Prop} {G:aB} {N:Fr} {ops:Array Oper} {σ:St}
def ES:Op->Bool
 | .call { callee:=.builtin .copy,.. }=>true
 | _=>false
theorem KD {o:Oper} (ho:ES o.op=true) {e e':Env} {H:Heap} {c:Prop} {x:AV} {ba:St} (ha:gU o.op e e') (h:wr T G Mv ⟨e,H⟩ o=some (c,x,ba)):ba.env=e/\wr T G Mv ⟨e',H⟩ o=some (c,x,⟨e',ba.H⟩):=by
 obtain⟨dst,op,type,pos,after,guard⟩:=o;dsimp only at ho ha;unfold ES at ho;split at ho
 .rename_i args argTypes;unfold wr at h ⊢;dsimp only at h ⊢
  cases dst with
  | none=>cases h
  | some d=>
   dsimp only at h ⊢;split at h
   .rename_i x0 y0 t t' vK oU;have e1:args = #[x0,y0]:=amX.1 vK;subst e1;have hx:bJ G e x0=bJ G e' x0:=fE fun t ht=>ha t (by simp[Op.operands,Call.operands,ht]);have hy:bJ G e y0=bJ G e' y0:=fE fun t ht=>ha t (by simp[Op.operands,Call.operands,ht]);rw[hx,hy]at h;split at h
    .rename_i tt dP
     try rw[dP]
     try dsimp only
     split at h
     .rename_i el hd
      try rw[hd]
      try dsimp only
      split at h
      .rename_i te r off n v h1 h2 h3
       try rw[h1,h2,h3]
       try dsimp only
       split at h
       .rename_i ty sz els news g1 g2
        try rw[g1,g2]
        obtain⟨rfl,rfl,rfl⟩:=nL h;exact⟨rfl,rfl⟩
       .cases h
      .rename_i te k v h1 h2 h3
       try rw[h1,h2,h3]
       try dsimp only
       split at h
       .rename_i news g1
        try rw[g1]
        obtain⟨rfl,rfl,rfl⟩:=nL h;exact⟨rfl,rfl⟩
       .cases h
      .cases h
     .cases h
    .cases h
   .cases h
 .cases ho
def JY (P:Program) (T:Ty) (Mv:Nat->Prop) (G:aB) (N:Fr) (cp:List Nat) (ops:Array Oper) (i:Nat) (o:Oper) (σ aH:St):Prop:=
 (cp.contains i=true/\fb N o/\o.guard=none/\eD o.op=none/\ic o.op=true/\ES o.op=true/\∃ c x ba,wr T G Mv σ o=some (c,x,ba)/\c/\aH=⟨aN ba.env o.dst x,ba.H⟩)\/
 (cp.contains i=false/\ri P T Mv G N [] [] [] [] ops i o σ aH)
def Gm (cp:List Nat) (ops:Array Oper) (i j:Nat) (oi oj:Oper):Bool:=
 if cp.contains i then !cp.contains j && kindOf oj.op == 0 && oi.apart ops oj else if cp.contains j then kindOf oi.op == 0 && oi.apart ops oj else Dj [] [] [] ops i j oi oj
theorem aad (hg:Good P T) (cp:List Nat):Sound P X G N Mv (JY P T Mv G N cp ops) ops:=fun i o ho σ aH h w μ a hi Q K hk=>by
 rcases h with⟨_,hd,dJ,hc,hw,_,c,x,ba,h1,h2,rfl⟩ | ⟨_,h⟩
 .refine AH hg ⟨hd,.inl ⟨lM dJ,?_⟩⟩ hi ho hk;unfold po;simp only[hc];rw[if_pos hw];exact⟨c,x,ba,h1,h2,rfl⟩
 .exact IH hg [] [] [] [] i o ho _ _ h w μ a hi hk
theorem U4 {i:Nat} {o:Oper} {σ aH:St} (hk:kindOf o.op=0) (h:ri P T Mv G N [] [] [] [] ops i o σ aH):fb N o/\o.guard=none/\∃ x,Ex P T Mv G o σ.env σ.H x σ.H/\aH=⟨aN σ.env o.dst x,σ.H⟩:=by
 obtain⟨hd,dJ,_,h⟩:=h
 rcases h with⟨b,_⟩ | ⟨_,b,_⟩ | ⟨_,_,k1,_,x,H',e1,_,rfl⟩
 .cases b
 .cases b
 .obtain rfl:=e1.keeps aa;exact⟨hd,dJ,x,e1,rfl⟩
theorem U5 {i:Nat} {o:Oper} {e:Env} {H:Heap} {x:AV} (hk:kindOf o.op=0) (hd:fb N o) (dJ:o.guard=none) (h:Ex P T Mv G o e H x H):ri P T Mv G N [] [] [] [] ops i o ⟨e,H⟩ ⟨aN e o.dst x,H⟩:=
 ⟨hd,dJ,(fun r hr=>by cases hr),.inr (.inr ⟨rfl,rfl,aa,(by simp[qj,List.lookup]),x,H,h,(fun r hr=>by cases hr),rfl⟩)⟩
theorem aae (cp:List Nat):wZ (JY P T Mv G N cp ops) (Gm cp ops) ops:=fun i j oi oj ir fM hc σ ba iB h1 h2=>by
 unfold Gm at hc
 have fact:∀ (eO:oi.apart ops oj=true),(∀ v,gU oj.op (aN σ.env oi.dst v) σ.env)/\(∀ v,gU oi.op σ.env (aN σ.env oj.dst v))/\_:=fun eO=>
  ⟨fun v t ht=>(jz eO (e:=σ.env) (v:=v)).1 t (lk ht),fun v t ht=>((jz eO (e:=σ.env) (v:=v)).2.1 t (lk ht)).symm,(jz eO (e:=σ.env) (v:=dI)).2.2⟩
 rcases h1 with⟨ai,di,gi,ci,wi,yi,c,x,τ,w1,cc,rfl⟩ | ⟨ai,h1⟩
 .rw[if_pos ai]at hc;simp only[OF,ant,beq_iff_eq]at hc;obtain⟨⟨aj,kj⟩,eO⟩:=hc;obtain⟨ft,fZ,bq⟩:=fact eO
  rcases h2 with⟨bj,_⟩ | ⟨_,h2⟩
  .rw[aj]at bj;cases bj
  obtain⟨dj,gj,z,e2,rfl⟩:=U4 kj h2;have T6:wr T G Mv ⟨σ.env,σ.H⟩ oi=some (c,x,τ):=w1;obtain⟨he,_⟩:=KD (e':=σ.env) yi (fun t ht=>rfl) T6;rw[he]at e2 ⊢;have e3:Ex P T Mv G oj σ.env σ.H z σ.H:=(e2.congr aa (ft _)).free kj σ.H;refine⟨⟨aN σ.env oj.dst z,σ.H⟩,.inr ⟨aj,U5 kj dj gj e3⟩,.inl ⟨ai,di,gi,ci,wi,yi,c,x,_,(KD yi (fZ z) T6).2,cc,?_⟩⟩;dsimp only;rw[iL bq]
 .rw[if_neg (by rw[ai];decide)]at hc
  rcases h2 with⟨bj,dj,gj,cj,wj,yj,c,x,τ,w1,cc,rfl⟩ | ⟨bj,h2⟩
  .rw[if_pos bj]at hc;simp only[OF,beq_iff_eq]at hc;obtain⟨ki,eO⟩:=hc;obtain⟨ft,fZ,bq⟩:=fact eO;obtain⟨di,gi,z,e1,rfl⟩:=U4 ki h1;obtain⟨he,w2⟩:=KD yj (ft z) w1;refine⟨⟨aN σ.env oj.dst x,τ.H⟩,.inl ⟨bj,dj,gj,cj,wj,yj,c,x,_,w2,cc,rfl⟩,.inr ⟨ai,?_⟩⟩;have e3:Ex P T Mv G oi (aN σ.env oj.dst x) τ.H z τ.H:=(e1.congr aa (fZ x)).free ki τ.H;rw[he,iL bq];exact U5 ki di gi e3
  .rw[if_neg (by rw[bj];decide)]at hc;obtain⟨jK,f1,f2⟩:=Oi [] [] [] [] i j oi oj ir fM hc σ ba iB h1 h2;exact⟨jK,.inr ⟨bj,f1⟩,.inr ⟨ai,f2⟩⟩
def FL (P:Program) (T:Ty) (Mv:Nat->Prop) (G:aB) (N:Fr) (cp:List Nat) (ops:Array Oper) (i:Nat) (o:Oper) (σ:St) (K:St->Prop):Prop:=
 if cp.contains i=true then fb N o/\o.guard=none/\eD o.op=none/\ic o.op=true/\ES o.op=true/\match wr T G Mv σ o with
  | some (c,x,ba)=>c/\K ⟨aN ba.env o.dst x,ba.H⟩
  | none=>False
 else CM P T Mv G N [] [] [] [] ops i o σ K
def wS (P:Program) (T:Ty) (Mv:Nat->Prop) (G:aB) (N:Fr) (cp:List Nat) (ops:Array Oper) (K:St->Prop):List (Nat×Oper)->St->Prop
 | [],σ=>K σ
 | (i,o) :: rest,σ=>FL P T Mv G N cp ops i o σ (wS P T Mv G N cp ops K rest)
theorem ajw {cp:List Nat} {K:St->Prop}:∀ (l:List Nat) (σ:St),(∀ i∈l,i < ops.size)->wS P T Mv G N cp ops K (b8 ops l) σ->∃ cF,K cF/\ja (JY P T Mv G N cp ops) ops l σ cF:=by
 intro l
 induction l with
 | nil=>intro σ _ h;exact⟨σ,h,rfl⟩
 | cons i l ih=>
  intro σ hl h;have hi:=hl i ak
  have ho:ops[i]? = some ops[i]:=by simp[hi]
  have aR:b8 ops (i :: l)=(i,ops[i]) :: b8 ops l:=by simp[b8,hi]
  rw[aR]at h;have h:FL P T Mv G N cp ops i ops[i] σ (wS P T Mv G N cp ops K (b8 ops l)):=h;unfold FL at h;split at h
  .rename_i ha;obtain⟨hd,dJ,hc,hw,hy,h⟩:=h;split at h
   .rename_i c x ba h1;obtain⟨cU,h⟩:=h;obtain⟨cF,hk,hr⟩:=ih _ (fun j hj=>hl j (by simp[hj])) h;exact⟨cF,hk,_,ho,_,.inl ⟨ha,hd,dJ,hc,hw,hy,c,x,ba,h1,cU,rfl⟩,hr⟩
   .exact h.elim
  .rename_i ha
   have D9:b8 ops [i]=[(i,ops[i])]:=by simp[b8,hi]
   have hm:AL P T Mv G N [] [] [] [] ops (wS P T Mv G N cp ops K (b8 ops l)) (b8 ops [i]) σ:=by rw[D9];exact h
   obtain⟨ba,bO,o',qK,FX,hs,qa⟩:=Pt [i] σ (by simpa using hi) (fun r hr=>by cases hr) hm;have qa:FX=ba:=qa;subst qa;obtain⟨cF,hk,hr⟩:=ih _ (fun j hj=>hl j (by simp[hj])) bO;exact⟨cF,hk,o',qK,_,.inr ⟨by simpa using ha,hs⟩,hr⟩
theorem Yk (hg:Good P T) (hm:P.follows .mixedOrders=true) (cp:List Nat) (ord:List Nat) {id:Nat} (cf:pJ (Gm cp ops) ord ops=true) {Q:Exit->St->Prop} (h:wS P T Mv G N cp ops (fun aH=>Q .normal aH) (b8 ops ord) σ):AW P Mv X G N (.region id ops true) Q σ:=
 wY hm (aad hg cp) (aae cp) ord cf fun aG=>ajw ord σ aG h
theorem Yi (hg:Good P T) (hm:P.follows .mixedOrders=true) (cp:List Nat) (ord:List Nat) {id:Nat} (cf:pJ (Gm cp ops) ord ops=true) {Q:Exit->St->Prop}
  (h:∀ K:St->Prop,(∀ τ:St,Q .normal τ->K τ)->wS P T Mv G N cp ops K (b8 ops ord) σ):AW P Mv X G N (.region id ops true) Q σ:=Yk hg hm cp ord cf (h _ fun _ h=>h)
theorem aju {cp:List Nat} {K:St->Prop} {i:Nat} {l:List Nat} {o:Oper} (ho:ops[i]? = some o) (h:∀ K':St->Prop,(∀ τ,wS P T Mv G N cp ops K (b8 ops l) τ->K' τ)->FL P T Mv G N cp ops i o σ K'):wS P T Mv G N cp ops K (b8 ops (i :: l)) σ:=by
 have:b8 ops (i :: l)=(i,o) :: b8 ops l:=by simp[b8,ho]
 rw[this];exact h _ fun _ h=>h
theorem ajv {cp:List Nat} {K:St->Prop} (h:K σ):wS P T Mv G N cp ops K (b8 ops []) σ:=h
end
attribute [simp] FL ES
end Go.Av
namespace Go.Proofs.YtobejfcgcfdpfaaGreatDoor
open Go.Av
theorem ma1:pQ .and .u64 1 4294967295=1:=bD
theorem ma0:pQ .and .u64 0 4294967295=0:=bD
theorem man (n:Nat) (h:n < 2^32):pQ .and .u64 (n:Int) 4294967295=n:=by
 have:=aj5 n 4294967295 aa bD
 have e:n &&& 4294967295=n:=by
  have:=Nat.and_two_pow_sub_one_eq_mod n 32;simp only[Nat.reducePow,Nat.reduceSub]at this;rw[this];omega
 rw[e]at this;exact this
theorem ms1:Int.fdiv 1 (2 ^ (min 32 IntKind.u64.bits))=0:=bD
theorem ms0:Int.fdiv 0 (2 ^ (min 32 IntKind.u64.bits))=0:=bD
theorem msn (n:Nat) (h:n < 2^32):Int.fdiv (n:Int) (2 ^ (min 32 IntKind.u64.bits))=0:=by
 have e:(2:Int) ^ (min 32 IntKind.u64.bits)=4294967296:=bD
 rw[e,Int.fdiv_eq_ediv_of_nonneg _ bD];omega
theorem mw0:IntKind.u64.wrap 0=0:=bD
theorem Oj:IntKind.u64.wrap 1=1:=bD
theorem U8 (n:Nat) (h:n < 2^32):IntKind.u64.wrap (n:Int)=n:=XP n aa
def dU (n:Int):D:=.v (.int .u64 n)
theorem ae5 (G:aB) (n:Nat) (h:n < 2^32):aD prog G 155 [dU 1,dU n] (.bz [dU 0,dU n]):=by
 have a2:=man n h;have s2:=msn n h;have w2:=U8 n h;simp only[dU];refine aD.aO (ay _) func155 rfl rfl (rs:=[.tmp 4,.tmp 5]) results155 (by simp[ntmps155]) fun X=>?_;simp only[ntmps155,List.map];have fw:=(Aq @r4.eq_1 (Aq @r4.eq_2 (Aq @r4.eq_3 (Aq @ma1 (Aq @ma0 (Aq @a2 (Aq @ms1 (Aq @ms0 (Aq @s2 (Aq @mw0 (Aq @Oj @w2)))))))))));refine ae fw [0,1] [] ?_;refine ae fw [0,1,6] [] ?_;refine ae fw [0,1,6,7] [] ?_;refine ae fw [0,1,6,7,8] [] ?_;refine ae fw [0,1,6,7,8,9] [] ?_;refine ae fw [0,1,6,7,8,9,10] [] ?_;refine ae fw [0,1,6,7,9,11] [] ?_;refine ae fw [0,1,6,7,9,11,12] [] ?_;refine ae fw [0,1,6,7,9,12,13] [] ?_;refine ae fw [0,1,7,9,12,13] [] ?_;refine ae fw [0,1,4] [] ?_;refine ae fw [4,5] [] ?_;exact aY fw
theorem mul_one (G:aB) (n:Nat) (h:n < 2^32):aD prog G 118 [dU 1,dU n] (.bz [dU 0,dU n]):=by
 have hm:=ae5 G n h;simp only[dU]at hm ⊢;refine aD.aO (ay _) func118 rfl rfl (rs:=[.tmp 4,.tmp 5]) results118 (by simp[ntmps118]) fun X=>?_;simp only[ntmps118,List.map];refine ar [0,1] [] ?_;refine ag fun K1 aF=>al ?_;refine aq (aF _ (bh trivial hm [8,9] [] ?_));refine ar [4,5] [] ?_;exact fP
def o6 (x:Int) (k n:Nat):List (List D):=List.replicate k [.v (.int .i64 x)] ++ List.replicate (n - k) [.v (.int .i64 0)]
theorem Wa {x:Int} {k n:Nat} (h:k<=n):(o6 x k n).length=n:=by simp[o6];omega
theorem aii (x:Int) (n:Nat):List.replicate n [D.v (.int .i64 0)]=o6 x 0 n:=by simp[o6]
theorem aie (x:Int) (n:Nat):o6 x n n=List.replicate n [.v (.int .i64 x)]:=by simp[o6]
theorem aih {x:Int} {n:Nat} (h:1<=n):oN (o6 x 0 n) [[.v (.int .i64 x)]] 0 n=o6 x 1 n:=by
 have e:[[D.v (.int .i64 x)]].take n=[[.v (.int .i64 x)]]:=sh (by simpa using h);simp[oN,o6,e]
theorem Wb {x:Int} {k n:Nat}:(o6 x k n).take k=List.replicate k [.v (.int .i64 x)]:=by
 unfold o6;rw[anh ak,sh ak]
theorem aif {x:Int} {k n:Nat} (h:k<=n):oN (o6 x k n) (List.replicate k [.v (.int .i64 x)]) k (n - k)=o6 x (k+min (n - k) k) n:=by
 unfold oN;rw[Wb,List.take_replicate,List.length_replicate]
 have e:(o6 x k n).drop (k+min (n - k) k)=List.replicate (n - (k+min (n - k) k)) [.v (.int .i64 0)]:=by
  unfold o6;rw[List.drop_append,amH ak,ang,List.length_replicate,List.drop_replicate];congr 1;omega
 rw[e];unfold o6;rw[List.replicate_append_replicate]
theorem aij (G:aB) (x:Int) (n:Nat) (h1:1<=n) (h2:n<=2^20):MC prog G [] 73 [.d (.sl none [[.v (.int .i64 x)]]),.d (ab n)] (aw []) (.own 601 0 n) (aw [(601,.sl 3 1 (List.replicate n [.v (.int .i64 x)]))]):=by
 have hm:=mul_one G n aa;have w2:=U8 n aa;have hz:=aii x n;have ho:=aih (x:=x) h1
 have h0:¬ (n:Int) < 0:=aa
 have hb:¬ (n:Int) > 9223372036854775807:=aa
 have rK:[[D.v (.int .i64 x)]].take n=[[.v (.int .i64 x)]]:=sh (by simpa using h1);simp only[dU,ab]at hm ⊢;refine MC.aO (ay _) func73 rfl rfl (rs:=[.tmp 4]) results73 (by simp[ntmps73]) rfl fun X=>?_;simp only[ntmps73];have fw:=(Aq @Oj @w2);refine ae fw [0,1] [] ?_;refine ag fun K1 aF=>?_;have qf:=(Aq fw @h0);refine ax [0,1,10] [] ?_;refine bU ak ?_;refine aq (aF _ (bh fw hm [0,5,6] [] ?_));refine ag fun K2 au=>?_;have qf:=(Aq fw @hb);refine ax [0,6,26] [] ?_;refine bU (by simp<;>omega) ?_;refine aq (au _ ?_);have qf:=(Aq fw (Aq @mX.eq_1 (Aq @gL.eq_1 (Aq @gL.eq_2 @hz))));refine ax [0,7] [30] ?_;have qf:=(Aq fw (Aq @Wa (Aq @ho (Aq @rK @h1))));refine ax [7,8] [30] ?_;refine ag fun K3 aX=>ch (S:=Nat) (fun k=>1<=k/\k<=n) (fun k=>⟨bg [(7,.own 30 0 n),(8,int k)],aw [(30,.sl 3 1 (o6 x k n))]⟩) (fun k=>n - k) 1 ?_ ⟨aa,h1⟩ ?_
 .refine bo fw
 .rintro k ⟨bO,fW⟩;refine ag fun K4 b6=>?_;by_cases aG:k < n
  .have hl:=Wa (x:=x) fW;have LU:=aif (x:=x) fW;have dA:=Wb (x:=x) (k:=k) (n:=n);have qf:=(Aq fw @aG);refine ax [7,8,37] [30] ?_;refine bR (by simp<;>omega) ?_;refine aq (b6 _ (bf ?_))
   have ld:¬ k=n:=aa
   refine Yi (ay _) ah ([7]) (List.range 10) ah fun K' ao=>?_;(repeat refine aju rfl fun K2 au=>?_;simp[Oj,w2,hl,LU,dA,fW,ld];(repeat refine⟨aa,?_⟩);refine au _ ?_;clear au K2);refine ajv (ao _ ?_);(try simp only[aT,aW]);refine aZ.mk (k+min (n - k) k) ⟨aa,aa⟩ aa ?_;refine bo fw
  .obtain rfl:k=n:=aa
   refine ae fw [7,8,37] [30] ?_;refine bU ak ?_;refine bL (aX _ ?_);rw[aie];refine ae fw [4] [30] ?_;refine AW.imp (aL.eb (r:=30) (r':=601) bD ak) ?_;refine AW.st (by simp[iN,iM,Go.Av.eb,rZ];rfl) ?_;exact aY fw
def wU:List Int->Nat->AV
 | [],_=>.d (.sl none [])
 | _ :: T,m=>.own 20 m (T.length+1)
theorem Rk (G:aB) (p:aM) (aV:cO p=none) (lE:(bl p).length<=6) (hP:bT (bF p)<=4096):aD prog G 28 [nQ p] (.bz [gd (gl (aS p)),.v .nilIface]):=by
 have ht:=yD aV;have qL:=ht.pos;have hlen:=rX p;have om:0 < bT (bF p):=o4 fun x hx=>(nJ (gb aV) hx).m2;have rE:∀ O,rf (aS p) O []->O=gl (aS p):=fun O h=>KY (Df h) (tm ht);have dW:=Ks ht
 have xO:∀ s (h:s < (aS p).length),(aS p)[s].length<=64:=fun s h=>by
  rw[Ct h,yo];have:=amP (n:=2) bD lE;omega
 have oT:=Cv (aS p)
 have j6:∀ s (h:s < (aS p).length),(eW (aS p))[s]? = some [gd (aS p)[s]]:=fun s h=>by simp[eW,h]
 have B0:=fun n (h1:1<=n) (h2:n<=2^20)=>aij G (-1) n h1 h2
 have hcast:((aS p).length:Int)=bT (bF p):=by rw[hlen];omega
 simp only[nQ,pV,sc,ck,eZ,oO,gd,ab]at j6 B0 ⊢;rw[<- hcast]
 have rH:(aS p).length<=4096:=aa
 generalize gl (aS p)=F at *;generalize eW (aS p)=NX at *;generalize aS p=TN at *;clear hlen hcast;generalize ((bl p).map fun n=>[D.v (.int .i64 n)])=IN at *;generalize (bF p).map jc=PT at *;generalize p.names.map bw=NN at *;generalize p.aC.map de=RR at *;obtain⟨N,hN⟩:∃ N:Nat,TN.length=N:=⟨_,rfl⟩;rw[hN]at oT rH qL dW ⊢;have xP:=B0 N aa aa
 have acU:0 < N:=aa
 refine aD.aO (ay _) func28 rfl rfl (rs:=[.tmp 2,.tmp 3]) results28 (by simp[ntmps28]) fun X=>?_;simp only[ntmps28,List.map];have fw:=@an8;refine ae fw [0] [] ?_;refine ag fun K1 aF=>ae fw [0,10] [] ?_;refine al (aq (aF _ ?_));refine rg [0,4] [601] aQ fun K' ao=>?_;(repeat refine aK fun Kq af=>?_;simp[ab];(repeat refine⟨aa,?_⟩);refine af _ ?_);refine aK fun Kq af=>?_;simp[ab];refine cZ.zc 12 (by first | rfl | (simp[ab];rfl)) trivial ?_;simp[ab];refine cZ.mc (xP) ?_ ?_ ?_ ?_ ?_<;>simp[ab];refine af _ ?_;(repeat refine aK fun Kq af=>?_;simp[ab];(repeat refine⟨aa,?_⟩);refine af _ ?_);refine bH (ao _ (AW.st (by simp[ab];rfl) ?_));have qf:=(Aq fw @acU);refine ax [0,4] [601] ?_;refine ag fun K2 au=>ae fw [0,4,5] [601,20] ?_;refine ch (S:=List Int×List Int×List (List D)) (fun s=>rf TN s.1 s.2.1) (fun s=>⟨bg [(0,.d (.ip [.sl none NN,.sl none RR,.v (.int .i64 N),.v (.int .i64 (fS p)),.sl none NX,.sl none PT,.sl none IN])),(4,.own 601 0 N),(5,wU s.2.1 s.2.2.length)],aw [(601,.sl 3 1 (s.1.map fun n=>[.v (.int .i64 n)])),(20,.sl 3 1 (s.2.2 ++ s.2.1.map fun n=>[.v (.int .i64 n)]))]⟩) (fun s=>2 * mh s.1+s.2.1.length) ((List.replicate N (-1)).set 0 0,[0],[]) ?_ dW ?_
 .refine aL.ek aQ (by simp[ab,amt,amO,wU]) (by simp[ab,amt,amO,wU])
 .rintro⟨O,T,pr⟩ hb;dsimp only at hb ⊢;refine ag fun K3 aX=>?_
  cases T with
  | nil=>
   simp only[wU];refine ae fw [0,4,5,23] [601,20] ?_;refine bU ak ?_;refine bL (au _ ?_);obtain rfl:=rE O hb
   have xy:(O.map fun n=>[D.v (.int .i64 n)]).length=N:=by rw[amT,hb.len,hN]
   refine AW.imp (aL.freeze 601 trivial) ?_;refine AW.st (by simp[ab,xy,sh];rfl) ?_;refine ae fw [2,3] [20] ?_;exact aY fw
  | cons t T=>
   obtain⟨h0,h1,h2⟩:=hb.mem t ak;obtain⟨s,rfl⟩:=ami h0
   have EB:s < N:=aa
   have qd:s < TN.length:=aa
   have cW:(T.length:Int)+1 > 0:=aa
   simp only[wU];have qf:=(Aq fw @cW);refine ax [0,4,5,23] [601,20] ?_;refine bR (by simp<;>omega) ?_;refine aq (aX _ (ag fun K4 b6=>bf ?_));have qA:=j6 s qd
   have l8:s < NX.length:=aa
   have sq:NX[s]=[.sl none (TN[s].map fun n=>[.v (.int .i64 n)])]:=by
    rw[AT l8]at qA;exact AI qA
   have gz:=ht.mem _ (By qd);have abH:=xO s qd;have eg:∃ R,TN[s]=R:=⟨_,rfl⟩;obtain⟨R,hR⟩:=eg
   have eC:∀ k (h:k < R.length),(R.map fun n=>[D.v (.int .i64 n)])[k]? = some [.v (.int .i64 R[k])]:=fun k h=>by simp[h]
   have BP:(pr ++ List.map (fun n=>[D.v (.int .i64 n)]) ((s:Int) :: T))[pr.length]? = some [.v (.int .i64 s)]:=ak
   have SZ:(pr ++ List.map (fun n=>[D.v (.int .i64 n)]) ((s:Int) :: T)).length=pr.length+(T.length+1):=ak
   rw[hR]at sq gz abH
   have c6:(R.map fun n=>[D.v (.int .i64 n)]).length=R.length:=ak
   have Hb:2 * mh O+T.length<=2 * mh O+T.length:=amh _;generalize hM:2 * mh O+T.length=M at Hb
   have hMd:2 * mh O+((s:Int) :: T).length=M+1:=by simp;omega
   generalize DR:pr ++ List.map (fun n=>[D.v (.int .i64 n)]) ((s:Int) :: T)=F3 at BP SZ ⊢;obtain⟨sx,BP⟩:=BY.1 BP;have qf:=(Aq fw (Aq @sx (Aq @BP @SZ)));refine ax [0,4,5,6] [601,20] ?_;have qf:=(Aq fw (Aq @l8 @sq));refine ax [0,4,5,6,35,36,37] [601,20] ?_;subst DR;refine ch (S:=Nat×List Int×List Int×List (List D)) (fun q=>q.1<=R.length/\rf TN q.2.1 ((s:Int) :: q.2.2.1)/\(∀ t∈R.take q.1,mi q.2.1 s t)/\2 * mh q.2.1+q.2.2.1.length<=M) (fun q=>⟨bg [(0,.d (.ip [.sl none NN,.sl none RR,.v (.int .i64 N),.v (.int .i64 (fS p)),.sl none NX,.sl none PT,.sl none IN])),(4,.own 601 0 N),(5,.own 20 q.2.2.2.length (q.2.2.1.length+1)),(6,int s),(35,.d (.sl none (R.map fun n=>[.v (.int .i64 n)]))),(36,int R.length),(37,int q.1)],aw [(601,.sl 3 1 (q.2.1.map fun n=>[.v (.int .i64 n)])),(20,.sl 3 1 (q.2.2.2 ++ [.v (.int .i64 s)] :: q.2.2.1.map fun n=>[.v (.int .i64 n)]))]⟩) (fun q=>R.length - q.1) (0,O,T,pr) ?_ ⟨ak,hb,ak,by dsimp only;omega⟩ ?_
   .refine bo fw
   .rintro⟨k,O2,T2,Ft⟩ ⟨hk,fk,cf,xJ⟩;dsimp only at hk fk cf xJ ⊢;have Mg:=fk.KZ;simp only[amo]at Mg
    have hT2:T2.length+1<=4096:=aa
    have Hf:(O2.map fun n=>[D.v (.int .i64 n)]).length=N:=by rw[amT,fk.len,hN]
    refine ae fw [0,4,5,6,35,36,37,38] [601,20] ?_;refine ag fun K5 b5=>eY (b:=k < R.length) (by simp[D.le,D.le.go,aP,ab]) (fun hc=>?_) (fun hc=>?_)
    .refine aq (b5 _ (ag fun K6 dy=>bf ?_));obtain⟨v0,v1⟩:=gz R[k] (By hc);obtain⟨u,hu⟩:=ami v0
     have ou:u < N:=aa
     have qe:u < O2.length:=by rw[fk.len,hN];exact ou
     have TD:s < O2.length:=by rw[fk.len,hN];exact EB
     have aR:(u:Int)∈TN[s]:=by rw[hR,<- hu];exact By hc
     have dA:R.take (k+1)=R.take k ++ [(u:Int)]:=by rw[aml hc,hu]
     have eV:=(fk.mem (s:Int) ak).2.2;simp only[amd]at eV;have wA:=fk.hi s qd;have htp:=fk.top _ rfl u aa;simp only[amd]at htp
     have mL:0<=((O2.countP fun x=>decide (x < 0):Nat):Int):=aa
     have qf:=(Aq fw (Aq @hc @hu));refine ax [0,4,5,6,8,35,36,37] [601,20] ?_;by_cases iY:O2.getD u 0 < 0
     .have Tw:=Qz fk qd aa aR iY;have hng:=IJ (x:=O2.getD s 0+1) qe iY aa
      have Nc:u≠s:=fun e=>by subst e;omega
      have HP:∀ t∈R.take (k+1),mi (O2.set u (O2.getD s 0+1)) s t:=fun t h=>by
       rw[dA]at h
       rcases amq.1 h with h | h
       .exact Fk (cf t h) eV iY
       .obtain rfl:=amD.1 h;unfold mi;rw[amd,kK qe,gV Nc];omega
      rw[dw qe]at iY;rw[dw TD]at Tw hng HP eV wA;generalize wv:O2[u]=ov at iY;generalize pC:O2[s]=sv at *
      have SU:List.take (T2.length+1) (List.drop Ft.length (Ft ++ [D.v (.int .i64 s)] :: T2.map fun n=>[D.v (.int .i64 n)]))=[D.v (.int .i64 s)] :: T2.map fun n=>[D.v (.int .i64 n)]:=by
       rw[List.drop_left,sh ak]
      have qf:=(Aq fw (Aq @qe (Aq @ou (Aq @wv @iY))));refine ax [0,4,5,6,8,35,36,37,45] [601,20] ?_;refine bR (by simp<;>omega) ?_;have qf:=(Aq fw (Aq @qe (Aq @TD (Aq @ou (Aq @EB @pC)))));refine ax [0,4,5,6,8,35,36,37] [601,20] ?_;refine Yu (ay _) fun K' ao=>?_;(repeat refine ajD fun Kq af=>?_;simp[ab,SU];(repeat refine⟨aa,?_⟩);(first | refine af _ ?_ | (intro pre;refine af _ ?_)));refine ajE (ao _ ?_);refine dy _ (AW.norm [0,4,5,6,35,36,37] [601,20] aQ (AW.st (by simp[ab,SU];rfl) ?_));refine cA fw ?_;(try simp only[aT,aW]);refine aZ.mk (k+1,O2.set u (sv+1),T2 ++ [(u:Int)],pre) ⟨by dsimp only;omega,Tw,HP,by dsimp only;rw[amp];simp only[amo,am2];omega⟩ (by dsimp only;omega) ?_;refine aL.ek aQ (by simp[ab,amt,sh]) (by simp[ab,amt,sh])
     .have HP:∀ t∈R.take (k+1),mi O2 s t:=fun t h=>by
       rw[dA]at h
       rcases amq.1 h with h | h
       .exact cf t h
       .obtain rfl:=amD.1 h;unfold mi;rw[amd];omega
      rw[dw qe]at iY;generalize wv:O2[u]=ov at iY;have qf:=(Aq fw (Aq @qe (Aq @ou (Aq @wv @iY))));refine ax [0,4,5,6,8,35,36,37,45] [601,20] ?_;refine bU (by simp<;>omega) ?_;refine aq (dy _ (cA fw ?_));(try simp only[aT,aW]);refine aZ.mk (k+1,O2,T2,Ft) ⟨by dsimp only;omega,fk,HP,xJ⟩ (by dsimp only;omega) ?_;refine bo fw
    .obtain rfl:k=R.length:=aa
     rw[sh (amh _)]at cf;have Tt:=Kr fk qd (by rw[hR];exact cf)
     cases T2 with
     | nil=>
      refine bL (b6 _ (cA fw ?_));(try simp only[aT,aW]);refine aZ.mk (O2,[],Ft ++ [[D.v (.int .i64 s)]]) Tt (by dsimp only;omega) ?_;refine aL.ek aQ (by simp[ab,wU]) (by simp[ab,wU])
     | cons u T3=>
      have bq:¬ (1:Int)=(T3.length:Int)+1+1:=aa
      refine bL (b6 _ ?_);have qf:=(Aq fw @bq);refine CG ?_;(try simp only[aT,aW]);refine aZ.mk (O2,u :: T3,Ft ++ [[D.v (.int .i64 s)]]) Tt (by dsimp only;omega) ?_;refine aL.ek aQ (by simp[ab,wU]) (by simp[ab,wU])
structure yM (C:List AV) (n kk N:Nat) (L:List Bool):Prop where
 len:C.length=n
 lt:kk < n
 at':∀ h:kk < C.length,C[kk] = .d (.sl none (L.map fun b=>[.v (.bool b)]))
 tr:∀ o f:Nat->Nat->Nat->AV,o 73 0 N = .own 73 0 N->C.map (AV.tr o f)=C
 kill:∀ r,r≠73->C.map (AV.kill r)=C
theorem ahP (G:aB) {n kk N:Nat} {C:List AV} {L:List Bool} (hC:yM C n kk N L) (r:List (List D)) (hn:n<=2^20) (x:Nat) (hx:x < L.length):MC prog G [8,9,46,73] 75 [.d (.v (.int .i64 x)),.ref 8 0 0,.ref 9 0 0] (aw [(8,.box 31 [.own 46 0 n]),(9,.box 3 [.d (.v (.int .i64 ((kk:Int)+1)))]),(46,.box 51 C),(73,.sl 4 1 r)]) (.d (.v (.bool L[x]))) (aw [(8,.box 31 [.own 46 0 n]),(9,.box 3 [.d (.v (.int .i64 ((kk:Int)+1)))]),(46,.box 51 C),(73,.sl 4 1 r)]):=by
 have hl:=hC.len;have aG:=hC.lt
 have dV:kk < C.length:=aa
 have ha:=hC.at' dV;have iI:=hC.tr;generalize hb:L[x]=b;refine MC.aO (ay _) func75 rfl rfl (rs:=[.tmp 4]) results75 (by simp[ntmps75]) rfl fun X=>?_;simp only[ntmps75];have fw:=@iI;refine ae fw [0,1,2] [8,9,46,73] ?_;have qf:=(Aq fw (Aq @hl (Aq @aG (Aq @dV (Aq @ha (Aq @hx @hb))))));refine ax [4] [8,9,46,73] ?_;exact aY (Aq fw @iI)
theorem ahQ (G:aB) {n kk N:Nat} {C:List AV} {L:List Bool} (hC:yM C n kk N L) (hD:∀ o f:Nat->Nat->Nat->AV,C.map (AV.tr o f)=C) (hn:n<=2^20) (x:Nat) (hx:x < L.length):MC prog G [8,14,46] 77 [.d (.v (.int .i64 x)),.ref 8 0 0,.ref 14 0 0] (aw [(8,.box 31 [.own 46 0 n]),(14,.box 3 [.d (.v (.int .i64 ((kk:Int)+1)))]),(46,.box 51 C)]) (.d (.v (.bool L[x]))) (aw [(8,.box 31 [.own 46 0 n]),(14,.box 3 [.d (.v (.int .i64 ((kk:Int)+1)))]),(46,.box 51 C)]):=by
 have hl:=hC.len;have aG:=hC.lt
 have dV:kk < C.length:=aa
 have ha:=hC.at' dV;have iI:=hD;generalize hb:L[x]=b;refine MC.aO (ay _) func77 rfl rfl (rs:=[.tmp 4]) results77 (by simp[ntmps77]) rfl fun X=>?_;simp only[ntmps77];have fw:=@iI;refine ae fw [0,1,2] [8,14,46] ?_;have qf:=(Aq fw (Aq @hl (Aq @aG (Aq @dV (Aq @ha (Aq @hx @hb))))));refine ax [4] [8,14,46] ?_;exact aY (Aq fw @iI)
theorem adB (G:aB) {n kk N:Nat} {C:List AV} {L:List Bool} (hC:yM C n kk N L) (r:List (List D)) (hn:n<=2^20) (xs:List Int) (hx:∀ x∈xs,0<=x/\x < L.length) (hl:xs.length < 2^40):MC prog G [8,9,46,73] 76 [.d (.sl none (xs.map fun n=>[.v (.int .i64 n)])),.fn (.func 75) [.ref 8 0 0,.ref 9 0 0]] (aw [(8,.box 31 [.own 46 0 n]),(9,.box 3 [.d (.v (.int .i64 ((kk:Int)+1)))]),(46,.box 51 C),(73,.sl 4 1 r)]) (.d (.v (.int .i64 (idx (fun x:Int=>L.getD x.toNat false) xs)))) (aw [(8,.box 31 [.own 46 0 n]),(9,.box 3 [.d (.v (.int .i64 ((kk:Int)+1)))]),(46,.box 51 C),(73,.sl 4 1 r)]):=by
 have hp:=fun (x:Int) (h:x∈xs)=>(show MC prog G [8,9,46,73] 75 [.d (.v (.int .i64 x)),.ref 8 0 0,.ref 9 0 0] (aw [(8,.box 31 [.own 46 0 n]),(9,.box 3 [.d (.v (.int .i64 ((kk:Int)+1)))]),(46,.box 51 C),(73,.sl 4 1 r)]) (.d (.v (.bool (L.getD x.toNat false)))) (aw [(8,.box 31 [.own 46 0 n]),(9,.box 3 [.d (.v (.int .i64 ((kk:Int)+1)))]),(46,.box 51 C),(73,.sl 4 1 r)]) by
  obtain⟨h0,h1⟩:=hx x h;obtain⟨u,rfl⟩:=ami h0;rw[amd,dw aa]
  exact ahP G hC r hn u aa)
 have iI:=hC.tr;refine MC.aO (ay _) func76 rfl rfl (rs:=[.tmp 4]) results76 (by simp[ntmps76]) rfl fun X=>?_;simp only[ntmps76];have fw:=@iI;refine ae fw [0,1] [8,9,46,73] ?_;refine ag fun K1 aF=>ae fw [0,1,7,8] [8,9,46,73] ?_;refine ch (S:=Nat) (fun n=>n<=xs.length/\∀ i (hi:i < xs.length),i < n->(L.getD xs[i].toNat false)=false) (fun n_1=>⟨bg [(0,.d (.sl none (xs.map fun n=>[.v (.int .i64 n)]))),(1,.fn (.func 75) [.ref 8 0 0,.ref 9 0 0]),(7,int xs.length),(8,int n_1)],aw [(8,.box 31 [.own 46 0 n]),(9,.box 3 [.d (.v (.int .i64 ((kk:Int)+1)))]),(46,.box 51 C),(73,.sl 4 1 r)]⟩) (fun n=>xs.length - n) 0 ?_ ak ?_
 .refine bo (Aq fw @iI)
 .rintro j ⟨hj,nD⟩;refine ae fw [0,1,7,8,9] [8,9,46,73] ?_;refine ag fun K2 au=>eY (b:=j < xs.length) (by simp[D.le,D.le.go,aP,iI]) (fun hc=>?_) (fun hc=>?_)
  .refine aq (au _ (ag fun K3 aX=>bf ?_));have jv:=hp _ (By hc);have hit:=fun gZ=>uN (p:=fun x:Int=>L.getD x.toNat false) hc gZ fun i hi=>nD i aa hi;generalize qD:L.getD xs[j].toNat false=bv at jv hit;refine ae fw [0,1,5,7,8] [8,9,46,73] ?_;have qf:=(Aq fw @hc);refine ko jv [0,1,5,7,8,16] [8,9,46,73] ?_
   cases bv with
   | true=>
    refine aJ ?_;rw[hit rfl];refine ae fw [4] [8,9,46,73] ?_;exact aY (Aq fw @iI)
   | false=>
    refine al (aq (aX _ ?_));refine cA fw ?_;(try simp only[aT,aW]);refine aZ.mk (j+1) ⟨aa,fun i hi aR=>?_⟩ aa ?_
    .by_cases h:i=j
     .subst h;exact qD
     .exact nD i hi aa
    refine bo (Aq fw @iI)
  .refine bL (aF _ ?_);have MM:=uO (p:=fun x:Int=>L.getD x.toNat false) (l:=xs) fun i hi=>nD i hi aa;rw[MM];refine ae fw [4] [8,9,46,73] ?_;exact aY (Aq fw @iI)
theorem aab (G:aB) {n kk N:Nat} {C:List AV} {L:List Bool} (hC:yM C n kk N L) (r:List (List D)) (hn:n<=2^20) (xs:List Int) (hx:∀ x∈xs,0<=x/\x < L.length) (hl:xs.length < 2^40):MC prog G [8,9,46,73] 74 [.d (.sl none (xs.map fun n=>[.v (.int .i64 n)])),.fn (.func 75) [.ref 8 0 0,.ref 9 0 0]] (aw [(8,.box 31 [.own 46 0 n]),(9,.box 3 [.d (.v (.int .i64 ((kk:Int)+1)))]),(46,.box 51 C),(73,.sl 4 1 r)]) (.d (.v (.bool (A3 xs L)))) (aw [(8,.box 31 [.own 46 0 n]),(9,.box 3 [.d (.v (.int .i64 ((kk:Int)+1)))]),(46,.box 51 C),(73,.sl 4 1 r)]):=by
 have hi:=adB G hC r hn xs hx hl;have iI:=hC.tr;have he:decide (0<=idx (fun x:Int=>L.getD x.toNat false) xs)=A3 xs L:=Ib _ _;rw[<- he];generalize idx (fun x:Int=>L.getD x.toNat false) xs=ix at hi ⊢;generalize (xs.map fun n=>[D.v (.int .i64 n)])=XS at *;refine MC.aO (ay _) func74 rfl rfl (rs:=[.tmp 4]) results74 (by simp[ntmps74]) rfl fun X=>?_;simp only[ntmps74];have fw:=@iI;refine ae fw [0,1] [8,9,46,73] ?_;refine bK fw hi [4] [8,9,46,73] ?_;exact aY (Aq fw @iI)
theorem adC (G:aB) {n kk N:Nat} {C:List AV} {L:List Bool} (hC:yM C n kk N L) (hD:∀ o f:Nat->Nat->Nat->AV,C.map (AV.tr o f)=C) (hn:n<=2^20) (xs:List Int) (hx:∀ x∈xs,0<=x/\x < L.length) (hl:xs.length < 2^40):MC prog G [8,14,46] 76 [.d (.sl none (xs.map fun n=>[.v (.int .i64 n)])),.fn (.func 77) [.ref 8 0 0,.ref 14 0 0]] (aw [(8,.box 31 [.own 46 0 n]),(14,.box 3 [.d (.v (.int .i64 ((kk:Int)+1)))]),(46,.box 51 C)]) (.d (.v (.int .i64 (idx (fun x:Int=>L.getD x.toNat false) xs)))) (aw [(8,.box 31 [.own 46 0 n]),(14,.box 3 [.d (.v (.int .i64 ((kk:Int)+1)))]),(46,.box 51 C)]):=by
 have hp:=fun (x:Int) (h:x∈xs)=>(show MC prog G [8,14,46] 77 [.d (.v (.int .i64 x)),.ref 8 0 0,.ref 14 0 0] (aw [(8,.box 31 [.own 46 0 n]),(14,.box 3 [.d (.v (.int .i64 ((kk:Int)+1)))]),(46,.box 51 C)]) (.d (.v (.bool (L.getD x.toNat false)))) (aw [(8,.box 31 [.own 46 0 n]),(14,.box 3 [.d (.v (.int .i64 ((kk:Int)+1)))]),(46,.box 51 C)]) by
  obtain⟨h0,h1⟩:=hx x h;obtain⟨u,rfl⟩:=ami h0;rw[amd,dw aa]
  exact ahQ G hC hD hn u aa)
 have iI:=hD;refine MC.aO (ay _) func76 rfl rfl (rs:=[.tmp 4]) results76 (by simp[ntmps76]) rfl fun X=>?_;simp only[ntmps76];have fw:=@iI;refine ae fw [0,1] [8,14,46] ?_;refine ag fun K1 aF=>ae fw [0,1,7,8] [8,14,46] ?_;refine ch (S:=Nat) (fun n=>n<=xs.length/\∀ i (hi:i < xs.length),i < n->(L.getD xs[i].toNat false)=false) (fun n_1=>⟨bg [(0,.d (.sl none (xs.map fun n=>[.v (.int .i64 n)]))),(1,.fn (.func 77) [.ref 8 0 0,.ref 14 0 0]),(7,int xs.length),(8,int n_1)],aw [(8,.box 31 [.own 46 0 n]),(14,.box 3 [.d (.v (.int .i64 ((kk:Int)+1)))]),(46,.box 51 C)]⟩) (fun n=>xs.length - n) 0 ?_ ak ?_
 .refine bo (Aq fw @iI)
 .rintro j ⟨hj,nD⟩;refine ae fw [0,1,7,8,9] [8,14,46] ?_;refine ag fun K2 au=>eY (b:=j < xs.length) (by simp[D.le,D.le.go,aP,iI]) (fun hc=>?_) (fun hc=>?_)
  .refine aq (au _ (ag fun K3 aX=>bf ?_));have jv:=hp _ (By hc);have hit:=fun gZ=>uN (p:=fun x:Int=>L.getD x.toNat false) hc gZ fun i hi=>nD i aa hi;generalize qD:L.getD xs[j].toNat false=bv at jv hit;refine ae fw [0,1,5,7,8] [8,14,46] ?_;have qf:=(Aq fw @hc);refine ko jv [0,1,5,7,8,16] [8,14,46] ?_
   cases bv with
   | true=>
    refine aJ ?_;rw[hit rfl];refine ae fw [4] [8,14,46] ?_;exact aY (Aq fw @iI)
   | false=>
    refine al (aq (aX _ ?_));refine cA fw ?_;(try simp only[aT,aW]);refine aZ.mk (j+1) ⟨aa,fun i hi aR=>?_⟩ aa ?_
    .by_cases h:i=j
     .subst h;exact qD
     .exact nD i hi aa
    refine bo (Aq fw @iI)
  .refine bL (aF _ ?_);have MM:=uO (p:=fun x:Int=>L.getD x.toNat false) (l:=xs) fun i hi=>nD i hi aa;rw[MM];refine ae fw [4] [8,14,46] ?_;exact aY (Aq fw @iI)
end Go.Proofs.YtobejfcgcfdpfaaGreatDoor
namespace Go.Av
section
variable {P:Program} {T:Ty} {Mv X:Nat->Prop} {G:aB} {N:Fr} {ops:Array Oper} {σ:St}
def J6 (P:Program) (T:Ty) (Mv:Nat->Prop) (G:aB) (N:Fr) (qc:List Nat) (ops:Array Oper) (i:Nat) (o:Oper) (σ aH:St):Prop:=
 (qc.contains i=true/\fb N o/\o.guard=none/\∃ c g xs y,eD o.op=some c/\kV G σ.env c=some (g,xs)/\HC P G [] g xs σ.H (.d y) σ.H/\aH=⟨aN σ.env o.dst (.d y),σ.H⟩)\/
 (qc.contains i=false/\ri P T Mv G N [] [] [] [] ops i o σ aH)
def Gp (qc:List Nat) (ops:Array Oper) (i j:Nat) (oi oj:Oper):Bool:=
 if qc.contains i then !qc.contains j && decide (kindOf oj.op<=1) && oi.apart ops oj else if qc.contains j then decide (kindOf oi.op<=1) && oi.apart ops oj else Dj [] [] [] ops i j oi oj
theorem ahR (hg:Good P T) (qc:List Nat):Sound P X G N Mv (J6 P T Mv G N qc ops) ops:=fun i o ho σ aH h w μ a hi Q K hk=>by
 rcases h with⟨_,hd,dJ,c,g,xs,y,hc,ht,fQ,rfl⟩ | ⟨_,h⟩
 .have fU:∀ d,o.dst=some d->d < N.n:=fun d e=>by unfold fb at hd;rw[e]at hd;exact hd
  unfold wpOpIn;simp only[ho];rw[u7 hi (lM dJ),if_pos rfl];refine (Du (Mv:=Mv) (K:=fun ba=>ba=⟨aN σ.env o.dst (.d y),σ.H⟩) hg hi fU ?_ fun w' aI a' ba e aR bd=>hk w' aI a' (e ▸ aR) bd);unfold nR;simp only[hc,ht]
  exact (fQ Mv X N σ.env (fun r hr=>by cases hr) (fun r hr=>by cases hr)).mono fun x aH ⟨e1,e2⟩=>by rw[e1,e2]
 .exact IH hg [] [] [] [] i o ho _ _ h w μ a hi hk
theorem U7 {i:Nat} {o:Oper} {σ aH:St} (hk:kindOf o.op<=1) (h:ri P T Mv G N [] [] [] [] ops i o σ aH):fb N o/\o.guard=none/\∃ x,Ex P T Mv G o σ.env σ.H x σ.H/\aH=⟨aN σ.env o.dst x,σ.H⟩:=by
 obtain⟨hd,dJ,_,h⟩:=h
 rcases h with⟨b,_⟩ | ⟨_,b,_⟩ | ⟨_,_,k1,_,x,H',e1,_,rfl⟩
 .cases b
 .cases b
 .obtain rfl:=e1.keeps aa;exact⟨hd,dJ,x,e1,rfl⟩
theorem U6 {i:Nat} {o:Oper} {e:Env} {H:Heap} {x:AV} (hk:kindOf o.op<=1) (hd:fb N o) (dJ:o.guard=none) (h:Ex P T Mv G o e H x H):ri P T Mv G N [] [] [] [] ops i o ⟨e,H⟩ ⟨aN e o.dst x,H⟩:=
 ⟨hd,dJ,(fun r hr=>by cases hr),.inr (.inr ⟨rfl,rfl,aa,(by simp[qj,List.lookup]),x,H,h,(fun r hr=>by cases hr),rfl⟩)⟩
theorem ahS (qc:List Nat):wZ (J6 P T Mv G N qc ops) (Gp qc ops) ops:=fun i j oi oj ir fM hc σ ba iB h1 h2=>by
 unfold Gp at hc;have tg:∀ {o:Oper} {c:Call} {e e':Env},eD o.op=some c->gU o.op e e'->kV G e c=kV G e' c:=fun {o c e e'} hc ha=>AM fun t ht=>ha t (by rw[(wF hc).1];exact ht)
 have fact:∀ (eO:oi.apart ops oj=true),(∀ v,gU oj.op (aN σ.env oi.dst v) σ.env)/\(∀ v,gU oi.op σ.env (aN σ.env oj.dst v))/\_:=fun eO=>
  ⟨fun v t ht=>(jz eO (e:=σ.env) (v:=v)).1 t (lk ht),fun v t ht=>((jz eO (e:=σ.env) (v:=v)).2.1 t (lk ht)).symm,(jz eO (e:=σ.env) (v:=dI)).2.2⟩
 rcases h1 with⟨ai,di,gi,c,g,xs,y,ci,ti,cH,rfl⟩ | ⟨ai,h1⟩
 .rw[if_pos ai]at hc;simp only[OF,ant,decide_eq_true_eq]at hc;obtain⟨⟨aj,kj⟩,eO⟩:=hc;obtain⟨ft,fZ,bq⟩:=fact eO
  rcases h2 with⟨bj,_⟩ | ⟨_,h2⟩
  .rw[aj]at bj;cases bj
  obtain⟨dj,gj,z,e2,rfl⟩:=U7 kj h2;have e3:Ex P T Mv G oj σ.env σ.H z σ.H:=e2.congr aa (ft _);refine⟨⟨aN σ.env oj.dst z,σ.H⟩,.inr ⟨aj,U6 kj dj gj e3⟩,.inl ⟨ai,di,gi,c,g,xs,y,ci,?_,cH,?_⟩⟩
  .rw[<- tg ci (fZ z)];exact ti
  .dsimp only;rw[iL bq]
 .rw[if_neg (by rw[ai];decide)]at hc
  rcases h2 with⟨bj,dj,gj,c,g,xs,y,cj,tj,cH,rfl⟩ | ⟨bj,h2⟩
  .rw[if_pos bj]at hc;simp only[OF,decide_eq_true_eq]at hc;obtain⟨ki,eO⟩:=hc;obtain⟨ft,fZ,bq⟩:=fact eO;obtain⟨di,gi,z,e1,rfl⟩:=U7 ki h1;have e3:Ex P T Mv G oi (aN σ.env oj.dst (.d y)) σ.H z σ.H:=e1.congr aa (fZ _);refine⟨⟨aN σ.env oj.dst (.d y),σ.H⟩,.inl ⟨bj,dj,gj,c,g,xs,y,cj,?_,cH,rfl⟩,.inr ⟨ai,?_⟩⟩
   .rw[<- tg cj (ft z)];exact tj
   .dsimp only;rw[iL bq];exact U6 ki di gi e3
  .rw[if_neg (by rw[bj];decide)]at hc;obtain⟨jK,f1,f2⟩:=Oi [] [] [] [] i j oi oj ir fM hc σ ba iB h1 h2;exact⟨jK,.inr ⟨bj,f1⟩,.inr ⟨ai,f2⟩⟩
theorem MF {a b:List (Nat×Row)} (h1:∀ p∈a,List.lookup p.1 a=List.lookup p.1 b) (h2:∀ p∈b,List.lookup p.1 a=List.lookup p.1 b):aw a=aw b:=by
 funext q;unfold aw
 have uZ:∀ (l:List (Nat×Row)),(∀ p∈l,p.1≠q)->List.lookup q l=none:=by
  intro l
  induction l with
  | nil=>intro _;rfl
  | cons p l ih=>
   intro h;rw[List.lookup_cons]
   have:(q == p.1)=false:=by
    rw[beq_eq_false_iff_ne];exact fun e=>h p ak e.symm
   rw[this];exact ih fun p hp=>h p (by simp[hp])
 by_cases ha:∃ p∈a,p.1=q
 .obtain⟨p,hp,rfl⟩:=ha;exact h1 p hp
 .by_cases hb:∃ p∈b,p.1=q
  .obtain⟨p,hp,rfl⟩:=hb;exact h2 p hp
  .rw[uZ a fun p hp e=>ha ⟨p,hp,e⟩,uZ b fun p hp e=>hb ⟨p,hp,e⟩]
def HT (P:Program) (G:aB) (g:FuncId) (xs:List AV) (σ:St) (dst:Option Tmp) (K:St->Prop):Prop:=∃ y,HC P G [] g xs σ.H (.d y) σ.H/\K ⟨aN σ.env dst (.d y),σ.H⟩
theorem HT.mc {dst:Option Tmp} {K:St->Prop} {fx:List Nat} {g:FuncId} {pb xs:List AV} {cq:List (Nat×Row)} {y:D} (hc:MC P G fx g xs (aw cq) (.d y) (aw cq)) (hx:pb.map (AV.tr (fY (cq.map (·.1))) (fX (cq.map (·.1))))=xs)
  (hH:∀ p∈cq,(σ.H p.1).map (Row.tr (fY (cq.map (·.1))) (fX (cq.map (·.1))))=aw cq p.1) (hd:∀ p∈cq,(cq.map (·.1)).contains p.1=true\/σ.H p.1=none) (hm:∀ r∈cq.map (·.1),fx.contains r=false->r∈([]:List Nat))
  (hj:oX (aw cq) (fi (gB (cq.map (·.1))) (oG (cq.map (·.1)) fx) (oF (cq.map (·.1)) fx) σ.H)=σ.H)
  (h:K ⟨aN σ.env dst (.d y),σ.H⟩):HT P G g pb σ dst K:=by
 refine⟨y,?_,h⟩;have:=HC.mc (mvd:=[]) (H:=σ.H) hc hx hH hd hm;rw[hj]at this;exact this
def FN (P:Program) (T:Ty) (Mv:Nat->Prop) (G:aB) (N:Fr) (qc:List Nat) (ops:Array Oper) (i:Nat) (o:Oper) (σ:St) (K:St->Prop):Prop:=
 if qc.contains i=true then fb N o/\o.guard=none/\match eD o.op with
  | some c=>match kV G σ.env c with
   | some (g,xs)=>HT P G g xs σ o.dst K
   | none=>False
  | none=>False
 else CM P T Mv G N [] [] [] [] ops i o σ K
def wT (P:Program) (T:Ty) (Mv:Nat->Prop) (G:aB) (N:Fr) (qc:List Nat) (ops:Array Oper) (K:St->Prop):List (Nat×Oper)->St->Prop
 | [],σ=>K σ
 | (i,o) :: rest,σ=>FN P T Mv G N qc ops i o σ (wT P T Mv G N qc ops K rest)
theorem ajC {qc:List Nat} {K:St->Prop}:∀ (l:List Nat) (σ:St),(∀ i∈l,i < ops.size)->wT P T Mv G N qc ops K (b8 ops l) σ->∃ cF,K cF/\ja (J6 P T Mv G N qc ops) ops l σ cF:=by
 intro l
 induction l with
 | nil=>intro σ _ h;exact⟨σ,h,rfl⟩
 | cons i l ih=>
  intro σ hl h;have hi:=hl i ak
  have ho:ops[i]? = some ops[i]:=by simp[hi]
  have aR:b8 ops (i :: l)=(i,ops[i]) :: b8 ops l:=by simp[b8,hi]
  rw[aR]at h;have h:FN P T Mv G N qc ops i ops[i] σ (wT P T Mv G N qc ops K (b8 ops l)):=h;unfold FN at h;split at h
  .rename_i ha;obtain⟨hd,dJ,h⟩:=h;split at h
   .rename_i c hc;split at h
    .rename_i g xs ht;obtain⟨y,cH,h⟩:=h;obtain⟨cF,hk,hr⟩:=ih _ (fun j hj=>hl j (by simp[hj])) h;exact⟨cF,hk,_,ho,_,.inl ⟨ha,hd,dJ,c,g,xs,y,hc,ht,cH,rfl⟩,hr⟩
    .exact h.elim
   .exact h.elim
  .rename_i ha
   have D9:b8 ops [i]=[(i,ops[i])]:=by simp[b8,hi]
   have hm:AL P T Mv G N [] [] [] [] ops (wT P T Mv G N qc ops K (b8 ops l)) (b8 ops [i]) σ:=by rw[D9];exact h
   obtain⟨ba,bO,o',qK,FX,hs,qa⟩:=Pt [i] σ (by simpa using hi) (fun r hr=>by cases hr) hm;have qa:FX=ba:=qa;subst qa;obtain⟨cF,hk,hr⟩:=ih _ (fun j hj=>hl j (by simp[hj])) bO;exact⟨cF,hk,o',qK,_,.inr ⟨by simpa using ha,hs⟩,hr⟩
theorem Yo (hg:Good P T) (hm:P.follows .mixedOrders=true) (qc:List Nat) (ord:List Nat) {id:Nat} (cf:pJ (Gp qc ops) ord ops=true) {Q:Exit->St->Prop} (h:wT P T Mv G N qc ops (fun aH=>Q .normal aH) (b8 ops ord) σ):AW P Mv X G N (.region id ops true) Q σ:=
 wY hm (ahR hg qc) (ahS qc) ord cf fun aG=>ajC ord σ aG h
theorem Yt (hg:Good P T) (hm:P.follows .mixedOrders=true) (qc:List Nat) (ord:List Nat) {id:Nat} (cf:pJ (Gp qc ops) ord ops=true) {Q:Exit->St->Prop}
  (h:∀ K:St->Prop,(∀ τ:St,Q .normal τ->K τ)->wT P T Mv G N qc ops K (b8 ops ord) σ):AW P Mv X G N (.region id ops true) Q σ:=Yo hg hm qc ord cf (h _ fun _ h=>h)
theorem Pu {qc:List Nat} {K:St->Prop} {i:Nat} {l:List Nat} {o:Oper} (ho:ops[i]? = some o) (h:∀ K':St->Prop,(∀ τ,wT P T Mv G N qc ops K (b8 ops l) τ->K' τ)->FN P T Mv G N qc ops i o σ K'):wT P T Mv G N qc ops K (b8 ops (i :: l)) σ:=by
 have:b8 ops (i :: l)=(i,o) :: b8 ops l:=by simp[b8,ho]
 rw[this];exact h _ fun _ h=>h
theorem ajB {qc:List Nat} {K:St->Prop} (h:K σ):wT P T Mv G N qc ops K (b8 ops []) σ:=h
end
attribute [simp] FN
end Go.Av
namespace Go.Proofs.YtobejfcgcfdpfaaGreatDoor
open Go.Av
def qz (L:List Bool) (s:Nat):List Bool:=L.take s ++ List.replicate (L.length - s) false
theorem Bl {L:List Bool} {s:Nat} (h:s<=L.length):(qz L s).length=L.length:=by simp[qz];omega
theorem aa0 (L:List Bool):qz L 0=List.replicate L.length false:=by simp[qz]
theorem aaY (L:List Bool):qz L L.length=L:=by simp[qz]
theorem aaZ {L:List Bool} {s:Nat} (h:s < L.length):(qz L s).set s L[s]=qz L (s+1):=by
 refine KX (d:=false) (by rw[List.length_set,Bl aa,Bl aa]) fun i hi=>?_;rw[List.length_set,Bl aa]at hi
 have at':∀ k,k<=L.length->(qz L k).getD i false=if i < k then L[i] else false:=fun k hk=>by
  rw[dw (by rw[Bl hk];exact hi)];unfold qz;by_cases h:i < k
  .rw[List.getElem_append_left (by rw[amw];omega),if_pos h];simp
  .rw[List.getElem_append_right (by rw[amw];omega),if_neg h];simp
 by_cases e:s=i
 .subst e;rw[kK (by rw[Bl aa];exact h),at' _ aa,if_pos aa]
 .rw[gV e,at' _ aa,at' _ aa];by_cases h2:i < s
  .rw[if_pos h2,if_pos aa]
  .rw[if_neg h2,if_neg aa]
def kH (TN:List (List Int)) (z k:Nat):List AV:=(List.range k).map fun i=>.d (.sl none ((iw TN z i).map fun b=>[.v (.bool b)]))
theorem gO (TN:List (List Int)) (z k:Nat):(kH TN z k).length=k:=by simp[kH]
theorem fG (TN:List (List Int)) (z k:Nat) (o f:Nat->Nat->Nat->AV):(kH TN z k).map (AV.tr o f)=kH TN z k:=by
 unfold kH;rw[amk];rfl
theorem gN (TN:List (List Int)) (z k r:Nat):(kH TN z k).map (AV.kill r)=kH TN z k:=by
 unfold kH;rw[amk];rfl
theorem ZD (TN:List (List Int)) (z k:Nat):kH TN z (k+1)=kH TN z k ++ [.d (.sl none ((iw TN z k).map fun b=>[.v (.bool b)]))]:=by
 unfold kH;rw[List.range_succ,amV];rfl
theorem QI {TN:List (List Int)} {z k i:Nat} (h:i < k):∀ h2:i < (kH TN z k).length,(kH TN z k)[i] = .d (.sl none ((iw TN z i).map fun b=>[.v (.bool b)])):=fun h2=>by simp[kH]
def jR:AV:=.d (.sl (some false) [])
theorem fB (o f:Nat->Nat->Nat->AV):AV.tr o f jR=jR:=rfl
theorem jl (r:Nat):AV.kill r jR=jR:=rfl
theorem Ov (m:Nat) (o f:Nat->Nat->Nat->AV):(List.replicate m jR).map (AV.tr o f)=List.replicate m jR:=by rw[amO];rfl
theorem aff (m r:Nat):(List.replicate m jR).map (AV.kill r)=List.replicate m jR:=by rw[amO];rfl
theorem afN {TN:List (List Int)} {z kk m N:Nat}:yM (kH TN z (kk+1) ++ .own 73 0 N :: List.replicate m jR) (kk+1+1+m) kk N (iw TN z kk):=by
 refine⟨by simp[gO];omega,aa,fun h=>?_,fun o f ho=>?_,fun r hr=>?_⟩
 .rw[List.getElem_append_left (by rw[gO];omega)];exact QI aa _
 .rw[amV,amE,fG,Ov];show _ ++ o 73 0 N :: _=_;rw[ho]
 .rw[amV,amE,gN,aff];show _ ++ (if 73=r then AV.dead else .own 73 0 N) :: _=_;rw[if_neg (fun e=>hr e.symm)]
theorem afO {TN:List (List Int)} {z d kk N:Nat} (h:kk < d+1):yM (kH TN z (d+1)) (d+1) kk N (iw TN z kk):=
 ⟨gO _ _ _,h,fun h2=>QI h h2,fun o f _=>fG _ _ _ o f,fun r _=>gN _ _ _ r⟩
theorem afP (G:aB) (p:aM) (aV:cO p=none) (lE:(bl p).length<=6) (hP:bT (bF p)<=4096) (z:Nat) (hz:z < (aS p).length) (d:Nat) (hd:(gl (aS p)).getD z 0=(d:Int)) (hd2:d < 2^19):MC prog G [] 31 [.d (nQ p),.d (ab z)] (aw []) (.bz [.own 905 0 d,.d (.v .nilIface)]) (aw [(905,.sl 3 1 ((dv (aS p) z d 0).map fun n=>[.v (.int .i64 n)]))]):=by
 have Mf:=Rk G p aV lE hP;have ht:=yD aV;have qL:=ht.pos;have G8:=(tm ht).len;have gw:=xm (tm ht) d z hz hd;have hlen:=rX p;have om:0 < bT (bF p):=o4 fun x hx=>(nJ (gb aV) hx).m2
 have Cc:z < (gl (aS p)).length:=aa
 rw[dw Cc]at hd;generalize gl (aS p)=F at *
 have xO:∀ s (h:s < (aS p).length),(aS p)[s].length<=64:=fun s h=>by
  rw[Ct h,yo];have:=amP (n:=2) bD lE;omega
 have oT:=Cv (aS p)
 have j6:∀ s (h:s < (aS p).length),(eW (aS p))[s]? = some [gd (aS p)[s]]:=fun s h=>by simp[eW,h]
 have hcast:((aS p).length:Int)=bT (bF p):=by rw[hlen];omega
 have rH:(aS p).length<=4096:=aa
 have hcq:=fun (kk m N:Nat) (r:List (List D)) (xs:List Int) (h1:kk+1+1+m<=2^20) (h2:∀ x∈xs,0<=x/\x < (iw (aS p) z kk).length) (h3:xs.length < 2^40)=>aab G (afN (TN:=aS p) (z:=z) (kk:=kk) (m:=m) (N:=N)) r h1 xs h2 h3;have hiq:=fun (kk N:Nat) (h:kk < d+1) (xs:List Int) (h2:∀ x∈xs,0<=x/\x < (iw (aS p) z kk).length) (h3:xs.length < 2^40)=>adC G (afO (TN:=aS p) (z:=z) (d:=d) (kk:=kk) (N:=N) h) (fun o f=>fG _ _ _ o f) aa xs h2 h3;have zk:=UJ (aS p) z;have hLs:=fun k s (h:s < (aS p).length)=>UK (z:=z) (k:=k) h
 have zp:∀ s (h:s < (aS p).length),(aS p)[s].length < 2^40:=fun s h=>by have:=xO s h;omega
 have gz:=ht.mem;have hstep:=fun k s (hs:s < (aS p).length) (hg:rh (aS p) (k+1) s z)=>Jy ht hz hs hg
 have adi:∀ k s (hs:s < (aS p).length),dv (aS p) z (k+1) s=(lL (aS p) z k s:Int) :: dv (aS p) z k ((aS p)[s].getD (lL (aS p) z k s) 0).toNat:=fun k s hs=>by rw[dv,sU hs]
 have adj:∀ s,dv (aS p) z 0 s=[]:=fun _=>rfl;simp only[nQ,pV,sc,ck,eZ,oO,gd,ab,<- hcast]at Mf j6 ⊢;clear hlen hcast om ht xO;generalize eW (aS p)=NX at *;generalize aS p=TN at *;obtain⟨N,hN⟩:∃ N:Nat,TN.length=N:=⟨_,rfl⟩;rw[hN]at Mf oT rH qL G8 ⊢
 have hzN:z < N:=aa
 generalize ((bl p).map fun n=>[D.v (.int .i64 n)])=IN at *;generalize (bF p).map jc=PT at *;generalize p.names.map bw=NN at *;generalize p.aC.map de=RR at *
 have h0:¬ (z:Int) < 0:=aa
 have h1:¬ N<=z:=aa
 have HI:iw TN z 0=(List.replicate N false).set z true:=by rw[iw,hN]
 have eU:kH TN z 1=[.d (.sl none ((iw TN z 0).map fun b=>[.v (.bool b)]))]:=rfl
 have jg:¬ (d:Int) < 0:=aa
 refine MC.aO (ay _) func31 rfl rfl (rs:=[.tmp 4,.tmp 5]) results31 (by simp[ntmps31]) rfl fun X=>?_;simp only[ntmps31];have fw:=(Aq @fB (Aq @jl (Aq @fG (Aq @gN @gO))));refine ae fw [0,1] [] ?_;refine bh fw Mf [0,1,6,7] [] ?_;refine ag fun K1 aF=>ae fw [0,1,6,7,22] [] ?_;refine al (aq (aF _ ?_));refine ag fun K2 au=>?_;have qf:=(Aq fw (Aq @h0 @h1));refine ax [0,1,6,33] [] ?_;refine bU (by simp<;>omega) ?_;refine aq (au _ (ag fun K3 aX=>?_));have qf:=(Aq fw (Aq @Cc (Aq @hd @jg)));refine ax [0,1,6,39] [] ?_;refine bU (by simp<;>omega) ?_;refine aq (aX _ ?_);have qf:=(Aq fw (Aq @mX.eq_1 (Aq @gL.eq_1 (Aq @gL.eq_2 (Aq @Cc @hd)))));refine ax [0,1,6,8] [46,8] ?_;refine AW.imp (aL.XF 46 rfl ak) ?_
 refine AW.st (τ:=⟨bg [(0,.d (.ip [.sl none NN,.sl none RR,.v (.int .i64 N),.v (.int .i64 (fS p)),.sl none NX,.sl none PT,.sl none IN])),(1,int z),(6,.d (.sl none (F.map fun n=>[.v (.int .i64 n)]))),(8,.ref 8 0 0)],aw [(46,.box 51 (jR :: List.replicate d jR)),(8,.box 31 [.own 46 0 (d+1)])]⟩) (by
  have e:List.replicate (d+1) jR=jR :: List.replicate d jR:=rfl;rw[<- e];congr 1;simp only[Np,amO]
  exact MF (by simp[jR]) (by simp[jR])) ?_
 refine JW (ay _) ah ([]) ([]) (List.range 8) [0,1,6,8] [46,8,52] (dT rfl) ah fun K' ao=>?_;(repeat refine qZ rfl fun K2 au=>?_;simp[fB,jl,fG,gN,gO,mX,gL];(repeat refine⟨aa,?_⟩);refine au _ ?_;clear au K2);refine yA (ao _ ?_);refine AW.st (by simp[fB,jl,fG,gN,gO,mX,gL];rfl) ?_;have qf:=(Aq fw @hzN);refine ax [0,1,6,8] [46,8,52] ?_;refine AW.imp (aL.freeze 52 bD) ?_;refine AW.st (by simp[fB,jl,fG,gN,gO];rfl) ?_;refine ag fun K4 b6=>ae fw [0,1,6,8,9] [46,8,9] ?_;refine ch (S:=Nat) (fun k=>1<=k/\k<=d+1) (fun k=>⟨bg [(0,.d (.ip [.sl none NN,.sl none RR,.v (.int .i64 N),.v (.int .i64 (fS p)),.sl none NX,.sl none PT,.sl none IN])),(1,int z),(6,.d (.sl none (F.map fun n=>[.v (.int .i64 n)]))),(8,.ref 8 0 0),(9,.ref 9 0 0)],aw [(46,.box 51 (kH TN z k ++ List.replicate (d+1 - k) jR)),(8,.box 31 [.own 46 0 (d+1)]),(9,.box 3 [int k])]⟩) (fun k=>d+1 - k) 1 ?_ ⟨aa,aa⟩ ?_
 .refine aL.ek (dT rfl) (by simp[fB,jl,fG,gN,gO,eU,HI,amt,amO,fB]) (by simp[fB,jl,fG,gN,gO,eU,HI,amt,amO,fB])
 .rintro k ⟨bO,fW⟩;refine ag fun K5 b5=>?_;by_cases gH:k<=d
  .obtain⟨kk,rfl⟩:∃ kk,k=kk+1:=⟨k - 1,aa⟩;obtain⟨m,hm⟩:∃ m,d+1 - (kk+1)=m+1:=⟨d - (kk+1),aa⟩
   have MA:(kk:Int)+1<=(d:Int):=aa
   have sy:kk+1 < d+1:=aa
   have B0:List.replicate (m+1) jR=jR :: List.replicate m jR:=rfl;rw[hm,B0]
   have sA:∀ x,(kH TN z (kk+1) ++ x :: List.replicate m jR).length=d+1:=fun x=>by simp[gO];omega
   have hT:∀ R,List.take (kk+1) (kH TN z (kk+1) ++ R)=kH TN z (kk+1):=fun R=>List.take_left' (gO _ _ _);have rz:∀ R,List.drop (kk+1) (kH TN z (kk+1) ++ R)=R:=fun R=>List.drop_left' (gO _ _ _)
   have R4:∀ x R,List.drop (kk+1+1) (kH TN z (kk+1) ++ x :: R)=R:=fun x R=>by
    rw[<- List.drop_drop,rz];rfl
   have qf:=(Aq fw (Aq @Cc (Aq @hd @MA)));refine il [0,1,6,8,9,64] [46,8,9] ?_;refine bR (by simp<;>omega) ?_;refine aq (b5 _ (ag fun K6 dy=>bf (JW (ay _) ah ([]) ([]) (List.range 9) [0,1,6,8,9] [46,8,9,73] (dT rfl) ah fun K' ao=>?_)));(repeat refine qZ rfl fun K2 au=>?_;simp[fB,jl,fG,gN,gO,mX,gL,hT,rz,R4,sA,sy];(repeat refine⟨aa,?_⟩);refine au _ ?_;clear au K2);refine yA (ao _ ?_);refine AW.st (by simp[fB,jl,fG,gN,gO,mX,gL,hT,rz,R4,sA,sy];rfl) ?_;refine ae fw [0,1,6,8,9,78,79,80] [46,8,9,73] ?_;refine ch (S:=Nat) (fun s=>s<=N) (fun s=>⟨bg [(0,.d (.ip [.sl none NN,.sl none RR,.v (.int .i64 N),.v (.int .i64 (fS p)),.sl none NX,.sl none PT,.sl none IN])),(1,int z),(6,.d (.sl none (F.map fun n=>[.v (.int .i64 n)]))),(8,.ref 8 0 0),(9,.ref 9 0 0),(78,.d (.sl none NX)),(79,int NX.length),(80,int s)],aw [(46,.box 51 (kH TN z (kk+1) ++ .own 73 0 N :: List.replicate m jR)),(8,.box 31 [.own 46 0 (d+1)]),(9,.box 3 [int ((kk:Int)+1)]),(73,.sl 4 1 ((qz (iw TN z (kk+1)) s).map fun b=>[.v (.bool b)]))]⟩) (fun s=>N - s) 0 ?_ aa ?_
   .rw[aa0,zk,hN];refine aL.ek (dT rfl) (by simp[fB,jl,fG,gN,gO,amO,fB,fG]) (by simp[fB,jl,fG,gN,gO,amO,fB,fG])
   .intro s hs;refine ae fw [0,1,6,8,9,78,79,80,81] [46,8,9,73] ?_;refine ag fun K7 eH=>?_;by_cases aG:s < N
    .have dV:s < NX.length:=aa
     have og:(s:Int) < (NX.length:Int):=aa
     have Ek:s < TN.length:=aa
     refine bR (by simp<;>omega) ?_;refine aq (eH _ (ag fun K8 eo=>bf ?_))
     have sq:NX[s]=[.sl none (TN[s].map fun n=>[.v (.int .i64 n)])]:=by
      have qA:=j6 s Ek;rw[AT dV]at qA;exact AI qA
     have Sb:s < (iw TN z (kk+1)).length:=by rw[zk];exact Ek
     have xB:=aaZ Sb;have pC:=hLs kk s Ek;rw[dw Sb]at pC;rw[pC]at xB;have fm:=Bl (L:=iw TN z (kk+1)) (s:=s) aa;rw[zk,hN]at fm
     have qb:s < (qz (iw TN z (kk+1)) s).length:=aa
     have Hq:=hcq kk m N ((qz (iw TN z (kk+1)) s).map fun b=>[.v (.bool b)]) TN[s] aa (fun x hx=>by
      rw[zk];exact gz _ (By Ek) x hx) (zp s Ek)
     rw[show kk+1+1+m=d+1 by omega]at Hq;generalize TN[s]=R at sq Hq xB;generalize A3 R (iw TN z kk)=b at Hq xB;have qf:=(Aq fw (Aq @dV @sq));refine ax [0,1,6,8,9,10,11,78,79,80] [46,8,9,73] ?_;refine Yt (ay _) ah ([7]) (List.range 10) ah fun K' ao=>?_;(repeat refine Pu rfl fun K2 au=>?_;simp[fB,jl,fG,gN,gO,rz,sA,sy,qb,aG];(repeat refine⟨aa,?_⟩);refine au _ ?_;clear au K2);refine Pu rfl fun K2 au=>?_;simp[fB,jl,fG,gN,gO,rz,sA,sy,qb,aG];refine HT.mc (Hq) (by simp[fB,jl,fG,gN,gO,rz,sA,sy,qb,aG]) (by simp[fB,jl,fG,gN,gO,rz,sA,sy,qb,aG]) (by simp[fB,jl,fG,gN,gO,rz,sA,sy,qb,aG]) (by simp[fB,jl,fG,gN,gO,rz,sA,sy,qb,aG]) (by simp[fB,jl,fG,gN,gO,rz,sA,sy,qb,aG];exact MF ak ak) ?_;simp[fB,jl,fG,gN,gO,rz,sA,sy,qb,aG];refine au _ ?_;clear au K2;(repeat refine Pu rfl fun K2 au=>?_;simp[fB,jl,fG,gN,gO,rz,sA,sy,qb,aG];(repeat refine⟨aa,?_⟩);refine au _ ?_;clear au K2);refine ajB (ao _ ?_);refine eo _ (AW.norm [0,1,6,8,9,78,79,80] [46,8,9,73] (dT rfl) (AW.st (by simp[fB,jl,fG,gN,gO,rz,sA,sy,qb,aG];rfl) ?_));refine cA fw ?_;(try simp only[aT,aW]);refine aZ.mk (s+1) aa aa ?_;rw[<- xB];refine aL.ek (dT rfl) (by simp[fB,jl,fG,gN,gO,amt,fB,fG]) (by simp[fB,jl,fG,gN,gO,amt,fB,fG])
    .obtain rfl:s=N:=aa
     have og:¬ (s:Int) < (NX.length:Int):=aa
     refine bU (by simp<;>omega) ?_;refine bL (dy _ ?_)
     have ach:qz (iw TN z (kk+1)) s=iw TN z (kk+1):=by
      have:=aaY (iw TN z (kk+1));rw[zk,hN]at this;exact this
     rw[ach]
     have wg:((iw TN z (kk+1)).map fun b=>[D.v (.bool b)]).length=s:=by rw[amT,zk,hN]
     refine AW.imp (aL.freeze 73 bD) ?_;refine AW.st (by simp[fB,jl,fG,gN,gO,wg,sh];rfl) ?_;refine ag fun K9 jt=>ae fw [0,1,6,8,95] [46,8] ?_;refine gq fw jt [0,1,6,8,9] [46,8,9] ?_;refine cA fw ?_;(try simp only[aT,aW]);have cY:=ZD TN z (kk+1)
     have oY:d+1 - (kk+1+1)=m:=aa
     refine aZ.mk (kk+1+1) ⟨aa,aa⟩ aa ?_;rw[cY,oY];refine aL.ek (dT rfl) (by simp[fB,jl,fG,gN,gO,am4,fB,fG]) (by simp[fB,jl,fG,gN,gO,am4,fB,fG])
  .obtain rfl:k=d+1:=aa
   have MA:¬ (d:Int)+1<=(d:Int):=aa
   have mW:d+1 - (d+1)=0:=aa
   rw[mW];simp only[List.replicate_zero,am0];have qf:=(Aq fw (Aq @Cc (Aq @hd @MA)));refine il [0,1,6,8,9,64] [46,8,9] ?_;refine bU (by simp<;>omega) ?_;refine bL (b6 _ (ae fw [0,1,6,8,12] [46,8] ?_));refine ae fw [0,1,6,8,12,13] [46,8] ?_;refine ag fun oJ e6=>?_;have qf:=(Aq fw (Aq @Cc @hd));refine ax [0,8,12,13,14] [46,8,14] ?_;generalize hW:dv TN z d 0=W;refine ch (S:=Nat×Nat×List Int) (fun q=>q.1<=d/\q.2.1 < TN.length/\rh TN q.1 q.2.1 z/\q.2.2.length<=d/\q.2.2 ++ dv TN z q.1 q.2.1=W/\q.2.2.length+q.1=d) (fun q=>⟨bg [(0,.d (.ip [.sl none NN,.sl none RR,.v (.int .i64 N),.v (.int .i64 (fS p)),.sl none NX,.sl none PT,.sl none IN])),(8,.ref 8 0 0),(12,.own 905 0 q.2.2.length),(13,int q.2.1),(14,.ref 14 0 0)],aw [(46,.box 51 (kH TN z (d+1))),(8,.box 31 [.own 46 0 (d+1)]),(14,.box 3 [int q.1]),(905,.sl 3 1 (q.2.2.map fun n=>[.v (.int .i64 n)]))]⟩) (fun q=>q.1) (d,0,[]) ?_ ⟨ak,by dsimp only;omega,gw,ak,hW,ak⟩ ?_
   .refine (aL.lO 12 905 3 1 rfl rfl).trans ?_;refine aL.ek (dT rfl) (by simp[fB,jl,fG,gN,gO,fB,fG,gN]) (by simp[fB,jl,fG,gN,gO,fB,fG,gN])
   .rintro⟨k,s,out⟩ ⟨hk,hs,hg,Eu,how,ada⟩;dsimp only at hk hs hg Eu how ada ⊢
    have xy:(out.map fun n=>[D.v (.int .i64 n)]).length=out.length:=ak
    refine ag fun vg nW=>?_
    cases k with
    | zero=>
     rw[adj,am0]at how;subst how;refine ae fw [0,8,12,13,14,101] [46,8,14,905] ?_;refine bU ak ?_;refine bL (e6 _ ?_)
     have hOd:out.length=d:=aa
     refine ae fw [4,5] [905] ?_;exact aY (Aq fw (Aq @hW @hOd))
    | succ k=>
     have hkp:(k:Int)+1 > 0:=aa
     have qf:=(Aq fw @hkp);refine ax [0,8,12,13,14,101] [46,8,14,905] ?_;refine bR (by simp<;>omega) ?_;refine aq (nW _ (ag fun yS k7=>bf ?_))
     have EB:s < N:=aa
     have B2:s < NX.length:=aa
     have sq:NX[s]=[.sl none (TN[s].map fun n=>[.v (.int .i64 n)])]:=by
      have qA:=j6 s hs;rw[AT B2]at qA;exact AI qA
     obtain⟨hi,he,v0,v1,Hx⟩:=hstep k s hs hg;have Ns:=adi k s hs;rw[dw hi]at Ns
     have S7:=hiq k N aa TN[s] (fun x hx=>by
      rw[zk];exact gz _ (By hs) x hx) (zp s hs)
     rw[he]at S7;rw[Ns]at how;obtain⟨u,hu⟩:=ami v0;rw[hu,amd]at v1 Hx how
     have c6:(TN[s].map fun n=>[D.v (.int .i64 n)]).length=TN[s].length:=ak
     generalize lL TN z k s=i at *;generalize TN[s]=R at *;have qf:=(Aq fw (Aq @B2 @sq));refine ko S7 [0,8,12,13,14,15] [46,8,14,905] ?_;refine rg [0,8,12,13,14,15] [46,8,14,905] (dT rfl) fun K' ao=>?_;(repeat refine aK fun Kq af=>?_;simp[fB,jl,fG,gN,gO,xy,sh];(repeat refine⟨aa,?_⟩);refine af _ ?_);refine bH (ao _ (AW.st (by simp[fB,jl,fG,gN,gO,xy,sh];rfl) ?_));have qf:=(Aq fw (Aq @B2 (Aq @sq (Aq @hi @hu))));refine eM k7 [0,8,12,13,14] [46,8,14,905] ?_;refine ag fun oK im=>ae fw [0,8,12,13,127] [46,8,905] ?_;refine gq fw im [0,8,12,13,14] [46,8,14,905] ?_;refine cA fw ?_;(try simp only[aT,aW]);refine aZ.mk (k,u,out ++ [(i:Int)]) ⟨by dsimp only;omega,v1,Hx,by dsimp only;rw[amp];simp only[amo,am2];omega,by rw[am4];exact how,by dsimp only;rw[amp];simp only[amo,am2];omega⟩ (by dsimp only;omega) ?_;refine aL.ek (dT rfl) (by simp[fB,jl,fG,gN,gO,fB,fG,gN]) (by simp[fB,jl,fG,gN,gO,fB,fG,gN])
def qy (l:List Int):D:=if l=[] then .sl (some false) [] else .sl (some true) (l.map fun n=>[.v (.int .i64 n)])
theorem uh {l:List Int} (h:l=[]):qy l = .sl (some false) []:=if_pos h
theorem pU {l:List Int} (h:l≠[]):qy l = .sl (some true) (l.map fun n=>[.v (.int .i64 n)]):=if_neg h
theorem ZJ (G:aB) (p:aM) (aV:cO p=none) (e:Ex) (hb:bE e<=2^28) (gg:nO p e=true):aD prog G 7 [nQ p,dE e] (.bz [.v (.bool false),qy [],.cC 40 (.v (.int .i64 7))]):=by
 have iG:=Rz G p aV e hb gg;obtain⟨ta,ca,he⟩:=js e;have D3:qy [] = .sl (some false) []:=rfl;have uz:∃ c,nQ p = .ip c:=⟨_,rfl⟩;obtain⟨c,uz⟩:=uz;simp only[he,uz,D3]at iG ⊢;refine aD.aO (ay _) func7 rfl rfl (rs:=[.tmp 4,.tmp 5,.tmp 6]) results7 (by simp[ntmps7]) fun X=>?_;simp only[ntmps7,List.map];refine ar [0,1] [] ?_;refine bh trivial iG [0,7,8] [] ?_;refine ag fun K1 aF=>ar [0,7,8,26] [] ?_;refine aJ (ar [4,5,6] [] ?_);exact fP
theorem ZK (G:aB) (p:aM) (aV:cO p=none) (hk:∀ r∈p.aC,mZ r) (lE:(bl p).length<=6) (hP:bT (bF p)<=4096) (e:Ex) (hw:gF e) (hb:bE e<=2^28) (gg:nO p e=false):aD prog G 7 [nQ p,dE e] (.bz [.v (.bool (decide (mF p e=[]))),qy (mF p e),.v .nilIface]):=by
 have iG:=RB G p aV hk lE hP e hw hb gg;have Hv:=Rk G p aV lE hP;have ht:=yD aV;have G7:=tm ht;have BM:=GH ht;have hlen:=rX p;have om:0 < bT (bF p):=o4 fun x hx=>(nJ (gb aV) hx).m2
 have hcast:((aS p).length:Int)=bT (bF p):=by rw[hlen];omega
 have rH:(aS p).length<=4096:=aa
 have oh:=fun (z:Nat) (hz:z < (aS p).length) (d:Nat) (hd:(gl (aS p)).getD z 0=(d:Int))=>afP G p aV lE hP z hz d hd (by have:=BM z hz;omega);have tC:=fun z d=>pN (aS p) z d 0;have cW:=zd p e
 have eC:∀ s (h:s < (gW p e).length),(gW p e)[s].length<=64:=fun s h=>by
  rw[DB,xt];exact amP (n:=2) bD lE
 have G8:=G7.len;have gR:=fun l hl=>Ut G false l hl;have lC:=fun l hl=>adH G false l hl;have BJ:=fun a b ha hb=>ZT G (some true) (some true) a b ha hb;unfold mF Ao;generalize gl (aS p)=F at *;generalize gW p e=GD at *
 have Bu:∀ k (h:k < GD.length) (hf:k < F.length),lW F GD (k+1)=if 0<=F[k]/\0<=idx (fun x=>false == x) GD[k]/\(lW F GD k < 0\/F[k] < lW F GD k) then F[k] else lW F GD k:=fun k h hf=>by rw[lW,dw h,dw hf];rfl
 have Sg:lW F GD 0 = -1:=rfl
 have nU:∀ (m:Int) k (h:k < GD.length) (hf:k < F.length),j0 (aS p) F GD m (k+1)=if idx (fun x=>false == x) GD[k] < 0\/m < 0\/F[k]≠m then j0 (aS p) F GD m k else if j0 (aS p) F GD m k=[]\/lP (dv (aS p) k m.toNat 0 ++ [idx (fun x=>false == x) GD[k]]) (j0 (aS p) F GD m k) < 0 then dv (aS p) k m.toNat 0 ++ [idx (fun x=>false == x) GD[k]] else j0 (aS p) F GD m k:=fun m k h hf=>by
  rw[j0,nM,dw h,dw hf];rfl
 have DC:∀ m,j0 (aS p) F GD m 0=[]:=fun _=>rfl
 have lz:∀ (m:Int) k,k<=GD.length->m.toNat<=4096->(j0 (aS p) F GD m k).length<=4097:=fun m k hk hm=>by
  rcases w8 (aS p) F GD m k with⟨h,_⟩ | ⟨_,s,_,_,_,h⟩
  .rw[h];simp
  .rw[h,nM,amp,pN];simp only[amo,am2];omega
 have Lw:∀ k,k<=GD.length->lW F GD k<=4096:=fun k hk=>by
  rcases Cs F GD k with⟨h,_⟩ | ⟨_,⟨s,h1,h2,_⟩,_⟩
  .omega
  .have:=BM s aa;omega
 obtain⟨NR,Sh⟩:∃ NR:Nat->Int,∀ k,lW F GD k=NR k:=⟨_,fun _=>rfl⟩;simp only[Sh]at Bu Sg Lw ⊢;rw[<- cW];have akY:=Lw GD.length (amh _);generalize acK:NR GD.length=eL at *;have Bq:=nU eL;have RN:=DC eL;have RY:=fun k hk=>lz eL k hk aa;clear nU DC lz;obtain⟨BN,RU⟩:∃ BN:Nat->List Int,∀ k,j0 (aS p) F GD eL k=BN k:=⟨_,fun _=>rfl⟩;simp only[RU]at Bq RN RY ⊢;clear Sh RU;obtain⟨WG,SC⟩:∃ WG:Nat->Nat->List Int,∀ z d,dv (aS p) z d 0=WG z d:=⟨_,fun _ _=>rfl⟩;simp only[SC]at oh Bq tC;clear SC;obtain⟨ta,ca,he⟩:=js e;simp only[he,nQ,pV,sc,ck,eZ,oO,gd,ab,y4,ff,<- hcast]at iG Hv oh ⊢;clear hlen hcast om hP ht G7;generalize eW (aS p)=NX at *;generalize (aS p).length=N at *;generalize fS p=NI at *;generalize ((bl p).map fun n=>[D.v (.int .i64 n)])=IN at *;generalize (bF p).map jc=PT at *;generalize p.names.map bw=NN at *;generalize p.aC.map de=RR at *;refine aD.aO (ay _) func7 rfl rfl (rs:=[.tmp 4,.tmp 5,.tmp 6]) results7 (by simp[ntmps7]) fun X=>?_;simp only[ntmps7,List.map];refine ar [0,1] [] ?_;refine bh trivial iG [0,7,8] [] ?_;refine ag fun K1 aF=>ar [0,7,26] [] ?_;refine al (aq (aF _ ?_));refine bh trivial Hv [0,7,8,9] [] ?_;refine ag fun K2 au=>ar [0,7,9,34] [] ?_;refine al (aq (au _ ?_));refine ar [0,7,9,10] [] ?_;refine ag fun K3 aX=>ar [0,7,9,10,36,37,38] [] ?_;refine ch (S:=Nat) (fun k=>k<=GD.length) (fun k=>⟨bg [(0,.d (.ip [.sl none NN,.sl none RR,.v (.int .i64 N),.v (.int .i64 NI),.sl none NX,.sl none PT,.sl none IN])),(7,.d (.sl none (GD.map fun x=>[.sl none (x.map fun b=>[.v (.bool b)])]))),(9,.d (.sl none (F.map fun n=>[.v (.int .i64 n)]))),(10,int (NR k)),(36,.d (.sl none (GD.map fun x=>[.sl none (x.map fun b=>[.v (.bool b)])]))),(37,int GD.length),(38,int k)],aw []⟩) (fun k=>GD.length - k) 0 ?_ aa ?_
 .refine bo @Sg
 .intro k dO;refine ar [0,7,9,10,36,37,38,39] [] ?_;refine ag fun K4 b6=>?_;by_cases aG:k < GD.length
  .have rG:k < F.length:=aa
   have DN:=Bu k aG rG;have BK:=lC GD[k] (by have:=eC k aG;omega);generalize oW:GD[k]=g at *;generalize qG:F[k]=f at *;generalize idx (fun x=>false == x) g=ni at *;generalize NR k=nr at *;refine bR (by simp<;>omega) ?_;refine aq (b6 _ (ag fun K5 b5=>bf ?_));have qf:=(Aq @aG @oW);refine ax [0,7,9,10,11,12,36,37,38] [] ?_;by_cases qH:f >= 0
   .by_cases lG:0<=ni
    .rw[decide_eq_true lG]at BK;by_cases lV:nr < 0
     .have qf:=(Aq @rG (Aq @qG (Aq @qH @lV)));refine eF BK [0,7,9,10,11,36,37,38,63] [] ?_;refine bR (by simp<;>omega) ?_;have qf:=(Aq @rG @qG);refine eM b5 [0,7,9,10,36,37,38] [] ?_;refine cK ?_;(try simp only[aT,aW]);refine aZ.mk (k+1) aa aa ?_;rw[DN,if_pos (by refine⟨aa,aa,aa⟩)];refine cg
     .by_cases v8:f < nr
      .have qf:=(Aq @rG (Aq @qG (Aq @qH (Aq @lV @v8))));refine eF BK [0,7,9,10,11,36,37,38,63] [] ?_;refine bR (by simp<;>omega) ?_;have qf:=(Aq @rG @qG);refine eM b5 [0,7,9,10,36,37,38] [] ?_;refine cK ?_;(try simp only[aT,aW]);refine aZ.mk (k+1) aa aa ?_;rw[DN,if_pos (by refine⟨aa,aa,aa⟩)];refine cg
      .have qf:=(Aq @rG (Aq @qG (Aq @qH (Aq @lV @v8))));refine eF BK [0,7,9,10,11,36,37,38,63] [] ?_;refine bU (by simp<;>omega) ?_;refine aq (b5 _ (cK ?_));(try simp only[aT,aW]);refine aZ.mk (k+1) aa aa ?_;rw[DN,if_neg (by rintro⟨h1,h2,h3⟩;omega)];refine cg
    .rw[decide_eq_false lG]at BK;have qf:=(Aq @rG (Aq @qG @qH));refine eF BK [0,7,9,10,11,36,37,38,63] [] ?_;refine bU (by simp<;>omega) ?_;refine aq (b5 _ (cK ?_));(try simp only[aT,aW]);refine aZ.mk (k+1) aa aa ?_;rw[DN,if_neg (by rintro⟨h1,h2,h3⟩;omega)];refine cg
   .have qf:=(Aq @rG (Aq @qG @qH));refine ax [0,7,9,10,11,36,37,38,63] [] ?_;refine bU (by simp<;>omega) ?_;refine aq (b5 _ (cK ?_));(try simp only[aT,aW]);refine aZ.mk (k+1) aa aa ?_;rw[DN,if_neg (by rintro⟨h1,h2,h3⟩;omega)];refine cg
  .obtain rfl:k=GD.length:=aa
   refine bU ak ?_;refine bL (aX _ ?_);rw[acK];clear Bu Lw;refine ar [0,7,9,10,13] [] ?_;refine ag fun K6 dy=>ar [0,9,10,13,69,70,71] [] ?_;refine ch (S:=Nat) (fun k=>k<=GD.length) (fun k=>⟨bg [(0,.d (.ip [.sl none NN,.sl none RR,.v (.int .i64 N),.v (.int .i64 NI),.sl none NX,.sl none PT,.sl none IN])),(9,.d (.sl none (F.map fun n=>[.v (.int .i64 n)]))),(10,int eL),(13,.d (qy (BN k))),(69,.d (.sl none (GD.map fun x=>[.sl none (x.map fun b=>[.v (.bool b)])]))),(70,int GD.length),(71,int k)],aw []⟩) (fun k=>GD.length - k) 0 ?_ aa ?_
   .rw[RN,uh rfl];refine cg
   .intro k dO;refine ar [0,9,10,13,69,70,71,72] [] ?_;refine ag fun K7 eH=>?_;by_cases aG:k < GD.length
    .have rG:k < F.length:=aa
     have pt:=Bq k aG rG;have HB:=gR GD[k] (by have:=eC k aG;omega);have fI:=RY k aa;have Ts:=oh k aa;rw[dw rG]at Ts;generalize oW:GD[k]=g at *;generalize qG:F[k]=f at *;generalize idx (fun x=>false == x) g=ni at *;generalize BN k=B at *;refine bR (by simp<;>omega) ?_;refine aq (eH _ (ag fun K8 eo=>bf ?_));have qf:=(Aq @aG @oW);refine ax [0,9,10,13,14,15,69,70,71] [] ?_;refine bh trivial HB [0,9,10,13,14,16,69,70,71] [] ?_;refine ag fun K9 jt=>?_;by_cases lG:ni < 0
     .have qf:=@lG;refine ax [0,9,10,13,14,16,69,70,71,91] [] ?_;refine bR (by simp<;>omega) ?_;refine bL (eo _ (cK ?_));(try simp only[aT,aW]);refine aZ.mk (k+1) aa aa ?_;rw[pt,if_pos aa];refine cg
     .by_cases lV:eL < 0
      .have qf:=(Aq @lG @lV);refine ax [0,9,10,13,14,16,69,70,71,91] [] ?_;refine bR (by simp<;>omega) ?_;refine bL (eo _ (cK ?_));(try simp only[aT,aW]);refine aZ.mk (k+1) aa aa ?_;rw[pt,if_pos aa];refine cg
      .by_cases v8:f=eL
       .subst v8;rw[if_neg aa]at pt;obtain⟨d,rfl⟩:=ami (show 0<=f by omega);rw[amd]at pt;have acS:=Ts d rfl;have jH:=tC k d
        have xy:((WG k d).map fun n=>[D.v (.int .i64 n)]).length=d:=by simp[jH]
        have qf:=(Aq @lG (Aq @lV (Aq @rG @qG)));refine ax [0,9,10,13,14,16,69,70,71,91] [] ?_;refine bU (by simp<;>omega) ?_;refine aq (jt _ (bK trivial acS [0,9,10,13,16,17,18,69,70,71] [905] ?_));refine ag fun oJ e6=>?_;refine ar [0,9,10,13,16,17,69,70,71,99] [905] ?_;refine al (aq (e6 _ ?_));refine rg [0,9,10,13,17,69,70,71] [905] aQ fun K' ao=>?_;(repeat refine aK fun Kq af=>?_;simp[xy,sh];(repeat refine⟨aa,?_⟩);refine af _ ?_);refine bH (ao _ (AW.st (by simp[xy,sh];rfl) ?_))
        have zq:((WG k d).map fun n=>[D.v (.int .i64 n)]) ++ [[D.v (.int .i64 ni)]]=(WG k d ++ [ni]).map fun n=>[D.v (.int .i64 n)]:=ak
        have BA:(WG k d ++ [ni]).length=d+1:=by simp[jH]
        simp only[zq];generalize WG k d ++ [ni]=W at *
        have SF:W≠[]:=fun h=>by rw[h]at BA;cases BA
        have Hm:(W.map fun n=>[D.v (.int .i64 n)]).length=d+1:=by simp[BA]
        refine AW.imp (aL.freeze 905 trivial) ?_;refine AW.st (by simp[Hm,sh];rfl) ?_;refine AW.Fe 17 rfl ?_ (fun h=>absurd (List.map_eq_nil_iff.1 h) SF);refine AW.st bt ?_;have SE:=pU SF;by_cases uy:B=[]
        .rw[if_pos (.inl uy)]at pt;rw[uh uy];refine ar [0,9,10,13,17,69,70,71,112] [] ?_;refine bR (by simp<;>omega) ?_;refine gq trivial eo [0,9,10,13,69,70,71] [] ?_;refine cK ?_;(try simp only[aT,aW]);refine aZ.mk (k+1) aa aa ?_;rw[pt,SE];refine cg
        .have SQ:=BJ W B aa aa;rw[pU uy];by_cases dV:lP W B < 0
         .rw[if_pos (.inr dV)]at pt;generalize lP W B=c at *;have qf:=@dV;refine eF SQ [0,9,10,13,17,69,70,71,112] [] ?_;refine bR (by simp<;>omega) ?_;refine gq trivial eo [0,9,10,13,69,70,71] [] ?_;refine cK ?_;(try simp only[aT,aW]);refine aZ.mk (k+1) aa aa ?_;rw[pt,SE];refine cg
         .rw[if_neg (by simp[uy,dV])]at pt;generalize lP W B=c at *;have qf:=@dV;refine eF SQ [0,9,10,13,17,69,70,71,112] [] ?_;refine bU (by simp<;>omega) ?_;refine aq (eo _ (cK ?_));(try simp only[aT,aW]);refine aZ.mk (k+1) aa aa ?_;rw[pt,pU uy];refine cg
       .have qf:=(Aq @lG (Aq @lV (Aq @rG (Aq @qG @v8))));refine ax [0,9,10,13,14,16,69,70,71,91] [] ?_;refine bR (by simp<;>omega) ?_;refine bL (eo _ (cK ?_));(try simp only[aT,aW]);refine aZ.mk (k+1) aa aa ?_;rw[pt,if_pos aa];refine cg
    .obtain rfl:k=GD.length:=aa
     refine bU ak ?_;refine bL (dy _ ?_);generalize BN GD.length=B at *;by_cases uy:B=[]
     .rw[uh uy];refine ar [4,5,6] [] ?_;refine bW ?_;simp[D.le,D.le.go,aP,uy,uh]
     .rw[pU uy];refine ar [4,5,6] [] ?_;exact aY @uy
end Go.Proofs.YtobejfcgcfdpfaaGreatDoor
namespace Go.Av
section
variable {P:Program} {T:Ty} {Mv X:Nat->Prop} {G:aB} {N:Fr}
theorem aL.aa3 (hm:∀ r,Mv r) (i:Nat) {ob:Nat} {e:Env} {ty n:Nat} {cs:List D} {H:Heap} (hi:e i=some (.own ob 0 n)) (hb:H ob=some (.box ty (cs.map AV.d))) (hn:cs.length=n) :
  aL Mv X G N ⟨e,H⟩ ⟨Go.Av.bg [(i,.d (.sl none (cs.map fun c=>[c])))],ji⟩:=fun w μ a aR=>by
 have hX:∀ b,XX X (fun _=>none) b->XX X μ b:=fun b hb=>hb.elim .inl fun ⟨_,_,h,_⟩=>by cases h
 refine⟨fun _=>none,⟨eT.none aR.bx.fits,⟨aR.env.defers,aR.env.size,fun j x hx=>?_⟩,fun g x hx=>(aR.jA g x hx).sub hX⟩,⟨amh _,rfl,rfl,rfl,fun b hb hr=>⟨rfl,fun ⟨_,_,h,_⟩=>by cases h⟩,fun r _ _ hn=>absurd (hm r) hn⟩⟩;replace hx:Go.Av.bg [(i,_)] j=some x:=hx;simp only[Go.Av.bg,List.lookup]at hx;split at hx
 .rename_i hj
  have dG:j=i:=by simpa using hj
  subst dG;obtain rfl:=AI hx;obtain⟨u,hu,iu⟩:=aR.env.slot j _ hi;refine⟨u,hu,.d ?_⟩;obtain⟨m,sC,hh⟩:=iu.ml
  rcases hh with⟨_,rfl,_,rfl⟩ | ⟨b,BE,rfl,k8⟩
  .obtain rfl:=amC hn;exact .nil ak
  .obtain⟨m',cL,ok⟩:=aR.bx.rows ob _ hb;rw[sC]at cL;obtain rfl:=AI cL
   cases ok with
   | box h1 h2 h3 h4 h5 h6 h7=>
    rename_i b' cur;rw[BE]at h1;obtain rfl:=AI h1;simp only[amT]at h5;by_cases wo:n=0
    .subst wo;obtain rfl:=amC hn;exact .empty ak (by unfold maxLen at *;omega)
    .refine .sl (sz:=1) (f:=fun i _=>cur.getD i undef) ak (by simp[hn]) aa (by unfold maxLen at *;omega) (fun hx=>hx.elim (aR.bx.frame ob m b sC BE) fun ⟨_,_,h,_⟩=>by cases h) ak aa aa (fun i j hi hj=>?_) fun i j el c bn hc=>?_
     .have:j=0:=aa
      subst this;rw[cell_of_row w b _ cur ty (0,0) (by simpa using h4)];simp[amg,show i < cur.size by omega]
     .rw[amm]at bn;obtain⟨a',ha',rfl⟩:=AS.1 bn;obtain⟨aG,rfl⟩:=BY.1 ha'
      cases j with
      | succ j=>simp at hc
      | zero=>
       simp only[List.getElem?_cons_zero,IT]at hc;subst hc
       have vR:cur[i]? = some (cur.getD i undef):=by simp[amg,show i < cur.size by omega]
       have ac4:=h6 i _ (.d cs[i]) vR (by simp[aG]);exact ac4.data.sub fun b hb=>hX b hb
 .cases hx
end
end Go.Av
namespace Go.Av
section
variable {P:Program} {T:Ty} {Mv X:Nat->Prop} {G:aB} {N:Fr} {w:World} {μ:Mu} {a:Act} {σ:St}
def ET:Op->Bool
 | .buildSlice _ n ps=>n == 0 && ps.size == 0
 | _=>false
def Pp (T:Ty) (t:TypeId):Bool:=match T t with
 | some tt=>(match tt.desc with
  | .slice e=>(T e).isSome
  | _=>false)
 | none=>false
def Dp (T:Ty) (o:Oper) (σ:St) (K:St->Prop):Prop:=match o.op,o.dst with
 | .buildSlice t _ _,some d=>Pp T t=true/\K ⟨iz σ.env d (.d (.sl (some true) [])),σ.H⟩
 | _,_=>False
theorem aav (hg:Good P T) (hi:In w X G μ N a σ) {o:Oper} {K:St->Prop} (hd:∀ d,o.dst=some d->d < N.n) (he:ET o.op=true) (h:Dp T o σ K) {Q:Exit->Act->World->Prop} {next:Act->World->Prop}
  (hk:∀ w' aI a' aH,K aH->In w' X G aI N a' aH->Ev Mv w μ w' aI->next a' w'):o.wpIn (wd N.ro) 0 P a w next Q:=by
 obtain⟨dst,op,type,pos,after,guard⟩:=o;unfold Dp at h;dsimp only at h hd he;split at h
 .rename_i t n ps d;obtain⟨ht,hK⟩:=h;simp only[ET,OF,beq_iff_eq]at he;obtain⟨rfl,fN⟩:=he;obtain rfl:=Array.eq_empty_of_size_eq_zero fN;unfold Pp at ht;split at ht
  .rename_i tt dP;split at ht
   .rename_i e ea;obtain⟨te,c8⟩:=am9.1 ht;have hu:=hg.dI (w:=w) dP;have bp:=hg.sizeOf (w:=w) c8;refine yG (fun c e=>by cases e) ?_;unfold Oper.wp
    have e0:∀ f:Nat->Value,(Array.range 0).map f = #[]:=fun f=>by apply Array.ext<;>simp
    have hex:(execOp a.eval (⟨some d,.buildSlice t 0 #[],type,pos,after,guard⟩:Oper)).run P w = .ok (.value (.slice (some ⟨w.heap.size,0,none⟩) 0 0)) (w.alloc (.cells #[] e)):=by
     simp[execOp,Instr.buildSlice,Sem.run_bind,hu,ea,Result.andThen_ok,bp,e0,newRow,Instr.fill]
    rw[hex];obtain⟨h1,h2⟩:=hi.ry (Mv:=Mv) (cX.alloc w (.cells #[] e));exact hk _ μ _ _ hK (h1.put (.d (.empty ak bD)) (dst:=some d) hd) h2
   .cases ht
  .cases ht
 .exact h.elim
def yw (P:Program) (T:Ty) (Mv X:Nat->Prop) (G:aB) (N:Fr) (ops:Array Oper) (K:St->Prop):List Oper->St->Prop
 | [],σ=>K σ
 | o :: rest,σ=>fb N o/\match jx ops σ.env o with
  | some b=>if b=true then (if ET o.op=true then Dp T o σ (yw P T Mv X G N ops K rest) else uu P T Mv X G N o σ (yw P T Mv X G N ops K rest)) else yw P T Mv X G N ops K rest ⟨aN σ.env o.dst dI,σ.H⟩
  | none=>False
theorem ajn (hg:Good P T) {ops:Array Oper} {Q:Exit->St->Prop} {w0:World} {lY:Mu}:∀ (l:List Oper) (k:Nat) (w:World) (μ:Mu) (a:Act) (σ:St),(∀ j,l[j]? = ops[k+j]?)->yw P T Mv X G N ops (fun aH=>Q .normal aH) l σ->In w X G μ N a σ->Ev Mv w0 lY w μ->
  wpOpsIn (wd N.ro) 0 P ops (After Mv X G N w0 lY Q) (List.range' k l.length) a w:=by
 intro l
 induction l with
 | nil=>intro k w μ a σ _ h hi bd;exact⟨μ,σ,h,hi,bd⟩
 | cons o l ih=>
  intro k w μ a σ hl h hi bd
  have h0:ops[k]? = some o:=by simpa using (hl 0).symm
  have fh:∀ j,l[j]? = ops[k+1+j]?:=fun j=>by have:=hl (j+1);simpa[am6,anN 1 j]using this
  obtain⟨hd,h⟩:=h
  have fU:∀ d,o.dst=some d->d < N.n:=fun d e=>by unfold fb at hd;rw[e]at hd;exact hd
  rw[amo,an4];simp only[wpOpsIn,h0];split at h
  .rename_i b hb;rw[u7 hi hb];split at h
   .rename_i rC;subst rC;rw[if_pos rfl];split at h
    .rename_i he;exact aav hg hi fU he h fun w' aI a' aH k' aR nu=>ih (k+1) w' aI a' aH fh k' aR (bd.trans nu)
    .exact (GF hg hi fU h fun w' aI a' aH k' aR nu=>ih (k+1) w' aI a' aH fh k' aR (bd.trans nu))
   .rename_i nt;rw[if_neg (by simpa using nt)];exact⟨fun _ _=>trivial,ih (k+1) w μ _ _ fh h (hi.put (.d (.v _)) fU) bd⟩
  .exact h.elim
theorem Ys (hg:Good P T) (l ns:List Nat) (hM:∀ r,ns.contains r=false->Mv r) {id:Nat} {ops:Array Oper} {y:Code} {Q:Exit->St->Prop} (h:∀ K:St->Prop,(∀ τ:St,AW P Mv X G N y Q (τ.norm l ns)->K τ)->yw P T Mv X G N ops K ops.toList σ):AW P Mv X G N (.seq (.region id ops false) y) Q σ:=
 tZ fun w μ a hi=>by
  refine wpIn_region ?_;have:=ajn hg ops.toList 0 w μ a σ ak (h (fun aH=>aT (AW P Mv X G N y Q) Q .normal aH) fun _ h=>h.norm l ns hM) hi (.refl _ w μ)
  rwa [<- anU,amK]at this
def Xp (P:Program) (T:Ty) (Mv X:Nat->Prop) (G:aB) (N:Fr) (ops:Array Oper) (o:Oper) (σ:St) (K:St->Prop):Prop:=fb N o/\match jx ops σ.env o with
 | some b=>if b=true then (if ET o.op=true then Dp T o σ K else uu P T Mv X G N o σ K) else K ⟨aN σ.env o.dst dI,σ.H⟩
 | none=>False
theorem ajl {ops:Array Oper} {K:St->Prop} {o:Oper} {l:List Oper} (h:∀ K':St->Prop,(∀ τ,yw P T Mv X G N ops K l τ->K' τ)->Xp P T Mv X G N ops o σ K'):yw P T Mv X G N ops K (o :: l) σ:=h _ fun _ h=>h
theorem ajm {ops:Array Oper} {K:St->Prop} (h:K σ):yw P T Mv X G N ops K [] σ:=h
end
attribute [simp] Xp ET Dp Pp
end Go.Av
namespace Go.Proofs.YtobejfcgcfdpfaaGreatDoor
open Go.Av
theorem Zj {a b:List Int} {n:Nat} (h1:n < a.length) (h2:n < b.length):fc (a.drop n) (b.drop n)=if a[n]=b[n] then fc (a.drop (n+1)) (b.drop (n+1)) else decide (a[n] < b[n]):=by
 rw[amu h1,amu h2,fc]
theorem Zk {a b:List Int} {n:Nat} (h1:¬ n < a.length):fc (a.drop n) (b.drop n)=false:=by
 rw[show a.drop n=[] from amH aa];cases b.drop n<;>rfl
theorem Qw (G:aB) (k1 k2:Option Bool) (a b:List Int) (hl:a.length=b.length) (ha:a.length < 2^60):aD prog G 44 [.sl k1 (a.map fun n=>[.v (.int .i64 n)]),.sl k2 (b.map fun n=>[.v (.int .i64 n)])] (.v (.bool (fc a b))):=by
 refine aD.aO (ay _) func44 rfl rfl (rs:=[.tmp 4]) results44 (by simp[ntmps44]) fun X=>?_;simp only[ntmps44,List.map];refine ar [0,1] [] ?_;refine ag fun K1 aF=>ar [0,1,7,8] [] ?_;refine ch (S:=Nat) (fun n=>n<=a.length/\fc (a.drop n) (b.drop n)=fc a b) (fun n=>⟨bg [(0,.d (.sl k1 (a.map fun n=>[.v (.int .i64 n)]))),(1,.d (.sl k2 (b.map fun n=>[.v (.int .i64 n)]))),(7,int a.length),(8,int n)],aw []⟩) (fun n=>a.length - n) 0 ?_ ak ?_
 .refine cg
 .rintro n ⟨hn,hp⟩;refine ar [0,1,7,8,9] [] ?_;refine ag fun K2 au=>?_;by_cases aG:n < a.length
  .have tG:n < b.length:=aa
   rw[Zj aG tG]at hp;generalize hx:a[n]=x at *;generalize hy:b[n]=y at *;refine bR (by simp<;>omega) ?_;refine aq (au _ (ag fun K3 aX=>bf (ar [0,1,5,7,8] [] ?_)));by_cases he:x=y
   .rw[if_pos he]at hp;have qf:=(Aq @aG (Aq @tG (Aq @hx (Aq @hy @he))));refine il [0,1,5,7,8,19] [] ?_;refine bU (by simp[he]) (aq (aX _ ?_));refine cK ?_;(try simp only[aT,aW]);refine aZ.mk (n+1) ⟨aa,hp⟩ aa ?_;refine cg
   .rw[if_neg he]at hp;have qf:=(Aq @aG (Aq @tG (Aq @hx (Aq @hy @he))));refine il [0,1,5,7,8,19] [] ?_;refine bR (by simp[he]) ?_;have qf:=(Aq @aG (Aq @tG (Aq @hx @hy)));refine il [4] [] ?_;exact aY @hp
  .rw[Zk aG]at hp;refine bU (by simp<;>omega) ?_;refine bL (aF _ (ar [4] [] ?_));exact aY @hp
def oI (t:Nat) (l:List Int):D:=if t=0 then .sl (some true) [] else qy l
def mB (q:Nat->List Int) (n:Nat):List AV:=(List.range n).map fun t=>.d (oI t (q t))
theorem va (q:Nat->List Int) (n:Nat):(mB q n).length=n:=by simp[mB]
theorem FW {q:Nat->List Int} {n t:Nat} (h:t < n):∀ h2:t < (mB q n).length,(mB q n)[t] = .d (oI t (q t)):=fun h2=>by simp[mB]
theorem yJ (q:Nat->List Int) (n:Nat) (o f:Nat->Nat->Nat->AV):(mB q n).map (AV.tr o f)=mB q n:=by
 unfold mB;rw[amk];rfl
theorem yI (q:Nat->List Int) (n r:Nat):(mB q n).map (AV.kill r)=mB q n:=by
 unfold mB;rw[amk];rfl
theorem akR (n:Nat):AV.d (.sl (some true) []) :: List.replicate n jR=mB (fun _=>[]) (n+1):=by
 unfold mB;rw[List.range_succ_eq_map,amE,amk];congr 1;refine an2 ak fun i h1 h2=>?_;simp[oI,qy,jR]
theorem akQ {q:Nat->List Int} {n t:Nat} {p:List Int} (h:t < n) (h0:t≠0):(mB q n).set t (.d (qy p))=mB (fun z=>if z=t then p else q z) n:=by
 refine an2 (by simp[mB]) fun i h1 h2=>?_;simp only[List.length_set,va]at h1;rw[List.getElem_set,FW h1];by_cases e:t=i
 .subst e;rw[if_pos rfl,FW h1,if_pos rfl,oI,if_neg h0]
 .rw[if_neg e,FW h1,if_neg (ann e)]
theorem akP (q:Nat->List Int) (n:Nat):mB q n=((List.range n).map fun t=>oI t (q t)).map AV.d:=by
 unfold mB;rw[amk];rfl
def wW (q:Nat->List Int) (n:Nat):D:=.sl none ((List.range n).map fun t=>[oI t (q t)])
noncomputable def lX (TN:List (List Int)) (t:Nat):List Int:=if 0 < (gl TN).getD t 0 then dv TN t ((gl TN).getD t 0).toNat 0 else []
theorem aks {TN:List (List Int)} (ht:nc TN) {q:Nat->List Int} {d:Nat} (hd:TN.length<=d) (h:kA TN (gl TN) q d 0 0):wW q TN.length=wW (lX TN) TN.length:=by
 unfold wW;congr 1;refine List.map_congr_left fun t gz=>?_;have ia:=anA.1 gz;have BM:=GH ht t ia;have hF:=tm ht;congr 1;unfold oI lX;by_cases h0:t=0
 .rw[if_pos h0,if_pos h0]
 .rw[if_neg h0,if_neg h0];by_cases hp:0 < (gl TN).getD t 0
  .rw[if_pos hp,h.low t ia hp aa]
  .rw[if_neg hp,h.high t ia (by
    by_cases e:(gl TN).getD t 0=0
    .exact absurd (hF.one t ia e) h0
    .omega)]
theorem akG (G:aB) (p:aM) (aV:cO p=none) (lE:(bl p).length<=6) (hP:bT (bF p)<=4096):aD prog G 43 [rr p] (wW (lX (aS p)) (aS p).length):=by
 have ht:=yD aV;have qL:=ht.pos;have gz:=ht.mem;have hF:=tm ht;have sK:=akx G p aV lE hP;have hlen:=rX p;have om:0 < bT (bF p):=o4 fun x hx=>(nJ (gb aV) hx).m2;have su:∀ q d,(aS p).length<=d->kA (aS p) (gl (aS p)) q d 0 0->wW q (aS p).length=wW (lX (aS p)) (aS p).length:=fun q d h1 h2=>aks ht h1 h2;have gI:∀ q d,kA (aS p) (gl (aS p)) q d (aS p).length 0->kA (aS p) (gl (aS p)) q (d+1) 0 0:=fun q d h=>ahp ht hF h;have dz:∀ q d s i u (hu:u < (aS p).length),kA (aS p) (gl (aS p)) q d s i->(gl (aS p)).getD u 0=(d:Int)->(u=0->dv (aS p) u d 0=[])/\(u≠0->q u=dv (aS p) u d 0):=fun q d s i u hu h hd=>ahm hF h hu hd;have G8:=hF.len;have Ll:=hF.zero
 have xO:∀ s (h:s < (aS p).length),(aS p)[s].length<=64:=fun s h=>by
  rw[Ct h,yo];have:=amP (n:=2) bD lE;omega
 have oT:=Cv (aS p)
 have j6:∀ s (h:s < (aS p).length),(eW (aS p))[s]? = some [gd (aS p)[s]]:=fun s h=>by simp[eW,h]
 have hcast:((aS p).length:Int)=bT (bF p):=by rw[hlen];omega
 have tC:=fun z d=>pN (aS p) z d 0;simp only[rr,rq,ug,ck,gd]at j6 sK ⊢;rw[<- hcast]at sK ⊢
 have rH:(aS p).length<=4096:=aa
 generalize wW (lX (aS p)) (aS p).length=RES at *;generalize gl (aS p)=F at *;generalize eW (aS p)=NX at *;generalize aS p=TN at *;clear hlen hcast om hP ht hF;generalize fS p=NI at *;generalize p.names.map bw=NN at *;generalize p.aC.map ez=RR at *;obtain⟨M,hM⟩:∃ M,TN.length=M+1:=⟨TN.length - 1,aa⟩;obtain⟨N,hN⟩:∃ N:Nat,TN.length=N:=⟨_,rfl⟩;rw[hN]at oT rH qL hM G8;simp only[hN]at gz su gI sK ⊢
 have B0:∀ x:AV,List.replicate N x=x :: List.replicate M x:=fun x=>by rw[hM];rfl
 refine aD.aO (ay _) func43 rfl rfl (rs:=[.tmp 2]) results43 (by simp[ntmps43]) fun X=>?_;simp only[ntmps43,List.map];have fw:=(Aq @yJ (Aq @yI @va));refine ae fw [0] [] ?_;refine ae (Aq fw (Aq @mX.eq_1 (Aq @gL.eq_1 @gL.eq_2))) [0,3] [14] ?_;refine bh fw sK [0,3,4] [14] ?_;refine AW.imp (aL.XF 14 rfl (by simp;omega)) ?_
 refine AW.st (τ:=⟨bg [(0,.d (.ip [.sl none NN,.sl none RR,.v (.int .i64 N),.v (.int .i64 NI),.sl none NX])),(3,.own 14 0 N),(4,.d (.sl none (F.map fun n=>[.v (.int .i64 n)])))],aw [(14,.box 36 (jR :: List.replicate M jR))]⟩) (by
  rw[<- B0];congr 1;simp only[Np,amO]
  exact MF (by simp[jR]) (by simp[jR])) ?_
 refine Ys (ay _) [0,3,4] [14] aQ fun K' ao=>?_;(repeat refine ajl fun Kq af=>?_;simp[qL,Ov,fB];(repeat refine⟨aa,?_⟩);refine af _ ?_);refine ajm (ao _ ?_);refine AW.st (by simp[Ov,fB];rfl) ?_;rw[akR M,<- hM];refine ag fun K1 aF=>ae fw [0,3,4,5] [14] ?_;refine ch (S:=Nat×(Nat->List Int)) (fun q=>q.1<=N/\kA TN F q.2 q.1 0 0) (fun q=>⟨bg [(0,.d (.ip [.sl none NN,.sl none RR,.v (.int .i64 N),.v (.int .i64 NI),.sl none NX])),(3,.own 14 0 N),(4,.d (.sl none (F.map fun n=>[.v (.int .i64 n)]))),(5,int q.1)],aw [(14,.box 36 (mB q.2 N))]⟩) (fun q=>N - q.1) (0,fun _=>[]) ?_ ⟨by dsimp only;omega,aht⟩ ?_
 .refine bo fw
 .rintro⟨d,q⟩ ⟨hd,hI⟩;dsimp only at hd hI ⊢;refine ag fun K2 au=>ae fw [0,3,4,5,25] [14] ?_;by_cases hdN:d < N
  .refine bR (by simp<;>omega) ?_;refine aq (au _ (ag fun K3 aX=>bf (ae fw [0,3,4,5,31,32] [14] ?_)));refine ch (S:=Nat×(Nat->List Int)) (fun q=>q.1<=N/\kA TN F q.2 d q.1 0) (fun q=>⟨bg [(0,.d (.ip [.sl none NN,.sl none RR,.v (.int .i64 N),.v (.int .i64 NI),.sl none NX])),(3,.own 14 0 N),(4,.d (.sl none (F.map fun n=>[.v (.int .i64 n)]))),(5,int d),(31,int N),(32,int q.1)],aw [(14,.box 36 (mB q.2 N))]⟩) (fun q=>N - q.1) (0,q) ?_ ⟨by dsimp only;omega,hI⟩ ?_
   .refine bo fw
   .rintro⟨s,q2⟩ ⟨hs,Br⟩;dsimp only at hs Br ⊢;refine ae fw [0,3,4,5,31,32,33] [14] ?_;refine ag fun K4 b6=>?_;by_cases aG:s < N
    .have qd:s < TN.length:=aa
     have B2:s < NX.length:=aa
     have qb:s < F.length:=aa
     have sq:NX[s]=[.sl none (TN[s].map fun n=>[.v (.int .i64 n)])]:=by
      have qA:=j6 s qd;rw[AT B2]at qA;exact AI qA
     refine bR (by simp<;>omega) ?_;refine aq (b6 _ (ag fun K5 b5=>bf (ae fw [0,3,4,5,6,31,32] [14] ?_)));refine ag fun K6 dy=>?_;by_cases D6:F.getD s 0=(d:Int)
     .have BO:=D6;rw[dw qb]at BO;have dA:=gz _ (By qd);have eC:=xO s qd;have jH:=tC s d;have qf:=(Aq fw (Aq @qb @BO));refine ax [0,3,4,5,6,31,32,40] [14] ?_;refine bU (by simp<;>omega) ?_;refine aq (dy _ ?_);generalize hR:TN[s]=R at *;have qf:=(Aq fw (Aq @B2 @sq));refine ax [0,3,4,5,6,31,32,47,48,49] [14] ?_;refine ch (S:=Nat×(Nat->List Int)) (fun q=>q.1<=R.length/\kA TN F q.2 d s q.1) (fun q=>⟨bg [(0,.d (.ip [.sl none NN,.sl none RR,.v (.int .i64 N),.v (.int .i64 NI),.sl none NX])),(3,.own 14 0 N),(4,.d (.sl none (F.map fun n=>[.v (.int .i64 n)]))),(5,int d),(6,int s),(31,int N),(32,int s),(47,.d (.sl none (R.map fun n=>[.v (.int .i64 n)]))),(48,int R.length),(49,int q.1)],aw [(14,.box 36 (mB q.2 N))]⟩) (fun q=>R.length - q.1) (0,q2) ?_ ⟨by dsimp only;omega,Br⟩ ?_
      .refine bo fw
      .rintro⟨i,q3⟩ ⟨hi,zg⟩;dsimp only at hi zg ⊢;refine ae fw [0,3,4,5,6,31,32,47,48,49,50] [14] ?_;refine ag fun K7 eH=>?_;by_cases dr:i < R.length
       .obtain⟨v0,v1⟩:=dA R[i] (By dr);obtain⟨u,hu⟩:=ami v0
        have ou:u < N:=aa
        have B6:u < F.length:=aa
        have Ms:i < TN[s].length:=by rw[hR];exact dr
        have LD:TN[s][i]=(u:Int):=by simp only[hR];exact hu
        obtain⟨SH,vK⟩:=dz q3 d s i s qd zg D6;have cH:=va q3 N;have D1:=FW (q:=q3) aG (by rw[cH];exact aG);have BF:=FW (q:=q3) ou (by rw[cH];exact ou)
        have LF:∃ kk,oI s (q3 s) = .sl kk ((dv TN s d 0).map fun n=>[.v (.int .i64 n)]):=by
         unfold oI;by_cases e:s=0
         .rw[if_pos e,SH e];exact⟨_,rfl⟩
         .rw[if_neg e,vK e];by_cases e2:dv TN s d 0=[]
          .rw[uh e2,e2];exact⟨_,rfl⟩
          .rw[pU e2];exact⟨_,rfl⟩
        obtain⟨kk,LF⟩:=LF;rw[LF]at D1;have ac8:=fun (p:List Int) (h0:u≠0)=>akQ (q:=q3) (p:=p) ou h0;have q1:=OG (dv TN s d 0);have As:=one_one (dv TN s d 0)
        have wm:((dv TN s d 0).map fun n=>[D.v (.int .i64 n)]).length=d:=by simp[jH]
        have xN:((dv TN s d 0).map fun n=>[D.v (.int .i64 n)]) ++ [[D.v (.int .i64 (i:Int))]]=(dv TN s d 0 ++ [(i:Int)]).map fun n=>[D.v (.int .i64 n)]:=ak
        have eu:(dv TN s d 0 ++ [(i:Int)]).length=d+1:=by simp[jH]
        have nD:dv TN s d 0 ++ [(i:Int)]≠[]:=ak
        have M1:=fun (h1:F.getD u 0=(d:Int)+1) (h2:q3 u≠[])=>aho zg aa h1 h2;have hpo:=fun (h1:F.getD u 0≠(d:Int)+1)=>ahq zg qd Ms LD h1;have xM:=fun (h1:q3 u≠[]) (h2:fc (dv TN s d 0 ++ [(i:Int)]) (q3 u)=false)=>ahn zg qd Ms LD h1 h2;have uJ:=fun (h1:F.getD u 0=(d:Int)+1) (h2:q3 u=[]\/fc (dv TN s d 0 ++ [(i:Int)]) (q3 u)=true)=>ahu zg qd D6 Ms LD aa h1 h2
        have hu0:F.getD u 0=(d:Int)+1->u≠0:=fun h e=>by subst e;omega
        generalize dv TN s d 0 ++ [(i:Int)]=PW at *;generalize ((dv TN s d 0).map fun n=>[D.v (.int .i64 n)])=PM at *;refine bR (by simp<;>omega) ?_;refine aq (eH _ (ag fun K8 eo=>bf ?_));have qf:=(Aq fw (Aq @dr @hu));refine ax [0,3,4,5,6,7,8,31,32,47,48,49] [14] ?_;refine rg [0,3,4,5,6,8,9,31,32,47,48,49] [14,54] aQ fun K' ao=>?_;(repeat refine aK fun Kq af=>?_;simp[yJ,yI,va,cH,D1,aG,wm,q1,As,sh];(repeat refine⟨aa,?_⟩);refine af _ ?_);refine bH (ao _ (AW.st (by simp[yJ,yI,va,cH,D1,aG,wm,q1,As,sh];rfl) ?_));simp only[xN]
        have nY:(PW.map fun n=>[D.v (.int .i64 n)]).length=d+1:=by simp[eu]
        have hPd:=pU nD;refine AW.imp (aL.freeze 54 trivial) ?_;refine AW.st (by simp[yJ,yI,va,nY,sh];rfl) ?_;refine AW.Fe 9 rfl ?_ (fun h=>absurd (List.map_eq_nil_iff.1 h) nD);refine AW.st bt ?_;by_cases zB:F.getD u 0=(d:Int)+1
        .have H4:=hu0 zB;have xC:=zB;rw[dw B6]at xC
         have abW:oI u (q3 u)=qy (q3 u):=by unfold oI;rw[if_neg H4]
         rw[abW]at BF;have HW:=ac8 PW H4;rw[hPd,List.set_eq_take_append_cons_drop,if_pos (by rw[cH];exact ou)]at HW;obtain⟨q4,HS⟩:∃ q4:Nat->List Int,(fun z=>if z=u then PW else q3 z)=q4:=⟨_,rfl⟩;rw[HS]at HW uJ;by_cases hq:q3 u=[]
         .have tq:=uJ zB (.inl hq);rw[uh hq]at BF;have qf:=(Aq fw (Aq @B6 (Aq @xC (Aq @cH (Aq @BF @ou)))));refine ax [0,3,4,5,6,8,9,31,32,47,48,49,84] [14] ?_;refine bR (by simp<;>omega) ?_;have qf:=(Aq fw (Aq @cH @ou));refine eM eo [0,3,4,5,6,31,32,47,48,49] [14] ?_;refine cA fw ?_;(try simp only[aT,aW]);refine aZ.mk (i+1,q4) ⟨by dsimp only;omega,tq⟩ (by dsimp only;omega) ?_;dsimp only;rw[<- HW];refine aL.ek aQ (by simp[yJ,yI,va,an7,anY]) (by simp[yJ,yI,va,an7,anY])
         .have ald:=M1 zB hq;have nt:=Qw G (some true) (some true) PW (q3 u) aa aa;rw[pU hq]at BF
          cases hb:fc PW (q3 u) with
          | true=>
           have tq:=uJ zB (.inr hb);rw[hb]at nt;have qf:=(Aq fw (Aq @B6 (Aq @xC (Aq @cH (Aq @BF @ou)))));refine eF nt [0,3,4,5,6,8,9,31,32,47,48,49,84] [14] ?_;refine bR (by simp<;>omega) ?_;have qf:=(Aq fw (Aq @cH @ou));refine eM eo [0,3,4,5,6,31,32,47,48,49] [14] ?_;refine cA fw ?_;(try simp only[aT,aW]);refine aZ.mk (i+1,q4) ⟨by dsimp only;omega,tq⟩ (by dsimp only;omega) ?_;dsimp only;rw[<- HW];refine aL.ek aQ (by simp[yJ,yI,va,an7,anY]) (by simp[yJ,yI,va,an7,anY])
          | false=>
           have tq:=xM hq hb;rw[hb]at nt;have qf:=(Aq fw (Aq @B6 (Aq @xC (Aq @cH (Aq @BF @ou)))));refine eF nt [0,3,4,5,6,8,9,31,32,47,48,49,84] [14] ?_;refine bU (by simp<;>omega) ?_;refine aq (eo _ (cA fw ?_));(try simp only[aT,aW]);refine aZ.mk (i+1,q3) ⟨by dsimp only;omega,tq⟩ (by dsimp only;omega) ?_;refine bo fw
        .have tq:=hpo zB;have xC:=zB;rw[dw B6]at xC;generalize Mj:F[u]=fv at xC;have qf:=(Aq fw (Aq @B6 (Aq @Mj @xC)));refine ax [0,3,4,5,6,8,9,31,32,47,48,49,84] [14] ?_;refine bU (by simp<;>omega) ?_;refine aq (eo _ (cA fw ?_));(try simp only[aT,aW]);refine aZ.mk (i+1,q3) ⟨by dsimp only;omega,tq⟩ (by dsimp only;omega) ?_;refine bo fw
       .obtain rfl:i=R.length:=aa
        have tq:kA TN F q3 d (s+1) 0:=ahr qd (by rw[hR];exact zg);refine bU (by simp<;>omega) ?_;refine bL (b5 _ (cA fw ?_));(try simp only[aT,aW]);refine aZ.mk (s+1,q3) ⟨by dsimp only;omega,tq⟩ (by dsimp only;omega) ?_;refine bo fw
     .have BO:=D6;rw[dw qb]at BO;generalize Mj:F[s]=fv at BO;have qf:=(Aq fw (Aq @qb (Aq @Mj @BO)));refine ax [0,3,4,5,6,31,32,40] [14] ?_;refine bR (by simp<;>omega) ?_;refine bL (b5 _ (cA fw ?_));(try simp only[aT,aW]);refine aZ.mk (s+1,q2) ⟨by dsimp only;omega,ahs Br D6⟩ (by dsimp only;omega) ?_;refine bo fw
    .have EB:s=N:=aa
     subst EB;have tq:=gI q2 d Br;refine bU (by simp<;>omega) ?_;refine bL (aX _ (cA fw ?_));(try simp only[aT,aW]);refine aZ.mk (d+1,q2) ⟨by dsimp only;omega,tq⟩ (by dsimp only;omega) ?_;refine bo fw
  .have D3:d=N:=aa
   have hE:=su q d aa hI;refine bU (by simp<;>omega) ?_;refine bL (aF _ ?_);rw[akP];refine AW.imp (aL.aa3 (fun _=>trivial) 3 rfl rfl ak) ?_;rw[<- hE];unfold wW;simp only[amk,amc];refine ae fw [2] [] ?_;exact aY fw
theorem PO {p:aM} (aV:cO p=none) {s d:Nat} (hs:s < (aS p).length) (hd:(gl (aS p)).getD s 0=(d:Int)):lX (aS p) s=dv (aS p) s d 0:=by
 unfold lX;by_cases h0:d=0
 .subst h0;rw[if_neg aa];rfl
 .rw[if_pos aa,hd,amd]
theorem akS {p:aM} (aV:cO p=none) {s:Nat} (hs:s < (aS p).length):((gl (aS p)).getD s 0 < 0->oI s (lX (aS p) s) = .sl (some false) [])/\(¬ (gl (aS p)).getD s 0 < 0->oI s (lX (aS p) s) = .sl (some true) ((lX (aS p) s).map fun n=>[.v (.int .i64 n)])):=by
 have hF:=tm (yD aV);constructor
 .intro h
  have h0:s≠0:=fun e=>by subst e;rw[hF.zero]at h;omega
  unfold oI lX;rw[if_neg h0,if_neg aa];rfl
 .intro h;obtain⟨d,hd⟩:=ami (show 0<=(gl (aS p)).getD s 0 by omega);rw[PO aV hs hd];unfold oI;by_cases h0:s=0
  .subst h0;rw[hF.zero]at hd
   obtain rfl:d=0:=aa
   rw[if_pos rfl];rfl
  .have:d≠0:=fun e=>h0 (hF.one s hs aa);rw[if_neg h0,pU];intro e;have:=congrArg List.length e;rw[pN]at this;simp at this;omega
theorem adI (G:aB) (hM:ky G) (p:aM) (aV:cO p=none) (hk:∀ r∈p.aC,mZ r) (lE:(bl p).length<=6) (hP:bT (bF p)<=4096) (e:Ex) (hw:gF e) (hb:bE e<=2^28) (gg:nO p e=false):aD prog G 12 [rr p,dR e] (qy (mF p e)):=by
 have iG:=X0 G hM p aV hk lE hP e hw hb gg;have uJ:=akG G p aV lE hP;have ht:=yD aV;have G7:=tm ht;have BM:=GH ht;have hlen:=rX p;have om:0 < bT (bF p):=o4 fun x hx=>(nJ (gb aV) hx).m2
 have rH:(aS p).length<=4096:=aa
 have cW:=zd p e
 have eC:∀ s (h:s < (gW p e).length),(gW p e)[s].length<=64:=fun s h=>by
  rw[DB,xt];exact amP (n:=2) bD lE
 have TV:=fun s (hs:s < (aS p).length)=>akS aV hs
 have tC:∀ s,s < (aS p).length->(lX (aS p) s).length<=4096:=fun s hs=>by
  by_cases h:(gl (aS p)).getD s 0 < 0
  .unfold lX;rw[if_neg aa];simp
  .obtain⟨d,hd⟩:=ami (show 0<=(gl (aS p)).getD s 0 by omega);rw[PO aV hs hd,pN];have:=BM s hs;omega
 have SO:sa (lX (aS p)) (gl (aS p)) (gW p e) (aS p).length=mF p e:=afM _ _ _ _ fun s d hs hd=>PO aV hs hd;rw[<- SO];have DC:sa (lX (aS p)) (gl (aS p)) (gW p e) 0=[]:=rfl
 have nU:∀ s (h:s < (gW p e).length),sa (lX (aS p)) (gl (aS p)) (gW p e) (s+1)=if (gl (aS p)).getD s 0 < 0 then sa (lX (aS p)) (gl (aS p)) (gW p e) s else oM (lX (aS p) s) (gW p e)[s] (sa (lX (aS p)) (gl (aS p)) (gW p e) s) (gW p e)[s].length:=fun s h=>by rw[sa,dw h]
 have hIs:∀ (w:List Int) (g:List Bool) (b:List Int) i (h:i < g.length),oM w g b (i+1)=if g[i]=false/\w5 (w ++ [(i:Int)]) (oM w g b i)=true then w ++ [(i:Int)] else oM w g b i:=fun w g b i h=>by rw[oM,dw h]
 simp only[wW,rr,rq,ug,ck,y4,ff]at iG uJ ⊢;obtain⟨WD,Hk⟩:∃ WD:List (List D),((List.range (aS p).length).map fun t=>[oI t (lX (aS p) t)])=WD:=⟨_,rfl⟩
 have abK:WD.length=(aS p).length:=by rw[<- Hk];simp
 have Sz:∀ s (h:s < (aS p).length),WD[s]? = some [oI s (lX (aS p) s)]:=fun s h=>by rw[<- Hk];simp[h]
 rw[Hk]at uJ;clear Hk SO G7 BM om hlen ht;generalize gl (aS p)=F at *;generalize gW p e=GD at *;generalize lX (aS p)=W at *;obtain⟨BS,RX⟩:∃ BS:Nat->List Int,∀ s,sa W F GD s=BS s:=⟨_,fun _=>rfl⟩;simp only[RX]at DC nU ⊢;clear RX;rw[<- cW];rw[<- cW]at abK rH;simp only[<- cW]at TV tC Sz;obtain⟨cm,BJ⟩:∃ cm:D,D.ip [.sl none (p.names.map bw),.sl none (p.aC.map ez),.v (.int .i64 (bT (bF p))),.v (.int .i64 ((fS p:Nat):Int)),.sl none (eW (aS p))]=cm:=⟨_,rfl⟩;rw[BJ]at iG uJ ⊢;clear BJ cW;refine aD.aO (ay _) func12 rfl rfl (rs:=[.tmp 4]) results12 (by simp[ntmps12]) fun X=>?_;simp only[ntmps12,List.map];refine ar [0,1] [] ?_;refine rg [5,6] [] aQ fun K' ao=>?_;(repeat refine aK fun Kq af=>?_;simp;(repeat refine⟨aa,?_⟩);refine af _ ?_);refine aK fun Kq af=>?_;simp;refine yt (iG) bt (af _ ?_);simp only[aN,du];(repeat refine aK fun Kq af=>?_;simp;(repeat refine⟨aa,?_⟩);refine af _ ?_);refine aK fun Kq af=>?_;simp;refine yt (uJ) bt (af _ ?_);simp only[aN,du];(repeat refine aK fun Kq af=>?_;simp;(repeat refine⟨aa,?_⟩);refine af _ ?_);refine bH (ao _ (AW.st bt ?_));refine ar [5,6,7] [] ?_;refine ag fun K1 aF=>ar [5,7,18,19,20] [] ?_;refine ch (S:=Nat) (fun s=>s<=GD.length) (fun s=>⟨bg [(5,.d (.sl none (GD.map fun x=>[.sl none (x.map fun b=>[.v (.bool b)])]))),(7,.d (qy (BS s))),(18,.d (.sl none WD)),(19,int WD.length),(20,int s)],aw []⟩) (fun s=>GD.length - s) 0 ?_ aa ?_
 .rw[DC,uh rfl];refine cg
 .intro s hs;have TW:=TV s;have Hm:=tC s;have Bq:=nU s;have SA:=Sz s;generalize iF:BS s=b0 at *;refine ar [5,7,18,19,20,21] [] ?_;refine ag fun K2 au=>?_;by_cases aG:s < GD.length
  .refine bR (by simp<;>omega) ?_;refine aq (au _ (ag fun K3 aX=>bf ?_))
   have MH:s < WD.length:=aa
   have Hl:WD[s]=[oI s (W s)]:=by
    have h:=SA aG;rw[AT MH]at h;exact AI h
   obtain⟨p6,lU⟩:=TW aG;have pt:=Bq aG;have ak2:=Hm aG;clear TW Bq Hm SA nU;by_cases hf:F.getD s 0 < 0
   .rw[p6 hf]at Hl;rw[if_pos hf]at pt;have qf:=(Aq @MH @Hl);refine ax [5,7,8,9,18,19,20] [] ?_;refine ag fun K4 b6=>ar [5,7,8,9,18,19,20,26] [] ?_;refine aJ (bL (aX _ ?_));refine cK ?_;(try simp only[aT,aW]);refine aZ.mk (s+1) aa aa ?_;rw[pt];refine cg
   .rw[lU hf]at Hl;rw[if_neg hf]at pt;clear p6 lU;generalize W s=w at *
    have Mm:(GD.map fun x=>[D.sl none (x.map fun b=>[D.v (Value.bool b)])])[s]? = some [D.sl none (GD[s].map fun b=>[D.v (Value.bool b)])]:=by simp[aG]
    have abq:=hIs w GD[s] b0;have h64:=eC s aG;generalize GD[s]=g at *;have qf:=(Aq @MH @Hl);refine ax [5,7,8,9,18,19,20] [] ?_;refine ag fun K4 b6=>ar [5,7,8,9,18,19,20,26] [] ?_;refine al (aq (b6 _ ?_));obtain⟨GM,Ln⟩:∃ GM:List (List D),(GD.map fun x=>[D.sl none (x.map fun b=>[D.v (Value.bool b)])])=GM:=⟨_,rfl⟩
    have akW:GM.length=GD.length:=by rw[<- Ln];simp
    rw[Ln]at Mm ⊢
    have Th:s < GM.length:=aa
    have abm:GM[s]=[D.sl none (g.map fun b=>[D.v (Value.bool b)])]:=by
     rw[AT Th]at Mm;exact AI Mm
    have qf:=(Aq @Th @abm);refine ax [5,7,9,18,19,20,30,31,32] [] ?_;refine ch (S:=Nat) (fun i=>i<=g.length) (fun i=>⟨bg [(5,.d (.sl none GM)),(7,.d (qy (oM w g b0 i))),(9,.d (.sl (some true) (w.map fun n=>[.v (.int .i64 n)]))),(18,.d (.sl none WD)),(19,int WD.length),(20,int s),(30,.d (.sl none (g.map fun b=>[.v (.bool b)]))),(31,int g.length),(32,int i)],aw []⟩) (fun i=>g.length - i) 0 ?_ aa ?_
    .rw[show oM w g b0 0=b0 from rfl];refine cg
    .intro i hi;have abr:=abq i;generalize BE:oM w g b0 i=b at *;refine ar [5,7,9,18,19,20,30,31,32,33] [] ?_;refine ag fun K5 b5=>?_;by_cases dr:i < g.length
     .refine bR (by simp<;>omega) ?_;refine aq (b5 _ (ag fun K6 dy=>bf ?_));have oS:=abr dr;have q1:=OG w;have As:=one_one w
      have wm:(w.map fun n=>[D.v (.int .i64 n)]).length=w.length:=ak
      have xN:(w.map fun n=>[D.v (.int .i64 n)]) ++ [[D.v (.int .i64 (i:Int))]]=(w ++ [(i:Int)]).map fun n=>[D.v (.int .i64 n)]:=ak
      have eu:(w ++ [(i:Int)]).length=w.length+1:=ak
      have nD:w ++ [(i:Int)]≠[]:=ak
      generalize w ++ [(i:Int)]=PW at *;generalize hPM:(w.map fun n=>[D.v (.int .i64 n)])=PM at *;generalize w.length=m at *
      cases sx:g[i] with
      | true=>
       rw[sx,if_neg ak]at oS;have qf:=(Aq @dr @sx);refine ax [5,7,9,10,11,18,19,20,30,31,32] [] ?_;refine rg [5,7,9,11,12,18,19,20,30,31,32] [37] aQ fun K' ao=>?_;(repeat refine aK fun Kq af=>?_;simp[wm,q1,As,sh];(repeat refine⟨aa,?_⟩);refine af _ ?_);refine bH (ao _ (AW.st (by simp[wm,q1,As,sh];rfl) ?_));refine ar [5,7,9,12,18,19,20,30,31,32,67] [] ?_;refine al (aq (dy _ ?_));refine cK ?_;(try simp only[aT,aW]);refine aZ.mk (i+1) aa aa ?_;rw[oS];refine cg
      | false=>
       rw[sx]at oS;have qf:=(Aq @dr @sx);refine ax [5,7,9,10,11,18,19,20,30,31,32] [] ?_;refine rg [5,7,9,11,12,18,19,20,30,31,32] [37] aQ fun K' ao=>?_;(repeat refine aK fun Kq af=>?_;simp[wm,q1,As,sh];(repeat refine⟨aa,?_⟩);refine af _ ?_);refine bH (ao _ (AW.st (by simp[wm,q1,As,sh];rfl) ?_));simp only[xN]
       have nY:(PW.map fun n=>[D.v (.int .i64 n)]).length=m+1:=by simp[eu]
       refine AW.imp (aL.freeze 37 trivial) ?_;refine AW.st (by simp[nY,sh];rfl) ?_;refine AW.Fe 12 rfl ?_ (fun h=>absurd (List.map_eq_nil_iff.1 h) nD);refine AW.st bt ?_;by_cases qC:b=[]
       .rw[if_pos ⟨rfl,by rw[qC];rfl⟩]at oS;rw[uh qC];refine ar [5,7,9,12,18,19,20,30,31,32,67] [] ?_;refine aJ (gq trivial dy [5,7,9,18,19,20,30,31,32] [] ?_);refine cK ?_;(try simp only[aT,aW]);refine aZ.mk (i+1) aa aa ?_;rw[oS,pU nD];refine cg
       .have zr:b.isEmpty=false:=by cases b with | nil=>exact absurd rfl qC | cons _ _=>rfl
        rw[pU qC]
        have hah:w5 PW b=(decide (PW.length < b.length) || (decide (PW.length=b.length) && fc PW b)):=by unfold w5;rw[zr,anz]
        rw[hah]at oS;obtain⟨n,fI⟩:∃ n,b.length=n:=⟨_,rfl⟩;rw[eu,fI]at oS
        have ak7:(b.map fun n=>[D.v (.int .i64 n)]).length=n:=by simp[fI]
        by_cases eU:m+1 < n
        .have vN:(m:Int)+1 < (n:Int):=aa
         rw[if_pos ⟨rfl,by simp[eU]⟩]at oS;have qf:=(Aq @eu (Aq @fI (Aq @eU @vN)));refine ax [5,7,9,12,18,19,20,30,31,32,67] [] ?_;refine bR (by simp[eu,fI,eU,vN]) (gq trivial dy [5,7,9,18,19,20,30,31,32] [] ?_);refine cK ?_;(try simp only[aT,aW]);refine aZ.mk (i+1) aa aa ?_;rw[oS,pU nD];refine cg
        .have vN:¬ (m:Int)+1 < (n:Int):=aa
         by_cases gv:m+1=n
         .have zt:(m:Int)+1=(n:Int):=aa
          have nt:=Qw G (some true) (some true) PW b aa aa
          cases SN:fc PW b with
          | true=>
           rw[SN]at nt oS;rw[if_pos ⟨rfl,by simp[gv]⟩]at oS;have qf:=(Aq @eu (Aq @fI (Aq @eU (Aq @vN (Aq @gv @zt)))));refine eF nt [5,7,9,12,18,19,20,30,31,32,67] [] ?_;refine bR (by simp[eu,fI,eU,vN,gv,zt]) (gq trivial dy [5,7,9,18,19,20,30,31,32] [] ?_);refine cK ?_;(try simp only[aT,aW]);refine aZ.mk (i+1) aa aa ?_;rw[oS,pU nD];refine cg
          | false=>
           rw[SN]at nt oS;rw[if_neg (by simp[eU])]at oS;have qf:=(Aq @eu (Aq @fI (Aq @eU (Aq @vN (Aq @gv @zt)))));refine eF nt [5,7,9,12,18,19,20,30,31,32,67] [] ?_;refine bU (by simp[eu,fI,eU,vN,gv,zt]) (aq (dy _ ?_));refine cK ?_;(try simp only[aT,aW]);refine aZ.mk (i+1) aa aa ?_;rw[oS,pU qC];refine cg
         .have zt:¬ (m:Int)+1=(n:Int):=aa
          rw[if_neg (by simp[eU,gv])]at oS;have qf:=(Aq @eu (Aq @fI (Aq @eU (Aq @vN (Aq @gv @zt)))));refine ax [5,7,9,12,18,19,20,30,31,32,67] [] ?_;refine bU (by simp[eu,fI,eU,vN,gv,zt]) (aq (dy _ ?_));refine cK ?_;(try simp only[aT,aW]);refine aZ.mk (i+1) aa aa ?_;rw[oS,pU qC];refine cg
     .obtain rfl:i=g.length:=aa
      refine bU ak ?_;refine bL (aX _ (cK ?_));(try simp only[aT,aW]);refine aZ.mk (s+1) aa aa ?_;rw[pt,BE];subst Ln;refine cg
  .obtain rfl:s=GD.length:=aa
   have wz:¬ (GD.length:Int) < (WD.length:Int):=aa
   refine bU (by simp<;>omega) ?_;refine bL (aF _ (ar [4] [] ?_));rw[iF];exact fP
