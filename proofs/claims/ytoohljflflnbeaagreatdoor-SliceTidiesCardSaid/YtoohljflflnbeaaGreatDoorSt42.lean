/- Parts. -/
import Derived.Test.YtoohljflflnbeaaGreatDoorSt41
import Derived.Maps.RangeRun
set_option linter.unusedSectionVars false
set_option linter.unusedSimpArgs false
set_option linter.unusedVariables false
set_option maxHeartbeats 64000000
set_option maxRecDepth 100000
open Go.Proofs.Tryz
namespace Go.Av
open Go.ChangeMaps (setBlock)
section
variable {P:Program} {T:Ty} {Mv X:Nat->Prop} {G:aF} {N:Fr} {w:World} {μ:Mu} {a:Act} {σ:St}
def Ky:Op->Bool
 | .range _ _=>true
 | .next _ false=>true
 | .entry _=>true
 | _=>false
def KA (T:Ty) (t:TypeId):Bool:=match T t with
 | some tt=>match tt.desc with
  | .map _ _=>true
  | _=>false
 | none=>false
def Wj (T:Ty) (G:aF) (t:TypeId) (x:Operand) (d:Nat) (σ:St) (K:St->Prop):Prop:=match bG G σ.env x with
 | some (.d (.dm _ ents))=>KA T t=true/\σ.H d=none/\∀ es:List (Value×Value),es.Perm ents->K ⟨ik σ.env d (.ref d 0 0),bk σ.H d (.it es [])⟩
 | _=>False
def UZ (G:aF) (x:Operand) (d:Nat) (σ:St) (K:St->Prop):Prop:=match bG G σ.env x with
 | some (.ref r 0 0)=>match σ.H r with
  | some (.it ents seen)=>((∀ j,j < ents.length->j∈seen)->K ⟨ik σ.env d (.d (.bI [.v (.bool false)])),σ.H⟩)/\
   ∀ j (hj:j < ents.length),j ∉ seen->K ⟨ik σ.env d (.d (.bI [.v (.bool true),.v ents[j].1,.v ents[j].2])),bk σ.H r (.it ents (seen ++ [j]))⟩
  | _=>False
 | _=>False
def PZ (G:aF) (x:Operand) (d:Nat) (σ:St) (K:St->Prop):Prop:=match bG G σ.env x with
 | some (.ref r 0 0)=>match σ.H r with
  | some (.it ents seen)=>∃ s j,∃ hj:j < ents.length,seen=s ++ [j]/\K ⟨ik σ.env d (.d (.bI [.v ents[j].1,.v ents[j].2])),σ.H⟩
  | _=>False
 | _=>False
def TA (T:Ty) (G:aF) (o:Oper) (σ:St) (K:St->Prop):Prop:=match o.op,o.dst with
 | .range t x,some d=>Wj T G t x d σ K
 | .next x false,some d=>UZ G x d σ K
 | .entry x,some d=>PZ G x d σ K
 | _,_=>False
def W6 (P:Program) (T:Ty) (Mv X:Nat->Prop) (G:aF) (N:Fr) (ops:Array Oper) (o:Oper) (σ:St) (K:St->Prop):Prop:=iy N o/\match jK ops σ.env o with
 | some b=>if b=true then (if Ky o.op=true then TA T G o σ K else vM P T Mv X G N o σ K) else K ⟨aR σ.env o.dst dA,σ.H⟩
 | none=>False
end
attribute [simp] W6 Ky KA np
end Go.Av
namespace Go.Proofs.YtoohljflflnbeaaGreatDoor
open Go.Av
theorem ZB:(⟨#[32]⟩:ByteArray)=bs [32]:=rfl
theorem CR:(⟨#[]⟩:ByteArray)=bs []:=rfl
def oX (l:List Tx):List (List D):=(l.filter fun w=>decide (w≠[])).map fun s=>[dS s]
theorem I2:oX []=[]:=rfl
theorem Qt (l:List Tx) (n:Nat) (h:n < l.length):oX (l.take (n+1))=if l[n]=[] then oX (l.take n) else oX (l.take n) ++ [[dS l[n]]]:=by
 unfold oX;rw[aa7 h,List.filter_append,abt];by_cases h0:l[n]=[]
 .simp[h0]
 .simp[h0]
theorem NF (G:aF) (hM:nh G) (t:Tx) (ht:t.length < 2^30):aH prog G 173 [dS t] (.sl none ((gx t).map fun s=>[dS s])):=by
 have rU:=M1 G hM t 32 ht
 have BD:(gx t).map (fun s=>[dS s])=oX (eE 32 t):=by
  unfold oX gx eE;rw[<- CT]
 rw[BD];have uC:=AA 32 t;simp only[dS]at rU;generalize eE 32 t=l at *;refine aH.aU (aw _) func173 rfl rfl (rs:=[.tmp 2]) results173 (by simp[ntmps173]) fun X=>?_;simp only[ntmps173,List.map];have fw:=@acC;refine af fw [0] [] ?_;refine af fw [0,3] [] ?_;refine ah fun K1 aI=>?_;have qf:=(Aq fw @ZB);refine eC rU [3,7,8,9] [] ?_;refine AW.imp (aY.qb 3 300 9 1 rfl rfl) ?_;refine eD (S:=Nat) (fun n=>n<=l.length) (fun n=>⟨bl [(3,.own 300 0 (oX (l.take n)).length),(7,.d (.sl (some true) (l.map fun s=>[dS s]))),(8,int l.length),(9,int n)],au [(300,.sl 9 1 (oX (l.take n)))]⟩) (fun n=>l.length - n) 0 ?_ aa ?_
 .refine aY.fo aT (by simp[ab,I2,dS]) (by simp[ab,I2,dS])
 .intro n hn;refine af fw [3,7,8,9,10] [300] ?_;refine ah fun K2 ak=>?_;by_cases bf:n < l.length
  .refine eJ (by simp;omega) ?_;have hs:=Qt l n bf;generalize Jm:oX (l.take (n+1))=W2 at hs;generalize hW:oX (l.take n)=W at *
   have ZZ:W.length<=2^40:=by
    rw[<- hW];unfold oX;rw[abq];have h1:=List.length_filter_le (fun w=>decide (w≠[])) (l.take n);have h2:=List.length_take_le n l;omega
   refine ax (ak _ (ah fun K3 bF=>bd ?_));simp only[dS]at hs;have qf:=(Aq fw (Aq @bf @acB));refine aC [3,5,7,8,9] [300] ?_;by_cases hx:l[n]=[]
   .rw[if_pos hx]at hs;refine rg [3,5,7,8,9,14] [300] aT fun K' ai=>?_;(repeat refine aq fun Kq ae=>?_;simp[ab,CR,ay,aJ,hx];(repeat refine⟨aa,?_⟩);refine ae _ ?_);refine aZ (ai _ (AW.st (by simp[ab,CR,ay,aJ,hx];rfl) ?_));refine gW (by simp[hx]) (ax (bF _ ?_));refine fe fw ?_;(try simp only[bY,b9]);refine cC.mk (n+1) aa aa ?_;refine bL (Aq fw (Aq @Jm (Aq @hs @acB)))
   .rw[if_neg hx]at hs
    have qC:l[n].isEmpty=false:=by rw[ab9];exact hx
    refine rg [3,5,7,8,9,14] [300] aT fun K' ai=>?_;(repeat refine aq fun Kq ae=>?_;simp[ab,CR,ay,aJ,hx];(repeat refine⟨aa,?_⟩);refine ae _ ?_);refine aZ (ai _ (AW.st (by simp[ab,CR,ay,aJ,hx];rfl) ?_));refine eJ (by simp[hx]) (ea (aw _) fun K' ai=>?_);(repeat refine aq fun Kq ae=>?_;simp[ab,sh];(repeat refine⟨aa,?_⟩);refine ae _ ?_);refine aZ (ai _ ?_);refine bF _ (AW.norm [3,7,8,9] [300] aT (AW.st (by simp[ab,sh];rfl) ?_));refine fe fw ?_;(try simp only[bY,b9]);refine cC.mk (n+1) aa aa ?_;refine bL (Aq fw (Aq @Jm (Aq @hs @acB)))
  .obtain rfl:n=l.length:=aa
   refine gW al ?_;rw[abo];refine cX (aI _ (AW.imp (aY.freeze 300 trivial) ?_));refine AW.st (by simp[ab];rfl) ?_;refine af fw [2] [] ?_;exact bg fw
def tY:Option Int->D
 | some v=>.bI [.v (.int .i64 v),.v (.bool true)]
 | none=>.bI [.v (.int .i64 0),.v (.bool false)]
theorem Wl (G:aF) (hP:qU G) {es er:Value} (hE:sr G es er) (s:Tx) (hs:s.length < 2^40):aH prog G 176 [dS s] (tY (tn s)):=by
 have gQ:=Vr G hE s hs
 have dw:tn s=match Lib.atoiAll s with
  | .ok v=>if Lib.itoa v=s then some v else none
  | _=>none:=rfl
 unfold tZ at gQ;refine aH.aU (aw _) func176 rfl rfl (rs:=[.tmp 2,.tmp 3]) results176 (by simp[ntmps176]) fun X=>?_;simp only[ntmps176,List.map];have fw:=@acB;refine af fw [0] [] ?_
 cases hn:Lib.atoiAll s with
 | ok v=>
  rw[hn]at gQ dw;dsimp only at gQ dw;obtain⟨v0,v1⟩:=Lib.atoiAll_bounds hn;have hit:=Qr G hP v v0 v1;simp only[dS]at hit;generalize Lib.itoa v=iv at hit dw;refine bB fw gQ [0,4,5] [] ?_;refine ah fun K1 aI=>?_;by_cases hc:iv=s
  .rw[if_pos hc]at dw;subst hc;refine rg [4,18] [] aT fun K' ai=>?_;(repeat refine aq fun Kq ae=>?_;simp[dS,ay,aJ];(repeat refine⟨aa,?_⟩);refine ae _ ?_);refine aq fun Kq ae=>?_;simp[dS,ay,aJ];refine ch.data (hit) bq (by first | exact D.aV _ | simp[aL,IS,AT,D.le,D.le.go,D.le_refl,D.aV,dS,ay,aJ]) ?_;refine ae _ ?_;simp only[aR,cw];(repeat refine aq fun Kq ae=>?_;simp[dS,ay,aJ];(repeat refine⟨aa,?_⟩);refine ae _ ?_);refine aZ (ai _ (AW.st (by simp[dS,ay,aJ];rfl) ?_));refine aj (ax (aI _ ?_));refine af fw [2,3] [] ?_;refine bt ?_;simp[D.le,D.le.go,aL,dS,dw,tY]
  .rw[if_neg hc]at dw;refine rg [4,18] [] aT fun K' ai=>?_;(repeat refine aq fun Kq ae=>?_;simp[dS,ay,aJ,hc];(repeat refine⟨aa,?_⟩);refine ae _ ?_);refine aq fun Kq ae=>?_;simp[dS,ay,aJ,hc];refine ch.data (hit) bq (by first | exact D.aV _ | simp[aL,IS,AT,D.le,D.le.go,D.le_refl,D.aV,dS,ay,aJ,hc]) ?_;refine ae _ ?_;simp only[aR,cw];(repeat refine aq fun Kq ae=>?_;simp[dS,ay,aJ,hc];(repeat refine⟨aa,?_⟩);refine ae _ ?_);refine aZ (ai _ (AW.st (by simp[dS,ay,aJ,hc];rfl) ?_));refine eJ (by simp[hc]) (af fw [2,3] [] ?_);refine bt ?_;simp[D.le,D.le.go,aL,dS,dw,tY]
 | range=>
  rw[hn]at gQ dw;dsimp only[ri]at gQ dw;refine bB fw gQ [0,4,5] [] ?_;refine ah fun K1 aI=>af fw [4,18] [] ?_;refine aD (af fw [2,3] [] ?_);refine bt ?_;simp[D.le,D.le.go,aL,dS,dw,tY]
 | _=>
  rw[hn]at gQ dw;dsimp only[ri]at gQ dw;refine bB fw gQ [0,4,5] [] ?_;refine ah fun K1 aI=>af fw [4,18] [] ?_;refine aD (af fw [2,3] [] ?_);refine bt ?_;simp[D.le,D.le.go,aL,dS,dw,tY]
def vQ (l:List Tx) (n:Nat):ni:=match fE l n with
 | .inr s=>s
 | .inl _=>nM
theorem AZ {l:List Tx} {n:Nat} {s:ni} (h:fE l n = .inr s):vQ l n=s:=by unfold vQ;rw[h]
theorem ZE {t:Tx}:∀ w∈gx t,w≠[]:=by
 intro w h;unfold gx at h;rw[<- CT]at h;have:=(List.mem_filter.1 h).2;simpa using this
theorem KF {l:List Tx} {s:Tx} {k:Nat} (hk:k < l.length) (h0:l[k]≠s):iP l s≠k:=by
 intro e
 have h1:¬ iP l s < 0:=aa
 unfold iP at e h1;obtain⟨j,hj,he,hs⟩:=wI h1;rw[he]at e
 have:j=k:=aa
 subst this;exact h0 (by simpa using hs)
theorem Pw {t:Tx} (h:(61:UInt8)∈t):(cutAt 61 t).1.length+1+(cutAt 61 t).2.length=t.length/\(bs t).extract 0 (cutAt 61 t).1.length=bs (cutAt 61 t).1/\(bs t).extract ((cutAt 61 t).1.length+1) t.length=bs (cutAt 61 t).2:=by
 obtain⟨a,b,rfl,ha⟩:=abN h;rw[vG ha];refine⟨by simp;omega,?_,?_⟩
 .rw[Lib.extract_eq];simp[bs]
 .rw[Lib.extract_eq]
  have:(a ++ 61 :: b).drop (a.length+1)=b:=by
   rw[show a.length+1=(a ++ [(61:UInt8)]).length by simp,show a ++ (61:UInt8) :: b=(a ++ [61]) ++ b by simp,List.drop_left]
  simp only[bs];rw[this,sh (by simp;omega)]
theorem Uv:(61:UInt8).toNat=61:=rfl
theorem acS:type_of% (Aq @acP (Aq @acQ (Aq @acO (Aq @acD (Aq @acE (Aq @acF (Aq @acG @acH))))))):=(Aq @acP (Aq @acQ (Aq @acO (Aq @acD (Aq @acE (Aq @acF (Aq @acG @acH)))))))
theorem Wp (G:aF) (hF:tS G) (hM:nh G) (hP:qU G) {es er:Value} (hE:sr G es er) (lI:vt G) (k7:vu G) (t:Tx):aH prog G 104 [dS t] (.bI [fq (ie t).2,dv (ie t).1]):=by
 have Jv:=Ds G 4;simp only[ab]at Jv;have Je:G 0=some (.ip [.v (.int .i64 0),.v (.int .i64 (-1))]):=hF;unfold vt at lI;unfold vu at k7;refine aH.aU (aw _) func104 rfl rfl (rs:=[.cell 2 62,.cell 3 52]) results104 (by simp[ntmps104]) fun X=>?_;simp only[ntmps104,List.map];have fw:=acW;refine af fw [0,2,3] [2,3] ?_;refine ah fun K1 aI=>?_;by_cases ht:20000 < t.length
 .have pO:(t.length:Int) > 20000:=aa
  have hp:ie t=(some (4,none),⟨[],[]⟩):=by unfold ie;rw[if_pos ht]
  have qf:=(Aq fw (Aq @bD @pO));refine aC [0,2,3,23] [2,3] ?_;refine eJ (by simp[pO]) (bB fw Jv [2,3] [2,3] ?_);exact bg (Aq fw (Aq @hp acS))
 have pO:¬ (t.length:Int) > 20000:=aa
 have qf:=(Aq fw (Aq @bD @pO));refine aC [0,2,3,23] [2,3] ?_;refine gW (by simp[pO]) (ax (aI _ ?_));refine af fw [0,2,3,4] [2,3,4] ?_;refine af fw [0,2,3,4,5,6] [2,3,4] ?_;refine af fw [0,2,3,4,5,6,7] [2,3,4] ?_;refine ah fun K2 ak=>?_;have rU:=M1 G hM t 10 aa;obtain⟨l,hl⟩:∃ l,l=eE 10 t:=⟨_,rfl⟩;have EV:=AA 10 t;rw[<- hl]at rU EV;simp only[dS]at rU;have qf:=(Aq fw @Lj);refine eC rU [2,3,4,5,6,7,27,28,29] [2,3,4] ?_;refine AW.imp (aY.qb 5 803 3 1 rfl rfl) ?_;refine AW.st bq ?_;refine AW.imp (aY.qb 6 804 3 1 rfl rfl) ?_;refine AW.st bq ?_;refine AW.imp (aY.n7 4 0 801 197 3 rfl rfl rfl) ?_;refine AW.st bq ?_;refine AW.imp (aY.n7 4 1 802 203 3 rfl rfl rfl) ?_;refine AW.st bq ?_;obtain⟨NN,sL⟩:∃ f:Nat->List (List D),f=fun n=>(vQ l n).names.map bH:=⟨_,rfl⟩;obtain⟨RR,rA⟩:∃ f:Nat->List (List D),f=fun n=>(vQ l n).ao.map dV:=⟨_,rfl⟩;obtain⟨NA,vR⟩:∃ f:Nat->List (List D),f=fun n=>dh (vQ l n).ia:=⟨_,rfl⟩;obtain⟨RA,vT⟩:∃ f:Nat->List (List D),f=fun n=>dh (vQ l n).ij:=⟨_,rfl⟩;obtain⟨PL,Jh⟩:∃ f:Nat->Int,f=fun n=>(ig l n:Int):=⟨_,rfl⟩
 have xX:∀ n s,fE l n = .inr s->NN n=s.names.map bH:=fun n s h=>by rw[sL];dsimp only;rw[AZ h]
 have x3:∀ n s,fE l n = .inr s->RR n=s.ao.map dV:=fun n s h=>by rw[rA];dsimp only;rw[AZ h]
 have xV:∀ n s,fE l n = .inr s->NA n=dh s.ia:=fun n s h=>by rw[vR];dsimp only;rw[AZ h]
 have xZ:∀ n s,fE l n = .inr s->RA n=dh s.ij:=fun n s h=>by rw[vT];dsimp only;rw[AZ h]
 have D9:∀ n,PL n=(ig l n:Int):=fun n=>by rw[Jh]
 have z1:NN 0=[]:=xX 0 nM rfl;have z2:RR 0=[]:=x3 0 nM rfl;have z3:NA 0=[]:=xV 0 nM rfl;have z4:RA 0=[]:=xZ 0 nM rfl;have z5:PL 0=0:=D9 0;clear sL rA vR vT Jh;refine eD (S:=Nat) (fun n=>n<=l.length/\∃ s,fE l n = .inr s) (fun n=>⟨bl [(2,.ref 2 0 0),(3,.ref 3 0 0),(4,.ref 4 0 0),(5,.own 803 0 (NA n).length),(6,.own 804 0 (RA n).length),(7,int (PL n)),(27,.d (.sl (some true) (l.map fun s=>[.v (.string (bs s))]))),(28,int l.length),(29,int n)],au [(2,.box 62 [.d qH,.d qH]),(3,.box 52 [.d (.v (.int .i64 0)),.d (.v (.int .i64 0))]),(4,.box 62 [.own 801 0 (NN n).length,.own 802 0 (RR n).length]),(801,.sl 197 3 (NN n)),(802,.sl 203 3 (RR n)),(803,.sl 3 1 (NA n)),(804,.sl 3 1 (RA n))]⟩) (fun n=>l.length - n) 0 ?_ ⟨aa,nM,rfl⟩ ?_
 .refine aY.fo aT (by simp[ab,dS,z1,z2,z3,z4,z5,qH]) (by simp[ab,dS,z1,z2,z3,z4,z5,qH])
 .rintro n ⟨yH,s,hs⟩;refine af fw [2,3,4,5,6,7,27,28,29,30] [2,3,4,801,802,803,804] ?_;refine ah fun K3 bF=>?_;by_cases bf:n < l.length
  .refine eJ (by simp[bf]) (ax (bF _ ?_));refine ah fun K4 cF=>bd ?_
   have SE:ig l n+l[n].length<=t.length:=by subst hl;exact GH bf
   have cR:PL (n+1)=(ig l n:Int)+((l[n].length:Int)+1):=by rw[D9,GI bf];omega
   have cG:=zw (t:=t) aa (Nat.le_of_lt (hl ▸ bf)) (hl ▸ hs);have fI:∀ s',jY s (ig l n) l[n] = .inr s'->fE l (n+1) = .inr s':=fun s' h=>L8 bf hs h;have jA:∀ c i,jY s (ig l n) l[n] = .inl (c,i)->ie t=(some (c,some i),⟨[],[]⟩):=fun c i h=>GC aa (hl ▸ L7 bf hs h);obtain⟨dX,fO,jS,_,_⟩:=cG
   have QN:(NN n).length=s.names.length:=by rw[xX n s hs];simp
   have QP:(RR n).length=s.ao.length:=by rw[x3 n s hs];simp
   have QO:(NA n).length=s.names.length:=by rw[xV n s hs];simp[dh,dX]
   have uf:(RA n).length=s.ao.length:=by rw[xZ n s hs];simp[dh,fO]
   have xW:=fun s' h=>xX (n+1) s' h;have x2:=fun s' h=>x3 (n+1) s' h;have xU:=fun s' h=>xV (n+1) s' h;have xY:=fun s' h=>xZ (n+1) s' h;have b1:=(xX n s hs).symm;have b2:=(x3 n s hs).symm;have b3:=(xV n s hs).symm;have b4:=(xZ n s hs).symm;rw[D9 n];have wD:=NF G hM l[n] aa;have Rt:=fun c=>WO G l[n] c
   have lM:∀ x,x=l[n]->x.length<=20000:=fun x h=>by rw[h];omega
   have qf:=(Aq fw @bf);refine aC [2,3,4,5,6,7,9,27,28,29] [2,3,4,801,802,803,804] ?_;generalize yC:l[n]=ln at *;generalize SF:ig l n=pk at *;generalize NN n=N1 at *;generalize RR n=R1 at *;generalize NA n=A1 at *;generalize RA n=A2 at *;refine af fw [2,3,4,5,6,7,9,10,27,28,29] [2,3,4,801,802,803,804] ?_;have qf:=(Aq fw @bD);refine aC [2,3,4,5,6,7,9,10,27,28,29] [2,3,4,801,802,803,804] ?_;refine ah fun K5 cI=>?_;have yZ:=fun w h=>CW (t:=ln) (w:=w) h;have mQ:=CV ln;by_cases h0:gx ln=[]
   .have bO:jY s pk ln = .inr s:=by unfold jY;rw[if_pos h0]
    have hn:=fI _ bO;rw[h0]at wD;simp only[dS]at wD;refine bB fw wD [2,3,4,5,6,7,9,10,27,28,29,42] [2,3,4,801,802,803,804] ?_;refine aD (cX (cF _ ?_));refine fe fw ?_;(try simp only[bY,b9]);refine cC.mk (n+1) ⟨aa,s,hn⟩ aa ?_;have e1:=xW _ hn;have e2:=x2 _ hn;have e3:=xU _ hn;have e4:=xY _ hn;rw[b1]at e1;rw[b2]at e2;rw[b3]at e3;rw[b4]at e4;refine aY.fo aT (by simp[ab,dS,e1,e2,e3,e4,cR]) (by simp[ab,dS,e1,e2,e3,e4,cR])
   have fC:jY s pk ln=match fY ln with
    | .form=>.inl (3,pk)
    | .bad c off=>.inl (c,pk+off)
    | .name n=>if s.ao=[] then .inr ⟨s.names ++ [n],s.ia ++ [pk],s.ao,s.ij⟩ else .inl (3,pk)
    | .nQ r=>.inr ⟨s.names,s.ia,s.ao ++ [r],s.ij ++ [pk]⟩:=by unfold jY;rw[if_neg h0];cases fY ln<;>rfl
   have fA:fY ln=if (61:UInt8)∈ln then oR (cutAt 61 ln).1 (cutAt 61 ln).2 (gx (cutAt 61 ln).1) else jX (gx ln):=rfl;have hwp:0 < (gx ln).length:=abG.2 h0;have gN:=Rt 61;simp only[Uv,dS,ab]at gN;generalize nI:gx ln=ws at *
   have aae:(ws.map fun s=>[dS s]).length=ws.length:=al
   have nH:¬ (ws.length:Int)=0:=aa
   simp only[dS]at wD;have qf:=(Aq fw (Aq @nH @h0));refine eC wD [2,3,4,5,6,7,9,10,27,28,29,42] [2,3,4,801,802,803,804] ?_;refine gW (by simp[nH,h0]) (ax (cI _ ?_));by_cases sK:(61:UInt8)∈ln
   .rw[if_pos sK]at fA gN;have hle:=Az 61 ln;have Ro:=Pw sK;have uW:=NF G hM (cutAt 61 ln).1 aa;have jV:=Wo G hF (cutAt 61 ln).2 aa;have S9:=ZE (t:=(cutAt 61 ln).1);generalize (cutAt 61 ln).1=hd at *;generalize (cutAt 61 ln).2=rest at *;obtain⟨e6,wF,qC⟩:=Ro
    have Bv:¬ (-1:Int) > 0:=aa
    simp only[dS]at uW jV;refine bB fw gN [2,3,4,5,6,7,9,10,11,27,28,29] [2,3,4,801,802,803,804] ?_;refine ah fun K6 fN=>af fw [2,3,4,5,6,7,9,10,11,27,28,29,46] [2,3,4,801,802,803,804] ?_;refine eJ al ?_;have qf:=(Aq fw (Aq @bD @wF));refine eC uW [2,3,4,5,6,7,9,10,11,12,27,28,29] [2,3,4,801,802,803,804] ?_;refine af fw [2,3,4,5,6,7,9,10,11,12,13,27,28,29] [2,3,4,13,801,802,803,804] ?_
    match s5:gx hd,S9 with
    | [],_=>
     rw[s5]at fA;simp only[s5,acn];refine ah fun K7 eF=>af fw [2,3,4,5,6,7,9,10,11,12,13,27,28,29,53] [2,3,4,13,801,802,803,804] ?_;refine bd (af fw [2,3,4,5,6,7,9,10,11,12,13,27,28,29,53,54] [2,3,4,13,801,802,803,804] ?_);refine aj (af fw [2,3,4,5,6,7,9,10,11,12,13,27,28,29,60] [2,3,4,13,801,802,803,804] ?_);refine aj (ax (eF _ ?_));have hp:=jA 3 pk (by rw[fC,fA];try rfl);refine ah fun K8 eg=>?_;have qf:=(Aq fw @e6);refine aC [2,3,4,5,6,7,9,10,11,13,27,28,29,84] [2,3,4,13,801,802,803,804] ?_;refine eJ (by simp[e6]) (af fw [2,3] [2,3] ?_);exact bg (Aq fw (Aq @hp acS))
    | [a],_=>
     rw[s5]at fA;have fy:True:=trivial;simp only[s5,acn,abj];refine ah fun K7 eF=>af fw [2,3,4,5,6,7,9,10,11,12,13,27,28,29,53] [2,3,4,13,801,802,803,804] ?_;refine bd (af fw [2,3,4,5,6,7,9,10,11,12,13,27,28,29,53,54] [2,3,4,13,801,802,803,804] ?_);refine aD (fc fw eF [2,3,4,5,6,7,9,10,11,12,13,27,28,29] [2,3,4,13,801,802,803,804] ?_);refine ah fun K8 eg=>?_;have qf:=(Aq fw @fy);refine aC [2,3,4,5,6,7,9,10,11,13,27,28,29,84] [2,3,4,13,801,802,803,804] ?_;refine gW (by simp[fy]) (ax (eg _ ?_));have fO:fY ln=lu 1 a hd rest:=fA;unfold lu at fO
     cases fB:(gB rest).2 with
     | some ci=>
      obtain⟨c,o⟩:=ci;have gA:=GF fB
      have c8:¬ c=0:=aa
      rw[fB]at jV fO;dsimp only at fO;have hp:=jA c (pk+(hd.length+1+o.getD 0)) (by rw[fC,fO])
      cases o with
      | none=>
       simp only[dv,codeF,cr,ab]at jV
       have cK:((pk+(hd.length+1+(none:Option Nat).getD 0):Nat):Int)=(pk:Int)+(hd.length:Int)+1:=by simp;omega
       rw[show (some (pk+(hd.length+1+(none:Option Nat).getD 0)))=some (pk+(hd.length+1+(none:Option Nat).getD 0)) from rfl]at hp;have qf:=(Aq fw (Aq @bD @qC));refine eC jV [2,3,4,5,6,7,10,11,13,14,15,27,28,29] [2,3,4,13,15,801,802,803,804] ?_;refine ah fun K9 gd=>?_;have qf:=(Aq fw @c8);refine aC [2,3,4,5,6,7,10,11,13,14,15,27,28,29,98] [2,3,4,13,15,801,802,803,804] ?_;refine eJ (by simp[c8]) (nZ (aw _) ag [(2,15),(8,15),(12,2),(13,3)] [2,3] [2,3,13,15] aT ag fun K' ai=>?_);(repeat refine lv fun Kq ae=>?_;simp[ab,dS,Bv];(repeat refine⟨aa,?_⟩);refine ae _ ?_);refine nU (ai _ ?_);refine AW.st (by simp[ab,dS,Bv];rfl) ?_;refine bt ?_;simp[D.le,D.le.go,aL,ab,dS,hp,fq,gX,ey,dv,codeF,cr,cK];omega
      | some o=>
       have E9:=zq fB;simp only[dv,codeF,cr,ab]at jV
       have cK:((pk+(hd.length+1+(some o).getD 0):Nat):Int)=(pk:Int)+(hd.length:Int)+1+(o:Int):=by simp;omega
       have yG:¬ (o:Int) < 0:=aa
       have qf:=(Aq fw (Aq @bD @qC));refine eC jV [2,3,4,5,6,7,10,11,13,14,15,27,28,29] [2,3,4,13,15,801,802,803,804] ?_;refine ah fun K9 gd=>?_;have qf:=(Aq fw @c8);refine aC [2,3,4,5,6,7,10,11,13,14,15,27,28,29,98] [2,3,4,13,15,801,802,803,804] ?_;refine eJ (by simp[c8]) (nZ (aw _) ag [(2,15),(8,15),(12,2),(13,3)] [2,3] [2,3,13,15] aT ag fun K' ai=>?_);(repeat refine lv fun Kq ae=>?_;simp[ab,dS,yG];(repeat refine⟨aa,?_⟩);refine ae _ ?_);refine nU (ai _ ?_);refine AW.st (by simp[ab,dS,yG];rfl) ?_;refine bt ?_;simp[D.le,D.le.go,aL,ab,dS,hp,fq,gX,ey,dv,codeF,cr,cK];split<;>omega
     | none=>
      rw[fB]at jV fO;dsimp only at fO;obtain⟨e,Fg⟩:=zr fB;rw[Fg]at jV fO;have hn:=fI _ (by rw[fC,fO])
      have jW:(s.ao ++ [(⟨1,a,some e⟩:gy)]).map dV=R1 ++ [[.v (.int .i64 1),.v (.string (bs a)),dR e]]:=by rw[abt,b2];rfl
      have eY:dh (s.ij ++ [pk])=A2 ++ [[.v (.int .i64 pk)]]:=by rw[vI,b4];rfl
      obtain⟨cs,rE⟩:=j5 e;simp only[dv,codeF,cr,ab,kZ]at jV;rw[rE]at jV jW;have qf:=(Aq fw (Aq @bD @qC));refine eC jV [2,3,4,5,6,7,10,11,13,14,15,27,28,29] [2,3,4,13,15,801,802,803,804] ?_;refine ah fun K9 gd=>af fw [2,3,4,5,6,7,10,11,13,14,15,27,28,29,98] [2,3,4,13,15,801,802,803,804] ?_;refine aj (ax (gd _ ?_));refine af fw [2,3,4,5,6,7,10,13,27,28,29] [2,3,4,13,801,802,803,804] ?_;refine rg [2,3,4,5,6,7,27,28,29] [2,3,4,801,802,803,804] aT fun K' ai=>?_;(repeat refine aq fun Kq ae=>?_;simp[ab,dS,sh];(repeat refine⟨aa,?_⟩);refine ae _ ?_);refine aZ (ai _ (AW.st (by simp[ab,dS,sh];rfl) ?_));refine cX (cF _ (fe fw ?_));(try simp only[bY,b9]);refine cC.mk (n+1) ⟨aa,_,hn⟩ aa ?_;have e1:=xW _ hn;have e2:=x2 _ hn;have e3:=xU _ hn;have e4:=xY _ hn
      try dsimp only at e1 e2 e3 e4
      rw[b1]at e1;rw[jW]at e2;rw[b3]at e3;rw[eY]at e4;refine aY.fo aT (by simp[ab,dS,e1,e2,e3,e4,cR]) (by simp[ab,dS,e1,e2,e3,e4,cR])
    | [a,b],QW=>
     rw[s5]at fA;simp only[s5,acn,abj];have ha:=QW a al;have iT:aH prog G 175 [.sl none [[.v (.string (bs []))],[.v (.string (bs []))],[.v (.string (bs [115,101,116]))],[.v (.string (bs [114,101,115,101,116]))],[.v (.string (bs [114,117,110]))],[.v (.string (bs [99,111,117,110,116]))],[.v (.string (bs [122,101,114,111]))]],.v (.string (bs a))] (.v (.int .i64 (iP mT a))):=Ld G none mT a ha bh;have aab:iP mT a≠0:=KF (l:=mT) (k:=0) bh (fun h=>ha h.symm);have aac:iP mT a≠1:=KF (l:=mT) (k:=1) bh (fun h=>ha h.symm);have ov:=BL mT a;refine ah fun K7 eF=>af fw [2,3,4,5,6,7,9,10,11,12,13,27,28,29,53] [2,3,4,13,801,802,803,804] ?_;refine bd (af fw [2,3,4,5,6,7,9,10,11,12,13,27,28,29,53,54] [2,3,4,13,801,802,803,804] ?_);refine aj (af fw [2,3,4,5,6,7,9,10,11,12,13,27,28,29,60] [2,3,4,13,801,802,803,804] ?_);refine aD (NS (aw _) ag [(2,999),(3,999),(6,999),(7,999),(9,13),(11,13)] ag fun K' ai=>?_);(repeat refine lv fun Kq ae=>?_;simp[ab,dS,k7];(repeat refine⟨aa,?_⟩);refine ae _ ?_);refine lv fun Kq ae=>?_;simp[ab,dS,k7];refine lC.data (iT) bq bq (by first | exact D.aV _ | simp[aL,IS,AT,D.le,D.le.go,D.le_refl,D.aV,ab,dS,k7]) ?_;refine ae _ ?_;simp only[aR,cw];(repeat refine lv fun Kq ae=>?_;simp[ab,dS,k7];(repeat refine⟨aa,?_⟩);refine ae _ ?_);refine nU (ai _ ?_);refine eF _ (AW.norm [2,3,4,5,6,7,9,10,11,12,13,27,28,29] [2,3,4,13,801,802,803,804] aT (AW.st (by simp[ab,dS,k7];rfl) ?_));simp only[oR]at fA;generalize iP mT a=kk at *;by_cases mb:kk < 2
     .rw[if_pos mb]at fA
      have fy:kk < 1:=aa
      have hp:=jA 3 pk (by rw[fC,fA];try rfl);refine ah fun K8 eg=>?_;have qf:=(Aq fw @fy);refine aC [2,3,4,5,6,7,9,10,11,13,27,28,29,84] [2,3,4,13,801,802,803,804] ?_;refine eJ (by simp[fy]) (af fw [2,3] [2,3] ?_);exact bg (Aq fw (Aq @hp acS))
     .rw[if_neg mb]at fA
      have fy:¬ kk < 1:=aa
      refine ah fun K8 eg=>?_;have qf:=(Aq fw @fy);refine aC [2,3,4,5,6,7,9,10,11,13,27,28,29,84] [2,3,4,13,801,802,803,804] ?_;refine gW (by simp[fy]) (ax (eg _ ?_));have fO:fY ln=lu kk b hd rest:=fA;unfold lu at fO
      cases fB:(gB rest).2 with
      | some ci=>
       obtain⟨c,o⟩:=ci;have gA:=GF fB
       have c8:¬ c=0:=aa
       rw[fB]at jV fO;dsimp only at fO;have hp:=jA c (pk+(hd.length+1+o.getD 0)) (by rw[fC,fO])
       cases o with
       | none=>
        simp only[dv,codeF,cr,ab]at jV
        have cK:((pk+(hd.length+1+(none:Option Nat).getD 0):Nat):Int)=(pk:Int)+(hd.length:Int)+1:=by simp;omega
        rw[show (some (pk+(hd.length+1+(none:Option Nat).getD 0)))=some (pk+(hd.length+1+(none:Option Nat).getD 0)) from rfl]at hp;have qf:=(Aq fw (Aq @bD @qC));refine eC jV [2,3,4,5,6,7,10,11,13,14,15,27,28,29] [2,3,4,13,15,801,802,803,804] ?_;refine ah fun K9 gd=>?_;have qf:=(Aq fw @c8);refine aC [2,3,4,5,6,7,10,11,13,14,15,27,28,29,98] [2,3,4,13,15,801,802,803,804] ?_;refine eJ (by simp[c8]) (nZ (aw _) ag [(2,15),(8,15),(12,2),(13,3)] [2,3] [2,3,13,15] aT ag fun K' ai=>?_);(repeat refine lv fun Kq ae=>?_;simp[ab,dS,Bv];(repeat refine⟨aa,?_⟩);refine ae _ ?_);refine nU (ai _ ?_);refine AW.st (by simp[ab,dS,Bv];rfl) ?_;refine bt ?_;simp[D.le,D.le.go,aL,ab,dS,hp,fq,gX,ey,dv,codeF,cr,cK];omega
       | some o=>
        have E9:=zq fB;simp only[dv,codeF,cr,ab]at jV
        have cK:((pk+(hd.length+1+(some o).getD 0):Nat):Int)=(pk:Int)+(hd.length:Int)+1+(o:Int):=by simp;omega
        have yG:¬ (o:Int) < 0:=aa
        have qf:=(Aq fw (Aq @bD @qC));refine eC jV [2,3,4,5,6,7,10,11,13,14,15,27,28,29] [2,3,4,13,15,801,802,803,804] ?_;refine ah fun K9 gd=>?_;have qf:=(Aq fw @c8);refine aC [2,3,4,5,6,7,10,11,13,14,15,27,28,29,98] [2,3,4,13,15,801,802,803,804] ?_;refine eJ (by simp[c8]) (nZ (aw _) ag [(2,15),(8,15),(12,2),(13,3)] [2,3] [2,3,13,15] aT ag fun K' ai=>?_);(repeat refine lv fun Kq ae=>?_;simp[ab,dS,yG];(repeat refine⟨aa,?_⟩);refine ae _ ?_);refine nU (ai _ ?_);refine AW.st (by simp[ab,dS,yG];rfl) ?_;refine bt ?_;simp[D.le,D.le.go,aL,ab,dS,hp,fq,gX,ey,dv,codeF,cr,cK];split<;>omega
      | none=>
       rw[fB]at jV fO;dsimp only at fO;obtain⟨e,Fg⟩:=zr fB;rw[Fg]at jV fO;have hn:=fI _ (by rw[fC,fO])
       have jW:(s.ao ++ [(⟨kk,b,some e⟩:gy)]).map dV=R1 ++ [[.v (.int .i64 kk),.v (.string (bs b)),dR e]]:=by rw[abt,b2];rfl
       have eY:dh (s.ij ++ [pk])=A2 ++ [[.v (.int .i64 pk)]]:=by rw[vI,b4];rfl
       obtain⟨cs,rE⟩:=j5 e;simp only[dv,codeF,cr,ab,kZ]at jV;rw[rE]at jV jW;have qf:=(Aq fw (Aq @bD @qC));refine eC jV [2,3,4,5,6,7,10,11,13,14,15,27,28,29] [2,3,4,13,15,801,802,803,804] ?_;refine ah fun K9 gd=>af fw [2,3,4,5,6,7,10,11,13,14,15,27,28,29,98] [2,3,4,13,15,801,802,803,804] ?_;refine aj (ax (gd _ ?_));refine af fw [2,3,4,5,6,7,10,13,27,28,29] [2,3,4,13,801,802,803,804] ?_;refine rg [2,3,4,5,6,7,27,28,29] [2,3,4,801,802,803,804] aT fun K' ai=>?_;(repeat refine aq fun Kq ae=>?_;simp[ab,dS,sh];(repeat refine⟨aa,?_⟩);refine ae _ ?_);refine aZ (ai _ (AW.st (by simp[ab,dS,sh];rfl) ?_));refine cX (cF _ (fe fw ?_));(try simp only[bY,b9]);refine cC.mk (n+1) ⟨aa,_,hn⟩ aa ?_;have e1:=xW _ hn;have e2:=x2 _ hn;have e3:=xU _ hn;have e4:=xY _ hn
       try dsimp only at e1 e2 e3 e4
       rw[b1]at e1;rw[jW]at e2;rw[b3]at e3;rw[eY]at e4;refine aY.fo aT (by simp[ab,dS,e1,e2,e3,e4,cR]) (by simp[ab,dS,e1,e2,e3,e4,cR])
    | a :: b :: c :: r,_=>
     rw[s5]at fA;simp only[s5,abj]
     have mM:¬ ((r.length:Int)+1+1+1=1):=aa
     have mN:¬ ((r.length:Int)+1+1+1=2):=aa
     have J0:¬ ((r.length:Int)+1+1+1 < 1):=aa
     have J1:(r.length:Int)+1+1+1 > 2:=aa
     refine ah fun K7 eF=>af fw [2,3,4,5,6,7,9,10,11,12,13,27,28,29,53] [2,3,4,13,801,802,803,804] ?_;refine bd ?_;have qf:=(Aq fw @mM);refine aC [2,3,4,5,6,7,9,10,11,12,13,27,28,29,53,54] [2,3,4,13,801,802,803,804] ?_;refine gW (by simp[mM]) ?_;have qf:=(Aq fw @mN);refine aC [2,3,4,5,6,7,9,10,11,12,13,27,28,29,60] [2,3,4,13,801,802,803,804] ?_;refine gW (by simp[mN]) (ax (eF _ ?_));have hp:=jA 3 pk (by rw[fC,fA];try rfl);refine ah fun K8 eg=>?_;have qf:=(Aq fw (Aq @J0 @J1));refine aC [2,3,4,5,6,7,9,10,11,13,27,28,29,84] [2,3,4,13,801,802,803,804] ?_;refine eJ (by simp[J0,J1]) (af fw [2,3] [2,3] ?_);exact bg (Aq fw (Aq @hp acS))
   .rw[if_neg sK]at fA gN;refine bB fw gN [2,3,4,5,6,7,9,10,11,27,28,29] [2,3,4,801,802,803,804] ?_;refine ah fun K6 fN=>af fw [2,3,4,5,6,7,9,10,11,27,28,29,46] [2,3,4,801,802,803,804] ?_;refine aj (ax (fN _ ?_));refine bB fw wD [2,3,4,5,6,7,10,16,27,28,29] [2,3,4,801,802,803,804] ?_
    obtain⟨a,r,rfl⟩:∃ a r,ws=a :: r:=by
     cases ws with
     | nil=>exact absurd rfl h0
     | cons a r=>exact⟨a,r,rfl⟩
    have ha:=(yZ a al).1;have iT:aH prog G 175 [.sl none [[.v (.string (bs []))],[.v (.string (bs [105,110,112,117,116]))],[.v (.string (bs [99,111,105,108]))],[.v (.string (bs [116,105,109,101,114]))],[.v (.string (bs [99,111,117,110,116,101,114]))]],.v (.string (bs a))] (.v (.int .i64 (iP qD a))):=Ld G none qD a ha bh;have ov:=BL qD a;simp only[jX]at fA;generalize iP qD a=kk at *;simp only[abj];refine nZ (aw _) ag [(2,999),(3,999),(7,17)] [2,3,4,5,6,7,10,16,17,27,28,29] [2,3,4,17,801,802,803,804] aT ag fun K' ai=>?_;(repeat refine lv fun Kq ae=>?_;simp[ab,dS,lI];(repeat refine⟨aa,?_⟩);refine ae _ ?_);refine lv fun Kq ae=>?_;simp[ab,dS,lI];refine lC.data (iT) bq bq (by first | exact D.aV _ | simp[aL,IS,AT,D.le,D.le.go,D.le_refl,D.aV,ab,dS,lI]) ?_;refine ae _ ?_;simp only[aR,cw];(repeat refine lv fun Kq ae=>?_;simp[ab,dS,lI];(repeat refine⟨aa,?_⟩);refine ae _ ?_);refine nU (ai _ ?_);refine AW.st (by simp[ab,dS,lI];rfl) ?_
    have fO:((r.map fun s=>[D.v (.string (bs s))]).length:Int)=(r.length:Int):=al
    by_cases k1:kk < 1
    .have kN:fY ln = .form:=by
      rw[fA]
      match r with
      | []=>rfl
      | [b]=>rw[fP,if_neg aa]
      | [b,c]=>rw[fP,if_neg aa]
      | b :: c :: d :: r=>rfl
     have hp:=jA 3 pk (by rw[fC,kN]);refine ah fun ky gb=>?_;have qf:=(Aq fw @k1);refine aC [2,3,4,5,6,7,10,16,17,27,28,29,153] [2,3,4,17,801,802,803,804] ?_;refine eJ (by simp[k1]) (af fw [2,3] [2,3] ?_);exact bg (Aq fw (Aq @hp acS))
    by_cases k3:kk < 3
    .have iY:¬ kk >= 3:=aa
     match r,fA with
     | [b],fA=>
      have kN:fY ln = .name ⟨b,kk,0⟩:=by rw[fA,fP,if_pos aa]
      simp only[abj,acn];refine ah fun ky gb=>?_;have qf:=(Aq fw (Aq @k1 (Aq @k3 @iY)));refine aC [2,3,4,5,6,7,10,16,17,27,28,29,153] [2,3,4,17,801,802,803,804] ?_;refine gW (by simp[k1,k3,iY]) (ax (gb _ ?_));refine af fw [2,3,4,5,6,7,10,16,17,27,28,29] [2,3,4,17,801,802,803,804] ?_;refine ah fun xl qm=>?_;have qf:=(Aq fw (Aq @k1 (Aq @k3 @iY)));refine aC [2,3,4,5,6,7,10,16,17,27,28,29,163] [2,3,4,17,801,802,803,804] ?_;refine gW (by simp[iY]) (ax (qm _ ?_));refine ah fun zY rv=>?_;by_cases nE:s.ao=[]
      .have hn:=fI _ (by rw[fC,kN];exact if_pos nE);have nF:A2=[]:=ab5.1 (by rw[uf,nE];rfl)
       have jW:(s.names ++ [(⟨b,kk,0⟩:gE)]).map bH=N1 ++ [[.v (.string (bs b)),.v (.int .i64 kk),.v (.int .i64 0)]]:=by rw[abt,b1];rfl
       have eY:dh (s.ia ++ [pk])=A1 ++ [[.v (.int .i64 pk)]]:=by rw[vI,b3];rfl
       subst nF;refine af fw [2,3,4,5,6,7,10,17,27,28,29,180] [2,3,4,17,801,802,803,804] ?_;refine aj (ax (rv _ ?_));refine ea (aw _) fun K' ai=>?_;(repeat refine aq fun Kq ae=>?_;simp[ab,dS,sh];(repeat refine⟨aa,?_⟩);refine ae _ ?_);refine aZ (ai _ ?_);refine cF _ (AW.norm [2,3,4,5,6,7,27,28,29] [2,3,4,801,802,803,804] aT (AW.st (by simp[ab,dS,sh];rfl) ?_));refine fe fw ?_;(try simp only[bY,b9]);refine cC.mk (n+1) ⟨aa,_,hn⟩ aa ?_;have e1:=xW _ hn;have e2:=x2 _ hn;have e3:=xU _ hn;have e4:=xY _ hn
       try dsimp only at e1 e2 e3 e4
       rw[jW]at e1;rw[b2]at e2;rw[eY]at e3;rw[b4]at e4;refine aY.fo aT (by simp[ab,dS,e1,e2,e3,e4,cR]) (by simp[ab,dS,e1,e2,e3,e4,cR])
      .have hp:=jA 3 pk (by rw[fC,kN];exact if_neg nE)
       have nF:0 < A2.length:=by rw[uf];exact abG.2 nE
       have qf:=(Aq fw @nF);refine aC [2,3,4,5,6,7,10,17,27,28,29,180] [2,3,4,17,801,802,803,804] ?_;refine eJ (by simp[nF]) (af fw [2,3] [2,3] ?_);exact bg (Aq fw (Aq @hp acS))
     | [],fA=>
      have kN:fY ln = .form:=fA;simp only[acn];have hp:=jA 3 pk (by rw[fC,kN]);refine ah fun ky gb=>?_;have qf:=(Aq fw (Aq @k1 @k3));refine aC [2,3,4,5,6,7,10,16,17,27,28,29,153] [2,3,4,17,801,802,803,804] ?_;refine eJ (by simp[k1,k3]) (af fw [2,3] [2,3] ?_);exact bg (Aq fw (Aq @hp acS))
     | b :: c :: r,fA=>
      have kN:fY ln = .form:=by
       rw[fA]
       match r with
       | []=>rw[fP,if_neg aa]
       | d :: r=>rfl
      have hq:¬ ((r.length:Int)+1+1+1=2):=aa
      simp only[abj];have hp:=jA 3 pk (by rw[fC,kN]);refine ah fun ky gb=>?_;have qf:=(Aq fw (Aq @k1 (Aq @k3 @hq)));refine aC [2,3,4,5,6,7,10,16,17,27,28,29,153] [2,3,4,17,801,802,803,804] ?_;refine eJ (by simp[k1,k3,hq]) (af fw [2,3] [2,3] ?_);exact bg (Aq fw (Aq @hp acS))
    have iY:kk >= 3:=aa
    match r,fA with
    | [b,c],fA=>
     have e6:c.length<=20000:=by have:=(yZ c al).2;omega
     have mL:=Wl G hP hE c aa;simp only[dS]at mL;simp only[fP,if_pos iY]at fA;simp only[abj,acn];refine ah fun ky gb=>?_;have qf:=(Aq fw (Aq @k1 (Aq @k3 @iY)));refine aC [2,3,4,5,6,7,10,16,17,27,28,29,153] [2,3,4,17,801,802,803,804] ?_;refine gW (by simp[k1,k3,iY]) (ax (gb _ ?_));refine af fw [2,3,4,5,6,7,10,16,17,27,28,29] [2,3,4,17,801,802,803,804] ?_;refine ah fun xl qm=>?_;have qf:=(Aq fw (Aq @k1 (Aq @k3 @iY)));refine aC [2,3,4,5,6,7,10,16,17,27,28,29,163] [2,3,4,17,801,802,803,804] ?_;refine eJ (by simp[iY]) ?_
     cases wm:tn c with
     | none=>
      rw[wm]at mL fA;simp only[tY]at mL;have kN:fY ln = .form:=fA;have hp:=jA 3 pk (by rw[fC,kN]);refine bB fw mL [2,3,4,5,6,7,10,17,18,19,27,28,29] [2,3,4,17,801,802,803,804] ?_;refine ah fun zX qn=>af fw [2,3,4,5,6,7,10,17,18,27,28,29,172] [2,3,4,17,801,802,803,804] ?_;refine aD (af fw [2,3] [2,3] ?_);exact bg (Aq fw (Aq @hp acS))
     | some v=>
      rw[wm]at mL fA;simp only[tY]at mL;have kN:fY ln = .name ⟨b,kk,v⟩:=fA;refine bB fw mL [2,3,4,5,6,7,10,17,18,19,27,28,29] [2,3,4,17,801,802,803,804] ?_;refine ah fun zX qn=>af fw [2,3,4,5,6,7,10,17,18,27,28,29,172] [2,3,4,17,801,802,803,804] ?_;refine aj (ax (qn _ ?_));refine fc fw qm [2,3,4,5,6,7,10,17,27,28,29] [2,3,4,17,801,802,803,804] ?_;refine ah fun zY rv=>?_;by_cases nE:s.ao=[]
      .have hn:=fI _ (by rw[fC,kN];exact if_pos nE);have nF:A2=[]:=ab5.1 (by rw[uf,nE];rfl)
       have jW:(s.names ++ [(⟨b,kk,v⟩:gE)]).map bH=N1 ++ [[.v (.string (bs b)),.v (.int .i64 kk),.v (.int .i64 v)]]:=by rw[abt,b1];rfl
       have eY:dh (s.ia ++ [pk])=A1 ++ [[.v (.int .i64 pk)]]:=by rw[vI,b3];rfl
       subst nF;refine af fw [2,3,4,5,6,7,10,17,27,28,29,180] [2,3,4,17,801,802,803,804] ?_;refine aj (ax (rv _ ?_));refine ea (aw _) fun K' ai=>?_;(repeat refine aq fun Kq ae=>?_;simp[ab,dS,sh];(repeat refine⟨aa,?_⟩);refine ae _ ?_);refine aZ (ai _ ?_);refine cF _ (AW.norm [2,3,4,5,6,7,27,28,29] [2,3,4,801,802,803,804] aT (AW.st (by simp[ab,dS,sh];rfl) ?_));refine fe fw ?_;(try simp only[bY,b9]);refine cC.mk (n+1) ⟨aa,_,hn⟩ aa ?_;have e1:=xW _ hn;have e2:=x2 _ hn;have e3:=xU _ hn;have e4:=xY _ hn
       try dsimp only at e1 e2 e3 e4
       rw[jW]at e1;rw[b2]at e2;rw[eY]at e3;rw[b4]at e4;refine aY.fo aT (by simp[ab,dS,e1,e2,e3,e4,cR]) (by simp[ab,dS,e1,e2,e3,e4,cR])
      .have hp:=jA 3 pk (by rw[fC,kN];exact if_neg nE)
       have nF:0 < A2.length:=by rw[uf];exact abG.2 nE
       have qf:=(Aq fw @nF);refine aC [2,3,4,5,6,7,10,17,27,28,29,180] [2,3,4,17,801,802,803,804] ?_;refine eJ (by simp[nF]) (af fw [2,3] [2,3] ?_);exact bg (Aq fw (Aq @hp acS))
    | [],fA=>
     have kN:fY ln = .form:=fA;simp only[acn];have hp:=jA 3 pk (by rw[fC,kN]);refine ah fun ky gb=>?_;have qf:=(Aq fw (Aq @k1 (Aq @k3 @iY)));refine aC [2,3,4,5,6,7,10,16,17,27,28,29,153] [2,3,4,17,801,802,803,804] ?_;refine eJ (by simp[k1,k3,iY]) (af fw [2,3] [2,3] ?_);exact bg (Aq fw (Aq @hp acS))
    | [b],fA=>
     have kN:fY ln = .form:=by rw[fA,fP,if_neg aa]
     simp only[abj,acn];have hp:=jA 3 pk (by rw[fC,kN]);refine ah fun ky gb=>?_;have qf:=(Aq fw (Aq @k1 (Aq @k3 @iY)));refine aC [2,3,4,5,6,7,10,16,17,27,28,29,153] [2,3,4,17,801,802,803,804] ?_;refine eJ (by simp[k1,k3,iY]) (af fw [2,3] [2,3] ?_);exact bg (Aq fw (Aq @hp acS))
    | b :: c :: d :: r,fA=>
     have kN:fY ln = .form:=fA
     have hq:¬ ((r.length:Int)+1+1+1+1=3):=aa
     simp only[abj];have hp:=jA 3 pk (by rw[fC,kN]);refine ah fun ky gb=>?_;have qf:=(Aq fw (Aq @k1 (Aq @k3 (Aq @iY @hq))));refine aC [2,3,4,5,6,7,10,16,17,27,28,29,153] [2,3,4,17,801,802,803,804] ?_;refine eJ (by simp[k1,k3,iY,hq]) (af fw [2,3] [2,3] ?_);exact bg (Aq fw (Aq @hp acS))
  .obtain rfl:n=l.length:=aa
   refine gW al ?_;have fB:=GD (s:=s) aa (hl ▸ hs);have cG:=zw (t:=t) aa (aa8 _) (hl ▸ hs);have Fs:=L9 cG (by rw[<- hl];omega);have iK:=Uh G hF hM ⟨s.names,s.ao⟩ Fs;obtain⟨dX,fO,jS,_,_⟩:=cG;rw[<- hl]at jS;have b1:=xX _ s hs;have b2:=x3 _ s hs;have b3:=xV _ s hs;have b4:=xZ _ s hs;simp only[fq,gX,ey]at iK;rw[<- b1,<- b2]at iK
   have ZR:(NA l.length).length=s.names.length:=by rw[b3];simp[dh,dX]
   have ZS:(RA l.length).length=s.ao.length:=by rw[b4];simp[dh,fO]
   have oD:=fun i h=>I4 (s.ia ++ s.ij) i h;rw[vI,<- b3,<- b4]at oD;have q1:(∀ el∈RA l.length,el.length=1)=True:=eq_true (by rw[b4];simp[dh]);have q2:(∀ el∈RA l.length,∀ c∈el,c.one=true)=True:=eq_true (by rw[b4];simp[dh,ab,D.one])
   have SI:fq ⟨s.names,s.ao⟩ = .agg [.sl none (NN l.length),.sl none (RR l.length)]:=by rw[b1,b2];rfl
   have Rk:=fun c o=>Dx (p:=⟨s.names,s.ao⟩) (c:=c) (o:=o)
   have Fh:∀ c i,gJ ⟨s.names,s.ao⟩=some (c,some i)->i < (s.ia ++ s.ij).length:=fun c i h=>by have:=Iu h;simp at this ⊢;omega
   refine cX (ak _ ?_);generalize NN l.length=N1 at *;generalize RR l.length=R1 at *;generalize NA l.length=A1 at *;generalize RA l.length=A2 at *;refine AW.imp (aY.freeze 801 trivial) ?_;refine AW.st (by simp[ab,dS];rfl) ?_;refine AW.imp (aY.freeze 802 trivial) ?_;refine AW.st (by simp[ab,dS];rfl) ?_;refine AW.imp (aY.freeze 804 trivial) ?_;refine AW.st (by simp[ab,dS];rfl) ?_
   cases eN:gJ ⟨s.names,s.ao⟩ with
   | none=>
    rw[eN]at iK fB;dsimp only at fB;simp only[dv,codeF,cr,ab]at iK;refine bB fw iK [2,3,4,5,6,20] [2,3,4,20,803] ?_;refine ah fun xm ry=>af fw [2,3,4,5,6,20,199] [2,3,4,20,803] ?_;refine aj (ax (ry _ ?_));refine nZ (aw _) ag [(0,4),(2,2),(3,3)] [2,3] [2,3] aT ag fun K' ai=>?_;(repeat refine lv fun Kq ae=>?_;simp[ab,dS,Je];(repeat refine⟨aa,?_⟩);refine ae _ ?_);refine nU (ai _ ?_);refine AW.st (by simp[ab,dS,Je];rfl) ?_;exact bg (Aq fw (Aq @fB (Aq @SI (Aq @acD (Aq @acE (Aq @acF (Aq @acG @acH)))))))
   | some ci=>
    obtain⟨c,o⟩:=ci;have gA:=Rk c o eN;rw[eN]at iK fB
    cases o with
    | none=>
     dsimp only at fB;simp only[dv,codeF,cr,ab]at iK;refine bB fw iK [2,3,4,5,6,20] [2,3,4,20,803] ?_;refine ah fun xm ry=>?_;have qf:=(Aq fw @gA);refine aC [2,3,4,5,6,20,199] [2,3,4,20,803] ?_;refine eJ (by simp[gA]) (ah fun zZ pB=>?_);refine af fw [2,3,5,6,20,202] [2,3,4,20,803] ?_;refine aj (ax (pB _ ?_));refine nZ (aw _) ag [(1,20),(2,2),(3,3)] [2,3] [2,3] aT ag fun K' ai=>?_;(repeat refine lv fun Kq ae=>?_;simp[ab,dS];(repeat refine⟨aa,?_⟩);refine ae _ ?_);refine nU (ai _ ?_);refine AW.st (by simp[ab,dS];rfl) ?_;exact bg (Aq fw (Aq @fB acS))
    | some i=>
     dsimp only at fB;have hi:=Fh c i eN;obtain⟨dG,ny⟩:=By.1 (oD i hi);clear oD
     have JH:i < A1.length+A2.length:=by simpa using dG
     have JI:(i:Int) < (A1.length:Int)+(A2.length:Int):=aa
     simp only[dv,codeF,cr,ab]at iK ny;generalize (s.ia ++ s.ij).getD i 0=pl at ny fB;refine bB fw iK [2,3,4,5,6,20] [2,3,4,20,803] ?_;refine ah fun xm ry=>?_;have qf:=(Aq fw @gA);refine aC [2,3,4,5,6,20,199] [2,3,4,20,803] ?_;refine eJ (by simp[gA]) (ah fun zZ pB=>?_);refine af fw [2,3,5,6,20,202] [2,3,4,20,803] ?_;refine eJ al ?_;refine C2 (aw _) ag ([(2,(803,803))]) ([(3,[803]),(4,[803]),(7,[803])]) ([0,1,3,4,2,5,6,7,8]) ag fun K' ai=>?_;(repeat refine zK rfl fun K2 ak=>?_;simp[ab,dS,xM,q1,q2,dG,JH,JI,ny,sh];(repeat refine⟨aa,?_⟩);refine ak _ ?_;clear ak K2);refine zL (ai _ ?_);refine pB _ (AW.norm [2,3,20] [2,3,4,20] aT (AW.st (by simp[ab,dS,xM,q1,q2,dG,JH,JI,ny,sh];rfl) ?_));refine nZ (aw _) ag [(1,20),(2,2),(3,3)] [2,3] [2,3] aT ag fun K' ai=>?_;(repeat refine lv fun Kq ae=>?_;simp[ab,dS];(repeat refine⟨aa,?_⟩);refine ae _ ?_);refine nU (ai _ ?_);refine AW.st (by simp[ab,dS];rfl) ?_;exact bg (Aq fw (Aq @fB acS))
theorem MT {k:Int} {nm hd rest:Tx} {c:Int} {o:Nat} (h:lu k nm hd rest = .bad c o):c≠0:=by
 unfold lu at h;split at h
 .rename_i c' o' he;simp only[po.bad.injEq]at h;have:=GF he;omega
 .cases h
theorem WC {hd rest:Tx} {l:List Tx} {c:Int} {o:Nat} (h:oR hd rest l = .bad c o):c≠0:=by
 unfold oR at h;split at h
 .exact MT h
 .split at h
  .cases h
  .exact MT h
 .cases h
theorem UQ {l:List Tx} {c:Int} {o:Nat} (h:jX l = .bad c o):c≠0:=by
 unfold jX at h;split at h
 .unfold fP at h;split at h
  .split at h<;>cases h
  .split at h
   .split at h<;>cases h
   .cases h
  .cases h
 .cases h
theorem Un {s:Tx} {c:Int} {o:Nat} (h:fY s = .bad c o):c≠0:=by
 unfold fY at h;split at h
 .exact WC h
 .exact UQ h
theorem L5 {l:List Tx}:∀ {k:Nat} {c:Int} {i:Nat},fE l k = .inl (c,i)->c≠0
 | 0,c,i,h=>by cases h
 | k+1,c,i,h=>by
  rw[fE]at h
  cases hk:fE l k with
  | inl e=>
   rw[hk]at h;obtain⟨c',i'⟩:=e;simp only[Sum.inl.injEq,aa4]at h;have:=L5 hk;omega
  | inr s0=>
   rw[hk]at h;dsimp only at h;unfold jY at h;split at h
   .cases h
   .split at h
    .simp only[Sum.inl.injEq,aa4]at h;omega
    .rename_i hb;simp only[Sum.inl.injEq,aa4]at h;have:=Un hb;omega
    .split at h
     .cases h
     .simp only[Sum.inl.injEq,aa4]at h;omega
    .cases h
theorem Vs {t:Tx} {c:Int} {o:Option Nat} (h:(ie t).1=some (c,o)):c≠0:=by
 unfold ie at h;split at h
 .simp only[BY,aa4]at h;omega
 .split at h
  .rename_i c' i' hp;simp only[BY,aa4]at h;have:=L5 hp;omega
  .split at h
   .cases h
   .rename_i c' hc;simp only[BY,aa4]at h;have:=Dx hc;omega
   .rename_i c' i' hc;simp only[BY,aa4]at h;have:=Dx hc;omega
def zz (t:Tx):Option dJ:=if 1500 < t.length then none else match ie t with
 | (none,p)=>some p
 | (some _,_)=>none
theorem VY {t:Tx} {p:dJ} (h:zz t=some p):ie t=(none,p):=by
 unfold zz at h;split at h
 .cases h
 .split at h
  .rename_i q hq;obtain rfl:=AI h;exact hq
  .cases h
def vH:Option dJ->D
 | none=>.bI [ir ⟨[],[]⟩,fq ⟨[],[]⟩,.v (.bool false)]
 | some p=>.bI [ir p,fq p,.v (.bool true)]
theorem DF:ir ⟨[],[]⟩ = .agg [.sl none [],.sl none []]:=rfl
theorem DG:fq ⟨[],[]⟩ = .agg [.sl none [],.sl none []]:=rfl
theorem O2 (G:aF) (hF:tS G) (hM:nh G) (hP:qU G) (hG:tR G) {es er:Value} (hE:sr G es er) (lI:vt G) (k7:vu G) (t:Tx):aH prog G 27 [dS t] (vH (zz t)):=by
 have hp:=Ut G hM hP hG hE t;have hw:=Wp G hF hM hP hE lI k7 t;unfold zz;simp only[dS]at hp hw ⊢;by_cases hl:1500 < t.length
 .have eX:(1500:Int) < (t.length:Int):=aa
  rw[if_pos hl];simp only[vH,DF,DG];refine aH.aU (aw _) func27 rfl rfl (rs:=[.cell 2 28,.cell 3 62,.tmp 4]) results27 (by simp[ntmps27]) fun X=>?_;simp only[ntmps27,List.map];refine aO [0,2,3] [2,3] ?_;refine ah fun K1 aI=>?_;have qf:=(Aq @bD @eX);refine aC [0,2,3,11] [2,3] ?_;refine eJ (by simp[eX]) (aO [2,3,4] [2,3] ?_);exact kr
 .have eX:¬ (1500:Int) < (t.length:Int):=aa
  rw[if_neg hl]
  cases fB:(ie t).1 with
  | none=>
   obtain⟨q,hq⟩:∃ q,ie t=(none,q):=⟨(ie t).2,by rw[<- fB]⟩;rw[hq]at hp hw ⊢;simp only[vH,bC,ir,j4,fq,gX,ey,kH,dv,codeF,cr,ab]at hp hw ⊢;generalize q.names.map bH=NN at *;generalize q.ao.map cW=RR at *;generalize q.ao.map dV=RW at *;refine aH.aU (aw _) func27 rfl rfl (rs:=[.cell 2 28,.cell 3 62,.tmp 4]) results27 (by simp[ntmps27]) fun X=>?_;simp only[ntmps27,List.map];refine aO [0,2,3] [2,3] ?_;refine ah fun K1 aI=>?_;have qf:=(Aq @bD @eX);refine aC [0,2,3,11] [2,3] ?_;refine gW (by simp<;>omega) ?_;refine ax (aI _ (bB trivial hw [0,2,3,5,6] [2,3,5,6] ?_));refine fF 5 ?_;refine fF 6 ?_;refine ah fun K2 ak=>aO [0,2,3,5,21] [2,3] ?_;refine aj (ax (ak _ ?_));refine bB trivial hp [2,3,5,7] [2,3,7] ?_;refine fF 7 ?_;refine nZ (aw _) ag [(0,999),(1,999),(2,2),(3,3)] [2,3,4] [2,3] aT ag fun K' ai=>?_;(repeat refine lv fun Kq ae=>?_;simp;(repeat refine⟨aa,?_⟩);refine ae _ ?_);refine nU (ai _ ?_);refine AW.st bq ?_;exact kr
  | some e=>
   have h2:=Vt fB
   have hq:ie t=(some e,⟨[],[]⟩):=by rw[<- fB,<- h2]
   rw[hq]at hw ⊢;obtain⟨c,o⟩:=e;have k8:=Vs fB;simp only[vH,DF,DG,dv,codeF,ab]at hw ⊢;generalize cr (some (c,o))=pl at hw;refine aH.aU (aw _) func27 rfl rfl (rs:=[.cell 2 28,.cell 3 62,.tmp 4]) results27 (by simp[ntmps27]) fun X=>?_;simp only[ntmps27,List.map];refine aO [0,2,3] [2,3] ?_;refine ah fun K1 aI=>?_;have qf:=(Aq @bD @eX);refine aC [0,2,3,11] [2,3] ?_;refine gW (by simp<;>omega) ?_;refine ax (aI _ (bB trivial hw [0,2,3,5,6] [2,3,5,6] ?_));refine fF 5 ?_;refine fF 6 ?_;refine ah fun K2 ak=>aO [0,2,3,5,21] [2,3] ?_;refine eJ (by simp[k8]) (aO [2,3,4] [2,3] ?_);exact kr
theorem Yp (G:aF) (hF:tS G) (hM:nh G) (hP:qU G) (hG:tR G) (hH:C5 G) {es er:Value} (hE:sr G es er) (lI:vt G) (k7:vu G) (t:Tx):aH prog G 8 [dS t] (.v (.bool true)):=by
 have hb:=O2 G hF hM hP hG hE lI k7 t;simp only[dS]at hb ⊢
 cases Fk:zz t with
 | none=>
  rw[Fk]at hb;simp only[vH,DF,DG]at hb;refine aH.aU (aw _) func8 rfl rfl (rs:=[.tmp 2]) results8 (by simp[ntmps8]) fun X=>?_;simp only[ntmps8,List.map];refine aO [0] [] ?_;refine bB trivial hb [3,4,5] [3,4] ?_;refine ah fun K1 aI=>aO [3,4,15] [3,4] ?_;refine aD (aO [2] [3,4] ?_);exact kr
 | some p=>
  rw[Fk]at hb;obtain⟨eN,hk⟩:=Vu (VY Fk);have bO:=YC G p eN hk;have BD:=ZM G p eN hk;have dB:=TL G hH (p8 p) (Nr (Nq eN hk));have Fi:=VC G lI k7 (p8 p) (Nr (Nq eN hk));simp only[vH,ir,j4,fq,gX,ey,kH]at hb bO BD dB Fi;generalize bs (zx (p8 p))=T at dB Fi;generalize (p8 p).names.map bH=N2 at *;generalize (p8 p).ao.map cW=R2 at *;generalize (p8 p).ao.map dV=W2 at *;generalize p.names.map bH=NN at *;generalize p.ao.map cW=RR at *;generalize p.ao.map dV=RW at *;refine aH.aU (aw _) func8 rfl rfl (rs:=[.tmp 2]) results8 (by simp[ntmps8]) fun X=>?_;simp only[ntmps8,List.map];refine aO [0] [] ?_;refine bB trivial hb [3,4,5] [3,4] ?_;refine fF 4 ?_;refine ah fun K1 aI=>aO [3,4,15] [3] ?_;refine aj (ax (aI _ ?_));refine bB trivial bO [4,6,7] [3,6] ?_;refine fF 6 ?_;refine lZ (aw _) ag [2] [3] aT ag fun K' ai=>?_;(repeat refine fm fun Kq ae=>?_;simp[ay];(repeat refine⟨aa,?_⟩);refine ae _ ?_);refine fm fun Kq ae=>?_;simp[ay];refine lC.data (dB) bq bq (by first | exact D.aV _ | simp[aL,IS,AT,D.le,D.le.go,D.le_refl,D.aV,ay]) ?_;refine ae _ ?_;simp only[aR,cw];(repeat refine fm fun Kq ae=>?_;simp[ay];(repeat refine⟨aa,?_⟩);refine ae _ ?_);refine fm fun Kq ae=>?_;simp[ay];refine lC.data (BD) bq bq (by first | exact D.aV _ | simp[aL,IS,AT,D.le,D.le.go,D.le_refl,D.aV,ay]) ?_;refine ae _ ?_;simp only[aR,cw];(repeat refine fm fun Kq ae=>?_;simp[ay];(repeat refine⟨aa,?_⟩);refine ae _ ?_);refine fm fun Kq ae=>?_;simp[ay];refine lC.data (Fi) bq bq (by first | exact D.aV _ | simp[aL,IS,AT,D.le,D.le.go,D.le_refl,D.aV,ay]) ?_;refine ae _ ?_;simp only[aR,cw];(repeat refine fm fun Kq ae=>?_;simp[ay];(repeat refine⟨aa,?_⟩);refine ae _ ?_);refine kW (ai _ ?_);refine AW.st (by simp[ay];rfl) ?_;exact kr
open Go.ChangeAt Go.ChangeShapes Go.RowKit Go.WideShapes
theorem T0:ownKnob prog.godebug=none:=ag
theorem TZ:laidOutB prog=true:=ag
theorem Pb:prog.cellsOf 3=1:=ag
section
variable {H:Type} {enc:TypeId×Value->H} {w:World} {base:Nat} {spare:Nat->Bool} {held:Bool} {X:Nat->Prop}
end
