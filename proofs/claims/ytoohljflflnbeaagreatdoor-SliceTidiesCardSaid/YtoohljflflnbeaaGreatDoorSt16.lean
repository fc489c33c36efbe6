/- Parts. -/
import Derived.Test.YtoohljflflnbeaaGreatDoorSt12
import Derived.Test.YtoohljflflnbeaaGreatDoorSt13
import Derived.Test.YtoohljflflnbeaaGreatDoorSt14
import Derived.Test.YtoohljflflnbeaaGreatDoorSt15
import Derived.Laws.Strings
set_option linter.unusedSimpArgs false
set_option linter.unusedVariables false
set_option maxHeartbeats 4000000
open Go.Proofs.Tryz
namespace Go.Proofs.YtoohljflflnbeaaGreatDoor
open Go.Av
open Go.RowKit Go.Shelf Go.Lib
def bs (l:List UInt8):ByteArray:=⟨l.toArray⟩
def dS (l:List UInt8):D:=.v (.string (bs l))
theorem aJ (l:List UInt8):(bs l).toList=l:=by rw[ByteArray.toList_eq];rfl
theorem cU (l:List UInt8):(bs l).data.toList=l:=rfl
theorem bD (l:List UInt8):(bs l).size=l.length:=rfl
theorem bM:(⟨#[]⟩:ByteArray)=bs []:=rfl
theorem sy {w w':World} (h:Below w.heap.size w w'):cT w w':=⟨h.size,h.os,h.tape,h.output,h.block⟩
theorem Za (G:aF) (l:List UInt8) (hl:l.length < 2^60):aH prog G 179 [dS l,dS oo] (dS (Lib.trimS l oo)):=by
 refine aH.pa (fU.of func179 rfl rfl) fun X w vs bc cm cY=>?_
 obtain⟨a,b,rfl⟩:∃ a b,vs = #[a,b]:=by
  match vs,bc with
  | ⟨[a,b]⟩,_=>exact⟨a,b,rfl⟩
 have ha:=(cm 0 a _ rfl rfl).scalar;have hb:=(cm 1 b _ rfl rfl).scalar;subst ha hb;have fG:=Any.strings_Trim_laid Tryz.F2 ag (bs l) (bs oo) w (by rw[bD];omega) bh (ascii_of_all bh)
 change Calls prog 179 _ _ (fun e w'=>e = .returned (.string (bs (Lib.trimS l oo)))/\Below w.heap.size w w')at fG
 exact fG.mono fun e w' ⟨he,hB⟩=>⟨_,he,sy hB,.v _⟩
theorem index_spec (G:aF) (k:Option Bool) (ws:List (List UInt8)) (s:List UInt8) (hl:ws.length < 2^60):aH prog G 196 [.sl k (ws.map fun x=>[dS x]),dS s] (.v (.int .i64 (idx (fun x=>s == x) ws))):=by
 refine aH.aU (aw _) func196 rfl rfl (rs:=[.tmp 4]) results196 (by simp[ntmps196]) fun X=>?_;simp only[ntmps196,List.map];refine aO [0,1] [] ?_;refine ah fun K1 aI=>aO [0,1,7,8] [] ?_;refine eD (S:=Nat) (fun n=>n<=ws.length/\∀ i (hi:i < ws.length),i < n->(s == ws[i])=false) (fun n=>⟨bl [(0,.d (.sl k (ws.map fun x=>[dS x]))),(1,.d (dS s)),(7,int ws.length),(8,int n)],au []⟩) (fun n=>ws.length - n) 0 ?_ al ?_
 .refine ko
 .rintro n ⟨hn,hp⟩;refine aO [0,1,7,8,9] [] ?_;refine ah fun K2 ak=>ga (b:=n < ws.length) (by simp[D.le,D.le.go,aL]) (fun hc=>?_) (fun hc=>?_)
  .refine ax (ak _ (ah fun K3 bF=>bd (aO [0,1,5,7,8] [] ?_)));by_cases he:s=ws[n]
   .refine rg [0,1,5,7,8,16] [] aT fun K' ai=>?_;(repeat refine aq fun Kq ae=>?_;simp[hc,dS,aJ,he,ay];(repeat refine⟨aa,?_⟩);refine ae _ ?_);refine aZ (ai _ (AW.st (by simp[hc,dS,aJ,he,ay];rfl) ?_));refine aD (aO [4] [] ?_);refine bt ?_;simp[D.le,D.le.go,aL];exact (y7 (p:=fun x=>s == x) hc (by simp[he]) fun i hi=>hp i aa hi).symm
   .have mF:(s == ws[n])=false:=by simpa using he
    refine rg [0,1,5,7,8,16] [] aT fun K' ai=>?_;(repeat refine aq fun Kq ae=>?_;simp[hc,dS,aJ,he,mF,ay];(repeat refine⟨aa,?_⟩);refine ae _ ?_);refine aZ (ai _ (AW.st (by simp[hc,dS,aJ,he,mF,ay];rfl) ?_));refine aj (ax (bF _ ?_));refine fK ?_;(try simp only[bY,b9]);refine cC.mk (n+1) ⟨aa,fun i hi bn=>?_⟩ aa ?_
    .by_cases h:i=n
     .subst h;simpa using he
     .exact hp i hi aa
    refine bL @dS.eq_1
  .refine cX (aI _ (aO [4] [] ?_));refine bt ?_;simp[D.le,D.le.go,aL];exact (y8 (p:=fun x=>s == x) fun i hi=>hp i hi aa).symm
theorem DA (G:aF) (k:Option Bool) (ws:List (List UInt8)) (s:List UInt8) (hl:ws.length < 2^60):aH prog G 213 [.sl k (ws.map fun x=>[dS x]),dS s] (.v (.bool (ws.any fun x=>s == x))):=by
 refine aH.aU (aw _) func213 rfl rfl (rs:=[.tmp 4]) results213 (by simp[ntmps213]) fun X=>?_;simp only[ntmps213,List.map];refine aO [0,1] [] ?_;refine bB trivial (index_spec G k ws s hl) [4] [] ?_;refine bt ?_;simp[D.le,D.le.go,aL];exact Kl (fun x=>s == x) ws
theorem Lp (G:aF) (l:List UInt8) (hl:l.length < 2^60):aH prog G 157 [dS l] (.v (.bool (gr l))):=by
 have Fx:=Za G l hl;have uh:=DA G none kX l bh;refine aH.aU (aw _) func157 rfl rfl (rs:=[.tmp 2]) results157 (by simp[ntmps157]) fun X=>?_;simp only[ntmps157,List.map];refine af @dS.eq_1 [0] [] ?_;by_cases h1:l=[]
 .subst h1;refine rg [2] [] aT fun K' ai=>?_;(repeat refine aq fun Kq ae=>?_;simp[bM,aJ,ay];(repeat refine⟨aa,?_⟩);refine ae _ ?_);refine aZ (ai _ (AW.st (by simp[bM,aJ,ay];rfl) ?_));refine bt ?_;simp[D.le,D.le.go,aL];simp[gr]
 obtain⟨a,l',rB⟩:∃ a l',l=a :: l':=by
  cases l with
  | nil=>exact absurd rfl h1
  | cons a l'=>exact⟨a,l',rfl⟩
 have e0:l[0]? = some a:=by rw[rB];rfl
 have e1:l.head? = some a:=by rw[rB];rfl
 have h0:0 < l.length:=by rw[rB];simp
 have hg:l.getD 0 0=a:=by rw[rB];rfl
 have kJ:l[0]=a:=by apply AI;rw[<- e0];exact (IN h0).symm
 by_cases h2:(l.length:Int)<=8
 .have gY:l.length<=8:=aa
  by_cases h3:(97:Int)<=(a.toNat:Int)
  .have xR:97<=a.toNat:=aa
   by_cases h4:(a.toNat:Int)<=122
   .have A8:a.toNat<=122:=aa
    by_cases h5:Lib.trimS l oo=[]
    .rw[h5]at Fx;refine rg [2] [26] aT fun K' ai=>?_;(repeat refine aq fun Kq ae=>?_;simp[bM,aJ,bD,cU,ay,e0,e1,h0,kJ,h1,h2,gY,h3,h4,dS];(repeat refine⟨aa,?_⟩);refine ae _ ?_);refine aq fun Kq ae=>?_;simp[bM,aJ,bD,cU,ay,e0,e1,h0,kJ,h1,h2,gY,h3,h4,dS];refine ch.data (Fx) bq (by first | exact D.aV _ | simp[aL,IS,AT,D.le,D.le.go,D.le_refl,D.aV,bM,aJ,bD,cU,ay,e0,e1,h0,kJ,h1,h2,gY,h3,h4,dS]) ?_;refine ae _ ?_;simp only[aR,cw];(repeat refine aq fun Kq ae=>?_;simp[bM,aJ,bD,cU,ay,e0,e1,h0,kJ,h1,h2,gY,h3,h4,dS];(repeat refine⟨aa,?_⟩);refine ae _ ?_);refine aq fun Kq ae=>?_;simp[bM,aJ,bD,cU,ay,e0,e1,h0,kJ,h1,h2,gY,h3,h4,dS];refine ch.kU (uh) bq (by first | exact D.aV _ | simp[aL,IS,AT,D.le,D.le.go,D.le_refl,D.aV,bM,aJ,bD,cU,ay,e0,e1,h0,kJ,h1,h2,gY,h3,h4,dS]) (by simp[D.scalar]) ?_;refine ae _ ?_;simp only[aR,cw];(repeat refine aq fun Kq ae=>?_;simp[bM,aJ,bD,cU,ay,e0,e1,h0,kJ,h1,h2,gY,h3,h4,dS];(repeat refine⟨aa,?_⟩);refine ae _ ?_);refine aZ (ai _ (AW.st (by simp[bM,aJ,bD,cU,ay,e0,e1,h0,kJ,h1,h2,gY,h3,h4,dS];rfl) ?_));refine bt ?_;simp[D.le,D.le.go,aL];simp[gr,h1,gY,hg,e0,xR,A8,h5]
    .have ZQ:¬ (Lib.trimS l oo == [])=true:=by simpa using h5
     refine rg [2] [] aT fun K' ai=>?_;(repeat refine aq fun Kq ae=>?_;simp[bM,aJ,bD,cU,ay,e0,e1,h0,kJ,h1,h2,gY,h3,h4,h5,dS];(repeat refine⟨aa,?_⟩);refine ae _ ?_);refine aq fun Kq ae=>?_;simp[bM,aJ,bD,cU,ay,e0,e1,h0,kJ,h1,h2,gY,h3,h4,h5,dS];refine ch.data (Fx) bq (by first | exact D.aV _ | simp[aL,IS,AT,D.le,D.le.go,D.le_refl,D.aV,bM,aJ,bD,cU,ay,e0,e1,h0,kJ,h1,h2,gY,h3,h4,h5,dS]) ?_;refine ae _ ?_;simp only[aR,cw];(repeat refine aq fun Kq ae=>?_;simp[bM,aJ,bD,cU,ay,e0,e1,h0,kJ,h1,h2,gY,h3,h4,h5,dS];(repeat refine⟨aa,?_⟩);refine ae _ ?_);refine aZ (ai _ (AW.st (by simp[bM,aJ,bD,cU,ay,e0,e1,h0,kJ,h1,h2,gY,h3,h4,h5,dS];rfl) ?_));refine bt ?_;simp[D.le,D.le.go,aL];simp[gr,h1,gY,hg,e0,xR,A8,h5]
   .have A8:¬ a.toNat<=122:=aa
    refine rg [2] [] aT fun K' ai=>?_;(repeat refine aq fun Kq ae=>?_;simp[bM,aJ,bD,cU,ay,e0,e1,h0,kJ,h1,h2,gY,h3,h4];(repeat refine⟨aa,?_⟩);refine ae _ ?_);refine aZ (ai _ (AW.st (by simp[bM,aJ,bD,cU,ay,e0,e1,h0,kJ,h1,h2,gY,h3,h4];rfl) ?_));refine bt ?_;simp[D.le,D.le.go,aL];simp[gr,h1,gY,hg,e0,xR,A8]
  .have xR:¬ 97<=a.toNat:=aa
   refine rg [2] [] aT fun K' ai=>?_;(repeat refine aq fun Kq ae=>?_;simp[bM,aJ,bD,cU,ay,e0,e1,h0,kJ,h1,h2,gY,h3];(repeat refine⟨aa,?_⟩);refine ae _ ?_);refine aZ (ai _ (AW.st (by simp[bM,aJ,bD,cU,ay,e0,e1,h0,kJ,h1,h2,gY,h3];rfl) ?_));refine bt ?_;simp[D.le,D.le.go,aL];simp[gr,h1,gY,hg,e0,xR]
 .have gY:¬ l.length<=8:=aa
  refine rg [2] [] aT fun K' ai=>?_;(repeat refine aq fun Kq ae=>?_;simp[bM,aJ,bD,cU,ay,e0,e1,h0,kJ,h1,h2,gY];(repeat refine⟨aa,?_⟩);refine ae _ ?_);refine aZ (ai _ (AW.st (by simp[bM,aJ,bD,cU,ay,e0,e1,h0,kJ,h1,h2,gY];rfl) ?_));refine bt ?_;simp[D.le,D.le.go,aL];simp[gr,h1,gY]
theorem acB:type_of% @dS.eq_1:=@dS.eq_1
