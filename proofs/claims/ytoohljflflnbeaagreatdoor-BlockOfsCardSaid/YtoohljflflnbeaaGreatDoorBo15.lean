/- Parts. -/
import Derived.Test.YtoohljflflnbeaaGreatDoorBo11
import Derived.Test.YtoohljflflnbeaaGreatDoorBo12
import Derived.Test.YtoohljflflnbeaaGreatDoorBo13
import Derived.Test.YtoohljflflnbeaaGreatDoorBo14
import Derived.Laws.Strings
set_option linter.unusedSimpArgs false
set_option linter.unusedVariables false
set_option maxHeartbeats 4000000
open Go.Proofs.Tryz
namespace Go.Proofs.YtoohljflflnbeaaGreatDoor
open Go.Av
open Go.RowKit Go.Shelf Go.Lib
def bs (l:List UInt8):ByteArray:=⟨l.toArray⟩
def dS (l:List UInt8):D:=.v (.string (bs l))
theorem bt (l:List UInt8):(bs l).toList=l:=by rw[ByteArray.toList_eq];rfl
theorem dk (l:List UInt8):(bs l).data.toList=l:=rfl
theorem bQ (l:List UInt8):(bs l).size=l.length:=rfl
theorem bX:(⟨#[]⟩:ByteArray)=bs []:=rfl
theorem wb {w w':World} (h:Below w.heap.size w w'):cR w w':=⟨h.size,h.os,h.tape,h.output,h.block⟩
theorem aeA (G:aC) (l:List UInt8) (hl:l.length < 2^60):aD prog G 179 [dS l,dS pT] (dS (Lib.trimS l pT)):=by
 refine aD.rJ (gS.of func179 rfl rfl) fun X w vs bg cf dz=>?_
 obtain⟨a,b,rfl⟩:∃ a b,vs = #[a,b]:=by
  match vs,bg with
  | ⟨[a,b]⟩,_=>exact⟨a,b,rfl⟩
 have ha:=(cf 0 a _ rfl rfl).scalar;have hb:=(cf 1 b _ rfl rfl).scalar;subst ha hb;have iF:=Any.strings_Trim_laid Tryz.Ji ah (bs l) (bs pT) w (by rw[bQ];omega) bO (ascii_of_all bO)
 change Calls prog 179 _ _ (fun e w'=>e = .returned (.string (bs (Lib.trimS l pT)))/\Below w.heap.size w w')at iF
 exact iF.mono fun e w' ⟨he,hB⟩=>⟨_,he,wb hB,.v _⟩
theorem index_spec (G:aC) (k:Option Bool) (ws:List (List UInt8)) (s:List UInt8) (hl:ws.length < 2^60):aD prog G 196 [.sl k (ws.map fun x=>[dS x]),dS s] (.v (.int .i64 (idx (fun x=>s == x) ws))):=by
 refine aD.aQ (aB _) func196 rfl rfl (rs:=[.tmp 4]) results196 (by simp[ntmps196]) fun X=>?_;simp only[ntmps196,List.map];refine aq [0,1] [] ?_;refine ag fun K1 aF=>aq [0,1,7,8] [] ?_;refine cy (S:=Nat) (fun n=>n<=ws.length/\∀ i (hi:i < ws.length),i < n->(s == ws[i])=false) (fun n=>⟨bn [(0,.d (.sl k (ws.map fun x=>[dS x]))),(1,.d (dS s)),(7,int ws.length),(8,int n)],aw []⟩) (fun n=>ws.length - n) 0 ?_ ak ?_
 .refine cI
 .rintro n ⟨hn,hp⟩;refine aq [0,1,7,8,9] [] ?_;refine ag fun K2 au=>eE (b:=n < ws.length) (by simp[D.le,D.le.go,aL]) (fun hc=>?_) (fun hc=>?_)
  .refine ar (au _ (ag fun K3 aU=>bd (aq [0,1,5,7,8] [] ?_)));by_cases he:s=ws[n]
   .refine rg [0,1,5,7,8,16] [] aN fun K' ao=>?_;(repeat refine aM fun Kq af=>?_;simp[hc,dS,bt,he,bf];(repeat refine⟨aa,?_⟩);refine af _ ?_);refine bK (ao _ (AW.st (by simp[hc,dS,bt,he,bf];rfl) ?_));refine aI (aq [4] [] ?_);refine bR ?_;simp[D.le,D.le.go,aL];exact (xC (p:=fun x=>s == x) hc (by simp[he]) fun i hi=>hp i aa hi).symm
   .have jT:(s == ws[n])=false:=by simpa using he
    refine rg [0,1,5,7,8,16] [] aN fun K' ao=>?_;(repeat refine aM fun Kq af=>?_;simp[hc,dS,bt,he,jT,bf];(repeat refine⟨aa,?_⟩);refine af _ ?_);refine bK (ao _ (AW.st (by simp[hc,dS,bt,he,jT,bf];rfl) ?_));refine al (ar (aU _ ?_));refine c6 ?_;(try simp only[aT,aV]);refine ba.mk (n+1) ⟨aa,fun i hi aS=>?_⟩ aa ?_
    .by_cases h:i=n
     .subst h;simpa using he
     .exact hp i hi aa
    refine bq @dS.eq_1
  .refine bW (aF _ (aq [4] [] ?_));refine bR ?_;simp[D.le,D.le.go,aL];exact (xD (p:=fun x=>s == x) fun i hi=>hp i hi aa).symm
theorem VS (G:aC) (k:Option Bool) (ws:List (List UInt8)) (s:List UInt8) (hl:ws.length < 2^60):aD prog G 213 [.sl k (ws.map fun x=>[dS x]),dS s] (.v (.bool (ws.any fun x=>s == x))):=by
 refine aD.aQ (aB _) func213 rfl rfl (rs:=[.tmp 4]) results213 (by simp[ntmps213]) fun X=>?_;simp only[ntmps213,List.map];refine aq [0,1] [] ?_;refine br trivial (index_spec G k ws s hl) [4] [] ?_;refine bR ?_;simp[D.le,D.le.go,aL];exact I0 (fun x=>s == x) ws
theorem PA (G:aC) (l:List UInt8) (hl:l.length < 2^60):aD prog G 157 [dS l] (.v (.bool (jg l))):=by
 have IP:=aeA G l hl;have wM:=VS G none mf l bO;refine aD.aQ (aB _) func157 rfl rfl (rs:=[.tmp 2]) results157 (by simp[ntmps157]) fun X=>?_;simp only[ntmps157,List.map];refine ae @dS.eq_1 [0] [] ?_;by_cases h1:l=[]
 .subst h1;refine rg [2] [] aN fun K' ao=>?_;(repeat refine aM fun Kq af=>?_;simp[bX,bt,bf];(repeat refine⟨aa,?_⟩);refine af _ ?_);refine bK (ao _ (AW.st (by simp[bX,bt,bf];rfl) ?_));refine bR ?_;simp[D.le,D.le.go,aL];simp[jg]
 obtain⟨a,l',pX⟩:∃ a l',l=a :: l':=by
  cases l with
  | nil=>exact absurd rfl h1
  | cons a l'=>exact⟨a,l',rfl⟩
 have e0:l[0]? = some a:=by rw[pX];rfl
 have e1:l.head? = some a:=by rw[pX];rfl
 have h0:0 < l.length:=by rw[pX];simp
 have hg:l.getD 0 0=a:=by rw[pX];rfl
 have lY:l[0]=a:=by apply AI;rw[<- e0];exact (By h0).symm
 by_cases h2:(l.length:Int)<=8
 .have jr:l.length<=8:=aa
  by_cases h3:(97:Int)<=(a.toNat:Int)
  .have AO:97<=a.toNat:=aa
   by_cases h4:(a.toNat:Int)<=122
   .have DY:a.toNat<=122:=aa
    by_cases h5:Lib.trimS l pT=[]
    .rw[h5]at IP;refine rg [2] [26] aN fun K' ao=>?_;(repeat refine aM fun Kq af=>?_;simp[bX,bt,bQ,dk,bf,e0,e1,h0,lY,h1,h2,jr,h3,h4,dS];(repeat refine⟨aa,?_⟩);refine af _ ?_);refine aM fun Kq af=>?_;simp[bX,bt,bQ,dk,bf,e0,e1,h0,lY,h1,h2,jr,h3,h4,dS];refine dT.data (IP) bA (by first | exact D.bJ _ | simp[aL,agF,agy,D.le,D.le.go,D.le_refl,D.bJ,bX,bt,bQ,dk,bf,e0,e1,h0,lY,h1,h2,jr,h3,h4,dS]) ?_;refine af _ ?_;simp only[aR,dY];(repeat refine aM fun Kq af=>?_;simp[bX,bt,bQ,dk,bf,e0,e1,h0,lY,h1,h2,jr,h3,h4,dS];(repeat refine⟨aa,?_⟩);refine af _ ?_);refine aM fun Kq af=>?_;simp[bX,bt,bQ,dk,bf,e0,e1,h0,lY,h1,h2,jr,h3,h4,dS];refine dT.rH (wM) bA (by first | exact D.bJ _ | simp[aL,agF,agy,D.le,D.le.go,D.le_refl,D.bJ,bX,bt,bQ,dk,bf,e0,e1,h0,lY,h1,h2,jr,h3,h4,dS]) (by simp[D.scalar]) ?_;refine af _ ?_;simp only[aR,dY];(repeat refine aM fun Kq af=>?_;simp[bX,bt,bQ,dk,bf,e0,e1,h0,lY,h1,h2,jr,h3,h4,dS];(repeat refine⟨aa,?_⟩);refine af _ ?_);refine bK (ao _ (AW.st (by simp[bX,bt,bQ,dk,bf,e0,e1,h0,lY,h1,h2,jr,h3,h4,dS];rfl) ?_));refine bR ?_;simp[D.le,D.le.go,aL];simp[jg,h1,jr,hg,e0,AO,DY,h5]
    .have h5':¬ (Lib.trimS l pT == [])=true:=by simpa using h5
     refine rg [2] [] aN fun K' ao=>?_;(repeat refine aM fun Kq af=>?_;simp[bX,bt,bQ,dk,bf,e0,e1,h0,lY,h1,h2,jr,h3,h4,h5,dS];(repeat refine⟨aa,?_⟩);refine af _ ?_);refine aM fun Kq af=>?_;simp[bX,bt,bQ,dk,bf,e0,e1,h0,lY,h1,h2,jr,h3,h4,h5,dS];refine dT.data (IP) bA (by first | exact D.bJ _ | simp[aL,agF,agy,D.le,D.le.go,D.le_refl,D.bJ,bX,bt,bQ,dk,bf,e0,e1,h0,lY,h1,h2,jr,h3,h4,h5,dS]) ?_;refine af _ ?_;simp only[aR,dY];(repeat refine aM fun Kq af=>?_;simp[bX,bt,bQ,dk,bf,e0,e1,h0,lY,h1,h2,jr,h3,h4,h5,dS];(repeat refine⟨aa,?_⟩);refine af _ ?_);refine bK (ao _ (AW.st (by simp[bX,bt,bQ,dk,bf,e0,e1,h0,lY,h1,h2,jr,h3,h4,h5,dS];rfl) ?_));refine bR ?_;simp[D.le,D.le.go,aL];simp[jg,h1,jr,hg,e0,AO,DY,h5]
   .have DY:¬ a.toNat<=122:=aa
    refine rg [2] [] aN fun K' ao=>?_;(repeat refine aM fun Kq af=>?_;simp[bX,bt,bQ,dk,bf,e0,e1,h0,lY,h1,h2,jr,h3,h4];(repeat refine⟨aa,?_⟩);refine af _ ?_);refine bK (ao _ (AW.st (by simp[bX,bt,bQ,dk,bf,e0,e1,h0,lY,h1,h2,jr,h3,h4];rfl) ?_));refine bR ?_;simp[D.le,D.le.go,aL];simp[jg,h1,jr,hg,e0,AO,DY]
  .have AO:¬ 97<=a.toNat:=aa
   refine rg [2] [] aN fun K' ao=>?_;(repeat refine aM fun Kq af=>?_;simp[bX,bt,bQ,dk,bf,e0,e1,h0,lY,h1,h2,jr,h3];(repeat refine⟨aa,?_⟩);refine af _ ?_);refine bK (ao _ (AW.st (by simp[bX,bt,bQ,dk,bf,e0,e1,h0,lY,h1,h2,jr,h3];rfl) ?_));refine bR ?_;simp[D.le,D.le.go,aL];simp[jg,h1,jr,hg,e0,AO]
 .have jr:¬ l.length<=8:=aa
  refine rg [2] [] aN fun K' ao=>?_;(repeat refine aM fun Kq af=>?_;simp[bX,bt,bQ,dk,bf,e0,e1,h0,lY,h1,h2,jr];(repeat refine⟨aa,?_⟩);refine af _ ?_);refine bK (ao _ (AW.st (by simp[bX,bt,bQ,dk,bf,e0,e1,h0,lY,h1,h2,jr];rfl) ?_));refine bR ?_;simp[D.le,D.le.go,aL];simp[jg,h1,jr]
theorem aii:type_of% @dS.eq_1:=@dS.eq_1
