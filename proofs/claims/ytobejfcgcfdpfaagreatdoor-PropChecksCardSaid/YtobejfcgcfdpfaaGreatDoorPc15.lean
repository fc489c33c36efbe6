/- Parts. -/
import Derived.Test.YtobejfcgcfdpfaaGreatDoorPc11
import Derived.Test.YtobejfcgcfdpfaaGreatDoorPc12
import Derived.Test.YtobejfcgcfdpfaaGreatDoorPc13
import Derived.Test.YtobejfcgcfdpfaaGreatDoorPc14
import Derived.Laws.Strings
set_option linter.unusedSimpArgs false
set_option linter.unusedVariables false
set_option maxHeartbeats 4000000
open Go.Proofs.Tryz
namespace Go.Proofs.YtobejfcgcfdpfaaGreatDoor
open Go.Av
open Go.RowKit Go.Shelf Go.Lib
def bs (l:List UInt8):ByteArray:=⟨l.toArray⟩
def dS (l:List UInt8):D:=.v (.string (bs l))
theorem bA (l:List UInt8):(bs l).toList=l:=by rw[ByteArray.toList_eq];rfl
theorem dM (l:List UInt8):(bs l).data.toList=l:=rfl
theorem bX (l:List UInt8):(bs l).size=l.length:=rfl
theorem cu:(⟨#[]⟩:ByteArray)=bs []:=rfl
theorem yX {w w':World} (h:Below w.heap.size w w'):cX w w':=⟨h.size,h.os,h.tape,h.output,h.block⟩
theorem aj1 (G:aB) (l:List UInt8) (hl:l.length < 2^60):aD prog G 92 [dS l,dS rp] (dS (Lib.trimS l rp)):=by
 refine aD.tS (iV.of func92 rfl rfl) fun X w vs bp bQ cW=>?_
 obtain⟨a,b,rfl⟩:∃ a b,vs = #[a,b]:=by
  match vs,bp with
  | ⟨[a,b]⟩,_=>exact⟨a,b,rfl⟩
 have ha:=(bQ 0 a _ rfl rfl).scalar;have hb:=(bQ 1 b _ rfl rfl).scalar;subst ha hb;have ju:=Any.strings_Trim_laid Tryz.NP ah (bs l) (bs rp) w (by rw[bX];omega) bD (ascii_of_all bD)
 change Calls prog 92 _ _ (fun e w'=>e = .returned (.string (bs (Lib.trimS l rp)))/\Below w.heap.size w w')at ju
 exact ju.mono fun e w' ⟨he,hB⟩=>⟨_,he,yX hB,.v _⟩
theorem index_spec (G:aB) (k:Option Bool) (ws:List (List UInt8)) (s:List UInt8) (hl:ws.length < 2^60):aD prog G 140 [.sl k (ws.map fun x=>[dS x]),dS s] (.v (.int .i64 (idx (fun x=>s == x) ws))):=by
 refine aD.aO (ay _) func140 rfl rfl (rs:=[.tmp 4]) results140 (by simp[ntmps140]) fun X=>?_;simp only[ntmps140,List.map];refine ar [0,1] [] ?_;refine ag fun K1 aF=>ar [0,1,7,8] [] ?_;refine ch (S:=Nat) (fun n=>n<=ws.length/\∀ i (hi:i < ws.length),i < n->(s == ws[i])=false) (fun n=>⟨bg [(0,.d (.sl k (ws.map fun x=>[dS x]))),(1,.d (dS s)),(7,int ws.length),(8,int n)],aw []⟩) (fun n=>ws.length - n) 0 ?_ ak ?_
 .refine cg
 .rintro n ⟨hn,hp⟩;refine ar [0,1,7,8,9] [] ?_;refine ag fun K2 au=>eY (b:=n < ws.length) (by simp[D.le,D.le.go,aP]) (fun hc=>?_) (fun hc=>?_)
  .refine aq (au _ (ag fun K3 aX=>bf (ar [0,1,5,7,8] [] ?_)));by_cases he:s=ws[n]
   .refine rg [0,1,5,7,8,16] [] aQ fun K' ao=>?_;(repeat refine aK fun Kq af=>?_;simp[hc,dS,bA,he,bu];(repeat refine⟨aa,?_⟩);refine af _ ?_);refine bH (ao _ (AW.st (by simp[hc,dS,bA,he,bu];rfl) ?_));refine aJ (ar [4] [] ?_);refine bW ?_;simp[D.le,D.le.go,aP];exact (uN (p:=fun x=>s == x) hc (by simp[he]) fun i hi=>hp i aa hi).symm
   .have kM:(s == ws[n])=false:=by simpa using he
    refine rg [0,1,5,7,8,16] [] aQ fun K' ao=>?_;(repeat refine aK fun Kq af=>?_;simp[hc,dS,bA,he,kM,bu];(repeat refine⟨aa,?_⟩);refine af _ ?_);refine bH (ao _ (AW.st (by simp[hc,dS,bA,he,kM,bu];rfl) ?_));refine al (aq (aX _ ?_));refine cK ?_;(try simp only[aT,aW]);refine aZ.mk (n+1) ⟨aa,fun i hi aR=>?_⟩ aa ?_
    .by_cases h:i=n
     .subst h;simpa using he
     .exact hp i hi aa
    refine bo @dS.eq_1
  .refine bL (aF _ (ar [4] [] ?_));refine bW ?_;simp[D.le,D.le.go,aP];exact (uO (p:=fun x=>s == x) fun i hi=>hp i hi aa).symm
theorem Z4 (G:aB) (k:Option Bool) (ws:List (List UInt8)) (s:List UInt8) (hl:ws.length < 2^60):aD prog G 145 [.sl k (ws.map fun x=>[dS x]),dS s] (.v (.bool (ws.any fun x=>s == x))):=by
 refine aD.aO (ay _) func145 rfl rfl (rs:=[.tmp 4]) results145 (by simp[ntmps145]) fun X=>?_;simp only[ntmps145,List.map];refine ar [0,1] [] ?_;refine bh trivial (index_spec G k ws s hl) [4] [] ?_;refine bW ?_;simp[D.le,D.le.go,aP];exact Ib (fun x=>s == x) ws
theorem Vb (G:aB) (l:List UInt8) (hl:l.length < 2^60):aD prog G 96 [dS l] (.v (.bool (jQ l))):=by
 have Nk:=aj1 G l hl;have zv:=Z4 G none nN l bD;refine aD.aO (ay _) func96 rfl rfl (rs:=[.tmp 2]) results96 (by simp[ntmps96]) fun X=>?_;simp only[ntmps96,List.map];refine ae @dS.eq_1 [0] [] ?_;by_cases h1:l=[]
 .subst h1;refine rg [2] [] aQ fun K' ao=>?_;(repeat refine aK fun Kq af=>?_;simp[cu,bA,bu];(repeat refine⟨aa,?_⟩);refine af _ ?_);refine bH (ao _ (AW.st (by simp[cu,bA,bu];rfl) ?_));refine bW ?_;simp[D.le,D.le.go,aP];simp[jQ]
 obtain⟨a,l',vL⟩:∃ a l',l=a :: l':=by
  cases l with
  | nil=>exact absurd rfl h1
  | cons a l'=>exact⟨a,l',rfl⟩
 have e0:l[0]? = some a:=by rw[vL];rfl
 have e1:l.head? = some a:=by rw[vL];rfl
 have h0:0 < l.length:=by rw[vL];simp
 have hg:l.getD 0 0=a:=by rw[vL];rfl
 have nv:l[0]=a:=by apply AI;rw[<- e0];exact (AT h0).symm
 by_cases h2:(l.length:Int)<=8
 .have j1:l.length<=8:=aa
  by_cases h3:(97:Int)<=(a.toNat:Int)
  .have ze:97<=a.toNat:=aa
   by_cases h4:(a.toNat:Int)<=122
   .have G3:a.toNat<=122:=aa
    by_cases h5:Lib.trimS l rp=[]
    .rw[h5]at Nk;refine rg [2] [26] aQ fun K' ao=>?_;(repeat refine aK fun Kq af=>?_;simp[cu,bA,bX,dM,bu,e0,e1,h0,nv,h1,h2,j1,h3,h4,dS];(repeat refine⟨aa,?_⟩);refine af _ ?_);refine aK fun Kq af=>?_;simp[cu,bA,bX,dM,bu,e0,e1,h0,nv,h1,h2,j1,h3,h4,dS];refine cZ.data (Nk) bt (by first | exact D.bC _ | simp[aP,amk,amc,D.le,D.le.go,D.le_refl,D.bC,cu,bA,bX,dM,bu,e0,e1,h0,nv,h1,h2,j1,h3,h4,dS]) ?_;refine af _ ?_;simp only[aN,du];(repeat refine aK fun Kq af=>?_;simp[cu,bA,bX,dM,bu,e0,e1,h0,nv,h1,h2,j1,h3,h4,dS];(repeat refine⟨aa,?_⟩);refine af _ ?_);refine aK fun Kq af=>?_;simp[cu,bA,bX,dM,bu,e0,e1,h0,nv,h1,h2,j1,h3,h4,dS];refine cZ.rT (zv) bt (by first | exact D.bC _ | simp[aP,amk,amc,D.le,D.le.go,D.le_refl,D.bC,cu,bA,bX,dM,bu,e0,e1,h0,nv,h1,h2,j1,h3,h4,dS]) (by simp[D.scalar]) ?_;refine af _ ?_;simp only[aN,du];(repeat refine aK fun Kq af=>?_;simp[cu,bA,bX,dM,bu,e0,e1,h0,nv,h1,h2,j1,h3,h4,dS];(repeat refine⟨aa,?_⟩);refine af _ ?_);refine bH (ao _ (AW.st (by simp[cu,bA,bX,dM,bu,e0,e1,h0,nv,h1,h2,j1,h3,h4,dS];rfl) ?_));refine bW ?_;simp[D.le,D.le.go,aP];simp[jQ,h1,j1,hg,e0,ze,G3,h5]
    .have h5':¬ (Lib.trimS l rp == [])=true:=by simpa using h5
     refine rg [2] [] aQ fun K' ao=>?_;(repeat refine aK fun Kq af=>?_;simp[cu,bA,bX,dM,bu,e0,e1,h0,nv,h1,h2,j1,h3,h4,h5,dS];(repeat refine⟨aa,?_⟩);refine af _ ?_);refine aK fun Kq af=>?_;simp[cu,bA,bX,dM,bu,e0,e1,h0,nv,h1,h2,j1,h3,h4,h5,dS];refine cZ.data (Nk) bt (by first | exact D.bC _ | simp[aP,amk,amc,D.le,D.le.go,D.le_refl,D.bC,cu,bA,bX,dM,bu,e0,e1,h0,nv,h1,h2,j1,h3,h4,h5,dS]) ?_;refine af _ ?_;simp only[aN,du];(repeat refine aK fun Kq af=>?_;simp[cu,bA,bX,dM,bu,e0,e1,h0,nv,h1,h2,j1,h3,h4,h5,dS];(repeat refine⟨aa,?_⟩);refine af _ ?_);refine bH (ao _ (AW.st (by simp[cu,bA,bX,dM,bu,e0,e1,h0,nv,h1,h2,j1,h3,h4,h5,dS];rfl) ?_));refine bW ?_;simp[D.le,D.le.go,aP];simp[jQ,h1,j1,hg,e0,ze,G3,h5]
   .have G3:¬ a.toNat<=122:=aa
    refine rg [2] [] aQ fun K' ao=>?_;(repeat refine aK fun Kq af=>?_;simp[cu,bA,bX,dM,bu,e0,e1,h0,nv,h1,h2,j1,h3,h4];(repeat refine⟨aa,?_⟩);refine af _ ?_);refine bH (ao _ (AW.st (by simp[cu,bA,bX,dM,bu,e0,e1,h0,nv,h1,h2,j1,h3,h4];rfl) ?_));refine bW ?_;simp[D.le,D.le.go,aP];simp[jQ,h1,j1,hg,e0,ze,G3]
  .have ze:¬ 97<=a.toNat:=aa
   refine rg [2] [] aQ fun K' ao=>?_;(repeat refine aK fun Kq af=>?_;simp[cu,bA,bX,dM,bu,e0,e1,h0,nv,h1,h2,j1,h3];(repeat refine⟨aa,?_⟩);refine af _ ?_);refine bH (ao _ (AW.st (by simp[cu,bA,bX,dM,bu,e0,e1,h0,nv,h1,h2,j1,h3];rfl) ?_));refine bW ?_;simp[D.le,D.le.go,aP];simp[jQ,h1,j1,hg,e0,ze]
 .have j1:¬ l.length<=8:=aa
  refine rg [2] [] aQ fun K' ao=>?_;(repeat refine aK fun Kq af=>?_;simp[cu,bA,bX,dM,bu,e0,e1,h0,nv,h1,h2,j1];(repeat refine⟨aa,?_⟩);refine af _ ?_);refine bH (ao _ (AW.st (by simp[cu,bA,bX,dM,bu,e0,e1,h0,nv,h1,h2,j1];rfl) ?_));refine bW ?_;simp[D.le,D.le.go,aP];simp[jQ,h1,j1]
theorem an9:type_of% @dS.eq_1:=@dS.eq_1
