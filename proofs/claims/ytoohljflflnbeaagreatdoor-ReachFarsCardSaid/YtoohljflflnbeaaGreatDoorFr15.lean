/- Parts. -/
import Derived.Test.YtoohljflflnbeaaGreatDoorFr11
import Derived.Test.YtoohljflflnbeaaGreatDoorFr12
import Derived.Test.YtoohljflflnbeaaGreatDoorFr13
import Derived.Test.YtoohljflflnbeaaGreatDoorFr14
import Derived.Laws.Strings
set_option linter.unusedSimpArgs false
set_option linter.unusedVariables false
set_option maxHeartbeats 4000000
open Go.Proofs.Tryz
namespace Go.Proofs.YtoohljflflnbeaaGreatDoor
open Go.Av
open Go.RowKit Go.Shelf Go.Lib
def bs (l:List UInt8):ByteArray:=⟨l.toArray⟩
def dS (l:List UInt8):D:=.v (.string (bs l))
theorem bu (l:List UInt8):(bs l).toList=l:=by rw[ByteArray.toList_eq];rfl
theorem dr (l:List UInt8):(bs l).data.toList=l:=rfl
theorem bN (l:List UInt8):(bs l).size=l.length:=rfl
theorem b7:(⟨#[]⟩:ByteArray)=bs []:=rfl
theorem xw {w w':World} (h:Below w.heap.size w w'):cN w w':=⟨h.size,h.os,h.tape,h.output,h.block⟩
theorem ahE (G:ay) (l:List UInt8) (hl:l.length < 2^60):aD prog G 179 [dS l,dS qn] (dS (Lib.trimS l qn)):=by
 refine aD.sE (iA.of func179 rfl rfl) fun X w vs bd bY dt=>?_
 obtain⟨a,b,rfl⟩:∃ a b,vs = #[a,b]:=by
  match vs,bd with
  | ⟨[a,b]⟩,_=>exact⟨a,b,rfl⟩
 have ha:=(bY 0 a _ rfl rfl).scalar;have hb:=(bY 1 b _ rfl rfl).scalar;subst ha hb;have iW:=Any.strings_Trim_laid Tryz.LC ah (bs l) (bs qn) w (by rw[bN];omega) bF (ascii_of_all bF)
 change Calls prog 179 _ _ (fun e w'=>e = .returned (.string (bs (Lib.trimS l qn)))/\Below w.heap.size w w')at iW
 exact iW.mono fun e w' ⟨he,hB⟩=>⟨_,he,xw hB,.v _⟩
theorem index_spec (G:ay) (k:Option Bool) (ws:List (List UInt8)) (s:List UInt8) (hl:ws.length < 2^60):aD prog G 196 [.sl k (ws.map fun x=>[dS x]),dS s] (.v (.int .i64 (idx (fun x=>s == x) ws))):=by
 refine aD.aQ (aC _) func196 rfl rfl (rs:=[.tmp 4]) results196 (by simp[ntmps196]) fun X=>?_;simp only[ntmps196,List.map];refine aB [0,1] [] ?_;refine ag fun K1 aF=>aB [0,1,7,8] [] ?_;refine cG (S:=Nat) (fun n=>n<=ws.length/\∀ i (hi:i < ws.length),i < n->(s == ws[i])=false) (fun n=>⟨bp [(0,.d (.sl k (ws.map fun x=>[dS x]))),(1,.d (dS s)),(7,int ws.length),(8,int n)],aq []⟩) (fun n=>ws.length - n) 0 ?_ ak ?_
 .refine df
 .rintro n ⟨hn,hp⟩;refine aB [0,1,7,8,9] [] ?_;refine ag fun K2 aw=>fG (b:=n < ws.length) (by simp[D.le,D.le.go,aR]) (fun hc=>?_) (fun hc=>?_)
  .refine ar (aw _ (ag fun K3 aZ=>bg (aB [0,1,5,7,8] [] ?_)));by_cases he:s=ws[n]
   .refine rg [0,1,5,7,8,16] [] aN fun K' ao=>?_;(repeat refine aK fun Kq af=>?_;simp[hc,dS,bu,he,bo];(repeat refine⟨aa,?_⟩);refine af _ ?_);refine bJ (ao _ (AW.st (by simp[hc,dS,bu,he,bo];rfl) ?_));refine aJ (aB [4] [] ?_);refine bT ?_;simp[D.le,D.le.go,aR];exact (ve (p:=fun x=>s == x) hc (by simp[he]) fun i hi=>hp i aa hi).symm
   .have kg:(s == ws[n])=false:=by simpa using he
    refine rg [0,1,5,7,8,16] [] aN fun K' ao=>?_;(repeat refine aK fun Kq af=>?_;simp[hc,dS,bu,he,kg,bo];(repeat refine⟨aa,?_⟩);refine af _ ?_);refine bJ (ao _ (AW.st (by simp[hc,dS,bu,he,kg,bo];rfl) ?_));refine al (ar (aZ _ ?_));refine dN ?_;(try simp only[aV,aX]);refine bh.mk (n+1) ⟨aa,fun i hi aO=>?_⟩ aa ?_
    .by_cases h:i=n
     .subst h;simpa using he
     .exact hp i hi aa
    refine bt @dS.eq_1
  .refine b5 (aF _ (aB [4] [] ?_));refine bT ?_;simp[D.le,D.le.go,aR];exact (vf (p:=fun x=>s == x) fun i hi=>hp i hi aa).symm
theorem Xe (G:ay) (k:Option Bool) (ws:List (List UInt8)) (s:List UInt8) (hl:ws.length < 2^60):aD prog G 213 [.sl k (ws.map fun x=>[dS x]),dS s] (.v (.bool (ws.any fun x=>s == x))):=by
 refine aD.aQ (aC _) func213 rfl rfl (rs:=[.tmp 4]) results213 (by simp[ntmps213]) fun X=>?_;simp only[ntmps213,List.map];refine aB [0,1] [] ?_;refine br trivial (index_spec G k ws s hl) [4] [] ?_;refine bT ?_;simp[D.le,D.le.go,aR];exact Gr (fun x=>s == x) ws
theorem Sr (G:ay) (l:List UInt8) (hl:l.length < 2^60):aD prog G 157 [dS l] (.v (.bool (jv l))):=by
 have Ld:=ahE G l hl;have xV:=Xe G none mD l bF;refine aD.aQ (aC _) func157 rfl rfl (rs:=[.tmp 2]) results157 (by simp[ntmps157]) fun X=>?_;simp only[ntmps157,List.map];refine ae @dS.eq_1 [0] [] ?_;by_cases h1:l=[]
 .subst h1;refine rg [2] [] aN fun K' ao=>?_;(repeat refine aK fun Kq af=>?_;simp[b7,bu,bo];(repeat refine⟨aa,?_⟩);refine af _ ?_);refine bJ (ao _ (AW.st (by simp[b7,bu,bo];rfl) ?_));refine bT ?_;simp[D.le,D.le.go,aR];simp[jv]
 obtain⟨a,l',uN⟩:∃ a l',l=a :: l':=by
  cases l with
  | nil=>exact absurd rfl h1
  | cons a l'=>exact⟨a,l',rfl⟩
 have e0:l[0]? = some a:=by rw[uN];rfl
 have e1:l.head? = some a:=by rw[uN];rfl
 have h0:0 < l.length:=by rw[uN];simp
 have hg:l.getD 0 0=a:=by rw[uN];rfl
 have me:l[0]=a:=by apply AI;rw[<- e0];exact (AT h0).symm
 by_cases h2:(l.length:Int)<=8
 .have jG:l.length<=8:=aa
  by_cases h3:(97:Int)<=(a.toNat:Int)
  .have Cb:97<=a.toNat:=aa
   by_cases h4:(a.toNat:Int)<=122
   .have Fq:a.toNat<=122:=aa
    by_cases h5:Lib.trimS l qn=[]
    .rw[h5]at Ld;refine rg [2] [26] aN fun K' ao=>?_;(repeat refine aK fun Kq af=>?_;simp[b7,bu,bN,dr,bo,e0,e1,h0,me,h1,h2,jG,h3,h4,dS];(repeat refine⟨aa,?_⟩);refine af _ ?_);refine aK fun Kq af=>?_;simp[b7,bu,bN,dr,bo,e0,e1,h0,me,h1,h2,jG,h3,h4,dS];refine cX.data (Ld) bB (by first | exact D.bR _ | simp[aR,ajN,ajG,D.le,D.le.go,D.le_refl,D.bR,b7,bu,bN,dr,bo,e0,e1,h0,me,h1,h2,jG,h3,h4,dS]) ?_;refine af _ ?_;simp only[aL,dL];(repeat refine aK fun Kq af=>?_;simp[b7,bu,bN,dr,bo,e0,e1,h0,me,h1,h2,jG,h3,h4,dS];(repeat refine⟨aa,?_⟩);refine af _ ?_);refine aK fun Kq af=>?_;simp[b7,bu,bN,dr,bo,e0,e1,h0,me,h1,h2,jG,h3,h4,dS];refine cX.sB (xV) bB (by first | exact D.bR _ | simp[aR,ajN,ajG,D.le,D.le.go,D.le_refl,D.bR,b7,bu,bN,dr,bo,e0,e1,h0,me,h1,h2,jG,h3,h4,dS]) (by simp[D.scalar]) ?_;refine af _ ?_;simp only[aL,dL];(repeat refine aK fun Kq af=>?_;simp[b7,bu,bN,dr,bo,e0,e1,h0,me,h1,h2,jG,h3,h4,dS];(repeat refine⟨aa,?_⟩);refine af _ ?_);refine bJ (ao _ (AW.st (by simp[b7,bu,bN,dr,bo,e0,e1,h0,me,h1,h2,jG,h3,h4,dS];rfl) ?_));refine bT ?_;simp[D.le,D.le.go,aR];simp[jv,h1,jG,hg,e0,Cb,Fq,h5]
    .have h5':¬ (Lib.trimS l qn == [])=true:=by simpa using h5
     refine rg [2] [] aN fun K' ao=>?_;(repeat refine aK fun Kq af=>?_;simp[b7,bu,bN,dr,bo,e0,e1,h0,me,h1,h2,jG,h3,h4,h5,dS];(repeat refine⟨aa,?_⟩);refine af _ ?_);refine aK fun Kq af=>?_;simp[b7,bu,bN,dr,bo,e0,e1,h0,me,h1,h2,jG,h3,h4,h5,dS];refine cX.data (Ld) bB (by first | exact D.bR _ | simp[aR,ajN,ajG,D.le,D.le.go,D.le_refl,D.bR,b7,bu,bN,dr,bo,e0,e1,h0,me,h1,h2,jG,h3,h4,h5,dS]) ?_;refine af _ ?_;simp only[aL,dL];(repeat refine aK fun Kq af=>?_;simp[b7,bu,bN,dr,bo,e0,e1,h0,me,h1,h2,jG,h3,h4,h5,dS];(repeat refine⟨aa,?_⟩);refine af _ ?_);refine bJ (ao _ (AW.st (by simp[b7,bu,bN,dr,bo,e0,e1,h0,me,h1,h2,jG,h3,h4,h5,dS];rfl) ?_));refine bT ?_;simp[D.le,D.le.go,aR];simp[jv,h1,jG,hg,e0,Cb,Fq,h5]
   .have Fq:¬ a.toNat<=122:=aa
    refine rg [2] [] aN fun K' ao=>?_;(repeat refine aK fun Kq af=>?_;simp[b7,bu,bN,dr,bo,e0,e1,h0,me,h1,h2,jG,h3,h4];(repeat refine⟨aa,?_⟩);refine af _ ?_);refine bJ (ao _ (AW.st (by simp[b7,bu,bN,dr,bo,e0,e1,h0,me,h1,h2,jG,h3,h4];rfl) ?_));refine bT ?_;simp[D.le,D.le.go,aR];simp[jv,h1,jG,hg,e0,Cb,Fq]
  .have Cb:¬ 97<=a.toNat:=aa
   refine rg [2] [] aN fun K' ao=>?_;(repeat refine aK fun Kq af=>?_;simp[b7,bu,bN,dr,bo,e0,e1,h0,me,h1,h2,jG,h3];(repeat refine⟨aa,?_⟩);refine af _ ?_);refine bJ (ao _ (AW.st (by simp[b7,bu,bN,dr,bo,e0,e1,h0,me,h1,h2,jG,h3];rfl) ?_));refine bT ?_;simp[D.le,D.le.go,aR];simp[jv,h1,jG,hg,e0,Cb]
 .have jG:¬ l.length<=8:=aa
  refine rg [2] [] aN fun K' ao=>?_;(repeat refine aK fun Kq af=>?_;simp[b7,bu,bN,dr,bo,e0,e1,h0,me,h1,h2,jG];(repeat refine⟨aa,?_⟩);refine af _ ?_);refine bJ (ao _ (AW.st (by simp[b7,bu,bN,dr,bo,e0,e1,h0,me,h1,h2,jG];rfl) ?_));refine bT ?_;simp[D.le,D.le.go,aR];simp[jv,h1,jG]
theorem alw:type_of% @dS.eq_1:=@dS.eq_1
