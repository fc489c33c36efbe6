/- Parts. -/
import Derived.Test.YtdigkhaofjmgkaaGreatDoorFx11
import Derived.Test.YtdigkhaofjmgkaaGreatDoorFx12
import Derived.Test.YtdigkhaofjmgkaaGreatDoorFx13
import Derived.Test.YtdigkhaofjmgkaaGreatDoorFx14
import Derived.Laws.Strings
set_option linter.unusedSimpArgs false
set_option linter.unusedVariables false
set_option maxHeartbeats 4000000
open Go.Proofs.Tryz
namespace Go.Proofs.YtdigkhaofjmgkaaGreatDoor
open Go.Av
open Go.RowKit Go.Shelf Go.Lib
def bs (l:List UInt8):ByteArray:=⟨l.toArray⟩
def dS (l:List UInt8):D:=.v (.string (bs l))
theorem aY (l:List UInt8):(bs l).toList=l:=by rw[ByteArray.toList_eq];rfl
theorem cj (l:List UInt8):(bs l).data.toList=l:=rfl
theorem bl (l:List UInt8):(bs l).size=l.length:=rfl
theorem br:(⟨#[]⟩:ByteArray)=bs []:=rfl
theorem rL {w w':World} (h:Below w.heap.size w w'):bZ w w':=⟨h.size,h.os,h.tape,h.output,h.block⟩
theorem ZK (G:aq) (l:List UInt8) (hl:l.length < 2^60):ar prog G 121 [dS l,dS lW] (dS (Lib.trimS l lW)):=by
 refine ar.nV (fe.of func121 rfl rfl) fun X w vs aK bD hgl=>?_
 obtain⟨a,b,rfl⟩:∃ a b,vs = #[a,b]:=by
  match vs,aK with
  | ⟨[a,b]⟩,_=>exact⟨a,b,rfl⟩
 have ha:=(bD 0 a _ rfl rfl).scalar;have hb:=(bD 1 b _ rfl rfl).scalar;subst ha hb;have fC:=Any.strings_Trim_laid Tryz.Ey (by kernel_rfl) (bs l) (bs lW) w (by rw[bl];omega) (by decide) (ascii_of_all (by decide))
 change Calls prog 121 _ _ (fun e w'=>e = .returned (.string (bs (Lib.trimS l lW)))/\Below w.heap.size w w')at fC
 exact fC.mono fun e w' ⟨he,hB⟩=>⟨_,he,rL hB,.v _⟩
theorem index_spec (G:aq) (k:Option Bool) (ws:List (List UInt8)) (s:List UInt8) (hl:ws.length < 2^60):ar prog G 138 [.sl k (ws.map fun x=>[dS x]),dS s] (.v (.int .i64 (idx (fun x=>s == x) ws))):=by
 refine ar.abS (al _) func138 rfl rfl (rs:=[.tmp 4]) results138 (by simp[ntmps138]) fun X=>?_;simp only[ntmps138,List.map];refine ah [0,1] [] ?_;refine af fun K1 ax=>?_;refine ah [0,1,7,8] [] ?_;refine bQ (S:=Nat) (fun n=>n<=ws.length/\∀ i (hi:i < ws.length),i < n->(s == ws[i])=false) (fun n=>⟨aV [(0,.d (.sl k (ws.map fun x=>[dS x]))),(1,.d (dS s)),(7,int ws.length),(8,int n)],ak []⟩) (fun n=>ws.length - n) 0 ?_ (by simp) ?_
 .refine bJ
 .rintro n ⟨hn,hp⟩;refine ah [0,1,7,8,9] [] ?_;refine af fun K2 aa=>?_;refine eh (b:=n < ws.length) (by simp[D.le,D.le.go,aC]) (fun hc=>?_) (fun hc=>?_)
  .refine abO (aa _ ?_);refine af fun K3 aQ=>?_;refine aR ?_;refine ah [0,1,5,7,8] [] ?_;by_cases he:s=ws[n]
   .refine rg [0,1,5,7,8,16] [] (fun _ _=>trivial) fun K' ae=>?_;(repeat (refine sxn fun K2 aa=>?_;simp[hc,dS,aY,he,aO];(repeat (refine⟨by omega,?_⟩));refine aa _ ?_;clear aa K2));refine sxz (ae _ (AW.st (by simp[hc,dS,aY,he,aO];rfl) ?_));clear ae K';refine abP rfl ?_;refine ah [4] [] ?_;refine ab1 ?_;simp[D.le,D.le.go,aC];exact (afp (p:=fun x=>s == x) hc (by simp[he]) fun i hi=>hp i (by omega) hi).symm
   .have gZ:(s == ws[n])=false:=by simpa using he
    refine rg [0,1,5,7,8,16] [] (fun _ _=>trivial) fun K' ae=>?_;(repeat (refine sxn fun K2 aa=>?_;simp[hc,dS,aY,he,gZ,aO];(repeat (refine⟨by omega,?_⟩));refine aa _ ?_;clear aa K2));refine sxz (ae _ (AW.st (by simp[hc,dS,aY,he,gZ,aO];rfl) ?_));clear ae K';refine abN rfl ?_;refine abO (aQ _ ?_);refine re0 ?_;(try simp only[aJ,aL]);refine aS.mk (n+1) ⟨by omega,fun i hi aF=>?_⟩ (by omega) ?_
    .by_cases h:i=n
     .subst h;simpa using he
     .exact hp i hi (by omega)
    refine abW @dS.eq_1
  .refine bx (ax _ ?_);refine ah [4] [] ?_;refine ab1 ?_;simp[D.le,D.le.go,aC];exact (afq (p:=fun x=>s == x) fun i hi=>hp i hi (by omega)).symm
theorem OU (G:aq) (k:Option Bool) (ws:List (List UInt8)) (s:List UInt8) (hl:ws.length < 2^60):ar prog G 180 [.sl k (ws.map fun x=>[dS x]),dS s] (.v (.bool (ws.any fun x=>s == x))):=by
 refine ar.abS (al _) func180 rfl rfl (rs:=[.tmp 4]) results180 (by simp[ntmps180]) fun X=>?_;simp only[ntmps180,List.map];refine ah [0,1] [] ?_;refine aT trivial (index_spec G k ws s hl) [4] [] ?_;refine ab1 ?_;simp[D.le,D.le.go,aC];exact agI (fun x=>s == x) ws
theorem Ku (G:aq) (l:List UInt8) (hl:l.length < 2^60):ar prog G 125 [dS l] (.v (.bool (gd l))):=by
 have Ea:=ZK G l hl;have sa:=OU G none jj l (by decide);refine ar.abS (al _) func125 rfl rfl (rs:=[.tmp 2]) results125 (by simp[ntmps125]) fun X=>?_;simp only[ntmps125,List.map];refine rgq @dS.eq_1 [0] [] ?_;by_cases h1:l=[]
 .subst h1;refine rg [2] [] (fun _ _=>trivial) fun K' ae=>?_;(repeat (refine sxn fun K2 aa=>?_;simp[br,aY,aO];(repeat (refine⟨by omega,?_⟩));refine aa _ ?_;clear aa K2));refine sxz (ae _ (AW.st (by simp[br,aY,aO];rfl) ?_));clear ae K';refine ab1 ?_;simp[D.le,D.le.go,aC];simp[gd]
 obtain⟨a,l',hal⟩:∃ a l',l=a :: l':=by
  cases l with
  | nil=>exact absurd rfl h1
  | cons a l'=>exact⟨a,l',rfl⟩
 have e0:l[0]? = some a:=by rw[hal];rfl
 have e1:l.head? = some a:=by rw[hal];rfl
 have h0:0 < l.length:=by rw[hal];simp
 have hg:l.getD 0 0=a:=by rw[hal];rfl
 have iV:l[0]=a:=by apply AI;rw[<- e0];exact (By h0).symm
 by_cases h2:(l.length:Int)<=8
 .have gu:l.length<=8:=by omega
  by_cases h3:(97:Int)<=(a.toNat:Int)
  .have h3':97<=a.toNat:=by omega
   by_cases h4:(a.toNat:Int)<=122
   .have zk:a.toNat<=122:=by omega
    by_cases h5:Lib.trimS l lW=[]
    .rw[h5]at Ea;refine rg [2] [26] (fun _ _=>trivial) fun K' ae=>?_;(repeat (refine sxn fun K2 aa=>?_;simp[br,aY,bl,cj,aO,e0,e1,h0,iV,h1,h2,gu,h3,h4,dS];(repeat (refine⟨by omega,?_⟩));refine aa _ ?_;clear aa K2));refine sxn fun K2 aa=>?_;simp[br,aY,bl,cj,aO,e0,e1,h0,iV,h1,h2,gu,h3,h4,dS];refine ab8.data (Ea) (by simp;rfl) (by first | exact D.abY _ | simp[aC,abU,abK,D.le,D.le.go,D.le_refl,D.abY,br,aY,bl,cj,aO,e0,e1,h0,iV,h1,h2,gu,h3,h4,dS]) ?_;refine aa _ ?_;clear aa K2;simp only[aD,cz];(repeat (refine sxn fun K2 aa=>?_;simp[br,aY,bl,cj,aO,e0,e1,h0,iV,h1,h2,gu,h3,h4,dS];(repeat (refine⟨by omega,?_⟩));refine aa _ ?_;clear aa K2));refine sxn fun K2 aa=>?_;simp[br,aY,bl,cj,aO,e0,e1,h0,iV,h1,h2,gu,h3,h4,dS];refine ab8.aee (sa) (by simp;rfl) (by first | exact D.abY _ | simp[aC,abU,abK,D.le,D.le.go,D.le_refl,D.abY,br,aY,bl,cj,aO,e0,e1,h0,iV,h1,h2,gu,h3,h4,dS]) (by simp[D.scalar]) ?_;refine aa _ ?_;clear aa K2;simp only[aD,cz];(repeat (refine sxn fun K2 aa=>?_;simp[br,aY,bl,cj,aO,e0,e1,h0,iV,h1,h2,gu,h3,h4,dS];(repeat (refine⟨by omega,?_⟩));refine aa _ ?_;clear aa K2));refine sxz (ae _ (AW.st (by simp[br,aY,bl,cj,aO,e0,e1,h0,iV,h1,h2,gu,h3,h4,dS];rfl) ?_));clear ae K';refine ab1 ?_;simp[D.le,D.le.go,aC];simp[gd,h1,gu,hg,e0,h3',zk,h5]
    .have h5':¬ (Lib.trimS l lW == [])=true:=by simpa using h5
     refine rg [2] [] (fun _ _=>trivial) fun K' ae=>?_;(repeat (refine sxn fun K2 aa=>?_;simp[br,aY,bl,cj,aO,e0,e1,h0,iV,h1,h2,gu,h3,h4,h5,dS];(repeat (refine⟨by omega,?_⟩));refine aa _ ?_;clear aa K2));refine sxn fun K2 aa=>?_;simp[br,aY,bl,cj,aO,e0,e1,h0,iV,h1,h2,gu,h3,h4,h5,dS];refine ab8.data (Ea) (by simp;rfl) (by first | exact D.abY _ | simp[aC,abU,abK,D.le,D.le.go,D.le_refl,D.abY,br,aY,bl,cj,aO,e0,e1,h0,iV,h1,h2,gu,h3,h4,h5,dS]) ?_;refine aa _ ?_;clear aa K2;simp only[aD,cz];(repeat (refine sxn fun K2 aa=>?_;simp[br,aY,bl,cj,aO,e0,e1,h0,iV,h1,h2,gu,h3,h4,h5,dS];(repeat (refine⟨by omega,?_⟩));refine aa _ ?_;clear aa K2));refine sxz (ae _ (AW.st (by simp[br,aY,bl,cj,aO,e0,e1,h0,iV,h1,h2,gu,h3,h4,h5,dS];rfl) ?_));clear ae K';refine ab1 ?_;simp[D.le,D.le.go,aC];simp[gd,h1,gu,hg,e0,h3',zk,h5]
   .have zk:¬ a.toNat<=122:=by omega
    refine rg [2] [] (fun _ _=>trivial) fun K' ae=>?_;(repeat (refine sxn fun K2 aa=>?_;simp[br,aY,bl,cj,aO,e0,e1,h0,iV,h1,h2,gu,h3,h4];(repeat (refine⟨by omega,?_⟩));refine aa _ ?_;clear aa K2));refine sxz (ae _ (AW.st (by simp[br,aY,bl,cj,aO,e0,e1,h0,iV,h1,h2,gu,h3,h4];rfl) ?_));clear ae K';refine ab1 ?_;simp[D.le,D.le.go,aC];simp[gd,h1,gu,hg,e0,h3',zk]
  .have h3':¬ 97<=a.toNat:=by omega
   refine rg [2] [] (fun _ _=>trivial) fun K' ae=>?_;(repeat (refine sxn fun K2 aa=>?_;simp[br,aY,bl,cj,aO,e0,e1,h0,iV,h1,h2,gu,h3];(repeat (refine⟨by omega,?_⟩));refine aa _ ?_;clear aa K2));refine sxz (ae _ (AW.st (by simp[br,aY,bl,cj,aO,e0,e1,h0,iV,h1,h2,gu,h3];rfl) ?_));clear ae K';refine ab1 ?_;simp[D.le,D.le.go,aC];simp[gd,h1,gu,hg,e0,h3']
 .have gu:¬ l.length<=8:=by omega
  refine rg [2] [] (fun _ _=>trivial) fun K' ae=>?_;(repeat (refine sxn fun K2 aa=>?_;simp[br,aY,bl,cj,aO,e0,e1,h0,iV,h1,h2,gu];(repeat (refine⟨by omega,?_⟩));refine aa _ ?_;clear aa K2));refine sxz (ae _ (AW.st (by simp[br,aY,bl,cj,aO,e0,e1,h0,iV,h1,h2,gu];rfl) ?_));clear ae K';refine ab1 ?_;simp[D.le,D.le.go,aC];simp[gd,h1,gu]
theorem afi:type_of% @dS.eq_1:=@dS.eq_1
