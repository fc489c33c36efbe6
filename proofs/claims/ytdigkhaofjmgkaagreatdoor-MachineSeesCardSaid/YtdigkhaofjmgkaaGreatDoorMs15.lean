/- Parts. -/
import Derived.Test.YtdigkhaofjmgkaaGreatDoorMs11
import Derived.Test.YtdigkhaofjmgkaaGreatDoorMs12
import Derived.Test.YtdigkhaofjmgkaaGreatDoorMs13
import Derived.Test.YtdigkhaofjmgkaaGreatDoorMs14
import Derived.Laws.Strings
set_option linter.unusedSimpArgs false
set_option linter.unusedVariables false
set_option maxHeartbeats 4000000
open Go.Proofs.Tryz
namespace Go.Proofs.YtdigkhaofjmgkaaGreatDoor
open Go.Av
open Go.RowKit Go.Shelf Go.Lib
def bs (l:List UInt8):ByteArray:=⟨l.toArray⟩
def dS (l:List UInt8):D:=.v (.string (bs l))
theorem aZ (l:List UInt8):(bs l).toList=l:=by rw[ByteArray.toList_eq];rfl
theorem ch (l:List UInt8):(bs l).data.toList=l:=rfl
theorem bl (l:List UInt8):(bs l).size=l.length:=rfl
theorem br:(⟨#[]⟩:ByteArray)=bs []:=rfl
theorem ad6 {w w':World} (h:Below w.heap.size w w'):bY w w':=⟨h.size,h.os,h.tape,h.output,h.block⟩
theorem X6 (G:ao) (l:List UInt8) (hl:l.length < 2^60):ar prog G 121 [dS l,dS lI] (dS (Lib.trimS l lI)):=by
 refine ar.nr (e7.of func121 rfl rfl) fun X w vs aK bC cq=>?_
 obtain⟨a,b,rfl⟩:∃ a b,vs = #[a,b]:=by
  match vs,aK with
  | ⟨[a,b]⟩,_=>exact⟨a,b,rfl⟩
 have ha:=(bC 0 a _ rfl rfl).scalar;have hb:=(bC 1 b _ rfl rfl).scalar;subst ha hb;have fC:=Any.strings_Trim_laid Tryz.Dy (by kernel_rfl) (bs l) (bs lI) w (by rw[bl];omega) (by decide) (ascii_of_all (by decide))
 change Calls prog 121 _ _ (fun e w'=>e = .returned (.string (bs (Lib.trimS l lI)))/\Below w.heap.size w w')at fC
 exact fC.mono fun e w' ⟨he,hB⟩=>⟨_,he,ad6 hB,.v _⟩
theorem index_spec (G:ao) (k:Option Bool) (ws:List (List UInt8)) (s:List UInt8) (hl:ws.length < 2^60):ar prog G 138 [.sl k (ws.map fun x=>[dS x]),dS s] (.v (.int .i64 (idx (fun x=>s == x) ws))):=by
 refine ar.aC (aay _) func138 rfl rfl (rs:=[.tmp 4]) results138 (by simp[ntmps138]) fun X=>?_;simp only[ntmps138,List.map];refine aq [0,1] [] ?_;refine ae fun K1 au=>?_;refine aq [0,1,7,8] [] ?_;refine bZ (S:=Nat) (fun n=>n<=ws.length/\∀ i (hi:i < ws.length),i < n->(s == ws[i])=false) (fun n=>⟨lst [(0,.d (.sl k (ws.map fun x=>[dS x]))),(1,.d (dS s)),(7,int ws.length),(8,int n)],ak []⟩) (fun n=>ws.length - n) 0 ?_ (by simp) ?_
 .refine aa2
 .rintro n ⟨hn,hp⟩;refine aq [0,1,7,8,9] [] ?_;refine ae fun K2 aa=>?_;refine dw (b:=n < ws.length) (by simp[D.le,D.le.go,aaA]) (fun hc=>?_) (fun hc=>?_)
  .refine ah (aa _ ?_);refine ae fun K3 aH=>?_;refine aU ?_;refine aq [0,1,5,7,8] [] ?_;by_cases he:s=ws[n]
   .refine rg [0,1,5,7,8,16] [] (fun _ _=>trivial) fun K' af=>?_;(repeat (refine sxn fun K2 aa=>?_;simp[hc,dS,aZ,he,aS];(repeat (refine⟨by omega,?_⟩));refine aa _ ?_;clear aa K2));refine sxz (af _ (AW.st (by simp[hc,dS,aZ,he,aS];rfl) ?_));clear af K';refine aax rfl ?_;refine aq [4] [] ?_;refine bn ?_;simp[D.le,D.le.go,aaA];exact (sk (p:=fun x=>s == x) hc (by simp[he]) fun i hi=>hp i (by omega) hi).symm
   .have gV:(s == ws[n])=false:=by simpa using he
    refine rg [0,1,5,7,8,16] [] (fun _ _=>trivial) fun K' af=>?_;(repeat (refine sxn fun K2 aa=>?_;simp[hc,dS,aZ,he,gV,aS];(repeat (refine⟨by omega,?_⟩));refine aa _ ?_;clear aa K2));refine sxz (af _ (AW.st (by simp[hc,dS,aZ,he,gV,aS];rfl) ?_));clear af K';refine ag rfl ?_;refine ah (aH _ ?_);refine cG ?_;(try simp only[aM,aP]);refine aV.mk (n+1) ⟨by omega,fun i hi aF=>?_⟩ (by omega) ?_
    .by_cases h:i=n
     .subst h;simpa using he
     .exact hp i hi (by omega)
    refine aX @dS.eq_1
  .refine bG (au _ ?_);refine aq [4] [] ?_;refine bn ?_;simp[D.le,D.le.go,aaA];exact (aem (p:=fun x=>s == x) fun i hi=>hp i hi (by omega)).symm
theorem Ny (G:ao) (k:Option Bool) (ws:List (List UInt8)) (s:List UInt8) (hl:ws.length < 2^60):ar prog G 180 [.sl k (ws.map fun x=>[dS x]),dS s] (.v (.bool (ws.any fun x=>s == x))):=by
 refine ar.aC (aay _) func180 rfl rfl (rs:=[.tmp 4]) results180 (by simp[ntmps180]) fun X=>?_;simp only[ntmps180,List.map];refine aq [0,1] [] ?_;refine aR trivial (index_spec G k ws s hl) [4] [] ?_;refine bn ?_;simp[D.le,D.le.go,aaA];exact Dh (fun x=>s == x) ws
theorem Jh (G:ao) (l:List UInt8) (hl:l.length < 2^60):ar prog G 125 [dS l] (.v (.bool (gb l))):=by
 have Da:=X6 G l hl;have rC:=Ny G none ji l (by decide);refine ar.aC (aay _) func125 rfl rfl (rs:=[.tmp 2]) results125 (by simp[ntmps125]) fun X=>?_;simp only[ntmps125,List.map];refine rgq @dS.eq_1 [0] [] ?_;by_cases h1:l=[]
 .subst h1;refine rg [2] [] (fun _ _=>trivial) fun K' af=>?_;(repeat (refine sxn fun K2 aa=>?_;simp[br,aZ,aS];(repeat (refine⟨by omega,?_⟩));refine aa _ ?_;clear aa K2));refine sxz (af _ (AW.st (by simp[br,aZ,aS];rfl) ?_));clear af K';refine bn ?_;simp[D.le,D.le.go,aaA];simp[gb]
 obtain⟨a,l',oP⟩:∃ a l',l=a :: l':=by
  cases l with
  | nil=>exact absurd rfl h1
  | cons a l'=>exact⟨a,l',rfl⟩
 have e0:l[0]? = some a:=by rw[oP];rfl
 have e1:l.head? = some a:=by rw[oP];rfl
 have h0:0 < l.length:=by rw[oP];simp
 have hg:l.getD 0 0=a:=by rw[oP];rfl
 have iQ:l[0]=a:=by apply Option.some.inj;rw[<- e0];exact (List.getElem?_eq_getElem h0).symm
 by_cases h2:(l.length:Int)<=8
 .have gr:l.length<=8:=by omega
  by_cases h3:(97:Int)<=(a.toNat:Int)
  .have vB:97<=a.toNat:=by omega
   by_cases h4:(a.toNat:Int)<=122
   .have yx:a.toNat<=122:=by omega
    by_cases h5:Lib.trimS l lI=[]
    .rw[h5]at Da;refine rg [2] [26] (fun _ _=>trivial) fun K' af=>?_;(repeat (refine sxn fun K2 aa=>?_;simp[br,aZ,bl,ch,aS,e0,e1,h0,iQ,h1,h2,gr,h3,h4,dS];(repeat (refine⟨by omega,?_⟩));refine aa _ ?_;clear aa K2));refine sxn fun K2 aa=>?_;simp[br,aZ,bl,ch,aS,e0,e1,h0,iQ,h1,h2,gr,h3,h4,dS];refine aaT.data (Da) (by simp;rfl) (by first | exact D.aaE _ | simp[aaA,List.map_map,Function.comp_def,D.le,D.le.go,D.le_refl,D.aaE,br,aZ,bl,ch,aS,e0,e1,h0,iQ,h1,h2,gr,h3,h4,dS]) ?_;refine aa _ ?_;clear aa K2;simp only[aD,cu];(repeat (refine sxn fun K2 aa=>?_;simp[br,aZ,bl,ch,aS,e0,e1,h0,iQ,h1,h2,gr,h3,h4,dS];(repeat (refine⟨by omega,?_⟩));refine aa _ ?_;clear aa K2));refine sxn fun K2 aa=>?_;simp[br,aZ,bl,ch,aS,e0,e1,h0,iQ,h1,h2,gr,h3,h4,dS];refine aaT.mw (rC) (by simp;rfl) (by first | exact D.aaE _ | simp[aaA,List.map_map,Function.comp_def,D.le,D.le.go,D.le_refl,D.aaE,br,aZ,bl,ch,aS,e0,e1,h0,iQ,h1,h2,gr,h3,h4,dS]) (by simp[D.scalar]) ?_;refine aa _ ?_;clear aa K2;simp only[aD,cu];(repeat (refine sxn fun K2 aa=>?_;simp[br,aZ,bl,ch,aS,e0,e1,h0,iQ,h1,h2,gr,h3,h4,dS];(repeat (refine⟨by omega,?_⟩));refine aa _ ?_;clear aa K2));refine sxz (af _ (AW.st (by simp[br,aZ,bl,ch,aS,e0,e1,h0,iQ,h1,h2,gr,h3,h4,dS];rfl) ?_));clear af K';refine bn ?_;simp[D.le,D.le.go,aaA];simp[gb,h1,gr,hg,e0,vB,yx,h5]
    .have YW:¬ (Lib.trimS l lI == [])=true:=by simpa using h5
     refine rg [2] [] (fun _ _=>trivial) fun K' af=>?_;(repeat (refine sxn fun K2 aa=>?_;simp[br,aZ,bl,ch,aS,e0,e1,h0,iQ,h1,h2,gr,h3,h4,h5,dS];(repeat (refine⟨by omega,?_⟩));refine aa _ ?_;clear aa K2));refine sxn fun K2 aa=>?_;simp[br,aZ,bl,ch,aS,e0,e1,h0,iQ,h1,h2,gr,h3,h4,h5,dS];refine aaT.data (Da) (by simp;rfl) (by first | exact D.aaE _ | simp[aaA,List.map_map,Function.comp_def,D.le,D.le.go,D.le_refl,D.aaE,br,aZ,bl,ch,aS,e0,e1,h0,iQ,h1,h2,gr,h3,h4,h5,dS]) ?_;refine aa _ ?_;clear aa K2;simp only[aD,cu];(repeat (refine sxn fun K2 aa=>?_;simp[br,aZ,bl,ch,aS,e0,e1,h0,iQ,h1,h2,gr,h3,h4,h5,dS];(repeat (refine⟨by omega,?_⟩));refine aa _ ?_;clear aa K2));refine sxz (af _ (AW.st (by simp[br,aZ,bl,ch,aS,e0,e1,h0,iQ,h1,h2,gr,h3,h4,h5,dS];rfl) ?_));clear af K';refine bn ?_;simp[D.le,D.le.go,aaA];simp[gb,h1,gr,hg,e0,vB,yx,h5]
   .have yx:¬ a.toNat<=122:=by omega
    refine rg [2] [] (fun _ _=>trivial) fun K' af=>?_;(repeat (refine sxn fun K2 aa=>?_;simp[br,aZ,bl,ch,aS,e0,e1,h0,iQ,h1,h2,gr,h3,h4];(repeat (refine⟨by omega,?_⟩));refine aa _ ?_;clear aa K2));refine sxz (af _ (AW.st (by simp[br,aZ,bl,ch,aS,e0,e1,h0,iQ,h1,h2,gr,h3,h4];rfl) ?_));clear af K';refine bn ?_;simp[D.le,D.le.go,aaA];simp[gb,h1,gr,hg,e0,vB,yx]
  .have vB:¬ 97<=a.toNat:=by omega
   refine rg [2] [] (fun _ _=>trivial) fun K' af=>?_;(repeat (refine sxn fun K2 aa=>?_;simp[br,aZ,bl,ch,aS,e0,e1,h0,iQ,h1,h2,gr,h3];(repeat (refine⟨by omega,?_⟩));refine aa _ ?_;clear aa K2));refine sxz (af _ (AW.st (by simp[br,aZ,bl,ch,aS,e0,e1,h0,iQ,h1,h2,gr,h3];rfl) ?_));clear af K';refine bn ?_;simp[D.le,D.le.go,aaA];simp[gb,h1,gr,hg,e0,vB]
 .have gr:¬ l.length<=8:=by omega
  refine rg [2] [] (fun _ _=>trivial) fun K' af=>?_;(repeat (refine sxn fun K2 aa=>?_;simp[br,aZ,bl,ch,aS,e0,e1,h0,iQ,h1,h2,gr];(repeat (refine⟨by omega,?_⟩));refine aa _ ?_;clear aa K2));refine sxz (af _ (AW.st (by simp[br,aZ,bl,ch,aS,e0,e1,h0,iQ,h1,h2,gr];rfl) ?_));clear af K';refine bn ?_;simp[D.le,D.le.go,aaA];simp[gb,h1,gr]
