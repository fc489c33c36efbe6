/- Parts. -/
import Derived.Test.YtdigkhaofjmgkaaGreatDoorPs11
import Derived.Test.YtdigkhaofjmgkaaGreatDoorPs12
import Derived.Test.YtdigkhaofjmgkaaGreatDoorPs13
import Derived.Test.YtdigkhaofjmgkaaGreatDoorPs14
import Derived.Laws.Strings
set_option linter.unusedSimpArgs false
set_option linter.unusedVariables false
set_option maxHeartbeats 4000000
open Go.Proofs.Tryz
namespace Go.Proofs.YtdigkhaofjmgkaaGreatDoor
open Go.Av
open Go.RowKit Go.Shelf Go.Lib
def bs (l:List UInt8):ByteArray:=⟨l.toArray⟩
def dS (l:List UInt8):D:=.v (.string (bs l))
theorem YJ (l:List UInt8):(bs l).toList=l:=by rw[ByteArray.toList_eq];rfl
theorem de (l:List UInt8):(bs l).data.toList=l:=rfl
theorem bF (l:List UInt8):(bs l).size=l.length:=rfl
theorem dA:(⟨#[]⟩:ByteArray)=bs []:=rfl
theorem sd {w w':World} (h:Below w.heap.size w w'):bQ w w':=⟨h.size,h.os,h.tape,h.output,h.block⟩
theorem Wl (G:Yt) (l:List UInt8) (hl:l.length < 2^60):ao prog G 121 [dS l,dS ll] (dS (Lib.trimS l ll)):=by
 refine ao.rD (fm.of func121 rfl rfl) fun X w vs aK bq ck=>?_
 obtain⟨a,b,rfl⟩:∃ a b,vs = #[a,b]:=by
  match vs,aK with
  | ⟨[a,b]⟩,_=>exact⟨a,b,rfl⟩
 have ha:=(bq 0 a _ rfl rfl).scalar;have hb:=(bq 1 b _ rfl rfl).scalar;subst ha hb;have kb:=Any.strings_Trim_laid Tryz.BG (by kernel_rfl) (bs l) (bs ll) w (by rw[bF];omega) (by decide) (ascii_of_all (by decide))
 change Calls prog 121 _ _ (fun e w'=>e = .returned (.string (bs (Lib.trimS l ll)))/\Below w.heap.size w w')at kb
 exact kb.mono fun e w' ⟨he,hB⟩=>⟨_,he,sd hB,.v _⟩
theorem index_spec (G:Yt) (k:Option Bool) (ws:List (List UInt8)) (s:List UInt8) (hl:ws.length < 2^60):ao prog G 138 [.sl k (ws.map fun x=>[dS x]),dS s] (.v (.int .i64 (idx (fun x=>s == x) ws))):=by
 refine ao.aI (au _) func138 rfl rfl (rs:=[.tmp 4]) results138 (by simp[ntmps138]) fun X=>?_;simp only[ntmps138,List.map];refine al [0,1] [] ?_;refine ae fun K1 Yw=>?_;refine al [0,1,7,8] [] ?_;refine cr (S:=Nat) (fun n=>n<=ws.length/\∀ i (hi:i < ws.length),i < n->(s == ws[i])=false) (fun n=>⟨YB [(0,.d (.sl k (ws.map fun x=>[dS x]))),(1,.d (dS s)),(7,int ws.length),(8,int n)],ah []⟩) (fun n=>ws.length - n) 0 ?_ (by simp) ?_
 .refine eg
 .rintro n ⟨hn,hp⟩;refine al [0,1,7,8,9] [] ?_;refine ae fun K2 aa=>?_;refine eM (b:=n < ws.length) (by simp[D.le,D.le.go,aQ]) (fun hc=>?_) (fun hc=>?_)
  .refine ar (aa _ ?_);refine ae fun K3 bf=>?_;refine YF ?_;refine al [0,1,5,7,8] [] ?_;by_cases he:s=ws[n]
   .refine rg [0,1,5,7,8,16] [] (fun _ _=>trivial) fun K' Yu=>?_;(repeat (refine aP fun K2 aa=>?_;simp[hc,dS,YJ,he,bI];(repeat (refine⟨by omega,?_⟩));refine aa _ ?_;clear aa K2));refine YM (Yu _ (AW.st (by simp[hc,dS,YJ,he,bI];rfl) ?_));clear Yu K';refine Yx rfl ?_;refine al [4] [] ?_;refine b6 ?_;simp[D.le,D.le.go,aQ];exact (oI (p:=fun x=>s == x) hc (by simp[he]) fun i hi=>hp i (by omega) hi).symm
   .have Z7:(s == ws[n])=false:=by simpa using he
    refine rg [0,1,5,7,8,16] [] (fun _ _=>trivial) fun K' Yu=>?_;(repeat (refine aP fun K2 aa=>?_;simp[hc,dS,YJ,he,Z7,bI];(repeat (refine⟨by omega,?_⟩));refine aa _ ?_;clear aa K2));refine YM (Yu _ (AW.st (by simp[hc,dS,YJ,he,Z7,bI];rfl) ?_));clear Yu K';refine ag rfl ?_;refine ar (bf _ ?_);refine fk ?_;(try simp only[YC,bd]);refine bo.mk (n+1) ⟨by omega,fun i hi ax=>?_⟩ (by omega) ?_
    .by_cases h:i=n
     .subst h;simpa using he
     .exact hp i hi (by omega)
    refine bz @dS.eq_1
  .refine bY (Yw _ ?_);refine al [4] [] ?_;refine b6 ?_;simp[D.le,D.le.go,aQ];exact (oJ (p:=fun x=>s == x) fun i hi=>hp i hi (by omega)).symm
theorem LC (G:Yt) (k:Option Bool) (ws:List (List UInt8)) (s:List UInt8) (hl:ws.length < 2^60):ao prog G 180 [.sl k (ws.map fun x=>[dS x]),dS s] (.v (.bool (ws.any fun x=>s == x))):=by
 refine ao.aI (au _) func180 rfl rfl (rs:=[.tmp 4]) results180 (by simp[ntmps180]) fun X=>?_;simp only[ntmps180,List.map];refine al [0,1] [] ?_;refine aW trivial (index_spec G k ws s hl) [4] [] ?_;refine b6 ?_;simp[D.le,D.le.go,aQ];exact acE (fun x=>s == x) ws
theorem Hr (G:Yt) (l:List UInt8) (hl:l.length < 2^60):ao prog G 125 [dS l] (.v (.bool (eS l))):=by
 have Bi:=Wl G l hl;have Og:=LC G none JI l (by decide);refine ao.aI (au _) func125 rfl rfl (rs:=[.tmp 2]) results125 (by simp[ntmps125]) fun X=>?_;simp only[ntmps125,List.map];refine Ys @dS.eq_1 [0] [] ?_;by_cases h1:l=[]
 .subst h1;refine rg [2] [] (fun _ _=>trivial) fun K' Yu=>?_;(repeat (refine aP fun K2 aa=>?_;simp[dA,YJ,bI];(repeat (refine⟨by omega,?_⟩));refine aa _ ?_;clear aa K2));refine YM (Yu _ (AW.st (by simp[dA,YJ,bI];rfl) ?_));clear Yu K';refine b6 ?_;simp[D.le,D.le.go,aQ];simp[eS]
 obtain⟨a,l',hal⟩:∃ a l',l=a :: l':=by
  cases l with
  | nil=>exact absurd rfl h1
  | cons a l'=>exact⟨a,l',rfl⟩
 have e0:l[0]? = some a:=by rw[hal];rfl
 have e1:l.head? = some a:=by rw[hal];rfl
 have h0:0 < l.length:=by rw[hal];simp
 have hg:l.getD 0 0=a:=by rw[hal];rfl
 have ZS:l[0]=a:=by apply Option.some.inj;rw[<- e0];exact (List.getElem?_eq_getElem h0).symm
 by_cases h2:(l.length:Int)<=8
 .have Zw:l.length<=8:=by omega
  by_cases h3:(97:Int)<=(a.toNat:Int)
  .have j6:97<=a.toNat:=by omega
   by_cases h4:(a.toNat:Int)<=122
   .have jz:a.toNat<=122:=by omega
    by_cases h5:Lib.trimS l ll=[]
    .rw[h5]at Bi;refine rg [2] [26] (fun _ _=>trivial) fun K' Yu=>?_;(repeat (refine aP fun K2 aa=>?_;simp[dA,YJ,bF,de,bI,e0,e1,h0,ZS,h1,h2,Zw,h3,h4,dS];(repeat (refine⟨by omega,?_⟩));refine aa _ ?_;clear aa K2));refine aP fun K2 aa=>?_;simp[dA,YJ,bF,de,bI,e0,e1,h0,ZS,h1,h2,Zw,h3,h4,dS];refine YR.data (Bi) (by simp;rfl) (by first | exact D.YG _ | simp[aQ,List.map_map,Function.comp_def,D.le,D.le.go,D.le_refl,D.YG,dA,YJ,bF,de,bI,e0,e1,h0,ZS,h1,h2,Zw,h3,h4,dS]) ?_;refine aa _ ?_;clear aa K2;simp only[aw,cJ];(repeat (refine aP fun K2 aa=>?_;simp[dA,YJ,bF,de,bI,e0,e1,h0,ZS,h1,h2,Zw,h3,h4,dS];(repeat (refine⟨by omega,?_⟩));refine aa _ ?_;clear aa K2));refine aP fun K2 aa=>?_;simp[dA,YJ,bF,de,bI,e0,e1,h0,ZS,h1,h2,Zw,h3,h4,dS];refine YR.kX (Og) (by simp;rfl) (by first | exact D.YG _ | simp[aQ,List.map_map,Function.comp_def,D.le,D.le.go,D.le_refl,D.YG,dA,YJ,bF,de,bI,e0,e1,h0,ZS,h1,h2,Zw,h3,h4,dS]) (by simp[D.scalar]) ?_;refine aa _ ?_;clear aa K2;simp only[aw,cJ];(repeat (refine aP fun K2 aa=>?_;simp[dA,YJ,bF,de,bI,e0,e1,h0,ZS,h1,h2,Zw,h3,h4,dS];(repeat (refine⟨by omega,?_⟩));refine aa _ ?_;clear aa K2));refine YM (Yu _ (AW.st (by simp[dA,YJ,bF,de,bI,e0,e1,h0,ZS,h1,h2,Zw,h3,h4,dS];rfl) ?_));clear Yu K';refine b6 ?_;simp[D.le,D.le.go,aQ];simp[eS,h1,Zw,hg,e0,j6,jz,h5]
    .have W4:¬ (Lib.trimS l ll == [])=true:=by simpa using h5
     refine rg [2] [] (fun _ _=>trivial) fun K' Yu=>?_;(repeat (refine aP fun K2 aa=>?_;simp[dA,YJ,bF,de,bI,e0,e1,h0,ZS,h1,h2,Zw,h3,h4,h5,dS];(repeat (refine⟨by omega,?_⟩));refine aa _ ?_;clear aa K2));refine aP fun K2 aa=>?_;simp[dA,YJ,bF,de,bI,e0,e1,h0,ZS,h1,h2,Zw,h3,h4,h5,dS];refine YR.data (Bi) (by simp;rfl) (by first | exact D.YG _ | simp[aQ,List.map_map,Function.comp_def,D.le,D.le.go,D.le_refl,D.YG,dA,YJ,bF,de,bI,e0,e1,h0,ZS,h1,h2,Zw,h3,h4,h5,dS]) ?_;refine aa _ ?_;clear aa K2;simp only[aw,cJ];(repeat (refine aP fun K2 aa=>?_;simp[dA,YJ,bF,de,bI,e0,e1,h0,ZS,h1,h2,Zw,h3,h4,h5,dS];(repeat (refine⟨by omega,?_⟩));refine aa _ ?_;clear aa K2));refine YM (Yu _ (AW.st (by simp[dA,YJ,bF,de,bI,e0,e1,h0,ZS,h1,h2,Zw,h3,h4,h5,dS];rfl) ?_));clear Yu K';refine b6 ?_;simp[D.le,D.le.go,aQ];simp[eS,h1,Zw,hg,e0,j6,jz,h5]
   .have jz:¬ a.toNat<=122:=by omega
    refine rg [2] [] (fun _ _=>trivial) fun K' Yu=>?_;(repeat (refine aP fun K2 aa=>?_;simp[dA,YJ,bF,de,bI,e0,e1,h0,ZS,h1,h2,Zw,h3,h4];(repeat (refine⟨by omega,?_⟩));refine aa _ ?_;clear aa K2));refine YM (Yu _ (AW.st (by simp[dA,YJ,bF,de,bI,e0,e1,h0,ZS,h1,h2,Zw,h3,h4];rfl) ?_));clear Yu K';refine b6 ?_;simp[D.le,D.le.go,aQ];simp[eS,h1,Zw,hg,e0,j6,jz]
  .have j6:¬ 97<=a.toNat:=by omega
   refine rg [2] [] (fun _ _=>trivial) fun K' Yu=>?_;(repeat (refine aP fun K2 aa=>?_;simp[dA,YJ,bF,de,bI,e0,e1,h0,ZS,h1,h2,Zw,h3];(repeat (refine⟨by omega,?_⟩));refine aa _ ?_;clear aa K2));refine YM (Yu _ (AW.st (by simp[dA,YJ,bF,de,bI,e0,e1,h0,ZS,h1,h2,Zw,h3];rfl) ?_));clear Yu K';refine b6 ?_;simp[D.le,D.le.go,aQ];simp[eS,h1,Zw,hg,e0,j6]
 .have Zw:¬ l.length<=8:=by omega
  refine rg [2] [] (fun _ _=>trivial) fun K' Yu=>?_;(repeat (refine aP fun K2 aa=>?_;simp[dA,YJ,bF,de,bI,e0,e1,h0,ZS,h1,h2,Zw];(repeat (refine⟨by omega,?_⟩));refine aa _ ?_;clear aa K2));refine YM (Yu _ (AW.st (by simp[dA,YJ,bF,de,bI,e0,e1,h0,ZS,h1,h2,Zw];rfl) ?_));clear Yu K';refine b6 ?_;simp[D.le,D.le.go,aQ];simp[eS,h1,Zw]
