/- Parts. -/
import Derived.Test.YtdigkhaofjmgkaaGreatDoorIs11
import Derived.Test.YtdigkhaofjmgkaaGreatDoorIs12
import Derived.Test.YtdigkhaofjmgkaaGreatDoorIs13
import Derived.Test.YtdigkhaofjmgkaaGreatDoorIs14
import Derived.Laws.Strings
set_option linter.unusedSimpArgs false
set_option linter.unusedVariables false
set_option maxHeartbeats 4000000
open Go.Proofs.Tryz
namespace Go.Proofs.YtdigkhaofjmgkaaGreatDoor
open Go.Av
open Go.RowKit Go.Shelf Go.Lib
def bs (l:List UInt8):ByteArray:=⟨l.toArray⟩
def dS (l:List UInt8):D:=.v (.string (bs l))
theorem bL (l:List UInt8):(bs l).toList=l:=by rw[ByteArray.toList_eq];rfl
theorem Zo (l:List UInt8):(bs l).data.toList=l:=rfl
theorem bC (l:List UInt8):(bs l).size=l.length:=rfl
theorem Zu:(⟨#[]⟩:ByteArray)=bs []:=rfl
theorem sx {w w':World} (h:Below w.heap.size w w'):bT w w':=⟨h.size,h.os,h.tape,h.output,h.block⟩
theorem WB (G:YI) (l:List UInt8) (hl:l.length < 2^60):aq prog G 121 [dS l,dS ly] (dS (Lib.trimS l ly)):=by
 refine aq.rT (fo.of func121 rfl rfl) fun X w vs aK bq Y7=>?_
 obtain⟨a,b,rfl⟩:∃ a b,vs = #[a,b]:=by
  match vs,aK with
  | ⟨[a,b]⟩,_=>exact⟨a,b,rfl⟩
 have ha:=(bq 0 a _ rfl rfl).scalar;have hb:=(bq 1 b _ rfl rfl).scalar;subst ha hb;have aaU:=Any.strings_Trim_laid Tryz.BW (by kernel_rfl) (bs l) (bs ly) w (by rw[bC];omega) (by decide) (ascii_of_all (by decide))
 change Calls prog 121 _ _ (fun e w'=>e = .returned (.string (bs (Lib.trimS l ly)))/\Below w.heap.size w w')at aaU
 exact aaU.mono fun e w' ⟨he,hB⟩=>⟨_,he,sx hB,.v _⟩
theorem index_spec (G:YI) (k:Option Bool) (ws:List (List UInt8)) (s:List UInt8) (hl:ws.length < 2^60):aq prog G 138 [.sl k (ws.map fun x=>[dS x]),dS s] (.v (.int .i64 (idx (fun x=>s == x) ws))):=by
 refine aq.aI (aw _) func138 rfl rfl (rs:=[.tmp 4]) results138 (by simp[ntmps138]) fun X=>?_;simp only[ntmps138,List.map];refine al [0,1] [] ?_;refine ae fun K1 ay=>?_;refine al [0,1,7,8] [] ?_;refine Zb (S:=Nat) (fun n=>n<=ws.length/\∀ i (hi:i < ws.length),i < n->(s == ws[i])=false) (fun n=>⟨aZ [(0,.d (.sl k (ws.map fun x=>[dS x]))),(1,.d (dS s)),(7,int ws.length),(8,int n)],YH []⟩) (fun n=>ws.length - n) 0 ?_ (by simp) ?_
 .refine ZH
 .rintro n ⟨hn,hp⟩;refine al [0,1,7,8,9] [] ?_;refine ae fun K2 aa=>?_;refine eM (b:=n < ws.length) (by simp[D.le,D.le.go,aQ]) (fun hc=>?_) (fun hc=>?_)
  .refine ao (aa _ ?_);refine ae fun K3 YS=>?_;refine YR ?_;refine al [0,1,5,7,8] [] ?_;by_cases he:s=ws[n]
   .refine rg [0,1,5,7,8,16] [] (fun _ _=>trivial) fun K' ah=>?_;(repeat (refine aJ fun K2 aa=>?_;simp[hc,dS,bL,he,bH];(repeat (refine⟨by omega,?_⟩));refine aa _ ?_;clear aa K2));refine YZ (ah _ (AW.st (by simp[hc,dS,bL,he,bH];rfl) ?_));clear ah K';refine YL rfl ?_;refine al [4] [] ?_;refine b7 ?_;simp[D.le,D.le.go,aQ];exact (oV (p:=fun x=>s == x) hc (by simp[he]) fun i hi=>hp i (by omega) hi).symm
   .have he':(s == ws[n])=false:=by simpa using he
    refine rg [0,1,5,7,8,16] [] (fun _ _=>trivial) fun K' ah=>?_;(repeat (refine aJ fun K2 aa=>?_;simp[hc,dS,bL,he,he',bH];(repeat (refine⟨by omega,?_⟩));refine aa _ ?_;clear aa K2));refine YZ (ah _ (AW.st (by simp[hc,dS,bL,he,he',bH];rfl) ?_));clear ah K';refine af rfl ?_;refine ao (YS _ ?_);refine eL ?_;(try simp only[YO,bd]);refine bn.mk (n+1) ⟨by omega,fun i hi ax=>?_⟩ (by omega) ?_
    .by_cases h:i=n
     .subst h;simpa using he
     .exact hp i hi (by omega)
    refine bz @dS.eq_1
  .refine bY (ay _ ?_);refine al [4] [] ?_;refine b7 ?_;simp[D.le,D.le.go,aQ];exact (oW (p:=fun x=>s == x) fun i hi=>hp i hi (by omega)).symm
theorem L5 (G:YI) (k:Option Bool) (ws:List (List UInt8)) (s:List UInt8) (hl:ws.length < 2^60):aq prog G 180 [.sl k (ws.map fun x=>[dS x]),dS s] (.v (.bool (ws.any fun x=>s == x))):=by
 refine aq.aI (aw _) func180 rfl rfl (rs:=[.tmp 4]) results180 (by simp[ntmps180]) fun X=>?_;simp only[ntmps180,List.map];refine al [0,1] [] ?_;refine aP trivial (index_spec G k ws s hl) [4] [] ?_;refine b7 ?_;simp[D.le,D.le.go,aQ];exact ui (fun x=>s == x) ws
theorem HP (G:YI) (l:List UInt8) (hl:l.length < 2^60):aq prog G 125 [dS l] (.v (.bool (eR l))):=by
 have Bx:=WB G l hl;have OI:=L5 G none J2 l (by decide);refine aq.aI (aw _) func125 rfl rfl (rs:=[.tmp 2]) results125 (by simp[ntmps125]) fun X=>?_;simp only[ntmps125,List.map];refine ab @dS.eq_1 [0] [] ?_;by_cases h1:l=[]
 .subst h1;refine rg [2] [] (fun _ _=>trivial) fun K' ah=>?_;(repeat (refine aJ fun K2 aa=>?_;simp[Zu,bL,bH];(repeat (refine⟨by omega,?_⟩));refine aa _ ?_;clear aa K2));refine YZ (ah _ (AW.st (by simp[Zu,bL,bH];rfl) ?_));clear ah K';refine b7 ?_;simp[D.le,D.le.go,aQ];simp[eR]
 obtain⟨a,l',hal⟩:∃ a l',l=a :: l':=by
  cases l with
  | nil=>exact absurd rfl h1
  | cons a l'=>exact⟨a,l',rfl⟩
 have e0:l[0]? = some a:=by rw[hal];rfl
 have e1:l.head? = some a:=by rw[hal];rfl
 have h0:0 < l.length:=by rw[hal];simp
 have hg:l.getD 0 0=a:=by rw[hal];rfl
 have gh:l[0]=a:=by apply Option.some.inj;rw[<- e0];exact (List.getElem?_eq_getElem h0).symm
 by_cases h2:(l.length:Int)<=8
 .have eZ:l.length<=8:=by omega
  by_cases h3:(97:Int)<=(a.toNat:Int)
  .have jG:97<=a.toNat:=by omega
   by_cases h4:(a.toNat:Int)<=122
   .have sT:a.toNat<=122:=by omega
    by_cases h5:Lib.trimS l ly=[]
    .rw[h5]at Bx;refine rg [2] [26] (fun _ _=>trivial) fun K' ah=>?_;(repeat (refine aJ fun K2 aa=>?_;simp[Zu,bL,bC,Zo,bH,e0,e1,h0,gh,h1,h2,eZ,h3,h4,dS];(repeat (refine⟨by omega,?_⟩));refine aa _ ?_;clear aa K2));refine aJ fun K2 aa=>?_;simp[Zu,bL,bC,Zo,bH,e0,e1,h0,gh,h1,h2,eZ,h3,h4,dS];refine bU.data (Bx) (by simp;rfl) (by first | exact D.ba _ | simp[aQ,List.map_map,Function.comp_def,D.le,D.le.go,D.le_refl,D.ba,Zu,bL,bC,Zo,bH,e0,e1,h0,gh,h1,h2,eZ,h3,h4,dS]) ?_;refine aa _ ?_;clear aa K2;simp only[au,cw];(repeat (refine aJ fun K2 aa=>?_;simp[Zu,bL,bC,Zo,bH,e0,e1,h0,gh,h1,h2,eZ,h3,h4,dS];(repeat (refine⟨by omega,?_⟩));refine aa _ ?_;clear aa K2));refine aJ fun K2 aa=>?_;simp[Zu,bL,bC,Zo,bH,e0,e1,h0,gh,h1,h2,eZ,h3,h4,dS];refine bU.aa3 (OI) (by simp;rfl) (by first | exact D.ba _ | simp[aQ,List.map_map,Function.comp_def,D.le,D.le.go,D.le_refl,D.ba,Zu,bL,bC,Zo,bH,e0,e1,h0,gh,h1,h2,eZ,h3,h4,dS]) (by simp[D.scalar]) ?_;refine aa _ ?_;clear aa K2;simp only[au,cw];(repeat (refine aJ fun K2 aa=>?_;simp[Zu,bL,bC,Zo,bH,e0,e1,h0,gh,h1,h2,eZ,h3,h4,dS];(repeat (refine⟨by omega,?_⟩));refine aa _ ?_;clear aa K2));refine YZ (ah _ (AW.st (by simp[Zu,bL,bC,Zo,bH,e0,e1,h0,gh,h1,h2,eZ,h3,h4,dS];rfl) ?_));clear ah K';refine b7 ?_;simp[D.le,D.le.go,aQ];simp[eR,h1,eZ,hg,e0,jG,sT,h5]
    .have Xi:¬ (Lib.trimS l ly == [])=true:=by simpa using h5
     refine rg [2] [] (fun _ _=>trivial) fun K' ah=>?_;(repeat (refine aJ fun K2 aa=>?_;simp[Zu,bL,bC,Zo,bH,e0,e1,h0,gh,h1,h2,eZ,h3,h4,h5,dS];(repeat (refine⟨by omega,?_⟩));refine aa _ ?_;clear aa K2));refine aJ fun K2 aa=>?_;simp[Zu,bL,bC,Zo,bH,e0,e1,h0,gh,h1,h2,eZ,h3,h4,h5,dS];refine bU.data (Bx) (by simp;rfl) (by first | exact D.ba _ | simp[aQ,List.map_map,Function.comp_def,D.le,D.le.go,D.le_refl,D.ba,Zu,bL,bC,Zo,bH,e0,e1,h0,gh,h1,h2,eZ,h3,h4,h5,dS]) ?_;refine aa _ ?_;clear aa K2;simp only[au,cw];(repeat (refine aJ fun K2 aa=>?_;simp[Zu,bL,bC,Zo,bH,e0,e1,h0,gh,h1,h2,eZ,h3,h4,h5,dS];(repeat (refine⟨by omega,?_⟩));refine aa _ ?_;clear aa K2));refine YZ (ah _ (AW.st (by simp[Zu,bL,bC,Zo,bH,e0,e1,h0,gh,h1,h2,eZ,h3,h4,h5,dS];rfl) ?_));clear ah K';refine b7 ?_;simp[D.le,D.le.go,aQ];simp[eR,h1,eZ,hg,e0,jG,sT,h5]
   .have sT:¬ a.toNat<=122:=by omega
    refine rg [2] [] (fun _ _=>trivial) fun K' ah=>?_;(repeat (refine aJ fun K2 aa=>?_;simp[Zu,bL,bC,Zo,bH,e0,e1,h0,gh,h1,h2,eZ,h3,h4];(repeat (refine⟨by omega,?_⟩));refine aa _ ?_;clear aa K2));refine YZ (ah _ (AW.st (by simp[Zu,bL,bC,Zo,bH,e0,e1,h0,gh,h1,h2,eZ,h3,h4];rfl) ?_));clear ah K';refine b7 ?_;simp[D.le,D.le.go,aQ];simp[eR,h1,eZ,hg,e0,jG,sT]
  .have jG:¬ 97<=a.toNat:=by omega
   refine rg [2] [] (fun _ _=>trivial) fun K' ah=>?_;(repeat (refine aJ fun K2 aa=>?_;simp[Zu,bL,bC,Zo,bH,e0,e1,h0,gh,h1,h2,eZ,h3];(repeat (refine⟨by omega,?_⟩));refine aa _ ?_;clear aa K2));refine YZ (ah _ (AW.st (by simp[Zu,bL,bC,Zo,bH,e0,e1,h0,gh,h1,h2,eZ,h3];rfl) ?_));clear ah K';refine b7 ?_;simp[D.le,D.le.go,aQ];simp[eR,h1,eZ,hg,e0,jG]
 .have eZ:¬ l.length<=8:=by omega
  refine rg [2] [] (fun _ _=>trivial) fun K' ah=>?_;(repeat (refine aJ fun K2 aa=>?_;simp[Zu,bL,bC,Zo,bH,e0,e1,h0,gh,h1,h2,eZ];(repeat (refine⟨by omega,?_⟩));refine aa _ ?_;clear aa K2));refine YZ (ah _ (AW.st (by simp[Zu,bL,bC,Zo,bH,e0,e1,h0,gh,h1,h2,eZ];rfl) ?_));clear ah K';refine b7 ?_;simp[D.le,D.le.go,aQ];simp[eR,h1,eZ]
