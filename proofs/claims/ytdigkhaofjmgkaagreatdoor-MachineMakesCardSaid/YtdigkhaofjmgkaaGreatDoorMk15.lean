/-
  Texts that belong together,in one file: N1.
-/
import Derived.Test.YtdigkhaofjmgkaaGreatDoorMk11
import Derived.Test.YtdigkhaofjmgkaaGreatDoorMk12
import Derived.Test.YtdigkhaofjmgkaaGreatDoorMk13
import Derived.Test.YtdigkhaofjmgkaaGreatDoorMk14
import Derived.Laws.Strings
set_option linter.unusedSimpArgs false
set_option linter.unusedVariables false
namespace Go.Proofs.YtdigkhaofjmgkaaGreatDoor
open Go.Av
open Go.RowKit Go.Shelf Go.Lib
def bs (l:List UInt8):ByteArray:=⟨l.toArray⟩
def dS (l:List UInt8):D:=.v (.string (bs l))
theorem aT (l:List UInt8):(bs l).toList=l:=by rw [ByteArray.toList_eq];rfl
theorem aao (l:List UInt8):(bs l).data.toList=l:=rfl
theorem bh (l:List UInt8):(bs l).size=l.length:=rfl
theorem bo:(⟨#[]⟩:ByteArray)=bs []:=rfl
theorem qq {w w':World} (h:Below w.heap.size w w'):bU w w':=⟨h.size,h.os,h.tape,h.output,h.block⟩
theorem Xs (G:ao) (l:List UInt8) (hl:l.length < 2^60):aw Tryz.prog G 121 [dS l,dS acC] (dS (Lib.trimS l acC)):=by
 refine aw.mM (eU.of Tryz.func121 rfl rfl) fun X w vs aI bz b8=>?_
 obtain ⟨a,b,rfl⟩:∃ a b,vs = #[a,b]:=by
  match vs,aI with
  | ⟨[a,b]⟩,_=>exact ⟨a,b,rfl⟩
 have ha:=(bz 0 a _ rfl rfl).scalar;have hb:=(bz 1 b _ rfl rfl).scalar;subst ha hb;have fj:=Any.strings_Trim_laid Tryz.Dv (by kernel_rfl) (bs l) (bs acC) w (by rw [bh];omega) (by decide) (ascii_of_all (by decide))
 change Calls Tryz.prog 121 _ _ (fun e w'=>e = .returned (.string (bs (Lib.trimS l acC)))/\Below w.heap.size w w') at fj
 exact fj.mono fun e w' ⟨he,hB⟩=>⟨_,he,qq hB,.v _⟩
set_option maxHeartbeats 1000000 in
theorem index_spec (G:ao) (k:Option Bool) (ws:List (List UInt8)) (s:List UInt8) (hl:ws.length < 2^60):aw Tryz.prog G 138 [.sl k (ws.map fun x=>[dS x]),dS s] (.v (.int .i64 (idx (fun x=>s == x) ws))):=by
 refine aw.aD (ZZ _) Tryz.func138 rfl rfl (rs:=[.tmp 4]) Tryz.results138 (by simp [Tryz.ntmps138]) fun X=>?_;simp only [Tryz.ntmps138,List.map];refine aq [0,1] [] ?_;refine ae fun K1 ay=>?_;refine aq [0,1,7,8] [] ?_;refine aam (S:=Nat) (fun n=>n<=ws.length/\∀ i (hi:i < ws.length),i < n->(s == ws[i])=false) (fun n=>⟨aX [(0,.d (.sl k (ws.map fun x=>[dS x]))),(1,.d (dS s)),(7,int ws.length),(8,int n)],ZX []⟩) (fun n=>ws.length - n) 0 ?_ (by simp) ?_
 .refine cw
 .rintro n ⟨hn,hp⟩;refine aq [0,1,7,8,9] [] ?_;refine ae fun K2 aa=>?_;refine dG (b:=n < ws.length) (by simp [D.le,D.le.go,aB]) (fun hc=>?_) (fun hc=>?_)
  .refine ah (aa _ ?_);refine ae fun K3 aQ=>?_;refine aR ?_;refine aq [0,1,5,7,8] [] ?_;by_cases he:s=ws[n]
   .refine rg [0,1,5,7,8,16] [] (fun _ _=>trivial) fun K' af=>?_;(repeat (refine Z0 fun K2 aa=>?_;simp [hc,dS,aT,he,aN];(repeat (refine ⟨by omega,?_⟩));refine aa _ ?_;clear aa K2));refine Z9 (af _ (AW.st (by simp [hc,dS,aT,he,aN];rfl) ?_));clear af K';refine ak rfl ?_;refine aq [4] [] ?_;refine bk ?_;simp [D.le,D.le.go,aB];exact (rB (p:=fun x=>s == x) hc (by simp [he]) fun i hi=>hp i (by omega) hi).symm
   .have gJ:(s == ws[n])=false:=by simpa using he
    refine rg [0,1,5,7,8,16] [] (fun _ _=>trivial) fun K' af=>?_;(repeat (refine Z0 fun K2 aa=>?_;simp [hc,dS,aT,he,gJ,aN];(repeat (refine ⟨by omega,?_⟩));refine aa _ ?_;clear aa K2));refine Z9 (af _ (AW.st (by simp [hc,dS,aT,he,gJ,aN];rfl) ?_));clear af K';refine ag rfl ?_;refine ah (aQ _ ?_);refine cI ?_;(try simp only [aM,aP]);refine aV.mk (n+1) ⟨by omega,fun i hi aC=>?_⟩ (by omega) ?_
    .by_cases h:i=n
     .subst h;simpa using he
     .exact hp i hi (by omega)
    refine aU @dS.eq_1
  .refine bH (ay _ ?_);refine aq [4] [] ?_;refine bk ?_;simp [D.le,D.le.go,aB];exact (rC (p:=fun x=>s == x) fun i hi=>hp i hi (by omega)).symm
theorem M9 (G:ao) (k:Option Bool) (ws:List (List UInt8)) (s:List UInt8) (hl:ws.length < 2^60):aw Tryz.prog G 180 [.sl k (ws.map fun x=>[dS x]),dS s] (.v (.bool (ws.any fun x=>s == x))):=by
 refine aw.aD (ZZ _) Tryz.func180 rfl rfl (rs:=[.tmp 4]) Tryz.results180 (by simp [Tryz.ntmps180]) fun X=>?_;simp only [Tryz.ntmps180,List.map];refine aq [0,1] [] ?_;refine Z6 trivial (index_spec G k ws s hl) [4] [] ?_;refine bk ?_;simp [D.le,D.le.go,aB];exact De (fun x=>s == x) ws
set_option maxHeartbeats 4000000 in
theorem IX (G:ao) (l:List UInt8) (hl:l.length < 2^60):aw Tryz.prog G 125 [dS l] (.v (.bool (fL l))):=by
 have C5:=Xs G l hl;have qQ:=M9 G none iR l (by decide);refine aw.aD (ZZ _) Tryz.func125 rfl rfl (rs:=[.tmp 2]) Tryz.results125 (by simp [Tryz.ntmps125]) fun X=>?_;simp only [Tryz.ntmps125,List.map];refine ZW @dS.eq_1 [0] [] ?_;by_cases h1:l=[]
 .subst h1;refine rg [2] [] (fun _ _=>trivial) fun K' af=>?_;(repeat (refine Z0 fun K2 aa=>?_;simp [bo,aT,aN];(repeat (refine ⟨by omega,?_⟩));refine aa _ ?_;clear aa K2));refine Z9 (af _ (AW.st (by simp [bo,aT,aN];rfl) ?_));clear af K';refine bk ?_;simp [D.le,D.le.go,aB];simp [fL]
 obtain ⟨a,l',om⟩:∃ a l',l=a :: l':=by
  cases l with
  | nil=>exact absurd rfl h1
  | cons a l'=>exact ⟨a,l',rfl⟩
 have e0:l[0]? = some a:=by rw [om];rfl
 have e1:l.head? = some a:=by rw [om];rfl
 have h0:0 < l.length:=by rw [om];simp
 have hg:l.getD 0 0=a:=by rw [om];rfl
 have iA:l[0]=a:=by apply Option.some.inj;rw [<- e0];exact (List.getElem?_eq_getElem h0).symm
 by_cases h2:(l.length:Int)<=8
 .have fW:l.length<=8:=by omega
  by_cases h3:(97:Int)<=(a.toNat:Int)
  .have uV:97<=a.toNat:=by omega
   by_cases h4:(a.toNat:Int)<=122
   .have ya:a.toNat<=122:=by omega
    by_cases h5:Lib.trimS l acC=[]
    .rw [h5] at C5;refine rg [2] [26] (fun _ _=>trivial) fun K' af=>?_;(repeat (refine Z0 fun K2 aa=>?_;simp [bo,aT,bh,aao,aN,e0,e1,h0,iA,h1,h2,fW,h3,h4,dS];(repeat (refine ⟨by omega,?_⟩));refine aa _ ?_;clear aa K2));refine Z0 fun K2 aa=>?_;simp [bo,aT,bh,aao,aN,e0,e1,h0,iA,h1,h2,fW,h3,h4,dS];refine aap.data (C5) (by simp;rfl) (by first | exact D.bn _ | simp [aB,List.map_map,Function.comp_def,D.le,D.le.go,D.le_refl,D.bn,bo,aT,bh,aao,aN,e0,e1,h0,iA,h1,h2,fW,h3,h4,dS]) ?_;refine aa _ ?_;clear aa K2;simp only [Z2,dk];(repeat (refine Z0 fun K2 aa=>?_;simp [bo,aT,bh,aao,aN,e0,e1,h0,iA,h1,h2,fW,h3,h4,dS];(repeat (refine ⟨by omega,?_⟩));refine aa _ ?_;clear aa K2));refine Z0 fun K2 aa=>?_;simp [bo,aT,bh,aao,aN,e0,e1,h0,iA,h1,h2,fW,h3,h4,dS];refine aap.l3 (qQ) (by simp;rfl) (by first | exact D.bn _ | simp [aB,List.map_map,Function.comp_def,D.le,D.le.go,D.le_refl,D.bn,bo,aT,bh,aao,aN,e0,e1,h0,iA,h1,h2,fW,h3,h4,dS]) (by simp [D.scalar]) ?_;refine aa _ ?_;clear aa K2;simp only [Z2,dk];(repeat (refine Z0 fun K2 aa=>?_;simp [bo,aT,bh,aao,aN,e0,e1,h0,iA,h1,h2,fW,h3,h4,dS];(repeat (refine ⟨by omega,?_⟩));refine aa _ ?_;clear aa K2));refine Z9 (af _ (AW.st (by simp [bo,aT,bh,aao,aN,e0,e1,h0,iA,h1,h2,fW,h3,h4,dS];rfl) ?_));clear af K';refine bk ?_;simp [D.le,D.le.go,aB];simp [fL,h1,fW,hg,e0,uV,ya,h5]
    .have Yd:¬ (Lib.trimS l acC == [])=true:=by simpa using h5
     refine rg [2] [] (fun _ _=>trivial) fun K' af=>?_;(repeat (refine Z0 fun K2 aa=>?_;simp [bo,aT,bh,aao,aN,e0,e1,h0,iA,h1,h2,fW,h3,h4,h5,dS];(repeat (refine ⟨by omega,?_⟩));refine aa _ ?_;clear aa K2));refine Z0 fun K2 aa=>?_;simp [bo,aT,bh,aao,aN,e0,e1,h0,iA,h1,h2,fW,h3,h4,h5,dS];refine aap.data (C5) (by simp;rfl) (by first | exact D.bn _ | simp [aB,List.map_map,Function.comp_def,D.le,D.le.go,D.le_refl,D.bn,bo,aT,bh,aao,aN,e0,e1,h0,iA,h1,h2,fW,h3,h4,h5,dS]) ?_;refine aa _ ?_;clear aa K2;simp only [Z2,dk];(repeat (refine Z0 fun K2 aa=>?_;simp [bo,aT,bh,aao,aN,e0,e1,h0,iA,h1,h2,fW,h3,h4,h5,dS];(repeat (refine ⟨by omega,?_⟩));refine aa _ ?_;clear aa K2));refine Z9 (af _ (AW.st (by simp [bo,aT,bh,aao,aN,e0,e1,h0,iA,h1,h2,fW,h3,h4,h5,dS];rfl) ?_));clear af K';refine bk ?_;simp [D.le,D.le.go,aB];simp [fL,h1,fW,hg,e0,uV,ya,h5]
   .have ya:¬ a.toNat<=122:=by omega
    refine rg [2] [] (fun _ _=>trivial) fun K' af=>?_;(repeat (refine Z0 fun K2 aa=>?_;simp [bo,aT,bh,aao,aN,e0,e1,h0,iA,h1,h2,fW,h3,h4];(repeat (refine ⟨by omega,?_⟩));refine aa _ ?_;clear aa K2));refine Z9 (af _ (AW.st (by simp [bo,aT,bh,aao,aN,e0,e1,h0,iA,h1,h2,fW,h3,h4];rfl) ?_));clear af K';refine bk ?_;simp [D.le,D.le.go,aB];simp [fL,h1,fW,hg,e0,uV,ya]
  .have uV:¬ 97<=a.toNat:=by omega
   refine rg [2] [] (fun _ _=>trivial) fun K' af=>?_;(repeat (refine Z0 fun K2 aa=>?_;simp [bo,aT,bh,aao,aN,e0,e1,h0,iA,h1,h2,fW,h3];(repeat (refine ⟨by omega,?_⟩));refine aa _ ?_;clear aa K2));refine Z9 (af _ (AW.st (by simp [bo,aT,bh,aao,aN,e0,e1,h0,iA,h1,h2,fW,h3];rfl) ?_));clear af K';refine bk ?_;simp [D.le,D.le.go,aB];simp [fL,h1,fW,hg,e0,uV]
 .have fW:¬ l.length<=8:=by omega
  refine rg [2] [] (fun _ _=>trivial) fun K' af=>?_;(repeat (refine Z0 fun K2 aa=>?_;simp [bo,aT,bh,aao,aN,e0,e1,h0,iA,h1,h2,fW];(repeat (refine ⟨by omega,?_⟩));refine aa _ ?_;clear aa K2));refine Z9 (af _ (AW.st (by simp [bo,aT,bh,aao,aN,e0,e1,h0,iA,h1,h2,fW];rfl) ?_));clear af K';refine bk ?_;simp [D.le,D.le.go,aB];simp [fL,h1,fW]
end Go.Proofs.YtdigkhaofjmgkaaGreatDoor
