/- Parts. -/
import Derived.Test.YtoohljflflnbeaaGreatDoorSt20
import Derived.Shelf.Strings.OnBuilder
set_option linter.unusedSimpArgs false
set_option linter.unusedVariables false
open Go.Proofs.Tryz
namespace Go.Proofs
open Go.Shelf
def Tryz.BW:Go.Shelf.Ren:=⟨fun | 156=>101 | 165=>169 | 166=>94 | 169=>96 | 240=>168 | 241=>221 | 276=>220 | 277=>275 | n=>n,fun | 31=>58 | 9=>9 | 3=>3 | 4=>4 | 0=>0 | 20=>20 | 72=>182 | 76=>183 | 70=>179 | 37=>180 | 75=>30 | 127=>279 | 164=>307 | 5=>5 | 80=>188 | n=>n,fun | n=>n⟩
theorem Tryz.BV:Go.Proofs.Lays.n156 prog Tryz.BW:={
 mixed:=ag
 f156:=func101.trans aW
 f165:=func169.trans aW
 f166:=func94.trans aW
 f169:=func96.trans aW
 f240:=func168.trans aW
 f241:=func221.trans aW
 f276:=func220.trans aW
 f277:=func275.trans aW
 t0:=underlying0
 a0:=isAgg0
 z0:=sizeOf0
 v0:=zeroValue0
 t3:=underlying3
 a3:=isAgg3
 z3:=sizeOf3
 v3:=zeroValue3
 t4:=underlying4
 a4:=isAgg4
 z4:=sizeOf4
 v4:=zeroValue4
 t9:=underlying9
 a9:=isAgg9
 z9:=sizeOf9
 v9:=zeroValue9
 t20:=underlying20
 a20:=isAgg20
 z20:=sizeOf20
 v20:=zeroValue20
 t31:=underlying58
 a31:=isAgg58
 z31:=sizeOf58
 v31:=zeroValue58
 t37:=underlying180
 a37:=isAgg180
 z37:=sizeOf180
 v37:=zeroValue180
 t70:=underlying179
 a70:=isAgg179
 z70:=sizeOf179
 v70:=zeroValue179
 t72:=underlying182
 a72:=isAgg182
 z72:=sizeOf182
 v72:=zeroValue182
 t75:=underlying30
 a75:=isAgg30
 z75:=sizeOf30
 v75:=zeroValue30
 t76:=underlying183
 a76:=isAgg183
 z76:=sizeOf183
 v76:=zeroValue183
 t127:=underlying279
 a127:=isAgg279
 z127:=sizeOf279
 v127:=zeroValue279
 t164:=underlying307
 a164:=isAgg307
 z164:=sizeOf307
 v164:=zeroValue307 }
theorem Tryz.sq:Builder.Extra prog Tryz.BW:={
 sizeBuilder:=ag
 liesBuilder:=ag
 t5:=underlying5
 a5:=isAgg5
 z5:=sizeOf5
 v5:=zeroValue5
 infoByte:=ag
 cellsByte:=ag
 sizeByte:=ag
 neB5:=by decide }
end Go.Proofs
namespace Go.Proofs.YtoohljflflnbeaaGreatDoor
open Go.Av
open Go.RowKit Go.Shelf Go.Lib
theorem Ij (l:List UInt8):(⟨l.toArray⟩:ByteArray)=bs l:=rfl
theorem Ih (a b:List UInt8):bs a ++ bs b=bs (a ++ b):=ByteArray.ext (by simp[bs,ByteArray.data_append])
theorem j3 (a b:List UInt8) (h:a.length+b.length<=9223372036854775807):ay .add (bs a) (bs b)=some (True,.string (bs (a ++ b))):=by
 rw[ay,Ih,bD,bD,eq_true h]
theorem BM (G:aF) (l:List (List UInt8)) (sep:List UInt8) (hl:(Lib.join l sep).length<=2^46) (hn:l.length<=2^46):aH prog G 101 [.sl none (l.map fun s=>[dS s]),dS sep] (dS (Lib.join l sep)):=by
 refine aH.pa (fU.of func101 rfl rfl) fun X w vs bc cm cY=>?_
 obtain⟨a,b,rfl⟩:∃ a b,vs = #[a,b]:=by
  match vs,bc with
  | ⟨[a,b]⟩,_=>exact⟨a,b,rfl⟩
 have hb:=(cm 1 b _ rfl rfl).scalar;subst hb;have ha:=cm 0 a _ rfl rfl
 have none:∀ (ad:Option Addr) (cap:Nat),l=[]->Calls prog 101 #[.slice ad 0 cap,.string (bs sep)] w fun e w'=>∃ v,e = .returned v/\cT w w'/\RD w' X v (dS (Lib.join l sep)):=fun ad cap h=>by
  subst h;have fG:=Any.strings_Join_none Tryz.BV Tryz.sq ad cap (bs sep) w;exact fG.mono fun e w' ⟨he,hw⟩=>⟨_,he,hw ▸ cT.refl w,.v _⟩
 rcases ha.oT with⟨rfl,hz,_⟩ | ⟨ad,cap,rfl,_,hc,hm,hr⟩
 .exact none _ _ (List.map_eq_nil_iff.1 hz)
 .rcases hr with hz | ⟨b0,off,sz,f,rfl,hX,hz,hs,dW,jE⟩
  .have h0:l=[]:=List.map_eq_nil_iff.1 hz;have:=none (some ad) cap h0;rw[show (l.map fun s=>[dS s]).length=0 by rw[h0];rfl];exact this
  .by_cases h0:l=[]
   .rw[show (l.map fun s=>[dS s]).length=0 by rw[h0];rfl];exact none _ _ h0
   .have qy:0 < l.length:=abG.2 h0;have fW:sz=1:=(hs [dS l[0]] (abE.2 ⟨_,aa6 qy,rfl⟩)).symm;subst fW;simp only[abq]at dW hc ⊢
    have gA:∀ (j:Nat) x,(l.map bs)[j]? = some x->w.cell? ⟨b0,off+j,.none⟩=some (.string x):=fun j x hx=>by
     rw[aa3]at hx;obtain⟨s,wx,rfl⟩:=AS.1 hx;have hj:=(By.1 wx).1;have h1:=dW j 0 hj bh;have h2:=(jE j 0 [dS s] (dS s) (by rw[aa3,wx];rfl) rfl).scalar;rw[ab3,abT]at h1;rw[h1,h2]
    have iJ:b0 < w.heap.size:=sC (gA 0 (bs l[0]) (by simp[qy]))
    have Bu:(l.map bs).map (fun x=>x.data.toList)=l:=by
     rw[IS];exact (List.map_congr_left fun s _=>rfl).trans (List.map_id _)
    have hlen:(Lib.join ((l.map bs).map (·.data.toList)) (bs sep).data.toList).length<=140737488355328:=by
     rw[Bu];show (Lib.join l sep).length<=_;omega
    have fG:=Any.strings_Join Tryz.BV Tryz.sq b0 off cap (l.map bs) (bs sep) w gA iJ (by simp;omega) (by simpa using hc) hlen;rw[Bu,abq]at fG;exact fG.mono fun e w' ⟨he,hB⟩=>⟨_,he,sy hB,.v _⟩
