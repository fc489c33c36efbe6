/- Parts. -/
import Derived.Test.YtdigkhaofjmgkaaGreatDoorIs22
import Derived.Test.YtdigkhaofjmgkaaGreatDoorIs25
import Derived.Test.YtdigkhaofjmgkaaGreatDoorIs26
import Derived.Shelf.Strings.Trim
import Derived.Shelf.Strings.Split
import Derived.Shelf.Strings.Search1
set_option linter.unusedSimpArgs false
set_option linter.unusedVariables false
open Go.Proofs.Tryz
namespace Go.Proofs.YtdigkhaofjmgkaaGreatDoor
open Go.Av Go.Shelf Go.RowKit
theorem zr (w:World):∀ n,bT w (w.drewN n)
 | 0=>bT.refl _
 | n+1=>by
  have h:=zr w n;have h2:=bT.drew (w.drewN n);exact⟨Nat.le_trans h.size h2.size,h2.os.trans h.os,h2.tape.trans h.tape,h2.output.trans h.output,fun b hb=>(h2.same b (Nat.lt_of_lt_of_le hb h.size)).trans (h.same b hb)⟩
theorem Wz (G:YI) (l:Tx) (hl:l.length < 2^60):aq prog G 121 [dS l,dS [32]] (dS (Lib.trimB l 32)):=by
 refine aq.rT (fo.of func121 rfl rfl) fun X w vs aK bq Y7=>?_
 obtain⟨a,b,rfl⟩:∃ a b,vs = #[a,b]:=by
  match vs,aK with
  | ⟨[a,b]⟩,_=>exact⟨a,b,rfl⟩
 have ha:=(bq 0 a _ rfl rfl).scalar;have hb:=(bq 1 b _ rfl rfl).scalar;subst ha hb;have hL:Lays.n160 prog Tryz.BX:={ Tryz.BW with };have aaU:=Any.strings_Trim_one hL (bs l) 32 (by decide) w (by rw[bC];omega);refine aaU.mono fun e w' ⟨he,hw⟩=>⟨_,he,?_,.v _⟩
 rcases hw with rfl | rfl
 .exact bT.refl _
 .exact bT.drew _
theorem HF {G:YI} {m:Int} {w:World} {X:Nat->Prop} (hm:G 4=some (.ip [YG m])) (Y7:∀ g x,G g=some x->RD w X (.pointer (some ⟨g,0,none⟩)) x):w.cell? ⟨4,0,none⟩=some (.int .i64 m):=by
 obtain⟨b',off,f,hp,_,_,Zh,hr⟩:=(Y7 _ _ hm).abj;have h0:=Zh 0 (by simp);have h1:=(hr 0 _ rfl).scalar;rw[h1]at h0;injection hp with hp;injection hp with hp;injection hp with ez ZA _;subst ez ZA;exact h0
theorem VF (G:YI) (hM:n9 G) (t:Tx) (c:UInt8) (ht:t.length < 2^30):aq prog G 173 [dS t,dS [c]] (.aT [dS (if c∈t then (cutAt c t).1 else t),dS (if c∈t then (cutAt c t).2 else []),.v (.bool (decide (c∈t)))]):=by
 obtain⟨m,hm⟩:=hM;refine aq.rT (fo.of func173 rfl rfl) fun X w vs aK bq Y7=>?_
 obtain⟨u,v,rfl⟩:∃ u v,vs = #[u,v]:=by
  match vs,aK with
  | ⟨[u,v]⟩,_=>exact⟨u,v,rfl⟩
 have hu:=(bq 0 u _ rfl rfl).scalar;have hv:=(bq 1 v _ rfl rfl).scalar;subst hu hv;have hL:Lays.n145 prog Tryz.Hr:={ Tryz.SN with };have aaU:=Any.strings_Cut hL (bs t) (bs [c]) m w (by rw[bC];omega) (HF hm Y7);refine aaU.mono fun e w' ⟨he,n,hw⟩=>⟨_,he,by rw[hw];exact zr w n,?_⟩;rw[Zo,Zo,Mh];refine .aT (by rfl) fun j u x hu hx=>?_;by_cases hc:c∈t
 .simp only[hc,if_true,decide_true]at hu hx
  match j,hu,hx with
  | 0,hu,hx=>simp at hu hx;subst hu hx;exact .v _
  | 1,hu,hx=>simp at hu hx;subst hu hx;exact .v _
  | 2,hu,hx=>simp at hu hx;subst hu hx;exact .v _
  | j+3,hu,hx=>simp at hx
 .simp only[hc,if_false,decide_false]at hu hx
  match j,hu,hx with
  | 0,hu,hx=>simp at hu hx;subst hu hx;exact .v _
  | 1,hu,hx=>simp at hu hx;subst hu hx;exact .v _
  | 2,hu,hx=>simp at hu hx;subst hu hx;exact .v _
  | j+3,hu,hx=>simp at hx
theorem UP {w:World} {X:Nat->Prop} {b:Nat} {ss:List ByteArray} {cap:Nat} (hX:¬ X b) (hc:ss.length<=cap) (hm:cap<=maxLen) (h:∀ (i:Nat) (hi:i < ss.length),w.cell? ⟨b,i,none⟩=some (.string ss[i])) :
  RD w X (.slice (some ⟨b,0,none⟩) ss.length cap) (.sl (some true) (ss.map fun s=>[dS s.data.toList])):=by
 by_cases h0:ss.length=0
 .obtain rfl:=List.length_eq_zero_iff.1 h0;exact .empty (by simp) hm
 .refine .sl (sz:=1) (f:=fun i _=>(w.cell? ⟨b,0+(i * 1+0),none⟩).getD undef) (by simp) (by simp) hc hm hX (fun el aN=>?_) (by omega) (by omega) (fun i j hi hj=>?_) (fun i j el c h1 h2=>?_)
  .obtain⟨s,_,rfl⟩:=List.mem_map.1 aN;rfl
  .obtain rfl:j=0:=by omega
   have:=h i hi;simp only[Nat.mul_one,Nat.add_zero,Nat.zero_add];rw[this];rfl
  .rw[List.getElem?_map]at h1;obtain⟨s,hs,rfl⟩:=Option.map_eq_some_iff.1 h1;obtain⟨hi,rfl⟩:=List.getElem?_eq_some_iff.1 hs
   obtain rfl:j=0:=by
    have:=(List.getElem?_eq_some_iff.1 h2).1;simpa using this
   have:=h i hi;simp at h2;subst h2;simp only[Nat.mul_one,Nat.add_zero,Nat.zero_add];rw[this]
   have e:bs ss[i].data.toList=ss[i]:=by simp[bs]
   unfold dS;rw[e];exact .v _
theorem HZ {G:YI} {g:FuncId} {ds:List D} {y:D} (hf:fo prog g)
  (h:∀ (X:Nat->Prop) (w:World) (vs:Array Value),(∀ b,X b->b < w.heap.size)->vs.size=ds.length->(∀ (i:Nat) (u:Value) (x:D),vs[i]? = some u->ds[i]? = some x->RD w X u x)->(∀ g x,G g=some x->RD w X (.pointer (some ⟨g,0,none⟩)) x)->
   Calls prog g vs w fun e w'=>∃ v,e = .returned v/\bT w w'/\RD w' X v y):aq prog G g ds y:=by
 refine⟨hf,fun X w μ vs hs Y7 aK hv=>?_⟩
 have Zt:μ=fun _=>none:=by
  funext r
  cases hr:μ r with
  | none=>rfl
  | some m=>obtain⟨row,Y5⟩:=hs.gw r m hr;cases Y5
 subst Zt;refine (h X w vs hs.fits (by simpa using aK) (fun i u x hu hx=>?_) (fun g x hx=>(Y7 g x hx).sub fun b hb=>jt.2 hb)).mono fun e w' ⟨v,he,hg,hr⟩=>?_
 .exact (hv i u (.d x) hu (by rw[List.getElem?_map,hx];rfl)).data.sub fun b hb=>jt.2 hb
 .refine⟨v,.d y,hno,fun _=>none,he,⟨rfl,rfl⟩,.d (hr.sub fun b hb=>jt.1 hb),Zf.none fun b hb=>Nat.lt_of_lt_of_le (hs.fits b hb) hg.size,hg.size,hg.os,hg.tape,hg.output,fun b hb _=>⟨hg.same b hb,fun ⟨_,_,hh,_⟩=>by cases hh⟩,fun r m hr=>by cases hr⟩
