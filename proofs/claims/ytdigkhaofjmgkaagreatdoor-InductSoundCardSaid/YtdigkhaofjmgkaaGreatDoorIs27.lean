/-
  Texts that belong together,in one file: LB1.
-/
import Derived.Test.YtdigkhaofjmgkaaGreatDoorIs22
import Derived.Test.YtdigkhaofjmgkaaGreatDoorIs25
import Derived.Test.YtdigkhaofjmgkaaGreatDoorIs26
import Derived.Shelf.Strings.Trim
import Derived.Shelf.Strings.Split
import Derived.Shelf.Strings.Search1
set_option linter.unusedSimpArgs false
set_option linter.unusedVariables false
namespace Go.Proofs.YtdigkhaofjmgkaaGreatDoor
open Go.Av Go.Shelf Go.RowKit
theorem adi (w:World):∀ n,bT w (w.drewN n)
 | 0=>bT.refl _
 | n+1=>by
  have h:=adi w n;have h2:=bT.drew (w.drewN n);exact ⟨Nat.le_trans h.size h2.size,h2.os.trans h.os,h2.tape.trans h.tape,h2.output.trans h.output,fun b hb=>(h2.same b (Nat.lt_of_lt_of_le hb h.size)).trans (h.same b hb)⟩
theorem WA (G:YJ) (l:Tx) (hl:l.length < 2^60):aq Tryz.prog G 121 [dS l,dS [32]] (dS (Lib.trimB l 32)):=by
 refine aq.rU (fo.of Tryz.func121 rfl rfl) fun X w vs aK bq Y8=>?_
 obtain ⟨a,b,rfl⟩:∃ a b,vs = #[a,b]:=by
  match vs,aK with
  | ⟨[a,b]⟩,_=>exact ⟨a,b,rfl⟩
 have ha:=(bq 0 a _ rfl rfl).scalar;have hb:=(bq 1 b _ rfl rfl).scalar;subst ha hb;have hL:Lays.n160 Tryz.prog Tryz.BZ:={ Tryz.BX with };have aaV:=Any.strings_Trim_one hL (bs l) 32 (by decide) w (by rw [bC];omega);refine aaV.mono fun e w' ⟨he,hw⟩=>⟨_,he,?_,.v _⟩
 rcases hw with rfl | rfl
 .exact bT.refl _
 .exact bT.drew _
theorem HG {G:YJ} {m:Int} {w:World} {X:Nat->Prop} (hm:G 4=some (.ip [YH m])) (Y8:∀ g x,G g=some x->RD w X (.pointer (some ⟨g,0,none⟩)) x):w.cell? ⟨4,0,none⟩=some (.int .i64 m):=by
 obtain ⟨b',off,f,hp,_,_,Zi,hr⟩:=(Y8 _ _ hm).abk;have h0:=Zi 0 (by simp);have h1:=(hr 0 _ rfl).scalar;rw [h1] at h0;injection hp with hp;injection hp with hp;injection hp with ez ZB _;subst ez ZB;exact h0
theorem VG (G:YJ) (hM:n9 G) (t:Tx) (c:UInt8) (ht:t.length < 2^30):aq Tryz.prog G 173 [dS t,dS [c]] (.aT [dS (if c∈t then (cutAt c t).1 else t),dS (if c∈t then (cutAt c t).2 else []),.v (.bool (decide (c∈t)))]):=by
 obtain ⟨m,hm⟩:=hM;refine aq.rU (fo.of Tryz.func173 rfl rfl) fun X w vs aK bq Y8=>?_
 obtain ⟨u,v,rfl⟩:∃ u v,vs = #[u,v]:=by
  match vs,aK with
  | ⟨[u,v]⟩,_=>exact ⟨u,v,rfl⟩
 have hu:=(bq 0 u _ rfl rfl).scalar;have hv:=(bq 1 v _ rfl rfl).scalar;subst hu hv;have hL:Lays.n145 Tryz.prog Tryz.Hs:={ Tryz.SO with };have aaV:=Any.strings_Cut hL (bs t) (bs [c]) m w (by rw [bC];omega) (HG hm Y8);refine aaV.mono fun e w' ⟨he,n,hw⟩=>⟨_,he,by rw [hw];exact adi w n,?_⟩;rw [Zp,Zp,Mi];refine .aT (by rfl) fun j u x hu hx=>?_;by_cases hc:c∈t
 .simp only [hc,if_true,decide_true] at hu hx
  match j,hu,hx with
  | 0,hu,hx=>simp at hu hx;subst hu hx;exact .v _
  | 1,hu,hx=>simp at hu hx;subst hu hx;exact .v _
  | 2,hu,hx=>simp at hu hx;subst hu hx;exact .v _
  | j+3,hu,hx=>simp at hx
 .simp only [hc,if_false,decide_false] at hu hx
  match j,hu,hx with
  | 0,hu,hx=>simp at hu hx;subst hu hx;exact .v _
  | 1,hu,hx=>simp at hu hx;subst hu hx;exact .v _
  | 2,hu,hx=>simp at hu hx;subst hu hx;exact .v _
  | j+3,hu,hx=>simp at hx
theorem UQ {w:World} {X:Nat->Prop} {b:Nat} {ss:List ByteArray} {cap:Nat} (hX:¬ X b) (hc:ss.length<=cap) (hm:cap<=maxLen) (h:∀ (i:Nat) (hi:i < ss.length),w.cell? ⟨b,i,none⟩=some (.string ss[i])) :
  RD w X (.slice (some ⟨b,0,none⟩) ss.length cap) (.sl (some true) (ss.map fun s=>[dS s.data.toList])):=by
 by_cases h0:ss.length=0
 .obtain rfl:=List.length_eq_zero_iff.1 h0;exact .empty (by simp) hm
 .refine .sl (sz:=1) (f:=fun i _=>(w.cell? ⟨b,0+(i * 1+0),none⟩).getD undef) (by simp) (by simp) hc hm hX (fun el aN=>?_) (by omega) (by omega) (fun i j hi hj=>?_) (fun i j el c h1 h2=>?_)
  .obtain ⟨s,_,rfl⟩:=List.mem_map.1 aN;rfl
  .obtain rfl:j=0:=by omega
   have:=h i hi;simp only [Nat.mul_one,Nat.add_zero,Nat.zero_add];rw [this];rfl
  .rw [List.getElem?_map] at h1;obtain ⟨s,hs,rfl⟩:=Option.map_eq_some_iff.1 h1;obtain ⟨hi,rfl⟩:=List.getElem?_eq_some_iff.1 hs
   obtain rfl:j=0:=by
    have:=(List.getElem?_eq_some_iff.1 h2).1;simpa using this
   have:=h i hi;simp at h2;subst h2;simp only [Nat.mul_one,Nat.add_zero,Nat.zero_add];rw [this]
   have e:bs ss[i].data.toList=ss[i]:=by simp [bs]
   unfold dS;rw [e];exact .v _
theorem adK {G:YJ} {g:FuncId} {ds:List D} {y:D} (hf:fo Tryz.prog g)
  (h:∀ (X:Nat->Prop) (w:World) (vs:Array Value),(∀ b,X b->b < w.heap.size)->vs.size=ds.length->(∀ (i:Nat) (u:Value) (x:D),vs[i]? = some u->ds[i]? = some x->RD w X u x)->(∀ g x,G g=some x->RD w X (.pointer (some ⟨g,0,none⟩)) x)->
   Calls Tryz.prog g vs w fun e w'=>∃ v,e = .returned v/\bT w w'/\RD w' X v y):aq Tryz.prog G g ds y:=by
 refine ⟨hf,fun X w μ vs hs Y8 aK hv=>?_⟩
 have Zu:μ=fun _=>none:=by
  funext r
  cases hr:μ r with
  | none=>rfl
  | some m=>obtain ⟨row,Y6⟩:=hs.gw r m hr;cases Y6
 subst Zu;refine (h X w vs hs.fits (by simpa using aK) (fun i u x hu hx=>?_) (fun g x hx=>(Y8 g x hx).sub fun b hb=>jt.2 hb)).mono fun e w' ⟨v,he,hg,hr⟩=>?_
 .exact (hv i u (.d x) hu (by rw [List.getElem?_map,hx];rfl)).data.sub fun b hb=>jt.2 hb
 .refine ⟨v,.d y,hno,fun _=>none,he,⟨rfl,rfl⟩,.d (hr.sub fun b hb=>jt.1 hb),Zg.none fun b hb=>Nat.lt_of_lt_of_le (hs.fits b hb) hg.size,hg.size,hg.os,hg.tape,hg.output,fun b hb _=>⟨hg.same b hb,fun ⟨_,_,hh,_⟩=>by cases hh⟩,fun r m hr=>by cases hr⟩
end Go.Proofs.YtdigkhaofjmgkaaGreatDoor
