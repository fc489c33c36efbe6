/- Parts. -/
import Derived.Test.YtdigkhaofjmgkaaGreatDoorPs22
import Derived.Test.YtdigkhaofjmgkaaGreatDoorPs25
import Derived.Test.YtdigkhaofjmgkaaGreatDoorPs26
import Derived.Shelf.Strings.Trim
import Derived.Shelf.Strings.Split
import Derived.Shelf.Strings.Search1
set_option linter.unusedSimpArgs false
set_option linter.unusedVariables false
open Go.Proofs.Tryz
namespace Go.Proofs.YtdigkhaofjmgkaaGreatDoor
open Go.Av Go.Shelf Go.RowKit
theorem y5 (w:World):∀ n,bQ w (w.drewN n)
 | 0=>bQ.refl _
 | n+1=>by
  have h:=y5 w n;have h2:=bQ.drew (w.drewN n);exact⟨Nat.le_trans h.size h2.size,h2.os.trans h.os,h2.tape.trans h.tape,h2.output.trans h.output,fun b hb=>(h2.same b (Nat.lt_of_lt_of_le hb h.size)).trans (h.same b hb)⟩
theorem Wj (G:Yt) (l:Tx) (hl:l.length < 2^60):ao prog G 121 [dS l,dS [32]] (dS (Lib.trimB l 32)):=by
 refine ao.rD (fm.of func121 rfl rfl) fun X w vs aK bq ck=>?_
 obtain⟨a,b,rfl⟩:∃ a b,vs = #[a,b]:=by
  match vs,aK with
  | ⟨[a,b]⟩,_=>exact⟨a,b,rfl⟩
 have ha:=(bq 0 a _ rfl rfl).scalar;have hb:=(bq 1 b _ rfl rfl).scalar;subst ha hb;have hL:Lays.n160 prog Tryz.BH:={ Tryz.BG with };have kb:=Any.strings_Trim_one hL (bs l) 32 (by decide) w (by rw[bF];omega);refine kb.mono fun e w' ⟨he,hw⟩=>⟨_,he,?_,.v _⟩
 rcases hw with rfl | rfl
 .exact bQ.refl _
 .exact bQ.drew _
theorem Hi {G:Yt} {m:Int} {w:World} {X:Nat->Prop} (hm:G 4=some (.ip [ab m])) (ck:∀ g x,G g=some x->RD w X (.pointer (some ⟨g,0,none⟩)) x):w.cell? ⟨4,0,none⟩=some (.int .i64 m):=by
 obtain⟨b',off,f,hp,_,_,YX,hr⟩:=(ck _ _ hm).mb;have h0:=YX 0 (by simp);have h1:=(hr 0 _ rfl).scalar;rw[h1]at h0;injection hp with hp;injection hp with hp;injection hp with eC Zg _;subst eC Zg;exact h0
theorem Vo (G:Yt) (hM:nU G) (t:Tx) (c:UInt8) (ht:t.length < 2^30):ao prog G 173 [dS t,dS [c]] (.aR [dS (if c∈t then (cutAt c t).1 else t),dS (if c∈t then (cutAt c t).2 else []),.v (.bool (decide (c∈t)))]):=by
 obtain⟨m,hm⟩:=hM;refine ao.rD (fm.of func173 rfl rfl) fun X w vs aK bq ck=>?_
 obtain⟨u,v,rfl⟩:∃ u v,vs = #[u,v]:=by
  match vs,aK with
  | ⟨[u,v]⟩,_=>exact⟨u,v,rfl⟩
 have hu:=(bq 0 u _ rfl rfl).scalar;have hv:=(bq 1 v _ rfl rfl).scalar;subst hu hv;have hL:Lays.n145 prog Tryz.G4:={ Tryz.QZ with };have kb:=Any.strings_Cut hL (bs t) (bs [c]) m w (by rw[bF];omega) (Hi hm ck);refine kb.mono fun e w' ⟨he,n,hw⟩=>⟨_,he,by rw[hw];exact y5 w n,?_⟩;rw[de,de,LP];refine .aR (by rfl) fun j u x hu hx=>?_;by_cases hc:c∈t
 .simp only[hc,if_true,decide_true]at hu hx
  match j,hu,hx with
  | 0,hu,hx=>simp at hu hx;subst hu hx;exact .v _
  | 1,hu,hx=>simp at hu hx;subst hu hx;exact .v _
  | 2,hu,hx=>simp at hu hx;subst hu hx;exact .v _
  | j+3,hu,hx=>simp at hx
 .simp only[hc,if_false,decide_false]at hu hx
  match j,hu,hx with
  | 0,hu,hx=>simp at hu hx;subst hu hx;exact .v _
  | 1,hu,hx=>simp at hu hx;subst hu hx;exact .v _
  | 2,hu,hx=>simp at hu hx;subst hu hx;exact .v _
  | j+3,hu,hx=>simp at hx
theorem Ut {w:World} {X:Nat->Prop} {b:Nat} {ss:List ByteArray} {cap:Nat} (hX:¬ X b) (hc:ss.length<=cap) (hm:cap<=maxLen) (h:∀ (i:Nat) (hi:i < ss.length),w.cell? ⟨b,i,none⟩=some (.string ss[i])) :
  RD w X (.slice (some ⟨b,0,none⟩) ss.length cap) (.sl (some true) (ss.map fun s=>[dS s.data.toList])):=by
 by_cases h0:ss.length=0
 .obtain rfl:=List.length_eq_zero_iff.1 h0;exact .empty (by simp) hm
 .refine .sl (sz:=1) (f:=fun i _=>(w.cell? ⟨b,0+(i * 1+0),none⟩).getD undef) (by simp) (by simp) hc hm hX (fun el aJ=>?_) (by omega) (by omega) (fun i j hi hj=>?_) (fun i j el c h1 h2=>?_)
  .obtain⟨s,_,rfl⟩:=List.mem_map.1 aJ;rfl
  .obtain rfl:j=0:=by omega
   have:=h i hi;simp only[Nat.mul_one,Nat.add_zero,Nat.zero_add];rw[this];rfl
  .rw[List.getElem?_map]at h1;obtain⟨s,hs,rfl⟩:=Option.map_eq_some_iff.1 h1;obtain⟨hi,rfl⟩:=List.getElem?_eq_some_iff.1 hs
   obtain rfl:j=0:=by
    have:=(List.getElem?_eq_some_iff.1 h2).1;simpa using this
   have:=h i hi;simp at h2;subst h2;simp only[Nat.mul_one,Nat.add_zero,Nat.zero_add];rw[this]
   have e:bs ss[i].data.toList=ss[i]:=by simp[bs]
   unfold dS;rw[e];exact .v _
theorem HB {G:Yt} {g:FuncId} {ds:List D} {y:D} (hf:fm prog g)
  (h:∀ (X:Nat->Prop) (w:World) (vs:Array Value),(∀ b,X b->b < w.heap.size)->vs.size=ds.length->(∀ (i:Nat) (u:Value) (x:D),vs[i]? = some u->ds[i]? = some x->RD w X u x)->(∀ g x,G g=some x->RD w X (.pointer (some ⟨g,0,none⟩)) x)->
   Calls prog g vs w fun e w'=>∃ v,e = .returned v/\bQ w w'/\RD w' X v y):ao prog G g ds y:=by
 refine⟨hf,fun X w μ vs hs ck aK hv=>?_⟩
 have du:μ=fun _=>none:=by
  funext r
  cases hr:μ r with
  | none=>rfl
  | some m=>obtain⟨row,YN⟩:=hs.gl r m hr;cases YN
 subst du;refine (h X w vs hs.fits (by simpa using aK) (fun i u x hu hx=>?_) (fun g x hx=>(ck g x hx).sub fun b hb=>jn.2 hb)).mono fun e w' ⟨v,he,hg,hr⟩=>?_
 .exact (hv i u (.d x) hu (by rw[List.getElem?_map,hx];rfl)).data.sub fun b hb=>jn.2 hb
 .refine⟨v,.d y,ft,fun _=>none,he,⟨rfl,rfl⟩,.d (hr.sub fun b hb=>jn.1 hb),cw.none fun b hb=>Nat.lt_of_lt_of_le (hs.fits b hb) hg.size,hg.size,hg.os,hg.tape,hg.output,fun b hb _=>⟨hg.same b hb,fun ⟨_,_,hh,_⟩=>by cases hh⟩,fun r m hr=>by cases hr⟩
