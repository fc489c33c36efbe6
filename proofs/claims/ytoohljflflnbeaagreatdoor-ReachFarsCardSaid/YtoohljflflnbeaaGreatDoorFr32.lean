/- Parts. -/
import Derived.Test.YtoohljflflnbeaaGreatDoorFr24
import Derived.Test.YtoohljflflnbeaaGreatDoorFr28
import Derived.Test.YtoohljflflnbeaaGreatDoorFr29
import Derived.Test.YtoohljflflnbeaaGreatDoorFr30
import Derived.Test.YtoohljflflnbeaaGreatDoorFr31
import Derived.Shelf.Strings.Trim
set_option linter.unusedSimpArgs false
set_option linter.unusedVariables false
open Go.Proofs.Tryz
namespace Go.Proofs.YtoohljflflnbeaaGreatDoor
open Go.Av Go.Shelf Go.RowKit
theorem EW (w:World):∀ n,cN w (w.drewN n)
 | 0=>cN.refl _
 | n+1=>by
  have h:=EW w n;have h2:=cN.drew (w.drewN n);exact⟨ald h.size h2.size,h2.os.trans h.os,h2.tape.trans h.tape,h2.output.trans h.output,fun b hb=>(h2.same b (akd hb h.size)).trans (h.same b hb)⟩
theorem ahC (G:ay) (l:Tx) (hl:l.length < 2^60):aD prog G 179 [dS l,dS [32]] (dS (Lib.trimB l 32)):=by
 refine aD.sE (iA.of func179 rfl rfl) fun X w vs bd bY dt=>?_
 obtain⟨a,b,rfl⟩:∃ a b,vs = #[a,b]:=by
  match vs,bd with
  | ⟨[a,b]⟩,_=>exact⟨a,b,rfl⟩
 have ha:=(bY 0 a _ rfl rfl).scalar;have hb:=(bY 1 b _ rfl rfl).scalar;subst ha hb;have hL:Lays.n160 prog Tryz.LD:={ Tryz.LC with };have iW:=Any.strings_Trim_one hL (bs l) 32 bF w (by rw[bN];omega);refine iW.mono fun e w' ⟨he,hw⟩=>⟨_,he,?_,.v _⟩
 rcases hw with rfl | rfl
 .exact cN.refl _
 .exact cN.drew _
theorem LQ {G:ay} {m:Int} {w:World} {X:Nat->Prop} (hm:G 5=some (.ip [ab m])) (dt:∀ g x,G g=some x->RD w X (.pointer (some ⟨g,0,none⟩)) x):w.cell? ⟨5,0,none⟩=some (.int .i64 m):=by
 obtain⟨b',off,f,hp,_,_,fb,hr⟩:=(dt _ _ hm).rN;have h0:=fb 0 ak;have h1:=(hr 0 _ rfl).scalar;rw[h1]at h0;injection hp with hp;injection hp with hp;injection hp with iX gB _;subst iX gB;exact h0
theorem agB (G:ay) (hM:k9 G) (t:Tx) (c:UInt8) (ht:t.length < 2^30):aD prog G 236 [dS t,dS [c]] (.bz [dS (if c∈t then (cutAt c t).1 else t),dS (if c∈t then (cutAt c t).2 else []),.v (.bool (decide (c∈t)))]):=by
 obtain⟨m,hm⟩:=hM;refine aD.sE (iA.of func236 rfl rfl) fun X w vs bd bY dt=>?_
 obtain⟨u,v,rfl⟩:∃ u v,vs = #[u,v]:=by
  match vs,bd with
  | ⟨[u,v]⟩,_=>exact⟨u,v,rfl⟩
 have hu:=(bY 0 u _ rfl rfl).scalar;have hv:=(bY 1 v _ rfl rfl).scalar;subst hu hv;have hL:Lays.n145 prog Tryz.RJ:={ Tryz.abK with };have iW:=Any.strings_Cut hL (bs t) (bs [c]) m w (by rw[bN];omega) (LQ hm dt);refine iW.mono fun e w' ⟨he,n,hw⟩=>⟨_,he,by rw[hw];exact EW w n,?_⟩;rw[dr,dr,Xq];refine .bz (by rfl) fun j u x hu hx=>?_;by_cases hc:c∈t
 .simp only[hc,if_true,decide_true]at hu hx
  match j,hu,hx with
  | 0,hu,hx=>simp at hu hx;subst hu hx;exact .v _
  | 1,hu,hx=>simp at hu hx;subst hu hx;exact .v _
  | 2,hu,hx=>simp at hu hx;subst hu hx;exact .v _
  | j+3,hu,hx=>simp at hx
 .simp only[hc,if_false,decide_false]at hu hx
  match j,hu,hx with
  | 0,hu,hx=>simp at hu hx;subst hu hx;exact .v _
  | 1,hu,hx=>simp at hu hx;subst hu hx;exact .v _
  | 2,hu,hx=>simp at hu hx;subst hu hx;exact .v _
  | j+3,hu,hx=>simp at hx
theorem Tm {w:World} {X:Nat->Prop} {b:Nat} {ss:List ByteArray} {cap:Nat} (hX:¬ X b) (hc:ss.length<=cap) (hm:cap<=maxLen) (h:∀ (i:Nat) (hi:i < ss.length),w.cell? ⟨b,i,none⟩=some (.string ss[i])) :
  RD w X (.slice (some ⟨b,0,none⟩) ss.length cap) (.sl (some true) (ss.map fun s=>[dS s.data.toList])):=by
 by_cases h0:ss.length=0
 .obtain rfl:=ak4.1 h0;exact .empty ak hm
 .refine .sl (sz:=1) (f:=fun i _=>(w.cell? ⟨b,0+(i * 1+0),none⟩).getD undef) ak ak hc hm hX (fun el ba=>?_) aa aa (fun i j hi hj=>?_) (fun i j el c h1 h2=>?_)
  .obtain⟨s,_,rfl⟩:=akh.1 ba;rfl
  .obtain rfl:j=0:=aa
   have:=h i hi;simp only[akV,akD,akg];rw[this];rfl
  .rw[ajK]at h1;obtain⟨s,hs,rfl⟩:=AS.1 h1;obtain⟨hi,rfl⟩:=BY.1 hs
   obtain rfl:j=0:=by
    have:=(BY.1 h2).1;simpa using this
   have:=h i hi;simp at h2;subst h2;simp only[akV,akD,akg];rw[this]
   have e:bs ss[i].data.toList=ss[i]:=by simp[bs]
   unfold dS;rw[e];exact .v _
theorem G4 {G:ay} {g:FuncId} {ds:List D} {y:D} (hf:iA prog g)
  (h:∀ (X:Nat->Prop) (w:World) (vs:Array Value),(∀ b,X b->b < w.heap.size)->vs.size=ds.length->(∀ (i:Nat) (u:Value) (x:D),vs[i]? = some u->ds[i]? = some x->RD w X u x)->(∀ g x,G g=some x->RD w X (.pointer (some ⟨g,0,none⟩)) x)->
   Calls prog g vs w fun e w'=>∃ v,e = .returned v/\cN w w'/\RD w' X v y):aD prog G g ds y:=by
 refine⟨hf,fun X w μ vs hs dt bd hv=>?_⟩
 have gm:μ=fun _=>none:=by
  funext r
  cases hr:μ r with
  | none=>rfl
  | some m=>obtain⟨row,dJ⟩:=hs.lq r m hr;cases dJ
 subst gm;refine (h X w vs hs.fits (by simpa using bd) (fun i u x hu hx=>?_) (fun g x hx=>(dt g x hx).sub fun b hb=>pz.2 hb)).mono fun e w' ⟨v,he,hg,hr⟩=>?_
 .exact (hv i u (.d x) hu (by rw[ajK,hx];rfl)).data.sub fun b hb=>pz.2 hb
 .refine⟨v,.d y,jj,fun _=>none,he,⟨rfl,rfl⟩,.d (hr.sub fun b hb=>pz.1 hb),eA.none fun b hb=>akd (hs.fits b hb) hg.size,hg.size,hg.os,hg.tape,hg.output,fun b hb _=>⟨hg.same b hb,fun ⟨_,_,hh,_⟩=>by cases hh⟩,fun r m hr=>by cases hr⟩
theorem Us (G:ay) (hM:k9 G) (t:Tx) (c:UInt8) (ht:t.length < 2^30):aD prog G 172 [dS t,dS [c]] (.sl (some true) ((eW c t).map fun s=>[dS s])):=by
 obtain⟨m,hm⟩:=hM;refine G4 (iA.of func172 rfl rfl) fun X w vs kD bd bY dt=>?_
 obtain⟨u,v,rfl⟩:∃ u v,vs = #[u,v]:=by
  match vs,bd with
  | ⟨[u,v]⟩,_=>exact⟨u,v,rfl⟩
 have hu:=(bY 0 u _ rfl rfl).scalar;have hv:=(bY 1 v _ rfl rfl).scalar;subst hu hv;have hL:Lays.n146 prog Tryz.RL:={ Tryz.abL with };have iW:=Any.strings_Split hL ah (bs t) (bs [c]) m w (by rw[bN];omega) (LQ hm dt) (by rw[bN];simp);refine iW.mono fun e w' ⟨he,hw⟩=>⟨_,he,by rw[hw];exact cN.alloc w _,?_⟩;subst hw;have hlen:=Lib.splitB_all (bs [c]) (by rw[bN];simp) 0 _ (bs t) rfl;have lQ:=agT c t;have cA:=ET c t;rw[<- Ut,ajN,<- hlen];refine Tm (fun hx=>Nat.lt_irrefl _ (kD _ hx)) (ajJ _) (by rw[hlen,lQ];unfold maxLen;omega) fun i hi=>?_;rw[World.cell?_alloc_new];simp[hi]
theorem Ri (c:UInt8):∀ t:Tx,Lib.indexByte t c=Lib.index t [c]
 | []=>rfl
 | x :: t=>by
  unfold Lib.indexByte Lib.index;rw[Ri c t];by_cases h:x=c
  .subst h;simp[List.isPrefixOf]
  .simp[List.isPrefixOf,h,akI h]
theorem agG (G:ay) (t:Tx) (c:UInt8):aD prog G 174 [dS t,.v (.int .u8 c.toNat)] (ab (if c∈t then ((cutAt c t).1.length:Int) else -1)):=by
 refine aD.sE (iA.of func174 rfl rfl) fun X w vs bd bY dt=>?_
 obtain⟨u,v,rfl⟩:∃ u v,vs = #[u,v]:=by
  match vs,bd with
  | ⟨[u,v]⟩,_=>exact⟨u,v,rfl⟩
 have hu:=(bY 0 u _ rfl rfl).scalar;have hv:=(bY 1 v _ rfl rfl).scalar;subst hu hv;have hL:Lays.n217 prog Tryz.RF:={ Tryz.abH with };have iW:=Any.stringslite_IndexByte hL (bs t) (c.toNat:Int) w
 have e1:Lib.indexByte (bs t).data.toList ((c.toNat:Int).toNat.toUInt8)=if c∈t then ((cutAt c t).1.length:Int) else -1:=by
  have:(c.toNat:Int).toNat.toUInt8=c:=ak
  rw[this,dr,Ri];split
  .rename_i h;obtain⟨a,b,rfl,ha⟩:=akx h;rw[zF ha,Dn b ha]
  .rename_i h;exact Gt h
 rw[e1]at iW;generalize (if c∈t then ((cutAt c t).1.length:Int) else -1)=r at iW ⊢;clear e1
 go_enter func174,ntmps174
 go_wp2_with (go_at_call 224;refine iW.mono ?_;rintro e w' ⟨rfl,rfl⟩)
 go_ret
 exact⟨_,rfl,cN.refl _,.v _⟩
