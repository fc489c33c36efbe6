/- Parts. -/
import Derived.Test.YtoohljflflnbeaaGreatDoorSt25
import Derived.Test.YtoohljflflnbeaaGreatDoorSt26
import Derived.Test.YtoohljflflnbeaaGreatDoorSt27
import Derived.Test.YtoohljflflnbeaaGreatDoorSt28
import Derived.Test.YtoohljflflnbeaaGreatDoorSt29
import Derived.Shelf.Strings.Trim
set_option linter.unusedSimpArgs false
set_option linter.unusedVariables false
open Go.Proofs.Tryz
namespace Go.Proofs.YtoohljflflnbeaaGreatDoor
open Go.Av Go.Shelf Go.RowKit
theorem AE (w:World):∀ n,cT w (w.drewN n)
 | 0=>cT.refl _
 | n+1=>by
  have h:=AE w n;have h2:=cT.drew (w.drewN n);exact⟨acb h.size h2.size,h2.os.trans h.os,h2.tape.trans h.tape,h2.output.trans h.output,fun b hb=>(h2.same b (abu hb h.size)).trans (h.same b hb)⟩
theorem Y8 (G:aF) (l:Tx) (hl:l.length < 2^60):aH prog G 179 [dS l,dS [32]] (dS (Lib.trimB l 32)):=by
 refine aH.pa (fU.of func179 rfl rfl) fun X w vs bc cm cY=>?_
 obtain⟨a,b,rfl⟩:∃ a b,vs = #[a,b]:=by
  match vs,bc with
  | ⟨[a,b]⟩,_=>exact⟨a,b,rfl⟩
 have ha:=(cm 0 a _ rfl rfl).scalar;have hb:=(cm 1 b _ rfl rfl).scalar;subst ha hb;have hL:Lays.n160 prog Tryz.F3:={ Tryz.F2 with };have fG:=Any.strings_Trim_one hL (bs l) 32 bh w (by rw[bD];omega);refine fG.mono fun e w' ⟨he,hw⟩=>⟨_,he,?_,.v _⟩
 rcases hw with rfl | rfl
 .exact cT.refl _
 .exact cT.drew _
theorem Gf {G:aF} {m:Int} {w:World} {X:Nat->Prop} (hm:G 5=some (.ip [ab m])) (cY:∀ g x,G g=some x->RD w X (.pointer (some ⟨g,0,none⟩)) x):w.cell? ⟨5,0,none⟩=some (.int .i64 m):=by
 obtain⟨b',off,f,hp,_,_,dW,hr⟩:=(cY _ _ hm).pV;have h0:=dW 0 al;have h1:=(hr 0 _ rfl).scalar;rw[h1]at h0;injection hp with hp;injection hp with hp;injection hp with ke jD _;subst ke jD;exact h0
theorem WK (G:aF) (hM:nh G) (t:Tx) (c:UInt8) (ht:t.length < 2^30):aH prog G 236 [dS t,dS [c]] (.bI [dS (if c∈t then (cutAt c t).1 else t),dS (if c∈t then (cutAt c t).2 else []),.v (.bool (decide (c∈t)))]):=by
 obtain⟨m,hm⟩:=hM;refine aH.pa (fU.of func236 rfl rfl) fun X w vs bc cm cY=>?_
 obtain⟨u,v,rfl⟩:∃ u v,vs = #[u,v]:=by
  match vs,bc with
  | ⟨[u,v]⟩,_=>exact⟨u,v,rfl⟩
 have hu:=(cm 0 u _ rfl rfl).scalar;have hv:=(cm 1 v _ rfl rfl).scalar;subst hu hv;have hL:Lays.n145 prog Tryz.KU:={ Tryz.T4 with };have fG:=Any.strings_Cut hL (bs t) (bs [c]) m w (by rw[bD];omega) (Gf hm cY);refine fG.mono fun e w' ⟨he,n,hw⟩=>⟨_,he,by rw[hw];exact AE w n,?_⟩;rw[cU,cU,Pv];refine .bI (by rfl) fun j u x hu hx=>?_;by_cases hc:c∈t
 .simp only[hc,if_true,decide_true]at hu hx
  match j,hu,hx with
  | 0,hu,hx=>simp at hu hx;subst hu hx;exact .v _
  | 1,hu,hx=>simp at hu hx;subst hu hx;exact .v _
  | 2,hu,hx=>simp at hu hx;subst hu hx;exact .v _
  | j+3,hu,hx=>simp at hx
 .simp only[hc,if_false,decide_false]at hu hx
  match j,hu,hx with
  | 0,hu,hx=>simp at hu hx;subst hu hx;exact .v _
  | 1,hu,hx=>simp at hu hx;subst hu hx;exact .v _
  | 2,hu,hx=>simp at hu hx;subst hu hx;exact .v _
  | j+3,hu,hx=>simp at hx
theorem Mh {w:World} {X:Nat->Prop} {b:Nat} {ss:List ByteArray} {cap:Nat} (hX:¬ X b) (hc:ss.length<=cap) (hm:cap<=maxLen) (h:∀ (i:Nat) (hi:i < ss.length),w.cell? ⟨b,i,none⟩=some (.string ss[i])) :
  RD w X (.slice (some ⟨b,0,none⟩) ss.length cap) (.sl (some true) (ss.map fun s=>[dS s.data.toList])):=by
 by_cases h0:ss.length=0
 .obtain rfl:=ab5.1 h0;exact .empty al hm
 .refine .sl (sz:=1) (f:=fun i _=>(w.cell? ⟨b,0+(i * 1+0),none⟩).getD undef) al al hc hm hX (fun el bu=>?_) aa aa (fun i j hi hj=>?_) (fun i j el c h1 h2=>?_)
  .obtain⟨s,_,rfl⟩:=abE.1 bu;rfl
  .obtain rfl:j=0:=aa
   have:=h i hi;simp only[ab3,abT,abe];rw[this];rfl
  .rw[aa3]at h1;obtain⟨s,hs,rfl⟩:=AS.1 h1;obtain⟨hi,rfl⟩:=By.1 hs
   obtain rfl:j=0:=by
    have:=(By.1 h2).1;simpa using this
   have:=h i hi;simp at h2;subst h2;simp only[ab3,abT,abe];rw[this]
   have e:bs ss[i].data.toList=ss[i]:=by simp[bs]
   unfold dS;rw[e];exact .v _
theorem Cd {G:aF} {g:FuncId} {ds:List D} {y:D} (hf:fU prog g)
  (h:∀ (X:Nat->Prop) (w:World) (vs:Array Value),(∀ b,X b->b < w.heap.size)->vs.size=ds.length->(∀ (i:Nat) (u:Value) (x:D),vs[i]? = some u->ds[i]? = some x->RD w X u x)->(∀ g x,G g=some x->RD w X (.pointer (some ⟨g,0,none⟩)) x)->
   Calls prog g vs w fun e w'=>∃ v,e = .returned v/\cT w w'/\RD w' X v y):aH prog G g ds y:=by
 refine⟨hf,fun X w μ vs hs cY bc hv=>?_⟩
 have fk:μ=fun _=>none:=by
  funext r
  cases hr:μ r with
  | none=>rfl
  | some m=>obtain⟨row,eT⟩:=hs.j6 r m hr;cases eT
 subst fk;refine (h X w vs hs.fits (by simpa using bc) (fun i u x hu hx=>?_) (fun g x hx=>(cY g x hx).sub fun b hb=>nj.2 hb)).mono fun e w' ⟨v,he,hg,hr⟩=>?_
 .exact (hv i u (.d x) hu (by rw[aa3,hx];rfl)).data.sub fun b hb=>nj.2 hb
 .refine⟨v,.d y,eQ,fun _=>none,he,⟨rfl,rfl⟩,.d (hr.sub fun b hb=>nj.1 hb),eu.none fun b hb=>abu (hs.fits b hb) hg.size,hg.size,hg.os,hg.tape,hg.output,fun b hb _=>⟨hg.same b hb,fun ⟨_,_,hh,_⟩=>by cases hh⟩,fun r m hr=>by cases hr⟩
theorem M1 (G:aF) (hM:nh G) (t:Tx) (c:UInt8) (ht:t.length < 2^30):aH prog G 172 [dS t,dS [c]] (.sl (some true) ((eE c t).map fun s=>[dS s])):=by
 obtain⟨m,hm⟩:=hM;refine Cd (fU.of func172 rfl rfl) fun X w vs j8 bc cm cY=>?_
 obtain⟨u,v,rfl⟩:∃ u v,vs = #[u,v]:=by
  match vs,bc with
  | ⟨[u,v]⟩,_=>exact⟨u,v,rfl⟩
 have hu:=(cm 0 u _ rfl rfl).scalar;have hv:=(cm 1 v _ rfl rfl).scalar;subst hu hv;have hL:Lays.n146 prog Tryz.KV:={ Tryz.T5 with };have fG:=Any.strings_Split hL ag (bs t) (bs [c]) m w (by rw[bD];omega) (Gf hm cY) (by rw[bD];simp);refine fG.mono fun e w' ⟨he,hw⟩=>⟨_,he,by rw[hw];exact cT.alloc w _,?_⟩;subst hw;have hlen:=Lib.splitB_all (bs [c]) (by rw[bD];simp) 0 _ (bs t) rfl;have Rj:=W4 c t;have e6:=AA c t;rw[<- M3,IS,<- hlen];refine Mh (fun hx=>Nat.lt_irrefl _ (j8 _ hx)) (aa8 _) (by rw[hlen,Rj];unfold maxLen;omega) fun i hi=>?_;rw[World.cell?_alloc_new];simp[hi]
theorem Ko (c:UInt8):∀ t:Tx,Lib.indexByte t c=Lib.index t [c]
 | []=>rfl
 | x :: t=>by
  unfold Lib.indexByte Lib.index;rw[Ko c t];by_cases h:x=c
  .subst h;simp[List.isPrefixOf]
  .simp[List.isPrefixOf,h,abY h]
theorem WO (G:aF) (t:Tx) (c:UInt8):aH prog G 174 [dS t,.v (.int .u8 c.toNat)] (ab (if c∈t then ((cutAt c t).1.length:Int) else -1)):=by
 refine aH.pa (fU.of func174 rfl rfl) fun X w vs bc cm cY=>?_
 obtain⟨u,v,rfl⟩:∃ u v,vs = #[u,v]:=by
  match vs,bc with
  | ⟨[u,v]⟩,_=>exact⟨u,v,rfl⟩
 have hu:=(cm 0 u _ rfl rfl).scalar;have hv:=(cm 1 v _ rfl rfl).scalar;subst hu hv;have hL:Lays.n217 prog Tryz.KR:={ Tryz.T1 with };have fG:=Any.stringslite_IndexByte hL (bs t) (c.toNat:Int) w
 have e1:Lib.indexByte (bs t).data.toList ((c.toNat:Int).toNat.toUInt8)=if c∈t then ((cutAt c t).1.length:Int) else -1:=by
  have:(c.toNat:Int).toNat.toUInt8=c:=al
  rw[this,cU,Ko];split
  .rename_i h;obtain⟨a,b,rfl,ha⟩:=abN h;rw[vG ha,zb b ha]
  .rename_i h;exact BI h
 rw[e1]at fG;generalize (if c∈t then ((cutAt c t).1.length:Int) else -1)=r at fG ⊢;clear e1
 go_enter func174,ntmps174
 go_wp2_with (go_at_call 224;refine fG.mono ?_;rintro e w' ⟨rfl,rfl⟩)
 go_ret
 exact⟨_,rfl,cT.refl _,.v _⟩
end Go.Proofs.YtoohljflflnbeaaGreatDoor
namespace Go.Proofs.YtoohljflflnbeaaGreatDoor
open Go.Av
theorem w7 {r r':Nat} (hr:r≠r') (l:List (Nat×Row)) (hl:∀ p∈l,p.1≠r'):na r r' (au l)=au (l.map fun p=>(if p.1=r then r' else p.1,p.2.tr (fR r r') (fQ r r'))):=by
 funext q;unfold na
 induction l with
 | nil=>simp[au,List.lookup]
 | cons p l ih=>
  have ih:=ih fun p hp=>hl p (by simp[hp]);have hp:=hl p al;obtain⟨k,row⟩:=p;simp only[au,List.lookup,abj]at ih ⊢;by_cases h1:q=r'
  .subst h1;simp only[if_true]at ih ⊢;by_cases h2:k=r
   .subst h2;simp
   .have a1:(r == k)=false:=by simpa using fun e=>h2 e.symm
    have a2:(q == k)=false:=by simpa using fun e=>hp e.symm
    simp only[h2,if_false,a1,a2];exact ih
  .simp only[h1,if_false]at ih ⊢;by_cases h2:q=r
   .subst h2;simp only[if_true]at ih ⊢;by_cases h3:k=q
    .have a1:(q == r')=false:=by simpa using h1
     simp only[h3,if_true,a1];exact ih
    .have a1:(q == k)=false:=by simpa using fun e=>h3 e.symm
     simp only[h3,if_false,a1];exact ih
   .simp only[h2,if_false]at ih ⊢;by_cases h3:k=r
    .have a1:(q == k)=false:=by rw[h3];simpa using h2
     have a2:(q == r')=false:=by simpa using h1
     simp only[h3,if_true,a2]at a1 ⊢;rw[a1];exact ih
    .simp only[h3,if_false];by_cases h4:q=k
     .subst h4;simp
     .have a1:(q == k)=false:=by simpa using h4
      simp only[a1];exact ih
