/- Parts. -/
import Derived.Test.YtoohljflflnbeaaGreatDoorBo24
import Derived.Test.YtoohljflflnbeaaGreatDoorBo28
import Derived.Test.YtoohljflflnbeaaGreatDoorBo29
import Derived.Test.YtoohljflflnbeaaGreatDoorBo30
import Derived.Test.YtoohljflflnbeaaGreatDoorBo31
import Derived.Shelf.Strings.Trim
set_option linter.unusedSimpArgs false
set_option linter.unusedVariables false
open Go.Proofs.Tryz
namespace Go.Proofs.YtoohljflflnbeaaGreatDoor
open Go.Av Go.Shelf Go.RowKit
theorem DA (w:World):∀ n,cR w (w.drewN n)
 | 0=>cR.refl _
 | n+1=>by
  have h:=DA w n;have h2:=cR.drew (w.drewN n);exact⟨ah5 h.size h2.size,h2.os.trans h.os,h2.tape.trans h.tape,h2.output.trans h.output,fun b hb=>(h2.same b (ag2 hb h.size)).trans (h.same b hb)⟩
theorem aey (G:aC) (l:Tx) (hl:l.length < 2^60):aD prog G 179 [dS l,dS [32]] (dS (Lib.trimB l 32)):=by
 refine aD.rJ (gS.of func179 rfl rfl) fun X w vs bg cf dz=>?_
 obtain⟨a,b,rfl⟩:∃ a b,vs = #[a,b]:=by
  match vs,bg with
  | ⟨[a,b]⟩,_=>exact⟨a,b,rfl⟩
 have ha:=(cf 0 a _ rfl rfl).scalar;have hb:=(cf 1 b _ rfl rfl).scalar;subst ha hb;have hL:Lays.n160 prog Tryz.Jj:={ Tryz.Ji with };have iF:=Any.strings_Trim_one hL (bs l) 32 bO w (by rw[bQ];omega);refine iF.mono fun e w' ⟨he,hw⟩=>⟨_,he,?_,.v _⟩
 rcases hw with rfl | rfl
 .exact cR.refl _
 .exact cR.drew _
theorem Jv {G:aC} {m:Int} {w:World} {X:Nat->Prop} (hm:G 5=some (.ip [ab m])) (dz:∀ g x,G g=some x->RD w X (.pointer (some ⟨g,0,none⟩)) x):w.cell? ⟨5,0,none⟩=some (.int .i64 m):=by
 obtain⟨b',off,f,hp,_,_,ea,hr⟩:=(dz _ _ hm).qK;have h0:=ea 0 ak;have h1:=(hr 0 _ rfl).scalar;rw[h1]at h0;injection hp with hp;injection hp with hp;injection hp with eb fb _;subst eb fb;exact h0
theorem adF (G:aC) (hM:j3 G) (t:Tx) (c:UInt8) (ht:t.length < 2^30):aD prog G 236 [dS t,dS [c]] (.bx [dS (if c∈t then (cutAt c t).1 else t),dS (if c∈t then (cutAt c t).2 else []),.v (.bool (decide (c∈t)))]):=by
 obtain⟨m,hm⟩:=hM;refine aD.rJ (gS.of func236 rfl rfl) fun X w vs bg cf dz=>?_
 obtain⟨u,v,rfl⟩:∃ u v,vs = #[u,v]:=by
  match vs,bg with
  | ⟨[u,v]⟩,_=>exact⟨u,v,rfl⟩
 have hu:=(cf 0 u _ rfl rfl).scalar;have hv:=(cf 1 v _ rfl rfl).scalar;subst hu hv;have hL:Lays.n145 prog Tryz.O4:={ Tryz.aaI with };have iF:=Any.strings_Cut hL (bs t) (bs [c]) m w (by rw[bQ];omega) (Jv hm dz);refine iF.mono fun e w' ⟨he,n,hw⟩=>⟨_,he,by rw[hw];exact DA w n,?_⟩;rw[dk,dk,V1];refine .bx (by rfl) fun j u x hu hx=>?_;by_cases hc:c∈t
 .simp only[hc,if_true,decide_true]at hu hx
  match j,hu,hx with
  | 0,hu,hx=>simp at hu hx;subst hu hx;exact .v _
  | 1,hu,hx=>simp at hu hx;subst hu hx;exact .v _
  | 2,hu,hx=>simp at hu hx;subst hu hx;exact .v _
  | j+3,hu,hx=>simp at hx
 .simp only[hc,if_false,decide_false]at hu hx
  match j,hu,hx with
  | 0,hu,hx=>simp at hu hx;subst hu hx;exact .v _
  | 1,hu,hx=>simp at hu hx;subst hu hx;exact .v _
  | 2,hu,hx=>simp at hu hx;subst hu hx;exact .v _
  | j+3,hu,hx=>simp at hx
theorem Qy {w:World} {X:Nat->Prop} {b:Nat} {ss:List ByteArray} {cap:Nat} (hX:¬ X b) (hc:ss.length<=cap) (hm:cap<=maxLen) (h:∀ (i:Nat) (hi:i < ss.length),w.cell? ⟨b,i,none⟩=some (.string ss[i])) :
  RD w X (.slice (some ⟨b,0,none⟩) ss.length cap) (.sl (some true) (ss.map fun s=>[dS s.data.toList])):=by
 by_cases h0:ss.length=0
 .obtain rfl:=ahV.1 h0;exact .empty ak hm
 .refine .sl (sz:=1) (f:=fun i _=>(w.cell? ⟨b,0+(i * 1+0),none⟩).getD undef) ak ak hc hm hX (fun el bz=>?_) aa aa (fun i j hi hj=>?_) (fun i j el c h1 h2=>?_)
  .obtain⟨s,_,rfl⟩:=ag3.1 bz;rfl
  .obtain rfl:j=0:=aa
   have:=h i hi;simp only[ahK,ahB,ag4];rw[this];rfl
  .rw[agC]at h1;obtain⟨s,hs,rfl⟩:=AS.1 h1;obtain⟨hi,rfl⟩:=BY.1 hs
   obtain rfl:j=0:=by
    have:=(BY.1 h2).1;simpa using this
   have:=h i hi;simp at h2;subst h2;simp only[ahK,ahB,ag4];rw[this]
   have e:bs ss[i].data.toList=ss[i]:=by simp[bs]
   unfold dS;rw[e];exact .v _
theorem Fk {G:aC} {g:FuncId} {ds:List D} {y:D} (hf:gS prog g)
  (h:∀ (X:Nat->Prop) (w:World) (vs:Array Value),(∀ b,X b->b < w.heap.size)->vs.size=ds.length->(∀ (i:Nat) (u:Value) (x:D),vs[i]? = some u->ds[i]? = some x->RD w X u x)->(∀ g x,G g=some x->RD w X (.pointer (some ⟨g,0,none⟩)) x)->
   Calls prog g vs w fun e w'=>∃ v,e = .returned v/\cR w w'/\RD w' X v y):aD prog G g ds y:=by
 refine⟨hf,fun X w μ vs hs dz bg hv=>?_⟩
 have gb:μ=fun _=>none:=by
  funext r
  cases hr:μ r with
  | none=>rfl
  | some m=>obtain⟨row,dX⟩:=hs.lD r m hr;cases dX
 subst gb;refine (h X w vs hs.fits (by simpa using bg) (fun i u x hu hx=>?_) (fun g x hx=>(dz g x hx).sub fun b hb=>o6.2 hb)).mono fun e w' ⟨v,he,hg,hr⟩=>?_
 .exact (hv i u (.d x) hu (by rw[agC,hx];rfl)).data.sub fun b hb=>o6.2 hb
 .refine⟨v,.d y,jc,fun _=>none,he,⟨rfl,rfl⟩,.d (hr.sub fun b hb=>o6.1 hb),eF.none fun b hb=>ag2 (hs.fits b hb) hg.size,hg.size,hg.os,hg.tape,hg.output,fun b hb _=>⟨hg.same b hb,fun ⟨_,_,hh,_⟩=>by cases hh⟩,fun r m hr=>by cases hr⟩
theorem Ry (G:aC) (hM:j3 G) (t:Tx) (c:UInt8) (ht:t.length < 2^30):aD prog G 172 [dS t,dS [c]] (.sl (some true) ((eV c t).map fun s=>[dS s])):=by
 obtain⟨m,hm⟩:=hM;refine Fk (gS.of func172 rfl rfl) fun X w vs lK bg cf dz=>?_
 obtain⟨u,v,rfl⟩:∃ u v,vs = #[u,v]:=by
  match vs,bg with
  | ⟨[u,v]⟩,_=>exact⟨u,v,rfl⟩
 have hu:=(cf 0 u _ rfl rfl).scalar;have hv:=(cf 1 v _ rfl rfl).scalar;subst hu hv;have hL:Lays.n146 prog Tryz.O5:={ Tryz.aaJ with };have iF:=Any.strings_Split hL ah (bs t) (bs [c]) m w (by rw[bQ];omega) (Jv hm dz) (by rw[bQ];simp);refine iF.mono fun e w' ⟨he,hw⟩=>⟨_,he,by rw[hw];exact cR.alloc w _,?_⟩;subst hw;have hlen:=Lib.splitB_all (bs [c]) (by rw[bQ];simp) 0 _ (bs t) rfl;have nd:=adY c t;have cN:=Dx c t;rw[<- Rz,agF,<- hlen];refine Qy (fun hx=>Nat.lt_irrefl _ (lK _ hx)) (agD _) (by rw[hlen,nd];unfold maxLen;omega) fun i hi=>?_;rw[World.cell?_alloc_new];simp[hi]
theorem OH (c:UInt8):∀ t:Tx,Lib.indexByte t c=Lib.index t [c]
 | []=>rfl
 | x :: t=>by
  unfold Lib.indexByte Lib.index;rw[OH c t];by_cases h:x=c
  .subst h;simp[List.isPrefixOf]
  .simp[List.isPrefixOf,h,ahD h]
theorem adL (G:aC) (t:Tx) (c:UInt8):aD prog G 174 [dS t,.v (.int .u8 c.toNat)] (ab (if c∈t then ((cutAt c t).1.length:Int) else -1)):=by
 refine aD.rJ (gS.of func174 rfl rfl) fun X w vs bg cf dz=>?_
 obtain⟨u,v,rfl⟩:∃ u v,vs = #[u,v]:=by
  match vs,bg with
  | ⟨[u,v]⟩,_=>exact⟨u,v,rfl⟩
 have hu:=(cf 0 u _ rfl rfl).scalar;have hv:=(cf 1 v _ rfl rfl).scalar;subst hu hv;have hL:Lays.n217 prog Tryz.O1:={ Tryz.aaF with };have iF:=Any.stringslite_IndexByte hL (bs t) (c.toNat:Int) w
 have e1:Lib.indexByte (bs t).data.toList ((c.toNat:Int).toNat.toUInt8)=if c∈t then ((cutAt c t).1.length:Int) else -1:=by
  have:(c.toNat:Int).toNat.toUInt8=c:=ak
  rw[this,dk,OH];split
  .rename_i h;obtain⟨a,b,rfl,ha⟩:=ahj h;rw[yx ha,B6 b ha]
  .rename_i h;exact EL h
 rw[e1]at iF;generalize (if c∈t then ((cutAt c t).1.length:Int) else -1)=r at iF ⊢;clear e1
 go_enter func174,ntmps174
 go_wp2_with (go_at_call 224;refine iF.mono ?_;rintro e w' ⟨rfl,rfl⟩)
 go_ret
 exact⟨_,rfl,cR.refl _,.v _⟩
