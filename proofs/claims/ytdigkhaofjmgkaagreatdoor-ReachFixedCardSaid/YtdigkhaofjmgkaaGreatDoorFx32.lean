/- Parts. -/
import Derived.Test.YtdigkhaofjmgkaaGreatDoorFx24
import Derived.Test.YtdigkhaofjmgkaaGreatDoorFx28
import Derived.Test.YtdigkhaofjmgkaaGreatDoorFx29
import Derived.Test.YtdigkhaofjmgkaaGreatDoorFx30
import Derived.Test.YtdigkhaofjmgkaaGreatDoorFx31
import Derived.Shelf.Strings.Trim
set_option linter.unusedSimpArgs false
set_option linter.unusedVariables false
open Go.Proofs.Tryz
namespace Go.Proofs.YtdigkhaofjmgkaaGreatDoor
open Go.Av Go.Shelf Go.RowKit
theorem yX (w:World):∀ n,bZ w (w.drewN n)
 | 0=>bZ.refl _
 | n+1=>by
  have h:=yX w n;have h2:=bZ.drew (w.drewN n);exact⟨aew h.size h2.size,h2.os.trans h.os,h2.tape.trans h.tape,h2.output.trans h.output,fun b hb=>(h2.same b (acP hb h.size)).trans (h.same b hb)⟩
theorem ZI (G:aq) (l:Tx) (hl:l.length < 2^60):ar prog G 121 [dS l,dS [32]] (dS (Lib.trimB l 32)):=by
 refine ar.nV (fe.of func121 rfl rfl) fun X w vs aK bD hgl=>?_
 obtain⟨a,b,rfl⟩:∃ a b,vs = #[a,b]:=by
  match vs,aK with
  | ⟨[a,b]⟩,_=>exact⟨a,b,rfl⟩
 have ha:=(bD 0 a _ rfl rfl).scalar;have hb:=(bD 1 b _ rfl rfl).scalar;subst ha hb;have hL:Lays.n160 prog Tryz.Ez:={ Tryz.Ey with };have fC:=Any.strings_Trim_one hL (bs l) 32 (by decide) w (by rw[bl];omega);refine fC.mono fun e w' ⟨he,hw⟩=>⟨_,he,?_,.v _⟩
 rcases hw with rfl | rfl
 .exact bZ.refl _
 .exact bZ.drew _
theorem EK {G:aq} {m:Int} {w:World} {X:Nat->Prop} (hm:G 4=some (.ip [ab m])) (hgl:∀ g x,G g=some x->RD w X (.pointer (some ⟨g,0,none⟩)) x):w.cell? ⟨4,0,none⟩=some (.int .i64 m):=by
 obtain⟨b',off,f,hp,_,_,cI,hr⟩:=(hgl _ _ hm).aeN;have h0:=cI 0 (by simp);have h1:=(hr 0 _ rfl).scalar;rw[h1]at h0;injection hp with hp;injection hp with hp;injection hp with hp1 ey _;subst hp1 ey;exact h0
theorem YH (G:aq) (hM:adP G) (t:Tx) (c:UInt8) (ht:t.length < 2^30):ar prog G 173 [dS t,dS [c]] (.aW [dS (if c∈t then (cutAt c t).1 else t),dS (if c∈t then (cutAt c t).2 else []),.v (.bool (decide (c∈t)))]):=by
 obtain⟨m,hm⟩:=hM;refine ar.nV (fe.of func173 rfl rfl) fun X w vs aK bD hgl=>?_
 obtain⟨u,v,rfl⟩:∃ u v,vs = #[u,v]:=by
  match vs,aK with
  | ⟨[u,v]⟩,_=>exact⟨u,v,rfl⟩
 have hu:=(bD 0 u _ rfl rfl).scalar;have hv:=(bD 1 v _ rfl rfl).scalar;subst hu hv;have hL:Lays.n145 prog Tryz.J3:={ Tryz.TX with };have fC:=Any.strings_Cut hL (bs t) (bs [c]) m w (by rw[bl];omega) (EK hm hgl);refine fC.mono fun e w' ⟨he,n,hw⟩=>⟨_,he,by rw[hw];exact yX w n,?_⟩;rw[cj,cj,O3];refine .aW (by rfl) fun j u x hu hx=>?_;by_cases hc:c∈t
 .simp only[hc,if_true,decide_true]at hu hx
  match j,hu,hx with
  | 0,hu,hx=>simp at hu hx;subst hu hx;exact .v _
  | 1,hu,hx=>simp at hu hx;subst hu hx;exact .v _
  | 2,hu,hx=>simp at hu hx;subst hu hx;exact .v _
  | j+3,hu,hx=>simp at hx
 .simp only[hc,if_false,decide_false]at hu hx
  match j,hu,hx with
  | 0,hu,hx=>simp at hu hx;subst hu hx;exact .v _
  | 1,hu,hx=>simp at hu hx;subst hu hx;exact .v _
  | 2,hu,hx=>simp at hu hx;subst hu hx;exact .v _
  | j+3,hu,hx=>simp at hx
theorem Li {w:World} {X:Nat->Prop} {b:Nat} {ss:List ByteArray} {cap:Nat} (hX:¬ X b) (hc:ss.length<=cap) (hm:cap<=maxLen) (h:∀ (i:Nat) (hi:i < ss.length),w.cell? ⟨b,i,none⟩=some (.string ss[i])) :
  RD w X (.slice (some ⟨b,0,none⟩) ss.length cap) (.sl (some true) (ss.map fun s=>[dS s.data.toList])):=by
 by_cases h0:ss.length=0
 .obtain rfl:=aeu.1 h0;exact .empty (by simp) hm
 .refine .sl (sz:=1) (f:=fun i _=>(w.cell? ⟨b,0+(i * 1+0),none⟩).getD undef) (by simp) (by simp) hc hm hX (fun el hel=>?_) (by omega) (by omega) (fun i j hi hj=>?_) (fun i j el c h1 h2=>?_)
  .obtain⟨s,_,rfl⟩:=acD.1 hel;rfl
  .obtain rfl:j=0:=by omega
   have:=h i hi;simp only[aen,adF,acR];rw[this];rfl
  .rw[abM]at h1;obtain⟨s,hs,rfl⟩:=AT.1 h1;obtain⟨hi,rfl⟩:=OF.1 hs
   obtain rfl:j=0:=by
    have:=(OF.1 h2).1;simpa using this
   have:=h i hi;simp at h2;subst h2;simp only[aen,adF,acR];rw[this]
   have e:bs ss[i].data.toList=ss[i]:=by simp[bs]
   unfold dS;rw[e];exact .v _
theorem AM {G:aq} {g:FuncId} {ds:List D} {y:D} (hf:fe prog g)
  (h:∀ (X:Nat->Prop) (w:World) (vs:Array Value),(∀ b,X b->b < w.heap.size)->vs.size=ds.length->(∀ (i:Nat) (u:Value) (x:D),vs[i]? = some u->ds[i]? = some x->RD w X u x)->(∀ g x,G g=some x->RD w X (.pointer (some ⟨g,0,none⟩)) x)->
   Calls prog g vs w fun e w'=>∃ v,e = .returned v/\bZ w w'/\RD w' X v y):ar prog G g ds y:=by
 refine⟨hf,fun X w μ vs hs hgl aK hv=>?_⟩
 have eo:μ=fun _=>none:=by
  funext r
  cases hr:μ r with
  | none=>rfl
  | some m=>obtain⟨row,cF⟩:=hs.iy r m hr;cases cF
 subst eo;refine (h X w vs hs.fits (by simpa using aK) (fun i u x hu hx=>?_) (fun g x hx=>(hgl g x hx).sub fun b hb=>k8.2 hb)).mono fun e w' ⟨v,he,hg,hr⟩=>?_
 .exact (hv i u (.d x) hu (by rw[abM,hx];rfl)).data.sub fun b hb=>k8.2 hb
 .refine⟨v,.d y,fD,fun _=>none,he,⟨rfl,rfl⟩,.d (hr.sub fun b hb=>k8.1 hb),Sim.none fun b hb=>acP (hs.fits b hb) hg.size,hg.size,hg.os,hg.tape,hg.output,fun b hb _=>⟨hg.same b hb,fun ⟨_,_,hh,_⟩=>by cases hh⟩,fun r m hr=>by cases hr⟩
theorem Md (G:aq) (hM:adP G) (t:Tx) (c:UInt8) (ht:t.length < 2^30):ar prog G 114 [dS t,dS [c]] (.sl (some true) ((acx c t).map fun s=>[dS s])):=by
 obtain⟨m,hm⟩:=hM;refine AM (fe.of func114 rfl rfl) fun X w vs iD aK bD hgl=>?_
 obtain⟨u,v,rfl⟩:∃ u v,vs = #[u,v]:=by
  match vs,aK with
  | ⟨[u,v]⟩,_=>exact⟨u,v,rfl⟩
 have hu:=(bD 0 u _ rfl rfl).scalar;have hv:=(bD 1 v _ rfl rfl).scalar;subst hu hv;have hL:Lays.n146 prog Tryz.J4:={ Tryz.TY with };have fC:=Any.strings_Split hL (by kernel_rfl) (bs t) (bs [c]) m w (by rw[bl];omega) (EK hm hgl) (by rw[bl];simp);refine fC.mono fun e w' ⟨he,hw⟩=>⟨_,he,by rw[hw];exact bZ.alloc w _,?_⟩;subst hw;have hlen:=Lib.splitB_all (bs [c]) (by rw[bl];simp) 0 _ (bs t) rfl;have jM:=Y0 c t;have hcl:=yV c t;rw[<- Me,abU,<- hlen];refine Li (fun hx=>Nat.lt_irrefl _ (iD _ hx)) (abL _) (by rw[hlen,jM];unfold maxLen;omega) fun i hi=>?_;rw[World.cell?_alloc_new];simp[hi]
theorem JF (c:UInt8):∀ t:Tx,Lib.indexByte t c=Lib.index t [c]
 | []=>rfl
 | x :: t=>by
  unfold Lib.indexByte Lib.index;rw[JF c t];by_cases h:x=c
  .subst h;simp[List.isPrefixOf]
  .simp[List.isPrefixOf,h,adr h]
theorem YM (G:aq) (t:Tx) (c:UInt8):ar prog G 116 [dS t,.v (.int .u8 c.toNat)] (ab (if c∈t then ((cutAt c t).1.length:Int) else -1)):=by
 refine ar.nV (fe.of func116 rfl rfl) fun X w vs aK bD hgl=>?_
 obtain⟨u,v,rfl⟩:∃ u v,vs = #[u,v]:=by
  match vs,aK with
  | ⟨[u,v]⟩,_=>exact⟨u,v,rfl⟩
 have hu:=(bD 0 u _ rfl rfl).scalar;have hv:=(bD 1 v _ rfl rfl).scalar;subst hu hv;have hL:Lays.n217 prog Tryz.J0:={ Tryz.TU with };have fC:=Any.stringslite_IndexByte hL (bs t) (c.toNat:Int) w
 have e1:Lib.indexByte (bs t).data.toList ((c.toNat:Int).toNat.toUInt8)=if c∈t then ((cutAt c t).1.length:Int) else -1:=by
  have:(c.toNat:Int).toNat.toUInt8=c:=by simp
  rw[this,cj,JF];split
  .rename_i h;obtain⟨a,b,rfl,ha⟩:=adm h;rw[tM ha,xA b ha]
  .rename_i h;exact z7 h
 rw[e1]at fC;generalize (if c∈t then ((cutAt c t).1.length:Int) else -1)=r at fC ⊢;clear e1
 go_enter func116,ntmps116
 go_wp2_with (go_at_call 160;refine fC.mono ?_;rintro e w' ⟨rfl,rfl⟩)
 go_ret
 exact⟨_,rfl,bZ.refl _,.v _⟩
