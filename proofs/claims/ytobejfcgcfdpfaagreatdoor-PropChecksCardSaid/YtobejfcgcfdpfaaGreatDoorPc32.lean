/- Parts. -/
import Derived.Test.YtobejfcgcfdpfaaGreatDoorPc24
import Derived.Test.YtobejfcgcfdpfaaGreatDoorPc28
import Derived.Test.YtobejfcgcfdpfaaGreatDoorPc29
import Derived.Test.YtobejfcgcfdpfaaGreatDoorPc30
import Derived.Test.YtobejfcgcfdpfaaGreatDoorPc31
import Derived.Shelf.Strings.Trim
set_option linter.unusedSimpArgs false
set_option linter.unusedVariables false
open Go.Proofs.Tryz
namespace Go.Proofs.YtobejfcgcfdpfaaGreatDoor
open Go.Av Go.Shelf Go.RowKit
theorem Gw (w:World):∀ n,cX w (w.drewN n)
 | 0=>cX.refl _
 | n+1=>by
  have h:=Gw w n;have h2:=cX.drew (w.drewN n);exact⟨anQ h.size h2.size,h2.os.trans h.os,h2.tape.trans h.tape,h2.output.trans h.output,fun b hb=>(h2.same b (amN hb h.size)).trans (h.same b hb)⟩
theorem ajZ (G:aB) (l:Tx) (hl:l.length < 2^60):aD prog G 92 [dS l,dS [32]] (dS (Lib.trimB l 32)):=by
 refine aD.tS (iV.of func92 rfl rfl) fun X w vs bp bQ cW=>?_
 obtain⟨a,b,rfl⟩:∃ a b,vs = #[a,b]:=by
  match vs,bp with
  | ⟨[a,b]⟩,_=>exact⟨a,b,rfl⟩
 have ha:=(bQ 0 a _ rfl rfl).scalar;have hb:=(bQ 1 b _ rfl rfl).scalar;subst ha hb;have hL:Lays.n160 prog Tryz.NQ:={ Tryz.NP with };have ju:=Any.strings_Trim_one hL (bs l) 32 bD w (by rw[bX];omega);refine ju.mono fun e w' ⟨he,hw⟩=>⟨_,he,?_,.v _⟩
 rcases hw with rfl | rfl
 .exact cX.refl _
 .exact cX.drew _
theorem N8 {G:aB} {m:Int} {w:World} {X:Nat->Prop} (hm:G 4=some (.ip [ab m])) (cW:∀ g x,G g=some x->RD w X (.pointer (some ⟨g,0,none⟩)) x):w.cell? ⟨4,0,none⟩=some (.int .i64 m):=by
 obtain⟨b',off,f,hp,_,_,fJ,hr⟩:=(cW _ _ hm).sO;have h0:=fJ 0 ak;have h1:=(hr 0 _ rfl).scalar;rw[h1]at h0;injection hp with hp;injection hp with hp;injection hp with jv gZ _;subst jv gZ;exact h0
theorem aiW (G:aB) (hM:ky G) (t:Tx) (c:UInt8) (ht:t.length < 2^30):aD prog G 137 [dS t,dS [c]] (.bz [dS (if c∈t then (cutAt c t).1 else t),dS (if c∈t then (cutAt c t).2 else []),.v (.bool (decide (c∈t)))]):=by
 obtain⟨m,hm⟩:=hM;refine aD.tS (iV.of func137 rfl rfl) fun X w vs bp bQ cW=>?_
 obtain⟨u,v,rfl⟩:∃ u v,vs = #[u,v]:=by
  match vs,bp with
  | ⟨[u,v]⟩,_=>exact⟨u,v,rfl⟩
 have hu:=(bQ 0 u _ rfl rfl).scalar;have hv:=(bQ 1 v _ rfl rfl).scalar;subst hu hv;have hL:Lays.n145 prog Tryz.UA:={ Tryz.ad5 with };have ju:=Any.strings_Cut hL (bs t) (bs [c]) m w (by rw[bX];omega) (N8 hm cW);refine ju.mono fun e w' ⟨he,n,hw⟩=>⟨_,he,by rw[hw];exact Gw w n,?_⟩;rw[dM,dM,aag];refine .bz (by rfl) fun j u x hu hx=>?_;by_cases hc:c∈t
 .simp only[hc,if_true,decide_true]at hu hx
  match j,hu,hx with
  | 0,hu,hx=>simp at hu hx;subst hu hx;exact .v _
  | 1,hu,hx=>simp at hu hx;subst hu hx;exact .v _
  | 2,hu,hx=>simp at hu hx;subst hu hx;exact .v _
  | j+3,hu,hx=>simp at hx
 .simp only[hc,if_false,decide_false]at hu hx
  match j,hu,hx with
  | 0,hu,hx=>simp at hu hx;subst hu hx;exact .v _
  | 1,hu,hx=>simp at hu hx;subst hu hx;exact .v _
  | 2,hu,hx=>simp at hu hx;subst hu hx;exact .v _
  | j+3,hu,hx=>simp at hx
theorem V6 {w:World} {X:Nat->Prop} {b:Nat} {ss:List ByteArray} {cap:Nat} (hX:¬ X b) (hc:ss.length<=cap) (hm:cap<=maxLen) (h:∀ (i:Nat) (hi:i < ss.length),w.cell? ⟨b,i,none⟩=some (.string ss[i])) :
  RD w X (.slice (some ⟨b,0,none⟩) ss.length cap) (.sl (some true) (ss.map fun s=>[dS s.data.toList])):=by
 by_cases h0:ss.length=0
 .obtain rfl:=anI.1 h0;exact .empty ak hm
 .refine .sl (sz:=1) (f:=fun i _=>(w.cell? ⟨b,0+(i * 1+0),none⟩).getD undef) ak ak hc hm hX (fun el bn=>?_) aa aa (fun i j hi hj=>?_) (fun i j el c h1 h2=>?_)
  .obtain⟨s,_,rfl⟩:=amS.1 bn;rfl
  .obtain rfl:j=0:=aa
   have:=h i hi;simp only[anx,anj,amR];rw[this];rfl
  .rw[amm]at h1;obtain⟨s,hs,rfl⟩:=AS.1 h1;obtain⟨hi,rfl⟩:=BY.1 hs
   obtain rfl:j=0:=by
    have:=(BY.1 h2).1;simpa using this
   have:=h i hi;simp at h2;subst h2;simp only[anx,anj,amR];rw[this]
   have e:bs ss[i].data.toList=ss[i]:=by simp[bs]
   unfold dS;rw[e];exact .v _
theorem IY {G:aB} {g:FuncId} {ds:List D} {y:D} (hf:iV prog g)
  (h:∀ (X:Nat->Prop) (w:World) (vs:Array Value),(∀ b,X b->b < w.heap.size)->vs.size=ds.length->(∀ (i:Nat) (u:Value) (x:D),vs[i]? = some u->ds[i]? = some x->RD w X u x)->(∀ g x,G g=some x->RD w X (.pointer (some ⟨g,0,none⟩)) x)->
   Calls prog g vs w fun e w'=>∃ v,e = .returned v/\cX w w'/\RD w' X v y):aD prog G g ds y:=by
 refine⟨hf,fun X w μ vs hs cW bp hv=>?_⟩
 have gS:μ=fun _=>none:=by
  funext r
  cases hr:μ r with
  | none=>rfl
  | some m=>obtain⟨row,eg⟩:=hs.l5 r m hr;cases eg
 subst gS;refine (h X w vs hs.fits (by simpa using bp) (fun i u x hu hx=>?_) (fun g x hx=>(cW g x hx).sub fun b hb=>qv.2 hb)).mono fun e w' ⟨v,he,hg,hr⟩=>?_
 .exact (hv i u (.d x) hu (by rw[amm,hx];rfl)).data.sub fun b hb=>qv.2 hb
 .refine⟨v,.d y,ji,fun _=>none,he,⟨rfl,rfl⟩,.d (hr.sub fun b hb=>qv.1 hb),eT.none fun b hb=>amN (hs.fits b hb) hg.size,hg.size,hg.os,hg.tape,hg.output,fun b hb _=>⟨hg.same b hb,fun ⟨_,_,hh,_⟩=>by cases hh⟩,fun r m hr=>by cases hr⟩
theorem Xg (G:aB) (hM:ky G) (t:Tx) (c:UInt8) (ht:t.length < 2^30):aD prog G 85 [dS t,dS [c]] (.sl (some true) ((fy c t).map fun s=>[dS s])):=by
 obtain⟨m,hm⟩:=hM;refine IY (iV.of func85 rfl rfl) fun X w vs k9 bp bQ cW=>?_
 obtain⟨u,v,rfl⟩:∃ u v,vs = #[u,v]:=by
  match vs,bp with
  | ⟨[u,v]⟩,_=>exact⟨u,v,rfl⟩
 have hu:=(bQ 0 u _ rfl rfl).scalar;have hv:=(bQ 1 v _ rfl rfl).scalar;subst hu hv;have hL:Lays.n146 prog Tryz.UB:={ Tryz.ad6 with };have ju:=Any.strings_Split hL ah (bs t) (bs [c]) m w (by rw[bX];omega) (N8 hm cW) (by rw[bX];simp);refine ju.mono fun e w' ⟨he,hw⟩=>⟨_,he,by rw[hw];exact cX.alloc w _,?_⟩;subst hw;have hlen:=Lib.splitB_all (bs [c]) (by rw[bX];simp) 0 _ (bs t) rfl;have mL:=ajf c t;have cH:=Gt c t;rw[<- Xh,amk,<- hlen];refine V6 (fun hx=>Nat.lt_irrefl _ (k9 _ hx)) (amh _) (by rw[hlen,mL];unfold maxLen;omega) fun i hi=>?_;rw[World.cell?_alloc_new];simp[hi]
theorem Uc (c:UInt8):∀ t:Tx,Lib.indexByte t c=Lib.index t [c]
 | []=>rfl
 | x :: t=>by
  unfold Lib.indexByte Lib.index;rw[Uc c t];by_cases h:x=c
  .subst h;simp[List.isPrefixOf]
  .simp[List.isPrefixOf,h,ann h]
theorem ai2 (G:aB) (t:Tx) (c:UInt8):aD prog G 87 [dS t,.v (.int .u8 c.toNat)] (ab (if c∈t then ((cutAt c t).1.length:Int) else -1)):=by
 refine aD.tS (iV.of func87 rfl rfl) fun X w vs bp bQ cW=>?_
 obtain⟨u,v,rfl⟩:∃ u v,vs = #[u,v]:=by
  match vs,bp with
  | ⟨[u,v]⟩,_=>exact⟨u,v,rfl⟩
 have hu:=(bQ 0 u _ rfl rfl).scalar;have hv:=(bQ 1 v _ rfl rfl).scalar;subst hu hv;have hL:Lays.n217 prog Tryz.Ux:={ Tryz.ad2 with };have ju:=Any.stringslite_IndexByte hL (bs t) (c.toNat:Int) w
 have e1:Lib.indexByte (bs t).data.toList ((c.toNat:Int).toNat.toUInt8)=if c∈t then ((cutAt c t).1.length:Int) else -1:=by
  have:(c.toNat:Int).toNat.toUInt8=c:=ak
  rw[this,dM,Uc];split
  .rename_i h;obtain⟨a,b,rfl,ha⟩:=ana h;rw[Bb ha,ER b ha]
  .rename_i h;exact Ig h
 rw[e1]at ju;generalize (if c∈t then ((cutAt c t).1.length:Int) else -1)=r at ju ⊢;clear e1
 go_enter func87,ntmps87
 go_wp2_with (go_at_call 124;refine ju.mono ?_;rintro e w' ⟨rfl,rfl⟩)
 go_ret
 exact⟨_,rfl,cX.refl _,.v _⟩
