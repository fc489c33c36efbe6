/-
  Texts that belong together,in one file: LB1.
-/
import Derived.Test.YtdigkhaofjmgkaaGreatDoorMk24
import Derived.Test.YtdigkhaofjmgkaaGreatDoorMk28
import Derived.Test.YtdigkhaofjmgkaaGreatDoorMk29
import Derived.Test.YtdigkhaofjmgkaaGreatDoorMk30
import Derived.Test.YtdigkhaofjmgkaaGreatDoorMk31
import Derived.Shelf.Strings.Trim
set_option linter.unusedSimpArgs false
set_option linter.unusedVariables false
namespace Go.Proofs.YtdigkhaofjmgkaaGreatDoor
open Go.Av Go.Shelf Go.RowKit
theorem xM (w:World):∀ n,bU w (w.drewN n)
 | 0=>bU.refl _
 | n+1=>by
  have h:=xM w n;have h2:=bU.drew (w.drewN n);exact ⟨Nat.le_trans h.size h2.size,h2.os.trans h.os,h2.tape.trans h.tape,h2.output.trans h.output,fun b hb=>(h2.same b (Nat.lt_of_lt_of_le hb h.size)).trans (h.same b hb)⟩
theorem Xq (G:ao) (l:Tx) (hl:l.length < 2^60):aw Tryz.prog G 121 [dS l,dS [32]] (dS (Lib.trimB l 32)):=by
 refine aw.mM (eU.of Tryz.func121 rfl rfl) fun X w vs aI bz b8=>?_
 obtain ⟨a,b,rfl⟩:∃ a b,vs = #[a,b]:=by
  match vs,aI with
  | ⟨[a,b]⟩,_=>exact ⟨a,b,rfl⟩
 have ha:=(bz 0 a _ rfl rfl).scalar;have hb:=(bz 1 b _ rfl rfl).scalar;subst ha hb;have hL:Lays.n160 Tryz.prog Tryz.Dw:={ Tryz.Dv with };have fj:=Any.strings_Trim_one hL (bs l) 32 (by decide) w (by rw [bh];omega);refine fj.mono fun e w' ⟨he,hw⟩=>⟨_,he,?_,.v _⟩
 rcases hw with rfl | rfl
 .exact bU.refl _
 .exact bU.drew _
theorem DH {G:ao} {m:Int} {w:World} {X:Nat->Prop} (hm:G 4=some (.ip [ab m])) (b8:∀ g x,G g=some x->RD w X (.pointer (some ⟨g,0,none⟩)) x):w.cell? ⟨4,0,none⟩=some (.int .i64 m):=by
 obtain ⟨b',off,f,hp,_,_,aaB,hr⟩:=(b8 _ _ hm).acF;have h0:=aaB 0 (by simp);have h1:=(hr 0 _ rfl).scalar;rw [h1] at h0;injection hp with hp;injection hp with hp;injection hp with gv eZ _;subst gv eZ;exact h0
theorem Ww (G:ao) (hM:abJ G) (t:Tx) (c:UInt8) (ht:t.length < 2^30):aw Tryz.prog G 173 [dS t,dS [c]] (.Z4 [dS (if c∈t then (cutAt c t).1 else t),dS (if c∈t then (cutAt c t).2 else []),.v (.bool (decide (c∈t)))]):=by
 obtain ⟨m,hm⟩:=hM;refine aw.mM (eU.of Tryz.func173 rfl rfl) fun X w vs aI bz b8=>?_
 obtain ⟨u,v,rfl⟩:∃ u v,vs = #[u,v]:=by
  match vs,aI with
  | ⟨[u,v]⟩,_=>exact ⟨u,v,rfl⟩
 have hu:=(bz 0 u _ rfl rfl).scalar;have hv:=(bz 1 v _ rfl rfl).scalar;subst hu hv;have hL:Lays.n145 Tryz.prog Tryz.Iq:={ Tryz.afS with };have fj:=Any.strings_Cut hL (bs t) (bs [c]) m w (by rw [bh];omega) (DH hm b8);refine fj.mono fun e w' ⟨he,n,hw⟩=>⟨_,he,by rw [hw];exact xM w n,?_⟩;rw [aao,aao,Nj];refine .Z4 (by rfl) fun j u x hu hx=>?_;by_cases hc:c∈t
 .simp only [hc,if_true,decide_true] at hu hx
  match j,hu,hx with
  | 0,hu,hx=>simp at hu hx;subst hu hx;exact .v _
  | 1,hu,hx=>simp at hu hx;subst hu hx;exact .v _
  | 2,hu,hx=>simp at hu hx;subst hu hx;exact .v _
  | j+3,hu,hx=>simp at hx
 .simp only [hc,if_false,decide_false] at hu hx
  match j,hu,hx with
  | 0,hu,hx=>simp at hu hx;subst hu hx;exact .v _
  | 1,hu,hx=>simp at hu hx;subst hu hx;exact .v _
  | 2,hu,hx=>simp at hu hx;subst hu hx;exact .v _
  | j+3,hu,hx=>simp at hx
theorem JN {w:World} {X:Nat->Prop} {b:Nat} {ss:List ByteArray} {cap:Nat} (hX:¬ X b) (hc:ss.length<=cap) (hm:cap<=maxLen) (h:∀ (i:Nat) (hi:i < ss.length),w.cell? ⟨b,i,none⟩=some (.string ss[i])) :
  RD w X (.slice (some ⟨b,0,none⟩) ss.length cap) (.sl (some true) (ss.map fun s=>[dS s.data.toList])):=by
 by_cases h0:ss.length=0
 .obtain rfl:=List.length_eq_zero_iff.1 h0;exact .empty (by simp) hm
 .refine .sl (sz:=1) (f:=fun i _=>(w.cell? ⟨b,0+(i * 1+0),none⟩).getD undef) (by simp) (by simp) hc hm hX (fun el ba=>?_) (by omega) (by omega) (fun i j hi hj=>?_) (fun i j el c h1 h2=>?_)
  .obtain ⟨s,_,rfl⟩:=List.mem_map.1 ba;rfl
  .obtain rfl:j=0:=by omega
   have:=h i hi;simp only [Nat.mul_one,Nat.add_zero,Nat.zero_add];rw [this];rfl
  .rw [List.getElem?_map] at h1;obtain ⟨s,hs,rfl⟩:=Option.map_eq_some_iff.1 h1;obtain ⟨hi,rfl⟩:=List.getElem?_eq_some_iff.1 hs
   obtain rfl:j=0:=by
    have:=(List.getElem?_eq_some_iff.1 h2).1;simpa using this
   have:=h i hi;simp at h2;subst h2;simp only [Nat.mul_one,Nat.add_zero,Nat.zero_add];rw [this]
   have e:bs ss[i].data.toList=ss[i]:=by simp [bs]
   unfold dS;rw [e];exact .v _
theorem zv {G:ao} {g:FuncId} {ds:List D} {y:D} (hf:eU Tryz.prog g)
  (h:∀ (X:Nat->Prop) (w:World) (vs:Array Value),(∀ b,X b->b < w.heap.size)->vs.size=ds.length->(∀ (i:Nat) (u:Value) (x:D),vs[i]? = some u->ds[i]? = some x->RD w X u x)->(∀ g x,G g=some x->RD w X (.pointer (some ⟨g,0,none⟩)) x)->
   Calls Tryz.prog g vs w fun e w'=>∃ v,e = .returned v/\bU w w'/\RD w' X v y):aw Tryz.prog G g ds y:=by
 refine ⟨hf,fun X w μ vs hs b8 aI hv=>?_⟩
 have eb:μ=fun _=>none:=by
  funext r
  cases hr:μ r with
  | none=>rfl
  | some m=>obtain ⟨row,cz⟩:=hs.dom r m hr;cases cz
 subst eb;refine (h X w vs hs.fits (by simpa using aI) (fun i u x hu hx=>?_) (fun g x hx=>(b8 g x hx).sub fun b hb=>kD.2 hb)).mono fun e w' ⟨v,he,hg,hr⟩=>?_
 .exact (hv i u (.d x) hu (by rw [List.getElem?_map,hx];rfl)).data.sub fun b hb=>kD.2 hb
 .refine ⟨v,.d y,eA,fun _=>none,he,⟨rfl,rfl⟩,.d (hr.sub fun b hb=>kD.1 hb),cK.none fun b hb=>Nat.lt_of_lt_of_le (hs.fits b hb) hg.size,hg.size,hg.os,hg.tape,hg.output,fun b hb _=>⟨hg.same b hb,fun ⟨_,_,hh,_⟩=>by cases hh⟩,fun r m hr=>by cases hr⟩
theorem KF (G:ao) (hM:abJ G) (t:Tx) (c:UInt8) (ht:t.length < 2^30):aw Tryz.prog G 114 [dS t,dS [c]] (.sl (some true) ((cU c t).map fun s=>[dS s])):=by
 obtain ⟨m,hm⟩:=hM;refine zv (eU.of Tryz.func114 rfl rfl) fun X w vs ic aI bz b8=>?_
 obtain ⟨u,v,rfl⟩:∃ u v,vs = #[u,v]:=by
  match vs,aI with
  | ⟨[u,v]⟩,_=>exact ⟨u,v,rfl⟩
 have hu:=(bz 0 u _ rfl rfl).scalar;have hv:=(bz 1 v _ rfl rfl).scalar;subst hu hv;have hL:Lays.n146 Tryz.prog Tryz.Ir:={ Tryz.R3 with };have fj:=Any.strings_Split hL (by kernel_rfl) (bs t) (bs [c]) m w (by rw [bh];omega) (DH hm b8) (by rw [bh];simp);refine fj.mono fun e w' ⟨he,hw⟩=>⟨_,he,by rw [hw];exact bU.alloc w _,?_⟩;subst hw;have hlen:=Lib.splitB_all (bs [c]) (by rw [bh];simp) 0 _ (bs t) rfl;have iy:=WN c t;have hcl:=xK c t;rw [<- KG,List.map_map,<- hlen];refine JN (fun hx=>Nat.lt_irrefl _ (ic _ hx)) (Nat.le_refl _) (by rw [hlen,iy];unfold maxLen;omega) fun i hi=>?_;rw [World.cell?_alloc_new];simp [hi]
theorem HZ (c:UInt8):∀ t:Tx,Lib.indexByte t c=Lib.index t [c]
 | []=>rfl
 | x :: t=>by
  unfold Lib.indexByte Lib.index;rw [HZ c t];by_cases h:x=c
  .subst h;simp [List.isPrefixOf]
  .simp [List.isPrefixOf,h,Ne.symm h]
theorem WA (G:ao) (t:Tx) (c:UInt8):aw Tryz.prog G 116 [dS t,.v (.int .u8 c.toNat)] (ab (if c∈t then ((cutAt c t).1.length:Int) else -1)):=by
 refine aw.mM (eU.of Tryz.func116 rfl rfl) fun X w vs aI bz b8=>?_
 obtain ⟨u,v,rfl⟩:∃ u v,vs = #[u,v]:=by
  match vs,aI with
  | ⟨[u,v]⟩,_=>exact ⟨u,v,rfl⟩
 have hu:=(bz 0 u _ rfl rfl).scalar;have hv:=(bz 1 v _ rfl rfl).scalar;subst hu hv;have hL:Lays.n217 Tryz.prog Tryz.Im:={ Tryz.RZ with };have fj:=Any.stringslite_IndexByte hL (bs t) (c.toNat:Int) w
 have e1:Lib.indexByte (bs t).data.toList ((c.toNat:Int).toNat.toUInt8)=if c∈t then ((cutAt c t).1.length:Int) else -1:=by
  have:(c.toNat:Int).toNat.toUInt8=c:=by simp
  rw [this,aao,HZ];split
  .rename_i h;obtain ⟨a,b,rfl,ha⟩:=List.eq_append_cons_of_mem h;rw [sr ha,wm b ha]
  .rename_i h;exact yW h
 rw [e1] at fj;generalize (if c∈t then ((cutAt c t).1.length:Int) else -1)=r at fj ⊢;clear e1
 go_enter Tryz.func116,Tryz.ntmps116
 go_wp2_with (go_at_call 160;refine fj.mono ?_;rintro e w' ⟨rfl,rfl⟩)
 go_ret
 exact ⟨_,rfl,bU.refl _,.v _⟩
end Go.Proofs.YtdigkhaofjmgkaaGreatDoor
