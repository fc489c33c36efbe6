/- Parts. -/
import Derived.Test.YtdigkhaofjmgkaaGreatDoorPs24
import Derived.Test.YtdigkhaofjmgkaaGreatDoorPs27
import Derived.RangeFuncNested
import Derived.RangeFuncBound
import Derived.RangeFuncCalls
import Derived.RangeFuncLeaves
import Derived.Shelf.Abstract
import Derived.Shelf.RegionOpen
import Derived.OwnWalkIn
import Derived.TacticsInMore
import Derived.LoopIn
set_option linter.unusedSimpArgs false
set_option linter.unusedVariables false
set_option maxHeartbeats 4000000
open Go.Proofs.Tryz
namespace Go.Proofs.YtdigkhaofjmgkaaGreatDoor
open Go.Av Go.Shelf Go.RowKit
attribute [local go_sem] Oper.semAt_some
def ql (t:Tx):List (Nat×Row):=[(511,.box 9 [.d (dS t)]),(512,.box 9 [.d (dS [10])]),(513,.box 3 [.d (ab 0)])]
def aco:AV:=.fn (.func 210) [.ref 512 0 0,.ref 511 0 0,.ref 513 0 0]
theorem VC (G:Yt) (t:Tx):MC prog G [] 165 [.d (dS t),.d (dS [10]),.d (ab 0)] (ah []) aco (ah (ql t)):=by
 simp only[ql,aco];refine MC.aI (au _) func165 rfl rfl (rs:=[.tmp 6]) results165 (by simp[ntmps165]) rfl fun X=>?_;simp only[ntmps165];have fw:=(Aq @ab.eq_1 @dS.eq_1);refine Ys fw [3,4,5] [3,4,5] ?_;refine AW.imp (aD.Za (r:=3) (r':=511) (by decide) (by simp)) ?_;refine AW.st (by simp[gY,gX,Go.Av.Za,abC];rfl) ?_;refine AW.imp (aD.Za (r:=4) (r':=512) (by decide) (by simp)) ?_;refine AW.st (by simp[gY,gX,Go.Av.Za,abC];rfl) ?_;refine AW.imp (aD.Za (r:=5) (r':=513) (by decide) (by simp)) ?_;refine AW.st (by simp[gY,gX,Go.Av.Za,abC];rfl) ?_;refine Ys fw [6] [511,512,513] ?_;exact aY (Aq fw (Aq @ab.eq_1 @dS.eq_1))
theorem Rp:(⟨#[10]⟩:ByteArray)=bs [10]:=rfl
theorem VD (G:Yt) (t:Tx):MC prog G [] 120 [.d (dS t),.d (dS [10])] (ah []) aco (ah (ql t)):=by
 have h:=VC G t;simp only[ql,aco]at h ⊢;refine MC.aI (au _) func120 rfl rfl (rs:=[.tmp 4]) results120 (by simp[ntmps120]) rfl fun X=>?_;simp only[ntmps120];have fw:=(Aq @ab.eq_1 @dS.eq_1);refine Ys fw [0,1] [] ?_;refine bh fw h [4] [511,512,513] ?_;exact aY (Aq fw (Aq @ab.eq_1 @dS.eq_1))
attribute [local go_sem] Oper.semAt_some
theorem yH {w:World} {X:Nat->Prop} {μ:Mu} {H:Heap} (hs:cw w X μ H) {r ty:Nat} {x:Value} (hH:H r=some (.box ty [.d (.v x)])):∃ m b cur,μ r=some m/\m.Y3=some b/\w.heap[b]? = some (.cells cur ty (0,0))/\cur[0]? = some x:=by
 obtain⟨m,hm,ok⟩:=hs.rows r _ hH
 cases ok with
 | box aH aK hc hh hn hr hx=>
  rename_i b cur
  have h0 : 0 < cur.size := by have : 1 <= cur.size := by simpa using hn
                               omega
  refine⟨m,b,cur,hm,aH,hh,?_⟩;have:=(hr 0 cur[0] _ (by simp[h0]) rfl).scalar;rw[Array.getElem?_eq_getElem h0,this]
def si (W:World) (b:Nat):Nat:=match W.cell? ⟨b,0,none⟩ with
 | some (.string s)=>s.size
 | _=>0
theorem yP {W:World} {b:Nat} {cur:Array Value} {ty:TypeId} {fr:Nat×Nat} {x:Value} (h:W.heap[b]? = some (.cells cur ty fr)) (h0:cur[0]? = some x):W.cell? ⟨b,0,none⟩=some x:=by
 simp[World.cell?,h,h0]
theorem MG {W:World} {b:Nat} {cur:Array Value} {ty:TypeId} (h:W.heap[b]? = some (.cells cur ty (0,0))):W.frozen? ⟨b,0,none⟩=false:=by
 simp[World.frozen?,h]
theorem MV {B:Nat->Prop} {b:Nat} (hb:B b) (W:World) (v:Value):Grown B W (W.setCell ⟨b,0,none⟩ v):=
 ⟨by show W.heap.size<=(W.heap.modify _ _).size;rw[Array.size_modify];exact Nat.le_refl _,rfl,rfl,rfl,fun k _ hk=>Below.heap_setCell W ⟨b,0,none⟩ v k fun e=>hk (e ▸ hb)⟩
theorem yQ {W:World} {b b' i j:Nat} {v x:Value} (h:b≠b') (hx:W.cell? ⟨b',j,none⟩=some x):(W.setCell ⟨b,i,none⟩ v).cell? ⟨b',j,none⟩=some x:=by
 rw[<- hx];apply World.cell?_setCell_other;intro e;exact h (by simpa using congrArg Addr.block e)
theorem DR {W:World} {a:Addr} {u v:Value} (h:W.cell? a=some u):(W.setCell a v).cell? a=some v:=World.cell?_setCell_same _ _ _ h
theorem Vp (G:Yt) (hM:nU G) (t:Tx) (ht:t.length < 2^30) (w:World) (X:Nat->Prop) (μ:Mu) (lb:Array Value) (hs:cw w X μ (ah (ql t))) (ck:∀ g x,G g=some x->RD w (XX X μ) (.pointer (some ⟨g,0,none⟩)) x)
  (rf:lb.size=3) (hlr:∀ (i:Nat) (u:Value) (x:AV),lb[i]? = some u->[AV.ref 512 0 0,.ref 511 0 0,.ref 513 0 0][i]? = some x->RV w X μ u x) :
  Dk prog 210 lb (eU μ) (fun b=>eU μ b\/GB G b) ((cT 10 t).map fun s=>.string (bs s)) w:=by
 intro l J Jx hJ W7 hY w1 Y2 h0;obtain⟨mx,dK⟩:=hM;have Pe:=Hi dK ck;have AH:GB G 4:=⟨_,dK,.inl ⟨_,rfl⟩⟩
 obtain⟨vP,vS,vV,rfl⟩:∃ a b c,lb = #[a,b,c]:=by
  match lb,rf with
  | ⟨[a,b,c]⟩,_=>exact⟨a,b,c,rfl⟩
 obtain⟨mS,bS,cS,wB,hbS,FQ,N9⟩:=yH hs (r:=511) (ty:=9) (x:=.string (bs t)) rfl;obtain⟨mP,bP,cP,AJ,hbP,ON,N8⟩:=yH hs (r:=512) (ty:=9) (x:=.string (bs [10])) rfl;obtain⟨mV,bV,cV,AK,z6,OO,Oa⟩:=yH hs (r:=513) (ty:=3) (x:=.int .i64 0) rfl
 have P7:vP = .pointer (some ⟨bP,0,none⟩):=by
  obtain⟨m,b,h1,h2,rfl⟩:=(hlr 0 vP _ rfl rfl).gC;rw[AJ]at h1;obtain rfl:=Option.some.inj h1;rw[hbP]at h2;obtain rfl:=Option.some.inj h2;simp
 have P8:vS = .pointer (some ⟨bS,0,none⟩):=by
  obtain⟨m,b,h1,h2,rfl⟩:=(hlr 1 vS _ rfl rfl).gC;rw[wB]at h1;obtain rfl:=Option.some.inj h1;rw[hbS]at h2;obtain rfl:=Option.some.inj h2;simp
 have P9:vV = .pointer (some ⟨bV,0,none⟩):=by
  obtain⟨m,b,h1,h2,rfl⟩:=(hlr 2 vV _ rfl rfl).gC;rw[AK]at h1;obtain rfl:=Option.some.inj h1;rw[z6]at h2;obtain rfl:=Option.some.inj h2;simp
 subst P7 P8 P9
 have RN:bS≠bP:=fun e=>by have:=hs.inj 511 512 mS mP bS wB AJ hbS (e ▸ hbP);omega
 have RO:bS≠bV:=fun e=>by have:=hs.inj 511 513 mS mV bS wB AK hbS (e ▸ z6);omega
 have rS:eU μ bS:=⟨511,mS,wB,hbS⟩;have rP:eU μ bP:=⟨512,mP,AJ,hbP⟩;have rV:eU μ bV:=⟨513,mV,AK,z6⟩;have RM:bS≠4:=fun e=>(acO ck AH).1 (.inr (e ▸ rS));clear hlr rf hs
 let St:World->Tx->Prop:=fun W r=>W.cell? ⟨bP,0,none⟩=some (.string (bs [10]))/\W.cell? ⟨bV,0,none⟩=some (.int .i64 0)/\W.cell? ⟨bS,0,none⟩=some (.string (bs r))/\W.frozen? ⟨bS,0,none⟩=false/\W.cell? ⟨4,0,none⟩=some (.int .i64 mx)
 have hkc:∀ {W W':World} {b:Nat},Go.Av.Kept (fun b=>eU μ b\/GB G b) W W'->(eU μ b\/GB G b)->∀ j,W'.cell? ⟨b,j,none⟩=W.cell? ⟨b,j,none⟩:=fun hk hb j=>World.cell?_of_block (hk.same _ hb);have A9:St w1 t:=⟨(hkc Y2 (.inl rP) 0).trans (yP ON N8),(hkc Y2 (.inl rV) 0).trans (yP OO Oa),(hkc Y2 (.inl rS) 0).trans (yP FQ N9),MG ((Y2.same bS (.inl rS)).trans FQ),(hkc Y2 (.inr AH) 0).trans Pe⟩
 have O4:∀ {W W':World} {r:Tx},Go.Av.Kept (fun b=>eU μ b\/GB G b) W W'->St W r->St W' r:=fun {W W' r} hk h=>⟨(hkc hk (.inl rP) 0).trans h.1,(hkc hk (.inl rV) 0).trans h.2.1,(hkc hk (.inl rS) 0).trans h.2.2.1,by
  have:=hk.same bS (.inl rS);have h4:=h.2.2.2.1;unfold World.frozen? at h4 ⊢;dsimp only at h4 ⊢
  rw[this];exact h4,(hkc hk (.inr AH) 0).trans h.2.2.2.2⟩
 have hL:Lays.n143 prog Tryz.G3:={ Tryz.QY with }
 have eQ:∀ (W:World) (r:Tx),r.length<=t.length->W.cell? ⟨4,0,none⟩=some (.int .i64 mx)->Calls prog 205 #[.string (bs r),.string (bs [10])] W fun e w'=>e = .returned (.int .i64 (if (10:UInt8)∈r then ((cutAt 10 r).1.length:Int) else -1))/\w'=W:=fun W r hr hm=>by
  have kb:=Any.strings_Index hL (bs r) (bs [10]) mx W (by rw[bF];omega) hm;refine kb.mono fun e w' ⟨he,hw⟩=>⟨?_,hw⟩;rw[he,de,de];split
  .rename_i h;obtain⟨a,b,rfl,ha⟩:=List.eq_append_cons_of_mem h;rw[sk ha,Bw b ha]
  .rename_i h;rw[Bv h]
 have aax:=A9;obtain⟨c1,c2,c3,c4,c5⟩:=A9;refine (callsIn_wide (n:=0)).1 (callsIn_of_wp (F:=Fence.wide) func210 rfl trivial ?_ rfl);simp only[ntmps210,List.size_toArray,List.length_cons,List.length_nil,Nat.reduceAdd,Nat.reduceSub,Array.replicate_succ,Array.replicate_zero,List.push_toArray,List.append_toArray,List.nil_append,List.cons_append]
 gi_wp2
 have re:0 < (cT 10 t).length:=by
  have:=acV (c:=10) t [];exact List.length_pos_iff.2 this
 gi_loopw [] (fun wr=>∃ (k:Nat) (r:Tx),k < (cT 10 t).length/\(cT 10 t).drop k=cT 10 r/\r.length<=t.length/\J k wr/\St wr r) (fun wr=>si wr bS)
 case atStart=>exact⟨0,t,re,rfl,Nat.le_refl _,h0,aax⟩
 case round=>
  obtain⟨k,r,hk,kc,hrl,E8,Fl⟩:=hrel;have NM:=Fl;obtain⟨d1,d2,d3,d4,d5⟩:=Fl;have wu:=eQ wr r hrl d5;by_cases hc:(10:UInt8)∈r
  .obtain⟨a,b,rfl,ha⟩:=List.eq_append_cons_of_mem hc;rw[if_pos hc,sk ha]at wu;rw[DY ha]at kc
   have AE:k < ((cT 10 t).map fun s=>Value.string (bs s)).length:=by simpa using hk
   have Az:(cT 10 t)[k]=a:=by
    rw[List.drop_eq_getElem_cons hk]at kc;exact (List.cons.inj kc).1
   have FG:(cT 10 t).drop (k+1)=cT 10 b:=by
    rw[List.drop_eq_getElem_cons hk]at kc;exact (List.cons.inj kc).2
   obtain⟨fn,tmps,assign,body,hy,hR⟩:=hY k AE wr E8;rw[show ((cT 10 t).map fun s=>Value.string (bs s))[k] = .string (bs a) by simp[Az]]at hy
   have hal:a.length<=t.length:=by simp at hrl;omega
   gi_wp2
   refine⟨trivial,rfl,?_⟩;refine (callsIn_wide.2 wu).mono ?_;rintro e w' ⟨rfl,rfl⟩
   have Y8:a.length<=(bs (a ++ 10 :: b)).size:=by rw[bF];simp
   have Xx:(bs (a ++ 10 :: b)).extract 0 a.length=bs a:=by rw[Lib.extract_eq];simp[bs]
   have Y4:a.length+(bs [10]).size<=(bs (a ++ 10 :: b)).size:=by rw[bF,bF];simp
   have Xy:(bs (a ++ 10 :: b)).extract (a.length+(bs [10]).size) (bs (a ++ 10 :: b)).size=bs b:=by
    rw[Lib.extract_eq,bF,bF]
    have:(a ++ 10 :: b).drop (a.length+1)=b:=by
     rw[show a.length+1=(a ++ [(10:UInt8)]).length by simp,show a ++ (10:UInt8) :: b=(a ++ [10]) ++ b by simp,List.drop_left]
    simp only[bs,List.length_cons,List.length_nil,Nat.zero_add];rw[this,List.take_of_length_le (by simp;omega)]
   have l5:¬ ((a.length:Int) < 0):=by omega
   have wX:wrap64 ((a.length:Int)+((bs [10]).size:Int))=((a.length+(bs [10]).size:Nat):Int):=by
    rw[bF];simp only[List.length_cons,List.length_nil];simp at hrl;unfold wrap64;omega
   gi_wp2
   refine⟨rfl,RoundIn.mono (F:=Fence.wide) hR ?_⟩;rintro e W3 (⟨rfl,vQ,wv⟩ | ⟨rfl,zH⟩)
   .have adh:=O4 wv NM;have Xg:=adh;obtain⟨g1,g2,g3,g4,g5⟩:=adh
    gi_wp2
    go_roundw
    case rel=>
     refine⟨_,_,_,_,_,_,_,_,_,_,_,_,_,_,_,_,_,_,_,_,_,_,⟨k+1,b,?_,FG,?_,?_,?_⟩,rfl⟩
     .have:=congrArg List.length FG;have h2:=List.length_pos_iff.2 (acV (c:=10) b []);rw[List.length_drop]at this;unfold cT at *;omega
     .simp at hrl;omega
     .exact hJ _ _ _ vQ (MV rS _ _)
     .refine⟨?_,?_,?_,?_,?_⟩
      .exact yQ RN g1
      .exact yQ RO g2
      .exact DR g3
      .rw[World.frozen?_setCell];exact g4
      .exact yQ RM g5
    case measure=>
     have e1:si w' bS=(bs (a ++ 10 :: b)).size:=by unfold si;rw[d3]
     have e2:si (W3.setCell ⟨bS,0,none⟩ (.string (bs b))) bS=(bs b).size:=by unfold si;rw[DR g3]
     rw[e1,e2,bF,bF];simp;omega
   .gi_wp2
    refine bodyPost_ret (results_none rfl _ _ _) rfl ?_;exact⟨⟨_,rfl⟩,.inr zH⟩
  .rw[if_neg hc]at wu;rw[LO hc]at kc
   have AE:k < ((cT 10 t).map fun s=>Value.string (bs s)).length:=by simpa using hk
   have Az:(cT 10 t)[k]=r:=by
    rw[List.drop_eq_getElem_cons hk]at kc;exact (List.cons.inj kc).1
   have ZA:k+1=((cT 10 t).map fun s=>Value.string (bs s)).length:=by
    rw[List.length_map];have:=congrArg List.length kc;rw[List.length_drop]at this;simp at this;omega
   obtain⟨fn,tmps,assign,body,hy,hR⟩:=hY k AE wr E8;rw[show ((cT 10 t).map fun s=>Value.string (bs s))[k] = .string (bs r) by simp[Az]]at hy
   gi_wp2
   refine⟨trivial,rfl,?_⟩;refine (callsIn_wide.2 wu).mono ?_;rintro e w' ⟨rfl,rfl⟩
   gi_wp2
   refine⟨rfl,RoundIn.mono (F:=Fence.wide) hR ?_⟩;rintro e W3 (⟨rfl,vQ,wv⟩ | ⟨rfl,zH⟩)
   .rw[ZA]at vQ
    gi_wp2
    go_end0
    exact⟨⟨_,rfl⟩,.inl vQ⟩
   .gi_wp2
    go_end0
    exact⟨⟨_,rfl⟩,.inr zH⟩
