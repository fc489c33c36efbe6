/- Parts. -/
import Derived.Test.YtdigkhaofjmgkaaGreatDoorIs24
import Derived.Test.YtdigkhaofjmgkaaGreatDoorIs27
import Derived.RangeFuncNested
import Derived.RangeFuncBound
import Derived.RangeFuncCalls
import Derived.RangeFuncLeaves
import Derived.Shelf.Abstract
import Derived.Shelf.RegionOpen
import Derived.OwnWalkIn
import Derived.TacticsInMore
import Derived.LoopIn
set_option linter.unusedSimpArgs false
set_option linter.unusedVariables false
set_option maxHeartbeats 4000000
open Go.Proofs.Tryz
namespace Go.Proofs.YtdigkhaofjmgkaaGreatDoor
open Go.Av Go.Shelf Go.RowKit
attribute [local go_sem] Oper.semAt_some
def qA (t:Tx):List (Nat×Row):=[(511,.box 9 [.d (dS t)]),(512,.box 9 [.d (dS [10])]),(513,.box 3 [.d (YG 0)])]
def uT:AV:=.fn (.func 210) [.ref 512 0 0,.ref 511 0 0,.ref 513 0 0]
theorem VT (G:YI) (t:Tx):MC prog G [] 165 [.d (dS t),.d (dS [10]),.d (YG 0)] (YH []) uT (YH (qA t)):=by
 simp only[qA,uT];refine MC.aI (aw _) func165 rfl rfl (rs:=[.tmp 6]) results165 (by simp[ntmps165]) rfl fun X=>?_;simp only[ntmps165];have fw:=(Aq @YG.eq_1 @dS.eq_1);refine ab fw [3,4,5] [3,4,5] ?_;refine AW.imp (aC.cU (r:=3) (r':=511) (by decide) (by simp)) ?_;refine AW.st (by simp[gr,gq,Go.Av.cU,abl];rfl) ?_;refine AW.imp (aC.cU (r:=4) (r':=512) (by decide) (by simp)) ?_;refine AW.st (by simp[gr,gq,Go.Av.cU,abl];rfl) ?_;refine AW.imp (aC.cU (r:=5) (r':=513) (by decide) (by simp)) ?_;refine AW.st (by simp[gr,gq,Go.Av.cU,abl];rfl) ?_;refine ab fw [6] [511,512,513] ?_;exact aV (Aq fw (Aq @YG.eq_1 @dS.eq_1))
theorem Tc:(⟨#[10]⟩:ByteArray)=bs [10]:=rfl
theorem VU (G:YI) (t:Tx):MC prog G [] 120 [.d (dS t),.d (dS [10])] (YH []) uT (YH (qA t)):=by
 have h:=VT G t;simp only[qA,uT]at h ⊢;refine MC.aI (aw _) func120 rfl rfl (rs:=[.tmp 4]) results120 (by simp[ntmps120]) rfl fun X=>?_;simp only[ntmps120];have fw:=(Aq @YG.eq_1 @dS.eq_1);refine ab fw [0,1] [] ?_;refine YT fw h [4] [511,512,513] ?_;exact aV (Aq fw (Aq @YG.eq_1 @dS.eq_1))
attribute [local go_sem] Oper.semAt_some
theorem y4 {w:World} {X:Nat->Prop} {μ:Mu} {H:Heap} (hs:Zf w X μ H) {r ty:Nat} {x:Value} (hH:H r=some (.box ty [.d (.v x)])):∃ m b cur,μ r=some m/\m.cZ=some b/\w.heap[b]? = some (.cells cur ty (0,0))/\cur[0]? = some x:=by
 obtain⟨m,hm,ok⟩:=hs.rows r _ hH
 cases ok with
 | box aH aK hc hh hn hr hx=>
  rename_i b cur
  have h0 : 0 < cur.size := by have : 1 <= cur.size := by simpa using hn
                               omega
  refine⟨m,b,cur,hm,aH,hh,?_⟩;have:=(hr 0 cur[0] _ (by simp[h0]) rfl).scalar;rw[Array.getElem?_eq_getElem h0,this]
def sC (W:World) (b:Nat):Nat:=match W.cell? ⟨b,0,none⟩ with
 | some (.string s)=>s.size
 | _=>0
theorem zc {W:World} {b:Nat} {cur:Array Value} {ty:TypeId} {fr:Nat×Nat} {x:Value} (h:W.heap[b]? = some (.cells cur ty fr)) (h0:cur[0]? = some x):W.cell? ⟨b,0,none⟩=some x:=by
 simp[World.cell?,h,h0]
theorem M5 {W:World} {b:Nat} {cur:Array Value} {ty:TypeId} (h:W.heap[b]? = some (.cells cur ty (0,0))):W.frozen? ⟨b,0,none⟩=false:=by
 simp[World.frozen?,h]
theorem Nh {B:Nat->Prop} {b:Nat} (hb:B b) (W:World) (v:Value):Grown B W (W.setCell ⟨b,0,none⟩ v):=
 ⟨by show W.heap.size<=(W.heap.modify _ _).size;rw[Array.size_modify];exact Nat.le_refl _,rfl,rfl,rfl,fun k _ hk=>Below.heap_setCell W ⟨b,0,none⟩ v k fun e=>hk (e ▸ hb)⟩
theorem zd {W:World} {b b' i j:Nat} {v x:Value} (h:b≠b') (hx:W.cell? ⟨b',j,none⟩=some x):(W.setCell ⟨b,i,none⟩ v).cell? ⟨b',j,none⟩=some x:=by
 rw[<- hx];apply World.cell?_setCell_other;intro e;exact h (by simpa using congrArg Addr.block e)
theorem D7 {W:World} {a:Addr} {u v:Value} (h:W.cell? a=some u):(W.setCell a v).cell? a=some v:=World.cell?_setCell_same _ _ _ h
theorem VH (G:YI) (hM:n9 G) (t:Tx) (ht:t.length < 2^30) (w:World) (X:Nat->Prop) (μ:Mu) (lb:Array Value) (hs:Zf w X μ (YH (qA t))) (Y7:∀ g x,G g=some x->RD w (XX X μ) (.pointer (some ⟨g,0,none⟩)) x)
  (rz:lb.size=3) (oG:∀ (i:Nat) (u:Value) (x:AV),lb[i]? = some u->[AV.ref 512 0 0,.ref 511 0 0,.ref 513 0 0][i]? = some x->RV w X μ u x) :
  DB prog 210 lb (eT μ) (fun b=>eT μ b\/GB G b) ((Zk 10 t).map fun s=>.string (bs s)) w:=by
 intro l J Jx hJ Xn hY w1 cQ h0;obtain⟨mx,dG⟩:=hM;have PC:=HF dG Y7;have AY:GB G 4:=⟨_,dG,.inl ⟨_,rfl⟩⟩
 obtain⟨vP,vS,vV,rfl⟩:∃ a b c,lb = #[a,b,c]:=by
  match lb,rz with
  | ⟨[a,b,c]⟩,_=>exact⟨a,b,c,rfl⟩
 obtain⟨mS,bS,cS,hmS,wC,Gf,OC⟩:=y4 hs (r:=511) (ty:=9) (x:=.string (bs t)) rfl;obtain⟨mP,bP,cP,AZ,Ak,O9,OB⟩:=y4 hs (r:=512) (ty:=9) (x:=.string (bs [10])) rfl;obtain⟨mV,bV,cV,A0,Al,Pa,OD⟩:=y4 hs (r:=513) (ty:=3) (x:=.int .i64 0) rfl
 have Qy:vP = .pointer (some ⟨bP,0,none⟩):=by
  obtain⟨m,b,h1,h2,rfl⟩:=(oG 0 vP _ rfl rfl).gL;rw[AZ]at h1;obtain rfl:=Option.some.inj h1;rw[Ak]at h2;obtain rfl:=Option.some.inj h2;simp
 have Qz:vS = .pointer (some ⟨bS,0,none⟩):=by
  obtain⟨m,b,h1,h2,rfl⟩:=(oG 1 vS _ rfl rfl).gL;rw[hmS]at h1;obtain rfl:=Option.some.inj h1;rw[wC]at h2;obtain rfl:=Option.some.inj h2;simp
 have QA:vV = .pointer (some ⟨bV,0,none⟩):=by
  obtain⟨m,b,h1,h2,rfl⟩:=(oG 2 vV _ rfl rfl).gL;rw[A0]at h1;obtain rfl:=Option.some.inj h1;rw[Al]at h2;obtain rfl:=Option.some.inj h2;simp
 subst Qy Qz QA
 have Tz:bS≠bP:=fun e=>by have:=hs.inj 511 512 mS mP bS hmS AZ wC (e ▸ Ak);omega
 have TA:bS≠bV:=fun e=>by have:=hs.inj 511 513 mS mV bS hmS A0 wC (e ▸ Al);omega
 have rS:eT μ bS:=⟨511,mS,hmS,wC⟩;have rP:eT μ bP:=⟨512,mP,AZ,Ak⟩;have rV:eT μ bV:=⟨513,mV,A0,Al⟩;have nSM:bS≠4:=fun e=>(yA Y7 AY).1 (.inr (e ▸ rS));clear oG rz hs
 let St:World->Tx->Prop:=fun W r=>W.cell? ⟨bP,0,none⟩=some (.string (bs [10]))/\W.cell? ⟨bV,0,none⟩=some (.int .i64 0)/\W.cell? ⟨bS,0,none⟩=some (.string (bs r))/\W.frozen? ⟨bS,0,none⟩=false/\W.cell? ⟨4,0,none⟩=some (.int .i64 mx)
 have oD:∀ {W W':World} {b:Nat},Go.Av.Kept (fun b=>eT μ b\/GB G b) W W'->(eT μ b\/GB G b)->∀ j,W'.cell? ⟨b,j,none⟩=W.cell? ⟨b,j,none⟩:=fun hk hb j=>World.cell?_of_block (hk.same _ hb);have Bp:St w1 t:=⟨(oD cQ (.inl rP) 0).trans (zc O9 OB),(oD cQ (.inl rV) 0).trans (zc Pa OD),(oD cQ (.inl rS) 0).trans (zc Gf OC),M5 ((cQ.same bS (.inl rS)).trans Gf),(oD cQ (.inr AY) 0).trans PC⟩
 have Pr:∀ {W W':World} {r:Tx},Go.Av.Kept (fun b=>eT μ b\/GB G b) W W'->St W r->St W' r:=fun {W W' r} hk h=>⟨(oD hk (.inl rP) 0).trans h.1,(oD hk (.inl rV) 0).trans h.2.1,(oD hk (.inl rS) 0).trans h.2.2.1,by
  have:=hk.same bS (.inl rS);have h4:=h.2.2.2.1;unfold World.frozen? at h4 ⊢;dsimp only at h4 ⊢
  rw[this];exact h4,(oD hk (.inr AY) 0).trans h.2.2.2.2⟩
 have hL:Lays.n143 prog Tryz.Hq:={ Tryz.SM with }
 have fj:∀ (W:World) (r:Tx),r.length<=t.length->W.cell? ⟨4,0,none⟩=some (.int .i64 mx)->Calls prog 205 #[.string (bs r),.string (bs [10])] W fun e w'=>e = .returned (.int .i64 (if (10:UInt8)∈r then ((cutAt 10 r).1.length:Int) else -1))/\w'=W:=fun W r hr hm=>by
  have aaU:=Any.strings_Index hL (bs r) (bs [10]) mx W (by rw[bC];omega) hm;refine aaU.mono fun e w' ⟨he,hw⟩=>⟨?_,hw⟩;rw[he,Zo,Zo];split
  .rename_i h;obtain⟨a,b,rfl,ha⟩:=List.eq_append_cons_of_mem h;rw[sF ha,adp b ha]
  .rename_i h;rw[BM h]
 have ig:=Bp;obtain⟨c1,c2,c3,c4,c5⟩:=Bp;refine (callsIn_wide (n:=0)).1 (callsIn_of_wp (F:=Fence.wide) func210 rfl trivial ?_ rfl);simp only[ntmps210,List.size_toArray,List.length_cons,List.length_nil,Nat.reduceAdd,Nat.reduceSub,Array.replicate_succ,Array.replicate_zero,List.push_toArray,List.append_toArray,List.nil_append,List.cons_append]
 gi_wp2
 have ry:0 < (Zk 10 t).length:=by
  have:=zm (c:=10) t [];exact List.length_pos_iff.2 this
 gi_loopw [] (fun wr=>∃ (k:Nat) (r:Tx),k < (Zk 10 t).length/\(Zk 10 t).drop k=Zk 10 r/\r.length<=t.length/\J k wr/\St wr r) (fun wr=>sC wr bS)
 case atStart=>exact⟨0,t,ry,rfl,Nat.le_refl _,h0,ig⟩
 case round=>
  obtain⟨k,r,hk,hdr,Z0,Fw,FK⟩:=hrel;have Oa:=FK;obtain⟨d1,d2,d3,d4,d5⟩:=FK;have wT:=fj wr r Z0 d5;by_cases hc:(10:UInt8)∈r
  .obtain⟨a,b,rfl,ha⟩:=List.eq_append_cons_of_mem hc;rw[if_pos hc,sF ha]at wT;rw[Ef ha]at hdr
   have AU:k < ((Zk 10 t).map fun s=>Value.string (bs s)).length:=by simpa using hk
   have AO:(Zk 10 t)[k]=a:=by
    rw[List.drop_eq_getElem_cons hk]at hdr;exact (List.cons.inj hdr).1
   have F4:(Zk 10 t).drop (k+1)=Zk 10 b:=by
    rw[List.drop_eq_getElem_cons hk]at hdr;exact (List.cons.inj hdr).2
   obtain⟨fn,tmps,assign,body,hy,hR⟩:=hY k AU wr Fw;rw[show ((Zk 10 t).map fun s=>Value.string (bs s))[k] = .string (bs a) by simp[AO]]at hy
   have hal:a.length<=t.length:=by simp at Z0;omega
   gi_wp2
   refine⟨trivial,rfl,?_⟩;refine (callsIn_wide.2 wT).mono ?_;rintro e w' ⟨rfl,rfl⟩
   have Zp:a.length<=(bs (a ++ 10 :: b)).size:=by rw[bC];simp
   have tW:(bs (a ++ 10 :: b)).extract 0 a.length=bs a:=by rw[Lib.extract_eq];simp[bs]
   have c6:a.length+(bs [10]).size<=(bs (a ++ 10 :: b)).size:=by rw[bC,bC];simp
   have tX:(bs (a ++ 10 :: b)).extract (a.length+(bs [10]).size) (bs (a ++ 10 :: b)).size=bs b:=by
    rw[Lib.extract_eq,bC,bC]
    have:(a ++ 10 :: b).drop (a.length+1)=b:=by
     rw[show a.length+1=(a ++ [(10:UInt8)]).length by simp,show a ++ (10:UInt8) :: b=(a ++ [10]) ++ b by simp,List.drop_left]
    simp only[bs,List.length_cons,List.length_nil,Nat.zero_add];rw[this,List.take_of_length_le (by simp;omega)]
   have rC:¬ ((a.length:Int) < 0):=by omega
   have xl:wrap64 ((a.length:Int)+((bs [10]).size:Int))=((a.length+(bs [10]).size:Nat):Int):=by
    rw[bC];simp only[List.length_cons,List.length_nil];simp at Z0;unfold wrap64;omega
   gi_wp2
   refine⟨rfl,RoundIn.mono (F:=Fence.wide) hR ?_⟩;rintro e W3 (⟨rfl,wy,wV⟩ | ⟨rfl,zY⟩)
   .have FL:=Pr wV Oa;have Xv:=FL;obtain⟨g1,g2,g3,g4,g5⟩:=FL
    gi_wp2
    go_roundw
    case rel=>
     refine⟨_,_,_,_,_,_,_,_,_,_,_,_,_,_,_,_,_,_,_,_,_,_,⟨k+1,b,?_,F4,?_,?_,?_⟩,rfl⟩
     .have:=congrArg List.length F4;have h2:=List.length_pos_iff.2 (zm (c:=10) b []);rw[List.length_drop]at this;unfold Zk at *;omega
     .simp at Z0;omega
     .exact hJ _ _ _ wy (Nh rS _ _)
     .refine⟨?_,?_,?_,?_,?_⟩
      .exact zd Tz g1
      .exact zd TA g2
      .exact D7 g3
      .rw[World.frozen?_setCell];exact g4
      .exact zd nSM g5
    case measure=>
     have e1:sC w' bS=(bs (a ++ 10 :: b)).size:=by unfold sC;rw[d3]
     have e2:sC (W3.setCell ⟨bS,0,none⟩ (.string (bs b))) bS=(bs b).size:=by unfold sC;rw[D7 g3]
     rw[e1,e2,bC,bC];simp;omega
   .gi_wp2
    refine bodyPost_ret (results_none rfl _ _ _) rfl ?_;exact⟨⟨_,rfl⟩,.inr zY⟩
  .rw[if_neg hc]at wT;rw[Mg hc]at hdr
   have AU:k < ((Zk 10 t).map fun s=>Value.string (bs s)).length:=by simpa using hk
   have AO:(Zk 10 t)[k]=r:=by
    rw[List.drop_eq_getElem_cons hk]at hdr;exact (List.cons.inj hdr).1
   have ZP:k+1=((Zk 10 t).map fun s=>Value.string (bs s)).length:=by
    rw[List.length_map];have:=congrArg List.length hdr;rw[List.length_drop]at this;simp at this;omega
   obtain⟨fn,tmps,assign,body,hy,hR⟩:=hY k AU wr Fw;rw[show ((Zk 10 t).map fun s=>Value.string (bs s))[k] = .string (bs r) by simp[AO]]at hy
   gi_wp2
   refine⟨trivial,rfl,?_⟩;refine (callsIn_wide.2 wT).mono ?_;rintro e w' ⟨rfl,rfl⟩
   gi_wp2
   refine⟨rfl,RoundIn.mono (F:=Fence.wide) hR ?_⟩;rintro e W3 (⟨rfl,wy,wV⟩ | ⟨rfl,zY⟩)
   .rw[ZP]at wy
    gi_wp2
    go_end0
    exact⟨⟨_,rfl⟩,.inl wy⟩
   .gi_wp2
    go_end0
    exact⟨⟨_,rfl⟩,.inr zY⟩
