/- Parts. -/
import Derived.Test.YtdigkhaofjmgkaaGreatDoorMs25
import Derived.Test.YtdigkhaofjmgkaaGreatDoorMs27
import Derived.Test.YtdigkhaofjmgkaaGreatDoorMs32
import Derived.RangeFuncNested
import Derived.RangeFuncBound
import Derived.RangeFuncCalls
import Derived.RangeFuncLeaves
import Derived.Shelf.Abstract
import Derived.Shelf.RegionOpen
import Derived.OwnWalkIn
import Derived.TacticsInMore
import Derived.LoopIn
set_option linter.unusedSimpArgs false
set_option linter.unusedVariables false
set_option maxHeartbeats 4000000
open Go.Proofs.Tryz
namespace Go.Proofs.YtdigkhaofjmgkaaGreatDoor
open Go.Av Go.Shelf Go.RowKit
attribute [local go_sem] Oper.semAt_some
def sK (t:Tx):List (Nat×Row):=[(511,.box 9 [.d (dS t)]),(512,.box 9 [.d (dS [10])]),(513,.box 3 [.d (ab 0)])]
def xp:AV:=.fn (.func 210) [.ref 512 0 0,.ref 511 0 0,.ref 513 0 0]
theorem Xp (G:ao) (t:Tx):MC prog G [] 165 [.d (dS t),.d (dS [10]),.d (ab 0)] (ak []) xp (ak (sK t)):=by
 simp only[sK,xp];refine MC.aC (aay _) func165 rfl rfl (rs:=[.tmp 6]) results165 (by simp[ntmps165]) rfl fun X=>?_;simp only[ntmps165];have fw:=(Aq @ab.eq_1 @dS.eq_1);refine rgq fw [3,4,5] [3,4,5] ?_;refine AW.imp (aB.ren (r:=3) (r':=511) (by decide) (by simp)) ?_;refine AW.st (by simp[abI,abH,Go.Av.ren,mC];rfl) ?_;refine AW.imp (aB.ren (r:=4) (r':=512) (by decide) (by simp)) ?_;refine AW.st (by simp[abI,abH,Go.Av.ren,mC];rfl) ?_;refine AW.imp (aB.ren (r:=5) (r':=513) (by decide) (by simp)) ?_;refine AW.st (by simp[abI,abH,Go.Av.ren,mC];rfl) ?_;refine rgq fw [6] [511,512,513] ?_;exact aG (Aq fw (Aq @ab.eq_1 @dS.eq_1))
theorem I0:(⟨#[10]⟩:ByteArray)=bs [10]:=rfl
theorem Xq (G:ao) (t:Tx):MC prog G [] 120 [.d (dS t),.d (dS [10])] (ak []) xp (ak (sK t)):=by
 have h:=Xp G t;simp only[sK,xp]at h ⊢;refine MC.aC (aay _) func120 rfl rfl (rs:=[.tmp 4]) results120 (by simp[ntmps120]) rfl fun X=>?_;simp only[ntmps120];have fw:=(Aq @ab.eq_1 @dS.eq_1);refine rgq fw [0,1] [] ?_;refine rgm fw h [4] [511,512,513] ?_;exact aG (Aq fw (Aq @ab.eq_1 @dS.eq_1))
attribute [local go_sem] Oper.semAt_some
theorem Ba {w:World} {X:Nat->Prop} {μ:Mu} {H:Heap} (hs:Sim w X μ H) {r ty:Nat} {x:Value} (hH:H r=some (.box ty [.d (.v x)])):∃ m b cur,μ r=some m/\m.dy=some b/\w.heap[b]? = some (.cells cur ty (0,0))/\cur[0]? = some x:=by
 obtain⟨m,hm,ok⟩:=hs.rows r _ hH
 cases ok with
 | box aT aK hc hh hn hr hx=>
  rename_i b cur
  have h0 : 0 < cur.size := by have : 1 <= cur.size := by simpa using hn
                               omega
  refine⟨m,b,cur,hm,aT,hh,?_⟩;have:=(hr 0 cur[0] _ (by simp[h0]) rfl).scalar;rw[Array.getElem?_eq_getElem h0,this]
def vo (W:World) (b:Nat):Nat:=match W.cell? ⟨b,0,none⟩ with
 | some (.string s)=>s.size
 | _=>0
theorem Bd {W:World} {b:Nat} {cur:Array Value} {ty:TypeId} {fr:Nat×Nat} {x:Value} (h:W.heap[b]? = some (.cells cur ty fr)) (h0:cur[0]? = some x):W.cell? ⟨b,0,none⟩=some x:=by
 simp[World.cell?,h,h0]
theorem OI {W:World} {b:Nat} {cur:Array Value} {ty:TypeId} (h:W.heap[b]? = some (.cells cur ty (0,0))):W.frozen? ⟨b,0,none⟩=false:=by
 simp[World.frozen?,h]
theorem OR {B:Nat->Prop} {b:Nat} (hb:B b) (W:World) (v:Value):Grown B W (W.setCell ⟨b,0,none⟩ v):=
 ⟨by show W.heap.size<=(W.heap.modify _ _).size;rw[Array.size_modify];exact Nat.le_refl _,rfl,rfl,rfl,fun k _ hk=>Below.heap_setCell W ⟨b,0,none⟩ v k fun e=>hk (e ▸ hb)⟩
theorem Be {W:World} {b b' i j:Nat} {v x:Value} (h:b≠b') (hx:W.cell? ⟨b',j,none⟩=some x):(W.setCell ⟨b,i,none⟩ v).cell? ⟨b',j,none⟩=some x:=by
 rw[<- hx];apply World.cell?_setCell_other;intro e;exact h (by simpa using congrArg Addr.block e)
theorem FR {W:World} {a:Addr} {u v:Value} (h:W.cell? a=some u):(W.setCell a v).cell? a=some v:=World.cell?_setCell_same _ _ _ h
theorem Xa (G:ao) (hM:acb G) (t:Tx) (ht:t.length < 2^30) (w:World) (X:Nat->Prop) (μ:Mu) (lb:Array Value) (hs:Sim w X μ (ak (sK t))) (cq:∀ g x,G g=some x->RD w (XX X μ) (.pointer (some ⟨g,0,none⟩)) x)
  (tO:lb.size=3) (qh:∀ (i:Nat) (u:Value) (x:AV),lb[i]? = some u->[AV.ref 512 0 0,.ref 511 0 0,.ref 513 0 0][i]? = some x->RV w X μ u x) :
  Fs prog 210 lb (gh μ) (fun b=>gh μ b\/GB G b) ((abe 10 t).map fun s=>.string (bs s)) w:=by
 intro l J Jx hJ YZ hY w1 bg h0;obtain⟨mx,fc⟩:=hM;have QW:=DK fc cq;have CK:GB G 4:=⟨_,fc,.inl ⟨_,rfl⟩⟩
 obtain⟨vP,vS,vV,rfl⟩:∃ a b c,lb = #[a,b,c]:=by
  match lb,tO with
  | ⟨[a,b,c]⟩,_=>exact⟨a,b,c,rfl⟩
 obtain⟨mS,bS,cS,yW,yM,Hq,PU⟩:=Ba hs (r:=511) (ty:=9) (x:=.string (bs t)) rfl;obtain⟨mP,bP,cP,CL,B8,Qr,hcP⟩:=Ba hs (r:=512) (ty:=9) (x:=.string (bs [10])) rfl;obtain⟨mV,bV,cV,CM,B9,Qs,PV⟩:=Ba hs (r:=513) (ty:=3) (x:=.int .i64 0) rfl
 have RE:vP = .pointer (some ⟨bP,0,none⟩):=by
  obtain⟨m,b,h1,h2,rfl⟩:=(qh 0 vP _ rfl rfl).ie;rw[CL]at h1;obtain rfl:=Option.some.inj h1;rw[B8]at h2;obtain rfl:=Option.some.inj h2;simp
 have RF:vS = .pointer (some ⟨bS,0,none⟩):=by
  obtain⟨m,b,h1,h2,rfl⟩:=(qh 1 vS _ rfl rfl).ie;rw[yW]at h1;obtain rfl:=Option.some.inj h1;rw[yM]at h2;obtain rfl:=Option.some.inj h2;simp
 have RG:vV = .pointer (some ⟨bV,0,none⟩):=by
  obtain⟨m,b,h1,h2,rfl⟩:=(qh 2 vV _ rfl rfl).ie;rw[CM]at h1;obtain rfl:=Option.some.inj h1;rw[B9]at h2;obtain rfl:=Option.some.inj h2;simp
 subst RE RF RG
 have UU:bS≠bP:=fun e=>by have:=hs.inj 511 512 mS mP bS yW CL yM (e ▸ B8);omega
 have UW:bS≠bV:=fun e=>by have:=hs.inj 511 513 mS mV bS yW CM yM (e ▸ B9);omega
 have rS:gh μ bS:=⟨511,mS,yW,yM⟩;have rP:gh μ bP:=⟨512,mP,CL,B8⟩;have rV:gh μ bV:=⟨513,mV,CM,B9⟩;have UT:bS≠4:=fun e=>(AH cq CK).1 (.inr (e ▸ rS));clear qh tO hs
 let St:World->Tx->Prop:=fun W r=>W.cell? ⟨bP,0,none⟩=some (.string (bs [10]))/\W.cell? ⟨bV,0,none⟩=some (.int .i64 0)/\W.cell? ⟨bS,0,none⟩=some (.string (bs r))/\W.frozen? ⟨bS,0,none⟩=false/\W.cell? ⟨4,0,none⟩=some (.int .i64 mx)
 have qe:∀ {W W':World} {b:Nat},Go.Av.Kept (fun b=>gh μ b\/GB G b) W W'->(gh μ b\/GB G b)->∀ j,W'.cell? ⟨b,j,none⟩=W.cell? ⟨b,j,none⟩:=fun hk hb j=>World.cell?_of_block (hk.same _ hb);have C3:St w1 t:=⟨(qe bg (.inl rP) 0).trans (Bd Qr hcP),(qe bg (.inl rV) 0).trans (Bd Qs PV),(qe bg (.inl rS) 0).trans (Bd Hq PU),OI ((bg.same bS (.inl rS)).trans Hq),(qe bg (.inr CK) 0).trans QW⟩
 have QH:∀ {W W':World} {r:Tx},Go.Av.Kept (fun b=>gh μ b\/GB G b) W W'->St W r->St W' r:=fun {W W' r} hk h=>⟨(qe hk (.inl rP) 0).trans h.1,(qe hk (.inl rV) 0).trans h.2.1,(qe hk (.inl rS) 0).trans h.2.2.1,by
  have:=hk.same bS (.inl rS);have h4:=h.2.2.2.1;unfold World.frozen? at h4 ⊢;dsimp only at h4 ⊢
  rw[this];exact h4,(qe hk (.inr CK) 0).trans h.2.2.2.2⟩
 have hL:Lays.n143 prog Tryz.IF:={ Tryz.Sy with }
 have eZ:∀ (W:World) (r:Tx),r.length<=t.length->W.cell? ⟨4,0,none⟩=some (.int .i64 mx)->Calls prog 205 #[.string (bs r),.string (bs [10])] W fun e w'=>e = .returned (.int .i64 (if (10:UInt8)∈r then ((cutAt 10 r).1.length:Int) else -1))/\w'=W:=fun W r hr hm=>by
  have fC:=Any.strings_Index hL (bs r) (bs [10]) mx W (by rw[bl];omega) hm;refine fC.mono fun e w' ⟨he,hw⟩=>⟨?_,hw⟩;rw[he,ch,ch];split
  .rename_i h;obtain⟨a,b,rfl,ha⟩:=List.eq_append_cons_of_mem h;rw[aeu ha,wR b ha]
  .rename_i h;rw[zd h]
 have eC:=C3;obtain⟨c1,c2,c3,c4,c5⟩:=C3;refine (callsIn_wide (n:=0)).1 (callsIn_of_wp (F:=Fence.wide) func210 rfl trivial ?_ rfl);simp only[ntmps210,List.size_toArray,List.length_cons,List.length_nil,Nat.reduceAdd,Nat.reduceSub,Array.replicate_succ,Array.replicate_zero,List.push_toArray,List.append_toArray,List.nil_append,List.cons_append]
 gi_wp2
 have eg:0 < (abe 10 t).length:=by
  have:=Bm (c:=10) t [];exact List.length_pos_iff.2 this
 gi_loopw [] (fun wr=>∃ (k:Nat) (r:Tx),k < (abe 10 t).length/\(abe 10 t).drop k=abe 10 r/\r.length<=t.length/\J k wr/\St wr r) (fun wr=>vo wr bS)
 case atStart=>exact⟨0,t,eg,rfl,Nat.le_refl _,h0,eC⟩
 case round=>
  obtain⟨k,r,hk,jn,dZ,GS,G8⟩:=hrel;have Py:=G8;obtain⟨d1,d2,d3,d4,d5⟩:=G8;have yR:=eZ wr r dZ d5;by_cases hc:(10:UInt8)∈r
  .obtain⟨a,b,rfl,ha⟩:=List.eq_append_cons_of_mem hc;rw[if_pos hc,aeu ha]at yR;rw[F7 ha]at jn
   have CG:k < ((abe 10 t).map fun s=>Value.string (bs s)).length:=by simpa using hk
   have CF:(abe 10 t)[k]=a:=by
    rw[List.drop_eq_getElem_cons hk]at jn;exact (List.cons.inj jn).1
   have Hj:(abe 10 t).drop (k+1)=abe 10 b:=by
    rw[List.drop_eq_getElem_cons hk]at jn;exact (List.cons.inj jn).2
   obtain⟨fn,tmps,assign,body,hy,hR⟩:=hY k CG wr GS;rw[show ((abe 10 t).map fun s=>Value.string (bs s))[k] = .string (bs a) by simp[CF]]at hy
   have oP:a.length<=t.length:=by simp at dZ;omega
   gi_wp2
   refine⟨trivial,rfl,?_⟩;refine (callsIn_wide.2 yR).mono ?_;rintro e w' ⟨rfl,rfl⟩
   have cY:a.length<=(bs (a ++ 10 :: b)).size:=by rw[bl];simp
   have HU:(bs (a ++ 10 :: b)).extract 0 a.length=bs a:=by rw[Lib.extract_eq];simp[bs]
   have dA:a.length+(bs [10]).size<=(bs (a ++ 10 :: b)).size:=by rw[bl,bl];simp
   have Zk:(bs (a ++ 10 :: b)).extract (a.length+(bs [10]).size) (bs (a ++ 10 :: b)).size=bs b:=by
    rw[Lib.extract_eq,bl,bl]
    have:(a ++ 10 :: b).drop (a.length+1)=b:=by
     rw[show a.length+1=(a ++ [(10:UInt8)]).length by simp,show a ++ (10:UInt8) :: b=(a ++ [10]) ++ b by simp,List.drop_left]
    simp only[bs,List.length_cons,List.length_nil,Nat.zero_add];rw[this,List.take_of_length_le (by simp;omega)]
   have afk:¬ ((a.length:Int) < 0):=by omega
   have y7:wrap64 ((a.length:Int)+((bs [10]).size:Int))=((a.length+(bs [10]).size:Nat):Int):=by
    rw[bl];simp only[List.length_cons,List.length_nil];simp at dZ;unfold wrap64;omega
   gi_wp2
   refine⟨rfl,RoundIn.mono (F:=Fence.wide) hR ?_⟩;rintro e W3 (⟨rfl,yD,hk3⟩ | ⟨rfl,BR⟩)
   .have G9:=QH hk3 Py;have Y4:=G9;obtain⟨g1,g2,g3,g4,g5⟩:=G9
    gi_wp2
    go_roundw
    case rel=>
     refine⟨_,_,_,_,_,_,_,_,_,_,_,_,_,_,_,_,_,_,_,_,_,_,⟨k+1,b,?_,Hj,?_,?_,?_⟩,rfl⟩
     .have:=congrArg List.length Hj;have h2:=List.length_pos_iff.2 (Bm (c:=10) b []);rw[List.length_drop]at this;unfold abe at *;omega
     .simp at dZ;omega
     .exact hJ _ _ _ yD (OR rS _ _)
     .refine⟨?_,?_,?_,?_,?_⟩
      .exact Be UU g1
      .exact Be UW g2
      .exact FR g3
      .rw[World.frozen?_setCell];exact g4
      .exact Be UT g5
    case measure=>
     have e1:vo w' bS=(bs (a ++ 10 :: b)).size:=by unfold vo;rw[d3]
     have e2:vo (W3.setCell ⟨bS,0,none⟩ (.string (bs b))) bS=(bs b).size:=by unfold vo;rw[FR g3]
     rw[e1,e2,bl,bl];simp;omega
   .gi_wp2
    refine bodyPost_ret (results_none rfl _ _ _) rfl ?_;exact⟨⟨_,rfl⟩,.inr BR⟩
  .rw[if_neg hc]at yR;rw[F6 hc]at jn
   have CG:k < ((abe 10 t).map fun s=>Value.string (bs s)).length:=by simpa using hk
   have CF:(abe 10 t)[k]=r:=by
    rw[List.drop_eq_getElem_cons hk]at jn;exact (List.cons.inj jn).1
   have cr:k+1=((abe 10 t).map fun s=>Value.string (bs s)).length:=by
    rw[List.length_map];have:=congrArg List.length jn;rw[List.length_drop]at this;simp at this;omega
   obtain⟨fn,tmps,assign,body,hy,hR⟩:=hY k CG wr GS;rw[show ((abe 10 t).map fun s=>Value.string (bs s))[k] = .string (bs r) by simp[CF]]at hy
   gi_wp2
   refine⟨trivial,rfl,?_⟩;refine (callsIn_wide.2 yR).mono ?_;rintro e w' ⟨rfl,rfl⟩
   gi_wp2
   refine⟨rfl,RoundIn.mono (F:=Fence.wide) hR ?_⟩;rintro e W3 (⟨rfl,yD,hk3⟩ | ⟨rfl,BR⟩)
   .rw[cr]at yD
    gi_wp2
    go_end0
    exact⟨⟨_,rfl⟩,.inl yD⟩
   .gi_wp2
    go_end0
    exact⟨⟨_,rfl⟩,.inr BR⟩
