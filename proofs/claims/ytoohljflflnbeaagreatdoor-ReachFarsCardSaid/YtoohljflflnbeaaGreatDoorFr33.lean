/- Parts. -/
import Derived.Test.YtoohljflflnbeaaGreatDoorFr25
import Derived.Test.YtoohljflflnbeaaGreatDoorFr27
import Derived.Test.YtoohljflflnbeaaGreatDoorFr32
import Derived.RangeFuncNested
import Derived.RangeFuncBound
import Derived.RangeFuncCalls
import Derived.RangeFuncLeaves
import Derived.Shelf.Abstract
import Derived.Shelf.RegionOpen
import Derived.OwnWalkIn
import Derived.TacticsInMore
import Derived.LoopIn
set_option linter.unusedSimpArgs false
set_option linter.unusedVariables false
set_option maxHeartbeats 4000000
open Go.Proofs.Tryz
namespace Go.Proofs.YtoohljflflnbeaaGreatDoor
open Go.Av Go.Shelf Go.RowKit
attribute [local go_sem] Oper.semAt_some
def y9 (t:Tx):List (Nat×Row):=[(511,.box 9 [.d (dS t)]),(512,.box 9 [.d (dS [10])]),(513,.box 3 [.d (ab 0)])]
def D0:AV:=.fn (.func 284) [.ref 512 0 0,.ref 511 0 0,.ref 513 0 0]
theorem agR (G:ay) (t:Tx):MC prog G [] 228 [.d (dS t),.d (dS [10]),.d (ab 0)] (aq []) D0 (aq (y9 t)):=by
 simp only[y9,D0];refine MC.aQ (aC _) func228 rfl rfl (rs:=[.tmp 6]) results228 (by simp[ntmps228]) rfl fun X=>?_;simp only[ntmps228];have fw:=al5;refine ae fw [3,4,5] [3,4,5] ?_;refine AW.imp (aM.dI (r:=3) (r':=511) bF ak) ?_;refine AW.st (by simp[ik,ij,Go.Av.dI,qU];rfl) ?_;refine AW.imp (aM.dI (r:=4) (r':=512) bF ak) ?_;refine AW.st (by simp[ik,ij,Go.Av.dI,qU];rfl) ?_;refine AW.imp (aM.dI (r:=5) (r':=513) bF ak) ?_;refine AW.st (by simp[ik,ij,Go.Av.dI,qU];rfl) ?_;refine ae fw [6] [511,512,513] ?_;exact aU (Aq fw al5)
theorem Sa:(⟨#[10]⟩:ByteArray)=bs [10]:=rfl
theorem agS (G:ay) (t:Tx):MC prog G [] 178 [.d (dS t),.d (dS [10])] (aq []) D0 (aq (y9 t)):=by
 have h:=agR G t;simp only[y9,D0]at h ⊢;refine MC.aQ (aC _) func178 rfl rfl (rs:=[.tmp 4]) results178 (by simp[ntmps178]) rfl fun X=>?_;simp only[ntmps178];have fw:=al5;refine ae fw [0,1] [] ?_;refine bG fw h [4] [511,512,513] ?_;exact aU (Aq fw al5)
attribute [local go_sem] Oper.semAt_some
theorem Iz {w:World} {X:Nat->Prop} {μ:Mu} {H:Heap} (hs:eA w X μ H) {r ty:Nat} {x:Value} (hH:H r=some (.box ty [.d (.v x)])):∃ m b cur,μ r=some m/\m.fk=some b/\w.heap[b]? = some (.cells cur ty (0,0))/\cur[0]? = some x:=by
 obtain⟨m,hm,ok⟩:=hs.rows r _ hH
 cases ok with
 | box bk bd hc hh hn hr hx=>
  rename_i b cur
  have h0 : 0 < cur.size := by have : 1 <= cur.size := by simpa using hn
                               omega
  refine⟨m,b,cur,hm,bk,hh,?_⟩;have:=(hr 0 cur[0] _ (by simp[h0]) rfl).scalar;rw[ajZ h0,this]
def BR (W:World) (b:Nat):Nat:=match W.cell? ⟨b,0,none⟩ with
 | some (.string s)=>s.size
 | _=>0
theorem IB {W:World} {b:Nat} {cur:Array Value} {ty:TypeId} {fr:Nat×Nat} {x:Value} (h:W.heap[b]? = some (.cells cur ty fr)) (h0:cur[0]? = some x):W.cell? ⟨b,0,none⟩=some x:=by
 simp[World.cell?,h,h0]
theorem Yt {W:World} {b:Nat} {cur:Array Value} {ty:TypeId} (h:W.heap[b]? = some (.cells cur ty (0,0))):W.frozen? ⟨b,0,none⟩=false:=by
 simp[World.frozen?,h]
theorem YC {B:Nat->Prop} {b:Nat} (hb:B b) (W:World) (v:Value):Grown B W (W.setCell ⟨b,0,none⟩ v):=
 ⟨by show W.heap.size<=(W.heap.modify _ _).size;rw[Array.size_modify];exact ajJ _,rfl,rfl,rfl,fun k _ hk=>Below.heap_setCell W ⟨b,0,none⟩ v k fun e=>hk (e ▸ hb)⟩
theorem IC {W:World} {b b' i j:Nat} {v x:Value} (h:b≠b') (hx:W.cell? ⟨b',j,none⟩=some x):(W.setCell ⟨b,i,none⟩ v).cell? ⟨b',j,none⟩=some x:=by
 rw[<- hx];apply World.cell?_setCell_other;intro e;exact h (by simpa using congrArg Addr.block e)
theorem Ou {W:World} {a:Addr} {u v:Value} (h:W.cell? a=some u):(W.setCell a v).cell? a=some v:=World.cell?_setCell_same _ _ _ h
theorem agC (G:ay) (hM:k9 G) (t:Tx) (ht:t.length < 2^30) (w:World) (X:Nat->Prop) (μ:Mu) (lb:Array Value) (hs:eA w X μ (aq (y9 t))) (dt:∀ g x,G g=some x->RD w (XX X μ) (.pointer (some ⟨g,0,none⟩)) x)
  (sq:lb.size=3) (wu:∀ (i:Nat) (u:Value) (x:AV),lb[i]? = some u->[AV.ref 512 0 0,.ref 511 0 0,.ref 513 0 0][i]? = some x->RV w X μ u x) :
  NS prog 284 lb (jz μ) (fun b=>jz μ b\/GB G b) ((eW 10 t).map fun s=>.string (bs s)) w:=by
 intro l J Jx hJ hJx hY w1 bQ h0;obtain⟨mx,gK⟩:=hM;have aay:=LQ gK dt;have Ku:GB G 5:=⟨_,gK,.inl ⟨_,rfl⟩⟩
 obtain⟨vP,vS,vV,rfl⟩:∃ a b c,lb = #[a,b,c]:=by
  match lb,sq with
  | ⟨[a,b,c]⟩,_=>exact⟨a,b,c,rfl⟩
 obtain⟨mS,bS,cS,F4,FK,Qi,Cx⟩:=Iz hs (r:=511) (ty:=9) (x:=.string (bs t)) rfl;obtain⟨mP,bP,cP,Kv,JJ,hhP,ZJ⟩:=Iz hs (r:=512) (ty:=9) (x:=.string (bs [10])) rfl;obtain⟨mV,bV,cV,Kw,JK,hhV,ZL⟩:=Iz hs (r:=513) (ty:=3) (x:=.int .i64 0) rfl
 have hvP:vP = .pointer (some ⟨bP,0,none⟩):=by
  obtain⟨m,b,h1,h2,rfl⟩:=(wu 0 vP _ rfl rfl).lG;rw[Kv]at h1;obtain rfl:=AI h1;rw[JJ]at h2;obtain rfl:=AI h2;simp
 have hvS:vS = .pointer (some ⟨bS,0,none⟩):=by
  obtain⟨m,b,h1,h2,rfl⟩:=(wu 1 vS _ rfl rfl).lG;rw[F4]at h1;obtain rfl:=AI h1;rw[FK]at h2;obtain rfl:=AI h2;simp
 have hvV:vV = .pointer (some ⟨bV,0,none⟩):=by
  obtain⟨m,b,h1,h2,rfl⟩:=(wu 2 vV _ rfl rfl).lG;rw[Kw]at h1;obtain rfl:=AI h1;rw[JK]at h2;obtain rfl:=AI h2;simp
 subst hvP hvS hvV
 have nSP:bS≠bP:=fun e=>by have:=hs.inj 511 512 mS mP bS F4 Kv FK (e ▸ JJ);omega
 have nSV:bS≠bV:=fun e=>by have:=hs.inj 511 513 mS mV bS F4 Kw FK (e ▸ JK);omega
 have rS:jz μ bS:=⟨511,mS,F4,FK⟩;have rP:jz μ bP:=⟨512,mP,Kv,JJ⟩;have rV:jz μ bV:=⟨513,mV,Kw,JK⟩;have nSM:bS≠5:=fun e=>(H6 dt Ku).1 (.inr (e ▸ rS));clear wu sq hs
 let St:World->Tx->Prop:=fun W r=>W.cell? ⟨bP,0,none⟩=some (.string (bs [10]))/\W.cell? ⟨bV,0,none⟩=some (.int .i64 0)/\W.cell? ⟨bS,0,none⟩=some (.string (bs r))/\W.frozen? ⟨bS,0,none⟩=false/\W.cell? ⟨5,0,none⟩=some (.int .i64 mx)
 have wh:∀ {W W':World} {b:Nat},Go.Av.Kept (fun b=>jz μ b\/GB G b) W W'->(jz μ b\/GB G b)->∀ j,W'.cell? ⟨b,j,none⟩=W.cell? ⟨b,j,none⟩:=fun hk hb j=>World.cell?_of_block (hk.same _ hb);have yu:St w1 t:=⟨(wh bQ (.inl rP) 0).trans (IB hhP ZJ),(wh bQ (.inl rV) 0).trans (IB hhV ZL),(wh bQ (.inl rS) 0).trans (IB Qi Cx),Yt ((bQ.same bS (.inl rS)).trans Qi),(wh bQ (.inr Ku) 0).trans aay⟩
 have aan:∀ {W W':World} {r:Tx},Go.Av.Kept (fun b=>jz μ b\/GB G b) W W'->St W r->St W' r:=fun {W W' r} hk h=>⟨(wh hk (.inl rP) 0).trans h.1,(wh hk (.inl rV) 0).trans h.2.1,(wh hk (.inl rS) 0).trans h.2.2.1,by
  have:=hk.same bS (.inl rS);have h4:=h.2.2.2.1;unfold World.frozen? at h4 ⊢;dsimp only at h4 ⊢
  rw[this];exact h4,(wh hk (.inr Ku) 0).trans h.2.2.2.2⟩
 have hL:Lays.n143 prog Tryz.RG:={ Tryz.abI with }
 have iq:∀ (W:World) (r:Tx),r.length<=t.length->W.cell? ⟨5,0,none⟩=some (.int .i64 mx)->Calls prog 171 #[.string (bs r),.string (bs [10])] W fun e w'=>e = .returned (.int .i64 (if (10:UInt8)∈r then ((cutAt 10 r).1.length:Int) else -1))/\w'=W:=fun W r hr hm=>by
  have iW:=Any.strings_Index hL (bs r) (bs [10]) mx W (by rw[bN];omega) hm;refine iW.mono fun e w' ⟨he,hw⟩=>⟨?_,hw⟩;rw[he,dr,dr];split
  .rename_i h;obtain⟨a,b,rfl,ha⟩:=akx h;rw[zF ha,Dn b ha]
  .rename_i h;rw[Gt h]
 have gC:=yu;obtain⟨c1,c2,c3,c4,c5⟩:=yu;refine (callsIn_wide (n:=0)).1 (callsIn_of_wp (F:=Fence.wide) func284 rfl trivial ?_ rfl);simp only[ntmps284,akO,ajP,akA,Nat.reduceAdd,Nat.reduceSub,Array.replicate_succ,Array.replicate_zero,List.push_toArray,List.append_toArray,akM,akF]
 gi_wp2
 have iO:0 < (eW 10 t).length:=by
  have:=IK (c:=10) t [];exact aky.2 this
 gi_loopw [] (fun wr=>∃ (k:Nat) (r:Tx),k < (eW 10 t).length/\(eW 10 t).drop k=eW 10 r/\r.length<=t.length/\J k wr/\St wr r) (fun wr=>BR wr bS)
 case atStart=>exact⟨0,t,iO,rfl,ajJ _,h0,gC⟩
 case round=>
  obtain⟨k,r,hk,oV,fq,Py,PU⟩:=hrel;have Zn:=PU;obtain⟨d1,d2,d3,d4,d5⟩:=PU;have FV:=iq wr r fq d5;by_cases hc:(10:UInt8)∈r
  .obtain⟨a,b,rfl,ha⟩:=akx hc;rw[if_pos hc,zF ha]at FV;rw[OI ha]at oV
   have Ko:k < ((eW 10 t).map fun s=>Value.string (bs s)).length:=by simpa using hk
   have Km:(eW 10 t)[k]=a:=by
    rw[aj4 hk]at oV;exact (List.cons.inj oV).1
   have P8:(eW 10 t).drop (k+1)=eW 10 b:=by
    rw[aj4 hk]at oV;exact (List.cons.inj oV).2
   obtain⟨fn,tmps,assign,body,hy,hR⟩:=hY k Ko wr Py;rw[show ((eW 10 t).map fun s=>Value.string (bs s))[k] = .string (bs a) by simp[Km]]at hy
   have uN:a.length<=t.length:=by simp at fq;omega
   gi_wp2
   refine⟨trivial,rfl,?_⟩;refine (callsIn_wide.2 FV).mono ?_;rintro e w' ⟨rfl,rfl⟩
   have e9:a.length<=(bs (a ++ 10 :: b)).size:=by rw[bN];simp
   have QV:(bs (a ++ 10 :: b)).extract 0 a.length=bs a:=by rw[Lib.extract_eq];simp[bs]
   have ea:a.length+(bs [10]).size<=(bs (a ++ 10 :: b)).size:=by rw[bN,bN];simp
   have aiJ:(bs (a ++ 10 :: b)).extract (a.length+(bs [10]).size) (bs (a ++ 10 :: b)).size=bs b:=by
    rw[Lib.extract_eq,bN,bN]
    have:(a ++ 10 :: b).drop (a.length+1)=b:=by
     rw[show a.length+1=(a ++ [(10:UInt8)]).length by simp,show a ++ (10:UInt8) :: b=(a ++ [10]) ++ b by simp,List.drop_left]
    simp only[bs,ajP,akA,akg];rw[this,sh (by simp;omega)]
   have o3:¬ ((a.length:Int) < 0):=aa
   have Gj:wrap64 ((a.length:Int)+((bs [10]).size:Int))=((a.length+(bs [10]).size:Nat):Int):=by
    rw[bN];simp only[ajP,akA];simp at fq;unfold wrap64;omega
   gi_wp2
   refine⟨rfl,RoundIn.mono (F:=Fence.wide) hR ?_⟩;rintro e W3 (⟨rfl,Fw,eG⟩ | ⟨rfl,Jo⟩)
   .have PV:=aan eG Zn;have aiy:=PV;obtain⟨g1,g2,g3,g4,g5⟩:=PV
    gi_wp2
    go_roundw
    case rel=>
     refine⟨_,_,_,_,_,_,_,_,_,_,_,_,_,_,_,_,_,_,_,_,_,_,⟨k+1,b,?_,P8,?_,?_,?_⟩,rfl⟩
     .have:=congrArg List.length P8;have h2:=aky.2 (IK (c:=10) b []);rw[aj5]at this;unfold eW at *;omega
     .simp at fq;omega
     .exact hJ _ _ _ Fw (YC rS _ _)
     .refine⟨?_,?_,?_,?_,?_⟩
      .exact IC nSP g1
      .exact IC nSV g2
      .exact Ou g3
      .rw[World.frozen?_setCell];exact g4
      .exact IC nSM g5
    case measure=>
     have e1:BR w' bS=(bs (a ++ 10 :: b)).size:=by unfold BR;rw[d3]
     have e2:BR (W3.setCell ⟨bS,0,none⟩ (.string (bs b))) bS=(bs b).size:=by unfold BR;rw[Ou g3]
     rw[e1,e2,bN,bN];simp;omega
   .gi_wp2
    refine bodyPost_ret (results_none rfl _ _ _) rfl ?_;exact⟨⟨_,rfl⟩,.inr Jo⟩
  .rw[if_neg hc]at FV;rw[OH hc]at oV
   have Ko:k < ((eW 10 t).map fun s=>Value.string (bs s)).length:=by simpa using hk
   have Km:(eW 10 t)[k]=r:=by
    rw[aj4 hk]at oV;exact (List.cons.inj oV).1
   have dB:k+1=((eW 10 t).map fun s=>Value.string (bs s)).length:=by
    rw[aki];have:=congrArg List.length oV;rw[aj5]at this;simp at this;omega
   obtain⟨fn,tmps,assign,body,hy,hR⟩:=hY k Ko wr Py;rw[show ((eW 10 t).map fun s=>Value.string (bs s))[k] = .string (bs r) by simp[Km]]at hy
   gi_wp2
   refine⟨trivial,rfl,?_⟩;refine (callsIn_wide.2 FV).mono ?_;rintro e w' ⟨rfl,rfl⟩
   gi_wp2
   refine⟨rfl,RoundIn.mono (F:=Fence.wide) hR ?_⟩;rintro e W3 (⟨rfl,Fw,eG⟩ | ⟨rfl,Jo⟩)
   .rw[dB]at Fw
    gi_wp2
    go_end0
    exact⟨⟨_,rfl⟩,.inl Fw⟩
   .gi_wp2
    go_end0
    exact⟨⟨_,rfl⟩,.inr Jo⟩
