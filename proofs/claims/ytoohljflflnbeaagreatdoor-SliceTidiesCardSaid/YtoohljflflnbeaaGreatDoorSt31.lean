/- Parts. -/
import Derived.Test.YtoohljflflnbeaaGreatDoorSt11
import Derived.Test.YtoohljflflnbeaaGreatDoorSt30
import Derived.RangeFuncNested
import Derived.RangeFuncBound
import Derived.RangeFuncCalls
import Derived.RangeFuncLeaves
import Derived.Shelf.Abstract
import Derived.Shelf.RegionOpen
import Derived.OwnWalkIn
import Derived.TacticsInMore
import Derived.LoopIn
set_option linter.unusedSimpArgs false
set_option linter.unusedVariables false
set_option maxHeartbeats 4000000
open Go.Proofs.Tryz
namespace Go.Proofs.YtoohljflflnbeaaGreatDoor
open Go.Av Go.Shelf Go.RowKit
attribute [local go_sem] Oper.semAt_some
def u7 (t:Tx):List (Nat×Row):=[(511,.box 9 [.d (dS t)]),(512,.box 9 [.d (dS [10])]),(513,.box 3 [.d (ab 0)])]
def zB:AV:=.fn (.func 284) [.ref 512 0 0,.ref 511 0 0,.ref 513 0 0]
theorem WZ (G:aF) (t:Tx):MC prog G [] 228 [.d (dS t),.d (dS [10]),.d (ab 0)] (au []) zB (au (u7 t)):=by
 simp only[u7,zB];refine MC.aU (aw _) func228 rfl rfl (rs:=[.tmp 6]) results228 (by simp[ntmps228]) rfl fun X=>?_;simp only[ntmps228];have fw:=acW;refine af fw [3,4,5] [3,4,5] ?_;refine AW.imp (aY.dT (r:=3) (r':=511) bh al) ?_;refine AW.st (by simp[fR,fQ,Go.Av.dT,w7];rfl) ?_;refine AW.imp (aY.dT (r:=4) (r':=512) bh al) ?_;refine AW.st (by simp[fR,fQ,Go.Av.dT,w7];rfl) ?_;refine AW.imp (aY.dT (r:=5) (r':=513) bh al) ?_;refine AW.st (by simp[fR,fQ,Go.Av.dT,w7];rfl) ?_;refine af fw [6] [511,512,513] ?_;exact bg (Aq fw acW)
theorem Lj:(⟨#[10]⟩:ByteArray)=bs [10]:=rfl
theorem W0 (G:aF) (t:Tx):MC prog G [] 178 [.d (dS t),.d (dS [10])] (au []) zB (au (u7 t)):=by
 have h:=WZ G t;simp only[u7,zB]at h ⊢;refine MC.aU (aw _) func178 rfl rfl (rs:=[.tmp 4]) results178 (by simp[ntmps178]) rfl fun X=>?_;simp only[ntmps178];have fw:=acW;refine af fw [0,1] [] ?_;refine bA fw h [4] [511,512,513] ?_;exact bg (Aq fw acW)
attribute [local go_sem] Oper.semAt_some
theorem Dt {w:World} {X:Nat->Prop} {μ:Mu} {H:Heap} (hs:eu w X μ H) {r ty:Nat} {x:Value} (hH:H r=some (.box ty [.d (.v x)])):∃ m b cur,μ r=some m/\m.fh=some b/\w.heap[b]? = some (.cells cur ty (0,0))/\cur[0]? = some x:=by
 obtain⟨m,hm,ok⟩:=hs.rows r _ hH
 cases ok with
 | box bp bc hc hh hn hr hx=>
  rename_i b cur
  have h0 : 0 < cur.size := by have : 1 <= cur.size := by simpa using hn
                               omega
  refine⟨m,b,cur,hm,bp,hh,?_⟩;have:=(hr 0 cur[0] _ (by simp[h0]) rfl).scalar;rw[abn h0,this]
def xy (W:World) (b:Nat):Nat:=match W.cell? ⟨b,0,none⟩ with
 | some (.string s)=>s.size
 | _=>0
theorem Dv {W:World} {b:Nat} {cur:Array Value} {ty:TypeId} {fr:Nat×Nat} {x:Value} (h:W.heap[b]? = some (.cells cur ty fr)) (h0:cur[0]? = some x):W.cell? ⟨b,0,none⟩=some x:=by
 simp[World.cell?,h,h0]
theorem Qs {W:World} {b:Nat} {cur:Array Value} {ty:TypeId} (h:W.heap[b]? = some (.cells cur ty (0,0))):W.frozen? ⟨b,0,none⟩=false:=by
 simp[World.frozen?,h]
theorem Qy {B:Nat->Prop} {b:Nat} (hb:B b) (W:World) (v:Value):Grown B W (W.setCell ⟨b,0,none⟩ v):=
 ⟨by show W.heap.size<=(W.heap.modify _ _).size;rw[Array.size_modify];exact aa8 _,rfl,rfl,rfl,fun k _ hk=>Below.heap_setCell W ⟨b,0,none⟩ v k fun e=>hk (e ▸ hb)⟩
theorem Dw {W:World} {b b' i j:Nat} {v x:Value} (h:b≠b') (hx:W.cell? ⟨b',j,none⟩=some x):(W.setCell ⟨b,i,none⟩ v).cell? ⟨b',j,none⟩=some x:=by
 rw[<- hx];apply World.cell?_setCell_other;intro e;exact h (by simpa using congrArg Addr.block e)
theorem Iq {W:World} {a:Addr} {u v:Value} (h:W.cell? a=some u):(W.setCell a v).cell? a=some v:=World.cell?_setCell_same _ _ _ h
theorem WL (G:aF) (hM:nh G) (t:Tx) (ht:t.length < 2^30) (w:World) (X:Nat->Prop) (μ:Mu) (lb:Array Value) (hs:eu w X μ (au (u7 t))) (cY:∀ g x,G g=some x->RD w (XX X μ) (.pointer (some ⟨g,0,none⟩)) x)
  (we:lb.size=3) (qu:∀ (i:Nat) (u:Value) (x:AV),lb[i]? = some u->[AV.ref 512 0 0,.ref 511 0 0,.ref 513 0 0][i]? = some x->RV w X μ u x) :
  HN prog 284 lb (gH μ) (fun b=>gH μ b\/GB G b) ((eE 10 t).map fun s=>.string (bs s)) w:=by
 intro l J Jx hJ ZV hY w1 fy h0;obtain⟨mx,ix⟩:=hM;have Sl:=Gf ix cY;have EY:GB G 5:=⟨_,ix,.inl ⟨_,rfl⟩⟩
 obtain⟨vP,vS,vV,rfl⟩:∃ a b c,lb = #[a,b,c]:=by
  match lb,we with
  | ⟨[a,b,c]⟩,_=>exact⟨a,b,c,rfl⟩
 obtain⟨mS,bS,cS,Bt,Bg,JG,Rf⟩:=Dt hs (r:=511) (ty:=9) (x:=.string (bs t)) rfl;obtain⟨mP,bP,cP,EZ,Eg,RP,Re⟩:=Dt hs (r:=512) (ty:=9) (x:=.string (bs [10])) rfl;obtain⟨mV,bV,cV,E0,Eh,RQ,Rg⟩:=Dt hs (r:=513) (ty:=3) (x:=.int .i64 0) rfl
 have S5:vP = .pointer (some ⟨bP,0,none⟩):=by
  obtain⟨m,b,h1,h2,rfl⟩:=(qu 0 vP _ rfl rfl).jd;rw[EZ]at h1;obtain rfl:=AI h1;rw[Eg]at h2;obtain rfl:=AI h2;simp
 have S6:vS = .pointer (some ⟨bS,0,none⟩):=by
  obtain⟨m,b,h1,h2,rfl⟩:=(qu 1 vS _ rfl rfl).jd;rw[Bt]at h1;obtain rfl:=AI h1;rw[Bg]at h2;obtain rfl:=AI h2;simp
 have S7:vV = .pointer (some ⟨bV,0,none⟩):=by
  obtain⟨m,b,h1,h2,rfl⟩:=(qu 2 vV _ rfl rfl).jd;rw[E0]at h1;obtain rfl:=AI h1;rw[Eh]at h2;obtain rfl:=AI h2;simp
 subst S5 S6 S7
 have UN:bS≠bP:=fun e=>by have:=hs.inj 511 512 mS mP bS Bt EZ Bg (e ▸ Eg);omega
 have UO:bS≠bV:=fun e=>by have:=hs.inj 511 513 mS mV bS Bt E0 Bg (e ▸ Eh);omega
 have rS:gH μ bS:=⟨511,mS,Bt,Bg⟩;have rP:gH μ bP:=⟨512,mP,EZ,Eg⟩;have rV:gH μ bV:=⟨513,mV,E0,Eh⟩;have UM:bS≠5:=fun e=>(C4 cY EY).1 (.inr (e ▸ rS));clear qu we hs
 let St:World->Tx->Prop:=fun W r=>W.cell? ⟨bP,0,none⟩=some (.string (bs [10]))/\W.cell? ⟨bV,0,none⟩=some (.int .i64 0)/\W.cell? ⟨bS,0,none⟩=some (.string (bs r))/\W.frozen? ⟨bS,0,none⟩=false/\W.cell? ⟨5,0,none⟩=some (.int .i64 mx)
 have sR:∀ {W W':World} {b:Nat},Go.Av.Kept (fun b=>gH μ b\/GB G b) W W'->(gH μ b\/GB G b)->∀ j,W'.cell? ⟨b,j,none⟩=W.cell? ⟨b,j,none⟩:=fun hk hb j=>World.cell?_of_block (hk.same _ hb);have Ka:St w1 t:=⟨(sR fy (.inl rP) 0).trans (Dv RP Re),(sR fy (.inl rV) 0).trans (Dv RQ Rg),(sR fy (.inl rS) 0).trans (Dv JG Rf),Qs ((fy.same bS (.inl rS)).trans JG),(sR fy (.inr EY) 0).trans Sl⟩
 have R8:∀ {W W':World} {r:Tx},Go.Av.Kept (fun b=>gH μ b\/GB G b) W W'->St W r->St W' r:=fun {W W' r} hk h=>⟨(sR hk (.inl rP) 0).trans h.1,(sR hk (.inl rV) 0).trans h.2.1,(sR hk (.inl rS) 0).trans h.2.2.1,by
  have:=hk.same bS (.inl rS);have h4:=h.2.2.2.1;unfold World.frozen? at h4 ⊢;dsimp only at h4 ⊢
  rw[this];exact h4,(sR hk (.inr EY) 0).trans h.2.2.2.2⟩
 have hL:Lays.n143 prog Tryz.KS:={ Tryz.T2 with }
 have iT:∀ (W:World) (r:Tx),r.length<=t.length->W.cell? ⟨5,0,none⟩=some (.int .i64 mx)->Calls prog 171 #[.string (bs r),.string (bs [10])] W fun e w'=>e = .returned (.int .i64 (if (10:UInt8)∈r then ((cutAt 10 r).1.length:Int) else -1))/\w'=W:=fun W r hr hm=>by
  have fG:=Any.strings_Index hL (bs r) (bs [10]) mx W (by rw[bD];omega) hm;refine fG.mono fun e w' ⟨he,hw⟩=>⟨?_,hw⟩;rw[he,cU,cU];split
  .rename_i h;obtain⟨a,b,rfl,ha⟩:=abN h;rw[vG ha,zb b ha]
  .rename_i h;rw[BI h]
 have fC:=Ka;obtain⟨c1,c2,c3,c4,c5⟩:=Ka;refine (callsIn_wide (n:=0)).1 (callsIn_of_wp (F:=Fence.wide) func284 rfl trivial ?_ rfl);simp only[ntmps284,acp,aa9,abX,Nat.reduceAdd,Nat.reduceSub,Array.replicate_succ,Array.replicate_zero,List.push_toArray,List.append_toArray,abL,aby]
 gi_wp2
 have ma:0 < (eE 10 t).length:=by
  have:=DD (c:=10) t [];exact abG.2 this
 gi_loopw [] (fun wr=>∃ (k:Nat) (r:Tx),k < (eE 10 t).length/\(eE 10 t).drop k=eE 10 r/\r.length<=t.length/\J k wr/\St wr r) (fun wr=>xy wr bS)
 case atStart=>exact⟨0,t,ma,rfl,aa8 _,h0,fC⟩
 case round=>
  obtain⟨k,r,hk,oB,fO,Jf,Jj⟩:=hrel;have QR:=Jj;obtain⟨d1,d2,d3,d4,d5⟩:=Jj;have Bo:=iT wr r fO d5;by_cases hc:(10:UInt8)∈r
  .obtain⟨a,b,rfl,ha⟩:=abN hc;rw[if_pos hc,vG ha]at Bo;rw[IB ha]at oB
   have ES:k < ((eE 10 t).map fun s=>Value.string (bs s)).length:=by simpa using hk
   have ER:(eE 10 t)[k]=a:=by
    rw[abA hk]at oB;exact (List.cons.inj oB).1
   have Jz:(eE 10 t).drop (k+1)=eE 10 b:=by
    rw[abA hk]at oB;exact (List.cons.inj oB).2
   obtain⟨fn,tmps,assign,body,hy,hR⟩:=hY k ES wr Jf;rw[show ((eE 10 t).map fun s=>Value.string (bs s))[k] = .string (bs a) by simp[ER]]at hy
   have rB:a.length<=t.length:=by simp at fO;omega
   gi_wp2
   refine⟨trivial,rfl,?_⟩;refine (callsIn_wide.2 Bo).mono ?_;rintro e w' ⟨rfl,rfl⟩
   have fi:a.length<=(bs (a ++ 10 :: b)).size:=by rw[bD];simp
   have J6:(bs (a ++ 10 :: b)).extract 0 a.length=bs a:=by rw[Lib.extract_eq];simp[bs]
   have eV:a.length+(bs [10]).size<=(bs (a ++ 10 :: b)).size:=by rw[bD,bD];simp
   have aad:(bs (a ++ 10 :: b)).extract (a.length+(bs [10]).size) (bs (a ++ 10 :: b)).size=bs b:=by
    rw[Lib.extract_eq,bD,bD]
    have:(a ++ 10 :: b).drop (a.length+1)=b:=by
     rw[show a.length+1=(a ++ [(10:UInt8)]).length by simp,show a ++ (10:UInt8) :: b=(a ++ [10]) ++ b by simp,List.drop_left]
    simp only[bs,aa9,abX,abe];rw[this,sh (by simp;omega)]
   have qy:¬ ((a.length:Int) < 0):=aa
   have BC:wrap64 ((a.length:Int)+((bs [10]).size:Int))=((a.length+(bs [10]).size:Nat):Int):=by
    rw[bD];simp only[aa9,abX];simp at fO;unfold wrap64;omega
   gi_wp2
   refine⟨rfl,RoundIn.mono (F:=Fence.wide) hR ?_⟩;rintro e W3 (⟨rfl,Bc,Bp⟩ | ⟨rfl,D6⟩)
   .have Jk:=R8 Bp QR;have ZX:=Jk;obtain⟨g1,g2,g3,g4,g5⟩:=Jk
    gi_wp2
    go_roundw
    case rel=>
     refine⟨_,_,_,_,_,_,_,_,_,_,_,_,_,_,_,_,_,_,_,_,_,_,⟨k+1,b,?_,Jz,?_,?_,?_⟩,rfl⟩
     .have:=congrArg List.length Jz;have h2:=abG.2 (DD (c:=10) b []);rw[abp]at this;unfold eE at *;omega
     .simp at fO;omega
     .exact hJ _ _ _ Bc (Qy rS _ _)
     .refine⟨?_,?_,?_,?_,?_⟩
      .exact Dw UN g1
      .exact Dw UO g2
      .exact Iq g3
      .rw[World.frozen?_setCell];exact g4
      .exact Dw UM g5
    case measure=>
     have e1:xy w' bS=(bs (a ++ 10 :: b)).size:=by unfold xy;rw[d3]
     have e2:xy (W3.setCell ⟨bS,0,none⟩ (.string (bs b))) bS=(bs b).size:=by unfold xy;rw[Iq g3]
     rw[e1,e2,bD,bD];simp;omega
   .gi_wp2
    refine bodyPost_ret (results_none rfl _ _ _) rfl ?_;exact⟨⟨_,rfl⟩,.inr D6⟩
  .rw[if_neg hc]at Bo;rw[IA hc]at oB
   have ES:k < ((eE 10 t).map fun s=>Value.string (bs s)).length:=by simpa using hk
   have ER:(eE 10 t)[k]=r:=by
    rw[abA hk]at oB;exact (List.cons.inj oB).1
   have de:k+1=((eE 10 t).map fun s=>Value.string (bs s)).length:=by
    rw[abq];have:=congrArg List.length oB;rw[abp]at this;simp at this;omega
   obtain⟨fn,tmps,assign,body,hy,hR⟩:=hY k ES wr Jf;rw[show ((eE 10 t).map fun s=>Value.string (bs s))[k] = .string (bs r) by simp[ER]]at hy
   gi_wp2
   refine⟨trivial,rfl,?_⟩;refine (callsIn_wide.2 Bo).mono ?_;rintro e w' ⟨rfl,rfl⟩
   gi_wp2
   refine⟨rfl,RoundIn.mono (F:=Fence.wide) hR ?_⟩;rintro e W3 (⟨rfl,Bc,Bp⟩ | ⟨rfl,D6⟩)
   .rw[de]at Bc
    gi_wp2
    go_end0
    exact⟨⟨_,rfl⟩,.inl Bc⟩
   .gi_wp2
    go_end0
    exact⟨⟨_,rfl⟩,.inr D6⟩
