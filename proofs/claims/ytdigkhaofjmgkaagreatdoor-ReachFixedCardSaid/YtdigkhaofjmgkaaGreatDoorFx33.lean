/- Parts. -/
import Derived.Test.YtdigkhaofjmgkaaGreatDoorFx25
import Derived.Test.YtdigkhaofjmgkaaGreatDoorFx27
import Derived.Test.YtdigkhaofjmgkaaGreatDoorFx32
import Derived.RangeFuncNested
import Derived.RangeFuncBound
import Derived.RangeFuncCalls
import Derived.RangeFuncLeaves
import Derived.Shelf.Abstract
import Derived.Shelf.RegionOpen
import Derived.OwnWalkIn
import Derived.TacticsInMore
import Derived.LoopIn
set_option linter.unusedSimpArgs false
set_option linter.unusedVariables false
set_option maxHeartbeats 4000000
open Go.Proofs.Tryz
namespace Go.Proofs.YtdigkhaofjmgkaaGreatDoor
open Go.Av Go.Shelf Go.RowKit
attribute [local go_sem] Oper.semAt_some
def afP (t:Tx):List (Nat×Row):=[(511,.box 9 [.d (dS t)]),(512,.box 9 [.d (dS [10])]),(513,.box 3 [.d (ab 0)])]
def x8:AV:=.fn (.func 210) [.ref 512 0 0,.ref 511 0 0,.ref 513 0 0]
theorem YY (G:aq) (t:Tx):MC prog G [] 165 [.d (dS t),.d (dS [10]),.d (ab 0)] (ak []) x8 (ak (afP t)):=by
 simp only[afP,x8];refine MC.abS (al _) func165 rfl rfl (rs:=[.tmp 6]) results165 (by simp[ntmps165]) rfl fun X=>?_;simp only[ntmps165];have fw:=(Aq @afg @afi);refine rgq fw [3,4,5] [3,4,5] ?_;refine AW.imp (aB.ren (r:=3) (r':=511) (by decide) (by simp)) ?_;refine AW.st (by simp[fb,ac4,Go.Av.ren,mZ];rfl) ?_;refine AW.imp (aB.ren (r:=4) (r':=512) (by decide) (by simp)) ?_;refine AW.st (by simp[fb,ac4,Go.Av.ren,mZ];rfl) ?_;refine AW.imp (aB.ren (r:=5) (r':=513) (by decide) (by simp)) ?_;refine AW.st (by simp[fb,ac4,Go.Av.ren,mZ];rfl) ?_;refine rgq fw [6] [511,512,513] ?_;exact aN (Aq fw (Aq @afg @afi))
theorem Ki:(⟨#[10]⟩:ByteArray)=bs [10]:=rfl
theorem YZ (G:aq) (t:Tx):MC prog G [] 120 [.d (dS t),.d (dS [10])] (ak []) x8 (ak (afP t)):=by
 have h:=YY G t;simp only[afP,x8]at h ⊢;refine MC.abS (al _) func120 rfl rfl (rs:=[.tmp 4]) results120 (by simp[ntmps120]) rfl fun X=>?_;simp only[ntmps120];have fw:=(Aq @afg @afi);refine rgq fw [0,1] [] ?_;refine bf fw h [4] [511,512,513] ?_;exact aN (Aq fw (Aq @afg @afi))
attribute [local go_sem] Oper.semAt_some
theorem B5 {w:World} {X:Nat->Prop} {μ:Mu} {H:Heap} (hs:Sim w X μ H) {r ty:Nat} {x:Value} (hH:H r=some (.box ty [.d (.v x)])):∃ m b cur,μ r=some m/\m.blk=some b/\w.heap[b]? = some (.cells cur ty (0,0))/\cur[0]? = some x:=by
 obtain⟨m,hm,ok⟩:=hs.rows r _ hH
 cases ok with
 | box aU aK hc hh hn hr hx=>
  rename_i b cur
  have h0 : 0 < cur.size := by have : 1 <= cur.size := by simpa using hn
                               omega
  refine⟨m,b,cur,hm,aU,hh,?_⟩;have:=(hr 0 cur[0] _ (by simp[h0]) rfl).scalar;rw[acb h0,this]
def vW (W:World) (b:Nat):Nat:=match W.cell? ⟨b,0,none⟩ with
 | some (.string s)=>s.size
 | _=>0
theorem B8 {W:World} {b:Nat} {cur:Array Value} {ty:TypeId} {fr:Nat×Nat} {x:Value} (h:W.heap[b]? = some (.cells cur ty fr)) (h0:cur[0]? = some x):W.cell? ⟨b,0,none⟩=some x:=by
 simp[World.cell?,h,h0]
theorem P4 {W:World} {b:Nat} {cur:Array Value} {ty:TypeId} (h:W.heap[b]? = some (.cells cur ty (0,0))):W.frozen? ⟨b,0,none⟩=false:=by
 simp[World.frozen?,h]
theorem Qe {B:Nat->Prop} {b:Nat} (hb:B b) (W:World) (v:Value):Grown B W (W.setCell ⟨b,0,none⟩ v):=
 ⟨by show W.heap.size<=(W.heap.modify _ _).size;rw[Array.size_modify];exact abL _,rfl,rfl,rfl,fun k _ hk=>Below.heap_setCell W ⟨b,0,none⟩ v k fun e=>hk (e ▸ hb)⟩
theorem B9 {W:World} {b b' i j:Nat} {v x:Value} (h:b≠b') (hx:W.cell? ⟨b',j,none⟩=some x):(W.setCell ⟨b,i,none⟩ v).cell? ⟨b',j,none⟩=some x:=by
 rw[<- hx];apply World.cell?_setCell_other;intro e;exact h (by simpa using congrArg Addr.block e)
theorem G4 {W:World} {a:Addr} {u v:Value} (h:W.cell? a=some u):(W.setCell a v).cell? a=some v:=World.cell?_setCell_same _ _ _ h
theorem YI (G:aq) (hM:adP G) (t:Tx) (ht:t.length < 2^30) (w:World) (X:Nat->Prop) (μ:Mu) (lb:Array Value) (hs:Sim w X μ (ak (afP t))) (hgl:∀ g x,G g=some x->RD w (XX X μ) (.pointer (some ⟨g,0,none⟩)) x)
  (uz:lb.size=3) (qQ:∀ (i:Nat) (u:Value) (x:AV),lb[i]? = some u->[AV.ref 512 0 0,.ref 511 0 0,.ref 513 0 0][i]? = some x->RV w X μ u x) :
  ag1 prog 210 lb (ran μ) (fun b=>ran μ b\/GB G b) ((acx 10 t).map fun s=>.string (bs s)) w:=by
 intro l J Jx hJ hJx hY w1 bq h0;obtain⟨mx,fh⟩:=hM;have Sm:=EK fh hgl;have DJ:GB G 4:=⟨_,fh,.inl ⟨_,rfl⟩⟩
 obtain⟨vP,vS,vV,rfl⟩:∃ a b c,lb = #[a,b,c]:=by
  match lb,uz with
  | ⟨[a,b,c]⟩,_=>exact⟨a,b,c,rfl⟩
 obtain⟨mS,bS,cS,zL,zA,IK,Rj⟩:=B5 hs (r:=511) (ty:=9) (x:=.string (bs t)) rfl;obtain⟨mP,bP,cP,DK,Da,hhP,Ri⟩:=B5 hs (r:=512) (ty:=9) (x:=.string (bs [10])) rfl;obtain⟨mV,bV,cV,DL,Db,RT,Rk⟩:=B5 hs (r:=513) (ty:=3) (x:=.int .i64 0) rfl
 have hvP:vP = .pointer (some ⟨bP,0,none⟩):=by
  obtain⟨m,b,h1,h2,rfl⟩:=(qQ 0 vP _ rfl rfl).ik;rw[DK]at h1;obtain rfl:=AI h1;rw[Da]at h2;obtain rfl:=AI h2;simp
 have S3:vS = .pointer (some ⟨bS,0,none⟩):=by
  obtain⟨m,b,h1,h2,rfl⟩:=(qQ 1 vS _ rfl rfl).ik;rw[zL]at h1;obtain rfl:=AI h1;rw[zA]at h2;obtain rfl:=AI h2;simp
 have S4:vV = .pointer (some ⟨bV,0,none⟩):=by
  obtain⟨m,b,h1,h2,rfl⟩:=(qQ 2 vV _ rfl rfl).ik;rw[DL]at h1;obtain rfl:=AI h1;rw[Db]at h2;obtain rfl:=AI h2;simp
 subst hvP S3 S4
 have U1:bS≠bP:=fun e=>by have:=hs.inj 511 512 mS mP bS zL DK zA (e ▸ Da);omega
 have U2:bS≠bV:=fun e=>by have:=hs.inj 511 513 mS mV bS zL DL zA (e ▸ Db);omega
 have rS:ran μ bS:=⟨511,mS,zL,zA⟩;have rP:ran μ bP:=⟨512,mP,DK,Da⟩;have rV:ran μ bV:=⟨513,mV,DL,Db⟩;have U0:bS≠4:=fun e=>(BG hgl DJ).1 (.inr (e ▸ rS));clear qQ uz hs
 let St:World->Tx->Prop:=fun W r=>W.cell? ⟨bP,0,none⟩=some (.string (bs [10]))/\W.cell? ⟨bV,0,none⟩=some (.int .i64 0)/\W.cell? ⟨bS,0,none⟩=some (.string (bs r))/\W.frozen? ⟨bS,0,none⟩=false/\W.cell? ⟨4,0,none⟩=some (.int .i64 mx)
 have qM:∀ {W W':World} {b:Nat},Go.Av.Kept (fun b=>ran μ b\/GB G b) W W'->(ran μ b\/GB G b)->∀ j,W'.cell? ⟨b,j,none⟩=W.cell? ⟨b,j,none⟩:=fun hk hb j=>World.cell?_of_block (hk.same _ hb);have D3:St w1 t:=⟨(qM bq (.inl rP) 0).trans (B8 hhP Ri),(qM bq (.inl rV) 0).trans (B8 RT Rk),(qM bq (.inl rS) 0).trans (B8 IK Rj),P4 ((bq.same bS (.inl rS)).trans IK),(qM bq (.inr DJ) 0).trans Sm⟩
 have R7:∀ {W W':World} {r:Tx},Go.Av.Kept (fun b=>ran μ b\/GB G b) W W'->St W r->St W' r:=fun {W W' r} hk h=>⟨(qM hk (.inl rP) 0).trans h.1,(qM hk (.inl rV) 0).trans h.2.1,(qM hk (.inl rS) 0).trans h.2.2.1,by
  have:=hk.same bS (.inl rS);have h4:=h.2.2.2.1;unfold World.frozen? at h4 ⊢;dsimp only at h4 ⊢
  rw[this];exact h4,(qM hk (.inr DJ) 0).trans h.2.2.2.2⟩
 have hL:Lays.n143 prog Tryz.J1:={ Tryz.TV with }
 have hix:∀ (W:World) (r:Tx),r.length<=t.length->W.cell? ⟨4,0,none⟩=some (.int .i64 mx)->Calls prog 205 #[.string (bs r),.string (bs [10])] W fun e w'=>e = .returned (.int .i64 (if (10:UInt8)∈r then ((cutAt 10 r).1.length:Int) else -1))/\w'=W:=fun W r hr hm=>by
  have fC:=Any.strings_Index hL (bs r) (bs [10]) mx W (by rw[bl];omega) hm;refine fC.mono fun e w' ⟨he,hw⟩=>⟨?_,hw⟩;rw[he,cj,cj];split
  .rename_i h;obtain⟨a,b,rfl,ha⟩:=adm h;rw[tM ha,xA b ha]
  .rename_i h;rw[z7 h]
 have ez:=D3;obtain⟨c1,c2,c3,c4,c5⟩:=D3;refine (callsIn_wide (n:=0)).1 (callsIn_of_wp (F:=Fence.wide) func210 rfl trivial ?_ rfl);simp only[ntmps210,aey,acv,aeA,Nat.reduceAdd,Nat.reduceSub,Array.replicate_succ,Array.replicate_zero,List.push_toArray,List.append_toArray,aei,aeo]
 gi_wp2
 have hk0:0 < (acx 10 t).length:=by
  have:=Cm (c:=10) t [];exact adM.2 this
 gi_loopw [] (fun wr=>∃ (k:Nat) (r:Tx),k < (acx 10 t).length/\(acx 10 t).drop k=acx 10 r/\r.length<=t.length/\J k wr/\St wr r) (fun wr=>vW wr bS)
 case atStart=>exact⟨0,t,hk0,rfl,abL _,h0,ez⟩
 case round=>
  obtain⟨k,r,hk,kH,hrl,H8,Iq⟩:=hrel;have QV:=Iq;obtain⟨d1,d2,d3,d4,d5⟩:=Iq;have zF:=hix wr r hrl d5;by_cases hc:(10:UInt8)∈r
  .obtain⟨a,b,rfl,ha⟩:=adm hc;rw[if_pos hc,tM ha]at zF;rw[Hl ha]at kH
   have DF:k < ((acx 10 t).map fun s=>Value.string (bs s)).length:=by simpa using hk
   have DE:(acx 10 t)[k]=a:=by
    rw[acy hk]at kH;exact (List.cons.inj kH).1
   have IE:(acx 10 t).drop (k+1)=acx 10 b:=by
    rw[acy hk]at kH;exact (List.cons.inj kH).2
   obtain⟨fn,tmps,assign,body,hy,hR⟩:=hY k DF wr H8;rw[show ((acx 10 t).map fun s=>Value.string (bs s))[k] = .string (bs a) by simp[DE]]at hy
   have hal:a.length<=t.length:=by simp at hrl;omega
   gi_wp2
   refine⟨trivial,rfl,?_⟩;refine (callsIn_wide.2 zF).mono ?_;rintro e w' ⟨rfl,rfl⟩
   have hb1:a.length<=(bs (a ++ 10 :: b)).size:=by rw[bl];simp
   have Jn:(bs (a ++ 10 :: b)).extract 0 a.length=bs a:=by rw[Lib.extract_eq];simp[bs]
   have hb2:a.length+(bs [10]).size<=(bs (a ++ 10 :: b)).size:=by rw[bl,bl];simp
   have aaM:(bs (a ++ 10 :: b)).extract (a.length+(bs [10]).size) (bs (a ++ 10 :: b)).size=bs b:=by
    rw[Lib.extract_eq,bl,bl]
    have:(a ++ 10 :: b).drop (a.length+1)=b:=by
     rw[show a.length+1=(a ++ [(10:UInt8)]).length by simp,show a ++ (10:UInt8) :: b=(a ++ [10]) ++ b by simp,List.drop_left]
    simp only[bs,acv,aeA,acR];rw[this,sh (by simp;omega)]
   have mO:¬ ((a.length:Int) < 0):=by omega
   have zV:wrap64 ((a.length:Int)+((bs [10]).size:Int))=((a.length+(bs [10]).size:Nat):Int):=by
    rw[bl];simp only[acv,aeA];simp at hrl;unfold wrap64;omega
   gi_wp2
   refine⟨rfl,RoundIn.mono (F:=Fence.wide) hR ?_⟩;rintro e W3 (⟨rfl,zq,cY⟩ | ⟨rfl,CQ⟩)
   .have Ir:=R7 cY QV;have aaD:=Ir;obtain⟨g1,g2,g3,g4,g5⟩:=Ir
    gi_wp2
    go_roundw
    case rel=>
     refine⟨_,_,_,_,_,_,_,_,_,_,_,_,_,_,_,_,_,_,_,_,_,_,⟨k+1,b,?_,IE,?_,?_,?_⟩,rfl⟩
     .have:=congrArg List.length IE;have h2:=adM.2 (Cm (c:=10) b []);rw[acK]at this;unfold acx at *;omega
     .simp at hrl;omega
     .exact hJ _ _ _ zq (Qe rS _ _)
     .refine⟨?_,?_,?_,?_,?_⟩
      .exact B9 U1 g1
      .exact B9 U2 g2
      .exact G4 g3
      .rw[World.frozen?_setCell];exact g4
      .exact B9 U0 g5
    case measure=>
     have e1:vW w' bS=(bs (a ++ 10 :: b)).size:=by unfold vW;rw[d3]
     have e2:vW (W3.setCell ⟨bS,0,none⟩ (.string (bs b))) bS=(bs b).size:=by unfold vW;rw[G4 g3]
     rw[e1,e2,bl,bl];simp;omega
   .gi_wp2
    refine bodyPost_ret (results_none rfl _ _ _) rfl ?_;exact⟨⟨_,rfl⟩,.inr CQ⟩
  .rw[if_neg hc]at zF;rw[Hk hc]at kH
   have DF:k < ((acx 10 t).map fun s=>Value.string (bs s)).length:=by simpa using hk
   have DE:(acx 10 t)[k]=r:=by
    rw[acy hk]at kH;exact (List.cons.inj kH).1
   have hkl:k+1=((acx 10 t).map fun s=>Value.string (bs s)).length:=by
    rw[ac1];have:=congrArg List.length kH;rw[acK]at this;simp at this;omega
   obtain⟨fn,tmps,assign,body,hy,hR⟩:=hY k DF wr H8;rw[show ((acx 10 t).map fun s=>Value.string (bs s))[k] = .string (bs r) by simp[DE]]at hy
   gi_wp2
   refine⟨trivial,rfl,?_⟩;refine (callsIn_wide.2 zF).mono ?_;rintro e w' ⟨rfl,rfl⟩
   gi_wp2
   refine⟨rfl,RoundIn.mono (F:=Fence.wide) hR ?_⟩;rintro e W3 (⟨rfl,zq,cY⟩ | ⟨rfl,CQ⟩)
   .rw[hkl]at zq
    gi_wp2
    go_end0
    exact⟨⟨_,rfl⟩,.inl zq⟩
   .gi_wp2
    go_end0
    exact⟨⟨_,rfl⟩,.inr CQ⟩
