/- Parts. -/
import Derived.Test.YtobejfcgcfdpfaaGreatDoorPc25
import Derived.Test.YtobejfcgcfdpfaaGreatDoorPc27
import Derived.Test.YtobejfcgcfdpfaaGreatDoorPc32
import Derived.RangeFuncNested
import Derived.RangeFuncBound
import Derived.RangeFuncCalls
import Derived.RangeFuncLeaves
import Derived.Shelf.Abstract
import Derived.Shelf.RegionOpen
import Derived.OwnWalkIn
import Derived.TacticsInMore
import Derived.LoopIn
set_option linter.unusedSimpArgs false
set_option linter.unusedVariables false
set_option maxHeartbeats 4000000
open Go.Proofs.Tryz
namespace Go.Proofs.YtobejfcgcfdpfaaGreatDoor
open Go.Av Go.Shelf Go.RowKit
attribute [local go_sem] Oper.semAt_some
def AB (t:Tx):List (Nat×Row):=[(511,.box 9 [.d (dS t)]),(512,.box 9 [.d (dS [10])]),(513,.box 3 [.d (ab 0)])]
def FA:AV:=.fn (.func 164) [.ref 512 0 0,.ref 511 0 0,.ref 513 0 0]
theorem ajd (G:aB) (t:Tx):MC prog G [] 129 [.d (dS t),.d (dS [10]),.d (ab 0)] (aw []) FA (aw (AB t)):=by
 simp only[AB,FA];refine MC.aO (ay _) func129 rfl rfl (rs:=[.tmp 6]) results129 (by simp[ntmps129]) rfl fun X=>?_;simp only[ntmps129];have fw:=aoF;refine ae fw [3,4,5] [3,4,5] ?_;refine AW.imp (aL.eb (r:=3) (r':=511) bD ak) ?_;refine AW.st (by simp[iN,iM,Go.Av.eb,rZ];rfl) ?_;refine AW.imp (aL.eb (r:=4) (r':=512) bD ak) ?_;refine AW.st (by simp[iN,iM,Go.Av.eb,rZ];rfl) ?_;refine AW.imp (aL.eb (r:=5) (r':=513) bD ak) ?_;refine AW.st (by simp[iN,iM,Go.Av.eb,rZ];rfl) ?_;refine ae fw [6] [511,512,513] ?_;exact aY (Aq fw aoF)
theorem UR:(⟨#[10]⟩:ByteArray)=bs [10]:=rfl
theorem aje (G:aB) (t:Tx):MC prog G [] 91 [.d (dS t),.d (dS [10])] (aw []) FA (aw (AB t)):=by
 have h:=ajd G t;simp only[AB,FA]at h ⊢;refine MC.aO (ay _) func91 rfl rfl (rs:=[.tmp 4]) results91 (by simp[ntmps91]) rfl fun X=>?_;simp only[ntmps91];have fw:=aoF;refine ae fw [0,1] [] ?_;refine bK fw h [4] [511,512,513] ?_;exact aY (Aq fw aoF)
attribute [local go_sem] Oper.semAt_some
theorem Kt {w:World} {X:Nat->Prop} {μ:Mu} {H:Heap} (hs:eT w X μ H) {r ty:Nat} {x:Value} (hH:H r=some (.box ty [.d (.v x)])):∃ m b cur,μ r=some m/\m.fT=some b/\w.heap[b]? = some (.cells cur ty (0,0))/\cur[0]? = some x:=by
 obtain⟨m,hm,ok⟩:=hs.rows r _ hH
 cases ok with
 | box br bp hc hh hn hr hx=>
  rename_i b cur
  have h0 : 0 < cur.size := by have : 1 <= cur.size := by simpa using hn
                               omega
  refine⟨m,b,cur,hm,br,hh,?_⟩;have:=(hr 0 cur[0] _ (by simp[h0]) rfl).scalar;rw[amA h0,this]
def Di (W:World) (b:Nat):Nat:=match W.cell? ⟨b,0,none⟩ with
 | some (.string s)=>s.size
 | _=>0
theorem Kv {W:World} {b:Nat} {cur:Array Value} {ty:TypeId} {fr:Nat×Nat} {x:Value} (h:W.heap[b]? = some (.cells cur ty fr)) (h0:cur[0]? = some x):W.cell? ⟨b,0,none⟩=some x:=by
 simp[World.cell?,h,h0]
theorem aa4 {W:World} {b:Nat} {cur:Array Value} {ty:TypeId} (h:W.heap[b]? = some (.cells cur ty (0,0))):W.frozen? ⟨b,0,none⟩=false:=by
 simp[World.frozen?,h]
theorem abh {B:Nat->Prop} {b:Nat} (hb:B b) (W:World) (v:Value):Grown B W (W.setCell ⟨b,0,none⟩ v):=
 ⟨by show W.heap.size<=(W.heap.modify _ _).size;rw[Array.size_modify];exact amh _,rfl,rfl,rfl,fun k _ hk=>Below.heap_setCell W ⟨b,0,none⟩ v k fun e=>hk (e ▸ hb)⟩
theorem Kw {W:World} {b b' i j:Nat} {v x:Value} (h:b≠b') (hx:W.cell? ⟨b',j,none⟩=some x):(W.setCell ⟨b,i,none⟩ v).cell? ⟨b',j,none⟩=some x:=by
 rw[<- hx];apply World.cell?_setCell_other;intro e;exact h (by simpa using congrArg Addr.block e)
theorem QJ {W:World} {a:Addr} {u v:Value} (h:W.cell? a=some u):(W.setCell a v).cell? a=some v:=World.cell?_setCell_same _ _ _ h
theorem aiY (G:aB) (hM:ky G) (t:Tx) (ht:t.length < 2^30) (w:World) (X:Nat->Prop) (μ:Mu) (lb:Array Value) (hs:eT w X μ (aw (AB t))) (cW:∀ g x,G g=some x->RD w (XX X μ) (.pointer (some ⟨g,0,none⟩)) x)
  (tG:lb.size=3) (xH:∀ (i:Nat) (u:Value) (x:AV),lb[i]? = some u->[AV.ref 512 0 0,.ref 511 0 0,.ref 513 0 0][i]? = some x->RV w X μ u x) :
  Qd prog 164 lb (jU μ) (fun b=>jU μ b\/GB G b) ((fy 10 t).map fun s=>.string (bs s)) w:=by
 intro l J Jx hJ hJx hY w1 bO h0;obtain⟨mx,iq⟩:=hM;have acH:=N8 iq cW;have MJ:GB G 4:=⟨_,iq,.inl ⟨_,rfl⟩⟩
 obtain⟨vP,vS,vV,rfl⟩:∃ a b c,lb = #[a,b,c]:=by
  match lb,tG with
  | ⟨[a,b,c]⟩,_=>exact⟨a,b,c,rfl⟩
 obtain⟨mS,bS,cS,HL,Hp,S3,D1⟩:=Kt hs (r:=511) (ty:=9) (x:=.string (bs t)) rfl;obtain⟨mP,bP,cP,MK,LN,hhP,hcP⟩:=Kt hs (r:=512) (ty:=9) (x:=.string (bs [10])) rfl;obtain⟨mV,bV,cV,ML,LO,hhV,hcV⟩:=Kt hs (r:=513) (ty:=3) (x:=.int .i64 0) rfl
 have hvP:vP = .pointer (some ⟨bP,0,none⟩):=by
  obtain⟨m,b,h1,h2,rfl⟩:=(xH 0 vP _ rfl rfl).mo;rw[MK]at h1;obtain rfl:=AI h1;rw[LN]at h2;obtain rfl:=AI h2;simp
 have hvS:vS = .pointer (some ⟨bS,0,none⟩):=by
  obtain⟨m,b,h1,h2,rfl⟩:=(xH 1 vS _ rfl rfl).mo;rw[HL]at h1;obtain rfl:=AI h1;rw[Hp]at h2;obtain rfl:=AI h2;simp
 have hvV:vV = .pointer (some ⟨bV,0,none⟩):=by
  obtain⟨m,b,h1,h2,rfl⟩:=(xH 2 vV _ rfl rfl).mo;rw[ML]at h1;obtain rfl:=AI h1;rw[LO]at h2;obtain rfl:=AI h2;simp
 subst hvP hvS hvV
 have nSP:bS≠bP:=fun e=>by have:=hs.inj 511 512 mS mP bS HL MK Hp (e ▸ LN);omega
 have nSV:bS≠bV:=fun e=>by have:=hs.inj 511 513 mS mV bS HL ML Hp (e ▸ LO);omega
 have rS:jU μ bS:=⟨511,mS,HL,Hp⟩;have rP:jU μ bP:=⟨512,mP,MK,LN⟩;have rV:jU μ bV:=⟨513,mV,ML,LO⟩;have nSM:bS≠4:=fun e=>(J1 cW MJ).1 (.inr (e ▸ rS));clear xH tG hs
 let St:World->Tx->Prop:=fun W r=>W.cell? ⟨bP,0,none⟩=some (.string (bs [10]))/\W.cell? ⟨bV,0,none⟩=some (.int .i64 0)/\W.cell? ⟨bS,0,none⟩=some (.string (bs r))/\W.frozen? ⟨bS,0,none⟩=false/\W.cell? ⟨4,0,none⟩=some (.int .i64 mx)
 have xE:∀ {W W':World} {b:Nat},Go.Av.Kept (fun b=>jU μ b\/GB G b) W W'->(jU μ b\/GB G b)->∀ j,W'.cell? ⟨b,j,none⟩=W.cell? ⟨b,j,none⟩:=fun hk hb j=>World.cell?_of_block (hk.same _ hb);have zQ:St w1 t:=⟨(xE bO (.inl rP) 0).trans (Kv hhP hcP),(xE bO (.inl rV) 0).trans (Kv hhV hcV),(xE bO (.inl rS) 0).trans (Kv S3 D1),aa4 ((bO.same bS (.inl rS)).trans S3),(xE bO (.inr MJ) 0).trans acH⟩
 have acw:∀ {W W':World} {r:Tx},Go.Av.Kept (fun b=>jU μ b\/GB G b) W W'->St W r->St W' r:=fun {W W' r} hk h=>⟨(xE hk (.inl rP) 0).trans h.1,(xE hk (.inl rV) 0).trans h.2.1,(xE hk (.inl rS) 0).trans h.2.2.1,by
  have:=hk.same bS (.inl rS);have h4:=h.2.2.2.1;unfold World.frozen? at h4 ⊢;dsimp only at h4 ⊢
  rw[this];exact h4,(xE hk (.inr MJ) 0).trans h.2.2.2.2⟩
 have hL:Lays.n143 prog Tryz.Uy:={ Tryz.ad3 with }
 have gR:∀ (W:World) (r:Tx),r.length<=t.length->W.cell? ⟨4,0,none⟩=some (.int .i64 mx)->Calls prog 157 #[.string (bs r),.string (bs [10])] W fun e w'=>e = .returned (.int .i64 (if (10:UInt8)∈r then ((cutAt 10 r).1.length:Int) else -1))/\w'=W:=fun W r hr hm=>by
  have ju:=Any.strings_Index hL (bs r) (bs [10]) mx W (by rw[bX];omega) hm;refine ju.mono fun e w' ⟨he,hw⟩=>⟨?_,hw⟩;rw[he,dM,dM];split
  .rename_i h;obtain⟨a,b,rfl,ha⟩:=ana h;rw[Bb ha,ER b ha]
  .rename_i h;rw[Ig h]
 have hU:=zQ;obtain⟨c1,c2,c3,c4,c5⟩:=zQ;refine (callsIn_wide (n:=0)).1 (callsIn_of_wp (F:=Fence.wide) func164 rfl trivial ?_ rfl);simp only[ntmps164,ans,amo,am2,Nat.reduceAdd,Nat.reduceSub,Array.replicate_succ,Array.replicate_zero,List.push_toArray,List.append_toArray,ang,am7]
 gi_wp2
 have gn:0 < (fy 10 t).length:=by
  have:=KG (c:=10) t [];exact anc.2 this
 gi_loopw [] (fun wr=>∃ (k:Nat) (r:Tx),k < (fy 10 t).length/\(fy 10 t).drop k=fy 10 r/\r.length<=t.length/\J k wr/\St wr r) (fun wr=>Di wr bS)
 case atStart=>exact⟨0,t,gn,rfl,amh _,h0,hU⟩
 case round=>
  obtain⟨k,r,hk,nZ,eC,Sa,Ss⟩:=hrel;have abI:=Ss;obtain⟨d1,d2,d3,d4,d5⟩:=Ss;have HD:=gR wr r eC d5;by_cases hc:(10:UInt8)∈r
  .obtain⟨a,b,rfl,ha⟩:=ana hc;rw[if_pos hc,Bb ha]at HD;rw[QW ha]at nZ
   have MB:k < ((fy 10 t).map fun s=>Value.string (bs s)).length:=by simpa using hk
   have Mz:(fy 10 t)[k]=a:=by
    rw[amu hk]at nZ;exact (List.cons.inj nZ).1
   have SS:(fy 10 t).drop (k+1)=fy 10 b:=by
    rw[amu hk]at nZ;exact (List.cons.inj nZ).2
   obtain⟨fn,tmps,assign,body,hy,hR⟩:=hY k MB wr Sa;rw[show ((fy 10 t).map fun s=>Value.string (bs s))[k] = .string (bs a) by simp[Mz]]at hy
   have vL:a.length<=t.length:=by simp at eC;omega
   gi_wp2
   refine⟨trivial,rfl,?_⟩;refine (callsIn_wide.2 HD).mono ?_;rintro e w' ⟨rfl,rfl⟩
   have e9:a.length<=(bs (a ++ 10 :: b)).size:=by rw[bX];simp
   have TJ:(bs (a ++ 10 :: b)).extract 0 a.length=bs a:=by rw[Lib.extract_eq];simp[bs]
   have fk:a.length+(bs [10]).size<=(bs (a ++ 10 :: b)).size:=by rw[bX,bX];simp
   have ale:(bs (a ++ 10 :: b)).extract (a.length+(bs [10]).size) (bs (a ++ 10 :: b)).size=bs b:=by
    rw[Lib.extract_eq,bX,bX]
    have:(a ++ 10 :: b).drop (a.length+1)=b:=by
     rw[show a.length+1=(a ++ [(10:UInt8)]).length by simp,show a ++ (10:UInt8) :: b=(a ++ [10]) ++ b by simp,List.drop_left]
    simp only[bs,amo,am2,amR];rw[this,sh (by simp;omega)]
   have qL:¬ ((a.length:Int) < 0):=aa
   have H5:wrap64 ((a.length:Int)+((bs [10]).size:Int))=((a.length+(bs [10]).size:Nat):Int):=by
    rw[bX];simp only[amo,am2];simp at eC;unfold wrap64;omega
   gi_wp2
   refine⟨rfl,RoundIn.mono (F:=Fence.wide) hR ?_⟩;rintro e W3 (⟨rfl,Ha,eE⟩ | ⟨rfl,Ls⟩)
   .have Su:=acw eE abI;have ak1:=Su;obtain⟨g1,g2,g3,g4,g5⟩:=Su
    gi_wp2
    go_roundw
    case rel=>
     refine⟨_,_,_,_,_,_,_,_,_,_,_,_,_,_,_,_,_,_,_,_,_,_,⟨k+1,b,?_,SS,?_,?_,?_⟩,rfl⟩
     .have:=congrArg List.length SS;have h2:=anc.2 (KG (c:=10) b []);rw[amF]at this;unfold fy at *;omega
     .simp at eC;omega
     .exact hJ _ _ _ Ha (abh rS _ _)
     .refine⟨?_,?_,?_,?_,?_⟩
      .exact Kw nSP g1
      .exact Kw nSV g2
      .exact QJ g3
      .rw[World.frozen?_setCell];exact g4
      .exact Kw nSM g5
    case measure=>
     have e1:Di w' bS=(bs (a ++ 10 :: b)).size:=by unfold Di;rw[d3]
     have e2:Di (W3.setCell ⟨bS,0,none⟩ (.string (bs b))) bS=(bs b).size:=by unfold Di;rw[QJ g3]
     rw[e1,e2,bX,bX];simp;omega
   .gi_wp2
    refine bodyPost_ret (results_none rfl _ _ _) rfl ?_;exact⟨⟨_,rfl⟩,.inr Ls⟩
  .rw[if_neg hc]at HD;rw[QV hc]at nZ
   have MB:k < ((fy 10 t).map fun s=>Value.string (bs s)).length:=by simpa using hk
   have Mz:(fy 10 t)[k]=r:=by
    rw[amu hk]at nZ;exact (List.cons.inj nZ).1
   have dO:k+1=((fy 10 t).map fun s=>Value.string (bs s)).length:=by
    rw[amT];have:=congrArg List.length nZ;rw[amF]at this;simp at this;omega
   obtain⟨fn,tmps,assign,body,hy,hR⟩:=hY k MB wr Sa;rw[show ((fy 10 t).map fun s=>Value.string (bs s))[k] = .string (bs r) by simp[Mz]]at hy
   gi_wp2
   refine⟨trivial,rfl,?_⟩;refine (callsIn_wide.2 HD).mono ?_;rintro e w' ⟨rfl,rfl⟩
   gi_wp2
   refine⟨rfl,RoundIn.mono (F:=Fence.wide) hR ?_⟩;rintro e W3 (⟨rfl,Ha,eE⟩ | ⟨rfl,Ls⟩)
   .rw[dO]at Ha
    gi_wp2
    go_end0
    exact⟨⟨_,rfl⟩,.inl Ha⟩
   .gi_wp2
    go_end0
    exact⟨⟨_,rfl⟩,.inr Ls⟩
