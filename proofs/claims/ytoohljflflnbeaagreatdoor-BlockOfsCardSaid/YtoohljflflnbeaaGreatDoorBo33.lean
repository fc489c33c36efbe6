/- Parts. -/
import Derived.Test.YtoohljflflnbeaaGreatDoorBo25
import Derived.Test.YtoohljflflnbeaaGreatDoorBo27
import Derived.Test.YtoohljflflnbeaaGreatDoorBo32
import Derived.RangeFuncNested
import Derived.RangeFuncBound
import Derived.RangeFuncCalls
import Derived.RangeFuncLeaves
import Derived.Shelf.Abstract
import Derived.Shelf.RegionOpen
import Derived.OwnWalkIn
import Derived.TacticsInMore
import Derived.LoopIn
set_option linter.unusedSimpArgs false
set_option linter.unusedVariables false
set_option maxHeartbeats 4000000
open Go.Proofs.Tryz
namespace Go.Proofs.YtoohljflflnbeaaGreatDoor
open Go.Av Go.Shelf Go.RowKit
attribute [local go_sem] Oper.semAt_some
def xZ (t:Tx):List (Nat×Row):=[(511,.box 9 [.d (dS t)]),(512,.box 9 [.d (dS [10])]),(513,.box 3 [.d (ab 0)])]
def CH:AV:=.fn (.func 284) [.ref 512 0 0,.ref 511 0 0,.ref 513 0 0]
theorem adW (G:aC) (t:Tx):MC prog G [] 228 [.d (dS t),.d (dS [10]),.d (ab 0)] (aw []) CH (aw (xZ t)):=by
 simp only[xZ,CH];refine MC.aQ (aB _) func228 rfl rfl (rs:=[.tmp 6]) results228 (by simp[ntmps228]) rfl fun X=>?_;simp only[ntmps228];have fw:=aiR;refine ae fw [3,4,5] [3,4,5] ?_;refine AW.imp (aK.dM (r:=3) (r':=511) bO ak) ?_;refine AW.st (by simp[gR,gQ,Go.Av.dM,qS];rfl) ?_;refine AW.imp (aK.dM (r:=4) (r':=512) bO ak) ?_;refine AW.st (by simp[gR,gQ,Go.Av.dM,qS];rfl) ?_;refine AW.imp (aK.dM (r:=5) (r':=513) bO ak) ?_;refine AW.st (by simp[gR,gQ,Go.Av.dM,qS];rfl) ?_;refine ae fw [6] [511,512,513] ?_;exact aW (Aq fw aiR)
theorem Pm:(⟨#[10]⟩:ByteArray)=bs [10]:=rfl
theorem adX (G:aC) (t:Tx):MC prog G [] 178 [.d (dS t),.d (dS [10])] (aw []) CH (aw (xZ t)):=by
 have h:=adW G t;simp only[xZ,CH]at h ⊢;refine MC.aQ (aB _) func178 rfl rfl (rs:=[.tmp 4]) results178 (by simp[ntmps178]) rfl fun X=>?_;simp only[ntmps178];have fw:=aiR;refine ae fw [0,1] [] ?_;refine bD fw h [4] [511,512,513] ?_;exact aW (Aq fw aiR)
attribute [local go_sem] Oper.semAt_some
theorem Gy {w:World} {X:Nat->Prop} {μ:Mu} {H:Heap} (hs:eF w X μ H) {r ty:Nat} {x:Value} (hH:H r=some (.box ty [.d (.v x)])):∃ m b cur,μ r=some m/\m.fo=some b/\w.heap[b]? = some (.cells cur ty (0,0))/\cur[0]? = some x:=by
 obtain⟨m,hm,ok⟩:=hs.rows r _ hH
 cases ok with
 | box bk bg hc hh hn hr hx=>
  rename_i b cur
  have h0 : 0 < cur.size := by have : 1 <= cur.size := by simpa using hn
                               omega
  refine⟨m,b,cur,hm,bk,hh,?_⟩;have:=(hr 0 cur[0] _ (by simp[h0]) rfl).scalar;rw[agL h0,this]
def Au (W:World) (b:Nat):Nat:=match W.cell? ⟨b,0,none⟩ with
 | some (.string s)=>s.size
 | _=>0
theorem GA {W:World} {b:Nat} {cur:Array Value} {ty:TypeId} {fr:Nat×Nat} {x:Value} (h:W.heap[b]? = some (.cells cur ty fr)) (h0:cur[0]? = some x):W.cell? ⟨b,0,none⟩=some x:=by
 simp[World.cell?,h,h0]
theorem WX {W:World} {b:Nat} {cur:Array Value} {ty:TypeId} (h:W.heap[b]? = some (.cells cur ty (0,0))):W.frozen? ⟨b,0,none⟩=false:=by
 simp[World.frozen?,h]
theorem Xa {B:Nat->Prop} {b:Nat} (hb:B b) (W:World) (v:Value):Grown B W (W.setCell ⟨b,0,none⟩ v):=
 ⟨by show W.heap.size<=(W.heap.modify _ _).size;rw[Array.size_modify];exact agD _,rfl,rfl,rfl,fun k _ hk=>Below.heap_setCell W ⟨b,0,none⟩ v k fun e=>hk (e ▸ hb)⟩
theorem GC {W:World} {b b' i j:Nat} {v x:Value} (h:b≠b') (hx:W.cell? ⟨b',j,none⟩=some x):(W.setCell ⟨b,i,none⟩ v).cell? ⟨b',j,none⟩=some x:=by
 rw[<- hx];apply World.cell?_setCell_other;intro e;exact h (by simpa using congrArg Addr.block e)
theorem LR {W:World} {a:Addr} {u v:Value} (h:W.cell? a=some u):(W.setCell a v).cell? a=some v:=World.cell?_setCell_same _ _ _ h
theorem adH (G:aC) (hM:j3 G) (t:Tx) (ht:t.length < 2^30) (w:World) (X:Nat->Prop) (μ:Mu) (lb:Array Value) (hs:eF w X μ (aw (xZ t))) (dz:∀ g x,G g=some x->RD w (XX X μ) (.pointer (some ⟨g,0,none⟩)) x)
  (ze:lb.size=3) (u6:∀ (i:Nat) (u:Value) (x:AV),lb[i]? = some u->[AV.ref 512 0 0,.ref 511 0 0,.ref 513 0 0][i]? = some x->RV w X μ u x) :
  Lp prog 284 lb (jj μ) (fun b=>jj μ b\/GB G b) ((eV 10 t).map fun s=>.string (bs s)) w:=by
 intro l J Jx hJ hJx hY w1 bC h0;obtain⟨mx,gZ⟩:=hM;have Zg:=Jv gZ dz;have Ia:GB G 5:=⟨_,gZ,.inl ⟨_,rfl⟩⟩
 obtain⟨vP,vS,vV,rfl⟩:∃ a b c,lb = #[a,b,c]:=by
  match lb,ze with
  | ⟨[a,b,c]⟩,_=>exact⟨a,b,c,rfl⟩
 obtain⟨mS,bS,cS,Es,Eg,NF,Yd⟩:=Gy hs (r:=511) (ty:=9) (x:=.string (bs t)) rfl;obtain⟨mP,bP,cP,Ib,Hu,YM,Yc⟩:=Gy hs (r:=512) (ty:=9) (x:=.string (bs [10])) rfl;obtain⟨mV,bV,cV,Ic,Hv,YN,Ye⟩:=Gy hs (r:=513) (ty:=3) (x:=.int .i64 0) rfl
 have ZX:vP = .pointer (some ⟨bP,0,none⟩):=by
  obtain⟨m,b,h1,h2,rfl⟩:=(u6 0 vP _ rfl rfl).lu;rw[Ib]at h1;obtain rfl:=AI h1;rw[Hu]at h2;obtain rfl:=AI h2;simp
 have ZY:vS = .pointer (some ⟨bS,0,none⟩):=by
  obtain⟨m,b,h1,h2,rfl⟩:=(u6 1 vS _ rfl rfl).lu;rw[Es]at h1;obtain rfl:=AI h1;rw[Eg]at h2;obtain rfl:=AI h2;simp
 have ZZ:vV = .pointer (some ⟨bV,0,none⟩):=by
  obtain⟨m,b,h1,h2,rfl⟩:=(u6 2 vV _ rfl rfl).lu;rw[Ic]at h1;obtain rfl:=AI h1;rw[Hv]at h2;obtain rfl:=AI h2;simp
 subst ZX ZY ZZ
 have nSP:bS≠bP:=fun e=>by have:=hs.inj 511 512 mS mP bS Es Ib Eg (e ▸ Hu);omega
 have nSV:bS≠bV:=fun e=>by have:=hs.inj 511 513 mS mV bS Es Ic Eg (e ▸ Hv);omega
 have rS:jj μ bS:=⟨511,mS,Es,Eg⟩;have rP:jj μ bP:=⟨512,mP,Ib,Hu⟩;have rV:jj μ bV:=⟨513,mV,Ic,Hv⟩;have nSM:bS≠5:=fun e=>(Ge dz Ia).1 (.inr (e ▸ rS));clear u6 ze hs
 let St:World->Tx->Prop:=fun W r=>W.cell? ⟨bP,0,none⟩=some (.string (bs [10]))/\W.cell? ⟨bV,0,none⟩=some (.int .i64 0)/\W.cell? ⟨bS,0,none⟩=some (.string (bs r))/\W.frozen? ⟨bS,0,none⟩=false/\W.cell? ⟨5,0,none⟩=some (.int .i64 mx)
 have u3:∀ {W W':World} {b:Nat},Go.Av.Kept (fun b=>jj μ b\/GB G b) W W'->(jj μ b\/GB G b)->∀ j,W'.cell? ⟨b,j,none⟩=W.cell? ⟨b,j,none⟩:=fun hk hb j=>World.cell?_of_block (hk.same _ hb);have IF:St w1 t:=⟨(u3 bC (.inl rP) 0).trans (GA YM Yc),(u3 bC (.inl rV) 0).trans (GA YN Ye),(u3 bC (.inl rS) 0).trans (GA NF Yd),WX ((bC.same bS (.inl rS)).trans NF),(u3 bC (.inr Ia) 0).trans Zg⟩
 have Y1:∀ {W W':World} {r:Tx},Go.Av.Kept (fun b=>jj μ b\/GB G b) W W'->St W r->St W' r:=fun {W W' r} hk h=>⟨(u3 hk (.inl rP) 0).trans h.1,(u3 hk (.inl rV) 0).trans h.2.1,(u3 hk (.inl rS) 0).trans h.2.2.1,by
  have:=hk.same bS (.inl rS);have h4:=h.2.2.2.1;unfold World.frozen? at h4 ⊢;dsimp only at h4 ⊢
  rw[this];exact h4,(u3 hk (.inr Ia) 0).trans h.2.2.2.2⟩
 have hL:Lays.n143 prog Tryz.O2:={ Tryz.aaG with }
 have gN:∀ (W:World) (r:Tx),r.length<=t.length->W.cell? ⟨5,0,none⟩=some (.int .i64 mx)->Calls prog 171 #[.string (bs r),.string (bs [10])] W fun e w'=>e = .returned (.int .i64 (if (10:UInt8)∈r then ((cutAt 10 r).1.length:Int) else -1))/\w'=W:=fun W r hr hm=>by
  have iF:=Any.strings_Index hL (bs r) (bs [10]) mx W (by rw[bQ];omega) hm;refine iF.mono fun e w' ⟨he,hw⟩=>⟨?_,hw⟩;rw[he,dk,dk];split
  .rename_i h;obtain⟨a,b,rfl,ha⟩:=ahj h;rw[yx ha,B6 b ha]
  .rename_i h;rw[EL h]
 have gl:=IF;obtain⟨c1,c2,c3,c4,c5⟩:=IF;refine (callsIn_wide (n:=0)).1 (callsIn_of_wp (F:=Fence.wide) func284 rfl trivial ?_ rfl);simp only[ntmps284,ahX,agS,ahZ,Nat.reduceAdd,Nat.reduceSub,Array.replicate_succ,Array.replicate_zero,List.push_toArray,List.append_toArray,ahP,ahR]
 gi_wp2
 have fM:0 < (eV 10 t).length:=by
  have:=GL (c:=10) t [];exact ahu.2 this
 gi_loopw [] (fun wr=>∃ (k:Nat) (r:Tx),k < (eV 10 t).length/\(eV 10 t).drop k=eV 10 r/\r.length<=t.length/\J k wr/\St wr r) (fun wr=>Au wr bS)
 case atStart=>exact⟨0,t,fM,rfl,agD _,h0,gl⟩
 case round=>
  obtain⟨k,r,hk,mo,eY,MY,Nh⟩:=hrel;have XQ:=Nh;obtain⟨d1,d2,d3,d4,d5⟩:=Nh;have Em:=gN wr r eY d5;by_cases hc:(10:UInt8)∈r
  .obtain⟨a,b,rfl,ha⟩:=ahj hc;rw[if_pos hc,yx ha]at Em;rw[Ma ha]at mo
   have H6:k < ((eV 10 t).map fun s=>Value.string (bs s)).length:=by simpa using hk
   have H5:(eV 10 t)[k]=a:=by
    rw[agR hk]at mo;exact (List.cons.inj mo).1
   have Nx:(eV 10 t).drop (k+1)=eV 10 b:=by
    rw[agR hk]at mo;exact (List.cons.inj mo).2
   obtain⟨fn,tmps,assign,body,hy,hR⟩:=hY k H6 wr MY;rw[show ((eV 10 t).map fun s=>Value.string (bs s))[k] = .string (bs a) by simp[H5]]at hy
   have pX:a.length<=t.length:=by simp at eY;omega
   gi_wp2
   refine⟨trivial,rfl,?_⟩;refine (callsIn_wide.2 Em).mono ?_;rintro e w' ⟨rfl,rfl⟩
   have eM:a.length<=(bs (a ++ 10 :: b)).size:=by rw[bQ];simp
   have tY:(bs (a ++ 10 :: b)).extract 0 a.length=bs a:=by rw[Lib.extract_eq];simp[bs]
   have gB:a.length+(bs [10]).size<=(bs (a ++ 10 :: b)).size:=by rw[bQ,bQ];simp
   have afz:(bs (a ++ 10 :: b)).extract (a.length+(bs [10]).size) (bs (a ++ 10 :: b)).size=bs b:=by
    rw[Lib.extract_eq,bQ,bQ]
    have:(a ++ 10 :: b).drop (a.length+1)=b:=by
     rw[show a.length+1=(a ++ [(10:UInt8)]).length by simp,show a ++ (10:UInt8) :: b=(a ++ [10]) ++ b by simp,List.drop_left]
    simp only[bs,agS,ahZ,ag4];rw[this,sh (by simp;omega)]
   have vb:¬ ((a.length:Int) < 0):=aa
   have EF:wrap64 ((a.length:Int)+((bs [10]).size:Int))=((a.length+(bs [10]).size:Nat):Int):=by
    rw[bQ];simp only[agS,ahZ];simp at eY;unfold wrap64;omega
   gi_wp2
   refine⟨rfl,RoundIn.mono (F:=Fence.wide) hR ?_⟩;rintro e W3 (⟨rfl,D5,df⟩ | ⟨rfl,Hd⟩)
   .have Ni:=Y1 df XQ;have afp:=Ni;obtain⟨g1,g2,g3,g4,g5⟩:=Ni
    gi_wp2
    go_roundw
    case rel=>
     refine⟨_,_,_,_,_,_,_,_,_,_,_,_,_,_,_,_,_,_,_,_,_,_,⟨k+1,b,?_,Nx,?_,?_,?_⟩,rfl⟩
     .have:=congrArg List.length Nx;have h2:=ahu.2 (GL (c:=10) b []);rw[agX]at this;unfold eV at *;omega
     .simp at eY;omega
     .exact hJ _ _ _ D5 (Xa rS _ _)
     .refine⟨?_,?_,?_,?_,?_⟩
      .exact GC nSP g1
      .exact GC nSV g2
      .exact LR g3
      .rw[World.frozen?_setCell];exact g4
      .exact GC nSM g5
    case measure=>
     have e1:Au w' bS=(bs (a ++ 10 :: b)).size:=by unfold Au;rw[d3]
     have e2:Au (W3.setCell ⟨bS,0,none⟩ (.string (bs b))) bS=(bs b).size:=by unfold Au;rw[LR g3]
     rw[e1,e2,bQ,bQ];simp;omega
   .gi_wp2
    refine bodyPost_ret (results_none rfl _ _ _) rfl ?_;exact⟨⟨_,rfl⟩,.inr Hd⟩
  .rw[if_neg hc]at Em;rw[L9 hc]at mo
   have H6:k < ((eV 10 t).map fun s=>Value.string (bs s)).length:=by simpa using hk
   have H5:(eV 10 t)[k]=r:=by
    rw[agR hk]at mo;exact (List.cons.inj mo).1
   have dA:k+1=((eV 10 t).map fun s=>Value.string (bs s)).length:=by
    rw[ag5];have:=congrArg List.length mo;rw[agX]at this;simp at this;omega
   obtain⟨fn,tmps,assign,body,hy,hR⟩:=hY k H6 wr MY;rw[show ((eV 10 t).map fun s=>Value.string (bs s))[k] = .string (bs r) by simp[H5]]at hy
   gi_wp2
   refine⟨trivial,rfl,?_⟩;refine (callsIn_wide.2 Em).mono ?_;rintro e w' ⟨rfl,rfl⟩
   gi_wp2
   refine⟨rfl,RoundIn.mono (F:=Fence.wide) hR ?_⟩;rintro e W3 (⟨rfl,D5,df⟩ | ⟨rfl,Hd⟩)
   .rw[dA]at D5
    gi_wp2
    go_end0
    exact⟨⟨_,rfl⟩,.inl D5⟩
   .gi_wp2
    go_end0
    exact⟨⟨_,rfl⟩,.inr Hd⟩
