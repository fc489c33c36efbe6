/-
  Texts that belong together,in one file: SS,SI.
-/
import Derived.Test.YtdigkhaofjmgkaaGreatDoorMk25
import Derived.Test.YtdigkhaofjmgkaaGreatDoorMk27
import Derived.Test.YtdigkhaofjmgkaaGreatDoorMk32
import Derived.RangeFuncNested
import Derived.RangeFuncBound
import Derived.RangeFuncCalls
import Derived.RangeFuncLeaves
import Derived.Shelf.Abstract
import Derived.Shelf.RegionOpen
import Derived.OwnWalkIn
import Derived.TacticsInMore
import Derived.LoopIn
set_option linter.unusedSimpArgs false
set_option linter.unusedVariables false
namespace Go.Proofs.YtdigkhaofjmgkaaGreatDoor
open Go.Av Go.Shelf Go.RowKit
attribute [local go_sem] Oper.semAt_some
def rW (t:Tx):List (Nat×Row):=[(511,.box 9 [.d (dS t)]),(512,.box 9 [.d (dS [10])]),(513,.box 3 [.d (ab 0)])]
def wZ:AV:=.fn (.func 210) [.ref 512 0 0,.ref 511 0 0,.ref 513 0 0]
theorem WL (G:ao) (t:Tx):MC Tryz.prog G [] 165 [.d (dS t),.d (dS [10]),.d (ab 0)] (ZX []) wZ (ZX (rW t)):=by
 simp only [rW,wZ];refine MC.aD (ZZ _) Tryz.func165 rfl rfl (rs:=[.tmp 6]) Tryz.results165 (by simp [Tryz.ntmps165]) rfl fun X=>?_;simp only [Tryz.ntmps165];have fw:=(Aq @ab.eq_1 @dS.eq_1);refine ZW fw [3,4,5] [3,4,5] ?_;refine AW.imp (Z1.ren (r:=3) (r':=511) (by decide) (by simp)) ?_;refine AW.st (by simp [eS,aa2,Go.Av.ren,l7];rfl) ?_;refine AW.imp (Z1.ren (r:=4) (r':=512) (by decide) (by simp)) ?_;refine AW.st (by simp [eS,aa2,Go.Av.ren,l7];rfl) ?_;refine AW.imp (Z1.ren (r:=5) (r':=513) (by decide) (by simp)) ?_;refine AW.st (by simp [eS,aa2,Go.Av.ren,l7];rfl) ?_;refine ZW fw [6] [511,512,513] ?_;exact aK (Aq fw (Aq @ab.eq_1 @dS.eq_1))
theorem IF:(⟨#[10]⟩:ByteArray)=bs [10]:=rfl
theorem WM (G:ao) (t:Tx):MC Tryz.prog G [] 120 [.d (dS t),.d (dS [10])] (ZX []) wZ (ZX (rW t)):=by
 have h:=WL G t;simp only [rW,wZ] at h ⊢;refine MC.aD (ZZ _) Tryz.func120 rfl rfl (rs:=[.tmp 4]) Tryz.results120 (by simp [Tryz.ntmps120]) rfl fun X=>?_;simp only [Tryz.ntmps120];have fw:=(Aq @ab.eq_1 @dS.eq_1);refine ZW fw [0,1] [] ?_;refine Z8 fw h [4] [511,512,513] ?_;exact aK (Aq fw (Aq @ab.eq_1 @dS.eq_1))
attribute [local go_sem] Oper.semAt_some
theorem AX {w:World} {X:Nat->Prop} {μ:Mu} {H:Heap} (hs:cK w X μ H) {r ty:Nat} {x:Value} (hH:H r=some (.box ty [.d (.v x)])):∃ m b cur,μ r=some m/\m.blk=some b/\w.heap[b]? = some (.cells cur ty (0,0))/\cur[0]? = some x:=by
 obtain ⟨m,hm,ok⟩:=hs.rows r _ hH
 cases ok with
 | box aO aI hc hh hn hr hx=>
  rename_i b cur
  have h0 : 0 < cur.size := by have : 1 <= cur.size := by simpa using hn
                               omega
  refine ⟨m,b,cur,hm,aO,hh,?_⟩;have:=(hr 0 cur[0] _ (by simp [h0]) rfl).scalar;rw [Array.getElem?_eq_getElem h0,this]
def uI (W:World) (b:Nat):Nat:=match W.cell? ⟨b,0,none⟩ with
 | some (.string s)=>s.size
 | _=>0
theorem aeT {W:World} {b:Nat} {cur:Array Value} {ty:TypeId} {fr:Nat×Nat} {x:Value} (h:W.heap[b]? = some (.cells cur ty fr)) (h0:cur[0]? = some x):W.cell? ⟨b,0,none⟩=some x:=by
 simp [World.cell?,h,h0]
theorem Oh {W:World} {b:Nat} {cur:Array Value} {ty:TypeId} (h:W.heap[b]? = some (.cells cur ty (0,0))):W.frozen? ⟨b,0,none⟩=false:=by
 simp [World.frozen?,h]
theorem Ou {B:Nat->Prop} {b:Nat} (hb:B b) (W:World) (v:Value):Grown B W (W.setCell ⟨b,0,none⟩ v):=
 ⟨by show W.heap.size<=(W.heap.modify _ _).size;rw [Array.size_modify];exact Nat.le_refl _,rfl,rfl,rfl,fun k _ hk=>Below.heap_setCell W ⟨b,0,none⟩ v k fun e=>hk (e ▸ hb)⟩
theorem A3 {W:World} {b b' i j:Nat} {v x:Value} (h:b≠b') (hx:W.cell? ⟨b',j,none⟩=some x):(W.setCell ⟨b,i,none⟩ v).cell? ⟨b',j,none⟩=some x:=by
 rw [<- hx];apply World.cell?_setCell_other;intro e;exact h (by simpa using congrArg Addr.block e)
theorem FL {W:World} {a:Addr} {u v:Value} (h:W.cell? a=some u):(W.setCell a v).cell? a=some v:=World.cell?_setCell_same _ _ _ h
set_option maxHeartbeats 4000000 in
theorem Wx (G:ao) (hM:abJ G) (t:Tx) (ht:t.length < 2^30) (w:World) (X:Nat->Prop) (μ:Mu) (lb:Array Value) (hs:cK w X μ (ZX (rW t))) (b8:∀ g x,G g=some x->RD w (XX X μ) (.pointer (some ⟨g,0,none⟩)) x)
  (s4:lb.size=3) (pE:∀ (i:Nat) (u:Value) (x:AV),lb[i]? = some u->[AV.ref 512 0 0,.ref 511 0 0,.ref 513 0 0][i]? = some x->RV w X μ u x) :
  Fl Tryz.prog 210 lb (fO μ) (fun b=>fO μ b\/GB G b) ((cU 10 t).map fun s=>.string (bs s)) w:=by
 intro l J Jx hJ Yh hY w1 hk1 h0;obtain ⟨mx,eX⟩:=hM;have Qw:=DH eX b8;have hmB:GB G 4:=⟨_,eX,.inl ⟨_,rfl⟩⟩
 obtain ⟨vP,vS,vV,rfl⟩:∃ a b c,lb = #[a,b,c]:=by
  match lb,s4 with
  | ⟨[a,b,c]⟩,_=>exact ⟨a,b,c,rfl⟩
 obtain ⟨mS,bS,cS,yD,yp,Hf,Pv⟩:=AX hs (r:=511) (ty:=9) (x:=.string (bs t)) rfl;obtain ⟨mP,bP,cP,CD,B0,P4,Pu⟩:=AX hs (r:=512) (ty:=9) (x:=.string (bs [10])) rfl;obtain ⟨mV,bV,cV,CE,B1,P5,Pw⟩:=AX hs (r:=513) (ty:=3) (x:=.int .i64 0) rfl
 have Q7:vP = .pointer (some ⟨bP,0,none⟩):=by
  obtain ⟨m,b,h1,h2,rfl⟩:=(pE 0 vP _ rfl rfl).abV;rw [CD] at h1;obtain rfl:=Option.some.inj h1;rw [B0] at h2;obtain rfl:=Option.some.inj h2;simp
 have Q8:vS = .pointer (some ⟨bS,0,none⟩):=by
  obtain ⟨m,b,h1,h2,rfl⟩:=(pE 1 vS _ rfl rfl).abV;rw [yD] at h1;obtain rfl:=Option.some.inj h1;rw [yp] at h2;obtain rfl:=Option.some.inj h2;simp
 have Q9:vV = .pointer (some ⟨bV,0,none⟩):=by
  obtain ⟨m,b,h1,h2,rfl⟩:=(pE 2 vV _ rfl rfl).abV;rw [CE] at h1;obtain rfl:=Option.some.inj h1;rw [B1] at h2;obtain rfl:=Option.some.inj h2;simp
 subst Q7 Q8 Q9
 have Uq:bS≠bP:=fun e=>by have:=hs.inj 511 512 mS mP bS yD CD yp (e ▸ B0);omega
 have Ur:bS≠bV:=fun e=>by have:=hs.inj 511 513 mS mV bS yD CE yp (e ▸ B1);omega
 have rS:fO μ bS:=⟨511,mS,yD,yp⟩;have rP:fO μ bP:=⟨512,mP,CD,B0⟩;have rV:fO μ bV:=⟨513,mV,CE,B1⟩;have Up:bS≠4:=fun e=>(aeO b8 hmB).1 (.inr (e ▸ rS));clear pE s4 hs
 let St:World->Tx->Prop:=fun W r=>W.cell? ⟨bP,0,none⟩=some (.string (bs [10]))/\W.cell? ⟨bV,0,none⟩=some (.int .i64 0)/\W.cell? ⟨bS,0,none⟩=some (.string (bs r))/\W.frozen? ⟨bS,0,none⟩=false/\W.cell? ⟨4,0,none⟩=some (.int .i64 mx)
 have pB:∀ {W W':World} {b:Nat},Go.Av.Kept (fun b=>fO μ b\/GB G b) W W'->(fO μ b\/GB G b)->∀ j,W'.cell? ⟨b,j,none⟩=W.cell? ⟨b,j,none⟩:=fun hk hb j=>World.cell?_of_block (hk.same _ hb);have CY:St w1 t:=⟨(pB hk1 (.inl rP) 0).trans (aeT P4 Pu),(pB hk1 (.inl rV) 0).trans (aeT P5 Pw),(pB hk1 (.inl rS) 0).trans (aeT Hf Pv),Oh ((hk1.same bS (.inl rS)).trans Hf),(pB hk1 (.inr hmB) 0).trans Qw⟩
 have Qj:∀ {W W':World} {r:Tx},Go.Av.Kept (fun b=>fO μ b\/GB G b) W W'->St W r->St W' r:=fun {W W' r} hk h=>⟨(pB hk (.inl rP) 0).trans h.1,(pB hk (.inl rV) 0).trans h.2.1,(pB hk (.inl rS) 0).trans h.2.2.1,by
  have:=hk.same bS (.inl rS);have h4:=h.2.2.2.1;unfold World.frozen? at h4 ⊢;dsimp only at h4 ⊢
  rw [this];exact h4,(pB hk (.inr hmB) 0).trans h.2.2.2.2⟩
 have hL:Lays.n143 Tryz.prog Tryz.Io:={ Tryz.R0 with }
 have eL:∀ (W:World) (r:Tx),r.length<=t.length->W.cell? ⟨4,0,none⟩=some (.int .i64 mx)->Calls Tryz.prog 205 #[.string (bs r),.string (bs [10])] W fun e w'=>e = .returned (.int .i64 (if (10:UInt8)∈r then ((cutAt 10 r).1.length:Int) else -1))/\w'=W:=fun W r hr hm=>by
  have fj:=Any.strings_Index hL (bs r) (bs [10]) mx W (by rw [bh];omega) hm;refine fj.mono fun e w' ⟨he,hw⟩=>⟨?_,hw⟩;rw [he,aao,aao];split
  .rename_i h;obtain ⟨a,b,rfl,ha⟩:=List.eq_append_cons_of_mem h;rw [sr ha,wm b ha]
  .rename_i h;rw [yW h]
 have eh:=CY;obtain ⟨c1,c2,c3,c4,c5⟩:=CY;refine (callsIn_wide (n:=0)).1 (callsIn_of_wp (F:=Fence.wide) Tryz.func210 rfl trivial ?_ rfl);simp only [Tryz.ntmps210,List.size_toArray,List.length_cons,List.length_nil,Nat.reduceAdd,Nat.reduceSub,Array.replicate_succ,Array.replicate_zero,List.push_toArray,List.append_toArray,List.nil_append,List.cons_append]
 gi_wp2
 have hk0:0 < (cU 10 t).length:=by
  have:=Bb (c:=10) t [];exact List.length_pos_iff.2 this
 gi_loopw [] (fun wr=>∃ (k:Nat) (r:Tx),k < (cU 10 t).length/\(cU 10 t).drop k=cU 10 r/\r.length<=t.length/\J k wr/\St wr r) (fun wr=>uI wr bS)
 case atStart=>exact ⟨0,t,hk0,rfl,Nat.le_refl _,h0,eh⟩
 case round=>
  obtain ⟨k,r,hk,iY,dN,GM,GX⟩:=hrel;have O9:=GX;obtain ⟨d1,d2,d3,d4,d5⟩:=GX;have aeF:=eL wr r dN d5;by_cases hc:(10:UInt8)∈r
  .obtain ⟨a,b,rfl,ha⟩:=List.eq_append_cons_of_mem hc;rw [if_pos hc,sr ha] at aeF;rw [F1 ha] at iY
   have Cy:k < ((cU 10 t).map fun s=>Value.string (bs s)).length:=by simpa using hk
   have Cx:(cU 10 t)[k]=a:=by
    rw [List.drop_eq_getElem_cons hk] at iY;exact (List.cons.inj iY).1
   have G9:(cU 10 t).drop (k+1)=cU 10 b:=by
    rw [List.drop_eq_getElem_cons hk] at iY;exact (List.cons.inj iY).2
   obtain ⟨fn,tmps,assign,body,hy,hR⟩:=hY k Cy wr GM;rw [show ((cU 10 t).map fun s=>Value.string (bs s))[k] = .string (bs a) by simp [Cx]] at hy
   have om:a.length<=t.length:=by simp at dN;omega
   gi_wp2
   refine ⟨trivial,rfl,?_⟩;refine (callsIn_wide.2 aeF).mono ?_;rintro e w' ⟨rfl,rfl⟩
   have c6:a.length<=(bs (a ++ 10 :: b)).size:=by rw [bh];simp
   have rf:(bs (a ++ 10 :: b)).extract 0 a.length=bs a:=by rw [Lib.extract_eq];simp [bs]
   have ey:a.length+(bs [10]).size<=(bs (a ++ 10 :: b)).size:=by rw [bh,bh];simp
   have YI:(bs (a ++ 10 :: b)).extract (a.length+(bs [10]).size) (bs (a ++ 10 :: b)).size=bs b:=by
    rw [Lib.extract_eq,bh,bh]
    have:(a ++ 10 :: b).drop (a.length+1)=b:=by
     rw [show a.length+1=(a ++ [(10:UInt8)]).length by simp,show a ++ (10:UInt8) :: b=(a ++ [10]) ++ b by simp,List.drop_left]
    simp only [bs,List.length_cons,List.length_nil,Nat.zero_add];rw [this,List.take_of_length_le (by simp;omega)]
   have yJ:¬ ((a.length:Int) < 0):=by omega
   have yQ:wrap64 ((a.length:Int)+((bs [10]).size:Int))=((a.length+(bs [10]).size:Nat):Int):=by
    rw [bh];simp only [List.length_cons,List.length_nil];simp at dN;unfold wrap64;omega
   gi_wp2
   refine ⟨rfl,RoundIn.mono (F:=Fence.wide) hR ?_⟩;rintro e W3 (⟨rfl,yg,cO⟩ | ⟨rfl,BE⟩)
   .have GY:=Qj cO O9;have Ym:=GY;obtain ⟨g1,g2,g3,g4,g5⟩:=GY
    gi_wp2
    go_roundw
    case rel=>
     refine ⟨_,_,_,_,_,_,_,_,_,_,_,_,_,_,_,_,_,_,_,_,_,_,⟨k+1,b,?_,G9,?_,?_,?_⟩,rfl⟩
     .have:=congrArg List.length G9;have h2:=List.length_pos_iff.2 (Bb (c:=10) b []);rw [List.length_drop] at this;unfold cU at *;omega
     .simp at dN;omega
     .exact hJ _ _ _ yg (Ou rS _ _)
     .refine ⟨?_,?_,?_,?_,?_⟩
      .exact A3 Uq g1
      .exact A3 Ur g2
      .exact FL g3
      .rw [World.frozen?_setCell];exact g4
      .exact A3 Up g5
    case measure=>
     have e1:uI w' bS=(bs (a ++ 10 :: b)).size:=by unfold uI;rw [d3]
     have e2:uI (W3.setCell ⟨bS,0,none⟩ (.string (bs b))) bS=(bs b).size:=by unfold uI;rw [FL g3]
     rw [e1,e2,bh,bh];simp;omega
   .gi_wp2
    refine bodyPost_ret (results_none rfl _ _ _) rfl ?_;exact ⟨⟨_,rfl⟩,.inr BE⟩
  .rw [if_neg hc] at aeF;rw [F0 hc] at iY
   have Cy:k < ((cU 10 t).map fun s=>Value.string (bs s)).length:=by simpa using hk
   have Cx:(cU 10 t)[k]=r:=by
    rw [List.drop_eq_getElem_cons hk] at iY;exact (List.cons.inj iY).1
   have cj:k+1=((cU 10 t).map fun s=>Value.string (bs s)).length:=by
    rw [List.length_map];have:=congrArg List.length iY;rw [List.length_drop] at this;simp at this;omega
   obtain ⟨fn,tmps,assign,body,hy,hR⟩:=hY k Cy wr GM;rw [show ((cU 10 t).map fun s=>Value.string (bs s))[k] = .string (bs r) by simp [Cx]] at hy
   gi_wp2
   refine ⟨trivial,rfl,?_⟩;refine (callsIn_wide.2 aeF).mono ?_;rintro e w' ⟨rfl,rfl⟩
   gi_wp2
   refine ⟨rfl,RoundIn.mono (F:=Fence.wide) hR ?_⟩;rintro e W3 (⟨rfl,yg,cO⟩ | ⟨rfl,BE⟩)
   .rw [cj] at yg
    gi_wp2
    go_end0
    exact ⟨⟨_,rfl⟩,.inl yg⟩
   .gi_wp2
    go_end0
    exact ⟨⟨_,rfl⟩,.inr BE⟩
end Go.Proofs.YtdigkhaofjmgkaaGreatDoor
