/-
  Texts that belong together,in one file: SS,SI.
-/
import Derived.Test.YtdigkhaofjmgkaaGreatDoorIs24
import Derived.Test.YtdigkhaofjmgkaaGreatDoorIs27
import Derived.RangeFuncNested
import Derived.RangeFuncBound
import Derived.RangeFuncCalls
import Derived.RangeFuncLeaves
import Derived.Shelf.Abstract
import Derived.Shelf.RegionOpen
import Derived.OwnWalkIn
import Derived.TacticsInMore
import Derived.LoopIn
set_option linter.unusedSimpArgs false
set_option linter.unusedVariables false
namespace Go.Proofs.YtdigkhaofjmgkaaGreatDoor
open Go.Av Go.Shelf Go.RowKit
attribute [local go_sem] Oper.semAt_some
def qA (t:Tx):List (Nat×Row):=[(511,.box 9 [.d (dS t)]),(512,.box 9 [.d (dS [10])]),(513,.box 3 [.d (YH 0)])]
def uU:AV:=.fn (.func 210) [.ref 512 0 0,.ref 511 0 0,.ref 513 0 0]
theorem VU (G:YJ) (t:Tx):MC Tryz.prog G [] 165 [.d (dS t),.d (dS [10]),.d (YH 0)] (YI []) uU (YI (qA t)):=by
 simp only [qA,uU];refine MC.aI (aw _) Tryz.func165 rfl rfl (rs:=[.tmp 6]) Tryz.results165 (by simp [Tryz.ntmps165]) rfl fun X=>?_;simp only [Tryz.ntmps165];have fw:=(Aq @YH.eq_1 @dS.eq_1);refine ab fw [3,4,5] [3,4,5] ?_;refine AW.imp (aC.cU (r:=3) (r':=511) (by decide) (by simp)) ?_;refine AW.st (by simp [gr,gq,Go.Av.cU,abm];rfl) ?_;refine AW.imp (aC.cU (r:=4) (r':=512) (by decide) (by simp)) ?_;refine AW.st (by simp [gr,gq,Go.Av.cU,abm];rfl) ?_;refine AW.imp (aC.cU (r:=5) (r':=513) (by decide) (by simp)) ?_;refine AW.st (by simp [gr,gq,Go.Av.cU,abm];rfl) ?_;refine ab fw [6] [511,512,513] ?_;exact aV (Aq fw (Aq @YH.eq_1 @dS.eq_1))
theorem Td:(⟨#[10]⟩:ByteArray)=bs [10]:=rfl
theorem VV (G:YJ) (t:Tx):MC Tryz.prog G [] 120 [.d (dS t),.d (dS [10])] (YI []) uU (YI (qA t)):=by
 have h:=VU G t;simp only [qA,uU] at h ⊢;refine MC.aI (aw _) Tryz.func120 rfl rfl (rs:=[.tmp 4]) Tryz.results120 (by simp [Tryz.ntmps120]) rfl fun X=>?_;simp only [Tryz.ntmps120];have fw:=(Aq @YH.eq_1 @dS.eq_1);refine ab fw [0,1] [] ?_;refine YU fw h [4] [511,512,513] ?_;exact aV (Aq fw (Aq @YH.eq_1 @dS.eq_1))
attribute [local go_sem] Oper.semAt_some
theorem y5 {w:World} {X:Nat->Prop} {μ:Mu} {H:Heap} (hs:Zg w X μ H) {r ty:Nat} {x:Value} (hH:H r=some (.box ty [.d (.v x)])):∃ m b cur,μ r=some m/\m.cZ=some b/\w.heap[b]? = some (.cells cur ty (0,0))/\cur[0]? = some x:=by
 obtain ⟨m,hm,ok⟩:=hs.rows r _ hH
 cases ok with
 | box aH aK hc hh hn hr hx=>
  rename_i b cur
  have h0 : 0 < cur.size := by have : 1 <= cur.size := by simpa using hn
                               omega
  refine ⟨m,b,cur,hm,aH,hh,?_⟩;have:=(hr 0 cur[0] _ (by simp [h0]) rfl).scalar;rw [Array.getElem?_eq_getElem h0,this]
def sD (W:World) (b:Nat):Nat:=match W.cell? ⟨b,0,none⟩ with
 | some (.string s)=>s.size
 | _=>0
theorem zd {W:World} {b:Nat} {cur:Array Value} {ty:TypeId} {fr:Nat×Nat} {x:Value} (h:W.heap[b]? = some (.cells cur ty fr)) (h0:cur[0]? = some x):W.cell? ⟨b,0,none⟩=some x:=by
 simp [World.cell?,h,h0]
theorem M6 {W:World} {b:Nat} {cur:Array Value} {ty:TypeId} (h:W.heap[b]? = some (.cells cur ty (0,0))):W.frozen? ⟨b,0,none⟩=false:=by
 simp [World.frozen?,h]
theorem Ni {B:Nat->Prop} {b:Nat} (hb:B b) (W:World) (v:Value):Grown B W (W.setCell ⟨b,0,none⟩ v):=
 ⟨by show W.heap.size<=(W.heap.modify _ _).size;rw [Array.size_modify];exact Nat.le_refl _,rfl,rfl,rfl,fun k _ hk=>Below.heap_setCell W ⟨b,0,none⟩ v k fun e=>hk (e ▸ hb)⟩
theorem ze {W:World} {b b' i j:Nat} {v x:Value} (h:b≠b') (hx:W.cell? ⟨b',j,none⟩=some x):(W.setCell ⟨b,i,none⟩ v).cell? ⟨b',j,none⟩=some x:=by
 rw [<- hx];apply World.cell?_setCell_other;intro e;exact h (by simpa using congrArg Addr.block e)
theorem D8 {W:World} {a:Addr} {u v:Value} (h:W.cell? a=some u):(W.setCell a v).cell? a=some v:=World.cell?_setCell_same _ _ _ h
set_option maxHeartbeats 4000000 in
theorem VI (G:YJ) (hM:n9 G) (t:Tx) (ht:t.length < 2^30) (w:World) (X:Nat->Prop) (μ:Mu) (lb:Array Value) (hs:Zg w X μ (YI (qA t))) (Y8:∀ g x,G g=some x->RD w (XX X μ) (.pointer (some ⟨g,0,none⟩)) x)
  (rz:lb.size=3) (oG:∀ (i:Nat) (u:Value) (x:AV),lb[i]? = some u->[AV.ref 512 0 0,.ref 511 0 0,.ref 513 0 0][i]? = some x->RV w X μ u x) :
  DC Tryz.prog 210 lb (eT μ) (fun b=>eT μ b\/GB G b) ((Zl 10 t).map fun s=>.string (bs s)) w:=by
 intro l J Jx hJ Xo hY w1 cQ h0;obtain ⟨mx,dG⟩:=hM;have PD:=HG dG Y8;have AZ:GB G 4:=⟨_,dG,.inl ⟨_,rfl⟩⟩
 obtain ⟨vP,vS,vV,rfl⟩:∃ a b c,lb = #[a,b,c]:=by
  match lb,rz with
  | ⟨[a,b,c]⟩,_=>exact ⟨a,b,c,rfl⟩
 obtain ⟨mS,bS,cS,hmS,wD,Gg,OD⟩:=y5 hs (r:=511) (ty:=9) (x:=.string (bs t)) rfl;obtain ⟨mP,bP,cP,A0,Al,Pa,OC⟩:=y5 hs (r:=512) (ty:=9) (x:=.string (bs [10])) rfl;obtain ⟨mV,bV,cV,A1,Am,Pb,OE⟩:=y5 hs (r:=513) (ty:=3) (x:=.int .i64 0) rfl
 have Qz:vP = .pointer (some ⟨bP,0,none⟩):=by
  obtain ⟨m,b,h1,h2,rfl⟩:=(oG 0 vP _ rfl rfl).gL;rw [A0] at h1;obtain rfl:=Option.some.inj h1;rw [Al] at h2;obtain rfl:=Option.some.inj h2;simp
 have QA:vS = .pointer (some ⟨bS,0,none⟩):=by
  obtain ⟨m,b,h1,h2,rfl⟩:=(oG 1 vS _ rfl rfl).gL;rw [hmS] at h1;obtain rfl:=Option.some.inj h1;rw [wD] at h2;obtain rfl:=Option.some.inj h2;simp
 have QB:vV = .pointer (some ⟨bV,0,none⟩):=by
  obtain ⟨m,b,h1,h2,rfl⟩:=(oG 2 vV _ rfl rfl).gL;rw [A1] at h1;obtain rfl:=Option.some.inj h1;rw [Am] at h2;obtain rfl:=Option.some.inj h2;simp
 subst Qz QA QB
 have TA:bS≠bP:=fun e=>by have:=hs.inj 511 512 mS mP bS hmS A0 wD (e ▸ Al);omega
 have TB:bS≠bV:=fun e=>by have:=hs.inj 511 513 mS mV bS hmS A1 wD (e ▸ Am);omega
 have rS:eT μ bS:=⟨511,mS,hmS,wD⟩;have rP:eT μ bP:=⟨512,mP,A0,Al⟩;have rV:eT μ bV:=⟨513,mV,A1,Am⟩;have Tz:bS≠4:=fun e=>(yB Y8 AZ).1 (.inr (e ▸ rS));clear oG rz hs
 let St:World->Tx->Prop:=fun W r=>W.cell? ⟨bP,0,none⟩=some (.string (bs [10]))/\W.cell? ⟨bV,0,none⟩=some (.int .i64 0)/\W.cell? ⟨bS,0,none⟩=some (.string (bs r))/\W.frozen? ⟨bS,0,none⟩=false/\W.cell? ⟨4,0,none⟩=some (.int .i64 mx)
 have oD:∀ {W W':World} {b:Nat},Go.Av.Kept (fun b=>eT μ b\/GB G b) W W'->(eT μ b\/GB G b)->∀ j,W'.cell? ⟨b,j,none⟩=W.cell? ⟨b,j,none⟩:=fun hk hb j=>World.cell?_of_block (hk.same _ hb);have Bq:St w1 t:=⟨(oD cQ (.inl rP) 0).trans (zd Pa OC),(oD cQ (.inl rV) 0).trans (zd Pb OE),(oD cQ (.inl rS) 0).trans (zd Gg OD),M6 ((cQ.same bS (.inl rS)).trans Gg),(oD cQ (.inr AZ) 0).trans PD⟩
 have Ps:∀ {W W':World} {r:Tx},Go.Av.Kept (fun b=>eT μ b\/GB G b) W W'->St W r->St W' r:=fun {W W' r} hk h=>⟨(oD hk (.inl rP) 0).trans h.1,(oD hk (.inl rV) 0).trans h.2.1,(oD hk (.inl rS) 0).trans h.2.2.1,by
  have:=hk.same bS (.inl rS);have h4:=h.2.2.2.1;unfold World.frozen? at h4 ⊢;dsimp only at h4 ⊢
  rw [this];exact h4,(oD hk (.inr AZ) 0).trans h.2.2.2.2⟩
 have hL:Lays.n143 Tryz.prog Tryz.Hr:={ Tryz.SN with }
 have fj:∀ (W:World) (r:Tx),r.length<=t.length->W.cell? ⟨4,0,none⟩=some (.int .i64 mx)->Calls Tryz.prog 205 #[.string (bs r),.string (bs [10])] W fun e w'=>e = .returned (.int .i64 (if (10:UInt8)∈r then ((cutAt 10 r).1.length:Int) else -1))/\w'=W:=fun W r hr hm=>by
  have aaV:=Any.strings_Index hL (bs r) (bs [10]) mx W (by rw [bC];omega) hm;refine aaV.mono fun e w' ⟨he,hw⟩=>⟨?_,hw⟩;rw [he,Zp,Zp];split
  .rename_i h;obtain ⟨a,b,rfl,ha⟩:=List.eq_append_cons_of_mem h;rw [sG ha,BO b ha]
  .rename_i h;rw [adq h]
 have ig:=Bq;obtain ⟨c1,c2,c3,c4,c5⟩:=Bq;refine (callsIn_wide (n:=0)).1 (callsIn_of_wp (F:=Fence.wide) Tryz.func210 rfl trivial ?_ rfl);simp only [Tryz.ntmps210,List.size_toArray,List.length_cons,List.length_nil,Nat.reduceAdd,Nat.reduceSub,Array.replicate_succ,Array.replicate_zero,List.push_toArray,List.append_toArray,List.nil_append,List.cons_append]
 gi_wp2
 have ry:0 < (Zl 10 t).length:=by
  have:=zn (c:=10) t [];exact List.length_pos_iff.2 this
 gi_loopw [] (fun wr=>∃ (k:Nat) (r:Tx),k < (Zl 10 t).length/\(Zl 10 t).drop k=Zl 10 r/\r.length<=t.length/\J k wr/\St wr r) (fun wr=>sD wr bS)
 case atStart=>exact ⟨0,t,ry,rfl,Nat.le_refl _,h0,ig⟩
 case round=>
  obtain ⟨k,r,hk,hdr,Z1,Fx,FL⟩:=rE;have Ob:=FL;obtain ⟨d1,d2,d3,d4,d5⟩:=FL;have wU:=fj wr r Z1 d5;by_cases hc:(10:UInt8)∈r
  .obtain ⟨a,b,rfl,ha⟩:=List.eq_append_cons_of_mem hc;rw [if_pos hc,sG ha] at wU;rw [Eg ha] at hdr
   have hkx:k < ((Zl 10 t).map fun s=>Value.string (bs s)).length:=by simpa using hk
   have AP:(Zl 10 t)[k]=a:=by
    rw [List.drop_eq_getElem_cons hk] at hdr;exact (List.cons.inj hdr).1
   have F5:(Zl 10 t).drop (k+1)=Zl 10 b:=by
    rw [List.drop_eq_getElem_cons hk] at hdr;exact (List.cons.inj hdr).2
   obtain ⟨fn,tmps,assign,body,hy,hR⟩:=hY k hkx wr Fx;rw [show ((Zl 10 t).map fun s=>Value.string (bs s))[k] = .string (bs a) by simp [AP]] at hy
   have hal:a.length<=t.length:=by simp at Z1;omega
   gi_wp2
   refine ⟨trivial,rfl,?_⟩;refine (callsIn_wide.2 wU).mono ?_;rintro e w' ⟨rfl,rfl⟩
   have Zq:a.length<=(bs (a ++ 10 :: b)).size:=by rw [bC];simp
   have tX:(bs (a ++ 10 :: b)).extract 0 a.length=bs a:=by rw [Lib.extract_eq];simp [bs]
   have c6:a.length+(bs [10]).size<=(bs (a ++ 10 :: b)).size:=by rw [bC,bC];simp
   have tY:(bs (a ++ 10 :: b)).extract (a.length+(bs [10]).size) (bs (a ++ 10 :: b)).size=bs b:=by
    rw [Lib.extract_eq,bC,bC]
    have:(a ++ 10 :: b).drop (a.length+1)=b:=by
     rw [show a.length+1=(a ++ [(10:UInt8)]).length by simp,show a ++ (10:UInt8) :: b=(a ++ [10]) ++ b by simp,List.drop_left]
    simp only [bs,List.length_cons,List.length_nil,Nat.zero_add];rw [this,List.take_of_length_le (by simp;omega)]
   have rC:¬ ((a.length:Int) < 0):=by omega
   have xm:wrap64 ((a.length:Int)+((bs [10]).size:Int))=((a.length+(bs [10]).size:Nat):Int):=by
    rw [bC];simp only [List.length_cons,List.length_nil];simp at Z1;unfold wrap64;omega
   gi_wp2
   refine ⟨rfl,RoundIn.mono (F:=Fence.wide) hR ?_⟩;rintro e W3 (⟨rfl,wz,wW⟩ | ⟨rfl,zZ⟩)
   .have FM:=Ps wW Ob;have Xw:=FM;obtain ⟨g1,g2,g3,g4,g5⟩:=FM
    gi_wp2
    go_roundw
    case rel=>
     refine ⟨_,_,_,_,_,_,_,_,_,_,_,_,_,_,_,_,_,_,_,_,_,_,⟨k+1,b,?_,F5,?_,?_,?_⟩,rfl⟩
     .have:=congrArg List.length F5;have h2:=List.length_pos_iff.2 (zn (c:=10) b []);rw [List.length_drop] at this;unfold Zl at *;omega
     .simp at Z1;omega
     .exact hJ _ _ _ wz (Ni rS _ _)
     .refine ⟨?_,?_,?_,?_,?_⟩
      .exact ze TA g1
      .exact ze TB g2
      .exact D8 g3
      .rw [World.frozen?_setCell];exact g4
      .exact ze Tz g5
    case measure=>
     have e1:sD w' bS=(bs (a ++ 10 :: b)).size:=by unfold sD;rw [d3]
     have e2:sD (W3.setCell ⟨bS,0,none⟩ (.string (bs b))) bS=(bs b).size:=by unfold sD;rw [D8 g3]
     rw [e1,e2,bC,bC];simp;omega
   .gi_wp2
    refine bodyPost_ret (results_none rfl _ _ _) rfl ?_;exact ⟨⟨_,rfl⟩,.inr zZ⟩
  .rw [if_neg hc] at wU;rw [Mh hc] at hdr
   have hkx:k < ((Zl 10 t).map fun s=>Value.string (bs s)).length:=by simpa using hk
   have AP:(Zl 10 t)[k]=r:=by
    rw [List.drop_eq_getElem_cons hk] at hdr;exact (List.cons.inj hdr).1
   have ZQ:k+1=((Zl 10 t).map fun s=>Value.string (bs s)).length:=by
    rw [List.length_map];have:=congrArg List.length hdr;rw [List.length_drop] at this;simp at this;omega
   obtain ⟨fn,tmps,assign,body,hy,hR⟩:=hY k hkx wr Fx;rw [show ((Zl 10 t).map fun s=>Value.string (bs s))[k] = .string (bs r) by simp [AP]] at hy
   gi_wp2
   refine ⟨trivial,rfl,?_⟩;refine (callsIn_wide.2 wU).mono ?_;rintro e w' ⟨rfl,rfl⟩
   gi_wp2
   refine ⟨rfl,RoundIn.mono (F:=Fence.wide) hR ?_⟩;rintro e W3 (⟨rfl,wz,wW⟩ | ⟨rfl,zZ⟩)
   .rw [ZQ] at wz
    gi_wp2
    go_end0
    exact ⟨⟨_,rfl⟩,.inl wz⟩
   .gi_wp2
    go_end0
    exact ⟨⟨_,rfl⟩,.inr zZ⟩
end Go.Proofs.YtdigkhaofjmgkaaGreatDoor
