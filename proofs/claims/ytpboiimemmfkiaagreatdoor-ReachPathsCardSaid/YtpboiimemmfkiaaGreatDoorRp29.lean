/-
  Texts that belong together,in one file: SS,SI.
-/
import Derived.Test.YtpboiimemmfkiaaGreatDoorRp28
import Derived.RangeFuncNested
import Derived.RangeFuncBound
import Derived.RangeFuncCalls
import Derived.RangeFuncLeaves
import Derived.Shelf.Abstract
import Derived.Shelf.RegionOpen
import Derived.OwnWalkIn
import Derived.TacticsInMore
import Derived.LoopNIn
import Derived.LoopIn
set_option linter.unusedSimpArgs false
set_option linter.unusedVariables false
namespace Go.Proofs.YtpboiimemmfkiaaGreatDoor
open Go.Av Go.Shelf Go.RowKit
attribute [local go_sem] Oper.semAt_some
def seqRows (t:Tx):List (Nat×Row):=[(511,.box 9 [.d (dS t)]),(512,.box 9 [.d (dS [10])]),(513,.box 3 [.d (dNum 0)])]
def seqFn:AV:=.fn (.func 260) [.ref 512 0 0,.ref 511 0 0,.ref 513 0 0]
theorem splitSeq_mc (G:Glob) (t:Tx):MC Tryz.prog G [] 201 [.d (dS t),.d (dS [10]),.d (dNum 0)] (hlst []) seqFn (hlst (seqRows t)):=by
 simp only [seqRows,seqFn];refine MC.of_body (tyOf_good _) Tryz.func201 rfl rfl (rs:=[.tmp 6]) Tryz.results201 (by simp [Tryz.ntmps201]) rfl fun X=>?_;simp only [Tryz.ntmps201]
 have fw:=(Aq @dNum.eq_1 @dS.eq_1)
 refine rgq fw [3,4,5] [3,4,5] ?_;refine AW.imp (Imp.ren (r:=3) (r':=511) (by decide) (by simp)) ?_;refine AW.st (by simp [renO,renF,Go.Av.ren,renH_hlst];rfl) ?_;refine AW.imp (Imp.ren (r:=4) (r':=512) (by decide) (by simp)) ?_;refine AW.st (by simp [renO,renF,Go.Av.ren,renH_hlst];rfl) ?_;refine AW.imp (Imp.ren (r:=5) (r':=513) (by decide) (by simp)) ?_;refine AW.st (by simp [renO,renF,Go.Av.ren,renH_hlst];rfl) ?_;refine rgq fw [6] [511,512,513] ?_;refine AW_ret ?_;simp [D.le,D.le.go,takeMap,dNum,dS,dNum,dS,D.le_refl]
theorem lxs10:(⟨#[10]⟩:ByteArray)=bs [10]:=rfl
theorem splitSeq_mc2 (G:Glob) (t:Tx):MC Tryz.prog G [] 161 [.d (dS t),.d (dS [10])] (hlst []) seqFn (hlst (seqRows t)):=by
 have h:=splitSeq_mc G t
 simp only [seqRows,seqFn] at h ⊢;refine MC.of_body (tyOf_good _) Tryz.func161 rfl rfl (rs:=[.tmp 4]) Tryz.results161 (by simp [Tryz.ntmps161]) rfl fun X=>?_;simp only [Tryz.ntmps161]
 have fw:=(Aq @dNum.eq_1 @dS.eq_1)
 refine rgq fw [0,1] [] ?_;refine rgm fw h [4] [511,512,513] ?_;refine AW_ret ?_;simp [D.le,D.le.go,takeMap,dNum,dS,dNum,dS,D.le_refl]
end Go.Proofs.YtpboiimemmfkiaaGreatDoor
namespace Go.Proofs.YtpboiimemmfkiaaGreatDoor
open Go.Av Go.Shelf Go.RowKit
attribute [local go_sem] Oper.semAt_some
theorem box1_blk {w:World} {X:Nat→Prop} {μ:Mu} {H:Heap} (hs:Sim w X μ H) {r ty:Nat} {x:Value} (hH:H r=some (.box ty [.d (.v x)])):∃ m b cur,μ r=some m∧m.blk=some b∧w.heap[b]? = some (.cells cur ty (0,0))∧cur[0]? = some x:=by
 obtain ⟨m,hm,ok⟩:=hs.rows r _ hH
 cases ok with
 | box hb' hsz hc hh hn hr hx=>
  rename_i b cur
  have h0 : 0 < cur.size := by have : 1 ≤ cur.size := by simpa using hn
                               omega
  refine ⟨m,b,cur,hm,hb',hh,?_⟩
  have:=(hr 0 cur[0] _ (by simp [h0]) rfl).scalar
  rw [Array.getElem?_eq_getElem h0,this]
def cellLen (W:World) (b:Nat):Nat:=match W.cell? ⟨b,0,none⟩ with
 | some (.string s)=>s.size
 | _=>0
theorem cell_of_cells {W:World} {b:Nat} {cur:Array Value} {ty:TypeId} {fr:Nat×Nat} {x:Value} (h:W.heap[b]? = some (.cells cur ty fr)) (h0:cur[0]? = some x):W.cell? ⟨b,0,none⟩=some x:=by
 simp [World.cell?,h,h0]
theorem frozen_of_cells {W:World} {b:Nat} {cur:Array Value} {ty:TypeId} (h:W.heap[b]? = some (.cells cur ty (0,0))):W.frozen? ⟨b,0,none⟩=false:=by
 simp [World.frozen?,h]
theorem grown_setCell {B:Nat→Prop} {b:Nat} (hb:B b) (W:World) (v:Value):Grown B W (W.setCell ⟨b,0,none⟩ v):=
 ⟨by show W.heap.size≤(W.heap.modify _ _).size;rw [Array.size_modify];exact Nat.le_refl _,rfl,rfl,rfl,fun k _ hk=>Below.heap_setCell W ⟨b,0,none⟩ v k fun e=>hk (e ▸ hb)⟩
theorem cell_other {W:World} {b b' i j:Nat} {v x:Value} (h:b≠b') (hx:W.cell? ⟨b',j,none⟩=some x):(W.setCell ⟨b,i,none⟩ v).cell? ⟨b',j,none⟩=some x:=by
 rw [← hx];apply World.cell?_setCell_other;intro e;exact h (by simpa using congrArg Addr.block e)
theorem cell_same {W:World} {a:Addr} {u v:Value} (h:W.cell? a=some u):(W.setCell a v).cell? a=some v:=World.cell?_setCell_same _ _ _ h
set_option maxHeartbeats 4000000 in
theorem seq_iter (G:Glob) (hM:HasMax G) (t:Tx) (ht:t.length < 2^30) (w:World) (X:Nat→Prop) (μ:Mu) (lb:Array Value) (hs:Sim w X μ (hlst (seqRows t))) (hgl:∀ g x,G g=some x→RD w (XX X μ) (.pointer (some ⟨g,0,none⟩)) x)
  (hlb:lb.size=3) (hlr:∀ (i:Nat) (u:Value) (x:AV),lb[i]? = some u→[AV.ref 512 0 0,.ref 511 0 0,.ref 513 0 0][i]? = some x→RV w X μ u x) :
  IterB Tryz.prog 260 lb (ran μ) (fun b=>ran μ b∨GB G b) ((cutT 10 t).map fun s=>.string (bs s)) w:=by
 intro l J Jx hJ hJx hY w1 hk1 h0
 obtain ⟨mx,hmx⟩:=hM
 have hmc0:=max_cell hmx hgl
 have hmB:GB G 5:=⟨_,hmx,.inl ⟨_,rfl⟩⟩
 obtain ⟨vP,vS,vV,rfl⟩:∃ a b c,lb = #[a,b,c]:=by
  match lb,hlb with
  | ⟨[a,b,c]⟩,_=>exact ⟨a,b,c,rfl⟩
 obtain ⟨mS,bS,cS,hmS,hbS,hhS,hcS⟩:=box1_blk hs (r:=511) (ty:=9) (x:=.string (bs t)) rfl
 obtain ⟨mP,bP,cP,hmP,hbP,hhP,hcP⟩:=box1_blk hs (r:=512) (ty:=9) (x:=.string (bs [10])) rfl
 obtain ⟨mV,bV,cV,hmV,hbV,hhV,hcV⟩:=box1_blk hs (r:=513) (ty:=3) (x:=.int .i64 0) rfl
 have hvP:vP = .pointer (some ⟨bP,0,none⟩):=by
  obtain ⟨m,b,h1,h2,rfl⟩:=(hlr 0 vP _ rfl rfl).ref_inv
  rw [hmP] at h1
  obtain rfl:=Option.some.inj h1
  rw [hbP] at h2
  obtain rfl:=Option.some.inj h2
  simp
 have hvS:vS = .pointer (some ⟨bS,0,none⟩):=by
  obtain ⟨m,b,h1,h2,rfl⟩:=(hlr 1 vS _ rfl rfl).ref_inv
  rw [hmS] at h1
  obtain rfl:=Option.some.inj h1
  rw [hbS] at h2
  obtain rfl:=Option.some.inj h2
  simp
 have hvV:vV = .pointer (some ⟨bV,0,none⟩):=by
  obtain ⟨m,b,h1,h2,rfl⟩:=(hlr 2 vV _ rfl rfl).ref_inv
  rw [hmV] at h1
  obtain rfl:=Option.some.inj h1
  rw [hbV] at h2
  obtain rfl:=Option.some.inj h2
  simp
 subst hvP hvS hvV
 have nSP:bS≠bP:=fun e=>by have:=hs.inj 511 512 mS mP bS hmS hmP hbS (e ▸ hbP);omega
 have nSV:bS≠bV:=fun e=>by have:=hs.inj 511 513 mS mV bS hmS hmV hbS (e ▸ hbV);omega
 have rS:ran μ bS:=⟨511,mS,hmS,hbS⟩
 have rP:ran μ bP:=⟨512,mP,hmP,hbP⟩
 have rV:ran μ bV:=⟨513,mV,hmV,hbV⟩
 have nSM:bS≠5:=fun e=>(GB_of hgl hmB).1 (.inr (e ▸ rS))
 clear hlr hlb hs
 let St:World→Tx→Prop:=fun W r=>W.cell? ⟨bP,0,none⟩=some (.string (bs [10]))∧W.cell? ⟨bV,0,none⟩=some (.int .i64 0)∧W.cell? ⟨bS,0,none⟩=some (.string (bs r))∧W.frozen? ⟨bS,0,none⟩=false∧W.cell? ⟨5,0,none⟩=some (.int .i64 mx)
 have hkc:∀ {W W':World} {b:Nat},Go.Av.Kept (fun b=>ran μ b∨GB G b) W W'→(ran μ b∨GB G b)→∀ j,W'.cell? ⟨b,j,none⟩=W.cell? ⟨b,j,none⟩:=fun hk hb j=>World.cell?_of_block (hk.same _ hb)
 have hst1:St w1 t:=⟨(hkc hk1 (.inl rP) 0).trans (cell_of_cells hhP hcP),(hkc hk1 (.inl rV) 0).trans (cell_of_cells hhV hcV),(hkc hk1 (.inl rS) 0).trans (cell_of_cells hhS hcS),frozen_of_cells ((hk1.same bS (.inl rS)).trans hhS),(hkc hk1 (.inr hmB) 0).trans hmc0⟩
 have hkSt:∀ {W W':World} {r:Tx},Go.Av.Kept (fun b=>ran μ b∨GB G b) W W'→St W r→St W' r:=fun {W W' r} hk h=>⟨(hkc hk (.inl rP) 0).trans h.1,(hkc hk (.inl rV) 0).trans h.2.1,(hkc hk (.inl rS) 0).trans h.2.2.1,by
  have:=hk.same bS (.inl rS)
  have h4:=h.2.2.2.1
  unfold World.frozen? at h4 ⊢
  dsimp only at h4 ⊢
  rw [this];exact h4,(hkc hk (.inr hmB) 0).trans h.2.2.2.2⟩
 have hL:Lays.n143 Tryz.prog Tryz.lays143_ren:={ Tryz.lays143 with }
 have hix:∀ (W:World) (r:Tx),r.length≤t.length→W.cell? ⟨5,0,none⟩=some (.int .i64 mx)→Calls Tryz.prog 144 #[.string (bs r),.string (bs [10])] W fun e w'=>e = .returned (.int .i64 (if (10:UInt8)∈r then ((cutAt 10 r).1.length:Int) else -1))∧w'=W:=fun W r hr hm=>by
  have hcon:=Any.strings_Index hL (bs r) (bs [10]) mx W (by rw [bs_size];omega) hm
  refine hcon.mono fun e w' ⟨he,hw⟩=>⟨?_,hw⟩;rw [he,bs_data,bs_data]
  split
  ·rename_i h
   obtain ⟨a,b,rfl,ha⟩:=List.eq_append_cons_of_mem h
   rw [cutAt_some ha,index_some1 b ha]
  ·rename_i h
   rw [index_none1 h]
 have hst0:=hst1
 obtain ⟨c1,c2,c3,c4,c5⟩:=hst1
 refine (callsIn_wide (n:=0)).1 (callsIn_of_wp (F:=Fence.wide) Tryz.func260 rfl trivial ?_ rfl);simp only [Tryz.ntmps260,List.size_toArray,List.length_cons,List.length_nil,Nat.reduceAdd,Nat.reduceSub,Array.replicate_succ,Array.replicate_zero,List.push_toArray,List.append_toArray,List.nil_append,List.cons_append]
 gi_wp2
 have hk0:0 < (cutT 10 t).length:=by
  have:=cutGo_ne (c:=10) t []
  exact List.length_pos_iff.2 this
 gi_loopw [] (fun wr=>∃ (k:Nat) (r:Tx),k < (cutT 10 t).length∧(cutT 10 t).drop k=cutT 10 r∧r.length≤t.length∧J k wr∧St wr r) (fun wr=>cellLen wr bS)
 case atStart=>exact ⟨0,t,hk0,rfl,Nat.le_refl _,h0,hst0⟩
 case round=>
  obtain ⟨k,r,hk,hdr,hrl,hJk,hSt⟩:=hrel
  have hSt':=hSt
  obtain ⟨d1,d2,d3,d4,d5⟩:=hSt
  have hixr:=hix wr r hrl d5
  by_cases hc:(10:UInt8)∈r
  ·obtain ⟨a,b,rfl,ha⟩:=List.eq_append_cons_of_mem hc
   rw [if_pos hc,cutAt_some ha] at hixr;rw [cutT_some ha] at hdr
   have hkx:k < ((cutT 10 t).map fun s=>Value.string (bs s)).length:=by simpa using hk
   have hka:(cutT 10 t)[k]=a:=by
    rw [List.drop_eq_getElem_cons hk] at hdr;exact (List.cons.inj hdr).1
   have hdr2:(cutT 10 t).drop (k+1)=cutT 10 b:=by
    rw [List.drop_eq_getElem_cons hk] at hdr;exact (List.cons.inj hdr).2
   obtain ⟨fn,tmps,assign,body,hy,hR⟩:=hY k hkx wr hJk
   rw [show ((cutT 10 t).map fun s=>Value.string (bs s))[k] = .string (bs a) by simp [hka]] at hy
   have hal:a.length≤t.length:=by simp at hrl;omega
   gi_wp2
   refine ⟨trivial,rfl,?_⟩;refine (callsIn_wide.2 hixr).mono ?_
   rintro e w' ⟨rfl,rfl⟩
   have hb1:a.length≤(bs (a ++ 10 :: b)).size:=by rw [bs_size];simp
   have hsl:(bs (a ++ 10 :: b)).extract 0 a.length=bs a:=by rw [Lib.extract_eq];simp [bs]
   have hb2:a.length+(bs [10]).size≤(bs (a ++ 10 :: b)).size:=by rw [bs_size,bs_size];simp
   have hsl2:(bs (a ++ 10 :: b)).extract (a.length+(bs [10]).size) (bs (a ++ 10 :: b)).size=bs b:=by
    rw [Lib.extract_eq,bs_size,bs_size]
    have:(a ++ 10 :: b).drop (a.length+1)=b:=by
     rw [show a.length+1=(a ++ [(10:UInt8)]).length by simp,show a ++ (10:UInt8) :: b=(a ++ [10]) ++ b by simp,List.drop_left]
    simp only [bs,List.length_cons,List.length_nil,Nat.zero_add];rw [this,List.take_of_length_le (by simp;omega)]
   have hpos:¬ ((a.length:Int) < 0):=by omega
   have hwr:wrap64 ((a.length:Int)+((bs [10]).size:Int))=((a.length+(bs [10]).size:Nat):Int):=by
    rw [bs_size];simp only [List.length_cons,List.length_nil];simp at hrl;unfold wrap64;omega
   gi_wp2
   refine ⟨rfl,RoundIn.mono (F:=Fence.wide) hR ?_⟩
   rintro e W3 (⟨rfl,hJ3,hk3⟩ | ⟨rfl,hJx3⟩)
   ·have hSt3:=hkSt hk3 hSt'
    have hSt3':=hSt3
    obtain ⟨g1,g2,g3,g4,g5⟩:=hSt3
    gi_wp2
    go_roundw
    case rel=>
     refine ⟨_,_,_,_,_,_,_,_,_,_,_,_,_,_,_,_,_,_,_,_,_,_,⟨k+1,b,?_,hdr2,?_,?_,?_⟩,rfl⟩
     ·have:=congrArg List.length hdr2
      have h2:=List.length_pos_iff.2 (cutGo_ne (c:=10) b [])
      rw [List.length_drop] at this;unfold cutT at *
      omega
     ·simp at hrl;omega
     ·exact hJ _ _ _ hJ3 (grown_setCell rS _ _)
     ·refine ⟨?_,?_,?_,?_,?_⟩
      ·exact cell_other nSP g1
      ·exact cell_other nSV g2
      ·exact cell_same g3
      ·rw [World.frozen?_setCell];exact g4
      ·exact cell_other nSM g5
    case measure=>
     have e1:cellLen w' bS=(bs (a ++ 10 :: b)).size:=by unfold cellLen;rw [d3]
     have e2:cellLen (W3.setCell ⟨bS,0,none⟩ (.string (bs b))) bS=(bs b).size:=by unfold cellLen;rw [cell_same g3]
     rw [e1,e2,bs_size,bs_size];simp;omega
   ·gi_wp2
    refine bodyPost_ret (results_none rfl _ _ _) rfl ?_;exact ⟨⟨_,rfl⟩,.inr hJx3⟩
  ·rw [if_neg hc] at hixr;rw [cutT_none hc] at hdr
   have hkx:k < ((cutT 10 t).map fun s=>Value.string (bs s)).length:=by simpa using hk
   have hka:(cutT 10 t)[k]=r:=by
    rw [List.drop_eq_getElem_cons hk] at hdr;exact (List.cons.inj hdr).1
   have hkl:k+1=((cutT 10 t).map fun s=>Value.string (bs s)).length:=by
    rw [List.length_map]
    have:=congrArg List.length hdr
    rw [List.length_drop] at this;simp at this
    omega
   obtain ⟨fn,tmps,assign,body,hy,hR⟩:=hY k hkx wr hJk
   rw [show ((cutT 10 t).map fun s=>Value.string (bs s))[k] = .string (bs r) by simp [hka]] at hy
   gi_wp2
   refine ⟨trivial,rfl,?_⟩;refine (callsIn_wide.2 hixr).mono ?_
   rintro e w' ⟨rfl,rfl⟩
   gi_wp2
   refine ⟨rfl,RoundIn.mono (F:=Fence.wide) hR ?_⟩
   rintro e W3 (⟨rfl,hJ3,hk3⟩ | ⟨rfl,hJx3⟩)
   ·rw [hkl] at hJ3
    gi_wp2
    go_end0
    exact ⟨⟨_,rfl⟩,.inl hJ3⟩
   ·gi_wp2
    go_end0
    exact ⟨⟨_,rfl⟩,.inr hJx3⟩
end Go.Proofs.YtpboiimemmfkiaaGreatDoor
