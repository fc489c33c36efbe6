/-
  Texts that belong together,in one file: LB3,LN.
-/
import Derived.Test.YtpboiimemmfkiaaGreatDoorRp34
import Derived.Shelf.Strconv.Itoa3
import Derived.Shelf.Strconv.Itoa4
import Derived.Shelf.Strconv.AtoiAll
import Derived.Shelf.Strconv.ParseIntPublic10
import Derived.Lib.ParseIntBTie
set_option linter.unusedSimpArgs false
set_option linter.unusedVariables false
namespace Go.Proofs.YtpboiimemmfkiaaGreatDoor
open Go.Av Go.Shelf Go.RowKit
def HasP10 (G:Glob):Prop:=G 6=some (.tab (Lib.pow10Tab.map fun z=>Value.int .u64 z).toArray)
def errV (v:Value):Prop:=v = .nilIface∨∃ te pe,v = .iface te pe
def HasNE (G:Glob) (es er:Value):Prop:=(G 7=some (.ip [.v es])∧errV es)∧G 8=some (.ip [.v er])∧errV er
theorem glob_cell1 {G:Glob} {g:Nat} {v:Value} {w:World} {X:Nat→Prop} (hm:G g=some (.ip [.v v])) (hgl:∀ g x,G g=some x→RD w X (.pointer (some ⟨g,0,none⟩)) x):w.cell? ⟨g,0,none⟩=some v:=by
 obtain ⟨b',off,f,hp,_,_,hcell,hr⟩:=(hgl _ _ hm).ip_inv
 have h0:=hcell 0 (by simp)
 have h1:=(hr 0 _ rfl).scalar
 rw [h1] at h0
 injection hp with hp
 injection hp with hp
 injection hp with hp1 hp2 _
 subst hp1 hp2;exact h0
theorem p10_tab {G:Glob} (h:HasP10 G) {w:World} {X:Nat→Prop} (hgl:∀ g x,G g=some x→RD w X (.pointer (some ⟨g,0,none⟩)) x):Lib.TabIs Tryz.prog w "internal/strconv.uint64pow10" .u64 Lib.pow10Tab:=by
 have h1:=hgl _ _ h
 obtain ⟨ty,fr,hh⟩:∃ ty fr,w.heap[6]? = some (.cells (Lib.pow10Tab.map fun z=>Value.int .u64 z).toArray ty fr):=by
  generalize hy:D.tab _=y at h1
  cases h1<;>cases hy
  exact ⟨_,_,by assumption⟩
 unfold Lib.TabIs World.var?;rw [show Tryz.prog.globalNamed "internal/strconv.uint64pow10" = some 6 by kernel_rfl];simp only [Option.bind_some,hh]
theorem grow_grew (w:World) (os:Array Obj):Grew w (Go.Sort.grow w os):=⟨by simp [Go.Sort.grow],rfl,rfl,rfl,fun b hb=>by simp [Go.Sort.grow,Array.getElem?_append_left hb]⟩
theorem Grew.trans' {w w1 w2:World} (h:Grew w w1) (h2:Grew w1 w2):Grew w w2:=⟨Nat.le_trans h.size h2.size,h2.os.trans h.os,h2.tape.trans h.tape,h2.output.trans h.output,fun b hb=>(h2.same b (Nat.lt_of_lt_of_le hb h.size)).trans (h.same b hb)⟩
theorem itoa_spec (G:Glob) (hP:HasP10 G) (n:Int) (h0:-9223372036854775808≤n) (h1:n≤9223372036854775807):PureC Tryz.prog G 83 [.v (.int .i64 n)] (dS (Lib.itoa n)):=by
 refine PureC.of_calls (Fun.of Tryz.func83 rfl rfl) fun X w vs hsz hrd hgl=>?_
 obtain ⟨u,rfl⟩:∃ u,vs = #[u]:=by
  match vs,hsz with
  | ⟨[u]⟩,_=>exact ⟨u,rfl⟩
 have hu:=(hrd 0 u _ rfl rfl).scalar
 subst hu;refine (Any.strconv_Itoa Tryz.lays171 n h0 h1 w (p10_tab hP hgl)).mono fun e w' ⟨he,k,os,hw⟩=>⟨_,he,by rw [hw];exact Grew.trans' (drewN_grew w k) (grow_grew _ _),.v _⟩
def dNumErr (f s:Tx) (ev:Value):D:=.ifc 380 (.ip [dS f,dS s,.v ev])
def dNumEnd (f s:Tx) (es er:Value):D:=match Lib.atoiAll s with
 | .ok v=>.tup [.v (.int .i64 v),.v .nilIface]
 | .range=>.tup [.v (.int .i64 (Lib.atoiSat s)),dNumErr f s er]
 | _=>.tup [.v (.int .i64 0),dNumErr f s es]
theorem rd_ok {w:World} {X:Nat→Prop} (v:Int):RD w X (.tuple #[.int .i64 v,.nilIface]) (.tup [.v (.int .i64 v),.v .nilIface]):=.tup rfl fun j u c hu hc=>by
 match j,hu,hc with
 | 0,hu,hc=>simp at hu hc;subst hu hc;exact .v _
 | 1,hu,hc=>simp at hu hc;subst hu hc;exact .v _
 | j+2,hu,hc=>simp at hu
theorem rd_bad {w w':World} {X:Nat→Prop} (hfit:∀ b,X b→b < w.heap.size) {v:Int} {f s:Tx} {ev:Value} {N:Nat} {T:TypeId} (hN:w.heap.size≤N) (hc:w'.heap[N]? = some (.cells #[.string (bs f),.string (bs s),ev] T (0,0))) :
  RD w' X (.tuple #[.int .i64 v,.iface 380 (.pointer (some ⟨N,0,none⟩))]) (.tup [.v (.int .i64 v),dNumErr f s ev]):=by
 have hcell:∀ j,w'.cell? ⟨N,j,none⟩=(#[.string (bs f),.string (bs s),ev]:Array Value)[j]?:=fun j=>by simp [World.cell?,hc]
 refine .tup rfl fun j u c hu hx=>?_
 match j,hu,hx with
 | 0,hu,hx=>simp at hu hx;subst hu hx;exact .v _
 | 1,hu,hx=>
  simp at hu hx;subst hu hx;refine .ifc (.ip (f:=fun j=>(w'.cell? ⟨N,j,none⟩).getD undef) (fun hx=>by have:=hfit _ hx;omega) (Array.getElem?_eq_some_iff.1 hc).1 (fun j hj=>?_) fun j c hc2=>?_)
  ·have hj3:j < 3:=by simpa using hj
   rw [Nat.zero_add,hcell]
   match j,hj3 with
   | 0,_=>rfl
   | 1,_=>rfl
   | 2,_=>rfl
  ·rw [hcell]
   match j,hc2 with
   | 0,hc2=>simp at hc2;subst hc2;exact .v _
   | 1,hc2=>simp at hc2;subst hc2;exact .v _
   | 2,hc2=>simp at hc2;subst hc2;exact .v _
   | j+3,hc2=>simp at hc2
 | j+2,hu,hx=>simp at hu
theorem bytesWorld_grew (w:World) (e:TypeId) (s:ByteArray):Grew w (Lib.bytesWorld w e s):=below_grew (Lib.bytesWorld_below w e s)
def atoiN:Tx:=[65,116,111,105]
theorem atoi_spec (G:Glob) {es er:Value} (hE:HasNE G es er) (s:Tx) (hs:s.length < 2^40):PureC Tryz.prog G 214 [dS s] (dNumEnd atoiN s es er):=by
 obtain ⟨⟨h1,h1v⟩,h2,h2v⟩:=hE
 refine of_callsX (Fun.of Tryz.func214 rfl rfl) fun X w vs hfit hsz hrd hgl=>?_
 obtain ⟨u,rfl⟩:∃ u,vs = #[u]:=by
  match vs,hsz with
  | ⟨[u]⟩,_=>exact ⟨u,rfl⟩
 have hu:=(hrd 0 u _ rfl rfl).scalar
 subst hu
 have hss:(bs s).size < 2^40:=by rw [bs_size];exact hs
 unfold dNumEnd
 cases hn:Lib.atoiAll s with
 | ok v=>
  refine (Any.strconv_Atoi_ok Tryz.lays172 (bs s) (by omega) v hn w).mono fun e w' ⟨he,hw⟩=>⟨_,he,?_,rd_ok v⟩
  rcases hw with rfl | ⟨t,rfl⟩
  ·exact Grew.refl _
  ·exact bytesWorld_grew _ _ _
 | range=>
  refine (Any.strconv_Atoi_range Tryz.lays172 (bs s) (by omega) hn er w (glob_cell1 h2 hgl) h2v).mono fun e w' ⟨N,he,hN,hc,hB⟩=>⟨_,he,below_grew hB,rd_bad hfit hN hc⟩
 | _=>
  refine (Any.strconv_Atoi_syntax Tryz.lays172 (bs s) (by omega) hn es w (glob_cell1 h1 hgl) h1v).mono fun e w' ⟨N,he,hN,hc,hB⟩=>⟨_,he,below_grew hB,rd_bad hfit hN hc⟩
end Go.Proofs.YtpboiimemmfkiaaGreatDoor
namespace Go.Proofs.YtpboiimemmfkiaaGreatDoor
open Go.Av
def dLine:LnR→D
 | .form=>.tup [.v (.pointer none),.v (.pointer none),.ifc 30 (.v (.int .i64 3))]
 | .bad c off=>.tup [.v (.pointer none),.v (.pointer none),.ifc 222 (.ip [.v (.int .i64 c),.v (.int .i64 off)])]
 | .name n=>.tup [.ip (cNm n),.v (.pointer none),.v .nilIface]
 | .rung r=>.tup [.v (.pointer none),.ip (cRg r),.v .nilIface]
theorem idx_swap (l:List Tx) (s:Tx):idx (fun x=>s == x) l=ixW l s:=by
 unfold ixW
 congr 1
 funext x
 by_cases h:s=x
 ·subst h;simp
 ·have h2:x≠s:=fun e=>h e.symm
  rw [beq_eq_false_iff_ne.2 h,beq_eq_false_iff_ne.2 h2]
theorem ixW_bd (l:List Tx) (s:Tx):-1≤ixW l s∧ixW l s < l.length:=by
 by_cases h:ixW l s < 0
 ·unfold ixW idx at h ⊢
  cases hf:l.findIdx? (fun x=>x == s) with
  | none=>simp;omega
  | some k=>rw [hf] at h;simp at h;omega
 ·obtain ⟨k,hk,he,_⟩:=idx_pos h
  have he2:ixW l s=(k:Int):=he
  omega
theorem dCw (c:Option Ex):dOE c=dC c:=by cases c<;>rfl
theorem l61:(⟨#[61]⟩:ByteArray)=bs [61]:=rfl
theorem wq0:IntKind.i64.wrap 0=0:=by decide
theorem wq1:IntKind.i64.wrap 1=1:=by decide
set_option maxRecDepth 100000 in
set_option maxHeartbeats 16000000 in
theorem line_spec (G:Glob) (hM:HasMax G) (hP:HasP10 G) (hG:HasErr G) {es er:Value} (hE:HasNE G es er) (s:Tx) (hs:s.length≤20000) (h0:wordsT s≠[]):PureC Tryz.prog G 163 [dS s] (dLine (lineP s)):=by
 have hcut:=scut_spec G hM s 61 (by omega)
 have hidx:=fun (ws:List Tx) (x:Tx) (h:ws.length < 2^60)=>index_spec G none ws x h
 simp only [idx_swap] at hidx
 by_cases h61:(61:UInt8)∈s
 ·have hle:=cutAt_le 61 s
  have hlp:lineP s=rungL (cutAt 61 s).1 (cutAt 61 s).2 (wordsT (cutAt 61 s).1):=by unfold lineP;rw [if_pos h61]
  rw [hlp];simp only [h61,if_true,decide_true] at hcut;generalize (cutAt 61 s).1=hd at hcut hle ⊢;generalize (cutAt 61 s).2=rest at hcut hle ⊢
  have hfl:=fields_spec G hd (by omega)
  have hwl:=wordsT_len hd
  generalize hws:wordsT hd=ws at hfl hwl ⊢
  have hps:=parse_spec G rest (by omega)
  rw [dCw] at hps
  have htl:=tell_spec G hG (parseM rest).2
  have hR:∀ k nm,rungP k nm hd rest=(match (parseM rest).2 with | some (c,o)=>.bad c (hd.length+1+o.getD 0) | none=>.rung ⟨k,nm,(parseM rest).1⟩):=fun _ _=>rfl
  simp only [dS] at hcut hfl hps ⊢
  match ws,hfl,hwl with
  | [],hfl,hwl=>
   show PureC _ _ _ _ (dLine .form)
   simp only [dLine];refine PureC.of_body (tyOf_good _) Tryz.func163 rfl rfl (rs:=[.tmp 2,.tmp 3,.tmp 4]) Tryz.results163 (by simp [Tryz.ntmps163]) fun X=>?_;simp only [Tryz.ntmps163,List.map];refine rg0 [0] [] ?_
   have qf:=@l61
   refine rgcv hcut [5,6,7] [] ?_;refine rgc trivial hfl [5,6,7,8] [] ?_;refine AW_then fun K1 hK1=>?_;refine rg0 [5,6,8,26] [] ?_;refine AW_tt rfl ?_;refine rg0 [5,6,8,9] [28] ?_;refine AW_then fun K2 hK2=>?_;refine rg0 [5,6,8,9,31] [28] ?_;refine AW_ff rfl ?_;refine AW_skip ?_;refine hK2 _ (AW.norm [5,6,8,9] [28] (fun _ _=>trivial) (AW.st (by simp;rfl) ?_));refine AW_then fun K3 hK3=>?_;refine rg0 [5,6,8,9,54] [28] ?_;refine AW_tt rfl ?_;refine rg0 [2,3,4] [28] ?_;refine AW_ret ?_;simp [D.le,D.le.go,takeMap]
  | [a],hfl,hwl=>
   show PureC _ _ _ _ (dLine (rungP 1 a hd rest))
   rw [hR]
   have hsome:=fun h=>parse_some (t:=rest) h
   have hat:=fun c o h=>parse_at (t:=rest) (c:=c) (p:=o) h
   generalize (parseM rest).1=oe at hps hsome ⊢;generalize (parseM rest).2=oc at hps htl hsome hat ⊢
   match oc,hps,htl,hsome,hat with
   | some (c,some o),hps,htl,_,hat=>
    have hol:=hat c o rfl
    have hcast:((hd.length+1+o:Nat):Int)=(hd.length:Int)+1+o:=by omega
    simp only [dErr] at hps;simp only [dLine,Option.getD_some];refine PureC.of_body (tyOf_good _) Tryz.func163 rfl rfl (rs:=[.tmp 2,.tmp 3,.tmp 4]) Tryz.results163 (by simp [Tryz.ntmps163]) fun X=>?_;simp only [Tryz.ntmps163,List.map];refine rg0 [0] [] ?_
    have qf:=@l61
    refine rgcv hcut [5,6,7] [] ?_;refine rgc trivial hfl [5,6,7,8] [] ?_;refine AW_then fun K1 hK1=>?_;refine rg0 [5,6,8,26] [] ?_;refine AW_tt rfl ?_;refine rg0 [5,6,8,9] [28] ?_;refine AW_then fun K2 hK2=>?_;refine rg0 [5,6,8,9,31] [28] ?_;refine AW_ff rfl ?_;refine AW_skip ?_;refine hK2 _ (AW.norm [5,6,8,9] [28] (fun _ _=>trivial) (AW.st (by simp;rfl) ?_));refine AW_then fun K3 hK3=>?_;refine rg0 [5,6,8,9,54] [28] ?_;refine AW_ff rfl ?_;refine AW_skip (hK3 _ ?_);refine rg0 [5,6,9] [28] ?_;refine rgc trivial hps [5,9,10,11] [28] ?_;refine AW_then fun K4 hK4=>?_;refine rgq (Aq @pairA.eq_1 (Aq @pairA.eq_2 @assertA.eq_1)) [5,9,10,11,12,13] [28] ?_;refine rg0 [5,9,10,11,12,75] [28] ?_;refine AW_tt rfl ?_
    have qf:=@bs_size
    refine rdqv [2,3,4] [28,89] ?_;refine AW.imp (Imp.freezeB 89 trivial) ?_;refine AW.st (by simp;rfl) ?_;refine AW_ret ?_;simp [D.le,D.le.go,takeMap,hcast]
   | some (c,none),hps,htl,_,_=>
    have hcast:((hd.length+1:Nat):Int)=(hd.length:Int)+1:=by omega
    simp only [dErr,codeF] at hps htl;simp only [dLine,Option.getD_none,Nat.add_zero];refine PureC.of_body (tyOf_good _) Tryz.func163 rfl rfl (rs:=[.tmp 2,.tmp 3,.tmp 4]) Tryz.results163 (by simp [Tryz.ntmps163]) fun X=>?_;simp only [Tryz.ntmps163,List.map];refine rg0 [0] [] ?_
    have qf:=@l61
    refine rgcv hcut [5,6,7] [] ?_;refine rgc trivial hfl [5,6,7,8] [] ?_;refine AW_then fun K1 hK1=>?_;refine rg0 [5,6,8,26] [] ?_;refine AW_tt rfl ?_;refine rg0 [5,6,8,9] [28] ?_;refine AW_then fun K2 hK2=>?_;refine rg0 [5,6,8,9,31] [28] ?_;refine AW_ff rfl ?_;refine AW_skip ?_;refine hK2 _ (AW.norm [5,6,8,9] [28] (fun _ _=>trivial) (AW.st (by simp;rfl) ?_));refine AW_then fun K3 hK3=>?_;refine rg0 [5,6,8,9,54] [28] ?_;refine AW_ff rfl ?_;refine AW_skip (hK3 _ ?_);refine rg0 [5,6,9] [28] ?_;refine rgc trivial hps [5,9,10,11] [28] ?_;refine AW_then fun K4 hK4=>?_;refine rgq (Aq @pairA.eq_1 (Aq @pairA.eq_2 @assertA.eq_1)) [5,9,10,11,12,13] [28] ?_;refine rg0 [5,9,10,11,12,75] [28] ?_;refine AW_ff rfl ?_;refine AW_skip (hK4 _ ?_);refine AW_then fun K5 hK5=>?_;refine rg0 [5,9,10,11,92] [28] ?_;refine AW_tt rfl ?_
    have qf:=@bs_size
    refine rgcv htl [2,3,4] [28,99] ?_;refine AW.imp (Imp.freezeB 99 trivial) ?_;refine AW.st (by simp;rfl) ?_;refine AW_ret ?_;simp [D.le,D.le.go,takeMap,hcast]
   | none,hps,htl,hsome,_=>
    obtain ⟨e,rfl⟩:=hsome rfl
    obtain ⟨ta,ca,hta⟩:=dE_ifc e
    simp only [dC,hta,dErr] at hps;simp only [dLine,cRg,dC,hta,dS];refine PureC.of_body (tyOf_good _) Tryz.func163 rfl rfl (rs:=[.tmp 2,.tmp 3,.tmp 4]) Tryz.results163 (by simp [Tryz.ntmps163]) fun X=>?_;simp only [Tryz.ntmps163,List.map];refine rg0 [0] [] ?_
    have qf:=@l61
    refine rgcv hcut [5,6,7] [] ?_;refine rgc trivial hfl [5,6,7,8] [] ?_;refine AW_then fun K1 hK1=>?_;refine rg0 [5,6,8,26] [] ?_;refine AW_tt rfl ?_;refine rg0 [5,6,8,9] [28] ?_;refine AW_then fun K2 hK2=>?_;refine rg0 [5,6,8,9,31] [28] ?_;refine AW_ff rfl ?_;refine AW_skip ?_;refine hK2 _ (AW.norm [5,6,8,9] [28] (fun _ _=>trivial) (AW.st (by simp;rfl) ?_));refine AW_then fun K3 hK3=>?_;refine rg0 [5,6,8,9,54] [28] ?_;refine AW_ff rfl ?_;refine AW_skip (hK3 _ ?_);refine rg0 [5,6,9] [28] ?_;refine rgc trivial hps [5,9,10,11] [28] ?_;refine AW_then fun K4 hK4=>?_;refine rgq (Aq @pairA.eq_1 (Aq @pairA.eq_2 @assertA.eq_1)) [5,9,10,11,12,13] [28] ?_;refine rg0 [5,9,10,11,12,75] [28] ?_;refine AW_ff rfl ?_;refine AW_skip (hK4 _ ?_);refine AW_then fun K5 hK5=>?_;refine rg0 [5,9,10,11,92] [28] ?_;refine AW_ff rfl ?_;refine AW_skip (hK5 _ ?_);refine rg0 [9] [28] ?_;refine rg0 [2,3,4] [28] ?_;refine AW.imp (Imp.freezeB 28 trivial) ?_;refine AW.st (by simp;rfl) ?_;refine AW_ret ?_;simp [D.le,D.le.go,takeMap,D.le_refl]
  | [a,b],hfl,hwl=>
   have hix:=hidx kwR a (by decide)
   simp only [dS] at hix
   show PureC _ _ _ _ (dLine (if ixW kwR a < 2 then .form else rungP (ixW kwR a) b hd rest))
   have hbd:=ixW_bd kwR a
   generalize ixW kwR a=k at hix hbd ⊢
   have hbd2:k < 7:=hbd.2
   by_cases hk:k < 2
   ·rw [if_pos hk];simp only [dLine];refine PureC.of_body (tyOf_good _) Tryz.func163 rfl rfl (rs:=[.tmp 2,.tmp 3,.tmp 4]) Tryz.results163 (by simp [Tryz.ntmps163]) fun X=>?_;simp only [Tryz.ntmps163,List.map];refine rg0 [0] [] ?_
    have qf:=@l61
    refine rgcv hcut [5,6,7] [] ?_;refine rgc trivial hfl [5,6,7,8] [] ?_;refine AW_then fun K1 hK1=>?_;refine rg0 [5,6,8,26] [] ?_;refine AW_tt rfl ?_;refine rg0 [5,6,8,9] [28] ?_;refine AW_then fun K2 hK2=>?_;refine rg0 [5,6,8,9,31] [28] ?_;refine AW_tt rfl ?_;refine AW_re (tyOf_good _) fun K' hK'=>?_;(repeat (refine sxn fun K2 hK2=>?_;simp;(repeat (refine ⟨by omega,?_⟩));refine hK2 _ ?_;clear hK2 K2));refine sxn fun K2 hK2=>?_;simp;refine callK.lend (hix) (by simp;rfl) (by first | exact D.leGo_refl _ | simp [takeMap,List.map_map,Function.comp_def,D.le,D.le.go,D.le_refl,D.leGo_refl]) (by simp [D.scalar]) ?_;refine hK2 _ ?_;clear hK2 K2;simp only [putd,upd_lst];(repeat (refine sxn fun K2 hK2=>?_;simp;(repeat (refine ⟨by omega,?_⟩));refine hK2 _ ?_;clear hK2 K2));refine sxz (hK' _ ?_);clear hK' K';refine hK2 _ (AW.norm [5,6,8,9] [28,33] (fun _ _=>trivial) (AW.st (by simp;rfl) ?_));refine AW_then fun K3 hK3=>?_
    have qf:=@hk
    refine rgqv [5,6,8,9,54] [28,33] ?_;refine AW_tt rfl ?_;refine rg0 [2,3,4] [28,33] ?_;refine AW_ret ?_;simp [D.le,D.le.go,takeMap]
   rw [if_neg hk];rw [hR]
   have hsome:=fun h=>parse_some (t:=rest) h
   have hat:=fun c o h=>parse_at (t:=rest) (c:=c) (p:=o) h
   generalize (parseM rest).1=oe at hps hsome ⊢;generalize (parseM rest).2=oc at hps htl hsome hat ⊢
   match oc,hps,htl,hsome,hat with
   | some (c,some o),hps,htl,_,hat=>
    have hol:=hat c o rfl
    have hcast:((hd.length+1+o:Nat):Int)=(hd.length:Int)+1+o:=by omega
    simp only [dErr] at hps;simp only [dLine,Option.getD_some];refine PureC.of_body (tyOf_good _) Tryz.func163 rfl rfl (rs:=[.tmp 2,.tmp 3,.tmp 4]) Tryz.results163 (by simp [Tryz.ntmps163]) fun X=>?_;simp only [Tryz.ntmps163,List.map];refine rg0 [0] [] ?_
    have qf:=@l61
    refine rgcv hcut [5,6,7] [] ?_;refine rgc trivial hfl [5,6,7,8] [] ?_;refine AW_then fun K1 hK1=>?_;refine rg0 [5,6,8,26] [] ?_;refine AW_tt rfl ?_;refine rg0 [5,6,8,9] [28] ?_;refine AW_then fun K2 hK2=>?_;refine rg0 [5,6,8,9,31] [28] ?_;refine AW_tt rfl ?_;refine AW_re (tyOf_good _) fun K' hK'=>?_;(repeat (refine sxn fun K2 hK2=>?_;simp;(repeat (refine ⟨by omega,?_⟩));refine hK2 _ ?_;clear hK2 K2));refine sxn fun K2 hK2=>?_;simp;refine callK.lend (hix) (by simp;rfl) (by first | exact D.leGo_refl _ | simp [takeMap,List.map_map,Function.comp_def,D.le,D.le.go,D.le_refl,D.leGo_refl]) (by simp [D.scalar]) ?_;refine hK2 _ ?_;clear hK2 K2;simp only [putd,upd_lst];(repeat (refine sxn fun K2 hK2=>?_;simp;(repeat (refine ⟨by omega,?_⟩));refine hK2 _ ?_;clear hK2 K2));refine sxz (hK' _ ?_);clear hK' K';refine hK2 _ (AW.norm [5,6,8,9] [28,33] (fun _ _=>trivial) (AW.st (by simp;rfl) ?_));refine AW_then fun K3 hK3=>?_
    have qf:=@hk
    refine rgqv [5,6,8,9,54] [28,33] ?_;refine AW_ff rfl ?_;refine AW_skip (hK3 _ ?_);refine rg0 [5,6,9] [28,33] ?_;refine rgc trivial hps [5,9,10,11] [28,33] ?_;refine AW_then fun K4 hK4=>?_;refine rgq (Aq @pairA.eq_1 (Aq @pairA.eq_2 @assertA.eq_1)) [5,9,10,11,12,13] [28,33] ?_;refine rg0 [5,9,10,11,12,75] [28,33] ?_;refine AW_tt rfl ?_
    have qf:=@bs_size
    refine rdqv [2,3,4] [28,33,89] ?_;refine AW.imp (Imp.freezeB 89 trivial) ?_;refine AW.st (by simp;rfl) ?_;refine AW_ret ?_;simp [D.le,D.le.go,takeMap,hcast]
   | some (c,none),hps,htl,_,_=>
    have hcast:((hd.length+1:Nat):Int)=(hd.length:Int)+1:=by omega
    simp only [dErr,codeF] at hps htl;simp only [dLine,Option.getD_none,Nat.add_zero];refine PureC.of_body (tyOf_good _) Tryz.func163 rfl rfl (rs:=[.tmp 2,.tmp 3,.tmp 4]) Tryz.results163 (by simp [Tryz.ntmps163]) fun X=>?_;simp only [Tryz.ntmps163,List.map];refine rg0 [0] [] ?_
    have qf:=@l61
    refine rgcv hcut [5,6,7] [] ?_;refine rgc trivial hfl [5,6,7,8] [] ?_;refine AW_then fun K1 hK1=>?_;refine rg0 [5,6,8,26] [] ?_;refine AW_tt rfl ?_;refine rg0 [5,6,8,9] [28] ?_;refine AW_then fun K2 hK2=>?_;refine rg0 [5,6,8,9,31] [28] ?_;refine AW_tt rfl ?_;refine AW_re (tyOf_good _) fun K' hK'=>?_;(repeat (refine sxn fun K2 hK2=>?_;simp;(repeat (refine ⟨by omega,?_⟩));refine hK2 _ ?_;clear hK2 K2));refine sxn fun K2 hK2=>?_;simp;refine callK.lend (hix) (by simp;rfl) (by first | exact D.leGo_refl _ | simp [takeMap,List.map_map,Function.comp_def,D.le,D.le.go,D.le_refl,D.leGo_refl]) (by simp [D.scalar]) ?_;refine hK2 _ ?_;clear hK2 K2;simp only [putd,upd_lst];(repeat (refine sxn fun K2 hK2=>?_;simp;(repeat (refine ⟨by omega,?_⟩));refine hK2 _ ?_;clear hK2 K2));refine sxz (hK' _ ?_);clear hK' K';refine hK2 _ (AW.norm [5,6,8,9] [28,33] (fun _ _=>trivial) (AW.st (by simp;rfl) ?_));refine AW_then fun K3 hK3=>?_
    have qf:=@hk
    refine rgqv [5,6,8,9,54] [28,33] ?_;refine AW_ff rfl ?_;refine AW_skip (hK3 _ ?_);refine rg0 [5,6,9] [28,33] ?_;refine rgc trivial hps [5,9,10,11] [28,33] ?_;refine AW_then fun K4 hK4=>?_;refine rgq (Aq @pairA.eq_1 (Aq @pairA.eq_2 @assertA.eq_1)) [5,9,10,11,12,13] [28,33] ?_;refine rg0 [5,9,10,11,12,75] [28,33] ?_;refine AW_ff rfl ?_;refine AW_skip (hK4 _ ?_);refine AW_then fun K5 hK5=>?_;refine rg0 [5,9,10,11,92] [28,33] ?_;refine AW_tt rfl ?_
    have qf:=@bs_size
    refine rgcv htl [2,3,4] [28,33,99] ?_;refine AW.imp (Imp.freezeB 99 trivial) ?_;refine AW.st (by simp;rfl) ?_;refine AW_ret ?_;simp [D.le,D.le.go,takeMap,hcast]
   | none,hps,htl,hsome,_=>
    obtain ⟨e,rfl⟩:=hsome rfl
    obtain ⟨ta,ca,hta⟩:=dE_ifc e
    simp only [dC,hta,dErr] at hps;simp only [dLine,cRg,dC,hta,dS];refine PureC.of_body (tyOf_good _) Tryz.func163 rfl rfl (rs:=[.tmp 2,.tmp 3,.tmp 4]) Tryz.results163 (by simp [Tryz.ntmps163]) fun X=>?_;simp only [Tryz.ntmps163,List.map];refine rg0 [0] [] ?_
    have qf:=@l61
    refine rgcv hcut [5,6,7] [] ?_;refine rgc trivial hfl [5,6,7,8] [] ?_;refine AW_then fun K1 hK1=>?_;refine rg0 [5,6,8,26] [] ?_;refine AW_tt rfl ?_;refine rg0 [5,6,8,9] [28] ?_;refine AW_then fun K2 hK2=>?_;refine rg0 [5,6,8,9,31] [28] ?_;refine AW_tt rfl ?_;refine AW_re (tyOf_good _) fun K' hK'=>?_;(repeat (refine sxn fun K2 hK2=>?_;simp;(repeat (refine ⟨by omega,?_⟩));refine hK2 _ ?_;clear hK2 K2));refine sxn fun K2 hK2=>?_;simp;refine callK.lend (hix) (by simp;rfl) (by first | exact D.leGo_refl _ | simp [takeMap,List.map_map,Function.comp_def,D.le,D.le.go,D.le_refl,D.leGo_refl]) (by simp [D.scalar]) ?_;refine hK2 _ ?_;clear hK2 K2;simp only [putd,upd_lst];(repeat (refine sxn fun K2 hK2=>?_;simp;(repeat (refine ⟨by omega,?_⟩));refine hK2 _ ?_;clear hK2 K2));refine sxz (hK' _ ?_);clear hK' K';refine hK2 _ (AW.norm [5,6,8,9] [28,33] (fun _ _=>trivial) (AW.st (by simp;rfl) ?_));refine AW_then fun K3 hK3=>?_
    have qf:=@hk
    refine rgqv [5,6,8,9,54] [28,33] ?_;refine AW_ff rfl ?_;refine AW_skip (hK3 _ ?_);refine rg0 [5,6,9] [28,33] ?_;refine rgc trivial hps [5,9,10,11] [28,33] ?_;refine AW_then fun K4 hK4=>?_;refine rgq (Aq @pairA.eq_1 (Aq @pairA.eq_2 @assertA.eq_1)) [5,9,10,11,12,13] [28,33] ?_;refine rg0 [5,9,10,11,12,75] [28,33] ?_;refine AW_ff rfl ?_;refine AW_skip (hK4 _ ?_);refine AW_then fun K5 hK5=>?_;refine rg0 [5,9,10,11,92] [28,33] ?_;refine AW_ff rfl ?_;refine AW_skip (hK5 _ ?_);refine rg0 [9] [28,33] ?_;refine rg0 [2,3,4] [28,33] ?_;refine AW.imp (Imp.freezeB 28 trivial) ?_;refine AW.st (by simp;rfl) ?_;refine AW_ret ?_;simp [D.le,D.le.go,takeMap,D.le_refl]
  | a :: b :: c :: l,hfl,hwl=>
   have n1:¬ ((a :: b :: c :: l).length:Int)=2:=by simp only [List.length_cons];omega
   have n2:¬ ((a :: b :: c :: l).length:Int)=1:=by simp only [List.length_cons];omega
   show PureC _ _ _ _ (dLine .form)
   simp only [dLine];generalize a :: b :: c :: l=ws at hfl hwl n1 n2;refine PureC.of_body (tyOf_good _) Tryz.func163 rfl rfl (rs:=[.tmp 2,.tmp 3,.tmp 4]) Tryz.results163 (by simp [Tryz.ntmps163]) fun X=>?_;simp only [Tryz.ntmps163,List.map];refine rg0 [0] [] ?_
   have qf:=@l61
   refine rgcv hcut [5,6,7] [] ?_;refine rgc trivial hfl [5,6,7,8] [] ?_;refine AW_then fun K1 hK1=>?_;refine rg0 [5,6,8,26] [] ?_;refine AW_tt rfl ?_;refine rg0 [5,6,8,9] [28] ?_;refine AW_then fun K2 hK2=>?_
   have qf:=(Aq @n1 @n2)
   refine rgqv [5,6,8,9,31] [28] ?_;refine AW_ff rfl ?_;refine AW_skip ?_;refine hK2 _ (AW.norm [5,6,8,9] [28] (fun _ _=>trivial) (AW.st (by simp;rfl) ?_));refine AW_then fun K3 hK3=>?_
   have qf:=(Aq @n1 @n2)
   refine rgqv [5,6,8,9,54] [28] ?_;refine AW_tt rfl ?_;refine rg0 [2,3,4] [28] ?_;refine AW_ret ?_;simp [D.le,D.le.go,takeMap]
 ·have hlp:lineP s=nameL (wordsT s):=by unfold lineP;rw [if_neg h61]
  rw [hlp];simp only [h61,if_false,decide_false] at hcut
  have hfl:=fields_spec G s (by omega)
  have hwl:=wordsT_len s
  have hwm:=fun x=>wordsT_mem (t:=s) (w:=x)
  generalize hws:wordsT s=ws at hfl hwl hwm h0 ⊢
  obtain ⟨a,l,rfl⟩:∃ a l,ws=a :: l:=List.exists_cons_of_ne_nil h0
  show PureC _ _ _ _ (dLine (nameP (ixW kwN a) l))
  have hix:=hidx kwN a (by decide)
  have hbd:=ixW_bd kwN a
  have hbd2:ixW kwN a < 5:=hbd.2
  generalize ixW kwN a=k at hix hbd2 ⊢
  have hll:((a :: l).length:Int)=(l.length:Int)+1:=by simp
  simp only [dS] at hcut hfl hix ⊢;refine PureC.of_body (tyOf_good _) Tryz.func163 rfl rfl (rs:=[.tmp 2,.tmp 3,.tmp 4]) Tryz.results163 (by simp [Tryz.ntmps163]) fun X=>?_;simp only [Tryz.ntmps163,List.map];refine rg0 [0] [] ?_
  have qf:=@l61
  refine rgcv hcut [5,6,7] [] ?_;refine rgc trivial hfl [5,6,7,8] [] ?_;refine AW_then fun K1 hK1=>?_;refine rg0 [5,6,8,26] [] ?_;refine AW_ff rfl ?_;refine AW_skip (hK1 _ ?_);refine rg [8,14] [106] (fun _ _=>trivial) fun K' hK'=>?_;(repeat (refine sxn fun K2 hK2=>?_;simp;(repeat (refine ⟨by omega,?_⟩));refine hK2 _ ?_;clear hK2 K2));refine sxn fun K2 hK2=>?_;simp;refine callK.lend (hix) (by simp;rfl) (by first | exact D.leGo_refl _ | simp [takeMap,List.map_map,Function.comp_def,D.le,D.le.go,D.le_refl,D.leGo_refl]) (by simp [D.scalar]) ?_;refine hK2 _ ?_;clear hK2 K2;simp only [putd,upd_lst];(repeat (refine sxn fun K2 hK2=>?_;simp;(repeat (refine ⟨by omega,?_⟩));refine hK2 _ ?_;clear hK2 K2));refine sxz (hK' _ (AW.st (by simp;rfl) ?_));clear hK' K';refine AW_then fun K6 hK6=>?_
  by_cases hk:k < 1
  ·have hF:nameP k l = .form:=by
    match l with
    | []=>rfl
    | [b]=>rw [nameP,if_neg (by omega)]
    | [b,c]=>rw [nameP,if_neg (by omega)]
    | b :: c :: d :: l=>rfl
   rw [hF];simp only [dLine]
   have qf:=@hk
   refine rgqv [8,14,120] [106] ?_;refine AW_tt rfl ?_;refine rg0 [2,3,4] [106] ?_;refine AW_ret ?_;simp [D.le,D.le.go,takeMap]
  have hk4:k=1∨k=2∨k=3∨k=4:=by omega
  rcases hk4 with rfl | rfl | rfl | rfl
  ·by_cases hl:l.length=1
   ·obtain ⟨b,rfl⟩:∃ b,l=[b]:=List.length_eq_one_iff.1 hl
    have hF:nameP 1 [b] = .name ⟨b,1,0⟩:=rfl
    have qf:=(Aq @wq0 @wq1)
    refine rgqv [8,14,120] [106] ?_;refine AW_ff rfl ?_;refine AW_skip (hK6 _ ?_);refine rg0 [8,14,15] [106,127] ?_;refine AW_then fun K7 hK7=>?_;refine rg0 [8,15,129] [106,127] ?_;refine AW_ff rfl ?_;refine AW_skip ?_;refine hK7 _ (AW.norm [15] [106,127] (fun _ _=>trivial) (AW.st (by simp;rfl) ?_));refine rg0 [2,3,4] [106,127] ?_;refine AW.imp (Imp.freezeB 127 trivial) ?_;refine AW.st (by simp;rfl) ?_;refine AW_ret ?_;simp [D.le,D.le.go,takeMap,hF,dLine,cNm,dS,D.le_refl,D.leGo_refl]
   ·have hF:nameP 1 l = .form:=by
     match l,hl with
     | [],_=>rfl
     | [b],hl=>simp at hl
     | [b,c],_=>rw [nameP,if_neg (by omega)]
     | b :: c :: d :: l,_=>rfl
    rw [hF];simp only [dLine]
    have hn:¬ (l.length:Int)=1:=by omega
    have hn2:¬ (l.length:Int)+1=2:=by omega
    have qf:=(Aq @hn (Aq @hn2 (Aq @hll (Aq @wq0 @wq1))))
    refine rgqv [8,14,120] [106] ?_;refine AW_tt rfl ?_;refine rg0 [2,3,4] [106] ?_;refine AW_ret ?_;simp [D.le,D.le.go,takeMap]
  ·by_cases hl:l.length=1
   ·obtain ⟨b,rfl⟩:∃ b,l=[b]:=List.length_eq_one_iff.1 hl
    have hF:nameP 2 [b] = .name ⟨b,2,0⟩:=rfl
    have qf:=(Aq @wq0 @wq1)
    refine rgqv [8,14,120] [106] ?_;refine AW_ff rfl ?_;refine AW_skip (hK6 _ ?_);refine rg0 [8,14,15] [106,127] ?_;refine AW_then fun K7 hK7=>?_;refine rg0 [8,15,129] [106,127] ?_;refine AW_ff rfl ?_;refine AW_skip ?_;refine hK7 _ (AW.norm [15] [106,127] (fun _ _=>trivial) (AW.st (by simp;rfl) ?_));refine rg0 [2,3,4] [106,127] ?_;refine AW.imp (Imp.freezeB 127 trivial) ?_;refine AW.st (by simp;rfl) ?_;refine AW_ret ?_;simp [D.le,D.le.go,takeMap,hF,dLine,cNm,dS,D.le_refl,D.leGo_refl]
   ·have hF:nameP 2 l = .form:=by
     match l,hl with
     | [],_=>rfl
     | [b],hl=>simp at hl
     | [b,c],_=>rw [nameP,if_neg (by omega)]
     | b :: c :: d :: l,_=>rfl
    rw [hF];simp only [dLine]
    have hn:¬ (l.length:Int)=1:=by omega
    have hn2:¬ (l.length:Int)+1=2:=by omega
    have qf:=(Aq @hn (Aq @hn2 (Aq @hll (Aq @wq0 @wq1))))
    refine rgqv [8,14,120] [106] ?_;refine AW_tt rfl ?_;refine rg0 [2,3,4] [106] ?_;refine AW_ret ?_;simp [D.le,D.le.go,takeMap]
  ·by_cases hl:l.length=2
   ·obtain ⟨b,c,rfl⟩:∃ b c,l=[b,c]:=by
     match l,hl with
     | [b,c],_=>exact ⟨b,c,rfl⟩
    have hcl:c.length < 2^40:=by have:=(hwm c (by simp)).2;omega
    have hat:=atoi_spec G hE c hcl
    have hnum:nameP 3 [b,c]=(match numF c with | some v=>.name ⟨b,3,v⟩ | none=>.form):=rfl
    unfold numF at hnum
    unfold dNumEnd at hat
    simp only [dS] at hat
    have qf:=(Aq @wq0 @wq1)
    refine rgqv [8,14,120] [106] ?_;refine AW_ff rfl ?_;refine AW_skip (hK6 _ ?_);refine rg0 [8,14,15] [106,127] ?_;refine AW_then fun K7 hK7=>?_;refine rg0 [8,15,129] [106,127] ?_;refine AW_tt rfl ?_
    cases hn:Lib.atoiAll c with
    | ok v=>
     rw [hn] at hat hnum
     dsimp only at hat hnum
     obtain ⟨v0,v1⟩:=Lib.atoiAll_bounds hn
     have hit:=itoa_spec G hP v v0 v1
     simp only [dS] at hit;generalize Lib.itoa v=iv at hit hnum;refine rgc trivial hat [8,15,16,17] [106,127] ?_;refine AW_then fun K8 hK8=>?_
     by_cases hc:iv=c
     ·rw [if_pos hc] at hnum;subst hc;refine AW_rd (tyOf_good _) (by kernel_rfl) [15,16,146] [106,127] (fun _ _=>trivial) (by kernel_rfl) fun K' hK'=>?_;(repeat (refine sxd_next fun K2 hK2=>?_;simp [binS,bs_list];(repeat (refine ⟨by omega,?_⟩));refine hK2 _ ?_;clear hK2 K2));refine sxd_next fun K2 hK2=>?_;simp [binS,bs_list];refine callQ.data (hit) (by simp;rfl) (by simp;rfl) (by first | exact D.leGo_refl _ | simp [takeMap,List.map_map,Function.comp_def,D.le,D.le.go,D.le_refl,D.leGo_refl,binS,bs_list]) ?_;refine hK2 _ ?_;clear hK2 K2;simp only [putd,upd_lst];(repeat (refine sxd_next fun K2 hK2=>?_;simp [binS,bs_list];(repeat (refine ⟨by omega,?_⟩));refine hK2 _ ?_;clear hK2 K2));refine sxd_nil (hK' _ ?_);refine AW.st (by simp [binS,bs_list];rfl) ?_;clear hK' K';refine AW_ff rfl ?_;refine AW_skip (hK8 _ ?_);refine reK trivial hK7 [15] [106,127] ?_;refine rg0 [2,3,4] [106,127] ?_;refine AW.imp (Imp.freezeB 127 trivial) ?_;refine AW.st (by simp;rfl) ?_;refine AW_ret ?_;simp [D.le,D.le.go,takeMap,hnum,dLine,cNm,dS,D.le_refl,D.leGo_refl]
     ·rw [if_neg hc] at hnum;refine AW_rd (tyOf_good _) (by kernel_rfl) [15,16,146] [106,127] (fun _ _=>trivial) (by kernel_rfl) fun K' hK'=>?_;(repeat (refine sxd_next fun K2 hK2=>?_;simp [binS,bs_list,hc];(repeat (refine ⟨by omega,?_⟩));refine hK2 _ ?_;clear hK2 K2));refine sxd_next fun K2 hK2=>?_;simp [binS,bs_list,hc];refine callQ.data (hit) (by simp;rfl) (by simp;rfl) (by first | exact D.leGo_refl _ | simp [takeMap,List.map_map,Function.comp_def,D.le,D.le.go,D.le_refl,D.leGo_refl,binS,bs_list,hc]) ?_;refine hK2 _ ?_;clear hK2 K2;simp only [putd,upd_lst];(repeat (refine sxd_next fun K2 hK2=>?_;simp [binS,bs_list,hc];(repeat (refine ⟨by omega,?_⟩));refine hK2 _ ?_;clear hK2 K2));refine sxd_nil (hK' _ ?_);refine AW.st (by simp [binS,bs_list,hc];rfl) ?_;clear hK' K';refine AW_cond true (by simp [hc]) (fun _=>?_) (fun h=>by cases h);refine rg0 [2,3,4] [106,127] ?_;refine AW_ret ?_;simp [D.le,D.le.go,takeMap,hnum,dLine]
    | range=>
     rw [hn] at hat hnum
     dsimp only [dNumErr] at hat hnum
     refine rgc trivial hat [8,15,16,17] [106,127] ?_;refine AW_then fun K8 hK8=>?_;refine rdq trivial [15,16,146] [106,127] ?_;refine AW_tt rfl ?_;refine rg0 [2,3,4] [106,127] ?_;refine AW_ret ?_;simp [D.le,D.le.go,takeMap,hnum,dLine]
    | _=>
     rw [hn] at hat hnum
     dsimp only [dNumErr] at hat hnum
     refine rgc trivial hat [8,15,16,17] [106,127] ?_;refine AW_then fun K8 hK8=>?_;refine rdq trivial [15,16,146] [106,127] ?_;refine AW_tt rfl ?_;refine rg0 [2,3,4] [106,127] ?_;refine AW_ret ?_;simp [D.le,D.le.go,takeMap,hnum,dLine]
   ·have hF:nameP 3 l = .form:=by
     match l,hl with
     | [],_=>rfl
     | [b],_=>rw [nameP,if_neg (by omega)]
     | [b,c],hl=>simp at hl
     | b :: c :: d :: l,_=>rfl
    rw [hF];simp only [dLine]
    have hn:¬ (l.length:Int)=2:=by omega
    have hn2:¬ (l.length:Int)+1=3:=by omega
    have qf:=(Aq @hn (Aq @hn2 (Aq @hll (Aq @wq0 @wq1))))
    refine rgqv [8,14,120] [106] ?_;refine AW_tt rfl ?_;refine rg0 [2,3,4] [106] ?_;refine AW_ret ?_;simp [D.le,D.le.go,takeMap]
  ·by_cases hl:l.length=2
   ·obtain ⟨b,c,rfl⟩:∃ b c,l=[b,c]:=by
     match l,hl with
     | [b,c],_=>exact ⟨b,c,rfl⟩
    have hcl:c.length < 2^40:=by have:=(hwm c (by simp)).2;omega
    have hat:=atoi_spec G hE c hcl
    have hnum:nameP 4 [b,c]=(match numF c with | some v=>.name ⟨b,4,v⟩ | none=>.form):=rfl
    unfold numF at hnum
    unfold dNumEnd at hat
    simp only [dS] at hat
    have qf:=(Aq @wq0 @wq1)
    refine rgqv [8,14,120] [106] ?_;refine AW_ff rfl ?_;refine AW_skip (hK6 _ ?_);refine rg0 [8,14,15] [106,127] ?_;refine AW_then fun K7 hK7=>?_;refine rg0 [8,15,129] [106,127] ?_;refine AW_tt rfl ?_
    cases hn:Lib.atoiAll c with
    | ok v=>
     rw [hn] at hat hnum
     dsimp only at hat hnum
     obtain ⟨v0,v1⟩:=Lib.atoiAll_bounds hn
     have hit:=itoa_spec G hP v v0 v1
     simp only [dS] at hit;generalize Lib.itoa v=iv at hit hnum;refine rgc trivial hat [8,15,16,17] [106,127] ?_;refine AW_then fun K8 hK8=>?_
     by_cases hc:iv=c
     ·rw [if_pos hc] at hnum;subst hc;refine AW_rd (tyOf_good _) (by kernel_rfl) [15,16,146] [106,127] (fun _ _=>trivial) (by kernel_rfl) fun K' hK'=>?_;(repeat (refine sxd_next fun K2 hK2=>?_;simp [binS,bs_list];(repeat (refine ⟨by omega,?_⟩));refine hK2 _ ?_;clear hK2 K2));refine sxd_next fun K2 hK2=>?_;simp [binS,bs_list];refine callQ.data (hit) (by simp;rfl) (by simp;rfl) (by first | exact D.leGo_refl _ | simp [takeMap,List.map_map,Function.comp_def,D.le,D.le.go,D.le_refl,D.leGo_refl,binS,bs_list]) ?_;refine hK2 _ ?_;clear hK2 K2;simp only [putd,upd_lst];(repeat (refine sxd_next fun K2 hK2=>?_;simp [binS,bs_list];(repeat (refine ⟨by omega,?_⟩));refine hK2 _ ?_;clear hK2 K2));refine sxd_nil (hK' _ ?_);refine AW.st (by simp [binS,bs_list];rfl) ?_;clear hK' K';refine AW_ff rfl ?_;refine AW_skip (hK8 _ ?_);refine reK trivial hK7 [15] [106,127] ?_;refine rg0 [2,3,4] [106,127] ?_;refine AW.imp (Imp.freezeB 127 trivial) ?_;refine AW.st (by simp;rfl) ?_;refine AW_ret ?_;simp [D.le,D.le.go,takeMap,hnum,dLine,cNm,dS,D.le_refl,D.leGo_refl]
     ·rw [if_neg hc] at hnum;refine AW_rd (tyOf_good _) (by kernel_rfl) [15,16,146] [106,127] (fun _ _=>trivial) (by kernel_rfl) fun K' hK'=>?_;(repeat (refine sxd_next fun K2 hK2=>?_;simp [binS,bs_list,hc];(repeat (refine ⟨by omega,?_⟩));refine hK2 _ ?_;clear hK2 K2));refine sxd_next fun K2 hK2=>?_;simp [binS,bs_list,hc];refine callQ.data (hit) (by simp;rfl) (by simp;rfl) (by first | exact D.leGo_refl _ | simp [takeMap,List.map_map,Function.comp_def,D.le,D.le.go,D.le_refl,D.leGo_refl,binS,bs_list,hc]) ?_;refine hK2 _ ?_;clear hK2 K2;simp only [putd,upd_lst];(repeat (refine sxd_next fun K2 hK2=>?_;simp [binS,bs_list,hc];(repeat (refine ⟨by omega,?_⟩));refine hK2 _ ?_;clear hK2 K2));refine sxd_nil (hK' _ ?_);refine AW.st (by simp [binS,bs_list,hc];rfl) ?_;clear hK' K';refine AW_cond true (by simp [hc]) (fun _=>?_) (fun h=>by cases h);refine rg0 [2,3,4] [106,127] ?_;refine AW_ret ?_;simp [D.le,D.le.go,takeMap,hnum,dLine]
    | range=>
     rw [hn] at hat hnum
     dsimp only [dNumErr] at hat hnum
     refine rgc trivial hat [8,15,16,17] [106,127] ?_;refine AW_then fun K8 hK8=>?_;refine rdq trivial [15,16,146] [106,127] ?_;refine AW_tt rfl ?_;refine rg0 [2,3,4] [106,127] ?_;refine AW_ret ?_;simp [D.le,D.le.go,takeMap,hnum,dLine]
    | _=>
     rw [hn] at hat hnum
     dsimp only [dNumErr] at hat hnum
     refine rgc trivial hat [8,15,16,17] [106,127] ?_;refine AW_then fun K8 hK8=>?_;refine rdq trivial [15,16,146] [106,127] ?_;refine AW_tt rfl ?_;refine rg0 [2,3,4] [106,127] ?_;refine AW_ret ?_;simp [D.le,D.le.go,takeMap,hnum,dLine]
   ·have hF:nameP 4 l = .form:=by
     match l,hl with
     | [],_=>rfl
     | [b],_=>rw [nameP,if_neg (by omega)]
     | [b,c],hl=>simp at hl
     | b :: c :: d :: l,_=>rfl
    rw [hF];simp only [dLine]
    have hn:¬ (l.length:Int)=2:=by omega
    have hn2:¬ (l.length:Int)+1=3:=by omega
    have qf:=(Aq @hn (Aq @hn2 (Aq @hll (Aq @wq0 @wq1))))
    refine rgqv [8,14,120] [106] ?_;refine AW_tt rfl ?_;refine rg0 [2,3,4] [106] ?_;refine AW_ret ?_;simp [D.le,D.le.go,takeMap]
end Go.Proofs.YtpboiimemmfkiaaGreatDoor
