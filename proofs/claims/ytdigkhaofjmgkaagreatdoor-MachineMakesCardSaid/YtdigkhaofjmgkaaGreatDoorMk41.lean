/-
  Texts that belong together,in one file: LB3,LN,Av36.
-/
import Derived.Test.YtdigkhaofjmgkaaGreatDoorMk35
import Derived.Test.YtdigkhaofjmgkaaGreatDoorMk36
import Derived.Test.YtdigkhaofjmgkaaGreatDoorMk37
import Derived.Test.YtdigkhaofjmgkaaGreatDoorMk38
import Derived.Test.YtdigkhaofjmgkaaGreatDoorMk39
import Derived.Test.YtdigkhaofjmgkaaGreatDoorMk40
import Derived.Lib.ParseIntBTie
set_option linter.unusedSectionVars false
set_option linter.unusedSimpArgs false
set_option linter.unusedVariables false
namespace Go.Proofs.YtdigkhaofjmgkaaGreatDoor
open Go.Av Go.Shelf Go.RowKit
def nS (G:ao):Prop:=G 7=some (.tab (Lib.pow10Tab.map fun z=>Value.int .u64 z).toArray)
def uN (v:Value):Prop:=v = .nilIface\/∃ te pe,v = .iface te pe
def o4 (G:ao) (es er:Value):Prop:=(G 5=some (.ip [.v es])/\uN es)/\G 6=some (.ip [.v er])/\uN er
theorem aeA {G:ao} {g:Nat} {v:Value} {w:World} {X:Nat->Prop} (hm:G g=some (.ip [.v v])) (b8:∀ g x,G g=some x->RD w X (.pointer (some ⟨g,0,none⟩)) x):w.cell? ⟨g,0,none⟩=some v:=by
 obtain ⟨b',off,f,hp,_,_,aaB,hr⟩:=(b8 _ _ hm).acF;have h0:=aaB 0 (by simp);have h1:=(hr 0 _ rfl).scalar;rw [h1] at h0;injection hp with hp;injection hp with hp;injection hp with gv eZ _;subst gv eZ;exact h0
theorem Jl {G:ao} (h:nS G) {w:World} {X:Nat->Prop} (b8:∀ g x,G g=some x->RD w X (.pointer (some ⟨g,0,none⟩)) x):Lib.TabIs Tryz.prog w "internal/strconv.uint64pow10" .u64 Lib.pow10Tab:=by
 have h1:=b8 _ _ h
 obtain ⟨ty,fr,hh⟩:∃ ty fr,w.heap[7]? = some (.cells (Lib.pow10Tab.map fun z=>Value.int .u64 z).toArray ty fr):=by
  generalize hy:D.tab _=y at h1;cases h1<;>cases hy;exact ⟨_,_,by assumption⟩
 unfold Lib.TabIs World.var?;rw [show Tryz.prog.globalNamed "internal/strconv.uint64pow10" = some 7 by kernel_rfl];simp only [Option.bind_some,hh]
theorem Gx (w:World) (os:Array Obj):bU w (Go.Sort.grow w os):=⟨by simp [Go.Sort.grow],rfl,rfl,rfl,fun b hb=>by simp [Go.Sort.grow,Array.getElem?_append_left hb]⟩
theorem bU.trans' {w w1 w2:World} (h:bU w w1) (h2:bU w1 w2):bU w w2:=⟨Nat.le_trans h.size h2.size,h2.os.trans h.os,h2.tape.trans h.tape,h2.output.trans h.output,fun b hb=>(h2.same b (Nat.lt_of_lt_of_le hb h.size)).trans (h.same b hb)⟩
theorem Ih (G:ao) (hP:nS G) (n:Int) (h0:-9223372036854775808<=n) (h1:n<=9223372036854775807):aw Tryz.prog G 177 [.v (.int .i64 n)] (dS (Lib.itoa n)):=by
 refine aw.mM (eU.of Tryz.func177 rfl rfl) fun X w vs aI bz b8=>?_
 obtain ⟨u,rfl⟩:∃ u,vs = #[u]:=by
  match vs,aI with
  | ⟨[u]⟩,_=>exact ⟨u,rfl⟩
 have hu:=(bz 0 u _ rfl rfl).scalar;subst hu;refine (Any.strconv_Itoa Tryz.R5 n h0 h1 w (Jl hP b8)).mono fun e w' ⟨he,k,os,hw⟩=>⟨_,he,by rw [hw];exact bU.trans' (xM w k) (Gx _ _),.v _⟩
theorem Og (G:ao) (hP:nS G) (n:Int) (h0:-9223372036854775808<=n) (h1:n<=9223372036854775807):aw Tryz.prog G 162 [.v (.int .i64 n),.v (.int .i64 10)] (dS (Lib.itoa n)):=by
 refine aw.mM (eU.of Tryz.func162 rfl rfl) fun X w vs aI bz b8=>?_
 obtain ⟨u,v,rfl⟩:∃ u v,vs = #[u,v]:=by
  match vs,aI with
  | ⟨[u,v]⟩,_=>exact ⟨u,v,rfl⟩
 have hu:=(bz 0 u _ rfl rfl).scalar;have hv:=(bz 1 v _ rfl rfl).scalar;subst hu hv;refine (Any.strconv_FormatInt_10 Tryz.R8 n h0 h1 w (Jl hP b8)).mono fun e w' ⟨he,k,os,hw⟩=>⟨_,he,by rw [hw];exact bU.trans' (xM w k) (Gx _ _),.v _⟩
def n7 (f s:Tx) (ev:Value):D:=.br 339 (.ip [dS f,dS s,.v ev])
def qx (f s:Tx) (es er:Value):D:=match Lib.atoiAll s with
 | .ok v=>.Z4 [.v (.int .i64 v),.v .nilIface]
 | .range=>.Z4 [.v (.int .i64 (Lib.atoiSat s)),n7 f s er]
 | _=>.Z4 [.v (.int .i64 0),n7 f s es]
theorem zH {w:World} {X:Nat->Prop} (v:Int):RD w X (.tuple #[.int .i64 v,.nilIface]) (.Z4 [.v (.int .i64 v),.v .nilIface]):=.Z4 rfl fun j u c hu hc=>by
 match j,hu,hc with
 | 0,hu,hc=>simp at hu hc;subst hu hc;exact .v _
 | 1,hu,hc=>simp at hu hc;subst hu hc;exact .v _
 | j+2,hu,hc=>simp at hu
theorem zG {w w':World} {X:Nat->Prop} (ic:∀ b,X b->b < w.heap.size) {v:Int} {f s:Tx} {ev:Value} {N:Nat} {T:TypeId} (hN:w.heap.size<=N) (hc:w'.heap[N]? = some (.cells #[.string (bs f),.string (bs s),ev] T (0,0))) :
  RD w' X (.tuple #[.int .i64 v,.iface 339 (.pointer (some ⟨N,0,none⟩))]) (.Z4 [.v (.int .i64 v),n7 f s ev]):=by
 have aaB:∀ j,w'.cell? ⟨N,j,none⟩=(#[.string (bs f),.string (bs s),ev]:Array Value)[j]?:=fun j=>by simp [World.cell?,hc]
 refine .Z4 rfl fun j u c hu hx=>?_
 match j,hu,hx with
 | 0,hu,hx=>simp at hu hx;subst hu hx;exact .v _
 | 1,hu,hx=>
  simp at hu hx;subst hu hx;refine .br (.ip (f:=fun j=>(w'.cell? ⟨N,j,none⟩).getD undef) (fun hx=>by have:=ic _ hx;omega) (Array.getElem?_eq_some_iff.1 hc).1 (fun j hj=>?_) fun j c fE=>?_)
  .have Qe:j < 3:=by simpa using hj
   rw [Nat.zero_add,aaB]
   match j,Qe with
   | 0,_=>rfl
   | 1,_=>rfl
   | 2,_=>rfl
  .rw [aaB]
   match j,fE with
   | 0,fE=>simp at fE;subst fE;exact .v _
   | 1,fE=>simp at fE;subst fE;exact .v _
   | 2,fE=>simp at fE;subst fE;exact .v _
   | j+3,fE=>simp at fE
 | j+2,hu,hx=>simp at hu
theorem FK (w:World) (e:TypeId) (s:ByteArray):bU w (Lib.bytesWorld w e s):=qq (Lib.bytesWorld_below w e s)
def Mq:Tx:=[65,116,111,105]
def U1:Tx:=[80,97,114,115,101,73,110,116]
theorem FD (G:ao) {es er:Value} (hE:o4 G es er) (s:Tx) (hs:s.length < 2^40):aw Tryz.prog G 176 [dS s] (qx Mq s es er):=by
 obtain ⟨⟨h1,Bw⟩,h2,Bz⟩:=hE;refine zv (eU.of Tryz.func176 rfl rfl) fun X w vs ic aI bz b8=>?_
 obtain ⟨u,rfl⟩:∃ u,vs = #[u]:=by
  match vs,aI with
  | ⟨[u]⟩,_=>exact ⟨u,rfl⟩
 have hu:=(bz 0 u _ rfl rfl).scalar;subst hu
 have CX:(bs s).size < 2^40:=by rw [bh];exact hs
 unfold qx
 cases hn:Lib.atoiAll s with
 | ok v=>
  refine (Any.strconv_Atoi_ok Tryz.Dx (bs s) (by omega) v hn w).mono fun e w' ⟨he,hw⟩=>⟨_,he,?_,zH v⟩
  rcases hw with rfl | ⟨t,rfl⟩
  .exact bU.refl _
  .exact FK _ _ _
 | range=>
  refine (Any.strconv_Atoi_range Tryz.Dx (bs s) (by omega) hn er w (aeA h2 b8) Bz).mono fun e w' ⟨N,he,hN,hc,hB⟩=>⟨_,he,qq hB,zG ic hN hc⟩
 | _=>
  refine (Any.strconv_Atoi_syntax Tryz.Dx (bs s) (by omega) hn es w (aeA h1 b8) Bw).mono fun e w' ⟨N,he,hN,hc,hB⟩=>⟨_,he,qq hB,zG ic hN hc⟩
theorem U2 (G:ao) {es er:Value} (hE:o4 G es er) (s:Tx) (hs:s.length < 2^40):aw Tryz.prog G 161 [dS s,.v (.int .i64 10),.v (.int .i64 64)] (qx U1 s es er):=by
 obtain ⟨⟨h1,Bw⟩,h2,Bz⟩:=hE;refine zv (eU.of Tryz.func161 rfl rfl) fun X w vs ic aI bz b8=>?_
 obtain ⟨u,v1,v2,rfl⟩:∃ u v1 v2,vs = #[u,v1,v2]:=by
  match vs,aI with
  | ⟨[u,v1,v2]⟩,_=>exact ⟨u,v1,v2,rfl⟩
 have hu:=(bz 0 u _ rfl rfl).scalar;have gg:=(bz 1 v1 _ rfl rfl).scalar;have hv2:=(bz 2 v2 _ rfl rfl).scalar;subst hu gg hv2
 have CX:(bs s).size < 2^40:=by rw [bh];exact hs
 have Bi:Lib.parseIntB 64 (bs s).data.toList=Lib.atoiAll s:=by rw [aao];exact Lib.parseIntB_64 s
 unfold qx
 cases hn:Lib.atoiAll s with
 | ok v=>
  refine (Any.strconv_ParseInt_10_at64_ok Tryz.Dy (bs s) (by omega) v (Bi.trans hn) w).mono fun e w' ⟨he,hw⟩=>⟨_,he,?_,zH v⟩
  rcases hw with rfl | ⟨t,rfl⟩
  .exact bU.refl _
  .exact FK _ _ _
 | range=>
  refine (Any.strconv_ParseInt_10_at64_range Tryz.Dy (bs s) (by omega) (Bi.trans hn) er w (aeA h2 b8) Bz).mono fun e w' ⟨N,he,hN,hc,hB⟩=>⟨_,by rw [aao,Lib.intSat_64] at he;exact he,qq hB,zG ic hN hc⟩
 | _=>
  refine (Any.strconv_ParseInt_10_at64_syntax Tryz.Dy (bs s) (by omega) (Bi.trans hn) es w (aeA h1 b8) Bw).mono fun e w' ⟨N,he,hN,hc,hB⟩=>⟨_,he,qq hB,zG ic hN hc⟩
end Go.Proofs.YtdigkhaofjmgkaaGreatDoor
namespace Go.Proofs.YtdigkhaofjmgkaaGreatDoor
open Go.Av
def b7:mg->D
 | .form=>.Z4 [.v (.pointer none),.v (.pointer none),.br 40 (.v (.int .i64 3))]
 | .bad c off=>.Z4 [.v (.pointer none),.v (.pointer none),.br 213 (.ip [.v (.int .i64 c),.v (.int .i64 off)])]
 | .name n=>.Z4 [.ip (Z3 n),.v (.pointer none),.v .nilIface]
 | .kX r=>.Z4 [.v (.pointer none),.ip (cg r),.v .nilIface]
theorem Rh (l:List Tx) (s:Tx):idx (fun x=>s == x) l=gN l s:=by
 unfold gN;congr 1;funext x;by_cases h:s=x
 .subst h;simp
 .have h2:x≠s:=fun e=>h e.symm;rw [beq_eq_false_iff_ne.2 h,beq_eq_false_iff_ne.2 h2]
theorem aeJ (l:List Tx) (s:Tx):-1<=gN l s/\gN l s < l.length:=by
 by_cases h:gN l s < 0
 .unfold gN idx at h ⊢
  cases hf:l.findIdx? (fun x=>x == s) with
  | none=>simp;omega
  | some k=>rw [hf] at h;simp at h;omega
 .obtain ⟨k,hk,he,_⟩:=oS h;have ia:gN l s=(k:Int):=he;omega
theorem Nn (c:Option Ex):mW c=dC c:=by cases c<;>rfl
theorem nw:(⟨#[61]⟩:ByteArray)=bs [61]:=rfl
theorem wq0:IntKind.i64.wrap 0=0:=by decide
theorem wq1:IntKind.i64.wrap 1=1:=by decide
set_option maxRecDepth 100000 in
set_option maxHeartbeats 16000000 in
theorem afT (G:ao) (hM:abJ G) (hP:nS G) (hG:mf G) {es er:Value} (hE:o4 G es er) (s:Tx) (hs:s.length<=20000) (h0:fe s≠[]):aw Tryz.prog G 122 [dS s] (b7 (eO s)):=by
 have jT:=Ww G hM s 61 (by omega);have yu:=fun (ws:List Tx) (x:Tx) (h:ws.length < 2^60)=>index_spec G none ws x h;simp only [Rh] at yu;by_cases h61:(61:UInt8)∈s
 .have hle:=xJ 61 s
  have iD:eO s=lE (cutAt 61 s).1 (cutAt 61 s).2 (fe (cutAt 61 s).1):=by unfold eO;rw [if_pos h61]
  rw [iD];simp only [h61,if_true,decide_true] at jT;generalize (cutAt 61 s).1=hd at jT hle ⊢;generalize (cutAt 61 s).2=rest at jT hle ⊢;have dH:=Gp G hd (by omega);have jh:=Ao hd;generalize pN:fe hd=ws at dH jh ⊢;have hps:=U6 G rest (by omega);rw [Nn] at hps;have ik:=Xj G hG (aba rest).2;have hR:∀ k nm,jm k nm hd rest=(match (aba rest).2 with | some (c,o)=>.bad c (hd.length+1+o.getD 0) | none=>.kX ⟨k,nm,(aba rest).1⟩):=fun _ _=>rfl;simp only [dS] at jT dH hps ⊢
  match ws,dH,jh with
  | [],dH,jh=>
   show aw _ _ _ _ (b7 .form);simp only [b7];refine aw.aD (ZZ _) Tryz.func122 rfl rfl (rs:=[.tmp 2,.tmp 3,.tmp 4]) Tryz.results122 (by simp [Tryz.ntmps122]) fun X=>?_;simp only [Tryz.ntmps122,List.map];refine aq [0] [] ?_;have qf:=@nw;refine aaF jT [5,6,7] [] ?_;refine Z6 trivial dH [5,6,7,8] [] ?_;refine ae fun K1 ay=>?_;refine aq [5,6,8,26] [] ?_;refine ak rfl ?_;refine aq [5,6,8,9] [28] ?_;refine ae fun K2 aa=>?_;refine aq [5,6,8,9,31] [28] ?_;refine ag rfl ?_;refine ah ?_;refine aa _ (AW.norm [5,6,8,9] [28] (fun _ _=>trivial) (AW.st (by simp;rfl) ?_));refine ae fun K3 aQ=>?_;refine aq [5,6,8,9,54] [28] ?_;refine ak rfl ?_;refine aq [2,3,4] [28] ?_;exact gm
  | [a],dH,jh=>
   show aw _ _ _ _ (b7 (jm 1 a hd rest));rw [hR];have hsome:=fun h=>wN (t:=rest) h;have hat:=fun c o h=>wM (t:=rest) (c:=c) (p:=o) h;generalize (aba rest).1=oe at hps hsome ⊢;generalize (aba rest).2=oc at hps ik hsome hat ⊢
   match oc,hps,ik,hsome,hat with
   | some (c,some o),hps,ik,_,hat=>
    have CJ:=hat c o rfl
    have hcast:((hd.length+1+o:Nat):Int)=(hd.length:Int)+1+o:=by omega
    simp only [Z5] at hps;simp only [b7,Option.getD_some];refine aw.aD (ZZ _) Tryz.func122 rfl rfl (rs:=[.tmp 2,.tmp 3,.tmp 4]) Tryz.results122 (by simp [Tryz.ntmps122]) fun X=>?_;simp only [Tryz.ntmps122,List.map];refine aq [0] [] ?_;have qf:=@nw;refine aaF jT [5,6,7] [] ?_;refine Z6 trivial dH [5,6,7,8] [] ?_;refine ae fun K1 ay=>?_;refine aq [5,6,8,26] [] ?_;refine ak rfl ?_;refine aq [5,6,8,9] [28] ?_;refine ae fun K2 aa=>?_;refine aq [5,6,8,9,31] [28] ?_;refine ag rfl ?_;refine ah ?_;refine aa _ (AW.norm [5,6,8,9] [28] (fun _ _=>trivial) (AW.st (by simp;rfl) ?_));refine ae fun K3 aQ=>?_;refine aq [5,6,8,9,54] [28] ?_;refine ag rfl ?_;refine ah (aQ _ ?_);refine aq [5,6,9] [28] ?_;refine Z6 trivial hps [5,9,10,11] [28] ?_;refine ae fun K4 bN=>?_;refine ZW (Aq @bl.eq_1 (Aq @bl.eq_2 @aai.eq_1)) [5,9,10,11,12,13] [28] ?_;refine aq [5,9,10,11,12,75] [28] ?_;refine ak rfl ?_;have qf:=@bh;refine fP [2,3,4] [28,89] ?_;refine dX 89 ?_;exact aK @hcast
   | some (c,none),hps,ik,_,_=>
    have hcast:((hd.length+1:Nat):Int)=(hd.length:Int)+1:=by omega
    simp only [Z5,codeF] at hps ik;simp only [b7,Option.getD_none,Nat.add_zero];refine aw.aD (ZZ _) Tryz.func122 rfl rfl (rs:=[.tmp 2,.tmp 3,.tmp 4]) Tryz.results122 (by simp [Tryz.ntmps122]) fun X=>?_;simp only [Tryz.ntmps122,List.map];refine aq [0] [] ?_;have qf:=@nw;refine aaF jT [5,6,7] [] ?_;refine Z6 trivial dH [5,6,7,8] [] ?_;refine ae fun K1 ay=>?_;refine aq [5,6,8,26] [] ?_;refine ak rfl ?_;refine aq [5,6,8,9] [28] ?_;refine ae fun K2 aa=>?_;refine aq [5,6,8,9,31] [28] ?_;refine ag rfl ?_;refine ah ?_;refine aa _ (AW.norm [5,6,8,9] [28] (fun _ _=>trivial) (AW.st (by simp;rfl) ?_));refine ae fun K3 aQ=>?_;refine aq [5,6,8,9,54] [28] ?_;refine ag rfl ?_;refine ah (aQ _ ?_);refine aq [5,6,9] [28] ?_;refine Z6 trivial hps [5,9,10,11] [28] ?_;refine ae fun K4 bN=>?_;refine ZW (Aq @bl.eq_1 (Aq @bl.eq_2 @aai.eq_1)) [5,9,10,11,12,13] [28] ?_;refine aq [5,9,10,11,12,75] [28] ?_;refine ag rfl ?_;refine ah (bN _ ?_);refine ae fun K5 hK5=>?_;refine aq [5,9,10,11,92] [28] ?_;refine ak rfl ?_;have qf:=@bh;refine aaF ik [2,3,4] [28,99] ?_;refine dX 99 ?_;exact aK @hcast
   | none,hps,ik,hsome,_=>
    obtain ⟨e,rfl⟩:=hsome rfl;obtain ⟨ta,ca,lX⟩:=abq e;simp only [dC,lX,Z5] at hps;simp only [b7,cg,dC,lX,dS];refine aw.aD (ZZ _) Tryz.func122 rfl rfl (rs:=[.tmp 2,.tmp 3,.tmp 4]) Tryz.results122 (by simp [Tryz.ntmps122]) fun X=>?_;simp only [Tryz.ntmps122,List.map];refine aq [0] [] ?_;have qf:=@nw;refine aaF jT [5,6,7] [] ?_;refine Z6 trivial dH [5,6,7,8] [] ?_;refine ae fun K1 ay=>?_;refine aq [5,6,8,26] [] ?_;refine ak rfl ?_;refine aq [5,6,8,9] [28] ?_;refine ae fun K2 aa=>?_;refine aq [5,6,8,9,31] [28] ?_;refine ag rfl ?_;refine ah ?_;refine aa _ (AW.norm [5,6,8,9] [28] (fun _ _=>trivial) (AW.st (by simp;rfl) ?_));refine ae fun K3 aQ=>?_;refine aq [5,6,8,9,54] [28] ?_;refine ag rfl ?_;refine ah (aQ _ ?_);refine aq [5,6,9] [28] ?_;refine Z6 trivial hps [5,9,10,11] [28] ?_;refine ae fun K4 bN=>?_;refine ZW (Aq @bl.eq_1 (Aq @bl.eq_2 @aai.eq_1)) [5,9,10,11,12,13] [28] ?_;refine aq [5,9,10,11,12,75] [28] ?_;refine ag rfl ?_;refine ah (bN _ ?_);refine ae fun K5 hK5=>?_;refine aq [5,9,10,11,92] [28] ?_;refine ag rfl ?_;refine ah (hK5 _ ?_);refine aq [9] [28] ?_;refine aq [2,3,4] [28] ?_;refine dX 28 ?_;exact gm
  | [a,b],dH,jh=>
   have eL:=yu kwR a (by decide);simp only [dS] at eL;show aw _ _ _ _ (b7 (if gN kwR a < 2 then .form else jm (gN kwR a) b hd rest));have kI:=aeJ kwR a;generalize gN kwR a=k at eL kI ⊢;have G6:k < 7:=kI.2;by_cases hk:k < 2
   .rw [if_pos hk];simp only [b7];refine aw.aD (ZZ _) Tryz.func122 rfl rfl (rs:=[.tmp 2,.tmp 3,.tmp 4]) Tryz.results122 (by simp [Tryz.ntmps122]) fun X=>?_;simp only [Tryz.ntmps122,List.map];refine aq [0] [] ?_;have qf:=@nw;refine aaF jT [5,6,7] [] ?_;refine Z6 trivial dH [5,6,7,8] [] ?_;refine ae fun K1 ay=>?_;refine aq [5,6,8,26] [] ?_;refine ak rfl ?_;refine aq [5,6,8,9] [28] ?_;refine ae fun K2 aa=>?_;refine aq [5,6,8,9,31] [28] ?_;refine ak rfl ?_;refine aaG (ZZ _) fun K' af=>?_;(repeat (refine Z0 fun K2 aa=>?_;simp;(repeat (refine ⟨by omega,?_⟩));refine aa _ ?_;clear aa K2));refine Z0 fun K2 aa=>?_;simp;refine aap.l3 (eL) (by simp;rfl) (by first | exact D.bn _ | simp [aB,List.map_map,Function.comp_def,D.le,D.le.go,D.le_refl,D.bn]) (by simp [D.scalar]) ?_;refine aa _ ?_;clear aa K2;simp only [Z2,dk];(repeat (refine Z0 fun K2 aa=>?_;simp;(repeat (refine ⟨by omega,?_⟩));refine aa _ ?_;clear aa K2));refine Z9 (af _ ?_);clear af K';refine aa _ (AW.norm [5,6,8,9] [28,33] (fun _ _=>trivial) (AW.st (by simp;rfl) ?_));refine ae fun K3 aQ=>?_;have qf:=@hk;refine al [5,6,8,9,54] [28,33] ?_;refine ak rfl ?_;refine aq [2,3,4] [28,33] ?_;exact gm
   rw [if_neg hk];rw [hR];have hsome:=fun h=>wN (t:=rest) h;have hat:=fun c o h=>wM (t:=rest) (c:=c) (p:=o) h;generalize (aba rest).1=oe at hps hsome ⊢;generalize (aba rest).2=oc at hps ik hsome hat ⊢
   match oc,hps,ik,hsome,hat with
   | some (c,some o),hps,ik,_,hat=>
    have CJ:=hat c o rfl
    have hcast:((hd.length+1+o:Nat):Int)=(hd.length:Int)+1+o:=by omega
    simp only [Z5] at hps;simp only [b7,Option.getD_some];refine aw.aD (ZZ _) Tryz.func122 rfl rfl (rs:=[.tmp 2,.tmp 3,.tmp 4]) Tryz.results122 (by simp [Tryz.ntmps122]) fun X=>?_;simp only [Tryz.ntmps122,List.map];refine aq [0] [] ?_;have qf:=@nw;refine aaF jT [5,6,7] [] ?_;refine Z6 trivial dH [5,6,7,8] [] ?_;refine ae fun K1 ay=>?_;refine aq [5,6,8,26] [] ?_;refine ak rfl ?_;refine aq [5,6,8,9] [28] ?_;refine ae fun K2 aa=>?_;refine aq [5,6,8,9,31] [28] ?_;refine ak rfl ?_;refine aaG (ZZ _) fun K' af=>?_;(repeat (refine Z0 fun K2 aa=>?_;simp;(repeat (refine ⟨by omega,?_⟩));refine aa _ ?_;clear aa K2));refine Z0 fun K2 aa=>?_;simp;refine aap.l3 (eL) (by simp;rfl) (by first | exact D.bn _ | simp [aB,List.map_map,Function.comp_def,D.le,D.le.go,D.le_refl,D.bn]) (by simp [D.scalar]) ?_;refine aa _ ?_;clear aa K2;simp only [Z2,dk];(repeat (refine Z0 fun K2 aa=>?_;simp;(repeat (refine ⟨by omega,?_⟩));refine aa _ ?_;clear aa K2));refine Z9 (af _ ?_);clear af K';refine aa _ (AW.norm [5,6,8,9] [28,33] (fun _ _=>trivial) (AW.st (by simp;rfl) ?_));refine ae fun K3 aQ=>?_;have qf:=@hk;refine al [5,6,8,9,54] [28,33] ?_;refine ag rfl ?_;refine ah (aQ _ ?_);refine aq [5,6,9] [28,33] ?_;refine Z6 trivial hps [5,9,10,11] [28,33] ?_;refine ae fun K4 bN=>?_;refine ZW (Aq @bl.eq_1 (Aq @bl.eq_2 @aai.eq_1)) [5,9,10,11,12,13] [28,33] ?_;refine aq [5,9,10,11,12,75] [28,33] ?_;refine ak rfl ?_;have qf:=@bh;refine fP [2,3,4] [28,33,89] ?_;refine dX 89 ?_;exact aK @hcast
   | some (c,none),hps,ik,_,_=>
    have hcast:((hd.length+1:Nat):Int)=(hd.length:Int)+1:=by omega
    simp only [Z5,codeF] at hps ik;simp only [b7,Option.getD_none,Nat.add_zero];refine aw.aD (ZZ _) Tryz.func122 rfl rfl (rs:=[.tmp 2,.tmp 3,.tmp 4]) Tryz.results122 (by simp [Tryz.ntmps122]) fun X=>?_;simp only [Tryz.ntmps122,List.map];refine aq [0] [] ?_;have qf:=@nw;refine aaF jT [5,6,7] [] ?_;refine Z6 trivial dH [5,6,7,8] [] ?_;refine ae fun K1 ay=>?_;refine aq [5,6,8,26] [] ?_;refine ak rfl ?_;refine aq [5,6,8,9] [28] ?_;refine ae fun K2 aa=>?_;refine aq [5,6,8,9,31] [28] ?_;refine ak rfl ?_;refine aaG (ZZ _) fun K' af=>?_;(repeat (refine Z0 fun K2 aa=>?_;simp;(repeat (refine ⟨by omega,?_⟩));refine aa _ ?_;clear aa K2));refine Z0 fun K2 aa=>?_;simp;refine aap.l3 (eL) (by simp;rfl) (by first | exact D.bn _ | simp [aB,List.map_map,Function.comp_def,D.le,D.le.go,D.le_refl,D.bn]) (by simp [D.scalar]) ?_;refine aa _ ?_;clear aa K2;simp only [Z2,dk];(repeat (refine Z0 fun K2 aa=>?_;simp;(repeat (refine ⟨by omega,?_⟩));refine aa _ ?_;clear aa K2));refine Z9 (af _ ?_);clear af K';refine aa _ (AW.norm [5,6,8,9] [28,33] (fun _ _=>trivial) (AW.st (by simp;rfl) ?_));refine ae fun K3 aQ=>?_;have qf:=@hk;refine al [5,6,8,9,54] [28,33] ?_;refine ag rfl ?_;refine ah (aQ _ ?_);refine aq [5,6,9] [28,33] ?_;refine Z6 trivial hps [5,9,10,11] [28,33] ?_;refine ae fun K4 bN=>?_;refine ZW (Aq @bl.eq_1 (Aq @bl.eq_2 @aai.eq_1)) [5,9,10,11,12,13] [28,33] ?_;refine aq [5,9,10,11,12,75] [28,33] ?_;refine ag rfl ?_;refine ah (bN _ ?_);refine ae fun K5 hK5=>?_;refine aq [5,9,10,11,92] [28,33] ?_;refine ak rfl ?_;have qf:=@bh;refine aaF ik [2,3,4] [28,33,99] ?_;refine dX 99 ?_;exact aK @hcast
   | none,hps,ik,hsome,_=>
    obtain ⟨e,rfl⟩:=hsome rfl;obtain ⟨ta,ca,lX⟩:=abq e;simp only [dC,lX,Z5] at hps;simp only [b7,cg,dC,lX,dS];refine aw.aD (ZZ _) Tryz.func122 rfl rfl (rs:=[.tmp 2,.tmp 3,.tmp 4]) Tryz.results122 (by simp [Tryz.ntmps122]) fun X=>?_;simp only [Tryz.ntmps122,List.map];refine aq [0] [] ?_;have qf:=@nw;refine aaF jT [5,6,7] [] ?_;refine Z6 trivial dH [5,6,7,8] [] ?_;refine ae fun K1 ay=>?_;refine aq [5,6,8,26] [] ?_;refine ak rfl ?_;refine aq [5,6,8,9] [28] ?_;refine ae fun K2 aa=>?_;refine aq [5,6,8,9,31] [28] ?_;refine ak rfl ?_;refine aaG (ZZ _) fun K' af=>?_;(repeat (refine Z0 fun K2 aa=>?_;simp;(repeat (refine ⟨by omega,?_⟩));refine aa _ ?_;clear aa K2));refine Z0 fun K2 aa=>?_;simp;refine aap.l3 (eL) (by simp;rfl) (by first | exact D.bn _ | simp [aB,List.map_map,Function.comp_def,D.le,D.le.go,D.le_refl,D.bn]) (by simp [D.scalar]) ?_;refine aa _ ?_;clear aa K2;simp only [Z2,dk];(repeat (refine Z0 fun K2 aa=>?_;simp;(repeat (refine ⟨by omega,?_⟩));refine aa _ ?_;clear aa K2));refine Z9 (af _ ?_);clear af K';refine aa _ (AW.norm [5,6,8,9] [28,33] (fun _ _=>trivial) (AW.st (by simp;rfl) ?_));refine ae fun K3 aQ=>?_;have qf:=@hk;refine al [5,6,8,9,54] [28,33] ?_;refine ag rfl ?_;refine ah (aQ _ ?_);refine aq [5,6,9] [28,33] ?_;refine Z6 trivial hps [5,9,10,11] [28,33] ?_;refine ae fun K4 bN=>?_;refine ZW (Aq @bl.eq_1 (Aq @bl.eq_2 @aai.eq_1)) [5,9,10,11,12,13] [28,33] ?_;refine aq [5,9,10,11,12,75] [28,33] ?_;refine ag rfl ?_;refine ah (bN _ ?_);refine ae fun K5 hK5=>?_;refine aq [5,9,10,11,92] [28,33] ?_;refine ag rfl ?_;refine ah (hK5 _ ?_);refine aq [9] [28,33] ?_;refine aq [2,3,4] [28,33] ?_;refine dX 28 ?_;exact gm
  | a :: b :: c :: l,dH,jh=>
   have n1:¬ ((a :: b :: c :: l).length:Int)=2:=by simp only [List.length_cons];omega
   have n2:¬ ((a :: b :: c :: l).length:Int)=1:=by simp only [List.length_cons];omega
   show aw _ _ _ _ (b7 .form);simp only [b7];generalize a :: b :: c :: l=ws at dH jh n1 n2;refine aw.aD (ZZ _) Tryz.func122 rfl rfl (rs:=[.tmp 2,.tmp 3,.tmp 4]) Tryz.results122 (by simp [Tryz.ntmps122]) fun X=>?_;simp only [Tryz.ntmps122,List.map];refine aq [0] [] ?_;have qf:=@nw;refine aaF jT [5,6,7] [] ?_;refine Z6 trivial dH [5,6,7,8] [] ?_;refine ae fun K1 ay=>?_;refine aq [5,6,8,26] [] ?_;refine ak rfl ?_;refine aq [5,6,8,9] [28] ?_;refine ae fun K2 aa=>?_;have qf:=(Aq @n1 @n2);refine al [5,6,8,9,31] [28] ?_;refine ag rfl ?_;refine ah ?_;refine aa _ (AW.norm [5,6,8,9] [28] (fun _ _=>trivial) (AW.st (by simp;rfl) ?_));refine ae fun K3 aQ=>?_;have qf:=(Aq @n1 @n2);refine al [5,6,8,9,54] [28] ?_;refine ak rfl ?_;refine aq [2,3,4] [28] ?_;exact gm
 .have iD:eO s=hU (fe s):=by unfold eO;rw [if_neg h61]
  rw [iD];simp only [h61,if_false,decide_false] at jT;have dH:=Gp G s (by omega);have jh:=Ao s;have hwm:=fun x=>Ap (t:=s) (w:=x);generalize pN:fe s=ws at dH jh hwm h0 ⊢;obtain ⟨a,l,rfl⟩:∃ a l,ws=a :: l:=List.exists_cons_of_ne_nil h0;show aw _ _ _ _ (b7 (eC (gN nv a) l));have eL:=yu nv a (by decide);have kI:=aeJ nv a;have G6:gN nv a < 5:=kI.2;generalize gN nv a=k at eL G6 ⊢
  have hll:((a :: l).length:Int)=(l.length:Int)+1:=by simp
  simp only [dS] at jT dH eL ⊢;refine aw.aD (ZZ _) Tryz.func122 rfl rfl (rs:=[.tmp 2,.tmp 3,.tmp 4]) Tryz.results122 (by simp [Tryz.ntmps122]) fun X=>?_;simp only [Tryz.ntmps122,List.map];refine aq [0] [] ?_;have qf:=@nw;refine aaF jT [5,6,7] [] ?_;refine Z6 trivial dH [5,6,7,8] [] ?_;refine ae fun K1 ay=>?_;refine aq [5,6,8,26] [] ?_;refine ag rfl ?_;refine ah (ay _ ?_);refine rg [8,14] [106] (fun _ _=>trivial) fun K' af=>?_;(repeat (refine Z0 fun K2 aa=>?_;simp;(repeat (refine ⟨by omega,?_⟩));refine aa _ ?_;clear aa K2));refine Z0 fun K2 aa=>?_;simp;refine aap.l3 (eL) (by simp;rfl) (by first | exact D.bn _ | simp [aB,List.map_map,Function.comp_def,D.le,D.le.go,D.le_refl,D.bn]) (by simp [D.scalar]) ?_;refine aa _ ?_;clear aa K2;simp only [Z2,dk];(repeat (refine Z0 fun K2 aa=>?_;simp;(repeat (refine ⟨by omega,?_⟩));refine aa _ ?_;clear aa K2));refine Z9 (af _ (AW.st (by simp;rfl) ?_));clear af K';refine ae fun K6 de=>?_;by_cases hk:k < 1
  .have hF:eC k l = .form:=by
    match l with
    | []=>rfl
    | [b]=>rw [eC,if_neg (by omega)]
    | [b,c]=>rw [eC,if_neg (by omega)]
    | b :: c :: d :: l=>rfl
   rw [hF];simp only [b7];have qf:=@hk;refine al [8,14,120] [106] ?_;refine ak rfl ?_;refine aq [2,3,4] [106] ?_;exact gm
  have yx:k=1\/k=2\/k=3\/k=4:=by omega
  rcases yx with rfl | rfl | rfl | rfl
  .by_cases hl:l.length=1
   .obtain ⟨b,rfl⟩:∃ b,l=[b]:=List.length_eq_one_iff.1 hl;have hF:eC 1 [b] = .name ⟨b,1,0⟩:=rfl;have qf:=(Aq @wq0 @wq1);refine al [8,14,120] [106] ?_;refine ag rfl ?_;refine ah (de _ ?_);refine aq [8,14,15] [106,127] ?_;refine ae fun K7 dy=>?_;refine aq [8,15,129] [106,127] ?_;refine ag rfl ?_;refine ah ?_;refine dy _ (AW.norm [15] [106,127] (fun _ _=>trivial) (AW.st (by simp;rfl) ?_));refine aq [2,3,4] [106,127] ?_;refine dX 127 ?_;exact aK (Aq @hF (Aq @b7.eq_1 (Aq @b7.eq_2 (Aq @b7.eq_3 (Aq @b7.eq_4 (Aq @Z3.eq_1 @dS.eq_1))))))
   .have hF:eC 1 l = .form:=by
     match l,hl with
     | [],_=>rfl
     | [b],hl=>simp at hl
     | [b,c],_=>rw [eC,if_neg (by omega)]
     | b :: c :: d :: l,_=>rfl
    rw [hF];simp only [b7]
    have hn:¬ (l.length:Int)=1:=by omega
    have jX:¬ (l.length:Int)+1=2:=by omega
    have qf:=(Aq @hn (Aq @jX (Aq @hll (Aq @wq0 @wq1))));refine al [8,14,120] [106] ?_;refine ak rfl ?_;refine aq [2,3,4] [106] ?_;exact gm
  .by_cases hl:l.length=1
   .obtain ⟨b,rfl⟩:∃ b,l=[b]:=List.length_eq_one_iff.1 hl;have hF:eC 2 [b] = .name ⟨b,2,0⟩:=rfl;have qf:=(Aq @wq0 @wq1);refine al [8,14,120] [106] ?_;refine ag rfl ?_;refine ah (de _ ?_);refine aq [8,14,15] [106,127] ?_;refine ae fun K7 dy=>?_;refine aq [8,15,129] [106,127] ?_;refine ag rfl ?_;refine ah ?_;refine dy _ (AW.norm [15] [106,127] (fun _ _=>trivial) (AW.st (by simp;rfl) ?_));refine aq [2,3,4] [106,127] ?_;refine dX 127 ?_;exact aK (Aq @hF (Aq @b7.eq_1 (Aq @b7.eq_2 (Aq @b7.eq_3 (Aq @b7.eq_4 (Aq @Z3.eq_1 @dS.eq_1))))))
   .have hF:eC 2 l = .form:=by
     match l,hl with
     | [],_=>rfl
     | [b],hl=>simp at hl
     | [b,c],_=>rw [eC,if_neg (by omega)]
     | b :: c :: d :: l,_=>rfl
    rw [hF];simp only [b7]
    have hn:¬ (l.length:Int)=1:=by omega
    have jX:¬ (l.length:Int)+1=2:=by omega
    have qf:=(Aq @hn (Aq @jX (Aq @hll (Aq @wq0 @wq1))));refine al [8,14,120] [106] ?_;refine ak rfl ?_;refine aq [2,3,4] [106] ?_;exact gm
  .by_cases hl:l.length=2
   .obtain ⟨b,c,rfl⟩:∃ b c,l=[b,c]:=by
     match l,hl with
     | [b,c],_=>exact ⟨b,c,rfl⟩
    have hcl:c.length < 2^40:=by have:=(hwm c (by simp)).2;omega
    have hat:=FD G hE c hcl;have bA:eC 3 [b,c]=(match adq c with | some v=>.name ⟨b,3,v⟩ | none=>.form):=rfl;unfold adq at bA
    unfold qx at hat
    simp only [dS] at hat
    have qf:=(Aq @wq0 @wq1);refine al [8,14,120] [106] ?_;refine ag rfl ?_;refine ah (de _ ?_);refine aq [8,14,15] [106,127] ?_;refine ae fun K7 dy=>?_;refine aq [8,15,129] [106,127] ?_;refine ak rfl ?_
    cases hn:Lib.atoiAll c with
    | ok v=>
     rw [hn] at hat bA;dsimp only at hat bA;obtain ⟨v0,v1⟩:=Lib.atoiAll_bounds hn;have hit:=Ih G hP v v0 v1;simp only [dS] at hit;generalize Lib.itoa v=iv at hit bA;refine Z6 trivial hat [8,15,16,17] [106,127] ?_;refine ae fun K8 dz=>?_;by_cases hc:iv=c
     .rw [if_pos hc] at bA;subst hc;refine nO (ZZ _) (by kernel_rfl) [15,16,146] [106,127] (fun _ _=>trivial) (by kernel_rfl) fun K' af=>?_;(repeat (refine fo fun K2 aa=>?_;simp [aN,aT];(repeat (refine ⟨by omega,?_⟩));refine aa _ ?_;clear aa K2));refine fo fun K2 aa=>?_;simp [aN,aT];refine iT.data (hit) (by simp;rfl) (by simp;rfl) (by first | exact D.bn _ | simp [aB,List.map_map,Function.comp_def,D.le,D.le.go,D.le_refl,D.bn,aN,aT]) ?_;refine aa _ ?_;clear aa K2;simp only [Z2,dk];(repeat (refine fo fun K2 aa=>?_;simp [aN,aT];(repeat (refine ⟨by omega,?_⟩));refine aa _ ?_;clear aa K2));refine kZ (af _ ?_);refine AW.st (by simp [aN,aT];rfl) ?_;clear af K';refine ag rfl ?_;refine ah (dz _ ?_);refine reK trivial dy [15] [106,127] ?_;refine aq [2,3,4] [106,127] ?_;refine dX 127 ?_;exact aK (Aq @bA (Aq @b7.eq_1 (Aq @b7.eq_2 (Aq @b7.eq_3 (Aq @b7.eq_4 (Aq @Z3.eq_1 @dS.eq_1))))))
     .rw [if_neg hc] at bA;refine nO (ZZ _) (by kernel_rfl) [15,16,146] [106,127] (fun _ _=>trivial) (by kernel_rfl) fun K' af=>?_;(repeat (refine fo fun K2 aa=>?_;simp [aN,aT,hc];(repeat (refine ⟨by omega,?_⟩));refine aa _ ?_;clear aa K2));refine fo fun K2 aa=>?_;simp [aN,aT,hc];refine iT.data (hit) (by simp;rfl) (by simp;rfl) (by first | exact D.bn _ | simp [aB,List.map_map,Function.comp_def,D.le,D.le.go,D.le_refl,D.bn,aN,aT,hc]) ?_;refine aa _ ?_;clear aa K2;simp only [Z2,dk];(repeat (refine fo fun K2 aa=>?_;simp [aN,aT,hc];(repeat (refine ⟨by omega,?_⟩));refine aa _ ?_;clear aa K2));refine kZ (af _ ?_);refine AW.st (by simp [aN,aT,hc];rfl) ?_;clear af K';refine ak (by simp [hc]) ?_;refine aq [2,3,4] [106,127] ?_;exact aK (Aq @bA (Aq @b7.eq_1 (Aq @b7.eq_2 (Aq @b7.eq_3 @b7.eq_4))))
    | range=>
     rw [hn] at hat bA;dsimp only [n7] at hat bA;refine Z6 trivial hat [8,15,16,17] [106,127] ?_;refine ae fun K8 dz=>?_;refine zJ trivial [15,16,146] [106,127] ?_;refine ak rfl ?_;refine aq [2,3,4] [106,127] ?_;exact aK (Aq @bA (Aq @b7.eq_1 (Aq @b7.eq_2 (Aq @b7.eq_3 @b7.eq_4))))
    | _=>
     rw [hn] at hat bA;dsimp only [n7] at hat bA;refine Z6 trivial hat [8,15,16,17] [106,127] ?_;refine ae fun K8 dz=>?_;refine zJ trivial [15,16,146] [106,127] ?_;refine ak rfl ?_;refine aq [2,3,4] [106,127] ?_;exact aK (Aq @bA (Aq @b7.eq_1 (Aq @b7.eq_2 (Aq @b7.eq_3 @b7.eq_4))))
   .have hF:eC 3 l = .form:=by
     match l,hl with
     | [],_=>rfl
     | [b],_=>rw [eC,if_neg (by omega)]
     | [b,c],hl=>simp at hl
     | b :: c :: d :: l,_=>rfl
    rw [hF];simp only [b7]
    have hn:¬ (l.length:Int)=2:=by omega
    have jX:¬ (l.length:Int)+1=3:=by omega
    have qf:=(Aq @hn (Aq @jX (Aq @hll (Aq @wq0 @wq1))));refine al [8,14,120] [106] ?_;refine ak rfl ?_;refine aq [2,3,4] [106] ?_;exact gm
  .by_cases hl:l.length=2
   .obtain ⟨b,c,rfl⟩:∃ b c,l=[b,c]:=by
     match l,hl with
     | [b,c],_=>exact ⟨b,c,rfl⟩
    have hcl:c.length < 2^40:=by have:=(hwm c (by simp)).2;omega
    have hat:=FD G hE c hcl;have bA:eC 4 [b,c]=(match adq c with | some v=>.name ⟨b,4,v⟩ | none=>.form):=rfl;unfold adq at bA
    unfold qx at hat
    simp only [dS] at hat
    have qf:=(Aq @wq0 @wq1);refine al [8,14,120] [106] ?_;refine ag rfl ?_;refine ah (de _ ?_);refine aq [8,14,15] [106,127] ?_;refine ae fun K7 dy=>?_;refine aq [8,15,129] [106,127] ?_;refine ak rfl ?_
    cases hn:Lib.atoiAll c with
    | ok v=>
     rw [hn] at hat bA;dsimp only at hat bA;obtain ⟨v0,v1⟩:=Lib.atoiAll_bounds hn;have hit:=Ih G hP v v0 v1;simp only [dS] at hit;generalize Lib.itoa v=iv at hit bA;refine Z6 trivial hat [8,15,16,17] [106,127] ?_;refine ae fun K8 dz=>?_;by_cases hc:iv=c
     .rw [if_pos hc] at bA;subst hc;refine nO (ZZ _) (by kernel_rfl) [15,16,146] [106,127] (fun _ _=>trivial) (by kernel_rfl) fun K' af=>?_;(repeat (refine fo fun K2 aa=>?_;simp [aN,aT];(repeat (refine ⟨by omega,?_⟩));refine aa _ ?_;clear aa K2));refine fo fun K2 aa=>?_;simp [aN,aT];refine iT.data (hit) (by simp;rfl) (by simp;rfl) (by first | exact D.bn _ | simp [aB,List.map_map,Function.comp_def,D.le,D.le.go,D.le_refl,D.bn,aN,aT]) ?_;refine aa _ ?_;clear aa K2;simp only [Z2,dk];(repeat (refine fo fun K2 aa=>?_;simp [aN,aT];(repeat (refine ⟨by omega,?_⟩));refine aa _ ?_;clear aa K2));refine kZ (af _ ?_);refine AW.st (by simp [aN,aT];rfl) ?_;clear af K';refine ag rfl ?_;refine ah (dz _ ?_);refine reK trivial dy [15] [106,127] ?_;refine aq [2,3,4] [106,127] ?_;refine dX 127 ?_;exact aK (Aq @bA (Aq @b7.eq_1 (Aq @b7.eq_2 (Aq @b7.eq_3 (Aq @b7.eq_4 (Aq @Z3.eq_1 @dS.eq_1))))))
     .rw [if_neg hc] at bA;refine nO (ZZ _) (by kernel_rfl) [15,16,146] [106,127] (fun _ _=>trivial) (by kernel_rfl) fun K' af=>?_;(repeat (refine fo fun K2 aa=>?_;simp [aN,aT,hc];(repeat (refine ⟨by omega,?_⟩));refine aa _ ?_;clear aa K2));refine fo fun K2 aa=>?_;simp [aN,aT,hc];refine iT.data (hit) (by simp;rfl) (by simp;rfl) (by first | exact D.bn _ | simp [aB,List.map_map,Function.comp_def,D.le,D.le.go,D.le_refl,D.bn,aN,aT,hc]) ?_;refine aa _ ?_;clear aa K2;simp only [Z2,dk];(repeat (refine fo fun K2 aa=>?_;simp [aN,aT,hc];(repeat (refine ⟨by omega,?_⟩));refine aa _ ?_;clear aa K2));refine kZ (af _ ?_);refine AW.st (by simp [aN,aT,hc];rfl) ?_;clear af K';refine ak (by simp [hc]) ?_;refine aq [2,3,4] [106,127] ?_;exact aK (Aq @bA (Aq @b7.eq_1 (Aq @b7.eq_2 (Aq @b7.eq_3 @b7.eq_4))))
    | range=>
     rw [hn] at hat bA;dsimp only [n7] at hat bA;refine Z6 trivial hat [8,15,16,17] [106,127] ?_;refine ae fun K8 dz=>?_;refine zJ trivial [15,16,146] [106,127] ?_;refine ak rfl ?_;refine aq [2,3,4] [106,127] ?_;exact aK (Aq @bA (Aq @b7.eq_1 (Aq @b7.eq_2 (Aq @b7.eq_3 @b7.eq_4))))
    | _=>
     rw [hn] at hat bA;dsimp only [n7] at hat bA;refine Z6 trivial hat [8,15,16,17] [106,127] ?_;refine ae fun K8 dz=>?_;refine zJ trivial [15,16,146] [106,127] ?_;refine ak rfl ?_;refine aq [2,3,4] [106,127] ?_;exact aK (Aq @bA (Aq @b7.eq_1 (Aq @b7.eq_2 (Aq @b7.eq_3 @b7.eq_4))))
   .have hF:eC 4 l = .form:=by
     match l,hl with
     | [],_=>rfl
     | [b],_=>rw [eC,if_neg (by omega)]
     | [b,c],hl=>simp at hl
     | b :: c :: d :: l,_=>rfl
    rw [hF];simp only [b7]
    have hn:¬ (l.length:Int)=2:=by omega
    have jX:¬ (l.length:Int)+1=3:=by omega
    have qf:=(Aq @hn (Aq @jX (Aq @hll (Aq @wq0 @wq1))));refine al [8,14,120] [106] ?_;refine ak rfl ?_;refine aq [2,3,4] [106] ?_;exact gm
end Go.Proofs.YtdigkhaofjmgkaaGreatDoor
namespace Go.Av
section
variable {P:Program} {T:Ty} {Mv X:Nat->Prop} {G:ao} {N:Fr} {w w':World} {μ:Mu} {a:Act} {σ:St} {ops:Array Oper} {db:List Nat} {fp:List (Nat×Nat)}
def se (P:Program) (T:Ty) (Mv:Nat->Prop) (G:ao) (N:Fr) (db:List Nat) (fp:List (Nat×Nat)) (i:Nat) (o:Oper) (σ ar:St):Prop:=
 acA P T Mv G N db i o σ ar/\(db.contains i=false->mb G fp σ.env i o.op)
theorem acA.env {i:Nat} {o:Oper} {σ ar:St} (h:acA P T Mv G N db i o σ ar):∃ v,ar.env=Z2 σ.env o.dst v:=by
 rcases h.2.2 with ⟨_,c,y,_,_,rfl⟩ | ⟨_,_,x,H',_,rfl⟩
 .exact ⟨_,rfl⟩
 .exact ⟨_,rfl⟩
def so (db:List Nat) (fp:List (Nat×Nat)) (ops:Array Oper) (i j:Nat) (oi oj:Oper):Bool:=qu db ops i j oi oj || (!db.contains i && !db.contains j && oi.apart ops oj && tq oi.op && tq oj.op && match fp.lookup i,fp.lookup j with
 | some r,some r'=>!(r == r')
 | _,_=>false)
theorem Vu {i j:Nat} {oi oj:Oper} (hc:so db fp ops i j oi oj=true) {σ aH eu:St} (h1:se P T Mv G N db fp i oi σ aH) (h2:se P T Mv G N db fp j oj aH eu) :
  ∃ eT,se P T Mv G N db fp j oj σ eT/\se P T Mv G N db fp i oi eT eu:=by
 obtain ⟨s1,t1⟩:=h1;obtain ⟨s2,t2⟩:=h2
 have eJ:oi.apart ops oj=true:=by
  simp only [so,qu,Bool.or_eq_true,Bool.and_eq_true] at hc
  rcases hc with hc | hc
  .exact hc.1
  .exact hc.1.1.1.2
 have dV:∀ v,fg oj.op (Z2 σ.env oi.dst v) σ.env:=fun v t ht=>(abn eJ (e:=σ.env) (v:=v)).1 t (il ht);have eG:∀ v,fg oi.op σ.env (Z2 σ.env oj.dst v):=fun v t ht=>((abn eJ (e:=σ.env) (v:=v)).2.1 t (il ht)).symm;have aL:=(abn eJ (e:=σ.env) (v:=cu)).2.2;obtain ⟨v1,ev1⟩:=s1.env
 have main:∃ eT,acA P T Mv G N db j oj σ eT/\acA P T Mv G N db i oi eT eu:=by
  simp only [so,Bool.or_eq_true] at hc
  rcases hc with hc | hc
  .exact Gs hc s1 s2
  .simp only [Bool.and_eq_true,Bool.not_eq_true'] at hc;obtain ⟨⟨⟨⟨⟨bi,bj⟩,_⟩,li⟩,lj⟩,qZ⟩:=hc;have KV:=t1 bi;have EP:=t2 bj
   cases bu:fp.lookup i with
   | none=>simp [bu] at qZ
   | some r=>
    cases qY:fp.lookup j with
    | none=>simp [bu,qY] at qZ
    | some r'=>
     have hr:r≠r':=by simpa [bu,qY] using qZ
     obtain ⟨di,gi,s1⟩:=s1;obtain ⟨dj,gj,s2⟩:=s2
     rcases s1 with ⟨b,_⟩ | ⟨_,k1,x,H',e1,rfl⟩
     .rw [bi] at b;cases b
     rcases s2 with ⟨b,_⟩ | ⟨_,k2,z,H2,e2,rfl⟩
     .rw [bj] at b;cases b
     dsimp only at e2 EP ev1;simp only [mb,bu] at KV;simp only [mb,qY] at EP;obtain ⟨u,rfl,DB⟩:=e1.xf KV;have e2:=e2.congr k2 (dV _);obtain ⟨u',rfl,DC⟩:=e2.xf (D3 (dV _) EP);refine ⟨⟨Z2 σ.env oj.dst z,abH σ.H r' u'⟩,⟨dj,gj,.inr ⟨bj,k2,z,abH σ.H r' u',DC σ.H (zD (H:=σ.H) (u:=u) (Ne.symm hr)).symm,rfl⟩⟩,di,gi,.inr ⟨bi,k1,x,abH (abH σ.H r' u') r u,(DB (abH σ.H r' u') (zD hr)).congr k1 (eG _),?_⟩⟩;rw [JG hr,fm aL]
 obtain ⟨eT,f1,f2⟩:=main;obtain ⟨v3,uO⟩:=f1.env;refine ⟨eT,⟨f1,fun hb=>?_⟩,f2,fun hb=>?_⟩
 .have h:=t2 hb;rw [ev1] at h;exact Ae (dV _) h
 .rw [uO];exact Ae (eG _) (t1 hb)
def tW (P:Program) (T:Ty) (Mv:Nat->Prop) (G:ao) (N:Fr) (db:List Nat) (fp:List (Nat×Nat)) (ops:Array Oper):List Nat->St->St->Prop
 | [],σ,ar=>σ=ar
 | i :: l,σ,ar=>∃ o,ops[i]? = some o/\∃ aH,se P T Mv G N db fp i o σ aH/\tW P T Mv G N db fp ops l aH ar
theorem Wi {p:Nat} {op:Oper} (hp:ops[p]? = some op):∀ (l1:List Nat) {l2:List Nat} {σ ar:St},(∀ q∈l1,∀ oq,ops[q]? = some oq->so db fp ops q p oq op=true)->tW P T Mv G N db fp ops (l1 ++ p :: l2) σ ar->tW P T Mv G N db fp ops (p :: (l1 ++ l2)) σ ar:=by
 intro l1
 induction l1 with
 | nil=>intro l2 σ ar _ h;exact h
 | cons q l1 ih=>
  intro l2 σ ar bx h;obtain ⟨oq,hq,aH,s1,rest⟩:=h;obtain ⟨o',eB,eu,s2,oW⟩:=ih (fun q' hq'=>bx q' (by simp [hq'])) rest;rw [hp] at eB;obtain rfl:=Option.some.inj eB;obtain ⟨eT,f1,f2⟩:=Vu (bx q (by simp) oq hq) s1 s2;exact ⟨op,hp,eT,f1,oq,hq,eu,f2,oW⟩
def wL (db:List Nat) (fp:List (Nat×Nat)) (ord:List Nat) (ops:Array Oper):Bool:=
 let t:=tb ops
 ord.length == ops.size && (ord.all fun i=>decide (i < ops.size)) && ((List.range ops.size).all fun i=>ord.contains i) && decide ord.Nodup &&
 ((List.range ops.size).all fun j=>match ops[j]? with
  | some oj=>oj.after.all fun e=>!Region.binds .any e || e.on < j
  | none=>true) &&
 go t ord
where
 go (t:List Nat):List Nat->Bool
 | []=>true
 | a :: l=>(l.all fun b=>match ops[a]?,ops[b]? with
  | some oa,some ob=>(oa.after.all fun e=>!Region.binds .any e || !(e.on == b)) && ((t.getD b 0).testBit a || so db fp ops a b oa ob)
  | _,_=>true) && go t l
def AD (db:List Nat) (fp:List (Nat×Nat)) (ops:Array Oper) (a b:Nat):Prop:=∀ oa ob,ops[a]? = some oa->ops[b]? = some ob->
 (∀ e∈oa.after,Region.binds .any e=true->e.on≠b)/\(((tb ops).getD b 0).testBit a=true\/so db fp ops a b oa ob=true)
theorem Jo:∀ {l:List Nat},wL.go db fp ops (tb ops) l=true->l.Pairwise (AD db fp ops)
 | [],_=>.nil
 | a :: l,h=>by
  simp only [wL.go,Bool.and_eq_true] at h;refine .cons (fun b hb oa ob oH mB=>?_) (Jo h.2);have:=List.all_eq_true.1 h.1 b hb;simp only [oH,mB,Bool.and_eq_true,Bool.or_eq_true] at this;refine ⟨fun e he hbi heq=>?_,this.2⟩;have h1:=Array.all_eq_true_iff_forall_mem.1 this.1 e he;simp [hbi,heq] at h1
theorem LY (hg:Good P T) (ax:∀ j oj,ops[j]? = some oj->∀ e∈oj.after,Region.binds .any e=true->e.on < j) {Q:Exit->St->Prop} {w0:World} {fT:Mu} {bp:St} (hQ:Q .normal bp):∀ (n:Nat) (R:List Nat) (listed:Array Bool) (w:World) (μ:Mu) (a:Act) (σ:St),R.length=n->R.Nodup->
  (∀ j,j∈R↔j < ops.size/\listed.getD j true=false)->listed.size=ops.size->R.Pairwise (AD db fp ops)->
  (∀ j oj,ops[j]? = some oj->listed.getD j false=true->∀ e∈oj.after,Region.binds .any e=true->listed.getD e.on false=true)->tW P T Mv G N db fp ops R σ bp->In w X G μ N a σ->Ev Mv w0 fT w μ->
  wpAnyIn (wd N.ro) 0 P .any ops (After Mv X G N w0 fT Q) n listed a w:=by
 intro n
 induction n with
 | zero=>
  intro R listed w μ a σ hl _ hR aI _ _ bK hi aG;have:R=[]:=List.eq_nil_of_length_eq_zero hl;subst this
  have hr:Region.ready .any ops listed=[]:=by
   apply List.eq_nil_iff_forall_not_mem.2;intro j hj;obtain ⟨h1,o,ho,_⟩:=mem_ready.1 hj;exact absurd ((hR j).2 ⟨(Array.getElem?_eq_some_iff.1 ho).1,h1⟩) (by simp)
  have:σ=bp:=bK;subst this;exact ⟨hr,μ,σ,hQ,hi,aG⟩
 | succ n ih=>
  intro R listed w μ a σ hl eY hR aI hpw abR bK hi aG;refine ⟨fun hr=>?_,fun i my=>?_⟩
  .cases R with
   | nil=>simp at hl
   | cons j R=>
    obtain ⟨hj1,hC⟩:=(hR j).1 (by simp)
    have bq:ops[j]? = some ops[j]:=by simp [hj1]
    have jw:j∈Region.ready .any ops listed:=by
     refine mem_ready.2 ⟨hC,ops[j],bq,fun e he hb=>?_⟩;have pG:=ax j ops[j] bq e he hb
     have aaq:e.on < ops.size:=by omega
     have aL:e.on ∉ (j :: R):=by
      intro hm
      rcases List.mem_cons.1 hm with h | h
      .omega
      .exact ((List.pairwise_cons.1 hpw).1 _ h ops[j] ops[e.on] bq (by simp [aaq])).1 e he hb rfl
     have:=mt (hR e.on).2 aL
     have gL:e.on < listed.size:=by omega
     simp only [aaq,true_and,Array.getD_eq_getD_getElem?] at this ⊢;simp [gL] at this ⊢;exact this
    rw [hr] at jw;cases jw
  .obtain ⟨hi1,oi,hoi,bx⟩:=mem_ready.1 my;have mv:i∈R:=(hR i).2 ⟨(Array.getElem?_eq_some_iff.1 hoi).1,hi1⟩;obtain ⟨R1,R2,rfl⟩:=List.append_of_mem mv
   have mu:=Wi (P:=P) (T:=T) (Mv:=Mv) (G:=G) (N:=N) (db:=db) (fp:=fp) hoi R1 (fun q hq oq jA=>by
    have oI:AD db fp ops q i:=(List.pairwise_append.1 hpw).2.2 q hq i (by simp)
    rcases (oI oq oi jA hoi).2 with h | h
    .exfalso;have jx:=uF ax abR i i oi (Nat.le_refl _) hoi bx q h;have e8:=((hR q).1 (by simp [hq])).2
     have mD:q < listed.size:=by have:=(Array.getElem?_eq_some_iff.1 jA).1;omega
     simp [Array.getD_eq_getD_getElem?,mD] at jx e8;rw [jx] at e8;cases e8
    .exact h) bK
   obtain ⟨o',eB,aH,hstep,b5⟩:=mu;rw [hoi] at eB;obtain rfl:=Option.some.inj eB;refine hstep.1.ok hg hi hoi fun w' au a' aC iz=>?_
   have mz:(R1 ++ R2).Nodup:=by
    have:=eY;rw [List.nodup_append] at this ⊢;obtain ⟨g1,g2,g3⟩:=this;exact ⟨g1,(List.nodup_cons.1 g2).2,fun x hx y hy=>g3 x hx y (by simp [hy])⟩
   have mw:i ∉ R1 ++ R2:=by
    have:=eY;rw [List.nodup_append] at this;obtain ⟨g1,g2,g3⟩:=this;intro hm
    rcases List.mem_append.1 hm with h | h
    .exact g3 i h i (by simp) rfl
    .exact (List.nodup_cons.1 g2).1 h
   refine ih (R1 ++ R2) _ w' au a' aH (by simp at hl ⊢;omega) mz (fun j=>?_) (by simpa using aI) ?_ ?_ b5 aC (aG.trans iz)
   .by_cases hji:j=i
    .subst hji
     have gL:j < listed.size:=by rw [aI];exact (Array.getElem?_eq_some_iff.1 hoi).1
     simp [gL];simpa using mw
    .rw [getD_set_ne true (Ne.symm hji)];rw [<- hR j];simp [hji]
   .rw [List.pairwise_append] at hpw ⊢;obtain ⟨g1,g2,g3⟩:=hpw;exact ⟨g1,(List.pairwise_cons.1 g2).2,fun x hx y hy=>g3 x hx y (by simp [hy])⟩
   .intro j oj bq hlj e he hb;by_cases hji:j=i
    .subst hji;rw [hoi] at bq;obtain rfl:=Option.some.inj bq;exact getD_set_true (bx e he hb)
    .rw [getD_set_ne false (Ne.symm hji)] at hlj;exact getD_set_true (abR j oj bq hlj e he hb)
def z8 (P:Program) (T:Ty) (Mv:Nat->Prop) (G:ao) (N:Fr) (db:List Nat) (fp:List (Nat×Nat)) (i:Nat) (o:Oper) (σ:St) (K:St->Prop):Prop:=eQ N o/\o.guard=none/\
 if db.contains i=true then (match ke T G σ.env o with
  | some (c,y)=>c/\K ⟨Z2 σ.env o.dst (.d y),σ.H⟩
  | none=>False)
 else mb G fp σ.env i o.op/\kindOf o.op≠9/\match cr o.op with
  | some c=>mj P G c σ.env o.dst σ.H [] [] K
  | none=>p7 T G Mv o σ [] K
def oZ (P:Program) (T:Ty) (Mv:Nat->Prop) (G:ao) (N:Fr) (db:List Nat) (fp:List (Nat×Nat)) (K:St->Prop):List (Nat×Oper)->St->Prop
 | [],σ=>K σ
 | (i,o) :: rest,σ=>z8 P T Mv G N db fp i o σ (oZ P T Mv G N db fp K rest)
theorem WX {K:St->Prop}:∀ (l:List Nat) (σ:St),(∀ i∈l,i < ops.size)->oZ P T Mv G N db fp K (aak ops l) σ->∃ bp,K bp/\tW P T Mv G N db fp ops l σ bp:=by
 intro l
 induction l with
 | nil=>intro σ _ h;exact ⟨σ,h,rfl⟩
 | cons i l ih=>
  intro σ hl h;have hi:=hl i (by simp)
  have ho:ops[i]? = some ops[i]:=by simp [hi]
  simp only [aak,ho] at h;generalize ops[i]=o at ho h;simp only [oZ,z8] at h;obtain ⟨hd,c8,h⟩:=h
  have fin:∀ aH,se P T Mv G N db fp i o σ aH->oZ P T Mv G N db fp K (aak ops l) aH->∃ bp,K bp/\tW P T Mv G N db fp ops (i :: l) σ bp:=fun aH hs h1=>by
   obtain ⟨bp,hk,hr⟩:=ih aH (fun j hj=>hl j (by simp [hj])) h1;exact ⟨bp,hk,o,ho,aH,hs,hr⟩
  split at h
  .rename_i hb;split at h
   .rename_i c y hw;obtain ⟨hc,h⟩:=h;exact fin _ ⟨⟨hd,c8,.inl ⟨hb,c,y,hw,hc,rfl⟩⟩,fun e=>by rw [hb] at e;cases e⟩ h
   .exact h.elim
  .rename_i hb
   have hb:db.contains i=false:=by simpa using hb
   obtain ⟨htc,hk,h⟩:=h;split at h
   .rename_i c hc;obtain ⟨y,g,ds,ht,hp,e7,h⟩:=h;refine fin _ ⟨⟨hd,c8,.inr ⟨hb,hk,.d y,σ.H,?_,rfl⟩⟩,fun _=>htc⟩ h;unfold Ex;simp only [hc];exact ⟨y,⟨g,_,ht,.inl ⟨ds,rfl,hp⟩⟩,rfl,trivial⟩
   .rename_i hc;unfold p7 at h;split at h
    .rename_i hw;split at h
     .rename_i c x aH h1;obtain ⟨hcc,e7,h⟩:=h;have he:=ad9 hk h1;obtain ⟨e,H⟩:=σ;obtain ⟨e1,H1⟩:=aH;dsimp only at he;subst he;refine fin _ ⟨⟨hd,c8,.inr ⟨hb,hk,x,H1,?_,rfl⟩⟩,fun _=>htc⟩ h;unfold Ex;simp only [hc];rw [if_pos hw];exact ⟨c,h1,hcc⟩
     .exact h.elim
    .rename_i hw;split at h
     .rename_i c x h1;obtain ⟨hcc,e7,h⟩:=h;refine fin _ ⟨⟨hd,c8,.inr ⟨hb,hk,x,σ.H,?_,rfl⟩⟩,fun _=>htc⟩ h;unfold Ex;simp only [hc];rw [if_neg hw];exact ⟨c,h1,hcc,trivial⟩
     .exact h.elim
theorem Lz (hg:Good P T) (hm:P.follows .mixedOrders=true) (db:List Nat) (fp:List (Nat×Nat)) (ord:List Nat) {id:Nat} (hok:wL db fp ord ops=true) {Q:Exit->St->Prop} {σ:St} (h:oZ P T Mv G N db fp (fun ar=>Q .normal ar) (aak ops ord) σ):AW P Mv X G N (.region id ops true) Q σ:=fun w μ a hi=>by
 unfold wL at hok;simp only [Bool.and_eq_true] at hok;obtain ⟨⟨⟨⟨⟨h1,h2⟩,h3⟩,h4⟩,h5⟩,h6⟩:=hok
 have hlen:ord.length=ops.size:=by simpa using h1
 have ax:∀ i∈ord,i < ops.size:=fun i hi=>by simpa using List.all_eq_true.1 h2 i hi
 have bx:∀ i,i < ops.size->i∈ord:=fun i hi=>by simpa using List.all_eq_true.1 h3 i (List.mem_range.2 hi)
 have eY:ord.Nodup:=by simpa using h4
 have oA:∀ j oj,ops[j]? = some oj->∀ e∈oj.after,Region.binds .any e=true->e.on < j:=fun j oj bq e he hb=>by
  have:=List.all_eq_true.1 h5 j (List.mem_range.2 (Array.getElem?_eq_some_iff.1 bq).1);simp only [bq] at this;have:=Array.all_eq_true_iff_forall_mem.1 this e he;simpa [hb] using this
 obtain ⟨bp,hQ,bK⟩:=WX ord σ ax h;refine wpIn_region_any hm ?_;obtain ⟨aC,aG⟩:=hi.jR (Mv:=Mv) (bU.drew w);refine LY hg oA hQ ops.size ord _ w.drew μ a σ hlen eY (fun j=>?_) (by simp) (Jo h6) ?_ bK aC aG
 .constructor
  .intro hj;have:=ax j hj;simp [Array.getD_eq_getD_getElem?,this]
  .intro hj;exact bx j hj.1
 .intro j oj bq hlj;have hj:=(Array.getElem?_eq_some_iff.1 bq).1;simp [Array.getD_eq_getD_getElem?,hj] at hlj
theorem As (hg:Good P T) (hm:P.follows .mixedOrders=true) (db:List Nat) (fp:List (Nat×Nat)) (ord:List Nat) (l ns:List Nat) (hM:∀ r,ns.contains r=false->Mv r) {id:Nat} (hok:wL db fp ord ops=true) {y:Code} {Q:Exit->St->Prop} {σ:St}
  (h:∀ K:St->Prop,(∀ τ:St,AW P Mv X G N y Q (τ.norm l ns)->K τ)->oZ P T Mv G N db fp K (aak ops ord) σ):AW P Mv X G N (.seq (.region id ops true) y) Q σ:=
 nP (Lz hg hm db fp ord hok (h _ fun _ h=>h.norm l ns hM))
theorem EL {K:St->Prop} {i:Nat} {l:List Nat} {o:Oper} (ho:ops[i]? = some o) (h:∀ K':St->Prop,(∀ τ,oZ P T Mv G N db fp K (aak ops l) τ->K' τ)->z8 P T Mv G N db fp i o σ K'):oZ P T Mv G N db fp K (aak ops (i :: l)) σ:=by
 have:aak ops (i :: l)=(i,o) :: aak ops l:=by simp [aak,ho]
 rw [this];exact h _ fun _ h=>h
theorem EM {K:St->Prop} (h:K σ):oZ P T Mv G N db fp K (aak ops []) σ:=h
end
attribute [simp] z8
end Go.Av
