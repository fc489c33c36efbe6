/- Parts. -/
import Derived.Test.YtdigkhaofjmgkaaGreatDoorMs35
import Derived.Test.YtdigkhaofjmgkaaGreatDoorMs36
import Derived.Test.YtdigkhaofjmgkaaGreatDoorMs37
import Derived.Test.YtdigkhaofjmgkaaGreatDoorMs38
import Derived.Test.YtdigkhaofjmgkaaGreatDoorMs39
import Derived.Test.YtdigkhaofjmgkaaGreatDoorMs40
import Derived.Lib.ParseIntBTie
set_option linter.unusedSectionVars false
set_option linter.unusedSimpArgs false
set_option linter.unusedVariables false
set_option maxHeartbeats 16000000
set_option maxRecDepth 100000
open Go.Proofs.Tryz
namespace Go.Proofs.YtdigkhaofjmgkaaGreatDoor
open Go.Av Go.Shelf Go.RowKit
def ny (G:ao):Prop:=G 7=some (.lA (Lib.pow10Tab.map fun z=>Value.int .u64 z).toArray)
def vt (v:Value):Prop:=v = .nilIface\/∃ te pe,v = .iface te pe
def adQ (G:ao) (es er:Value):Prop:=(G 5=some (.ip [.v es])/\vt es)/\G 6=some (.ip [.v er])/\vt er
theorem yq {G:ao} {g:Nat} {v:Value} {w:World} {X:Nat->Prop} (hm:G g=some (.ip [.v v])) (cq:∀ g x,G g=some x->RD w X (.pointer (some ⟨g,0,none⟩)) x):w.cell? ⟨g,0,none⟩=some v:=by
 obtain⟨b',off,f,hp,_,_,abf,hr⟩:=(cq _ _ hm).adp;have h0:=abf 0 (by simp);have h1:=(hr 0 _ rfl).scalar;rw[h1]at h0;injection hp with hp;injection hp with hp;injection hp with eh hp2 _;subst eh hp2;exact h0
theorem JF {G:ao} (h:ny G) {w:World} {X:Nat->Prop} (cq:∀ g x,G g=some x->RD w X (.pointer (some ⟨g,0,none⟩)) x):Lib.TabIs prog w "internal/strconv.uint64pow10" .u64 Lib.pow10Tab:=by
 have h1:=cq _ _ h
 obtain⟨ty,fr,hh⟩:∃ ty fr,w.heap[7]? = some (.cells (Lib.pow10Tab.map fun z=>Value.int .u64 z).toArray ty fr):=by
  generalize hy:D.lA _=y at h1;cases h1<;>cases hy;exact⟨_,_,by assumption⟩
 unfold Lib.TabIs World.var?;rw[show prog.globalNamed "internal/strconv.uint64pow10" = some 7 by kernel_rfl];simp only[Option.bind_some,hh]
theorem afH (w:World) (os:Array Obj):bY w (Go.Sort.grow w os):=⟨by simp[Go.Sort.grow],rfl,rfl,rfl,fun b hb=>by simp[Go.Sort.grow,Array.getElem?_append_left hb]⟩
theorem bY.trans' {w w1 w2:World} (h:bY w w1) (h2:bY w1 w2):bY w w2:=⟨Nat.le_trans h.size h2.size,h2.os.trans h.os,h2.tape.trans h.tape,h2.output.trans h.output,fun b hb=>(h2.same b (Nat.lt_of_lt_of_le hb h.size)).trans (h.same b hb)⟩
theorem Iy (G:ao) (hP:ny G) (n:Int) (h0:-9223372036854775808<=n) (h1:n<=9223372036854775807):ar prog G 177 [.v (.int .i64 n)] (dS (Lib.itoa n)):=by
 refine ar.nr (e7.of func177 rfl rfl) fun X w vs aK bC cq=>?_
 obtain⟨u,rfl⟩:∃ u,vs = #[u]:=by
  match vs,aK with
  | ⟨[u]⟩,_=>exact⟨u,rfl⟩
 have hu:=(bC 0 u _ rfl rfl).scalar;subst hu;refine (Any.strconv_Itoa Tryz.SD n h0 h1 w (JF hP cq)).mono fun e w' ⟨he,k,os,hw⟩=>⟨_,he,by rw[hw];exact bY.trans' (ya w k) (afH _ _),.v _⟩
theorem OH (G:ao) (hP:ny G) (n:Int) (h0:-9223372036854775808<=n) (h1:n<=9223372036854775807):ar prog G 162 [.v (.int .i64 n),.v (.int .i64 10)] (dS (Lib.itoa n)):=by
 refine ar.nr (e7.of func162 rfl rfl) fun X w vs aK bC cq=>?_
 obtain⟨u,v,rfl⟩:∃ u v,vs = #[u,v]:=by
  match vs,aK with
  | ⟨[u,v]⟩,_=>exact⟨u,v,rfl⟩
 have hu:=(bC 0 u _ rfl rfl).scalar;have hv:=(bC 1 v _ rfl rfl).scalar;subst hu hv;refine (Any.strconv_FormatInt_10 Tryz.SG n h0 h1 w (JF hP cq)).mono fun e w' ⟨he,k,os,hw⟩=>⟨_,he,by rw[hw];exact bY.trans' (ya w k) (afH _ _),.v _⟩
def oD (f s:Tx) (ev:Value):D:=.bA 339 (.ip [dS f,dS s,.v ev])
def aed (f s:Tx) (es er:Value):D:=match Lib.atoiAll s with
 | .ok v=>.tup [.v (.int .i64 v),.v .nilIface]
 | .range=>.tup [.v (.int .i64 (Lib.atoiSat s)),oD f s er]
 | _=>.tup [.v (.int .i64 0),oD f s es]
theorem zW {w:World} {X:Nat->Prop} (v:Int):RD w X (.tuple #[.int .i64 v,.nilIface]) (.tup [.v (.int .i64 v),.v .nilIface]):=.tup rfl fun j u c hu hc=>by
 match j,hu,hc with
 | 0,hu,hc=>simp at hu hc;subst hu hc;exact .v _
 | 1,hu,hc=>simp at hu hc;subst hu hc;exact .v _
 | j+2,hu,hc=>simp at hu
theorem zV {w w':World} {X:Nat->Prop} (iz:∀ b,X b->b < w.heap.size) {v:Int} {f s:Tx} {ev:Value} {N:Nat} {T:TypeId} (hN:w.heap.size<=N) (hc:w'.heap[N]? = some (.cells #[.string (bs f),.string (bs s),ev] T (0,0))) :
  RD w' X (.tuple #[.int .i64 v,.iface 339 (.pointer (some ⟨N,0,none⟩))]) (.tup [.v (.int .i64 v),oD f s ev]):=by
 have abf:∀ j,w'.cell? ⟨N,j,none⟩=(#[.string (bs f),.string (bs s),ev]:Array Value)[j]?:=fun j=>by simp[World.cell?,hc]
 refine .tup rfl fun j u c hu hx=>?_
 match j,hu,hx with
 | 0,hu,hx=>simp at hu hx;subst hu hx;exact .v _
 | 1,hu,hx=>
  simp at hu hx;subst hu hx;refine .bA (.ip (f:=fun j=>(w'.cell? ⟨N,j,none⟩).getD undef) (fun hx=>by have:=iz _ hx;omega) (Array.getElem?_eq_some_iff.1 hc).1 (fun j hj=>?_) fun j c fU=>?_)
  .have QC:j < 3:=by simpa using hj
   rw[Nat.zero_add,abf]
   match j,QC with
   | 0,_=>rfl
   | 1,_=>rfl
   | 2,_=>rfl
  .rw[abf]
   match j,fU with
   | 0,fU=>simp at fU;subst fU;exact .v _
   | 1,fU=>simp at fU;subst fU;exact .v _
   | 2,fU=>simp at fU;subst fU;exact .v _
   | j+3,fU=>simp at fU
 | j+2,hu,hx=>simp at hu
theorem FQ (w:World) (e:TypeId) (s:ByteArray):bY w (Lib.bytesWorld w e s):=ad6 (Lib.bytesWorld_below w e s)
def MO:Tx:=[65,116,111,105]
def Vx:Tx:=[80,97,114,115,101,73,110,116]
theorem FI (G:ao) {es er:Value} (hE:adQ G es er) (s:Tx) (hs:s.length < 2^40):ar prog G 176 [dS s] (aed MO s es er):=by
 obtain⟨⟨h1,BJ⟩,h2,BM⟩:=hE;refine zK (e7.of func176 rfl rfl) fun X w vs iz aK bC cq=>?_
 obtain⟨u,rfl⟩:∃ u,vs = #[u]:=by
  match vs,aK with
  | ⟨[u]⟩,_=>exact⟨u,rfl⟩
 have hu:=(bC 0 u _ rfl rfl).scalar;subst hu
 have hss:(bs s).size < 2^40:=by rw[bl];exact hs
 unfold aed
 cases hn:Lib.atoiAll s with
 | ok v=>
  refine (Any.strconv_Atoi_ok Tryz.DA (bs s) (by omega) v hn w).mono fun e w' ⟨he,hw⟩=>⟨_,he,?_,zW v⟩
  rcases hw with rfl | ⟨t,rfl⟩
  .exact bY.refl _
  .exact FQ _ _ _
 | range=>
  refine (Any.strconv_Atoi_range Tryz.DA (bs s) (by omega) hn er w (yq h2 cq) BM).mono fun e w' ⟨N,he,hN,hc,hB⟩=>⟨_,he,ad6 hB,zV iz hN hc⟩
 | _=>
  refine (Any.strconv_Atoi_syntax Tryz.DA (bs s) (by omega) hn es w (yq h1 cq) BJ).mono fun e w' ⟨N,he,hN,hc,hB⟩=>⟨_,he,ad6 hB,zV iz hN hc⟩
theorem Vy (G:ao) {es er:Value} (hE:adQ G es er) (s:Tx) (hs:s.length < 2^40):ar prog G 161 [dS s,.v (.int .i64 10),.v (.int .i64 64)] (aed Vx s es er):=by
 obtain⟨⟨h1,BJ⟩,h2,BM⟩:=hE;refine zK (e7.of func161 rfl rfl) fun X w vs iz aK bC cq=>?_
 obtain⟨u,v1,v2,rfl⟩:∃ u v1 v2,vs = #[u,v1,v2]:=by
  match vs,aK with
  | ⟨[u,v1,v2]⟩,_=>exact⟨u,v1,v2,rfl⟩
 have hu:=(bC 0 u _ rfl rfl).scalar;have fM:=(bC 1 v1 _ rfl rfl).scalar;have ub:=(bC 2 v2 _ rfl rfl).scalar;subst hu fM ub
 have hss:(bs s).size < 2^40:=by rw[bl];exact hs
 have Bu:Lib.parseIntB 64 (bs s).data.toList=Lib.atoiAll s:=by rw[ch];exact Lib.parseIntB_64 s
 unfold aed
 cases hn:Lib.atoiAll s with
 | ok v=>
  refine (Any.strconv_ParseInt_10_at64_ok Tryz.DB (bs s) (by omega) v (Bu.trans hn) w).mono fun e w' ⟨he,hw⟩=>⟨_,he,?_,zW v⟩
  rcases hw with rfl | ⟨t,rfl⟩
  .exact bY.refl _
  .exact FQ _ _ _
 | range=>
  refine (Any.strconv_ParseInt_10_at64_range Tryz.DB (bs s) (by omega) (Bu.trans hn) er w (yq h2 cq) BM).mono fun e w' ⟨N,he,hN,hc,hB⟩=>⟨_,by rw[ch,Lib.intSat_64]at he;exact he,ad6 hB,zV iz hN hc⟩
 | _=>
  refine (Any.strconv_ParseInt_10_at64_syntax Tryz.DB (bs s) (by omega) (Bu.trans hn) es w (yq h1 cq) BJ).mono fun e w' ⟨N,he,hN,hc,hB⟩=>⟨_,he,ad6 hB,zV iz hN hc⟩
end Go.Proofs.YtdigkhaofjmgkaaGreatDoor
namespace Go.Proofs.YtdigkhaofjmgkaaGreatDoor
open Go.Av
def b9:mJ->D
 | .form=>.tup [.v (.pointer none),.v (.pointer none),.bA 40 (.v (.int .i64 3))]
 | .bad c off=>.tup [.v (.pointer none),.v (.pointer none),.bA 213 (.ip [.v (.int .i64 c),.v (.int .i64 off)])]
 | .name n=>.tup [.ip (aW n),.v (.pointer none),.v .nilIface]
 | .lv r=>.tup [.v (.pointer none),.ip (b7 r),.v .nilIface]
theorem RQ (l:List Tx) (s:Tx):idx (fun x=>s == x) l=ixW l s:=by
 unfold ixW;congr 1;funext x;by_cases h:s=x
 .subst h;simp
 .have h2:x≠s:=fun e=>h e.symm;rw[beq_eq_false_iff_ne.2 h,beq_eq_false_iff_ne.2 h2]
theorem zh (l:List Tx) (s:Tx):-1<=ixW l s/\ixW l s < l.length:=by
 by_cases h:ixW l s < 0
 .unfold ixW idx at h ⊢
  cases hf:l.findIdx? (fun x=>x == s) with
  | none=>simp;omega
  | some k=>rw[hf]at h;simp at h;omega
 .obtain⟨k,hk,he,_⟩:=po h;have he2:ixW l s=(k:Int):=he;omega
theorem NL (c:Option Ex):nE c=dC c:=by cases c<;>rfl
theorem nZ:(⟨#[61]⟩:ByteArray)=bs [61]:=rfl
theorem qR:IntKind.i64.wrap 0=0:=by decide
theorem lC:IntKind.i64.wrap 1=1:=by decide
theorem agE (G:ao) (hM:acb G) (hP:ny G) (hG:l8 G) {es er:Value} (hE:adQ G es er) (s:Tx) (hs:s.length<=20000) (h0:fy s≠[]):ar prog G 122 [dS s] (b9 (abD s)):=by
 have kb:=W6 G hM s 61 (by omega);have yQ:=fun (ws:List Tx) (x:Tx) (h:ws.length < 2^60)=>index_spec G none ws x h;simp only[RQ]at yQ;by_cases p5:(61:UInt8)∈s
 .have hle:=x7 61 s
  have iT:abD s=l3 (cutAt 61 s).1 (cutAt 61 s).2 (fy (cutAt 61 s).1):=by unfold abD;rw[if_pos p5]
  rw[iT];simp only[p5,if_true,decide_true]at kb;generalize (cutAt 61 s).1=hd at kb hle ⊢;generalize (cutAt 61 s).2=rest at kb hle ⊢;have dO:=Gt G hd (by omega);have jS:=afp hd;generalize jT:fy hd=ws at dO jS ⊢;have dB:=VB G rest (by omega);rw[NL]at dB;have htl:=agP G hG (fF rest).2;have hR:∀ k nm,jC k nm hd rest=(match (fF rest).2 with | some (c,o)=>.bad c (hd.length+1+o.getD 0) | none=>.lv ⟨k,nm,(fF rest).1⟩):=fun _ _=>rfl;simp only[dS]at kb dO dB ⊢
  match ws,dO,jS with
  | [],dO,jS=>
   show ar _ _ _ _ (b9 .form);simp only[b9];refine ar.aC (aay _) func122 rfl rfl (rs:=[.tmp 2,.tmp 3,.tmp 4]) results122 (by simp[ntmps122]) fun X=>?_;simp only[ntmps122,List.map];refine aq [0] [] ?_;have qf:=@nZ;refine dv kb [5,6,7] [] ?_;refine aR trivial dO [5,6,7,8] [] ?_;refine ae fun K1 au=>?_;refine aq [5,6,8,26] [] ?_;refine aax rfl ?_;refine aq [5,6,8,9] [28] ?_;refine ae fun K2 aa=>?_;refine aq [5,6,8,9,31] [28] ?_;refine ag rfl ?_;refine ah ?_;refine aa _ (AW.norm [5,6,8,9] [28] (fun _ _=>trivial) (AW.st (by simp;rfl) ?_));refine ae fun K3 aH=>?_;refine aq [5,6,8,9,54] [28] ?_;refine aax rfl ?_;refine aq [2,3,4] [28] ?_;exact gG
  | [a],dO,jS=>
   show ar _ _ _ _ (b9 (jC 1 a hd rest));rw[hR];have hsome:=fun h=>xd (t:=rest) h;have cw:=fun c o h=>xc (t:=rest) (c:=c) (p:=o) h;generalize (fF rest).1=oe at dB hsome ⊢;generalize (fF rest).2=oc at dB htl hsome cw ⊢
   match oc,dB,htl,hsome,cw with
   | some (c,some o),dB,htl,_,cw=>
    have CS:=cw c o rfl
    have hcast:((hd.length+1+o:Nat):Int)=(hd.length:Int)+1+o:=by omega
    simp only[ba]at dB;simp only[b9,Option.getD_some];refine ar.aC (aay _) func122 rfl rfl (rs:=[.tmp 2,.tmp 3,.tmp 4]) results122 (by simp[ntmps122]) fun X=>?_;simp only[ntmps122,List.map];refine aq [0] [] ?_;have qf:=@nZ;refine dv kb [5,6,7] [] ?_;refine aR trivial dO [5,6,7,8] [] ?_;refine ae fun K1 au=>?_;refine aq [5,6,8,26] [] ?_;refine aax rfl ?_;refine aq [5,6,8,9] [28] ?_;refine ae fun K2 aa=>?_;refine aq [5,6,8,9,31] [28] ?_;refine ag rfl ?_;refine ah ?_;refine aa _ (AW.norm [5,6,8,9] [28] (fun _ _=>trivial) (AW.st (by simp;rfl) ?_));refine ae fun K3 aH=>?_;refine aq [5,6,8,9,54] [28] ?_;refine ag rfl ?_;refine ah (aH _ ?_);refine aq [5,6,9] [28] ?_;refine aR trivial dB [5,9,10,11] [28] ?_;refine ae fun K4 hK4=>?_;refine rgq (Aq @bp.eq_1 (Aq @bp.eq_2 @aaS.eq_1)) [5,9,10,11,12,13] [28] ?_;refine aq [5,9,10,11,12,75] [28] ?_;refine aax rfl ?_;have qf:=@bl;refine fv [2,3,4] [28,89] ?_;refine dV 89 ?_;exact aG @hcast
   | some (c,none),dB,htl,_,_=>
    have hcast:((hd.length+1:Nat):Int)=(hd.length:Int)+1:=by omega
    simp only[ba,codeF]at dB htl;simp only[b9,Option.getD_none,Nat.add_zero];refine ar.aC (aay _) func122 rfl rfl (rs:=[.tmp 2,.tmp 3,.tmp 4]) results122 (by simp[ntmps122]) fun X=>?_;simp only[ntmps122,List.map];refine aq [0] [] ?_;have qf:=@nZ;refine dv kb [5,6,7] [] ?_;refine aR trivial dO [5,6,7,8] [] ?_;refine ae fun K1 au=>?_;refine aq [5,6,8,26] [] ?_;refine aax rfl ?_;refine aq [5,6,8,9] [28] ?_;refine ae fun K2 aa=>?_;refine aq [5,6,8,9,31] [28] ?_;refine ag rfl ?_;refine ah ?_;refine aa _ (AW.norm [5,6,8,9] [28] (fun _ _=>trivial) (AW.st (by simp;rfl) ?_));refine ae fun K3 aH=>?_;refine aq [5,6,8,9,54] [28] ?_;refine ag rfl ?_;refine ah (aH _ ?_);refine aq [5,6,9] [28] ?_;refine aR trivial dB [5,9,10,11] [28] ?_;refine ae fun K4 hK4=>?_;refine rgq (Aq @bp.eq_1 (Aq @bp.eq_2 @aaS.eq_1)) [5,9,10,11,12,13] [28] ?_;refine aq [5,9,10,11,12,75] [28] ?_;refine ag rfl ?_;refine ah (hK4 _ ?_);refine ae fun K5 bN=>?_;refine aq [5,9,10,11,92] [28] ?_;refine aax rfl ?_;have qf:=@bl;refine dv htl [2,3,4] [28,99] ?_;refine dV 99 ?_;exact aG @hcast
   | none,dB,htl,hsome,_=>
    obtain⟨e,rfl⟩:=hsome rfl;obtain⟨ta,ca,mo⟩:=ach e;simp only[dC,mo,ba]at dB;simp only[b9,b7,dC,mo,dS];refine ar.aC (aay _) func122 rfl rfl (rs:=[.tmp 2,.tmp 3,.tmp 4]) results122 (by simp[ntmps122]) fun X=>?_;simp only[ntmps122,List.map];refine aq [0] [] ?_;have qf:=@nZ;refine dv kb [5,6,7] [] ?_;refine aR trivial dO [5,6,7,8] [] ?_;refine ae fun K1 au=>?_;refine aq [5,6,8,26] [] ?_;refine aax rfl ?_;refine aq [5,6,8,9] [28] ?_;refine ae fun K2 aa=>?_;refine aq [5,6,8,9,31] [28] ?_;refine ag rfl ?_;refine ah ?_;refine aa _ (AW.norm [5,6,8,9] [28] (fun _ _=>trivial) (AW.st (by simp;rfl) ?_));refine ae fun K3 aH=>?_;refine aq [5,6,8,9,54] [28] ?_;refine ag rfl ?_;refine ah (aH _ ?_);refine aq [5,6,9] [28] ?_;refine aR trivial dB [5,9,10,11] [28] ?_;refine ae fun K4 hK4=>?_;refine rgq (Aq @bp.eq_1 (Aq @bp.eq_2 @aaS.eq_1)) [5,9,10,11,12,13] [28] ?_;refine aq [5,9,10,11,12,75] [28] ?_;refine ag rfl ?_;refine ah (hK4 _ ?_);refine ae fun K5 bN=>?_;refine aq [5,9,10,11,92] [28] ?_;refine ag rfl ?_;refine ah (bN _ ?_);refine aq [9] [28] ?_;refine aq [2,3,4] [28] ?_;refine dV 28 ?_;exact gG
  | [a,b],dO,jS=>
   have eZ:=yQ kwR a (by decide);simp only[dS]at eZ;show ar _ _ _ _ (b9 (if ixW kwR a < 2 then .form else jC (ixW kwR a) b hd rest));have k8:=zh kwR a;generalize ixW kwR a=k at eZ k8 ⊢;have Hh:k < 7:=k8.2;by_cases hk:k < 2
   .rw[if_pos hk];simp only[b9];refine ar.aC (aay _) func122 rfl rfl (rs:=[.tmp 2,.tmp 3,.tmp 4]) results122 (by simp[ntmps122]) fun X=>?_;simp only[ntmps122,List.map];refine aq [0] [] ?_;have qf:=@nZ;refine dv kb [5,6,7] [] ?_;refine aR trivial dO [5,6,7,8] [] ?_;refine ae fun K1 au=>?_;refine aq [5,6,8,26] [] ?_;refine aax rfl ?_;refine aq [5,6,8,9] [28] ?_;refine ae fun K2 aa=>?_;refine aq [5,6,8,9,31] [28] ?_;refine aax rfl ?_;refine abl (aay _) fun K' af=>?_;(repeat (refine sxn fun K2 aa=>?_;simp;(repeat (refine⟨by omega,?_⟩));refine aa _ ?_;clear aa K2));refine sxn fun K2 aa=>?_;simp;refine aaT.mw (eZ) (by simp;rfl) (by first | exact D.aaE _ | simp[aaA,List.map_map,Function.comp_def,D.le,D.le.go,D.le_refl,D.aaE]) (by simp[D.scalar]) ?_;refine aa _ ?_;clear aa K2;simp only[aD,cu];(repeat (refine sxn fun K2 aa=>?_;simp;(repeat (refine⟨by omega,?_⟩));refine aa _ ?_;clear aa K2));refine sxz (af _ ?_);clear af K';refine aa _ (AW.norm [5,6,8,9] [28,33] (fun _ _=>trivial) (AW.st (by simp;rfl) ?_));refine ae fun K3 aH=>?_;have qf:=@hk;refine al [5,6,8,9,54] [28,33] ?_;refine aax rfl ?_;refine aq [2,3,4] [28,33] ?_;exact gG
   rw[if_neg hk];rw[hR];have hsome:=fun h=>xd (t:=rest) h;have cw:=fun c o h=>xc (t:=rest) (c:=c) (p:=o) h;generalize (fF rest).1=oe at dB hsome ⊢;generalize (fF rest).2=oc at dB htl hsome cw ⊢
   match oc,dB,htl,hsome,cw with
   | some (c,some o),dB,htl,_,cw=>
    have CS:=cw c o rfl
    have hcast:((hd.length+1+o:Nat):Int)=(hd.length:Int)+1+o:=by omega
    simp only[ba]at dB;simp only[b9,Option.getD_some];refine ar.aC (aay _) func122 rfl rfl (rs:=[.tmp 2,.tmp 3,.tmp 4]) results122 (by simp[ntmps122]) fun X=>?_;simp only[ntmps122,List.map];refine aq [0] [] ?_;have qf:=@nZ;refine dv kb [5,6,7] [] ?_;refine aR trivial dO [5,6,7,8] [] ?_;refine ae fun K1 au=>?_;refine aq [5,6,8,26] [] ?_;refine aax rfl ?_;refine aq [5,6,8,9] [28] ?_;refine ae fun K2 aa=>?_;refine aq [5,6,8,9,31] [28] ?_;refine aax rfl ?_;refine abl (aay _) fun K' af=>?_;(repeat (refine sxn fun K2 aa=>?_;simp;(repeat (refine⟨by omega,?_⟩));refine aa _ ?_;clear aa K2));refine sxn fun K2 aa=>?_;simp;refine aaT.mw (eZ) (by simp;rfl) (by first | exact D.aaE _ | simp[aaA,List.map_map,Function.comp_def,D.le,D.le.go,D.le_refl,D.aaE]) (by simp[D.scalar]) ?_;refine aa _ ?_;clear aa K2;simp only[aD,cu];(repeat (refine sxn fun K2 aa=>?_;simp;(repeat (refine⟨by omega,?_⟩));refine aa _ ?_;clear aa K2));refine sxz (af _ ?_);clear af K';refine aa _ (AW.norm [5,6,8,9] [28,33] (fun _ _=>trivial) (AW.st (by simp;rfl) ?_));refine ae fun K3 aH=>?_;have qf:=@hk;refine al [5,6,8,9,54] [28,33] ?_;refine ag rfl ?_;refine ah (aH _ ?_);refine aq [5,6,9] [28,33] ?_;refine aR trivial dB [5,9,10,11] [28,33] ?_;refine ae fun K4 hK4=>?_;refine rgq (Aq @bp.eq_1 (Aq @bp.eq_2 @aaS.eq_1)) [5,9,10,11,12,13] [28,33] ?_;refine aq [5,9,10,11,12,75] [28,33] ?_;refine aax rfl ?_;have qf:=@bl;refine fv [2,3,4] [28,33,89] ?_;refine dV 89 ?_;exact aG @hcast
   | some (c,none),dB,htl,_,_=>
    have hcast:((hd.length+1:Nat):Int)=(hd.length:Int)+1:=by omega
    simp only[ba,codeF]at dB htl;simp only[b9,Option.getD_none,Nat.add_zero];refine ar.aC (aay _) func122 rfl rfl (rs:=[.tmp 2,.tmp 3,.tmp 4]) results122 (by simp[ntmps122]) fun X=>?_;simp only[ntmps122,List.map];refine aq [0] [] ?_;have qf:=@nZ;refine dv kb [5,6,7] [] ?_;refine aR trivial dO [5,6,7,8] [] ?_;refine ae fun K1 au=>?_;refine aq [5,6,8,26] [] ?_;refine aax rfl ?_;refine aq [5,6,8,9] [28] ?_;refine ae fun K2 aa=>?_;refine aq [5,6,8,9,31] [28] ?_;refine aax rfl ?_;refine abl (aay _) fun K' af=>?_;(repeat (refine sxn fun K2 aa=>?_;simp;(repeat (refine⟨by omega,?_⟩));refine aa _ ?_;clear aa K2));refine sxn fun K2 aa=>?_;simp;refine aaT.mw (eZ) (by simp;rfl) (by first | exact D.aaE _ | simp[aaA,List.map_map,Function.comp_def,D.le,D.le.go,D.le_refl,D.aaE]) (by simp[D.scalar]) ?_;refine aa _ ?_;clear aa K2;simp only[aD,cu];(repeat (refine sxn fun K2 aa=>?_;simp;(repeat (refine⟨by omega,?_⟩));refine aa _ ?_;clear aa K2));refine sxz (af _ ?_);clear af K';refine aa _ (AW.norm [5,6,8,9] [28,33] (fun _ _=>trivial) (AW.st (by simp;rfl) ?_));refine ae fun K3 aH=>?_;have qf:=@hk;refine al [5,6,8,9,54] [28,33] ?_;refine ag rfl ?_;refine ah (aH _ ?_);refine aq [5,6,9] [28,33] ?_;refine aR trivial dB [5,9,10,11] [28,33] ?_;refine ae fun K4 hK4=>?_;refine rgq (Aq @bp.eq_1 (Aq @bp.eq_2 @aaS.eq_1)) [5,9,10,11,12,13] [28,33] ?_;refine aq [5,9,10,11,12,75] [28,33] ?_;refine ag rfl ?_;refine ah (hK4 _ ?_);refine ae fun K5 bN=>?_;refine aq [5,9,10,11,92] [28,33] ?_;refine aax rfl ?_;have qf:=@bl;refine dv htl [2,3,4] [28,33,99] ?_;refine dV 99 ?_;exact aG @hcast
   | none,dB,htl,hsome,_=>
    obtain⟨e,rfl⟩:=hsome rfl;obtain⟨ta,ca,mo⟩:=ach e;simp only[dC,mo,ba]at dB;simp only[b9,b7,dC,mo,dS];refine ar.aC (aay _) func122 rfl rfl (rs:=[.tmp 2,.tmp 3,.tmp 4]) results122 (by simp[ntmps122]) fun X=>?_;simp only[ntmps122,List.map];refine aq [0] [] ?_;have qf:=@nZ;refine dv kb [5,6,7] [] ?_;refine aR trivial dO [5,6,7,8] [] ?_;refine ae fun K1 au=>?_;refine aq [5,6,8,26] [] ?_;refine aax rfl ?_;refine aq [5,6,8,9] [28] ?_;refine ae fun K2 aa=>?_;refine aq [5,6,8,9,31] [28] ?_;refine aax rfl ?_;refine abl (aay _) fun K' af=>?_;(repeat (refine sxn fun K2 aa=>?_;simp;(repeat (refine⟨by omega,?_⟩));refine aa _ ?_;clear aa K2));refine sxn fun K2 aa=>?_;simp;refine aaT.mw (eZ) (by simp;rfl) (by first | exact D.aaE _ | simp[aaA,List.map_map,Function.comp_def,D.le,D.le.go,D.le_refl,D.aaE]) (by simp[D.scalar]) ?_;refine aa _ ?_;clear aa K2;simp only[aD,cu];(repeat (refine sxn fun K2 aa=>?_;simp;(repeat (refine⟨by omega,?_⟩));refine aa _ ?_;clear aa K2));refine sxz (af _ ?_);clear af K';refine aa _ (AW.norm [5,6,8,9] [28,33] (fun _ _=>trivial) (AW.st (by simp;rfl) ?_));refine ae fun K3 aH=>?_;have qf:=@hk;refine al [5,6,8,9,54] [28,33] ?_;refine ag rfl ?_;refine ah (aH _ ?_);refine aq [5,6,9] [28,33] ?_;refine aR trivial dB [5,9,10,11] [28,33] ?_;refine ae fun K4 hK4=>?_;refine rgq (Aq @bp.eq_1 (Aq @bp.eq_2 @aaS.eq_1)) [5,9,10,11,12,13] [28,33] ?_;refine aq [5,9,10,11,12,75] [28,33] ?_;refine ag rfl ?_;refine ah (hK4 _ ?_);refine ae fun K5 bN=>?_;refine aq [5,9,10,11,92] [28,33] ?_;refine ag rfl ?_;refine ah (bN _ ?_);refine aq [9] [28,33] ?_;refine aq [2,3,4] [28,33] ?_;refine dV 28 ?_;exact gG
  | a :: b :: c :: l,dO,jS=>
   have n1:¬ ((a :: b :: c :: l).length:Int)=2:=by simp only[List.length_cons];omega
   have n2:¬ ((a :: b :: c :: l).length:Int)=1:=by simp only[List.length_cons];omega
   show ar _ _ _ _ (b9 .form);simp only[b9];generalize a :: b :: c :: l=ws at dO jS n1 n2;refine ar.aC (aay _) func122 rfl rfl (rs:=[.tmp 2,.tmp 3,.tmp 4]) results122 (by simp[ntmps122]) fun X=>?_;simp only[ntmps122,List.map];refine aq [0] [] ?_;have qf:=@nZ;refine dv kb [5,6,7] [] ?_;refine aR trivial dO [5,6,7,8] [] ?_;refine ae fun K1 au=>?_;refine aq [5,6,8,26] [] ?_;refine aax rfl ?_;refine aq [5,6,8,9] [28] ?_;refine ae fun K2 aa=>?_;have qf:=(Aq @n1 @n2);refine al [5,6,8,9,31] [28] ?_;refine ag rfl ?_;refine ah ?_;refine aa _ (AW.norm [5,6,8,9] [28] (fun _ _=>trivial) (AW.st (by simp;rfl) ?_));refine ae fun K3 aH=>?_;have qf:=(Aq @n1 @n2);refine al [5,6,8,9,54] [28] ?_;refine aax rfl ?_;refine aq [2,3,4] [28] ?_;exact gG
 .have iT:abD s=acK (fy s):=by unfold abD;rw[if_neg p5]
  rw[iT];simp only[p5,if_false,decide_false]at kb;have dO:=Gt G s (by omega);have jS:=afp s;have ud:=fun x=>AB (t:=s) (w:=x);generalize jT:fy s=ws at dO jS ud h0 ⊢;obtain⟨a,l,rfl⟩:∃ a l,ws=a :: l:=List.exists_cons_of_ne_nil h0;show ar _ _ _ _ (b9 (abB (ixW nY a) l));have eZ:=yQ nY a (by decide);have k8:=zh nY a;have Hh:ixW nY a < 5:=k8.2;generalize ixW nY a=k at eZ Hh ⊢
  have rT:((a :: l).length:Int)=(l.length:Int)+1:=by simp
  simp only[dS]at kb dO eZ ⊢;refine ar.aC (aay _) func122 rfl rfl (rs:=[.tmp 2,.tmp 3,.tmp 4]) results122 (by simp[ntmps122]) fun X=>?_;simp only[ntmps122,List.map];refine aq [0] [] ?_;have qf:=@nZ;refine dv kb [5,6,7] [] ?_;refine aR trivial dO [5,6,7,8] [] ?_;refine ae fun K1 au=>?_;refine aq [5,6,8,26] [] ?_;refine ag rfl ?_;refine ah (au _ ?_);refine rg [8,14] [106] (fun _ _=>trivial) fun K' af=>?_;(repeat (refine sxn fun K2 aa=>?_;simp;(repeat (refine⟨by omega,?_⟩));refine aa _ ?_;clear aa K2));refine sxn fun K2 aa=>?_;simp;refine aaT.mw (eZ) (by simp;rfl) (by first | exact D.aaE _ | simp[aaA,List.map_map,Function.comp_def,D.le,D.le.go,D.le_refl,D.aaE]) (by simp[D.scalar]) ?_;refine aa _ ?_;clear aa K2;simp only[aD,cu];(repeat (refine sxn fun K2 aa=>?_;simp;(repeat (refine⟨by omega,?_⟩));refine aa _ ?_;clear aa K2));refine sxz (af _ (AW.st (by simp;rfl) ?_));clear af K';refine ae fun K6 hK6=>?_;by_cases hk:k < 1
  .have hF:abB k l = .form:=by
    match l with
    | []=>rfl
    | [b]=>rw[abB,if_neg (by omega)]
    | [b,c]=>rw[abB,if_neg (by omega)]
    | b :: c :: d :: l=>rfl
   rw[hF];simp only[b9];have qf:=@hk;refine al [8,14,120] [106] ?_;refine aax rfl ?_;refine aq [2,3,4] [106] ?_;exact gG
  have yT:k=1\/k=2\/k=3\/k=4:=by omega
  rcases yT with rfl | rfl | rfl | rfl
  .by_cases hl:l.length=1
   .obtain⟨b,rfl⟩:∃ b,l=[b]:=List.length_eq_one_iff.1 hl;have hF:abB 1 [b] = .name ⟨b,1,0⟩:=rfl;have qf:=(Aq @qR @lC);refine al [8,14,120] [106] ?_;refine ag rfl ?_;refine ah (hK6 _ ?_);refine aq [8,14,15] [106,127] ?_;refine ae fun K7 dW=>?_;refine aq [8,15,129] [106,127] ?_;refine ag rfl ?_;refine ah ?_;refine dW _ (AW.norm [15] [106,127] (fun _ _=>trivial) (AW.st (by simp;rfl) ?_));refine aq [2,3,4] [106,127] ?_;refine dV 127 ?_;exact aG (Aq @hF (Aq @b9.eq_1 (Aq @b9.eq_2 (Aq @b9.eq_3 (Aq @b9.eq_4 (Aq @aW.eq_1 @dS.eq_1))))))
   .have hF:abB 1 l = .form:=by
     match l,hl with
     | [],_=>rfl
     | [b],hl=>simp at hl
     | [b,c],_=>rw[abB,if_neg (by omega)]
     | b :: c :: d :: l,_=>rfl
    rw[hF];simp only[b9]
    have hn:¬ (l.length:Int)=1:=by omega
    have kh:¬ (l.length:Int)+1=2:=by omega
    have qf:=(Aq @hn (Aq @kh (Aq @rT (Aq @qR @lC))));refine al [8,14,120] [106] ?_;refine aax rfl ?_;refine aq [2,3,4] [106] ?_;exact gG
  .by_cases hl:l.length=1
   .obtain⟨b,rfl⟩:∃ b,l=[b]:=List.length_eq_one_iff.1 hl;have hF:abB 2 [b] = .name ⟨b,2,0⟩:=rfl;have qf:=(Aq @qR @lC);refine al [8,14,120] [106] ?_;refine ag rfl ?_;refine ah (hK6 _ ?_);refine aq [8,14,15] [106,127] ?_;refine ae fun K7 dW=>?_;refine aq [8,15,129] [106,127] ?_;refine ag rfl ?_;refine ah ?_;refine dW _ (AW.norm [15] [106,127] (fun _ _=>trivial) (AW.st (by simp;rfl) ?_));refine aq [2,3,4] [106,127] ?_;refine dV 127 ?_;exact aG (Aq @hF (Aq @b9.eq_1 (Aq @b9.eq_2 (Aq @b9.eq_3 (Aq @b9.eq_4 (Aq @aW.eq_1 @dS.eq_1))))))
   .have hF:abB 2 l = .form:=by
     match l,hl with
     | [],_=>rfl
     | [b],hl=>simp at hl
     | [b,c],_=>rw[abB,if_neg (by omega)]
     | b :: c :: d :: l,_=>rfl
    rw[hF];simp only[b9]
    have hn:¬ (l.length:Int)=1:=by omega
    have kh:¬ (l.length:Int)+1=2:=by omega
    have qf:=(Aq @hn (Aq @kh (Aq @rT (Aq @qR @lC))));refine al [8,14,120] [106] ?_;refine aax rfl ?_;refine aq [2,3,4] [106] ?_;exact gG
  .by_cases hl:l.length=2
   .obtain⟨b,c,rfl⟩:∃ b c,l=[b,c]:=by
     match l,hl with
     | [b,c],_=>exact⟨b,c,rfl⟩
    have hcl:c.length < 2^40:=by have:=(ud c (by simp)).2;omega
    have cw:=FI G hE c hcl;have bD:abB 3 [b,c]=(match qE c with | some v=>.name ⟨b,3,v⟩ | none=>.form):=rfl;unfold qE at bD
    unfold aed at cw
    simp only[dS]at cw
    have qf:=(Aq @qR @lC);refine al [8,14,120] [106] ?_;refine ag rfl ?_;refine ah (hK6 _ ?_);refine aq [8,14,15] [106,127] ?_;refine ae fun K7 dW=>?_;refine aq [8,15,129] [106,127] ?_;refine aax rfl ?_
    cases hn:Lib.atoiAll c with
    | ok v=>
     rw[hn]at cw bD;dsimp only at cw bD;obtain⟨v0,v1⟩:=Lib.atoiAll_bounds hn;have hit:=Iy G hP v v0 v1;simp only[dS]at hit;generalize Lib.itoa v=iv at hit bD;refine aR trivial cw [8,15,16,17] [106,127] ?_;refine ae fun K8 ez=>?_;by_cases hc:iv=c
     .rw[if_pos hc]at bD;subst hc;refine l6 (aay _) (by kernel_rfl) [15,16,146] [106,127] (fun _ _=>trivial) (by kernel_rfl) fun K' af=>?_;(repeat (refine cH fun K2 aa=>?_;simp[aS,aZ];(repeat (refine⟨by omega,?_⟩));refine aa _ ?_;clear aa K2));refine cH fun K2 aa=>?_;simp[aS,aZ];refine gp.data (hit) (by simp;rfl) (by simp;rfl) (by first | exact D.aaE _ | simp[aaA,List.map_map,Function.comp_def,D.le,D.le.go,D.le_refl,D.aaE,aS,aZ]) ?_;refine aa _ ?_;clear aa K2;simp only[aD,cu];(repeat (refine cH fun K2 aa=>?_;simp[aS,aZ];(repeat (refine⟨by omega,?_⟩));refine aa _ ?_;clear aa K2));refine jh (af _ ?_);refine AW.st (by simp[aS,aZ];rfl) ?_;clear af K';refine ag rfl ?_;refine ah (ez _ ?_);refine reK trivial dW [15] [106,127] ?_;refine aq [2,3,4] [106,127] ?_;refine dV 127 ?_;exact aG (Aq @bD (Aq @b9.eq_1 (Aq @b9.eq_2 (Aq @b9.eq_3 (Aq @b9.eq_4 (Aq @aW.eq_1 @dS.eq_1))))))
     .rw[if_neg hc]at bD;refine l6 (aay _) (by kernel_rfl) [15,16,146] [106,127] (fun _ _=>trivial) (by kernel_rfl) fun K' af=>?_;(repeat (refine cH fun K2 aa=>?_;simp[aS,aZ,hc];(repeat (refine⟨by omega,?_⟩));refine aa _ ?_;clear aa K2));refine cH fun K2 aa=>?_;simp[aS,aZ,hc];refine gp.data (hit) (by simp;rfl) (by simp;rfl) (by first | exact D.aaE _ | simp[aaA,List.map_map,Function.comp_def,D.le,D.le.go,D.le_refl,D.aaE,aS,aZ,hc]) ?_;refine aa _ ?_;clear aa K2;simp only[aD,cu];(repeat (refine cH fun K2 aa=>?_;simp[aS,aZ,hc];(repeat (refine⟨by omega,?_⟩));refine aa _ ?_;clear aa K2));refine jh (af _ ?_);refine AW.st (by simp[aS,aZ,hc];rfl) ?_;clear af K';refine aax (by simp[hc]) ?_;refine aq [2,3,4] [106,127] ?_;exact aG (Aq @bD (Aq @b9.eq_1 (Aq @b9.eq_2 (Aq @b9.eq_3 @b9.eq_4))))
    | range=>
     rw[hn]at cw bD;dsimp only[oD]at cw bD;refine aR trivial cw [8,15,16,17] [106,127] ?_;refine ae fun K8 ez=>?_;refine zX trivial [15,16,146] [106,127] ?_;refine aax rfl ?_;refine aq [2,3,4] [106,127] ?_;exact aG (Aq @bD (Aq @b9.eq_1 (Aq @b9.eq_2 (Aq @b9.eq_3 @b9.eq_4))))
    | _=>
     rw[hn]at cw bD;dsimp only[oD]at cw bD;refine aR trivial cw [8,15,16,17] [106,127] ?_;refine ae fun K8 ez=>?_;refine zX trivial [15,16,146] [106,127] ?_;refine aax rfl ?_;refine aq [2,3,4] [106,127] ?_;exact aG (Aq @bD (Aq @b9.eq_1 (Aq @b9.eq_2 (Aq @b9.eq_3 @b9.eq_4))))
   .have hF:abB 3 l = .form:=by
     match l,hl with
     | [],_=>rfl
     | [b],_=>rw[abB,if_neg (by omega)]
     | [b,c],hl=>simp at hl
     | b :: c :: d :: l,_=>rfl
    rw[hF];simp only[b9]
    have hn:¬ (l.length:Int)=2:=by omega
    have kh:¬ (l.length:Int)+1=3:=by omega
    have qf:=(Aq @hn (Aq @kh (Aq @rT (Aq @qR @lC))));refine al [8,14,120] [106] ?_;refine aax rfl ?_;refine aq [2,3,4] [106] ?_;exact gG
  .by_cases hl:l.length=2
   .obtain⟨b,c,rfl⟩:∃ b c,l=[b,c]:=by
     match l,hl with
     | [b,c],_=>exact⟨b,c,rfl⟩
    have hcl:c.length < 2^40:=by have:=(ud c (by simp)).2;omega
    have cw:=FI G hE c hcl;have bD:abB 4 [b,c]=(match qE c with | some v=>.name ⟨b,4,v⟩ | none=>.form):=rfl;unfold qE at bD
    unfold aed at cw
    simp only[dS]at cw
    have qf:=(Aq @qR @lC);refine al [8,14,120] [106] ?_;refine ag rfl ?_;refine ah (hK6 _ ?_);refine aq [8,14,15] [106,127] ?_;refine ae fun K7 dW=>?_;refine aq [8,15,129] [106,127] ?_;refine aax rfl ?_
    cases hn:Lib.atoiAll c with
    | ok v=>
     rw[hn]at cw bD;dsimp only at cw bD;obtain⟨v0,v1⟩:=Lib.atoiAll_bounds hn;have hit:=Iy G hP v v0 v1;simp only[dS]at hit;generalize Lib.itoa v=iv at hit bD;refine aR trivial cw [8,15,16,17] [106,127] ?_;refine ae fun K8 ez=>?_;by_cases hc:iv=c
     .rw[if_pos hc]at bD;subst hc;refine l6 (aay _) (by kernel_rfl) [15,16,146] [106,127] (fun _ _=>trivial) (by kernel_rfl) fun K' af=>?_;(repeat (refine cH fun K2 aa=>?_;simp[aS,aZ];(repeat (refine⟨by omega,?_⟩));refine aa _ ?_;clear aa K2));refine cH fun K2 aa=>?_;simp[aS,aZ];refine gp.data (hit) (by simp;rfl) (by simp;rfl) (by first | exact D.aaE _ | simp[aaA,List.map_map,Function.comp_def,D.le,D.le.go,D.le_refl,D.aaE,aS,aZ]) ?_;refine aa _ ?_;clear aa K2;simp only[aD,cu];(repeat (refine cH fun K2 aa=>?_;simp[aS,aZ];(repeat (refine⟨by omega,?_⟩));refine aa _ ?_;clear aa K2));refine jh (af _ ?_);refine AW.st (by simp[aS,aZ];rfl) ?_;clear af K';refine ag rfl ?_;refine ah (ez _ ?_);refine reK trivial dW [15] [106,127] ?_;refine aq [2,3,4] [106,127] ?_;refine dV 127 ?_;exact aG (Aq @bD (Aq @b9.eq_1 (Aq @b9.eq_2 (Aq @b9.eq_3 (Aq @b9.eq_4 (Aq @aW.eq_1 @dS.eq_1))))))
     .rw[if_neg hc]at bD;refine l6 (aay _) (by kernel_rfl) [15,16,146] [106,127] (fun _ _=>trivial) (by kernel_rfl) fun K' af=>?_;(repeat (refine cH fun K2 aa=>?_;simp[aS,aZ,hc];(repeat (refine⟨by omega,?_⟩));refine aa _ ?_;clear aa K2));refine cH fun K2 aa=>?_;simp[aS,aZ,hc];refine gp.data (hit) (by simp;rfl) (by simp;rfl) (by first | exact D.aaE _ | simp[aaA,List.map_map,Function.comp_def,D.le,D.le.go,D.le_refl,D.aaE,aS,aZ,hc]) ?_;refine aa _ ?_;clear aa K2;simp only[aD,cu];(repeat (refine cH fun K2 aa=>?_;simp[aS,aZ,hc];(repeat (refine⟨by omega,?_⟩));refine aa _ ?_;clear aa K2));refine jh (af _ ?_);refine AW.st (by simp[aS,aZ,hc];rfl) ?_;clear af K';refine aax (by simp[hc]) ?_;refine aq [2,3,4] [106,127] ?_;exact aG (Aq @bD (Aq @b9.eq_1 (Aq @b9.eq_2 (Aq @b9.eq_3 @b9.eq_4))))
    | range=>
     rw[hn]at cw bD;dsimp only[oD]at cw bD;refine aR trivial cw [8,15,16,17] [106,127] ?_;refine ae fun K8 ez=>?_;refine zX trivial [15,16,146] [106,127] ?_;refine aax rfl ?_;refine aq [2,3,4] [106,127] ?_;exact aG (Aq @bD (Aq @b9.eq_1 (Aq @b9.eq_2 (Aq @b9.eq_3 @b9.eq_4))))
    | _=>
     rw[hn]at cw bD;dsimp only[oD]at cw bD;refine aR trivial cw [8,15,16,17] [106,127] ?_;refine ae fun K8 ez=>?_;refine zX trivial [15,16,146] [106,127] ?_;refine aax rfl ?_;refine aq [2,3,4] [106,127] ?_;exact aG (Aq @bD (Aq @b9.eq_1 (Aq @b9.eq_2 (Aq @b9.eq_3 @b9.eq_4))))
   .have hF:abB 4 l = .form:=by
     match l,hl with
     | [],_=>rfl
     | [b],_=>rw[abB,if_neg (by omega)]
     | [b,c],hl=>simp at hl
     | b :: c :: d :: l,_=>rfl
    rw[hF];simp only[b9]
    have hn:¬ (l.length:Int)=2:=by omega
    have kh:¬ (l.length:Int)+1=3:=by omega
    have qf:=(Aq @hn (Aq @kh (Aq @rT (Aq @qR @lC))));refine al [8,14,120] [106] ?_;refine aax rfl ?_;refine aq [2,3,4] [106] ?_;exact gG
end Go.Proofs.YtdigkhaofjmgkaaGreatDoor
namespace Go.Av
section
variable {P:Program} {T:Ty} {Mv X:Nat->Prop} {G:ao} {N:Fr} {w w':World} {μ:Mu} {a:Act} {σ:St} {ops:Array Oper} {db:List Nat} {fp:List (Nat×Nat)}
def s4 (P:Program) (T:Ty) (Mv:Nat->Prop) (G:ao) (N:Fr) (db:List Nat) (fp:List (Nat×Nat)) (i:Nat) (o:Oper) (σ aw:St):Prop:=
 lD P T Mv G N db i o σ aw/\(db.contains i=false->mG G fp σ.env i o.op)
theorem lD.env {i:Nat} {o:Oper} {σ aw:St} (h:lD P T Mv G N db i o σ aw):∃ v,aw.env=aD σ.env o.dst v:=by
 rcases h.2.2 with⟨_,c,y,_,_,rfl⟩ | ⟨_,_,x,H',_,rfl⟩
 .exact⟨_,rfl⟩
 .exact⟨_,rfl⟩
def aet (db:List Nat) (fp:List (Nat×Nat)) (ops:Array Oper) (i j:Nat) (oi oj:Oper):Bool:=ad9 db ops i j oi oj || (!db.contains i && !db.contains j && oi.apart ops oj && ui oi.op && ui oj.op && match fp.lookup i,fp.lookup j with
 | some r,some r'=>!(r == r')
 | _,_=>false)
theorem V3 {i j:Nat} {oi oj:Oper} (hc:aet db fp ops i j oi oj=true) {σ aI eL:St} (h1:s4 P T Mv G N db fp i oi σ aI) (h2:s4 P T Mv G N db fp j oj aI eL) :
  ∃ e6,s4 P T Mv G N db fp j oj σ e6/\s4 P T Mv G N db fp i oi e6 eL:=by
 obtain⟨s1,t1⟩:=h1;obtain⟨s2,t2⟩:=h2
 have eX:oi.apart ops oj=true:=by
  simp only[aet,ad9,Bool.or_eq_true,Bool.and_eq_true]at hc
  rcases hc with hc | hc
  .exact hc.1
  .exact hc.1.1.1.2
 have agj:∀ v,fA oj.op (aD σ.env oi.dst v) σ.env:=fun v t ht=>(ace eX (e:=σ.env) (v:=v)).1 t (iF ht);have eT:∀ v,fA oi.op σ.env (aD σ.env oj.dst v):=fun v t ht=>((ace eX (e:=σ.env) (v:=v)).2.1 t (iF ht)).symm;have aO:=(ace eX (e:=σ.env) (v:=cC)).2.2;obtain⟨v1,mR⟩:=s1.env
 have main:∃ e6,lD P T Mv G N db j oj σ e6/\lD P T Mv G N db i oi e6 eL:=by
  simp only[aet,Bool.or_eq_true]at hc
  rcases hc with hc | hc
  .exact Gw hc s1 s2
  .simp only[Bool.and_eq_true,Bool.not_eq_true']at hc;obtain⟨⟨⟨⟨⟨bi,bj⟩,_⟩,li⟩,lj⟩,rL⟩:=hc;have Li:=t1 bi;have EU:=t2 bj
   cases bz:fp.lookup i with
   | none=>simp[bz]at rL
   | some r=>
    cases rK:fp.lookup j with
    | none=>simp[bz,rK]at rL
    | some r'=>
     have hr:r≠r':=by simpa[bz,rK]using rL
     obtain⟨di,gi,s1⟩:=s1;obtain⟨dj,gj,s2⟩:=s2
     rcases s1 with⟨b,_⟩ | ⟨_,k1,x,H',e1,rfl⟩
     .rw[bi]at b;cases b
     rcases s2 with⟨b,_⟩ | ⟨_,k2,z,H2,e2,rfl⟩
     .rw[bj]at b;cases b
     dsimp only at e2 EU mR;simp only[mG,bz]at Li;simp only[mG,rK]at EU;obtain⟨u,rfl,DE⟩:=e1.xG Li;have e2:=e2.congr k2 (agj _);obtain⟨u',rfl,DF⟩:=e2.xG (D4 (agj _) EU);refine⟨⟨aD σ.env oj.dst z,acB σ.H r' u'⟩,⟨dj,gj,.inr ⟨bj,k2,z,acB σ.H r' u',DF σ.H (zS (H:=σ.H) (u:=u) (Ne.symm hr)).symm,rfl⟩⟩,di,gi,.inr ⟨bi,k1,x,acB (acB σ.H r' u') r u,(DE (acB σ.H r' u') (zS hr)).congr k1 (eT _),?_⟩⟩;rw[J0 hr,fG aO]
 obtain⟨e6,f1,f2⟩:=main;obtain⟨v3,vu⟩:=f1.env;refine⟨e6,⟨f1,fun hb=>?_⟩,f2,fun hb=>?_⟩
 .have h:=t2 hb;rw[mR]at h;exact Ap (agj _) h
 .rw[vu];exact Ap (eT _) (t1 hb)
def uT (P:Program) (T:Ty) (Mv:Nat->Prop) (G:ao) (N:Fr) (db:List Nat) (fp:List (Nat×Nat)) (ops:Array Oper):List Nat->St->St->Prop
 | [],σ,aw=>σ=aw
 | i :: l,σ,aw=>∃ o,ops[i]? = some o/\∃ aI,s4 P T Mv G N db fp i o σ aI/\uT P T Mv G N db fp ops l aI aw
theorem WS {p:Nat} {op:Oper} (hp:ops[p]? = some op):∀ (l1:List Nat) {l2:List Nat} {σ aw:St},(∀ q∈l1,∀ oq,ops[q]? = some oq->aet db fp ops q p oq op=true)->uT P T Mv G N db fp ops (l1 ++ p :: l2) σ aw->uT P T Mv G N db fp ops (p :: (l1 ++ l2)) σ aw:=by
 intro l1
 induction l1 with
 | nil=>intro l2 σ aw _ h;exact h
 | cons q l1 ih=>
  intro l2 σ aw bB h;obtain⟨oq,hq,aI,s1,rest⟩:=h;obtain⟨o',eO,eL,s2,py⟩:=ih (fun q' hq'=>bB q' (by simp[hq'])) rest;rw[hp]at eO;obtain rfl:=Option.some.inj eO;obtain⟨e6,f1,f2⟩:=V3 (bB q (by simp) oq hq) s1 s2;exact⟨op,hp,e6,f1,oq,hq,eL,f2,py⟩
def xb (db:List Nat) (fp:List (Nat×Nat)) (ord:List Nat) (ops:Array Oper):Bool:=
 let t:=tb ops
 ord.length == ops.size && (ord.all fun i=>decide (i < ops.size)) && ((List.range ops.size).all fun i=>ord.contains i) && decide ord.Nodup &&
 ((List.range ops.size).all fun j=>match ops[j]? with
  | some oj=>oj.after.all fun e=>!Region.binds .any e || e.on < j
  | none=>true) &&
 go t ord
where
 go (t:List Nat):List Nat->Bool
 | []=>true
 | a :: l=>(l.all fun b=>match ops[a]?,ops[b]? with
  | some oa,some ob=>(oa.after.all fun e=>!Region.binds .any e || !(e.on == b)) && ((t.getD b 0).testBit a || aet db fp ops a b oa ob)
  | _,_=>true) && go t l
def AP (db:List Nat) (fp:List (Nat×Nat)) (ops:Array Oper) (a b:Nat):Prop:=∀ oa ob,ops[a]? = some oa->ops[b]? = some ob->
 (∀ e∈oa.after,Region.binds .any e=true->e.on≠b)/\(((tb ops).getD b 0).testBit a=true\/aet db fp ops a b oa ob=true)
theorem JI:∀ {l:List Nat},xb.go db fp ops (tb ops) l=true->l.Pairwise (AP db fp ops)
 | [],_=>.nil
 | a :: l,h=>by
  simp only[xb.go,Bool.and_eq_true]at h;refine .cons (fun b hb oa ob pb hob=>?_) (JI h.2);have:=List.all_eq_true.1 h.1 b hb;simp only[pb,hob,Bool.and_eq_true,Bool.or_eq_true]at this;refine⟨fun e he oS heq=>?_,this.2⟩;have h1:=Array.all_eq_true_iff_forall_mem.1 this.1 e he;simp[oS,heq]at h1
theorem Mk (hg:Good P T) (ay:∀ j oj,ops[j]? = some oj->∀ e∈oj.after,Region.binds .any e=true->e.on < j) {Q:Exit->St->Prop} {w0:World} {gm:Mu} {σn:St} (hQ:Q .normal σn):∀ (n:Nat) (R:List Nat) (listed:Array Bool) (w:World) (μ:Mu) (a:Act) (σ:St),R.length=n->R.Nodup->
  (∀ j,j∈R↔j < ops.size/\listed.getD j true=false)->listed.size=ops.size->R.Pairwise (AP db fp ops)->
  (∀ j oj,ops[j]? = some oj->listed.getD j false=true->∀ e∈oj.after,Region.binds .any e=true->listed.getD e.on false=true)->uT P T Mv G N db fp ops R σ σn->In w X G μ N a σ->Ev Mv w0 gm w μ->
  wpAnyIn (wd N.ro) 0 P .any ops (After Mv X G N w0 gm Q) n listed a w:=by
 intro n
 induction n with
 | zero=>
  intro R listed w μ a σ hl _ hR aK _ _ bR hi aJ;have:R=[]:=List.eq_nil_of_length_eq_zero hl;subst this
  have hr:Region.ready .any ops listed=[]:=by
   apply List.eq_nil_iff_forall_not_mem.2;intro j hj;obtain⟨h1,o,ho,_⟩:=mem_ready.1 hj;exact absurd ((hR j).2 ⟨(Array.getElem?_eq_some_iff.1 ho).1,h1⟩) (by simp)
  have:σ=σn:=bR;subst this;exact⟨hr,μ,σ,hQ,hi,aJ⟩
 | succ n ih=>
  intro R listed w μ a σ hl fe hR aK fL acJ bR hi aJ;refine⟨fun hr=>?_,fun i nc=>?_⟩
  .cases R with
   | nil=>simp at hl
   | cons j R=>
    obtain⟨ia,hj2⟩:=(hR j).1 (by simp)
    have bw:ops[j]? = some ops[j]:=by simp[ia]
    have jN:j∈Region.ready .any ops listed:=by
     refine mem_ready.2 ⟨hj2,ops[j],bw,fun e he hb=>?_⟩;have qj:=ay j ops[j] bw e he hb
     have aaZ:e.on < ops.size:=by omega
     have aO:e.on ∉ (j :: R):=by
      intro hm
      rcases List.mem_cons.1 hm with h | h
      .omega
      .exact ((List.pairwise_cons.1 fL).1 _ h ops[j] ops[e.on] bw (by simp[aaZ])).1 e he hb rfl
     have:=mt (hR e.on).2 aO
     have gX:e.on < listed.size:=by omega
     simp only[aaZ,true_and,Array.getD_eq_getD_getElem?]at this ⊢;simp[gX]at this ⊢;exact this
    rw[hr]at jN;cases jN
  .obtain⟨cO,oi,b5,bB⟩:=mem_ready.1 nc;have na:i∈R:=(hR i).2 ⟨(Array.getElem?_eq_some_iff.1 b5).1,cO⟩;obtain⟨R1,R2,rfl⟩:=List.append_of_mem na
   have mZ:=WS (P:=P) (T:=T) (Mv:=Mv) (G:=G) (N:=N) (db:=db) (fp:=fp) b5 R1 (fun q hq oq jR=>by
    have pc:AP db fp ops q i:=(List.pairwise_append.1 fL).2.2 q hq i (by simp)
    rcases (pc oq oi jR b5).2 with h | h
    .exfalso;have jO:=vl ay acJ i i oi (Nat.le_refl _) b5 bB q h;have dY:=((hR q).1 (by simp[hq])).2
     have nh:q < listed.size:=by have:=(Array.getElem?_eq_some_iff.1 jR).1;omega
     simp[Array.getD_eq_getD_getElem?,nh]at jO dY;rw[jO]at dY;cases dY
    .exact h) bR
   obtain⟨o',eO,aI,hstep,bt⟩:=mZ;rw[b5]at eO;obtain rfl:=Option.some.inj eO;refine hstep.1.ok hg hi b5 fun w' ax a' aF iP=>?_
   have nd:(R1 ++ R2).Nodup:=by
    have:=fe;rw[List.nodup_append]at this ⊢;obtain⟨g1,g2,g3⟩:=this;exact⟨g1,(List.nodup_cons.1 g2).2,fun x hx y hy=>g3 x hx y (by simp[hy])⟩
   have ady:i ∉ R1 ++ R2:=by
    have:=fe;rw[List.nodup_append]at this;obtain⟨g1,g2,g3⟩:=this;intro hm
    rcases List.mem_append.1 hm with h | h
    .exact g3 i h i (by simp) rfl
    .exact (List.nodup_cons.1 g2).1 h
   refine ih (R1 ++ R2) _ w' ax a' aI (by simp at hl ⊢;omega) nd (fun j=>?_) (by simpa using aK) ?_ ?_ bt aF (aJ.trans iP)
   .by_cases hji:j=i
    .subst hji
     have gX:j < listed.size:=by rw[aK];exact (Array.getElem?_eq_some_iff.1 b5).1
     simp[gX];simpa using ady
    .rw[getD_set_ne true (Ne.symm hji)];rw[<- hR j];simp[hji]
   .rw[List.pairwise_append]at fL ⊢;obtain⟨g1,g2,g3⟩:=fL;exact⟨g1,(List.pairwise_cons.1 g2).2,fun x hx y hy=>g3 x hx y (by simp[hy])⟩
   .intro j oj bw dH e he hb;by_cases hji:j=i
    .subst hji;rw[b5]at bw;obtain rfl:=Option.some.inj bw;exact getD_set_true (bB e he hb)
    .rw[getD_set_ne false (Ne.symm hji)]at dH;exact getD_set_true (acJ j oj bw dH e he hb)
def Ak (P:Program) (T:Ty) (Mv:Nat->Prop) (G:ao) (N:Fr) (db:List Nat) (fp:List (Nat×Nat)) (i:Nat) (o:Oper) (σ:St) (K:St->Prop):Prop:=abF N o/\o.guard=none/\
 if db.contains i=true then (match ky T G σ.env o with
  | some (c,y)=>c/\K ⟨aD σ.env o.dst (.d y),σ.H⟩
  | none=>False)
 else mG G fp σ.env i o.op/\kindOf o.op≠9/\match cz o.op with
  | some c=>mM P G c σ.env o.dst σ.H [] [] K
  | none=>qJ T G Mv o σ [] K
def pB (P:Program) (T:Ty) (Mv:Nat->Prop) (G:ao) (N:Fr) (db:List Nat) (fp:List (Nat×Nat)) (K:St->Prop):List (Nat×Oper)->St->Prop
 | [],σ=>K σ
 | (i,o) :: rest,σ=>Ak P T Mv G N db fp i o σ (pB P T Mv G N db fp K rest)
theorem Xz {K:St->Prop}:∀ (l:List Nat) (σ:St),(∀ i∈l,i < ops.size)->pB P T Mv G N db fp K (aaV ops l) σ->∃ σn,K σn/\uT P T Mv G N db fp ops l σ σn:=by
 intro l
 induction l with
 | nil=>intro σ _ h;exact⟨σ,h,rfl⟩
 | cons i l ih=>
  intro σ hl h;have hi:=hl i (by simp)
  have ho:ops[i]? = some ops[i]:=by simp[hi]
  simp only[aaV,ho]at h;generalize ops[i]=o at ho h;simp only[pB,Ak]at h;obtain⟨hd,hgu,h⟩:=h
  have fin:∀ aI,s4 P T Mv G N db fp i o σ aI->pB P T Mv G N db fp K (aaV ops l) aI->∃ σn,K σn/\uT P T Mv G N db fp ops (i :: l) σ σn:=fun aI hs h1=>by
   obtain⟨σn,hk,hr⟩:=ih aI (fun j hj=>hl j (by simp[hj])) h1;exact⟨σn,hk,o,ho,aI,hs,hr⟩
  split at h
  .rename_i hb;split at h
   .rename_i c y hw;obtain⟨hc,h⟩:=h;exact fin _ ⟨⟨hd,hgu,.inl ⟨hb,c,y,hw,hc,rfl⟩⟩,fun e=>by rw[hb]at e;cases e⟩ h
   .exact h.elim
  .rename_i hb
   have hb:db.contains i=false:=by simpa using hb
   obtain⟨C6,hk,h⟩:=h;split at h
   .rename_i c hc;obtain⟨y,g,ds,ht,hp,abL,h⟩:=h;refine fin _ ⟨⟨hd,hgu,.inr ⟨hb,hk,.d y,σ.H,?_,rfl⟩⟩,fun _=>C6⟩ h;unfold Ex;simp only[hc];exact⟨y,⟨g,_,ht,.inl ⟨ds,rfl,hp⟩⟩,rfl,trivial⟩
   .rename_i hc;unfold qJ at h;split at h
    .rename_i hw;split at h
     .rename_i c x aI h1;obtain⟨bW,abL,h⟩:=h;have he:=aeP hk h1;obtain⟨e,H⟩:=σ;obtain⟨e1,H1⟩:=aI;dsimp only at he;subst he;refine fin _ ⟨⟨hd,hgu,.inr ⟨hb,hk,x,H1,?_,rfl⟩⟩,fun _=>C6⟩ h;unfold Ex;simp only[hc];rw[if_pos hw];exact⟨c,h1,bW⟩
     .exact h.elim
    .rename_i hw;split at h
     .rename_i c x h1;obtain⟨bW,abL,h⟩:=h;refine fin _ ⟨⟨hd,hgu,.inr ⟨hb,hk,x,σ.H,?_,rfl⟩⟩,fun _=>C6⟩ h;unfold Ex;simp only[hc];rw[if_neg hw];exact⟨c,h1,bW,trivial⟩
     .exact h.elim
theorem LY (hg:Good P T) (hm:P.follows .mixedOrders=true) (db:List Nat) (fp:List (Nat×Nat)) (ord:List Nat) {id:Nat} (bJ:xb db fp ord ops=true) {Q:Exit->St->Prop} {σ:St} (h:pB P T Mv G N db fp (fun aw=>Q .normal aw) (aaV ops ord) σ):AW P Mv X G N (.region id ops true) Q σ:=fun w μ a hi=>by
 unfold xb at bJ;simp only[Bool.and_eq_true]at bJ;obtain⟨⟨⟨⟨⟨h1,h2⟩,h3⟩,h4⟩,h5⟩,h6⟩:=bJ
 have hlen:ord.length=ops.size:=by simpa using h1
 have ay:∀ i∈ord,i < ops.size:=fun i hi=>by simpa using List.all_eq_true.1 h2 i hi
 have bB:∀ i,i < ops.size->i∈ord:=fun i hi=>by simpa using List.all_eq_true.1 h3 i (List.mem_range.2 hi)
 have fe:ord.Nodup:=by simpa using h4
 have adV:∀ j oj,ops[j]? = some oj->∀ e∈oj.after,Region.binds .any e=true->e.on < j:=fun j oj bw e he hb=>by
  have:=List.all_eq_true.1 h5 j (List.mem_range.2 (Array.getElem?_eq_some_iff.1 bw).1);simp only[bw]at this;have:=Array.all_eq_true_iff_forall_mem.1 this e he;simpa[hb]using this
 obtain⟨σn,hQ,bR⟩:=Xz ord σ ay h;refine wpIn_region_any hm ?_;obtain⟨aF,aJ⟩:=hi.j7 (Mv:=Mv) (bY.drew w);refine Mk hg adV hQ ops.size ord _ w.drew μ a σ hlen fe (fun j=>?_) (by simp) (JI h6) ?_ bR aF aJ
 .constructor
  .intro hj;have:=ay j hj;simp[Array.getD_eq_getD_getElem?,this]
  .intro hj;exact bB j hj.1
 .intro j oj bw dH;have hj:=(Array.getElem?_eq_some_iff.1 bw).1;simp[Array.getD_eq_getD_getElem?,hj]at dH
theorem AE (hg:Good P T) (hm:P.follows .mixedOrders=true) (db:List Nat) (fp:List (Nat×Nat)) (ord:List Nat) (l ns:List Nat) (hM:∀ r,ns.contains r=false->Mv r) {id:Nat} (bJ:xb db fp ord ops=true) {y:Code} {Q:Exit->St->Prop} {σ:St}
  (h:∀ K:St->Prop,(∀ τ:St,AW P Mv X G N y Q (τ.norm l ns)->K τ)->pB P T Mv G N db fp K (aaV ops ord) σ):AW P Mv X G N (.seq (.region id ops true) y) Q σ:=
 adP (LY hg hm db fp ord bJ (h _ fun _ h=>h.norm l ns hM))
theorem EP {K:St->Prop} {i:Nat} {l:List Nat} {o:Oper} (ho:ops[i]? = some o) (h:∀ K':St->Prop,(∀ τ,pB P T Mv G N db fp K (aaV ops l) τ->K' τ)->Ak P T Mv G N db fp i o σ K'):pB P T Mv G N db fp K (aaV ops (i :: l)) σ:=by
 have:aaV ops (i :: l)=(i,o) :: aaV ops l:=by simp[aaV,ho]
 rw[this];exact h _ fun _ h=>h
theorem ER {K:St->Prop} (h:K σ):pB P T Mv G N db fp K (aaV ops []) σ:=h
end
attribute [simp] Ak
