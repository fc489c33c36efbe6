/- Parts. -/
import Derived.Test.YtdigkhaofjmgkaaGreatDoorIs30
import Derived.Test.YtdigkhaofjmgkaaGreatDoorIs31
import Derived.Test.YtdigkhaofjmgkaaGreatDoorIs32
import Derived.Test.YtdigkhaofjmgkaaGreatDoorIs33
import Derived.Shelf.Strconv.Itoa4
import Derived.Shelf.Strconv.ParseIntPublic10
import Derived.Lib.ParseIntBTie
set_option linter.unusedSectionVars false
set_option linter.unusedSimpArgs false
set_option linter.unusedVariables false
set_option maxHeartbeats 16000000
set_option maxRecDepth 100000
open Go.Proofs.Tryz
namespace Go.Proofs.YtdigkhaofjmgkaaGreatDoor
open Go.Av Go.Shelf Go.RowKit
def abH (G:YI):Prop:=G 7=some (.j0 (Lib.pow10Tab.map fun z=>Value.int .u64 z).toArray)
def sM (v:Value):Prop:=v = .nilIface\/∃ te pe,v = .iface te pe
def px (G:YI) (es er:Value):Prop:=(G 5=some (.ip [.v es])/\sM es)/\G 6=some (.ip [.v er])/\sM er
theorem E2 {G:YI} {g:Nat} {v:Value} {w:World} {X:Nat->Prop} (hm:G g=some (.ip [.v v])) (Y7:∀ g x,G g=some x->RD w X (.pointer (some ⟨g,0,none⟩)) x):w.cell? ⟨g,0,none⟩=some v:=by
 obtain⟨b',off,f,hp,_,_,Zh,hr⟩:=(Y7 _ _ hm).abj;have h0:=Zh 0 (by simp);have h1:=(hr 0 _ rfl).scalar;rw[h1]at h0;injection hp with hp;injection hp with hp;injection hp with ez ZA _;subst ez ZA;exact h0
theorem Uc {G:YI} (h:abH G) {w:World} {X:Nat->Prop} (Y7:∀ g x,G g=some x->RD w X (.pointer (some ⟨g,0,none⟩)) x):Lib.TabIs prog w "internal/strconv.uint64pow10" .u64 Lib.pow10Tab:=by
 have h1:=Y7 _ _ h
 obtain⟨ty,fr,hh⟩:∃ ty fr,w.heap[7]? = some (.cells (Lib.pow10Tab.map fun z=>Value.int .u64 z).toArray ty fr):=by
  generalize hy:D.j0 _=y at h1;cases h1<;>cases hy;exact⟨_,_,by assumption⟩
 unfold Lib.TabIs World.var?;rw[show prog.globalNamed "internal/strconv.uint64pow10" = some 7 by kernel_rfl];simp only[Option.bind_some,hh]
theorem Nf (w:World) (os:Array Obj):bT w (Go.Sort.grow w os):=⟨by simp[Go.Sort.grow],rfl,rfl,rfl,fun b hb=>by simp[Go.Sort.grow,Array.getElem?_append_left hb]⟩
theorem bT.trans' {w w1 w2:World} (h:bT w w1) (h2:bT w1 w2):bT w w2:=⟨Nat.le_trans h.size h2.size,h2.os.trans h.os,h2.tape.trans h.tape,h2.output.trans h.output,fun b hb=>(h2.same b (Nat.lt_of_lt_of_le hb h.size)).trans (h.same b hb)⟩
theorem Hg (G:YI) (hP:abH G) (n:Int) (h0:-9223372036854775808<=n) (h1:n<=9223372036854775807):aq prog G 177 [.v (.int .i64 n)] (dS (Lib.itoa n)):=by
 refine aq.rT (fo.of func177 rfl rfl) fun X w vs aK bq Y7=>?_
 obtain⟨u,rfl⟩:∃ u,vs = #[u]:=by
  match vs,aK with
  | ⟨[u]⟩,_=>exact⟨u,rfl⟩
 have hu:=(bq 0 u _ rfl rfl).scalar;subst hu;refine (Any.strconv_Itoa Tryz.SO n h0 h1 w (Uc hP Y7)).mono fun e w' ⟨he,k,os,hw⟩=>⟨_,he,by rw[hw];exact bT.trans' (zr w k) (Nf _ _),.v _⟩
def pG (f s:Tx) (ev:Value):D:=.bh 339 (.ip [dS f,dS s,.v ev])
def acO (f s:Tx) (es er:Value):D:=match Lib.atoiAll s with
 | .ok v=>.aT [.v (.int .i64 v),.v .nilIface]
 | .range=>.aT [.v (.int .i64 (Lib.atoiSat s)),pG f s er]
 | _=>.aT [.v (.int .i64 0),pG f s es]
theorem CF {w:World} {X:Nat->Prop} (v:Int):RD w X (.tuple #[.int .i64 v,.nilIface]) (.aT [.v (.int .i64 v),.v .nilIface]):=.aT rfl fun j u c hu hc=>by
 match j,hu,hc with
 | 0,hu,hc=>simp at hu hc;subst hu hc;exact .v _
 | 1,hu,hc=>simp at hu hc;subst hu hc;exact .v _
 | j+2,hu,hc=>simp at hu
theorem IC {w w':World} {X:Nat->Prop} (aae:∀ b,X b->b < w.heap.size) {v:Int} {f s:Tx} {ev:Value} {N:Nat} {T:TypeId} (hN:w.heap.size<=N) (hc:w'.heap[N]? = some (.cells #[.string (bs f),.string (bs s),ev] T (0,0))) :
  RD w' X (.tuple #[.int .i64 v,.iface 339 (.pointer (some ⟨N,0,none⟩))]) (.aT [.v (.int .i64 v),pG f s ev]):=by
 have Zh:∀ j,w'.cell? ⟨N,j,none⟩=(#[.string (bs f),.string (bs s),ev]:Array Value)[j]?:=fun j=>by simp[World.cell?,hc]
 refine .aT rfl fun j u c hu hx=>?_
 match j,hu,hx with
 | 0,hu,hx=>simp at hu hx;subst hu hx;exact .v _
 | 1,hu,hx=>
  simp at hu hx;subst hu hx;refine .bh (.ip (f:=fun j=>(w'.cell? ⟨N,j,none⟩).getD undef) (fun hx=>by have:=aae _ hx;omega) (Array.getElem?_eq_some_iff.1 hc).1 (fun j hj=>?_) fun j c ea=>?_)
  .have Pk:j < 3:=by simpa using hj
   rw[Nat.zero_add,Zh]
   match j,Pk with
   | 0,_=>rfl
   | 1,_=>rfl
   | 2,_=>rfl
  .rw[Zh]
   match j,ea with
   | 0,ea=>simp at ea;subst ea;exact .v _
   | 1,ea=>simp at ea;subst ea;exact .v _
   | 2,ea=>simp at ea;subst ea;exact .v _
   | j+3,ea=>simp at ea
 | j+2,hu,hx=>simp at hu
theorem LH (w:World) (e:TypeId) (s:ByteArray):bT w (Lib.bytesWorld w e s):=sx (Lib.bytesWorld_below w e s)
def Ll:Tx:=[65,116,111,105]
theorem DW (G:YI) {es er:Value} (hE:px G es er) (s:Tx) (hs:s.length < 2^40):aq prog G 176 [dS s] (acO Ll s es er):=by
 obtain⟨⟨h1,Nn⟩,h2,Nq⟩:=hE;refine HZ (fo.of func176 rfl rfl) fun X w vs aae aK bq Y7=>?_
 obtain⟨u,rfl⟩:∃ u,vs = #[u]:=by
  match vs,aK with
  | ⟨[u]⟩,_=>exact⟨u,rfl⟩
 have hu:=(bq 0 u _ rfl rfl).scalar;subst hu
 have Qm:(bs s).size < 2^40:=by rw[bC];exact hs
 unfold acO
 cases hn:Lib.atoiAll s with
 | ok v=>
  refine (Any.strconv_Atoi_ok Tryz.BZ (bs s) (by omega) v hn w).mono fun e w' ⟨he,hw⟩=>⟨_,he,?_,CF v⟩
  rcases hw with rfl | ⟨t,rfl⟩
  .exact bT.refl _
  .exact LH _ _ _
 | range=>
  refine (Any.strconv_Atoi_range Tryz.BZ (bs s) (by omega) hn er w (E2 h2 Y7) Nq).mono fun e w' ⟨N,he,hN,hc,hB⟩=>⟨_,he,sx hB,IC aae hN hc⟩
 | _=>
  refine (Any.strconv_Atoi_syntax Tryz.BZ (bs s) (by omega) hn es w (E2 h1 Y7) Nn).mono fun e w' ⟨N,he,hN,hc,hB⟩=>⟨_,he,sx hB,IC aae hN hc⟩
end Go.Proofs.YtdigkhaofjmgkaaGreatDoor
namespace Go.Proofs.YtdigkhaofjmgkaaGreatDoor
open Go.Av
def bN:l3->D
 | .form=>.aT [.v (.pointer none),.v (.pointer none),.bh 40 (.v (.int .i64 3))]
 | .bad c off=>.aT [.v (.pointer none),.v (.pointer none),.bh 213 (.ip [.v (.int .i64 c),.v (.int .i64 off)])]
 | .name n=>.aT [.ip (bk n),.v (.pointer none),.v .nilIface]
 | .jq r=>.aT [.v (.pointer none),.ip (bF r),.v .nilIface]
theorem QK (l:List Tx) (s:Tx):idx (fun x=>s == x) l=ixW l s:=by
 unfold ixW;congr 1;funext x;by_cases h:s=x
 .subst h;simp
 .have h2:x≠s:=fun e=>h e.symm;rw[beq_eq_false_iff_ne.2 h,beq_eq_false_iff_ne.2 h2]
theorem Hh (l:List Tx) (s:Tx):-1<=ixW l s/\ixW l s < l.length:=by
 by_cases h:ixW l s < 0
 .unfold ixW idx at h ⊢
  cases hf:l.findIdx? (fun x=>x == s) with
  | none=>simp;omega
  | some k=>rw[hf]at h;simp at h;omega
 .obtain⟨k,hk,he,_⟩:=oX h;have Aw:ixW l s=(k:Int):=he;omega
theorem Mj (c:Option Ex):jA c=dC c:=by cases c<;>rfl
theorem mv:(⟨#[61]⟩:ByteArray)=bs [61]:=rfl
theorem pn:IntKind.i64.wrap 0=0:=by decide
theorem j2:IntKind.i64.wrap 1=1:=by decide
theorem S6 (G:YI) (hM:n9 G) (hP:abH G) (hG:mO G) {es er:Value} (hE:px G es er) (s:Tx) (hs:s.length<=20000) (h0:dW s≠[]):aq prog G 122 [dS s] (bN (gG s)):=by
 have aaq:=VF G hM s 61 (by omega);have wQ:=fun (ws:List Tx) (x:Tx) (h:ws.length < 2^60)=>index_spec G none ws x h;simp only[QK]at wQ;by_cases rh:(61:UInt8)∈s
 .have hle:=zk 61 s
  have hlp:gG s=lf (cutAt 61 s).1 (cutAt 61 s).2 (dW (cutAt 61 s).1):=by unfold gG;rw[if_pos rh]
  rw[hlp];simp only[rh,if_true,decide_true]at aaq;generalize (cutAt 61 s).1=hd at aaq hle ⊢;generalize (cutAt 61 s).2=rest at aaq hle ⊢;have dM:=ES G hd (by omega);have ij:=Dp hd;generalize hws:dW hd=ws at dM ij ⊢;have cF:=CA G rest (by omega);rw[Mj]at cF;have e7:=JM G hG (Zx rest).2;have hR:∀ k nm,jW k nm hd rest=(match (Zx rest).2 with | some (c,o)=>.bad c (hd.length+1+o.getD 0) | none=>.jq ⟨k,nm,(Zx rest).1⟩):=fun _ _=>rfl;simp only[dS]at aaq dM cF ⊢
  match ws,dM,ij with
  | [],dM,ij=>
   show aq _ _ _ _ (bN .form);simp only[bN];refine aq.aI (aw _) func122 rfl rfl (rs:=[.tmp 2,.tmp 3,.tmp 4]) results122 (by simp[ntmps122]) fun X=>?_;simp only[ntmps122,List.map];refine al [0] [] ?_;have qf:=@mv;refine eu aaq [5,6,7] [] ?_;refine aP trivial dM [5,6,7,8] [] ?_;refine ae fun K1 ay=>?_;refine al [5,6,8,26] [] ?_;refine YL rfl ?_;refine al [5,6,8,9] [28] ?_;refine ae fun K2 aa=>?_;refine al [5,6,8,9,31] [28] ?_;refine af rfl ?_;refine ao ?_;refine aa _ (AW.norm [5,6,8,9] [28] (fun _ _=>trivial) (AW.st (by simp;rfl) ?_));refine ae fun K3 YS=>?_;refine al [5,6,8,9,54] [28] ?_;refine YL rfl ?_;refine al [2,3,4] [28] ?_;exact dK
  | [a],dM,ij=>
   show aq _ _ _ _ (bN (jW 1 a hd rest));rw[hR];have hsome:=fun h=>xY (t:=rest) h;have b6:=fun c o h=>Cy (t:=rest) (c:=c) (p:=o) h;generalize (Zx rest).1=oe at cF hsome ⊢;generalize (Zx rest).2=oc at cF e7 hsome b6 ⊢
   match oc,cF,e7,hsome,b6 with
   | some (c,some o),cF,e7,_,b6=>
    have Be:=b6 c o rfl
    have hcast:((hd.length+1+o:Nat):Int)=(hd.length:Int)+1+o:=by omega
    simp only[aR]at cF;simp only[bN,Option.getD_some];refine aq.aI (aw _) func122 rfl rfl (rs:=[.tmp 2,.tmp 3,.tmp 4]) results122 (by simp[ntmps122]) fun X=>?_;simp only[ntmps122,List.map];refine al [0] [] ?_;have qf:=@mv;refine eu aaq [5,6,7] [] ?_;refine aP trivial dM [5,6,7,8] [] ?_;refine ae fun K1 ay=>?_;refine al [5,6,8,26] [] ?_;refine YL rfl ?_;refine al [5,6,8,9] [28] ?_;refine ae fun K2 aa=>?_;refine al [5,6,8,9,31] [28] ?_;refine af rfl ?_;refine ao ?_;refine aa _ (AW.norm [5,6,8,9] [28] (fun _ _=>trivial) (AW.st (by simp;rfl) ?_));refine ae fun K3 YS=>?_;refine al [5,6,8,9,54] [28] ?_;refine af rfl ?_;refine ao (YS _ ?_);refine al [5,6,9] [28] ?_;refine aP trivial cF [5,9,10,11] [28] ?_;refine ae fun K4 Y4=>?_;refine ab (Aq @YN.eq_1 (Aq @YN.eq_2 @bG.eq_1)) [5,9,10,11,12,13] [28] ?_;refine al [5,9,10,11,12,75] [28] ?_;refine YL rfl ?_;have qf:=@bC;refine aa9 [2,3,4] [28,89] ?_;refine fzB 89 ?_;exact aV @hcast
   | some (c,none),cF,e7,_,_=>
    have hcast:((hd.length+1:Nat):Int)=(hd.length:Int)+1:=by omega
    simp only[aR,codeF]at cF e7;simp only[bN,Option.getD_none,Nat.add_zero];refine aq.aI (aw _) func122 rfl rfl (rs:=[.tmp 2,.tmp 3,.tmp 4]) results122 (by simp[ntmps122]) fun X=>?_;simp only[ntmps122,List.map];refine al [0] [] ?_;have qf:=@mv;refine eu aaq [5,6,7] [] ?_;refine aP trivial dM [5,6,7,8] [] ?_;refine ae fun K1 ay=>?_;refine al [5,6,8,26] [] ?_;refine YL rfl ?_;refine al [5,6,8,9] [28] ?_;refine ae fun K2 aa=>?_;refine al [5,6,8,9,31] [28] ?_;refine af rfl ?_;refine ao ?_;refine aa _ (AW.norm [5,6,8,9] [28] (fun _ _=>trivial) (AW.st (by simp;rfl) ?_));refine ae fun K3 YS=>?_;refine al [5,6,8,9,54] [28] ?_;refine af rfl ?_;refine ao (YS _ ?_);refine al [5,6,9] [28] ?_;refine aP trivial cF [5,9,10,11] [28] ?_;refine ae fun K4 Y4=>?_;refine ab (Aq @YN.eq_1 (Aq @YN.eq_2 @bG.eq_1)) [5,9,10,11,12,13] [28] ?_;refine al [5,9,10,11,12,75] [28] ?_;refine af rfl ?_;refine ao (Y4 _ ?_);refine ae fun K5 b8=>?_;refine al [5,9,10,11,92] [28] ?_;refine YL rfl ?_;have qf:=@bC;refine eu e7 [2,3,4] [28,99] ?_;refine fzB 99 ?_;exact aV @hcast
   | none,cF,e7,hsome,_=>
    obtain⟨e,rfl⟩:=hsome rfl;obtain⟨ta,ca,kZ⟩:=dX e;simp only[dC,kZ,aR]at cF;simp only[bN,bF,dC,kZ,dS];refine aq.aI (aw _) func122 rfl rfl (rs:=[.tmp 2,.tmp 3,.tmp 4]) results122 (by simp[ntmps122]) fun X=>?_;simp only[ntmps122,List.map];refine al [0] [] ?_;have qf:=@mv;refine eu aaq [5,6,7] [] ?_;refine aP trivial dM [5,6,7,8] [] ?_;refine ae fun K1 ay=>?_;refine al [5,6,8,26] [] ?_;refine YL rfl ?_;refine al [5,6,8,9] [28] ?_;refine ae fun K2 aa=>?_;refine al [5,6,8,9,31] [28] ?_;refine af rfl ?_;refine ao ?_;refine aa _ (AW.norm [5,6,8,9] [28] (fun _ _=>trivial) (AW.st (by simp;rfl) ?_));refine ae fun K3 YS=>?_;refine al [5,6,8,9,54] [28] ?_;refine af rfl ?_;refine ao (YS _ ?_);refine al [5,6,9] [28] ?_;refine aP trivial cF [5,9,10,11] [28] ?_;refine ae fun K4 Y4=>?_;refine ab (Aq @YN.eq_1 (Aq @YN.eq_2 @bG.eq_1)) [5,9,10,11,12,13] [28] ?_;refine al [5,9,10,11,12,75] [28] ?_;refine af rfl ?_;refine ao (Y4 _ ?_);refine ae fun K5 b8=>?_;refine al [5,9,10,11,92] [28] ?_;refine af rfl ?_;refine ao (b8 _ ?_);refine al [9] [28] ?_;refine al [2,3,4] [28] ?_;refine fzB 28 ?_;exact dK
  | [a,b],dM,ij=>
   have fj:=wQ kwR a (by decide);simp only[dS]at fj;show aq _ _ _ _ (bN (if ixW kwR a < 2 then .form else jW (ixW kwR a) b hd rest));have hbd:=Hh kwR a;generalize ixW kwR a=k at fj hbd ⊢;have FY:k < 7:=hbd.2;by_cases hk:k < 2
   .rw[if_pos hk];simp only[bN];refine aq.aI (aw _) func122 rfl rfl (rs:=[.tmp 2,.tmp 3,.tmp 4]) results122 (by simp[ntmps122]) fun X=>?_;simp only[ntmps122,List.map];refine al [0] [] ?_;have qf:=@mv;refine eu aaq [5,6,7] [] ?_;refine aP trivial dM [5,6,7,8] [] ?_;refine ae fun K1 ay=>?_;refine al [5,6,8,26] [] ?_;refine YL rfl ?_;refine al [5,6,8,9] [28] ?_;refine ae fun K2 aa=>?_;refine al [5,6,8,9,31] [28] ?_;refine YL rfl ?_;refine ff (aw _) fun K' ah=>?_;(repeat (refine aJ fun K2 aa=>?_;simp;(repeat (refine⟨by omega,?_⟩));refine aa _ ?_;clear aa K2));refine aJ fun K2 aa=>?_;simp;refine bU.aa3 (fj) (by simp;rfl) (by first | exact D.ba _ | simp[aQ,List.map_map,Function.comp_def,D.le,D.le.go,D.le_refl,D.ba]) (by simp[D.scalar]) ?_;refine aa _ ?_;clear aa K2;simp only[au,cw];(repeat (refine aJ fun K2 aa=>?_;simp;(repeat (refine⟨by omega,?_⟩));refine aa _ ?_;clear aa K2));refine YZ (ah _ ?_);clear ah K';refine aa _ (AW.norm [5,6,8,9] [28,33] (fun _ _=>trivial) (AW.st (by simp;rfl) ?_));refine ae fun K3 YS=>?_;have qf:=@hk;refine aB [5,6,8,9,54] [28,33] ?_;refine YL rfl ?_;refine al [2,3,4] [28,33] ?_;exact dK
   rw[if_neg hk];rw[hR];have hsome:=fun h=>xY (t:=rest) h;have b6:=fun c o h=>Cy (t:=rest) (c:=c) (p:=o) h;generalize (Zx rest).1=oe at cF hsome ⊢;generalize (Zx rest).2=oc at cF e7 hsome b6 ⊢
   match oc,cF,e7,hsome,b6 with
   | some (c,some o),cF,e7,_,b6=>
    have Be:=b6 c o rfl
    have hcast:((hd.length+1+o:Nat):Int)=(hd.length:Int)+1+o:=by omega
    simp only[aR]at cF;simp only[bN,Option.getD_some];refine aq.aI (aw _) func122 rfl rfl (rs:=[.tmp 2,.tmp 3,.tmp 4]) results122 (by simp[ntmps122]) fun X=>?_;simp only[ntmps122,List.map];refine al [0] [] ?_;have qf:=@mv;refine eu aaq [5,6,7] [] ?_;refine aP trivial dM [5,6,7,8] [] ?_;refine ae fun K1 ay=>?_;refine al [5,6,8,26] [] ?_;refine YL rfl ?_;refine al [5,6,8,9] [28] ?_;refine ae fun K2 aa=>?_;refine al [5,6,8,9,31] [28] ?_;refine YL rfl ?_;refine ff (aw _) fun K' ah=>?_;(repeat (refine aJ fun K2 aa=>?_;simp;(repeat (refine⟨by omega,?_⟩));refine aa _ ?_;clear aa K2));refine aJ fun K2 aa=>?_;simp;refine bU.aa3 (fj) (by simp;rfl) (by first | exact D.ba _ | simp[aQ,List.map_map,Function.comp_def,D.le,D.le.go,D.le_refl,D.ba]) (by simp[D.scalar]) ?_;refine aa _ ?_;clear aa K2;simp only[au,cw];(repeat (refine aJ fun K2 aa=>?_;simp;(repeat (refine⟨by omega,?_⟩));refine aa _ ?_;clear aa K2));refine YZ (ah _ ?_);clear ah K';refine aa _ (AW.norm [5,6,8,9] [28,33] (fun _ _=>trivial) (AW.st (by simp;rfl) ?_));refine ae fun K3 YS=>?_;have qf:=@hk;refine aB [5,6,8,9,54] [28,33] ?_;refine af rfl ?_;refine ao (YS _ ?_);refine al [5,6,9] [28,33] ?_;refine aP trivial cF [5,9,10,11] [28,33] ?_;refine ae fun K4 Y4=>?_;refine ab (Aq @YN.eq_1 (Aq @YN.eq_2 @bG.eq_1)) [5,9,10,11,12,13] [28,33] ?_;refine al [5,9,10,11,12,75] [28,33] ?_;refine YL rfl ?_;have qf:=@bC;refine aa9 [2,3,4] [28,33,89] ?_;refine fzB 89 ?_;exact aV @hcast
   | some (c,none),cF,e7,_,_=>
    have hcast:((hd.length+1:Nat):Int)=(hd.length:Int)+1:=by omega
    simp only[aR,codeF]at cF e7;simp only[bN,Option.getD_none,Nat.add_zero];refine aq.aI (aw _) func122 rfl rfl (rs:=[.tmp 2,.tmp 3,.tmp 4]) results122 (by simp[ntmps122]) fun X=>?_;simp only[ntmps122,List.map];refine al [0] [] ?_;have qf:=@mv;refine eu aaq [5,6,7] [] ?_;refine aP trivial dM [5,6,7,8] [] ?_;refine ae fun K1 ay=>?_;refine al [5,6,8,26] [] ?_;refine YL rfl ?_;refine al [5,6,8,9] [28] ?_;refine ae fun K2 aa=>?_;refine al [5,6,8,9,31] [28] ?_;refine YL rfl ?_;refine ff (aw _) fun K' ah=>?_;(repeat (refine aJ fun K2 aa=>?_;simp;(repeat (refine⟨by omega,?_⟩));refine aa _ ?_;clear aa K2));refine aJ fun K2 aa=>?_;simp;refine bU.aa3 (fj) (by simp;rfl) (by first | exact D.ba _ | simp[aQ,List.map_map,Function.comp_def,D.le,D.le.go,D.le_refl,D.ba]) (by simp[D.scalar]) ?_;refine aa _ ?_;clear aa K2;simp only[au,cw];(repeat (refine aJ fun K2 aa=>?_;simp;(repeat (refine⟨by omega,?_⟩));refine aa _ ?_;clear aa K2));refine YZ (ah _ ?_);clear ah K';refine aa _ (AW.norm [5,6,8,9] [28,33] (fun _ _=>trivial) (AW.st (by simp;rfl) ?_));refine ae fun K3 YS=>?_;have qf:=@hk;refine aB [5,6,8,9,54] [28,33] ?_;refine af rfl ?_;refine ao (YS _ ?_);refine al [5,6,9] [28,33] ?_;refine aP trivial cF [5,9,10,11] [28,33] ?_;refine ae fun K4 Y4=>?_;refine ab (Aq @YN.eq_1 (Aq @YN.eq_2 @bG.eq_1)) [5,9,10,11,12,13] [28,33] ?_;refine al [5,9,10,11,12,75] [28,33] ?_;refine af rfl ?_;refine ao (Y4 _ ?_);refine ae fun K5 b8=>?_;refine al [5,9,10,11,92] [28,33] ?_;refine YL rfl ?_;have qf:=@bC;refine eu e7 [2,3,4] [28,33,99] ?_;refine fzB 99 ?_;exact aV @hcast
   | none,cF,e7,hsome,_=>
    obtain⟨e,rfl⟩:=hsome rfl;obtain⟨ta,ca,kZ⟩:=dX e;simp only[dC,kZ,aR]at cF;simp only[bN,bF,dC,kZ,dS];refine aq.aI (aw _) func122 rfl rfl (rs:=[.tmp 2,.tmp 3,.tmp 4]) results122 (by simp[ntmps122]) fun X=>?_;simp only[ntmps122,List.map];refine al [0] [] ?_;have qf:=@mv;refine eu aaq [5,6,7] [] ?_;refine aP trivial dM [5,6,7,8] [] ?_;refine ae fun K1 ay=>?_;refine al [5,6,8,26] [] ?_;refine YL rfl ?_;refine al [5,6,8,9] [28] ?_;refine ae fun K2 aa=>?_;refine al [5,6,8,9,31] [28] ?_;refine YL rfl ?_;refine ff (aw _) fun K' ah=>?_;(repeat (refine aJ fun K2 aa=>?_;simp;(repeat (refine⟨by omega,?_⟩));refine aa _ ?_;clear aa K2));refine aJ fun K2 aa=>?_;simp;refine bU.aa3 (fj) (by simp;rfl) (by first | exact D.ba _ | simp[aQ,List.map_map,Function.comp_def,D.le,D.le.go,D.le_refl,D.ba]) (by simp[D.scalar]) ?_;refine aa _ ?_;clear aa K2;simp only[au,cw];(repeat (refine aJ fun K2 aa=>?_;simp;(repeat (refine⟨by omega,?_⟩));refine aa _ ?_;clear aa K2));refine YZ (ah _ ?_);clear ah K';refine aa _ (AW.norm [5,6,8,9] [28,33] (fun _ _=>trivial) (AW.st (by simp;rfl) ?_));refine ae fun K3 YS=>?_;have qf:=@hk;refine aB [5,6,8,9,54] [28,33] ?_;refine af rfl ?_;refine ao (YS _ ?_);refine al [5,6,9] [28,33] ?_;refine aP trivial cF [5,9,10,11] [28,33] ?_;refine ae fun K4 Y4=>?_;refine ab (Aq @YN.eq_1 (Aq @YN.eq_2 @bG.eq_1)) [5,9,10,11,12,13] [28,33] ?_;refine al [5,9,10,11,12,75] [28,33] ?_;refine af rfl ?_;refine ao (Y4 _ ?_);refine ae fun K5 b8=>?_;refine al [5,9,10,11,92] [28,33] ?_;refine af rfl ?_;refine ao (b8 _ ?_);refine al [9] [28,33] ?_;refine al [2,3,4] [28,33] ?_;refine fzB 28 ?_;exact dK
  | a :: b :: c :: l,dM,ij=>
   have n1:¬ ((a :: b :: c :: l).length:Int)=2:=by simp only[List.length_cons];omega
   have n2:¬ ((a :: b :: c :: l).length:Int)=1:=by simp only[List.length_cons];omega
   show aq _ _ _ _ (bN .form);simp only[bN];generalize a :: b :: c :: l=ws at dM ij n1 n2;refine aq.aI (aw _) func122 rfl rfl (rs:=[.tmp 2,.tmp 3,.tmp 4]) results122 (by simp[ntmps122]) fun X=>?_;simp only[ntmps122,List.map];refine al [0] [] ?_;have qf:=@mv;refine eu aaq [5,6,7] [] ?_;refine aP trivial dM [5,6,7,8] [] ?_;refine ae fun K1 ay=>?_;refine al [5,6,8,26] [] ?_;refine YL rfl ?_;refine al [5,6,8,9] [28] ?_;refine ae fun K2 aa=>?_;have qf:=(Aq @n1 @n2);refine aB [5,6,8,9,31] [28] ?_;refine af rfl ?_;refine ao ?_;refine aa _ (AW.norm [5,6,8,9] [28] (fun _ _=>trivial) (AW.st (by simp;rfl) ?_));refine ae fun K3 YS=>?_;have qf:=(Aq @n1 @n2);refine aB [5,6,8,9,54] [28] ?_;refine YL rfl ?_;refine al [2,3,4] [28] ?_;exact dK
 .have hlp:gG s=il (dW s):=by unfold gG;rw[if_neg rh]
  rw[hlp];simp only[rh,if_false,decide_false]at aaq;have dM:=ES G s (by omega);have ij:=Dp s;have ud:=fun x=>Dq (t:=s) (w:=x);generalize hws:dW s=ws at dM ij ud h0 ⊢;obtain⟨a,l,rfl⟩:∃ a l,ws=a :: l:=List.exists_cons_of_ne_nil h0;show aq _ _ _ _ (bN (eC (ixW o0 a) l));have fj:=wQ o0 a (by decide);have hbd:=Hh o0 a;have FY:ixW o0 a < 5:=hbd.2;generalize ixW o0 a=k at fj FY ⊢
  have oF:((a :: l).length:Int)=(l.length:Int)+1:=by simp
  simp only[dS]at aaq dM fj ⊢;refine aq.aI (aw _) func122 rfl rfl (rs:=[.tmp 2,.tmp 3,.tmp 4]) results122 (by simp[ntmps122]) fun X=>?_;simp only[ntmps122,List.map];refine al [0] [] ?_;have qf:=@mv;refine eu aaq [5,6,7] [] ?_;refine aP trivial dM [5,6,7,8] [] ?_;refine ae fun K1 ay=>?_;refine al [5,6,8,26] [] ?_;refine af rfl ?_;refine ao (ay _ ?_);refine rg [8,14] [106] (fun _ _=>trivial) fun K' ah=>?_;(repeat (refine aJ fun K2 aa=>?_;simp;(repeat (refine⟨by omega,?_⟩));refine aa _ ?_;clear aa K2));refine aJ fun K2 aa=>?_;simp;refine bU.aa3 (fj) (by simp;rfl) (by first | exact D.ba _ | simp[aQ,List.map_map,Function.comp_def,D.le,D.le.go,D.le_refl,D.ba]) (by simp[D.scalar]) ?_;refine aa _ ?_;clear aa K2;simp only[au,cw];(repeat (refine aJ fun K2 aa=>?_;simp;(repeat (refine⟨by omega,?_⟩));refine aa _ ?_;clear aa K2));refine YZ (ah _ (AW.st (by simp;rfl) ?_));clear ah K';refine ae fun K6 dD=>?_;by_cases hk:k < 1
  .have hF:eC k l = .form:=by
    match l with
    | []=>rfl
    | [b]=>rw[eC,if_neg (by omega)]
    | [b,c]=>rw[eC,if_neg (by omega)]
    | b :: c :: d :: l=>rfl
   rw[hF];simp only[bN];have qf:=@hk;refine aB [8,14,120] [106] ?_;refine YL rfl ?_;refine al [2,3,4] [106] ?_;exact dK
  have Pn:k=1\/k=2\/k=3\/k=4:=by omega
  rcases Pn with rfl | rfl | rfl | rfl
  .by_cases hl:l.length=1
   .obtain⟨b,rfl⟩:∃ b,l=[b]:=List.length_eq_one_iff.1 hl;have hF:eC 1 [b] = .name ⟨b,1,0⟩:=rfl;have qf:=(Aq @pn @j2);refine aB [8,14,120] [106] ?_;refine af rfl ?_;refine ao (dD _ ?_);refine al [8,14,15] [106,127] ?_;refine ae fun K7 dY=>?_;refine al [8,15,129] [106,127] ?_;refine af rfl ?_;refine ao ?_;refine dY _ (AW.norm [15] [106,127] (fun _ _=>trivial) (AW.st (by simp;rfl) ?_));refine al [2,3,4] [106,127] ?_;refine fzB 127 ?_;exact aV (Aq @hF (Aq @bN.eq_1 (Aq @bN.eq_2 (Aq @bN.eq_3 (Aq @bN.eq_4 (Aq @bk.eq_1 @dS.eq_1))))))
   .have hF:eC 1 l = .form:=by
     match l,hl with
     | [],_=>rfl
     | [b],hl=>simp at hl
     | [b,c],_=>rw[eC,if_neg (by omega)]
     | b :: c :: d :: l,_=>rfl
    rw[hF];simp only[bN]
    have hn:¬ (l.length:Int)=1:=by omega
    have ZZ:¬ (l.length:Int)+1=2:=by omega
    have qf:=(Aq @hn (Aq @ZZ (Aq @oF (Aq @pn @j2))));refine aB [8,14,120] [106] ?_;refine YL rfl ?_;refine al [2,3,4] [106] ?_;exact dK
  .by_cases hl:l.length=1
   .obtain⟨b,rfl⟩:∃ b,l=[b]:=List.length_eq_one_iff.1 hl;have hF:eC 2 [b] = .name ⟨b,2,0⟩:=rfl;have qf:=(Aq @pn @j2);refine aB [8,14,120] [106] ?_;refine af rfl ?_;refine ao (dD _ ?_);refine al [8,14,15] [106,127] ?_;refine ae fun K7 dY=>?_;refine al [8,15,129] [106,127] ?_;refine af rfl ?_;refine ao ?_;refine dY _ (AW.norm [15] [106,127] (fun _ _=>trivial) (AW.st (by simp;rfl) ?_));refine al [2,3,4] [106,127] ?_;refine fzB 127 ?_;exact aV (Aq @hF (Aq @bN.eq_1 (Aq @bN.eq_2 (Aq @bN.eq_3 (Aq @bN.eq_4 (Aq @bk.eq_1 @dS.eq_1))))))
   .have hF:eC 2 l = .form:=by
     match l,hl with
     | [],_=>rfl
     | [b],hl=>simp at hl
     | [b,c],_=>rw[eC,if_neg (by omega)]
     | b :: c :: d :: l,_=>rfl
    rw[hF];simp only[bN]
    have hn:¬ (l.length:Int)=1:=by omega
    have ZZ:¬ (l.length:Int)+1=2:=by omega
    have qf:=(Aq @hn (Aq @ZZ (Aq @oF (Aq @pn @j2))));refine aB [8,14,120] [106] ?_;refine YL rfl ?_;refine al [2,3,4] [106] ?_;exact dK
  .by_cases hl:l.length=2
   .obtain⟨b,c,rfl⟩:∃ b c,l=[b,c]:=by
     match l,hl with
     | [b,c],_=>exact⟨b,c,rfl⟩
    have bQ:c.length < 2^40:=by have:=(ud c (by simp)).2;omega
    have b6:=DW G hE c bQ;have bK:eC 3 [b,c]=(match acb c with | some v=>.name ⟨b,3,v⟩ | none=>.form):=rfl;unfold acb at bK
    unfold acO at b6
    simp only[dS]at b6
    have qf:=(Aq @pn @j2);refine aB [8,14,120] [106] ?_;refine af rfl ?_;refine ao (dD _ ?_);refine al [8,14,15] [106,127] ?_;refine ae fun K7 dY=>?_;refine al [8,15,129] [106,127] ?_;refine YL rfl ?_
    cases hn:Lib.atoiAll c with
    | ok v=>
     rw[hn]at b6 bK;dsimp only at b6 bK;obtain⟨v0,v1⟩:=Lib.atoiAll_bounds hn;have hit:=Hg G hP v v0 v1;simp only[dS]at hit;generalize Lib.itoa v=iv at hit bK;refine aP trivial b6 [8,15,16,17] [106,127] ?_;refine ae fun K8 Zl=>?_;by_cases hc:iv=c
     .rw[if_pos hc]at bK;subst hc;refine mL (aw _) (by kernel_rfl) [15,16,146] [106,127] (fun _ _=>trivial) (by kernel_rfl) fun K' ah=>?_;(repeat (refine e9 fun K2 aa=>?_;simp[bH,bL];(repeat (refine⟨by omega,?_⟩));refine aa _ ?_;clear aa K2));refine e9 fun K2 aa=>?_;simp[bH,bL];refine hZ.data (hit) (by simp;rfl) (by simp;rfl) (by first | exact D.ba _ | simp[aQ,List.map_map,Function.comp_def,D.le,D.le.go,D.le_refl,D.ba,bH,bL]) ?_;refine aa _ ?_;clear aa K2;simp only[au,cw];(repeat (refine e9 fun K2 aa=>?_;simp[bH,bL];(repeat (refine⟨by omega,?_⟩));refine aa _ ?_;clear aa K2));refine nY (ah _ ?_);refine AW.st (by simp[bH,bL];rfl) ?_;clear ah K';refine af rfl ?_;refine ao (Zl _ ?_);refine gJ trivial dY [15] [106,127] ?_;refine al [2,3,4] [106,127] ?_;refine fzB 127 ?_;exact aV (Aq @bK (Aq @bN.eq_1 (Aq @bN.eq_2 (Aq @bN.eq_3 (Aq @bN.eq_4 (Aq @bk.eq_1 @dS.eq_1))))))
     .rw[if_neg hc]at bK;refine mL (aw _) (by kernel_rfl) [15,16,146] [106,127] (fun _ _=>trivial) (by kernel_rfl) fun K' ah=>?_;(repeat (refine e9 fun K2 aa=>?_;simp[bH,bL,hc];(repeat (refine⟨by omega,?_⟩));refine aa _ ?_;clear aa K2));refine e9 fun K2 aa=>?_;simp[bH,bL,hc];refine hZ.data (hit) (by simp;rfl) (by simp;rfl) (by first | exact D.ba _ | simp[aQ,List.map_map,Function.comp_def,D.le,D.le.go,D.le_refl,D.ba,bH,bL,hc]) ?_;refine aa _ ?_;clear aa K2;simp only[au,cw];(repeat (refine e9 fun K2 aa=>?_;simp[bH,bL,hc];(repeat (refine⟨by omega,?_⟩));refine aa _ ?_;clear aa K2));refine nY (ah _ ?_);refine AW.st (by simp[bH,bL,hc];rfl) ?_;clear ah K';refine YL (by simp[hc]) ?_;refine al [2,3,4] [106,127] ?_;exact aV (Aq @bK (Aq @bN.eq_1 (Aq @bN.eq_2 (Aq @bN.eq_3 @bN.eq_4))))
    | range=>
     rw[hn]at b6 bK;dsimp only[pG]at b6 bK;refine aP trivial b6 [8,15,16,17] [106,127] ?_;refine ae fun K8 Zl=>?_;refine r3 trivial [15,16,146] [106,127] ?_;refine YL rfl ?_;refine al [2,3,4] [106,127] ?_;exact aV (Aq @bK (Aq @bN.eq_1 (Aq @bN.eq_2 (Aq @bN.eq_3 @bN.eq_4))))
    | _=>
     rw[hn]at b6 bK;dsimp only[pG]at b6 bK;refine aP trivial b6 [8,15,16,17] [106,127] ?_;refine ae fun K8 Zl=>?_;refine r3 trivial [15,16,146] [106,127] ?_;refine YL rfl ?_;refine al [2,3,4] [106,127] ?_;exact aV (Aq @bK (Aq @bN.eq_1 (Aq @bN.eq_2 (Aq @bN.eq_3 @bN.eq_4))))
   .have hF:eC 3 l = .form:=by
     match l,hl with
     | [],_=>rfl
     | [b],_=>rw[eC,if_neg (by omega)]
     | [b,c],hl=>simp at hl
     | b :: c :: d :: l,_=>rfl
    rw[hF];simp only[bN]
    have hn:¬ (l.length:Int)=2:=by omega
    have ZZ:¬ (l.length:Int)+1=3:=by omega
    have qf:=(Aq @hn (Aq @ZZ (Aq @oF (Aq @pn @j2))));refine aB [8,14,120] [106] ?_;refine YL rfl ?_;refine al [2,3,4] [106] ?_;exact dK
  .by_cases hl:l.length=2
   .obtain⟨b,c,rfl⟩:∃ b c,l=[b,c]:=by
     match l,hl with
     | [b,c],_=>exact⟨b,c,rfl⟩
    have bQ:c.length < 2^40:=by have:=(ud c (by simp)).2;omega
    have b6:=DW G hE c bQ;have bK:eC 4 [b,c]=(match acb c with | some v=>.name ⟨b,4,v⟩ | none=>.form):=rfl;unfold acb at bK
    unfold acO at b6
    simp only[dS]at b6
    have qf:=(Aq @pn @j2);refine aB [8,14,120] [106] ?_;refine af rfl ?_;refine ao (dD _ ?_);refine al [8,14,15] [106,127] ?_;refine ae fun K7 dY=>?_;refine al [8,15,129] [106,127] ?_;refine YL rfl ?_
    cases hn:Lib.atoiAll c with
    | ok v=>
     rw[hn]at b6 bK;dsimp only at b6 bK;obtain⟨v0,v1⟩:=Lib.atoiAll_bounds hn;have hit:=Hg G hP v v0 v1;simp only[dS]at hit;generalize Lib.itoa v=iv at hit bK;refine aP trivial b6 [8,15,16,17] [106,127] ?_;refine ae fun K8 Zl=>?_;by_cases hc:iv=c
     .rw[if_pos hc]at bK;subst hc;refine mL (aw _) (by kernel_rfl) [15,16,146] [106,127] (fun _ _=>trivial) (by kernel_rfl) fun K' ah=>?_;(repeat (refine e9 fun K2 aa=>?_;simp[bH,bL];(repeat (refine⟨by omega,?_⟩));refine aa _ ?_;clear aa K2));refine e9 fun K2 aa=>?_;simp[bH,bL];refine hZ.data (hit) (by simp;rfl) (by simp;rfl) (by first | exact D.ba _ | simp[aQ,List.map_map,Function.comp_def,D.le,D.le.go,D.le_refl,D.ba,bH,bL]) ?_;refine aa _ ?_;clear aa K2;simp only[au,cw];(repeat (refine e9 fun K2 aa=>?_;simp[bH,bL];(repeat (refine⟨by omega,?_⟩));refine aa _ ?_;clear aa K2));refine nY (ah _ ?_);refine AW.st (by simp[bH,bL];rfl) ?_;clear ah K';refine af rfl ?_;refine ao (Zl _ ?_);refine gJ trivial dY [15] [106,127] ?_;refine al [2,3,4] [106,127] ?_;refine fzB 127 ?_;exact aV (Aq @bK (Aq @bN.eq_1 (Aq @bN.eq_2 (Aq @bN.eq_3 (Aq @bN.eq_4 (Aq @bk.eq_1 @dS.eq_1))))))
     .rw[if_neg hc]at bK;refine mL (aw _) (by kernel_rfl) [15,16,146] [106,127] (fun _ _=>trivial) (by kernel_rfl) fun K' ah=>?_;(repeat (refine e9 fun K2 aa=>?_;simp[bH,bL,hc];(repeat (refine⟨by omega,?_⟩));refine aa _ ?_;clear aa K2));refine e9 fun K2 aa=>?_;simp[bH,bL,hc];refine hZ.data (hit) (by simp;rfl) (by simp;rfl) (by first | exact D.ba _ | simp[aQ,List.map_map,Function.comp_def,D.le,D.le.go,D.le_refl,D.ba,bH,bL,hc]) ?_;refine aa _ ?_;clear aa K2;simp only[au,cw];(repeat (refine e9 fun K2 aa=>?_;simp[bH,bL,hc];(repeat (refine⟨by omega,?_⟩));refine aa _ ?_;clear aa K2));refine nY (ah _ ?_);refine AW.st (by simp[bH,bL,hc];rfl) ?_;clear ah K';refine YL (by simp[hc]) ?_;refine al [2,3,4] [106,127] ?_;exact aV (Aq @bK (Aq @bN.eq_1 (Aq @bN.eq_2 (Aq @bN.eq_3 @bN.eq_4))))
    | range=>
     rw[hn]at b6 bK;dsimp only[pG]at b6 bK;refine aP trivial b6 [8,15,16,17] [106,127] ?_;refine ae fun K8 Zl=>?_;refine r3 trivial [15,16,146] [106,127] ?_;refine YL rfl ?_;refine al [2,3,4] [106,127] ?_;exact aV (Aq @bK (Aq @bN.eq_1 (Aq @bN.eq_2 (Aq @bN.eq_3 @bN.eq_4))))
    | _=>
     rw[hn]at b6 bK;dsimp only[pG]at b6 bK;refine aP trivial b6 [8,15,16,17] [106,127] ?_;refine ae fun K8 Zl=>?_;refine r3 trivial [15,16,146] [106,127] ?_;refine YL rfl ?_;refine al [2,3,4] [106,127] ?_;exact aV (Aq @bK (Aq @bN.eq_1 (Aq @bN.eq_2 (Aq @bN.eq_3 @bN.eq_4))))
   .have hF:eC 4 l = .form:=by
     match l,hl with
     | [],_=>rfl
     | [b],_=>rw[eC,if_neg (by omega)]
     | [b,c],hl=>simp at hl
     | b :: c :: d :: l,_=>rfl
    rw[hF];simp only[bN]
    have hn:¬ (l.length:Int)=2:=by omega
    have ZZ:¬ (l.length:Int)+1=3:=by omega
    have qf:=(Aq @hn (Aq @ZZ (Aq @oF (Aq @pn @j2))));refine aB [8,14,120] [106] ?_;refine YL rfl ?_;refine al [2,3,4] [106] ?_;exact dK
end Go.Proofs.YtdigkhaofjmgkaaGreatDoor
namespace Go.Av
section
variable {P:Program} {T:Ty} {Mv X:Nat->Prop} {G:YI} {N:Fr} {w w':World} {μ:Mu} {a:Act} {σ:St} {ops:Array Oper} {db:List Nat} {fp:List (Nat×Nat)}
def qU (P:Program) (T:Ty) (Mv:Nat->Prop) (G:YI) (N:Fr) (db:List Nat) (fp:List (Nat×Nat)) (i:Nat) (o:Oper) (σ ag:St):Prop:=
 j5 P T Mv G N db i o σ ag/\(db.contains i=false->ll G fp σ.env i o.op)
theorem j5.env {i:Nat} {o:Oper} {σ ag:St} (h:j5 P T Mv G N db i o σ ag):∃ v,ag.env=au σ.env o.dst v:=by
 rcases h.2.2 with⟨_,c,y,_,_,rfl⟩ | ⟨_,_,x,H',_,rfl⟩
 .exact⟨_,rfl⟩
 .exact⟨_,rfl⟩
def ab5 (db:List Nat) (fp:List (Nat×Nat)) (ops:Array Oper) (i j:Nat) (oi oj:Oper):Bool:=pD db ops i j oi oj || (!db.contains i && !db.contains j && oi.apart ops oj && rM oi.op && rM oj.op && match fp.lookup i,fp.lookup j with
 | some r,some r'=>!(r == r')
 | _,_=>false)
theorem UH {i j:Nat} {oi oj:Oper} (hc:ab5 db fp ops i j oi oj=true) {σ YK dh:St} (h1:qU P T Mv G N db fp i oi σ YK) (h2:qU P T Mv G N db fp j oj YK dh) :
  ∃ dA,qU P T Mv G N db fp j oj σ dA/\qU P T Mv G N db fp i oi dA dh:=by
 obtain⟨s1,t1⟩:=h1;obtain⟨s2,t2⟩:=h2
 have ck:oi.apart ops oj=true:=by
  simp only[ab5,pD,Bool.or_eq_true,Bool.and_eq_true]at hc
  rcases hc with hc | hc
  .exact hc.1
  .exact hc.1.1.1.2
 have cE:∀ v,dB oj.op (au σ.env oi.dst v) σ.env:=fun v t ht=>(eE ck (e:=σ.env) (v:=v)).1 t (fF ht);have Zj:∀ v,dB oi.op σ.env (au σ.env oj.dst v):=fun v t ht=>((eE ck (e:=σ.env) (v:=v)).2.1 t (fF ht)).symm;have aG:=(eE ck (e:=σ.env) (v:=Y2)).2.2;obtain⟨v1,ou⟩:=s1.env
 have main:∃ dA,j5 P T Mv G N db j oj σ dA/\j5 P T Mv G N db i oi dA dh:=by
  simp only[ab5,Bool.or_eq_true]at hc
  rcases hc with hc | hc
  .exact E0 hc s1 s2
  .simp only[Bool.and_eq_true,Bool.not_eq_true']at hc;obtain⟨⟨⟨⟨⟨bi,bj⟩,_⟩,li⟩,lj⟩,p6⟩:=hc;have JH:=t1 bi;have C9:=t2 bj
   cases ZF:fp.lookup i with
   | none=>simp[ZF]at p6
   | some r=>
    cases p5:fp.lookup j with
    | none=>simp[ZF,p5]at p6
    | some r'=>
     have hr:r≠r':=by simpa[ZF,p5]using p6
     obtain⟨di,gi,s1⟩:=s1;obtain⟨dj,gj,s2⟩:=s2
     rcases s1 with⟨b,_⟩ | ⟨_,k1,x,H',e1,rfl⟩
     .rw[bi]at b;cases b
     rcases s2 with⟨b,_⟩ | ⟨_,k2,z,H2,e2,rfl⟩
     .rw[bj]at b;cases b
     dsimp only at e2 C9 ou;simp only[ll,ZF]at JH;simp only[ll,p5]at C9;obtain⟨u,rfl,B2⟩:=e1.vb JH;have e2:=e2.congr k2 (cE _);obtain⟨u',rfl,B3⟩:=e2.vb (Cu (cE _) C9);refine⟨⟨au σ.env oj.dst z,gp σ.H r' u'⟩,⟨dj,gj,.inr ⟨bj,k2,z,gp σ.H r' u',B3 σ.H (ac3 (H:=σ.H) (u:=u) (Ne.symm hr)).symm,rfl⟩⟩,di,gi,.inr ⟨bi,k1,x,gp (gp σ.H r' u') r u,(B2 (gp σ.H r' u') (ac3 hr)).congr k1 (Zj _),?_⟩⟩;rw[Iw hr,dR aG]
 obtain⟨dA,f1,f2⟩:=main;obtain⟨v3,sN⟩:=f1.env;refine⟨dA,⟨f1,fun hb=>?_⟩,f2,fun hb=>?_⟩
 .have h:=t2 hb;rw[ou]at h;exact ac7 (cE _) h
 .rw[sN];exact ac7 (Zj _) (t1 hb)
def r9 (P:Program) (T:Ty) (Mv:Nat->Prop) (G:YI) (N:Fr) (db:List Nat) (fp:List (Nat×Nat)) (ops:Array Oper):List Nat->St->St->Prop
 | [],σ,ag=>σ=ag
 | i :: l,σ,ag=>∃ o,ops[i]? = some o/\∃ YK,qU P T Mv G N db fp i o σ YK/\r9 P T Mv G N db fp ops l YK ag
theorem Vq {p:Nat} {op:Oper} (hp:ops[p]? = some op):∀ (l1:List Nat) {l2:List Nat} {σ ag:St},(∀ q∈l1,∀ oq,ops[q]? = some oq->ab5 db fp ops q p oq op=true)->r9 P T Mv G N db fp ops (l1 ++ p :: l2) σ ag->r9 P T Mv G N db fp ops (p :: (l1 ++ l2)) σ ag:=by
 intro l1
 induction l1 with
 | nil=>intro l2 σ ag _ h;exact h
 | cons q l1 ih=>
  intro l2 σ ag bw h;obtain⟨oq,hq,YK,s1,rest⟩:=h;obtain⟨o',Zq,dh,s2,nQ⟩:=ih (fun q' fT=>bw q' (by simp[fT])) rest;rw[hp]at Zq;obtain rfl:=Option.some.inj Zq;obtain⟨dA,f1,f2⟩:=UH (bw q (by simp) oq hq) s1 s2;exact⟨op,hp,dA,f1,oq,hq,dh,f2,nQ⟩
def uK (db:List Nat) (fp:List (Nat×Nat)) (ord:List Nat) (ops:Array Oper):Bool:=
 let t:=tb ops
 ord.length == ops.size && (ord.all fun i=>decide (i < ops.size)) && ((List.range ops.size).all fun i=>ord.contains i) && decide ord.Nodup &&
 ((List.range ops.size).all fun j=>match ops[j]? with
  | some oj=>oj.after.all fun e=>!Region.binds .any e || e.on < j
  | none=>true) &&
 go t ord
where
 go (t:List Nat):List Nat->Bool
 | []=>true
 | a :: l=>(l.all fun b=>match ops[a]?,ops[b]? with
  | some oa,some ob=>(oa.after.all fun e=>!Region.binds .any e || !(e.on == b)) && ((t.getD b 0).testBit a || ab5 db fp ops a b oa ob)
  | _,_=>true) && go t l
def yG (db:List Nat) (fp:List (Nat×Nat)) (ops:Array Oper) (a b:Nat):Prop:=∀ oa ob,ops[a]? = some oa->ops[b]? = some ob->
 (∀ e∈oa.after,Region.binds .any e=true->e.on≠b)/\(((tb ops).getD b 0).testBit a=true\/ab5 db fp ops a b oa ob=true)
theorem Ih:∀ {l:List Nat},uK.go db fp ops (tb ops) l=true->l.Pairwise (yG db fp ops)
 | [],_=>.nil
 | a :: l,h=>by
  simp only[uK.go,Bool.and_eq_true]at h;refine .cons (fun b hb oa ob nC nD=>?_) (Ih h.2);have:=List.all_eq_true.1 h.1 b hb;simp only[nC,nD,Bool.and_eq_true,Bool.or_eq_true]at this;refine⟨fun e he hbi heq=>?_,this.2⟩;have h1:=Array.all_eq_true_iff_forall_mem.1 this.1 e he;simp[hbi,heq]at h1
theorem KR (hg:Good P T) (YJ:∀ j oj,ops[j]? = some oj->∀ e∈oj.after,Region.binds .any e=true->e.on < j) {Q:Exit->St->Prop} {w0:World} {eV:Mu} {aY:St} (hQ:Q .normal aY):∀ (n:Nat) (R:List Nat) (listed:Array Bool) (w:World) (μ:Mu) (a:Act) (σ:St),R.length=n->R.Nodup->
  (∀ j,j∈R↔j < ops.size/\listed.getD j true=false)->listed.size=ops.size->R.Pairwise (yG db fp ops)->
  (∀ j oj,ops[j]? = some oj->listed.getD j false=true->∀ e∈oj.after,Region.binds .any e=true->listed.getD e.on false=true)->r9 P T Mv G N db fp ops R σ aY->In w X G μ N a σ->Ev Mv w0 eV w μ->
  wpAnyIn (wd N.ro) 0 P .any ops (After Mv X G N w0 eV Q) n listed a w:=by
 intro n
 induction n with
 | zero=>
  intro R listed w μ a σ hl _ hR aK _ _ bt hi aD;have:R=[]:=List.eq_nil_of_length_eq_zero hl;subst this
  have hr:Region.ready .any ops listed=[]:=by
   apply List.eq_nil_iff_forall_not_mem.2;intro j hj;obtain⟨h1,o,ho,_⟩:=mem_ready.1 hj;exact absurd ((hR j).2 ⟨(Array.getElem?_eq_some_iff.1 ho).1,h1⟩) (by simp)
  have:σ=aY:=bt;subst this;exact⟨hr,μ,σ,hQ,hi,aD⟩
 | succ n ih=>
  intro R listed w μ a σ hl ZT hR aK eK gB bt hi aD;refine⟨fun hr=>?_,fun i lM=>?_⟩
  .cases R with
   | nil=>simp at hl
   | cons j R=>
    obtain⟨gC,ZY⟩:=(hR j).1 (by simp)
    have bf:ops[j]? = some ops[j]:=by simp[gC]
    have hjr:j∈Region.ready .any ops listed:=by
     refine mem_ready.2 ⟨ZY,ops[j],bf,fun e he hb=>?_⟩;have oI:=YJ j ops[j] bf e he hb
     have bZ:e.on < ops.size:=by omega
     have aG:e.on ∉ (j :: R):=by
      intro hm
      rcases List.mem_cons.1 hm with h | h
      .omega
      .exact ((List.pairwise_cons.1 eK).1 _ h ops[j] ops[e.on] bf (by simp[bZ])).1 e he hb rfl
     have:=mt (hR e.on).2 aG
     have fv:e.on < listed.size:=by omega
     simp only[bZ,true_and,Array.getD_eq_getD_getElem?]at this ⊢;simp[fv]at this ⊢;exact this
    rw[hr]at hjr;cases hjr
  .obtain⟨bO,oi,bD,bw⟩:=mem_ready.1 lM;have lK:i∈R:=(hR i).2 ⟨(Array.getElem?_eq_some_iff.1 bD).1,bO⟩;obtain⟨R1,R2,rfl⟩:=List.append_of_mem lK
   have lJ:=Vq (P:=P) (T:=T) (Mv:=Mv) (G:=G) (N:=N) (db:=db) (fp:=fp) bD R1 (fun q hq oq ia=>by
    have nF:yG db fp ops q i:=(List.pairwise_append.1 eK).2.2 q hq i (by simp)
    rcases (nF oq oi ia bD).2 with h | h
    .exfalso;have hlq:=sw YJ gB i i oi (Nat.le_refl _) bD bw q h;have e6:=((hR q).1 (by simp[hq])).2
     have lS:q < listed.size:=by have:=(Array.getElem?_eq_some_iff.1 ia).1;omega
     simp[Array.getD_eq_getD_getElem?,lS]at hlq e6;rw[hlq]at e6;cases e6
    .exact h) bt
   obtain⟨o',Zq,YK,hstep,YV⟩:=lJ;rw[bD]at Zq;obtain rfl:=Option.some.inj Zq;refine hstep.1.ok hg hi bD fun w' ak a' ax aaI=>?_
   have lP:(R1 ++ R2).Nodup:=by
    have:=ZT;rw[List.nodup_append]at this ⊢;obtain⟨g1,g2,g3⟩:=this;exact⟨g1,(List.nodup_cons.1 g2).2,fun x hx y hy=>g3 x hx y (by simp[hy])⟩
   have lL:i ∉ R1 ++ R2:=by
    have:=ZT;rw[List.nodup_append]at this;obtain⟨g1,g2,g3⟩:=this;intro hm
    rcases List.mem_append.1 hm with h | h
    .exact g3 i h i (by simp) rfl
    .exact (List.nodup_cons.1 g2).1 h
   refine ih (R1 ++ R2) _ w' ak a' YK (by simp at hl ⊢;omega) lP (fun j=>?_) (by simpa using aK) ?_ ?_ YV ax (aD.trans aaI)
   .by_cases cL:j=i
    .subst cL
     have fv:j < listed.size:=by rw[aK];exact (Array.getElem?_eq_some_iff.1 bD).1
     simp[fv];simpa using lL
    .rw[getD_set_ne true (Ne.symm cL)];rw[<- hR j];simp[cL]
   .rw[List.pairwise_append]at eK ⊢;obtain⟨g1,g2,g3⟩:=eK;exact⟨g1,(List.pairwise_cons.1 g2).2,fun x hx y hy=>g3 x hx y (by simp[hy])⟩
   .intro j oj bf cX e he hb;by_cases cL:j=i
    .subst cL;rw[bD]at bf;obtain rfl:=Option.some.inj bf;exact getD_set_true (bw e he hb)
    .rw[getD_set_ne false (Ne.symm cL)]at cX;exact getD_set_true (gB j oj bf cX e he hb)
def ye (P:Program) (T:Ty) (Mv:Nat->Prop) (G:YI) (N:Fr) (db:List Nat) (fp:List (Nat×Nat)) (i:Nat) (o:Oper) (σ:St) (K:St->Prop):Prop:=c8 N o/\o.guard=none/\
 if db.contains i=true then (match iR T G σ.env o with
  | some (c,y)=>c/\K ⟨au σ.env o.dst (.d y),σ.H⟩
  | none=>False)
 else ll G fp σ.env i o.op/\kindOf o.op≠9/\match Y0 o.op with
  | some c=>kc P G c σ.env o.dst σ.H [] [] K
  | none=>pa T G Mv o σ [] K
def nS (P:Program) (T:Ty) (Mv:Nat->Prop) (G:YI) (N:Fr) (db:List Nat) (fp:List (Nat×Nat)) (K:St->Prop):List (Nat×Oper)->St->Prop
 | [],σ=>K σ
 | (i,o) :: rest,σ=>ye P T Mv G N db fp i o σ (nS P T Mv G N db fp K rest)
theorem V0 {K:St->Prop}:∀ (l:List Nat) (σ:St),(∀ i∈l,i < ops.size)->nS P T Mv G N db fp K (YP ops l) σ->∃ aY,K aY/\r9 P T Mv G N db fp ops l σ aY:=by
 intro l
 induction l with
 | nil=>intro σ _ h;exact⟨σ,h,rfl⟩
 | cons i l ih=>
  intro σ hl h;have hi:=hl i (by simp)
  have ho:ops[i]? = some ops[i]:=by simp[hi]
  simp only[YP,ho]at h;generalize ops[i]=o at ho h;simp only[nS,ye]at h;obtain⟨hd,bW,h⟩:=h
  have fin:∀ YK,qU P T Mv G N db fp i o σ YK->nS P T Mv G N db fp K (YP ops l) YK->∃ aY,K aY/\r9 P T Mv G N db fp ops (i :: l) σ aY:=fun YK hs h1=>by
   obtain⟨aY,hk,hr⟩:=ih YK (fun j hj=>hl j (by simp[hj])) h1;exact⟨aY,hk,o,ho,YK,hs,hr⟩
  split at h
  .rename_i hb;split at h
   .rename_i c y hw;obtain⟨hc,h⟩:=h;exact fin _ ⟨⟨hd,bW,.inl ⟨hb,c,y,hw,hc,rfl⟩⟩,fun e=>by rw[hb]at e;cases e⟩ h
   .exact h.elim
  .rename_i hb
   have hb:db.contains i=false:=by simpa using hb
   obtain⟨Bt,hk,h⟩:=h;split at h
   .rename_i c hc;obtain⟨y,g,ds,ht,hp,dN,h⟩:=h;refine fin _ ⟨⟨hd,bW,.inr ⟨hb,hk,.d y,σ.H,?_,rfl⟩⟩,fun _=>Bt⟩ h;unfold Ex;simp only[hc];exact⟨y,⟨g,_,ht,.inl ⟨ds,rfl,hp⟩⟩,rfl,trivial⟩
   .rename_i hc;unfold pa at h;split at h
    .rename_i hw;split at h
     .rename_i c x YK h1;obtain⟨YY,dN,h⟩:=h;have he:=si hk h1;obtain⟨e,H⟩:=σ;obtain⟨e1,H1⟩:=YK;dsimp only at he;subst he;refine fin _ ⟨⟨hd,bW,.inr ⟨hb,hk,x,H1,?_,rfl⟩⟩,fun _=>Bt⟩ h;unfold Ex;simp only[hc];rw[if_pos hw];exact⟨c,h1,YY⟩
     .exact h.elim
    .rename_i hw;split at h
     .rename_i c x h1;obtain⟨YY,dN,h⟩:=h;refine fin _ ⟨⟨hd,bW,.inr ⟨hb,hk,x,σ.H,?_,rfl⟩⟩,fun _=>Bt⟩ h;unfold Ex;simp only[hc];rw[if_neg hw];exact⟨c,h1,YY,trivial⟩
     .exact h.elim
theorem Ko (hg:Good P T) (hm:P.follows .mixedOrders=true) (db:List Nat) (fp:List (Nat×Nat)) (ord:List Nat) {id:Nat} (bp:uK db fp ord ops=true) {Q:Exit->St->Prop} {σ:St} (h:nS P T Mv G N db fp (fun ag=>Q .normal ag) (YP ops ord) σ):AW P Mv X G N (.region id ops true) Q σ:=fun w μ a hi=>by
 unfold uK at bp;simp only[Bool.and_eq_true]at bp;obtain⟨⟨⟨⟨⟨h1,h2⟩,h3⟩,h4⟩,h5⟩,h6⟩:=bp
 have hlen:ord.length=ops.size:=by simpa using h1
 have YJ:∀ i∈ord,i < ops.size:=fun i hi=>by simpa using List.all_eq_true.1 h2 i hi
 have bw:∀ i,i < ops.size->i∈ord:=fun i hi=>by simpa using List.all_eq_true.1 h3 i (List.mem_range.2 hi)
 have ZT:ord.Nodup:=by simpa using h4
 have abA:∀ j oj,ops[j]? = some oj->∀ e∈oj.after,Region.binds .any e=true->e.on < j:=fun j oj bf e he hb=>by
  have:=List.all_eq_true.1 h5 j (List.mem_range.2 (Array.getElem?_eq_some_iff.1 bf).1);simp only[bf]at this;have:=Array.all_eq_true_iff_forall_mem.1 this e he;simpa[hb]using this
 obtain⟨aY,hQ,bt⟩:=V0 ord σ YJ h;refine wpIn_region_any hm ?_;obtain⟨ax,aD⟩:=hi.iW (Mv:=Mv) (bT.drew w);refine KR hg abA hQ ops.size ord _ w.drew μ a σ hlen ZT (fun j=>?_) (by simp) (Ih h6) ?_ bt ax aD
 .constructor
  .intro hj;have:=YJ j hj;simp[Array.getD_eq_getD_getElem?,this]
  .intro hj;exact bw j hj.1
 .intro j oj bf cX;have hj:=(Array.getElem?_eq_some_iff.1 bf).1;simp[Array.getD_eq_getD_getElem?,hj]at cX
theorem yu (hg:Good P T) (hm:P.follows .mixedOrders=true) (db:List Nat) (fp:List (Nat×Nat)) (ord:List Nat) (l ns:List Nat) (hM:∀ r,ns.contains r=false->Mv r) {id:Nat} (bp:uK db fp ord ops=true) {y:Code} {Q:Exit->St->Prop} {σ:St}
  (h:∀ K:St->Prop,(∀ τ:St,AW P Mv X G N y Q (τ.norm l ns)->K τ)->nS P T Mv G N db fp K (YP ops ord) σ):AW P Mv X G N (.seq (.region id ops true) y) Q σ:=
 pq (Ko hg hm db fp ord bp (h _ fun _ h=>h.norm l ns hM))
theorem adu {K:St->Prop} {i:Nat} {l:List Nat} {o:Oper} (ho:ops[i]? = some o) (h:∀ K':St->Prop,(∀ τ,nS P T Mv G N db fp K (YP ops l) τ->K' τ)->ye P T Mv G N db fp i o σ K'):nS P T Mv G N db fp K (YP ops (i :: l)) σ:=by
 have:YP ops (i :: l)=(i,o) :: YP ops l:=by simp[YP,ho]
 rw[this];exact h _ fun _ h=>h
theorem C3 {K:St->Prop} (h:K σ):nS P T Mv G N db fp K (YP ops []) σ:=h
end
attribute [simp] ye
