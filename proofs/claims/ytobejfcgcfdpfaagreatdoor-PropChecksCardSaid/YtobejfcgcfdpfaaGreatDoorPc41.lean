/- Parts. -/
import Derived.Test.YtobejfcgcfdpfaaGreatDoorPc35
import Derived.Test.YtobejfcgcfdpfaaGreatDoorPc36
import Derived.Test.YtobejfcgcfdpfaaGreatDoorPc37
import Derived.Test.YtobejfcgcfdpfaaGreatDoorPc38
import Derived.Test.YtobejfcgcfdpfaaGreatDoorPc39
import Derived.Test.YtobejfcgcfdpfaaGreatDoorPc40
import Derived.Lib.ParseIntBTie
set_option linter.unusedSectionVars false
set_option linter.unusedSimpArgs false
set_option linter.unusedVariables false
set_option maxHeartbeats 16000000
set_option maxRecDepth 100000
open Go.Proofs.Tryz
namespace Go.Proofs.YtobejfcgcfdpfaaGreatDoor
open Go.Av Go.Shelf Go.RowKit
def ub (G:aB):Prop:=G 7=some (.ra (Lib.pow10Tab.map fun z=>Value.int .u64 z).toArray)
def Dr (v:Value):Prop:=v = .nilIface\/∃ te pe,v = .iface te pe
def vf (G:aB) (es er:Value):Prop:=(G 5=some (.ip [.v es])/\Dr es)/\G 6=some (.ip [.v er])/\Dr er
theorem GV {G:aB} {g:Nat} {v:Value} {w:World} {X:Nat->Prop} (hm:G g=some (.ip [.v v])) (cW:∀ g x,G g=some x->RD w X (.pointer (some ⟨g,0,none⟩)) x):w.cell? ⟨g,0,none⟩=some v:=by
 obtain⟨b',off,f,hp,_,_,fJ,hr⟩:=(cW _ _ hm).sO;have h0:=fJ 0 ak;have h1:=(hr 0 _ rfl).scalar;rw[h1]at h0;injection hp with hp;injection hp with hp;injection hp with jv gZ _;subst jv gZ;exact h0
theorem VC {G:aB} (h:ub G) {w:World} {X:Nat->Prop} (cW:∀ g x,G g=some x->RD w X (.pointer (some ⟨g,0,none⟩)) x):Lib.TabIs prog w "internal/strconv.uint64pow10" .u64 Lib.pow10Tab:=by
 have h1:=cW _ _ h
 obtain⟨ty,fr,hh⟩:∃ ty fr,w.heap[7]? = some (.cells (Lib.pow10Tab.map fun z=>Value.int .u64 z).toArray ty fr):=by
  generalize hy:D.ra _=y at h1;cases h1<;>cases hy;exact⟨_,_,by assumption⟩
 unfold Lib.TabIs World.var?;rw[show prog.globalNamed "internal/strconv.uint64pow10" = some 7 by kernel_rfl];simp only[an3,hh]
theorem RC (w:World) (os:Array Obj):cX w (Go.Sort.grow w os):=⟨by simp[Go.Sort.grow],rfl,rfl,rfl,fun b hb=>by simp[Go.Sort.grow,amY hb]⟩
theorem cX.trans' {w w1 w2:World} (h:cX w w1) (h2:cX w1 w2):cX w w2:=⟨anQ h.size h2.size,h2.os.trans h.os,h2.tape.trans h.tape,h2.output.trans h.output,fun b hb=>(h2.same b (amN hb h.size)).trans (h.same b hb)⟩
theorem Uq (G:aB) (hP:ub G) (n:Int) (h0:-9223372036854775808<=n) (h1:n<=9223372036854775807):aD prog G 142 [.v (.int .i64 n)] (dS (Lib.itoa n)):=by
 refine aD.tS (iV.of func142 rfl rfl) fun X w vs bp bQ cW=>?_
 obtain⟨u,rfl⟩:∃ u,vs = #[u]:=by
  match vs,bp with
  | ⟨[u]⟩,_=>exact⟨u,rfl⟩
 have hu:=(bQ 0 u _ rfl rfl).scalar;subst hu;refine (Any.strconv_Itoa Tryz.ad8 n h0 h1 w (VC hP cW)).mono fun e w' ⟨he,k,os,hw⟩=>⟨_,he,by rw[hw];exact cX.trans' (Gw w k) (RC _ _),.v _⟩
theorem aa2 (G:aB) (hP:ub G) (n:Int) (h0:-9223372036854775808<=n) (h1:n<=9223372036854775807):aD prog G 126 [.v (.int .i64 n),.v (.int .i64 10)] (dS (Lib.itoa n)):=by
 refine aD.tS (iV.of func126 rfl rfl) fun X w vs bp bQ cW=>?_
 obtain⟨u,v,rfl⟩:∃ u v,vs = #[u,v]:=by
  match vs,bp with
  | ⟨[u,v]⟩,_=>exact⟨u,v,rfl⟩
 have hu:=(bQ 0 u _ rfl rfl).scalar;have hv:=(bQ 1 v _ rfl rfl).scalar;subst hu hv;refine (Any.strconv_FormatInt_10 Tryz.aeb n h0 h1 w (VC hP cW)).mono fun e w' ⟨he,k,os,hw⟩=>⟨_,he,by rw[hw];exact cX.trans' (Gw w k) (RC _ _),.v _⟩
def vx (f s:Tx) (ev:Value):D:=.cC 284 (.ip [dS f,dS s,.v ev])
def y6 (f s:Tx) (es er:Value):D:=match Lib.atoiAll s with
 | .ok v=>.bz [.v (.int .i64 v),.v .nilIface]
 | .range=>.bz [.v (.int .i64 (Lib.atoiSat s)),vx f s er]
 | _=>.bz [.v (.int .i64 0),vx f s es]
theorem Je {w:World} {X:Nat->Prop} (v:Int):RD w X (.tuple #[.int .i64 v,.nilIface]) (.bz [.v (.int .i64 v),.v .nilIface]):=.bz rfl fun j u c hu hc=>by
 match j,hu,hc with
 | 0,hu,hc=>simp at hu hc;subst hu hc;exact .v _
 | 1,hu,hc=>simp at hu hc;subst hu hc;exact .v _
 | j+2,hu,hc=>simp at hu
theorem Jd {w w':World} {X:Nat->Prop} (k9:∀ b,X b->b < w.heap.size) {v:Int} {f s:Tx} {ev:Value} {N:Nat} {T:TypeId} (hN:w.heap.size<=N) (hc:w'.heap[N]? = some (.cells #[.string (bs f),.string (bs s),ev] T (0,0))) :
  RD w' X (.tuple #[.int .i64 v,.iface 284 (.pointer (some ⟨N,0,none⟩))]) (.bz [.v (.int .i64 v),vx f s ev]):=by
 have fJ:∀ j,w'.cell? ⟨N,j,none⟩=(#[.string (bs f),.string (bs s),ev]:Array Value)[j]?:=fun j=>by simp[World.cell?,hc]
 refine .bz rfl fun j u c hu hx=>?_
 match j,hu,hx with
 | 0,hu,hx=>simp at hu hx;subst hu hx;exact .v _
 | 1,hu,hx=>
  simp at hu hx;subst hu hx;refine .cC (.ip (f:=fun j=>(w'.cell? ⟨N,j,none⟩).getD undef) (fun hx=>by have:=k9 _ hx;omega) (amf.1 hc).1 (fun j hj=>?_) fun j c gv=>?_)
  .have hj3:j < 3:=by simpa using hj
   rw[amR,fJ]
   match j,hj3 with
   | 0,_=>rfl
   | 1,_=>rfl
   | 2,_=>rfl
  .rw[fJ]
   match j,gv with
   | 0,gv=>simp at gv;subst gv;exact .v _
   | 1,gv=>simp at gv;subst gv;exact .v _
   | 2,gv=>simp at gv;subst gv;exact .v _
   | j+3,gv=>simp at gv
 | j+2,hu,hx=>simp at hu
theorem QH (w:World) (e:TypeId) (s:ByteArray):cX w (Lib.bytesWorld w e s):=yX (Lib.bytesWorld_below w e s)
def Zd:Tx:=[65,116,111,105]
def afD:Tx:=[80,97,114,115,101,73,110,116]
theorem Qt (G:aB) {es er:Value} (hE:vf G es er) (s:Tx) (hs:s.length < 2^40):aD prog G 141 [dS s] (y6 Zd s es er):=by
 obtain⟨⟨h1,Lf⟩,h2,Lh⟩:=hE;refine IY (iV.of func141 rfl rfl) fun X w vs k9 bp bQ cW=>?_
 obtain⟨u,rfl⟩:∃ u,vs = #[u]:=by
  match vs,bp with
  | ⟨[u]⟩,_=>exact⟨u,rfl⟩
 have hu:=(bQ 0 u _ rfl rfl).scalar;subst hu
 have Nb:(bs s).size < 2^40:=by rw[bX];exact hs
 unfold y6
 cases hn:Lib.atoiAll s with
 | ok v=>
  refine (Any.strconv_Atoi_ok Tryz.NT (bs s) aa v hn w).mono fun e w' ⟨he,hw⟩=>⟨_,he,?_,Je v⟩
  rcases hw with rfl | ⟨t,rfl⟩
  .exact cX.refl _
  .exact QH _ _ _
 | range=>
  refine (Any.strconv_Atoi_range Tryz.NT (bs s) aa hn er w (GV h2 cW) Lh).mono fun e w' ⟨N,he,hN,hc,hB⟩=>⟨_,he,yX hB,Jd k9 hN hc⟩
 | _=>
  refine (Any.strconv_Atoi_syntax Tryz.NT (bs s) aa hn es w (GV h1 cW) Lf).mono fun e w' ⟨N,he,hN,hc,hB⟩=>⟨_,he,yX hB,Jd k9 hN hc⟩
theorem afE (G:aB) {es er:Value} (hE:vf G es er) (s:Tx) (hs:s.length < 2^40):aD prog G 125 [dS s,.v (.int .i64 10),.v (.int .i64 64)] (y6 afD s es er):=by
 obtain⟨⟨h1,Lf⟩,h2,Lh⟩:=hE;refine IY (iV.of func125 rfl rfl) fun X w vs k9 bp bQ cW=>?_
 obtain⟨u,v1,v2,rfl⟩:∃ u v1 v2,vs = #[u,v1,v2]:=by
  match vs,bp with
  | ⟨[u,v1,v2]⟩,_=>exact⟨u,v1,v2,rfl⟩
 have hu:=(bQ 0 u _ rfl rfl).scalar;have jG:=(bQ 1 v1 _ rfl rfl).scalar;have B7:=(bQ 2 v2 _ rfl rfl).scalar;subst hu jG B7
 have Nb:(bs s).size < 2^40:=by rw[bX];exact hs
 have KN:Lib.parseIntB 64 (bs s).data.toList=Lib.atoiAll s:=by rw[dM];exact Lib.parseIntB_64 s
 unfold y6
 cases hn:Lib.atoiAll s with
 | ok v=>
  refine (Any.strconv_ParseInt_10_at64_ok Tryz.NV (bs s) aa v (KN.trans hn) w).mono fun e w' ⟨he,hw⟩=>⟨_,he,?_,Je v⟩
  rcases hw with rfl | ⟨t,rfl⟩
  .exact cX.refl _
  .exact QH _ _ _
 | range=>
  refine (Any.strconv_ParseInt_10_at64_range Tryz.NV (bs s) aa (KN.trans hn) er w (GV h2 cW) Lh).mono fun e w' ⟨N,he,hN,hc,hB⟩=>⟨_,by rw[dM,Lib.intSat_64]at he;exact he,yX hB,Jd k9 hN hc⟩
 | _=>
  refine (Any.strconv_ParseInt_10_at64_syntax Tryz.NV (bs s) aa (KN.trans hn) es w (GV h1 cW) Lf).mono fun e w' ⟨N,he,hN,hc,hB⟩=>⟨_,he,yX hB,Jd k9 hN hc⟩
end Go.Proofs.YtobejfcgcfdpfaaGreatDoor
namespace Go.Proofs.YtobejfcgcfdpfaaGreatDoor
open Go.Av
def dD:s4->D
 | .form=>.bz [.v (.pointer none),.v (.pointer none),.cC 40 (.v (.int .i64 3))]
 | .bad c off=>.bz [.v (.pointer none),.v (.pointer none),.cC 178 (.ip [.v (.int .i64 c),.v (.int .i64 off)])]
 | .name n=>.bz [.ip (bw n),.v (.pointer none),.v .nilIface]
 | .qW r=>.bz [.v (.pointer none),.ip (de r),.v .nilIface]
theorem ado (l:List Tx) (s:Tx):idx (fun x=>s == x) l=kT l s:=by
 unfold kT;congr 1;funext x;by_cases h:s=x
 .subst h;simp
 .have h2:x≠s:=fun e=>h e.symm;rw[beq_eq_false_iff_ne.2 h,beq_eq_false_iff_ne.2 h2]
theorem Ik (l:List Tx) (s:Tx):-1<=kT l s/\kT l s < l.length:=by
 by_cases h:kT l s < 0
 .unfold kT idx at h ⊢
  cases hf:l.findIdx? (fun x=>x == s) with
  | none=>simp;omega
  | some k=>rw[hf]at h;simp at h;omega
 .obtain⟨k,hk,he,_⟩:=tQ h;have lD:kT l s=(k:Int):=he;omega
theorem dCw (c:Option Ex):s8 c=dC c:=by cases c<;>rfl
theorem uS:(⟨#[61]⟩:ByteArray)=bs [61]:=rfl
theorem yH:IntKind.i64.wrap 0=0:=bD
theorem re:IntKind.i64.wrap 1=1:=bD
theorem aoB:type_of% (Aq @dD.eq_1 (Aq @dD.eq_2 (Aq @dD.eq_3 @dD.eq_4))):=(Aq @dD.eq_1 (Aq @dD.eq_2 (Aq @dD.eq_3 @dD.eq_4)))
theorem aoC:type_of% (Aq @dD.eq_1 (Aq @dD.eq_2 (Aq @dD.eq_3 (Aq @dD.eq_4 (Aq @bw.eq_1 @an9))))):=(Aq @dD.eq_1 (Aq @dD.eq_2 (Aq @dD.eq_3 (Aq @dD.eq_4 (Aq @bw.eq_1 @an9)))))
theorem aoL:type_of% (Aq @yH @re):=(Aq @yH @re)
theorem aoz:type_of% (Aq @aol (Aq @aom @aon)):=(Aq @aol (Aq @aom @aon))
theorem aeG (G:aB) (hM:ky G) (hP:ub G) (hG:r7 G) {es er:Value} (hE:vf G es er) (s:Tx) (hs:s.length<=20000) (h0:jo s≠[]):aD prog G 93 [dS s] (dD (iS s)):=by
 have pw:=aiW G hM s 61 aa;have HA:=fun (ws:List Tx) (x:Tx) (h:ws.length < 2^60)=>index_spec G none ws x h;simp only[ado]at HA;by_cases xu:(61:UInt8)∈s
 .have hle:=Gs 61 s
  have nz:iS s=r0 (cutAt 61 s).1 (cutAt 61 s).2 (jo (cutAt 61 s).1):=by unfold iS;rw[if_pos xu]
  rw[nz];simp only[xu,if_true,decide_true]at pw;generalize (cutAt 61 s).1=hd at pw hle ⊢;generalize (cutAt 61 s).2=rest at pw hle ⊢;have fm:=Rl G hd aa;have jH:=JT hd;generalize sL:jo hd=ws at fm jH ⊢;have fN:=VF G rest aa;rw[dCw]at fN;have ia:=ajT G hG (ig rest).2;have hR:∀ k nm,oC k nm hd rest=(match (ig rest).2 with | some (c,o)=>.bad c (hd.length+1+o.getD 0) | none=>.qW ⟨k,nm,(ig rest).1⟩):=fun _ _=>rfl;simp only[dS]at pw fm fN ⊢
  match ws,fm,jH with
  | [],fm,jH=>
   show aD _ _ _ _ (dD .form);simp only[dD];refine aD.aO (ay _) func93 rfl rfl (rs:=[.tmp 2,.tmp 3,.tmp 4]) results93 (by simp[ntmps93]) fun X=>?_;simp only[ntmps93,List.map];refine ar [0] [] ?_;have qf:=@uS;refine eF pw [5,6,7] [] ?_;refine bh trivial fm [5,6,7,8] [] ?_;refine ag fun K1 aF=>ar [5,6,8,26] [] ?_;refine aJ (ar [5,6,8,9] [28] ?_);refine ag fun K2 au=>ar [5,6,8,9,31] [28] ?_;refine al (aq ?_);refine au _ (AW.norm [5,6,8,9] [28] aQ (AW.st bt ?_));refine ag fun K3 aX=>ar [5,6,8,9,54] [28] ?_;refine aJ (ar [2,3,4] [28] ?_);exact fP
  | [a],fm,jH=>
   show aD _ _ _ _ (dD (oC 1 a hd rest));rw[hR];have hsome:=fun h=>CD (t:=rest) h;have dz:=fun c o h=>Fl (t:=rest) (c:=c) (p:=o) h;generalize (ig rest).1=oe at fN hsome ⊢;generalize (ig rest).2=oc at fN ia hsome dz ⊢
   match oc,fN,ia,hsome,dz with
   | some (c,some o),fN,ia,_,dz=>
    have Eu:=dz c o rfl
    have hcast:((hd.length+1+o:Nat):Int)=(hd.length:Int)+1+o:=aa
    simp only[bG]at fN;simp only[dD,anM];refine aD.aO (ay _) func93 rfl rfl (rs:=[.tmp 2,.tmp 3,.tmp 4]) results93 (by simp[ntmps93]) fun X=>?_;simp only[ntmps93,List.map];refine ar [0] [] ?_;have qf:=@uS;refine eF pw [5,6,7] [] ?_;refine bh trivial fm [5,6,7,8] [] ?_;refine ag fun K1 aF=>ar [5,6,8,26] [] ?_;refine aJ (ar [5,6,8,9] [28] ?_);refine ag fun K2 au=>ar [5,6,8,9,31] [28] ?_;refine al (aq ?_);refine au _ (AW.norm [5,6,8,9] [28] aQ (AW.st bt ?_));refine ag fun K3 aX=>ar [5,6,8,9,54] [28] ?_;refine al (aq (aX _ ?_));refine ar [5,6,9] [28] ?_;refine bh trivial fN [5,9,10,11] [28] ?_;refine ag fun K4 b6=>ae aoz [5,9,10,11,12,13] [28] ?_;refine ar [5,9,10,11,12,75] [28] ?_;refine aJ ?_;have qf:=@bX;refine il [2,3,4] [28,89] ?_;refine gu 89 ?_;exact aY @hcast
   | some (c,none),fN,ia,_,_=>
    have hcast:((hd.length+1:Nat):Int)=(hd.length:Int)+1:=aa
    simp only[bG,codeF]at fN ia;simp only[dD,Option.getD_none,anj];refine aD.aO (ay _) func93 rfl rfl (rs:=[.tmp 2,.tmp 3,.tmp 4]) results93 (by simp[ntmps93]) fun X=>?_;simp only[ntmps93,List.map];refine ar [0] [] ?_;have qf:=@uS;refine eF pw [5,6,7] [] ?_;refine bh trivial fm [5,6,7,8] [] ?_;refine ag fun K1 aF=>ar [5,6,8,26] [] ?_;refine aJ (ar [5,6,8,9] [28] ?_);refine ag fun K2 au=>ar [5,6,8,9,31] [28] ?_;refine al (aq ?_);refine au _ (AW.norm [5,6,8,9] [28] aQ (AW.st bt ?_));refine ag fun K3 aX=>ar [5,6,8,9,54] [28] ?_;refine al (aq (aX _ ?_));refine ar [5,6,9] [28] ?_;refine bh trivial fN [5,9,10,11] [28] ?_;refine ag fun K4 b6=>ae aoz [5,9,10,11,12,13] [28] ?_;refine ar [5,9,10,11,12,75] [28] ?_;refine al (aq (b6 _ ?_));refine ag fun K5 b5=>ar [5,9,10,11,92] [28] ?_;refine aJ ?_;have qf:=@bX;refine eF ia [2,3,4] [28,99] ?_;refine gu 99 ?_;exact aY @hcast
   | none,fN,ia,hsome,_=>
    obtain⟨e,rfl⟩:=hsome rfl;obtain⟨ta,ca,sH⟩:=js e;simp only[dC,sH,bG]at fN;simp only[dD,de,dC,sH,dS];refine aD.aO (ay _) func93 rfl rfl (rs:=[.tmp 2,.tmp 3,.tmp 4]) results93 (by simp[ntmps93]) fun X=>?_;simp only[ntmps93,List.map];refine ar [0] [] ?_;have qf:=@uS;refine eF pw [5,6,7] [] ?_;refine bh trivial fm [5,6,7,8] [] ?_;refine ag fun K1 aF=>ar [5,6,8,26] [] ?_;refine aJ (ar [5,6,8,9] [28] ?_);refine ag fun K2 au=>ar [5,6,8,9,31] [28] ?_;refine al (aq ?_);refine au _ (AW.norm [5,6,8,9] [28] aQ (AW.st bt ?_));refine ag fun K3 aX=>ar [5,6,8,9,54] [28] ?_;refine al (aq (aX _ ?_));refine ar [5,6,9] [28] ?_;refine bh trivial fN [5,9,10,11] [28] ?_;refine ag fun K4 b6=>ae aoz [5,9,10,11,12,13] [28] ?_;refine ar [5,9,10,11,12,75] [28] ?_;refine al (aq (b6 _ ?_));refine ag fun K5 b5=>ar [5,9,10,11,92] [28] ?_;refine al (aq (b5 _ ?_));refine ar [9] [28] ?_;refine ar [2,3,4] [28] ?_;refine gu 28 ?_;exact fP
  | [a,b],fm,jH=>
   have gR:=HA qi a bD;simp only[dS]at gR;show aD _ _ _ _ (dD (if kT qi a < 2 then .form else oC (kT qi a) b hd rest));have qB:=Ik qi a;generalize kT qi a=k at gR qB ⊢;have SM:k < 7:=qB.2;by_cases hk:k < 2
   .rw[if_pos hk];simp only[dD];refine aD.aO (ay _) func93 rfl rfl (rs:=[.tmp 2,.tmp 3,.tmp 4]) results93 (by simp[ntmps93]) fun X=>?_;simp only[ntmps93,List.map];refine ar [0] [] ?_;have qf:=@uS;refine eF pw [5,6,7] [] ?_;refine bh trivial fm [5,6,7,8] [] ?_;refine ag fun K1 aF=>ar [5,6,8,26] [] ?_;refine aJ (ar [5,6,8,9] [28] ?_);refine ag fun K2 au=>ar [5,6,8,9,31] [28] ?_;refine aJ (fD (ay _) fun K' ao=>?_);(repeat refine aK fun Kq af=>?_;simp;(repeat refine⟨aa,?_⟩);refine af _ ?_);refine aK fun Kq af=>?_;simp;refine cZ.rT (gR) bt (by first | exact D.bC _ | simp[aP,amk,amc,D.le,D.le.go,D.le_refl,D.bC]) (by simp[D.scalar]) ?_;refine af _ ?_;simp only[aN,du];(repeat refine aK fun Kq af=>?_;simp;(repeat refine⟨aa,?_⟩);refine af _ ?_);refine bH (ao _ ?_);refine au _ (AW.norm [5,6,8,9] [28,33] aQ (AW.st bt ?_));refine ag fun K3 aX=>?_;have qf:=@hk;refine ax [5,6,8,9,54] [28,33] ?_;refine aJ (ar [2,3,4] [28,33] ?_);exact fP
   rw[if_neg hk];rw[hR];have hsome:=fun h=>CD (t:=rest) h;have dz:=fun c o h=>Fl (t:=rest) (c:=c) (p:=o) h;generalize (ig rest).1=oe at fN hsome ⊢;generalize (ig rest).2=oc at fN ia hsome dz ⊢
   match oc,fN,ia,hsome,dz with
   | some (c,some o),fN,ia,_,dz=>
    have Eu:=dz c o rfl
    have hcast:((hd.length+1+o:Nat):Int)=(hd.length:Int)+1+o:=aa
    simp only[bG]at fN;simp only[dD,anM];refine aD.aO (ay _) func93 rfl rfl (rs:=[.tmp 2,.tmp 3,.tmp 4]) results93 (by simp[ntmps93]) fun X=>?_;simp only[ntmps93,List.map];refine ar [0] [] ?_;have qf:=@uS;refine eF pw [5,6,7] [] ?_;refine bh trivial fm [5,6,7,8] [] ?_;refine ag fun K1 aF=>ar [5,6,8,26] [] ?_;refine aJ (ar [5,6,8,9] [28] ?_);refine ag fun K2 au=>ar [5,6,8,9,31] [28] ?_;refine aJ (fD (ay _) fun K' ao=>?_);(repeat refine aK fun Kq af=>?_;simp;(repeat refine⟨aa,?_⟩);refine af _ ?_);refine aK fun Kq af=>?_;simp;refine cZ.rT (gR) bt (by first | exact D.bC _ | simp[aP,amk,amc,D.le,D.le.go,D.le_refl,D.bC]) (by simp[D.scalar]) ?_;refine af _ ?_;simp only[aN,du];(repeat refine aK fun Kq af=>?_;simp;(repeat refine⟨aa,?_⟩);refine af _ ?_);refine bH (ao _ ?_);refine au _ (AW.norm [5,6,8,9] [28,33] aQ (AW.st bt ?_));refine ag fun K3 aX=>?_;have qf:=@hk;refine ax [5,6,8,9,54] [28,33] ?_;refine al (aq (aX _ ?_));refine ar [5,6,9] [28,33] ?_;refine bh trivial fN [5,9,10,11] [28,33] ?_;refine ag fun K4 b6=>ae aoz [5,9,10,11,12,13] [28,33] ?_;refine ar [5,9,10,11,12,75] [28,33] ?_;refine aJ ?_;have qf:=@bX;refine il [2,3,4] [28,33,89] ?_;refine gu 89 ?_;exact aY @hcast
   | some (c,none),fN,ia,_,_=>
    have hcast:((hd.length+1:Nat):Int)=(hd.length:Int)+1:=aa
    simp only[bG,codeF]at fN ia;simp only[dD,Option.getD_none,anj];refine aD.aO (ay _) func93 rfl rfl (rs:=[.tmp 2,.tmp 3,.tmp 4]) results93 (by simp[ntmps93]) fun X=>?_;simp only[ntmps93,List.map];refine ar [0] [] ?_;have qf:=@uS;refine eF pw [5,6,7] [] ?_;refine bh trivial fm [5,6,7,8] [] ?_;refine ag fun K1 aF=>ar [5,6,8,26] [] ?_;refine aJ (ar [5,6,8,9] [28] ?_);refine ag fun K2 au=>ar [5,6,8,9,31] [28] ?_;refine aJ (fD (ay _) fun K' ao=>?_);(repeat refine aK fun Kq af=>?_;simp;(repeat refine⟨aa,?_⟩);refine af _ ?_);refine aK fun Kq af=>?_;simp;refine cZ.rT (gR) bt (by first | exact D.bC _ | simp[aP,amk,amc,D.le,D.le.go,D.le_refl,D.bC]) (by simp[D.scalar]) ?_;refine af _ ?_;simp only[aN,du];(repeat refine aK fun Kq af=>?_;simp;(repeat refine⟨aa,?_⟩);refine af _ ?_);refine bH (ao _ ?_);refine au _ (AW.norm [5,6,8,9] [28,33] aQ (AW.st bt ?_));refine ag fun K3 aX=>?_;have qf:=@hk;refine ax [5,6,8,9,54] [28,33] ?_;refine al (aq (aX _ ?_));refine ar [5,6,9] [28,33] ?_;refine bh trivial fN [5,9,10,11] [28,33] ?_;refine ag fun K4 b6=>ae aoz [5,9,10,11,12,13] [28,33] ?_;refine ar [5,9,10,11,12,75] [28,33] ?_;refine al (aq (b6 _ ?_));refine ag fun K5 b5=>ar [5,9,10,11,92] [28,33] ?_;refine aJ ?_;have qf:=@bX;refine eF ia [2,3,4] [28,33,99] ?_;refine gu 99 ?_;exact aY @hcast
   | none,fN,ia,hsome,_=>
    obtain⟨e,rfl⟩:=hsome rfl;obtain⟨ta,ca,sH⟩:=js e;simp only[dC,sH,bG]at fN;simp only[dD,de,dC,sH,dS];refine aD.aO (ay _) func93 rfl rfl (rs:=[.tmp 2,.tmp 3,.tmp 4]) results93 (by simp[ntmps93]) fun X=>?_;simp only[ntmps93,List.map];refine ar [0] [] ?_;have qf:=@uS;refine eF pw [5,6,7] [] ?_;refine bh trivial fm [5,6,7,8] [] ?_;refine ag fun K1 aF=>ar [5,6,8,26] [] ?_;refine aJ (ar [5,6,8,9] [28] ?_);refine ag fun K2 au=>ar [5,6,8,9,31] [28] ?_;refine aJ (fD (ay _) fun K' ao=>?_);(repeat refine aK fun Kq af=>?_;simp;(repeat refine⟨aa,?_⟩);refine af _ ?_);refine aK fun Kq af=>?_;simp;refine cZ.rT (gR) bt (by first | exact D.bC _ | simp[aP,amk,amc,D.le,D.le.go,D.le_refl,D.bC]) (by simp[D.scalar]) ?_;refine af _ ?_;simp only[aN,du];(repeat refine aK fun Kq af=>?_;simp;(repeat refine⟨aa,?_⟩);refine af _ ?_);refine bH (ao _ ?_);refine au _ (AW.norm [5,6,8,9] [28,33] aQ (AW.st bt ?_));refine ag fun K3 aX=>?_;have qf:=@hk;refine ax [5,6,8,9,54] [28,33] ?_;refine al (aq (aX _ ?_));refine ar [5,6,9] [28,33] ?_;refine bh trivial fN [5,9,10,11] [28,33] ?_;refine ag fun K4 b6=>ae aoz [5,9,10,11,12,13] [28,33] ?_;refine ar [5,9,10,11,12,75] [28,33] ?_;refine al (aq (b6 _ ?_));refine ag fun K5 b5=>ar [5,9,10,11,92] [28,33] ?_;refine al (aq (b5 _ ?_));refine ar [9] [28,33] ?_;refine ar [2,3,4] [28,33] ?_;refine gu 28 ?_;exact fP
  | a :: b :: c :: l,fm,jH=>
   have n1:¬ ((a :: b :: c :: l).length:Int)=2:=by simp only[amo];omega
   have n2:¬ ((a :: b :: c :: l).length:Int)=1:=by simp only[amo];omega
   show aD _ _ _ _ (dD .form);simp only[dD];generalize a :: b :: c :: l=ws at fm jH n1 n2;refine aD.aO (ay _) func93 rfl rfl (rs:=[.tmp 2,.tmp 3,.tmp 4]) results93 (by simp[ntmps93]) fun X=>?_;simp only[ntmps93,List.map];refine ar [0] [] ?_;have qf:=@uS;refine eF pw [5,6,7] [] ?_;refine bh trivial fm [5,6,7,8] [] ?_;refine ag fun K1 aF=>ar [5,6,8,26] [] ?_;refine aJ (ar [5,6,8,9] [28] ?_);refine ag fun K2 au=>?_;have qf:=(Aq @n1 @n2);refine ax [5,6,8,9,31] [28] ?_;refine al (aq ?_);refine au _ (AW.norm [5,6,8,9] [28] aQ (AW.st bt ?_));refine ag fun K3 aX=>?_;have qf:=(Aq @n1 @n2);refine ax [5,6,8,9,54] [28] ?_;refine aJ (ar [2,3,4] [28] ?_);exact fP
 .have nz:iS s=mg (jo s):=by unfold iS;rw[if_neg xu]
  rw[nz];simp only[xu,if_false,decide_false]at pw;have fm:=Rl G s aa;have jH:=JT s;have B9:=fun x=>JU (t:=s) (w:=x);generalize sL:jo s=ws at fm jH B9 h0 ⊢;obtain⟨a,l,rfl⟩:∃ a l,ws=a :: l:=List.exists_cons_of_ne_nil h0;show aD _ _ _ _ (dD (iJ (kT uR a) l));have gR:=HA uR a bD;have qB:=Ik uR a;have SM:kT uR a < 5:=qB.2;generalize kT uR a=k at gR SM ⊢
  have wg:((a :: l).length:Int)=(l.length:Int)+1:=ak
  simp only[dS]at pw fm gR ⊢;refine aD.aO (ay _) func93 rfl rfl (rs:=[.tmp 2,.tmp 3,.tmp 4]) results93 (by simp[ntmps93]) fun X=>?_;simp only[ntmps93,List.map];refine ar [0] [] ?_;have qf:=@uS;refine eF pw [5,6,7] [] ?_;refine bh trivial fm [5,6,7,8] [] ?_;refine ag fun K1 aF=>ar [5,6,8,26] [] ?_;refine al (aq (aF _ ?_));refine rg [8,14] [106] aQ fun K' ao=>?_;(repeat refine aK fun Kq af=>?_;simp;(repeat refine⟨aa,?_⟩);refine af _ ?_);refine aK fun Kq af=>?_;simp;refine cZ.rT (gR) bt (by first | exact D.bC _ | simp[aP,amk,amc,D.le,D.le.go,D.le_refl,D.bC]) (by simp[D.scalar]) ?_;refine af _ ?_;simp only[aN,du];(repeat refine aK fun Kq af=>?_;simp;(repeat refine⟨aa,?_⟩);refine af _ ?_);refine bH (ao _ (AW.st bt ?_));refine ag fun K6 dy=>?_;by_cases hk:k < 1
  .have hF:iJ k l = .form:=by
    match l with
    | []=>rfl
    | [b]=>rw[iJ,if_neg aa]
    | [b,c]=>rw[iJ,if_neg aa]
    | b :: c :: d :: l=>rfl
   rw[hF];simp only[dD];have qf:=@hk;refine ax [8,14,120] [106] ?_;refine aJ (ar [2,3,4] [106] ?_);exact fP
  have HF:k=1\/k=2\/k=3\/k=4:=aa
  rcases HF with rfl | rfl | rfl | rfl
  .by_cases hl:l.length=1
   .obtain⟨b,rfl⟩:∃ b,l=[b]:=amW.1 hl;have hF:iJ 1 [b] = .name ⟨b,1,0⟩:=rfl;have qf:=aoL;refine ax [8,14,120] [106] ?_;refine al (aq (dy _ ?_));refine ar [8,14,15] [106,127] ?_;refine ag fun K7 eH=>ar [8,15,129] [106,127] ?_;refine al (aq ?_);refine eH _ (AW.norm [15] [106,127] aQ (AW.st bt ?_));refine ar [2,3,4] [106,127] ?_;refine gu 127 ?_;exact aY (Aq @hF aoC)
   .have hF:iJ 1 l = .form:=by
     match l,hl with
     | [],_=>rfl
     | [b],hl=>simp at hl
     | [b,c],_=>rw[iJ,if_neg aa]
     | b :: c :: d :: l,_=>rfl
    rw[hF];simp only[dD]
    have hn:¬ (l.length:Int)=1:=aa
    have lU:¬ (l.length:Int)+1=2:=aa
    have qf:=(Aq @hn (Aq @lU (Aq @wg aoL)));refine ax [8,14,120] [106] ?_;refine aJ (ar [2,3,4] [106] ?_);exact fP
  .by_cases hl:l.length=1
   .obtain⟨b,rfl⟩:∃ b,l=[b]:=amW.1 hl;have hF:iJ 2 [b] = .name ⟨b,2,0⟩:=rfl;have qf:=aoL;refine ax [8,14,120] [106] ?_;refine al (aq (dy _ ?_));refine ar [8,14,15] [106,127] ?_;refine ag fun K7 eH=>ar [8,15,129] [106,127] ?_;refine al (aq ?_);refine eH _ (AW.norm [15] [106,127] aQ (AW.st bt ?_));refine ar [2,3,4] [106,127] ?_;refine gu 127 ?_;exact aY (Aq @hF aoC)
   .have hF:iJ 2 l = .form:=by
     match l,hl with
     | [],_=>rfl
     | [b],hl=>simp at hl
     | [b,c],_=>rw[iJ,if_neg aa]
     | b :: c :: d :: l,_=>rfl
    rw[hF];simp only[dD]
    have hn:¬ (l.length:Int)=1:=aa
    have lU:¬ (l.length:Int)+1=2:=aa
    have qf:=(Aq @hn (Aq @lU (Aq @wg aoL)));refine ax [8,14,120] [106] ?_;refine aJ (ar [2,3,4] [106] ?_);exact fP
  .by_cases hl:l.length=2
   .obtain⟨b,c,rfl⟩:∃ b c,l=[b,c]:=by
     match l,hl with
     | [b,c],_=>exact⟨b,c,rfl⟩
    have cH:c.length < 2^40:=by have:=(B9 c ak).2;omega
    have dz:=Qt G hE c cH;have cy:iJ 3 [b,c]=(match yc c with | some v=>.name ⟨b,3,v⟩ | none=>.form):=rfl;unfold yc at cy
    unfold y6 at dz
    simp only[dS]at dz
    have qf:=aoL;refine ax [8,14,120] [106] ?_;refine al (aq (dy _ ?_));refine ar [8,14,15] [106,127] ?_;refine ag fun K7 eH=>ar [8,15,129] [106,127] ?_;refine aJ ?_
    cases hn:Lib.atoiAll c with
    | ok v=>
     rw[hn]at dz cy;dsimp only at dz cy;obtain⟨v0,v1⟩:=Lib.atoiAll_bounds hn;have hit:=Uq G hP v v0 v1;simp only[dS]at hit;generalize Lib.itoa v=iv at hit cy;refine bh trivial dz [8,15,16,17] [106,127] ?_;refine ag fun K8 eo=>?_;by_cases hc:iv=c
     .rw[if_pos hc]at cy;subst hc;refine tX (ay _) ah [15,16,146] [106,127] aQ ah fun K' ao=>?_;(repeat refine gC fun Kq af=>?_;simp[bu,bA];(repeat refine⟨aa,?_⟩);refine af _ ?_);refine gC fun Kq af=>?_;simp[bu,bA];refine nj.data (hit) bt bt (by first | exact D.bC _ | simp[aP,amk,amc,D.le,D.le.go,D.le_refl,D.bC,bu,bA]) ?_;refine af _ ?_;simp only[aN,du];(repeat refine gC fun Kq af=>?_;simp[bu,bA];(repeat refine⟨aa,?_⟩);refine af _ ?_);refine o8 (ao _ ?_);refine AW.st (by simp[bu,bA];rfl) ?_;refine al (aq (eo _ ?_));refine gq trivial eH [15] [106,127] ?_;refine ar [2,3,4] [106,127] ?_;refine gu 127 ?_;exact aY (Aq @cy aoC)
     .rw[if_neg hc]at cy;refine tX (ay _) ah [15,16,146] [106,127] aQ ah fun K' ao=>?_;(repeat refine gC fun Kq af=>?_;simp[bu,bA,hc];(repeat refine⟨aa,?_⟩);refine af _ ?_);refine gC fun Kq af=>?_;simp[bu,bA,hc];refine nj.data (hit) bt bt (by first | exact D.bC _ | simp[aP,amk,amc,D.le,D.le.go,D.le_refl,D.bC,bu,bA,hc]) ?_;refine af _ ?_;simp only[aN,du];(repeat refine gC fun Kq af=>?_;simp[bu,bA,hc];(repeat refine⟨aa,?_⟩);refine af _ ?_);refine o8 (ao _ ?_);refine AW.st (by simp[bu,bA,hc];rfl) ?_;refine bR (by simp[hc]) (ar [2,3,4] [106,127] ?_);exact aY (Aq @cy aoB)
    | range=>
     rw[hn]at dz cy;dsimp only[vx]at dz cy;refine bh trivial dz [8,15,16,17] [106,127] ?_;refine ag fun K8 eo=>Jf trivial [15,16,146] [106,127] ?_;refine aJ (ar [2,3,4] [106,127] ?_);exact aY (Aq @cy aoB)
    | _=>
     rw[hn]at dz cy;dsimp only[vx]at dz cy;refine bh trivial dz [8,15,16,17] [106,127] ?_;refine ag fun K8 eo=>Jf trivial [15,16,146] [106,127] ?_;refine aJ (ar [2,3,4] [106,127] ?_);exact aY (Aq @cy aoB)
   .have hF:iJ 3 l = .form:=by
     match l,hl with
     | [],_=>rfl
     | [b],_=>rw[iJ,if_neg aa]
     | [b,c],hl=>simp at hl
     | b :: c :: d :: l,_=>rfl
    rw[hF];simp only[dD]
    have hn:¬ (l.length:Int)=2:=aa
    have lU:¬ (l.length:Int)+1=3:=aa
    have qf:=(Aq @hn (Aq @lU (Aq @wg aoL)));refine ax [8,14,120] [106] ?_;refine aJ (ar [2,3,4] [106] ?_);exact fP
  .by_cases hl:l.length=2
   .obtain⟨b,c,rfl⟩:∃ b c,l=[b,c]:=by
     match l,hl with
     | [b,c],_=>exact⟨b,c,rfl⟩
    have cH:c.length < 2^40:=by have:=(B9 c ak).2;omega
    have dz:=Qt G hE c cH;have cy:iJ 4 [b,c]=(match yc c with | some v=>.name ⟨b,4,v⟩ | none=>.form):=rfl;unfold yc at cy
    unfold y6 at dz
    simp only[dS]at dz
    have qf:=aoL;refine ax [8,14,120] [106] ?_;refine al (aq (dy _ ?_));refine ar [8,14,15] [106,127] ?_;refine ag fun K7 eH=>ar [8,15,129] [106,127] ?_;refine aJ ?_
    cases hn:Lib.atoiAll c with
    | ok v=>
     rw[hn]at dz cy;dsimp only at dz cy;obtain⟨v0,v1⟩:=Lib.atoiAll_bounds hn;have hit:=Uq G hP v v0 v1;simp only[dS]at hit;generalize Lib.itoa v=iv at hit cy;refine bh trivial dz [8,15,16,17] [106,127] ?_;refine ag fun K8 eo=>?_;by_cases hc:iv=c
     .rw[if_pos hc]at cy;subst hc;refine tX (ay _) ah [15,16,146] [106,127] aQ ah fun K' ao=>?_;(repeat refine gC fun Kq af=>?_;simp[bu,bA];(repeat refine⟨aa,?_⟩);refine af _ ?_);refine gC fun Kq af=>?_;simp[bu,bA];refine nj.data (hit) bt bt (by first | exact D.bC _ | simp[aP,amk,amc,D.le,D.le.go,D.le_refl,D.bC,bu,bA]) ?_;refine af _ ?_;simp only[aN,du];(repeat refine gC fun Kq af=>?_;simp[bu,bA];(repeat refine⟨aa,?_⟩);refine af _ ?_);refine o8 (ao _ ?_);refine AW.st (by simp[bu,bA];rfl) ?_;refine al (aq (eo _ ?_));refine gq trivial eH [15] [106,127] ?_;refine ar [2,3,4] [106,127] ?_;refine gu 127 ?_;exact aY (Aq @cy aoC)
     .rw[if_neg hc]at cy;refine tX (ay _) ah [15,16,146] [106,127] aQ ah fun K' ao=>?_;(repeat refine gC fun Kq af=>?_;simp[bu,bA,hc];(repeat refine⟨aa,?_⟩);refine af _ ?_);refine gC fun Kq af=>?_;simp[bu,bA,hc];refine nj.data (hit) bt bt (by first | exact D.bC _ | simp[aP,amk,amc,D.le,D.le.go,D.le_refl,D.bC,bu,bA,hc]) ?_;refine af _ ?_;simp only[aN,du];(repeat refine gC fun Kq af=>?_;simp[bu,bA,hc];(repeat refine⟨aa,?_⟩);refine af _ ?_);refine o8 (ao _ ?_);refine AW.st (by simp[bu,bA,hc];rfl) ?_;refine bR (by simp[hc]) (ar [2,3,4] [106,127] ?_);exact aY (Aq @cy aoB)
    | range=>
     rw[hn]at dz cy;dsimp only[vx]at dz cy;refine bh trivial dz [8,15,16,17] [106,127] ?_;refine ag fun K8 eo=>Jf trivial [15,16,146] [106,127] ?_;refine aJ (ar [2,3,4] [106,127] ?_);exact aY (Aq @cy aoB)
    | _=>
     rw[hn]at dz cy;dsimp only[vx]at dz cy;refine bh trivial dz [8,15,16,17] [106,127] ?_;refine ag fun K8 eo=>Jf trivial [15,16,146] [106,127] ?_;refine aJ (ar [2,3,4] [106,127] ?_);exact aY (Aq @cy aoB)
   .have hF:iJ 4 l = .form:=by
     match l,hl with
     | [],_=>rfl
     | [b],_=>rw[iJ,if_neg aa]
     | [b,c],hl=>simp at hl
     | b :: c :: d :: l,_=>rfl
    rw[hF];simp only[dD]
    have hn:¬ (l.length:Int)=2:=aa
    have lU:¬ (l.length:Int)+1=3:=aa
    have qf:=(Aq @hn (Aq @lU (Aq @wg aoL)));refine ax [8,14,120] [106] ?_;refine aJ (ar [2,3,4] [106] ?_);exact fP
end Go.Proofs.YtobejfcgcfdpfaaGreatDoor
namespace Go.Av
section
variable {P:Program} {T:Ty} {Mv X:Nat->Prop} {G:aB} {N:Fr} {w w':World} {μ:Mu} {a:Act} {σ:St} {ops:Array Oper} {db:List Nat} {fp:List (Nat×Nat)}
def yU (P:Program) (T:Ty) (Mv:Nat->Prop) (G:aB) (N:Fr) (db:List Nat) (fp:List (Nat×Nat)) (i:Nat) (o:Oper) (σ aH:St):Prop:=
 pd P T Mv G N db i o σ aH/\(db.contains i=false->sZ G fp σ.env i o.op)
theorem pd.env {i:Nat} {o:Oper} {σ aH:St} (h:pd P T Mv G N db i o σ aH):∃ v,aH.env=aN σ.env o.dst v:=by
 rcases h.2.2 with⟨_,c,y,_,_,rfl⟩ | ⟨_,_,x,H',_,rfl⟩
 .exact⟨_,rfl⟩
 .exact⟨_,rfl⟩
def Dk (db:List Nat) (fp:List (Nat×Nat)) (ops:Array Oper) (i j:Nat) (oi oj:Oper):Bool:=A8 db ops i j oi oj || (!db.contains i && !db.contains j && oi.apart ops oj && Cf oi.op && Cf oj.op && match fp.lookup i,fp.lookup j with
 | some r,some r'=>!(r == r')
 | _,_=>false)
theorem ahT {i j:Nat} {oi oj:Oper} (hc:Dk db fp ops i j oi oj=true) {σ ba iB:St} (h1:yU P T Mv G N db fp i oi σ ba) (h2:yU P T Mv G N db fp j oj ba iB) :
  ∃ jK,yU P T Mv G N db fp j oj σ jK/\yU P T Mv G N db fp i oi jK iB:=by
 obtain⟨s1,t1⟩:=h1;obtain⟨s2,t2⟩:=h2
 have eO:oi.apart ops oj=true:=by
  simp only[Dk,A8,amU,OF]at hc
  rcases hc with hc | hc
  .exact hc.1
  .exact hc.1.1.1.2
 have ft:∀ v,gU oj.op (aN σ.env oi.dst v) σ.env:=fun v t ht=>(jz eO (e:=σ.env) (v:=v)).1 t (lk ht);have fZ:∀ v,gU oi.op σ.env (aN σ.env oj.dst v):=fun v t ht=>((jz eO (e:=σ.env) (v:=v)).2.1 t (lk ht)).symm;have bq:=(jz eO (e:=σ.env) (v:=dI)).2.2;obtain⟨v1,th⟩:=s1.env
 have main:∃ jK,pd P T Mv G N db j oj σ jK/\pd P T Mv G N db i oi jK iB:=by
  simp only[Dk,amU]at hc
  rcases hc with hc | hc
  .exact Ro hc s1 s2
  .simp only[OF,ant]at hc;obtain⟨⟨⟨⟨⟨bi,bj⟩,_⟩,li⟩,lj⟩,zA⟩:=hc;have Xz:=t1 bi;have Px:=t2 bj
   cases cE:fp.lookup i with
   | none=>simp[cE]at zA
   | some r=>
    cases zz:fp.lookup j with
    | none=>simp[cE,zz]at zA
    | some r'=>
     have hr:r≠r':=by simpa[cE,zz]using zA
     obtain⟨di,gi,s1⟩:=s1;obtain⟨dj,gj,s2⟩:=s2
     rcases s1 with⟨b,_⟩ | ⟨_,k1,x,H',e1,rfl⟩
     .rw[bi]at b;cases b
     rcases s2 with⟨b,_⟩ | ⟨_,k2,z,H2,e2,rfl⟩
     .rw[bj]at b;cases b
     dsimp only at e2 Px th;simp only[sZ,cE]at Xz;simp only[sZ,zz]at Px;obtain⟨u,rfl,NZ⟩:=e1.JE Xz;have e2:=e2.congr k2 (ft _);obtain⟨u',rfl,N0⟩:=e2.JE (OE (ft _) Px);refine⟨⟨aN σ.env oj.dst z,oA σ.H r' u'⟩,⟨dj,gj,.inr ⟨bj,k2,z,oA σ.H r' u',N0 σ.H (Ja (H:=σ.H) (u:=u) (ann hr)).symm,rfl⟩⟩,di,gi,.inr ⟨bi,k1,x,oA (oA σ.H r' u') r u,(NZ (oA σ.H r' u') (Ja hr)).congr k1 (fZ _),?_⟩⟩;rw[VY hr,iL bq]
 obtain⟨jK,f1,f2⟩:=main;obtain⟨v3,Ds⟩:=f1.env;refine⟨jK,⟨f1,fun hb=>?_⟩,f2,fun hb=>?_⟩
 .have h:=t2 hb;rw[th]at h;exact JF (ft _) h
 .rw[Ds];exact JF (fZ _) (t1 hb)
def WN (P:Program) (T:Ty) (Mv:Nat->Prop) (G:aB) (N:Fr) (db:List Nat) (fp:List (Nat×Nat)) (ops:Array Oper):List Nat->St->St->Prop:=ja (yU P T Mv G N db fp) ops
def Vt (db:List Nat) (fp:List (Nat×Nat)) (ord:List Nat) (ops:Array Oper):Bool:=pJ (Dk db fp ops) ord ops
def Jw (P:Program) (T:Ty) (Mv:Nat->Prop) (G:aB) (N:Fr) (db:List Nat) (fp:List (Nat×Nat)) (i:Nat) (o:Oper) (σ:St) (K:St->Prop):Prop:=fb N o/\o.guard=none/\
 if db.contains i=true then (match pW T G σ.env o with
  | some (c,y)=>c/\K ⟨aN σ.env o.dst (.d y),σ.H⟩
  | none=>False)
 else sZ G fp σ.env i o.op/\kindOf o.op≠9/\match eD o.op with
  | some c=>pj P G c σ.env o.dst σ.H [] [] K
  | none=>yh T G Mv o σ [] K
def wO (P:Program) (T:Ty) (Mv:Nat->Prop) (G:aB) (N:Fr) (db:List Nat) (fp:List (Nat×Nat)) (K:St->Prop):List (Nat×Oper)->St->Prop
 | [],σ=>K σ
 | (i,o) :: rest,σ=>Jw P T Mv G N db fp i o σ (wO P T Mv G N db fp K rest)
theorem ajp {K:St->Prop}:∀ (l:List Nat) (σ:St),(∀ i∈l,i < ops.size)->wO P T Mv G N db fp K (b8 ops l) σ->∃ cF,K cF/\WN P T Mv G N db fp ops l σ cF:=by
 intro l
 induction l with
 | nil=>intro σ _ h;exact⟨σ,h,rfl⟩
 | cons i l ih=>
  intro σ hl h;have hi:=hl i ak
  have ho:ops[i]? = some ops[i]:=by simp[hi]
  simp only[b8,ho]at h;generalize ops[i]=o at ho h;simp only[wO,Jw]at h;obtain⟨hd,dJ,h⟩:=h
  have fin:∀ ba,yU P T Mv G N db fp i o σ ba->wO P T Mv G N db fp K (b8 ops l) ba->∃ cF,K cF/\WN P T Mv G N db fp ops (i :: l) σ cF:=fun ba hs h1=>by
   obtain⟨cF,hk,hr⟩:=ih ba (fun j hj=>hl j (by simp[hj])) h1;exact⟨cF,hk,o,ho,ba,hs,hr⟩
  split at h
  .rename_i hb;split at h
   .rename_i c y hw;obtain⟨hc,h⟩:=h;exact fin _ ⟨⟨hd,dJ,.inl ⟨hb,c,y,hw,hc,rfl⟩⟩,fun e=>by rw[hb]at e;cases e⟩ h
   .exact h.elim
  .rename_i hb
   have hb:db.contains i=false:=by simpa using hb
   obtain⟨Ng,hk,h⟩:=h;split at h
   .rename_i c hc;obtain⟨y,g,ds,ht,hp,iH,h⟩:=h;refine fin _ ⟨⟨hd,dJ,.inr ⟨hb,hk,.d y,σ.H,?_,rfl⟩⟩,fun _=>Ng⟩ h;unfold Ex;simp only[hc];exact⟨y,⟨g,_,ht,.inl ⟨ds,rfl,hp⟩⟩,rfl,trivial⟩
   .rename_i hc;unfold yh at h;split at h
    .rename_i hw;split at h
     .rename_i c x ba h1;obtain⟨cU,iH,h⟩:=h;have he:=CT hk h1;obtain⟨e,H⟩:=σ;obtain⟨e1,H1⟩:=ba;dsimp only at he;subst he;refine fin _ ⟨⟨hd,dJ,.inr ⟨hb,hk,x,H1,?_,rfl⟩⟩,fun _=>Ng⟩ h;unfold Ex;simp only[hc];rw[if_pos hw];exact⟨c,h1,cU⟩
     .exact h.elim
    .rename_i hw;split at h
     .rename_i c x h1;obtain⟨cU,iH,h⟩:=h;refine fin _ ⟨⟨hd,dJ,.inr ⟨hb,hk,x,σ.H,?_,rfl⟩⟩,fun _=>Ng⟩ h;unfold Ex;simp only[hc];rw[if_neg hw];exact⟨c,h1,cU,trivial⟩
     .exact h.elim
theorem Yn (hg:Good P T) (hm:P.follows .mixedOrders=true) (db:List Nat) (fp:List (Nat×Nat)) (ord:List Nat) {id:Nat} (cf:Vt db fp ord ops=true) {Q:Exit->St->Prop} {σ:St} (h:wO P T Mv G N db fp (fun aH=>Q .normal aH) (b8 ops ord) σ):AW P Mv X G N (.region id ops true) Q σ:=wY (Step:=yU P T Mv G N db fp) (cp:=Dk db fp ops) hm (fun i o ho σ aH h w μ a hi _ _ hk=>pd.ok hg h.1 hi ho hk) (fun i j oi oj _ _ hc σ ba iB h1 h2=>ahT hc h1 h2) ord cf fun aG=>ajp ord σ aG h
theorem F0 (hg:Good P T) (hm:P.follows .mixedOrders=true) (db:List Nat) (fp:List (Nat×Nat)) (ord:List Nat) (l ns:List Nat) (hM:∀ r,ns.contains r=false->Mv r) {id:Nat} (cf:Vt db fp ord ops=true) {y:Code} {Q:Exit->St->Prop} {σ:St}
  (h:∀ K:St->Prop,(∀ τ:St,AW P Mv X G N y Q (τ.norm l ns)->K τ)->wO P T Mv G N db fp K (b8 ops ord) σ):AW P Mv X G N (.seq (.region id ops true) y) Q σ:=
 tZ (Yn hg hm db fp ord cf (h _ fun _ h=>h.norm l ns hM))
theorem yz {K:St->Prop} {i:Nat} {l:List Nat} {o:Oper} (ho:ops[i]? = some o) (h:∀ K':St->Prop,(∀ τ,wO P T Mv G N db fp K (b8 ops l) τ->K' τ)->Jw P T Mv G N db fp i o σ K'):wO P T Mv G N db fp K (b8 ops (i :: l)) σ:=by
 have:b8 ops (i :: l)=(i,o) :: b8 ops l:=by simp[b8,ho]
 rw[this];exact h _ fun _ h=>h
theorem JB {K:St->Prop} (h:K σ):wO P T Mv G N db fp K (b8 ops []) σ:=h
end
attribute [simp] Jw
