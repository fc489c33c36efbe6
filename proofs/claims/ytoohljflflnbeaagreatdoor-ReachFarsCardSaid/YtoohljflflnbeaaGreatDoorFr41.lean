/- Parts. -/
import Derived.Test.YtoohljflflnbeaaGreatDoorFr35
import Derived.Test.YtoohljflflnbeaaGreatDoorFr36
import Derived.Test.YtoohljflflnbeaaGreatDoorFr37
import Derived.Test.YtoohljflflnbeaaGreatDoorFr38
import Derived.Test.YtoohljflflnbeaaGreatDoorFr39
import Derived.Test.YtoohljflflnbeaaGreatDoorFr40
import Derived.Lib.ParseIntBTie
set_option linter.unusedSectionVars false
set_option linter.unusedSimpArgs false
set_option linter.unusedVariables false
set_option maxHeartbeats 16000000
set_option maxRecDepth 100000
open Go.Proofs.Tryz
namespace Go.Proofs.YtoohljflflnbeaaGreatDoor
open Go.Av Go.Shelf Go.RowKit
def sL (G:ay):Prop:=G 6=some (.qe (Lib.pow10Tab.map fun z=>Value.int .u64 z).toArray)
def B0 (v:Value):Prop:=v = .nilIface\/∃ te pe,v = .iface te pe
def uc (G:ay) (es er:Value):Prop:=(G 7=some (.ip [.v es])/\B0 es)/\G 8=some (.ip [.v er])/\B0 er
theorem Fh {G:ay} {g:Nat} {v:Value} {w:World} {X:Nat->Prop} (hm:G g=some (.ip [.v v])) (dt:∀ g x,G g=some x->RD w X (.pointer (some ⟨g,0,none⟩)) x):w.cell? ⟨g,0,none⟩=some v:=by
 obtain⟨b',off,f,hp,_,_,fb,hr⟩:=(dt _ _ hm).rN;have h0:=fb 0 ak;have h1:=(hr 0 _ rfl).scalar;rw[h1]at h0;injection hp with hp;injection hp with hp;injection hp with iX gB _;subst iX gB;exact h0
theorem SU {G:ay} (h:sL G) {w:World} {X:Nat->Prop} (dt:∀ g x,G g=some x->RD w X (.pointer (some ⟨g,0,none⟩)) x):Lib.TabIs prog w "internal/strconv.uint64pow10" .u64 Lib.pow10Tab:=by
 have h1:=dt _ _ h
 obtain⟨ty,fr,hh⟩:∃ ty fr,w.heap[6]? = some (.cells (Lib.pow10Tab.map fun z=>Value.int .u64 z).toArray ty fr):=by
  generalize hy:D.qe _=y at h1;cases h1<;>cases hy;exact⟨_,_,by assumption⟩
 unfold Lib.TabIs World.var?;rw[show prog.globalNamed "internal/strconv.uint64pow10" = some 6 by kernel_rfl];simp only[alp,hh]
theorem Pg (w:World) (os:Array Obj):cN w (Go.Sort.grow w os):=⟨by simp[Go.Sort.grow],rfl,rfl,rfl,fun b hb=>by simp[Go.Sort.grow,akm hb]⟩
theorem cN.trans' {w w1 w2:World} (h:cN w w1) (h2:cN w1 w2):cN w w2:=⟨ald h.size h2.size,h2.os.trans h.os,h2.tape.trans h.tape,h2.output.trans h.output,fun b hb=>(h2.same b (akd hb h.size)).trans (h.same b hb)⟩
theorem Rx (G:ay) (hP:sL G) (n:Int) (h0:-9223372036854775808<=n) (h1:n<=9223372036854775807):aD prog G 82 [.v (.int .i64 n)] (dS (Lib.itoa n)):=by
 refine aD.sE (iA.of func82 rfl rfl) fun X w vs bd bY dt=>?_
 obtain⟨u,rfl⟩:∃ u,vs = #[u]:=by
  match vs,bd with
  | ⟨[u]⟩,_=>exact⟨u,rfl⟩
 have hu:=(bY 0 u _ rfl rfl).scalar;subst hu;refine (Any.strconv_Itoa Tryz.abN n h0 h1 w (SU hP dt)).mono fun e w' ⟨he,k,os,hw⟩=>⟨_,he,by rw[hw];exact cN.trans' (EW w k) (Pg _ _),.v _⟩
theorem Yr (G:ay) (hP:sL G) (n:Int) (h0:-9223372036854775808<=n) (h1:n<=9223372036854775807):aD prog G 226 [.v (.int .i64 n),.v (.int .i64 10)] (dS (Lib.itoa n)):=by
 refine aD.sE (iA.of func226 rfl rfl) fun X w vs bd bY dt=>?_
 obtain⟨u,v,rfl⟩:∃ u v,vs = #[u,v]:=by
  match vs,bd with
  | ⟨[u,v]⟩,_=>exact⟨u,v,rfl⟩
 have hu:=(bY 0 u _ rfl rfl).scalar;have hv:=(bY 1 v _ rfl rfl).scalar;subst hu hv;refine (Any.strconv_FormatInt_10 Tryz.abQ n h0 h1 w (SU hP dt)).mono fun e w' ⟨he,k,os,hw⟩=>⟨_,he,by rw[hw];exact cN.trans' (EW w k) (Pg _ _),.v _⟩
def uB (f s:Tx) (ev:Value):D:=.cf 422 (.ip [dS f,dS s,.v ev])
def xB (f s:Tx) (es er:Value):D:=match Lib.atoiAll s with
 | .ok v=>.bz [.v (.int .i64 v),.v .nilIface]
 | .range=>.bz [.v (.int .i64 (Lib.atoiSat s)),uB f s er]
 | _=>.bz [.v (.int .i64 0),uB f s es]
theorem Hh {w:World} {X:Nat->Prop} (v:Int):RD w X (.tuple #[.int .i64 v,.nilIface]) (.bz [.v (.int .i64 v),.v .nilIface]):=.bz rfl fun j u c hu hc=>by
 match j,hu,hc with
 | 0,hu,hc=>simp at hu hc;subst hu hc;exact .v _
 | 1,hu,hc=>simp at hu hc;subst hu hc;exact .v _
 | j+2,hu,hc=>simp at hu
theorem Hg {w w':World} {X:Nat->Prop} (kD:∀ b,X b->b < w.heap.size) {v:Int} {f s:Tx} {ev:Value} {N:Nat} {T:TypeId} (hN:w.heap.size<=N) (hc:w'.heap[N]? = some (.cells #[.string (bs f),.string (bs s),ev] T (0,0))) :
  RD w' X (.tuple #[.int .i64 v,.iface 422 (.pointer (some ⟨N,0,none⟩))]) (.bz [.v (.int .i64 v),uB f s ev]):=by
 have fb:∀ j,w'.cell? ⟨N,j,none⟩=(#[.string (bs f),.string (bs s),ev]:Array Value)[j]?:=fun j=>by simp[World.cell?,hc]
 refine .bz rfl fun j u c hu hx=>?_
 match j,hu,hx with
 | 0,hu,hx=>simp at hu hx;subst hu hx;exact .v _
 | 1,hu,hx=>
  simp at hu hx;subst hu hx;refine .cf (.ip (f:=fun j=>(w'.cell? ⟨N,j,none⟩).getD undef) (fun hx=>by have:=kD _ hx;omega) (abi.1 hc).1 (fun j hj=>?_) fun j c iV=>?_)
  .have hj3:j < 3:=by simpa using hj
   rw[akg,fb]
   match j,hj3 with
   | 0,_=>rfl
   | 1,_=>rfl
   | 2,_=>rfl
  .rw[fb]
   match j,iV with
   | 0,iV=>simp at iV;subst iV;exact .v _
   | 1,iV=>simp at iV;subst iV;exact .v _
   | 2,iV=>simp at iV;subst iV;exact .v _
   | j+3,iV=>simp at iV
 | j+2,hu,hx=>simp at hu
theorem Oq (w:World) (e:TypeId) (s:ByteArray):cN w (Lib.bytesWorld w e s):=xw (Lib.bytesWorld_below w e s)
def Wl:Tx:=[65,116,111,105]
def adn:Tx:=[80,97,114,115,101,73,110,116]
theorem Oa (G:ay) {es er:Value} (hE:uc G es er) (s:Tx) (hs:s.length < 2^40):aD prog G 239 [dS s] (xB Wl s es er):=by
 obtain⟨⟨h1,Jg⟩,h2,Ji⟩:=hE;refine G4 (iA.of func239 rfl rfl) fun X w vs kD bd bY dt=>?_
 obtain⟨u,rfl⟩:∃ u,vs = #[u]:=by
  match vs,bd with
  | ⟨[u]⟩,_=>exact⟨u,rfl⟩
 have hu:=(bY 0 u _ rfl rfl).scalar;subst hu
 have KU:(bs s).size < 2^40:=by rw[bN];exact hs
 unfold xB
 cases hn:Lib.atoiAll s with
 | ok v=>
  refine (Any.strconv_Atoi_ok Tryz.LF (bs s) aa v hn w).mono fun e w' ⟨he,hw⟩=>⟨_,he,?_,Hh v⟩
  rcases hw with rfl | ⟨t,rfl⟩
  .exact cN.refl _
  .exact Oq _ _ _
 | range=>
  refine (Any.strconv_Atoi_range Tryz.LF (bs s) aa hn er w (Fh h2 dt) Ji).mono fun e w' ⟨N,he,hN,hc,hB⟩=>⟨_,he,xw hB,Hg kD hN hc⟩
 | _=>
  refine (Any.strconv_Atoi_syntax Tryz.LF (bs s) aa hn es w (Fh h1 dt) Jg).mono fun e w' ⟨N,he,hN,hc,hB⟩=>⟨_,he,xw hB,Hg kD hN hc⟩
theorem ado (G:ay) {es er:Value} (hE:uc G es er) (s:Tx) (hs:s.length < 2^40):aD prog G 225 [dS s,.v (.int .i64 10),.v (.int .i64 64)] (xB adn s es er):=by
 obtain⟨⟨h1,Jg⟩,h2,Ji⟩:=hE;refine G4 (iA.of func225 rfl rfl) fun X w vs kD bd bY dt=>?_
 obtain⟨u,v1,v2,rfl⟩:∃ u v1 v2,vs = #[u,v1,v2]:=by
  match vs,bd with
  | ⟨[u,v1,v2]⟩,_=>exact⟨u,v1,v2,rfl⟩
 have hu:=(bY 0 u _ rfl rfl).scalar;have jO:=(bY 1 v1 _ rfl rfl).scalar;have AK:=(bY 2 v2 _ rfl rfl).scalar;subst hu jO AK
 have KU:(bs s).size < 2^40:=by rw[bN];exact hs
 have IX:Lib.parseIntB 64 (bs s).data.toList=Lib.atoiAll s:=by rw[dr];exact Lib.parseIntB_64 s
 unfold xB
 cases hn:Lib.atoiAll s with
 | ok v=>
  refine (Any.strconv_ParseInt_10_at64_ok Tryz.LG (bs s) aa v (IX.trans hn) w).mono fun e w' ⟨he,hw⟩=>⟨_,he,?_,Hh v⟩
  rcases hw with rfl | ⟨t,rfl⟩
  .exact cN.refl _
  .exact Oq _ _ _
 | range=>
  refine (Any.strconv_ParseInt_10_at64_range Tryz.LG (bs s) aa (IX.trans hn) er w (Fh h2 dt) Ji).mono fun e w' ⟨N,he,hN,hc,hB⟩=>⟨_,by rw[dr,Lib.intSat_64]at he;exact he,xw hB,Hg kD hN hc⟩
 | _=>
  refine (Any.strconv_ParseInt_10_at64_syntax Tryz.LG (bs s) aa (IX.trans hn) es w (Fh h1 dt) Jg).mono fun e w' ⟨N,he,hN,hc,hB⟩=>⟨_,he,xw hB,Hg kD hN hc⟩
end Go.Proofs.YtoohljflflnbeaaGreatDoor
namespace Go.Proofs.YtoohljflflnbeaaGreatDoor
open Go.Av
def cZ:r6->D
 | .form=>.bz [.v (.pointer none),.v (.pointer none),.cf 50 (.v (.int .i64 3))]
 | .bad c off=>.bz [.v (.pointer none),.v (.pointer none),.cf 269 (.ip [.v (.int .i64 c),.v (.int .i64 off)])]
 | .name n=>.bz [.ip (bw n),.v (.pointer none),.v .nilIface]
 | .p9 r=>.bz [.v (.pointer none),.ip (cU r),.v .nilIface]
theorem aa5 (l:List Tx) (s:Tx):idx (fun x=>s == x) l=kp l s:=by
 unfold kp;congr 1;funext x;by_cases h:s=x
 .subst h;simp
 .have h2:x≠s:=fun e=>h e.symm;rw[beq_eq_false_iff_ne.2 h,beq_eq_false_iff_ne.2 h2]
theorem Gx (l:List Tx) (s:Tx):-1<=kp l s/\kp l s < l.length:=by
 by_cases h:kp l s < 0
 .unfold kp idx at h ⊢
  cases hf:l.findIdx? (fun x=>x == s) with
  | none=>simp;omega
  | some k=>rw[hf]at h;simp at h;omega
 .obtain⟨k,hk,he,_⟩:=tu h;have lR:kp l s=(k:Int):=he;omega
theorem Xt (c:Option Ex):sQ c=dC c:=by cases c<;>rfl
theorem tC:(⟨#[61]⟩:ByteArray)=bs [61]:=rfl
theorem xg:IntKind.i64.wrap 0=0:=bF
theorem qh:IntKind.i64.wrap 1=1:=bF
theorem alX:type_of% (Aq @cZ.eq_1 (Aq @cZ.eq_2 (Aq @cZ.eq_3 @cZ.eq_4))):=(Aq @cZ.eq_1 (Aq @cZ.eq_2 (Aq @cZ.eq_3 @cZ.eq_4)))
theorem alY:type_of% (Aq @cZ.eq_1 (Aq @cZ.eq_2 (Aq @cZ.eq_3 (Aq @cZ.eq_4 (Aq @bw.eq_1 @alw))))):=(Aq @cZ.eq_1 (Aq @cZ.eq_2 (Aq @cZ.eq_3 (Aq @cZ.eq_4 (Aq @bw.eq_1 @alw)))))
theorem al8:type_of% (Aq @xg @qh):=(Aq @xg @qh)
theorem alV:type_of% (Aq @alI (Aq @alJ @alK)):=(Aq @alI (Aq @alJ @alK))
theorem ack (G:ay) (hM:k9 G) (hP:sL G) (hG:ra G) {es er:Value} (hE:uc G es er) (s:Tx) (hs:s.length<=20000) (h0:iT s≠[]):aD prog G 180 [dS s] (cZ (iw s)):=by
 have od:=agB G hM s 61 aa;have FU:=fun (ws:List Tx) (x:Tx) (h:ws.length < 2^60)=>index_spec G none ws x h;simp only[aa5]at FU;by_cases vY:(61:UInt8)∈s
 .have hle:=ES 61 s
  have mg:iw s=qV (cutAt 61 s).1 (cutAt 61 s).2 (iT (cutAt 61 s).1):=by unfold iw;rw[if_pos vY]
  rw[mg];simp only[vY,if_true,decide_true]at od;generalize (cutAt 61 s).1=hd at od hle ⊢;generalize (cutAt 61 s).2=rest at od hle ⊢;have eQ:=O6 G hd aa;have lX:=HU hd;generalize wH:iT hd=ws at eQ lX ⊢;have ff:=adr G rest aa;rw[Xt]at ff;have gD:=ahw G hG (iZ rest).2;have hR:∀ k nm,ng k nm hd rest=(match (iZ rest).2 with | some (c,o)=>.bad c (hd.length+1+o.getD 0) | none=>.p9 ⟨k,nm,(iZ rest).1⟩):=fun _ _=>rfl;simp only[dS]at od eQ ff ⊢
  match ws,eQ,lX with
  | [],eQ,lX=>
   show aD _ _ _ _ (cZ .form);simp only[cZ];refine aD.aQ (aC _) func180 rfl rfl (rs:=[.tmp 2,.tmp 3,.tmp 4]) results180 (by simp[ntmps180]) fun X=>?_;simp only[ntmps180,List.map];refine aB [0] [] ?_;have qf:=@tC;refine e7 od [5,6,7] [] ?_;refine br trivial eQ [5,6,7,8] [] ?_;refine ag fun K1 aF=>aB [5,6,8,26] [] ?_;refine aJ (aB [5,6,8,9] [28] ?_);refine ag fun K2 aw=>aB [5,6,8,9,31] [28] ?_;refine al (ar ?_);refine aw _ (AW.norm [5,6,8,9] [28] aN (AW.st bB ?_));refine ag fun K3 aZ=>aB [5,6,8,9,54] [28] ?_;refine aJ (aB [2,3,4] [28] ?_);exact gn
  | [a],eQ,lX=>
   show aD _ _ _ _ (cZ (ng 1 a hd rest));rw[hR];have hsome:=fun h=>DP (t:=rest) h;have dD:=fun c o h=>DO (t:=rest) (c:=c) (p:=o) h;generalize (iZ rest).1=oe at ff hsome ⊢;generalize (iZ rest).2=oc at ff gD hsome dD ⊢
   match oc,ff,gD,hsome,dD with
   | some (c,some o),ff,gD,_,dD=>
    have CZ:=dD c o rfl
    have hcast:((hd.length+1+o:Nat):Int)=(hd.length:Int)+1+o:=aa
    simp only[bD]at ff;simp only[cZ,ak8];refine aD.aQ (aC _) func180 rfl rfl (rs:=[.tmp 2,.tmp 3,.tmp 4]) results180 (by simp[ntmps180]) fun X=>?_;simp only[ntmps180,List.map];refine aB [0] [] ?_;have qf:=@tC;refine e7 od [5,6,7] [] ?_;refine br trivial eQ [5,6,7,8] [] ?_;refine ag fun K1 aF=>aB [5,6,8,26] [] ?_;refine aJ (aB [5,6,8,9] [28] ?_);refine ag fun K2 aw=>aB [5,6,8,9,31] [28] ?_;refine al (ar ?_);refine aw _ (AW.norm [5,6,8,9] [28] aN (AW.st bB ?_));refine ag fun K3 aZ=>aB [5,6,8,9,54] [28] ?_;refine al (ar (aZ _ ?_));refine aB [5,6,9] [28] ?_;refine br trivial ff [5,9,10,11] [28] ?_;refine ag fun K4 cr=>ae alV [5,9,10,11,12,13] [28] ?_;refine aB [5,9,10,11,12,75] [28] ?_;refine aJ ?_;have qf:=@bN;refine iz [2,3,4] [28,89] ?_;refine gv 89 ?_;exact aU @hcast
   | some (c,none),ff,gD,_,_=>
    have hcast:((hd.length+1:Nat):Int)=(hd.length:Int)+1:=aa
    simp only[bD,codeF]at ff gD;simp only[cZ,Option.getD_none,akD];refine aD.aQ (aC _) func180 rfl rfl (rs:=[.tmp 2,.tmp 3,.tmp 4]) results180 (by simp[ntmps180]) fun X=>?_;simp only[ntmps180,List.map];refine aB [0] [] ?_;have qf:=@tC;refine e7 od [5,6,7] [] ?_;refine br trivial eQ [5,6,7,8] [] ?_;refine ag fun K1 aF=>aB [5,6,8,26] [] ?_;refine aJ (aB [5,6,8,9] [28] ?_);refine ag fun K2 aw=>aB [5,6,8,9,31] [28] ?_;refine al (ar ?_);refine aw _ (AW.norm [5,6,8,9] [28] aN (AW.st bB ?_));refine ag fun K3 aZ=>aB [5,6,8,9,54] [28] ?_;refine al (ar (aZ _ ?_));refine aB [5,6,9] [28] ?_;refine br trivial ff [5,9,10,11] [28] ?_;refine ag fun K4 cr=>ae alV [5,9,10,11,12,13] [28] ?_;refine aB [5,9,10,11,12,75] [28] ?_;refine al (ar (cr _ ?_));refine ag fun K5 cg=>aB [5,9,10,11,92] [28] ?_;refine aJ ?_;have qf:=@bN;refine e7 gD [2,3,4] [28,99] ?_;refine gv 99 ?_;exact aU @hcast
   | none,ff,gD,hsome,_=>
    obtain⟨e,rfl⟩:=hsome rfl;obtain⟨ta,ca,rI⟩:=kW e;simp only[dC,rI,bD]at ff;simp only[cZ,cU,dC,rI,dS];refine aD.aQ (aC _) func180 rfl rfl (rs:=[.tmp 2,.tmp 3,.tmp 4]) results180 (by simp[ntmps180]) fun X=>?_;simp only[ntmps180,List.map];refine aB [0] [] ?_;have qf:=@tC;refine e7 od [5,6,7] [] ?_;refine br trivial eQ [5,6,7,8] [] ?_;refine ag fun K1 aF=>aB [5,6,8,26] [] ?_;refine aJ (aB [5,6,8,9] [28] ?_);refine ag fun K2 aw=>aB [5,6,8,9,31] [28] ?_;refine al (ar ?_);refine aw _ (AW.norm [5,6,8,9] [28] aN (AW.st bB ?_));refine ag fun K3 aZ=>aB [5,6,8,9,54] [28] ?_;refine al (ar (aZ _ ?_));refine aB [5,6,9] [28] ?_;refine br trivial ff [5,9,10,11] [28] ?_;refine ag fun K4 cr=>ae alV [5,9,10,11,12,13] [28] ?_;refine aB [5,9,10,11,12,75] [28] ?_;refine al (ar (cr _ ?_));refine ag fun K5 cg=>aB [5,9,10,11,92] [28] ?_;refine al (ar (cg _ ?_));refine aB [9] [28] ?_;refine aB [2,3,4] [28] ?_;refine gv 28 ?_;exact gn
  | [a,b],eQ,lX=>
   have iq:=FU pc a bF;simp only[dS]at iq;show aD _ _ _ _ (cZ (if kp pc a < 2 then .form else ng (kp pc a) b hd rest));have pH:=Gx pc a;generalize kp pc a=k at iq pH ⊢;have P5:k < 7:=pH.2;by_cases hk:k < 2
   .rw[if_pos hk];simp only[cZ];refine aD.aQ (aC _) func180 rfl rfl (rs:=[.tmp 2,.tmp 3,.tmp 4]) results180 (by simp[ntmps180]) fun X=>?_;simp only[ntmps180,List.map];refine aB [0] [] ?_;have qf:=@tC;refine e7 od [5,6,7] [] ?_;refine br trivial eQ [5,6,7,8] [] ?_;refine ag fun K1 aF=>aB [5,6,8,26] [] ?_;refine aJ (aB [5,6,8,9] [28] ?_);refine ag fun K2 aw=>aB [5,6,8,9,31] [28] ?_;refine aJ (fH (aC _) fun K' ao=>?_);(repeat refine aK fun Kq af=>?_;simp;(repeat refine⟨aa,?_⟩);refine af _ ?_);refine aK fun Kq af=>?_;simp;refine cX.sB (iq) bB (by first | exact D.bR _ | simp[aR,ajN,ajG,D.le,D.le.go,D.le_refl,D.bR]) (by simp[D.scalar]) ?_;refine af _ ?_;simp only[aL,dL];(repeat refine aK fun Kq af=>?_;simp;(repeat refine⟨aa,?_⟩);refine af _ ?_);refine bJ (ao _ ?_);refine aw _ (AW.norm [5,6,8,9] [28,33] aN (AW.st bB ?_));refine ag fun K3 aZ=>?_;have qf:=@hk;refine au [5,6,8,9,54] [28,33] ?_;refine aJ (aB [2,3,4] [28,33] ?_);exact gn
   rw[if_neg hk];rw[hR];have hsome:=fun h=>DP (t:=rest) h;have dD:=fun c o h=>DO (t:=rest) (c:=c) (p:=o) h;generalize (iZ rest).1=oe at ff hsome ⊢;generalize (iZ rest).2=oc at ff gD hsome dD ⊢
   match oc,ff,gD,hsome,dD with
   | some (c,some o),ff,gD,_,dD=>
    have CZ:=dD c o rfl
    have hcast:((hd.length+1+o:Nat):Int)=(hd.length:Int)+1+o:=aa
    simp only[bD]at ff;simp only[cZ,ak8];refine aD.aQ (aC _) func180 rfl rfl (rs:=[.tmp 2,.tmp 3,.tmp 4]) results180 (by simp[ntmps180]) fun X=>?_;simp only[ntmps180,List.map];refine aB [0] [] ?_;have qf:=@tC;refine e7 od [5,6,7] [] ?_;refine br trivial eQ [5,6,7,8] [] ?_;refine ag fun K1 aF=>aB [5,6,8,26] [] ?_;refine aJ (aB [5,6,8,9] [28] ?_);refine ag fun K2 aw=>aB [5,6,8,9,31] [28] ?_;refine aJ (fH (aC _) fun K' ao=>?_);(repeat refine aK fun Kq af=>?_;simp;(repeat refine⟨aa,?_⟩);refine af _ ?_);refine aK fun Kq af=>?_;simp;refine cX.sB (iq) bB (by first | exact D.bR _ | simp[aR,ajN,ajG,D.le,D.le.go,D.le_refl,D.bR]) (by simp[D.scalar]) ?_;refine af _ ?_;simp only[aL,dL];(repeat refine aK fun Kq af=>?_;simp;(repeat refine⟨aa,?_⟩);refine af _ ?_);refine bJ (ao _ ?_);refine aw _ (AW.norm [5,6,8,9] [28,33] aN (AW.st bB ?_));refine ag fun K3 aZ=>?_;have qf:=@hk;refine au [5,6,8,9,54] [28,33] ?_;refine al (ar (aZ _ ?_));refine aB [5,6,9] [28,33] ?_;refine br trivial ff [5,9,10,11] [28,33] ?_;refine ag fun K4 cr=>ae alV [5,9,10,11,12,13] [28,33] ?_;refine aB [5,9,10,11,12,75] [28,33] ?_;refine aJ ?_;have qf:=@bN;refine iz [2,3,4] [28,33,89] ?_;refine gv 89 ?_;exact aU @hcast
   | some (c,none),ff,gD,_,_=>
    have hcast:((hd.length+1:Nat):Int)=(hd.length:Int)+1:=aa
    simp only[bD,codeF]at ff gD;simp only[cZ,Option.getD_none,akD];refine aD.aQ (aC _) func180 rfl rfl (rs:=[.tmp 2,.tmp 3,.tmp 4]) results180 (by simp[ntmps180]) fun X=>?_;simp only[ntmps180,List.map];refine aB [0] [] ?_;have qf:=@tC;refine e7 od [5,6,7] [] ?_;refine br trivial eQ [5,6,7,8] [] ?_;refine ag fun K1 aF=>aB [5,6,8,26] [] ?_;refine aJ (aB [5,6,8,9] [28] ?_);refine ag fun K2 aw=>aB [5,6,8,9,31] [28] ?_;refine aJ (fH (aC _) fun K' ao=>?_);(repeat refine aK fun Kq af=>?_;simp;(repeat refine⟨aa,?_⟩);refine af _ ?_);refine aK fun Kq af=>?_;simp;refine cX.sB (iq) bB (by first | exact D.bR _ | simp[aR,ajN,ajG,D.le,D.le.go,D.le_refl,D.bR]) (by simp[D.scalar]) ?_;refine af _ ?_;simp only[aL,dL];(repeat refine aK fun Kq af=>?_;simp;(repeat refine⟨aa,?_⟩);refine af _ ?_);refine bJ (ao _ ?_);refine aw _ (AW.norm [5,6,8,9] [28,33] aN (AW.st bB ?_));refine ag fun K3 aZ=>?_;have qf:=@hk;refine au [5,6,8,9,54] [28,33] ?_;refine al (ar (aZ _ ?_));refine aB [5,6,9] [28,33] ?_;refine br trivial ff [5,9,10,11] [28,33] ?_;refine ag fun K4 cr=>ae alV [5,9,10,11,12,13] [28,33] ?_;refine aB [5,9,10,11,12,75] [28,33] ?_;refine al (ar (cr _ ?_));refine ag fun K5 cg=>aB [5,9,10,11,92] [28,33] ?_;refine aJ ?_;have qf:=@bN;refine e7 gD [2,3,4] [28,33,99] ?_;refine gv 99 ?_;exact aU @hcast
   | none,ff,gD,hsome,_=>
    obtain⟨e,rfl⟩:=hsome rfl;obtain⟨ta,ca,rI⟩:=kW e;simp only[dC,rI,bD]at ff;simp only[cZ,cU,dC,rI,dS];refine aD.aQ (aC _) func180 rfl rfl (rs:=[.tmp 2,.tmp 3,.tmp 4]) results180 (by simp[ntmps180]) fun X=>?_;simp only[ntmps180,List.map];refine aB [0] [] ?_;have qf:=@tC;refine e7 od [5,6,7] [] ?_;refine br trivial eQ [5,6,7,8] [] ?_;refine ag fun K1 aF=>aB [5,6,8,26] [] ?_;refine aJ (aB [5,6,8,9] [28] ?_);refine ag fun K2 aw=>aB [5,6,8,9,31] [28] ?_;refine aJ (fH (aC _) fun K' ao=>?_);(repeat refine aK fun Kq af=>?_;simp;(repeat refine⟨aa,?_⟩);refine af _ ?_);refine aK fun Kq af=>?_;simp;refine cX.sB (iq) bB (by first | exact D.bR _ | simp[aR,ajN,ajG,D.le,D.le.go,D.le_refl,D.bR]) (by simp[D.scalar]) ?_;refine af _ ?_;simp only[aL,dL];(repeat refine aK fun Kq af=>?_;simp;(repeat refine⟨aa,?_⟩);refine af _ ?_);refine bJ (ao _ ?_);refine aw _ (AW.norm [5,6,8,9] [28,33] aN (AW.st bB ?_));refine ag fun K3 aZ=>?_;have qf:=@hk;refine au [5,6,8,9,54] [28,33] ?_;refine al (ar (aZ _ ?_));refine aB [5,6,9] [28,33] ?_;refine br trivial ff [5,9,10,11] [28,33] ?_;refine ag fun K4 cr=>ae alV [5,9,10,11,12,13] [28,33] ?_;refine aB [5,9,10,11,12,75] [28,33] ?_;refine al (ar (cr _ ?_));refine ag fun K5 cg=>aB [5,9,10,11,92] [28,33] ?_;refine al (ar (cg _ ?_));refine aB [9] [28,33] ?_;refine aB [2,3,4] [28,33] ?_;refine gv 28 ?_;exact gn
  | a :: b :: c :: l,eQ,lX=>
   have n1:¬ ((a :: b :: c :: l).length:Int)=2:=by simp only[ajP];omega
   have n2:¬ ((a :: b :: c :: l).length:Int)=1:=by simp only[ajP];omega
   show aD _ _ _ _ (cZ .form);simp only[cZ];generalize a :: b :: c :: l=ws at eQ lX n1 n2;refine aD.aQ (aC _) func180 rfl rfl (rs:=[.tmp 2,.tmp 3,.tmp 4]) results180 (by simp[ntmps180]) fun X=>?_;simp only[ntmps180,List.map];refine aB [0] [] ?_;have qf:=@tC;refine e7 od [5,6,7] [] ?_;refine br trivial eQ [5,6,7,8] [] ?_;refine ag fun K1 aF=>aB [5,6,8,26] [] ?_;refine aJ (aB [5,6,8,9] [28] ?_);refine ag fun K2 aw=>?_;have qf:=(Aq @n1 @n2);refine au [5,6,8,9,31] [28] ?_;refine al (ar ?_);refine aw _ (AW.norm [5,6,8,9] [28] aN (AW.st bB ?_));refine ag fun K3 aZ=>?_;have qf:=(Aq @n1 @n2);refine au [5,6,8,9,54] [28] ?_;refine aJ (aB [2,3,4] [28] ?_);exact gn
 .have mg:iw s=lB (iT s):=by unfold iw;rw[if_neg vY]
  rw[mg];simp only[vY,if_false,decide_false]at od;have eQ:=O6 G s aa;have lX:=HU s;have AM:=fun x=>HV (t:=s) (w:=x);generalize wH:iT s=ws at eQ lX AM h0 ⊢;obtain⟨a,l,rfl⟩:∃ a l,ws=a :: l:=List.exists_cons_of_ne_nil h0;show aD _ _ _ _ (cZ (ic (kp tB a) l));have iq:=FU tB a bF;have pH:=Gx tB a;have P5:kp tB a < 5:=pH.2;generalize kp tB a=k at iq P5 ⊢
  have u2:((a :: l).length:Int)=(l.length:Int)+1:=ak
  simp only[dS]at od eQ iq ⊢;refine aD.aQ (aC _) func180 rfl rfl (rs:=[.tmp 2,.tmp 3,.tmp 4]) results180 (by simp[ntmps180]) fun X=>?_;simp only[ntmps180,List.map];refine aB [0] [] ?_;have qf:=@tC;refine e7 od [5,6,7] [] ?_;refine br trivial eQ [5,6,7,8] [] ?_;refine ag fun K1 aF=>aB [5,6,8,26] [] ?_;refine al (ar (aF _ ?_));refine rg [8,14] [106] aN fun K' ao=>?_;(repeat refine aK fun Kq af=>?_;simp;(repeat refine⟨aa,?_⟩);refine af _ ?_);refine aK fun Kq af=>?_;simp;refine cX.sB (iq) bB (by first | exact D.bR _ | simp[aR,ajN,ajG,D.le,D.le.go,D.le_refl,D.bR]) (by simp[D.scalar]) ?_;refine af _ ?_;simp only[aL,dL];(repeat refine aK fun Kq af=>?_;simp;(repeat refine⟨aa,?_⟩);refine af _ ?_);refine bJ (ao _ (AW.st bB ?_));refine ag fun K6 eB=>?_;by_cases hk:k < 1
  .have hF:ic k l = .form:=by
    match l with
    | []=>rfl
    | [b]=>rw[ic,if_neg aa]
    | [b,c]=>rw[ic,if_neg aa]
    | b :: c :: d :: l=>rfl
   rw[hF];simp only[cZ];have qf:=@hk;refine au [8,14,120] [106] ?_;refine aJ (aB [2,3,4] [106] ?_);exact gn
  have FX:k=1\/k=2\/k=3\/k=4:=aa
  rcases FX with rfl | rfl | rfl | rfl
  .by_cases hl:l.length=1
   .obtain⟨b,rfl⟩:∃ b,l=[b]:=akk.1 hl;have hF:ic 1 [b] = .name ⟨b,1,0⟩:=rfl;have qf:=al8;refine au [8,14,120] [106] ?_;refine al (ar (eB _ ?_));refine aB [8,14,15] [106,127] ?_;refine ag fun K7 eO=>aB [8,15,129] [106,127] ?_;refine al (ar ?_);refine eO _ (AW.norm [15] [106,127] aN (AW.st bB ?_));refine aB [2,3,4] [106,127] ?_;refine gv 127 ?_;exact aU (Aq @hF alY)
   .have hF:ic 1 l = .form:=by
     match l,hl with
     | [],_=>rfl
     | [b],hl=>simp at hl
     | [b,c],_=>rw[ic,if_neg aa]
     | b :: c :: d :: l,_=>rfl
    rw[hF];simp only[cZ]
    have hn:¬ (l.length:Int)=1:=aa
    have ou:¬ (l.length:Int)+1=2:=aa
    have qf:=(Aq @hn (Aq @ou (Aq @u2 al8)));refine au [8,14,120] [106] ?_;refine aJ (aB [2,3,4] [106] ?_);exact gn
  .by_cases hl:l.length=1
   .obtain⟨b,rfl⟩:∃ b,l=[b]:=akk.1 hl;have hF:ic 2 [b] = .name ⟨b,2,0⟩:=rfl;have qf:=al8;refine au [8,14,120] [106] ?_;refine al (ar (eB _ ?_));refine aB [8,14,15] [106,127] ?_;refine ag fun K7 eO=>aB [8,15,129] [106,127] ?_;refine al (ar ?_);refine eO _ (AW.norm [15] [106,127] aN (AW.st bB ?_));refine aB [2,3,4] [106,127] ?_;refine gv 127 ?_;exact aU (Aq @hF alY)
   .have hF:ic 2 l = .form:=by
     match l,hl with
     | [],_=>rfl
     | [b],hl=>simp at hl
     | [b,c],_=>rw[ic,if_neg aa]
     | b :: c :: d :: l,_=>rfl
    rw[hF];simp only[cZ]
    have hn:¬ (l.length:Int)=1:=aa
    have ou:¬ (l.length:Int)+1=2:=aa
    have qf:=(Aq @hn (Aq @ou (Aq @u2 al8)));refine au [8,14,120] [106] ?_;refine aJ (aB [2,3,4] [106] ?_);exact gn
  .by_cases hl:l.length=2
   .obtain⟨b,c,rfl⟩:∃ b c,l=[b,c]:=by
     match l,hl with
     | [b,c],_=>exact⟨b,c,rfl⟩
    have cA:c.length < 2^40:=by have:=(AM c ak).2;omega
    have dD:=Oa G hE c cA;have cu:ic 3 [b,c]=(match wU c with | some v=>.name ⟨b,3,v⟩ | none=>.form):=rfl;unfold wU at cu
    unfold xB at dD
    simp only[dS]at dD
    have qf:=al8;refine au [8,14,120] [106] ?_;refine al (ar (eB _ ?_));refine aB [8,14,15] [106,127] ?_;refine ag fun K7 eO=>aB [8,15,129] [106,127] ?_;refine aJ ?_
    cases hn:Lib.atoiAll c with
    | ok v=>
     rw[hn]at dD cu;dsimp only at dD cu;obtain⟨v0,v1⟩:=Lib.atoiAll_bounds hn;have hit:=Rx G hP v v0 v1;simp only[dS]at hit;generalize Lib.itoa v=iv at hit cu;refine br trivial dD [8,15,16,17] [106,127] ?_;refine ag fun K8 eX=>?_;by_cases hc:iv=c
     .rw[if_pos hc]at cu;subst hc;refine tY (aC _) ah [15,16,146] [106,127] aN ah fun K' ao=>?_;(repeat refine ja fun Kq af=>?_;simp[bo,bu];(repeat refine⟨aa,?_⟩);refine af _ ?_);refine ja fun Kq af=>?_;simp[bo,bu];refine nX.data (hit) bB bB (by first | exact D.bR _ | simp[aR,ajN,ajG,D.le,D.le.go,D.le_refl,D.bR,bo,bu]) ?_;refine af _ ?_;simp only[aL,dL];(repeat refine ja fun Kq af=>?_;simp[bo,bu];(repeat refine⟨aa,?_⟩);refine af _ ?_);refine qd (ao _ ?_);refine AW.st (by simp[bo,bu];rfl) ?_;refine al (ar (eX _ ?_));refine gR trivial eO [15] [106,127] ?_;refine aB [2,3,4] [106,127] ?_;refine gv 127 ?_;exact aU (Aq @cu alY)
     .rw[if_neg hc]at cu;refine tY (aC _) ah [15,16,146] [106,127] aN ah fun K' ao=>?_;(repeat refine ja fun Kq af=>?_;simp[bo,bu,hc];(repeat refine⟨aa,?_⟩);refine af _ ?_);refine ja fun Kq af=>?_;simp[bo,bu,hc];refine nX.data (hit) bB bB (by first | exact D.bR _ | simp[aR,ajN,ajG,D.le,D.le.go,D.le_refl,D.bR,bo,bu,hc]) ?_;refine af _ ?_;simp only[aL,dL];(repeat refine ja fun Kq af=>?_;simp[bo,bu,hc];(repeat refine⟨aa,?_⟩);refine af _ ?_);refine qd (ao _ ?_);refine AW.st (by simp[bo,bu,hc];rfl) ?_;refine b8 (by simp[hc]) (aB [2,3,4] [106,127] ?_);exact aU (Aq @cu alX)
    | range=>
     rw[hn]at dD cu;dsimp only[uB]at dD cu;refine br trivial dD [8,15,16,17] [106,127] ?_;refine ag fun K8 eX=>Hi trivial [15,16,146] [106,127] ?_;refine aJ (aB [2,3,4] [106,127] ?_);exact aU (Aq @cu alX)
    | _=>
     rw[hn]at dD cu;dsimp only[uB]at dD cu;refine br trivial dD [8,15,16,17] [106,127] ?_;refine ag fun K8 eX=>Hi trivial [15,16,146] [106,127] ?_;refine aJ (aB [2,3,4] [106,127] ?_);exact aU (Aq @cu alX)
   .have hF:ic 3 l = .form:=by
     match l,hl with
     | [],_=>rfl
     | [b],_=>rw[ic,if_neg aa]
     | [b,c],hl=>simp at hl
     | b :: c :: d :: l,_=>rfl
    rw[hF];simp only[cZ]
    have hn:¬ (l.length:Int)=2:=aa
    have ou:¬ (l.length:Int)+1=3:=aa
    have qf:=(Aq @hn (Aq @ou (Aq @u2 al8)));refine au [8,14,120] [106] ?_;refine aJ (aB [2,3,4] [106] ?_);exact gn
  .by_cases hl:l.length=2
   .obtain⟨b,c,rfl⟩:∃ b c,l=[b,c]:=by
     match l,hl with
     | [b,c],_=>exact⟨b,c,rfl⟩
    have cA:c.length < 2^40:=by have:=(AM c ak).2;omega
    have dD:=Oa G hE c cA;have cu:ic 4 [b,c]=(match wU c with | some v=>.name ⟨b,4,v⟩ | none=>.form):=rfl;unfold wU at cu
    unfold xB at dD
    simp only[dS]at dD
    have qf:=al8;refine au [8,14,120] [106] ?_;refine al (ar (eB _ ?_));refine aB [8,14,15] [106,127] ?_;refine ag fun K7 eO=>aB [8,15,129] [106,127] ?_;refine aJ ?_
    cases hn:Lib.atoiAll c with
    | ok v=>
     rw[hn]at dD cu;dsimp only at dD cu;obtain⟨v0,v1⟩:=Lib.atoiAll_bounds hn;have hit:=Rx G hP v v0 v1;simp only[dS]at hit;generalize Lib.itoa v=iv at hit cu;refine br trivial dD [8,15,16,17] [106,127] ?_;refine ag fun K8 eX=>?_;by_cases hc:iv=c
     .rw[if_pos hc]at cu;subst hc;refine tY (aC _) ah [15,16,146] [106,127] aN ah fun K' ao=>?_;(repeat refine ja fun Kq af=>?_;simp[bo,bu];(repeat refine⟨aa,?_⟩);refine af _ ?_);refine ja fun Kq af=>?_;simp[bo,bu];refine nX.data (hit) bB bB (by first | exact D.bR _ | simp[aR,ajN,ajG,D.le,D.le.go,D.le_refl,D.bR,bo,bu]) ?_;refine af _ ?_;simp only[aL,dL];(repeat refine ja fun Kq af=>?_;simp[bo,bu];(repeat refine⟨aa,?_⟩);refine af _ ?_);refine qd (ao _ ?_);refine AW.st (by simp[bo,bu];rfl) ?_;refine al (ar (eX _ ?_));refine gR trivial eO [15] [106,127] ?_;refine aB [2,3,4] [106,127] ?_;refine gv 127 ?_;exact aU (Aq @cu alY)
     .rw[if_neg hc]at cu;refine tY (aC _) ah [15,16,146] [106,127] aN ah fun K' ao=>?_;(repeat refine ja fun Kq af=>?_;simp[bo,bu,hc];(repeat refine⟨aa,?_⟩);refine af _ ?_);refine ja fun Kq af=>?_;simp[bo,bu,hc];refine nX.data (hit) bB bB (by first | exact D.bR _ | simp[aR,ajN,ajG,D.le,D.le.go,D.le_refl,D.bR,bo,bu,hc]) ?_;refine af _ ?_;simp only[aL,dL];(repeat refine ja fun Kq af=>?_;simp[bo,bu,hc];(repeat refine⟨aa,?_⟩);refine af _ ?_);refine qd (ao _ ?_);refine AW.st (by simp[bo,bu,hc];rfl) ?_;refine b8 (by simp[hc]) (aB [2,3,4] [106,127] ?_);exact aU (Aq @cu alX)
    | range=>
     rw[hn]at dD cu;dsimp only[uB]at dD cu;refine br trivial dD [8,15,16,17] [106,127] ?_;refine ag fun K8 eX=>Hi trivial [15,16,146] [106,127] ?_;refine aJ (aB [2,3,4] [106,127] ?_);exact aU (Aq @cu alX)
    | _=>
     rw[hn]at dD cu;dsimp only[uB]at dD cu;refine br trivial dD [8,15,16,17] [106,127] ?_;refine ag fun K8 eX=>Hi trivial [15,16,146] [106,127] ?_;refine aJ (aB [2,3,4] [106,127] ?_);exact aU (Aq @cu alX)
   .have hF:ic 4 l = .form:=by
     match l,hl with
     | [],_=>rfl
     | [b],_=>rw[ic,if_neg aa]
     | [b,c],hl=>simp at hl
     | b :: c :: d :: l,_=>rfl
    rw[hF];simp only[cZ]
    have hn:¬ (l.length:Int)=2:=aa
    have ou:¬ (l.length:Int)+1=3:=aa
    have qf:=(Aq @hn (Aq @ou (Aq @u2 al8)));refine au [8,14,120] [106] ?_;refine aJ (aB [2,3,4] [106] ?_);exact gn
end Go.Proofs.YtoohljflflnbeaaGreatDoor
namespace Go.Av
section
variable {P:Program} {T:Ty} {Mv X:Nat->Prop} {G:ay} {N:Fr} {w w':World} {μ:Mu} {a:Act} {σ:St} {ops:Array Oper} {db:List Nat} {fp:List (Nat×Nat)}
def xt (P:Program) (T:Ty) (Mv:Nat->Prop) (G:ay) (N:Fr) (db:List Nat) (fp:List (Nat×Nat)) (i:Nat) (o:Oper) (σ aG:St):Prop:=
 nR P T Mv G N db i o σ aG/\(db.contains i=false->r3 G fp σ.env i o.op)
theorem nR.env {i:Nat} {o:Oper} {σ aG:St} (h:nR P T Mv G N db i o σ aG):∃ v,aG.env=aL σ.env o.dst v:=by
 rcases h.2.2 with⟨_,c,y,_,_,rfl⟩ | ⟨_,_,x,H',_,rfl⟩
 .exact⟨_,rfl⟩
 .exact⟨_,rfl⟩
def BT (db:List Nat) (fp:List (Nat×Nat)) (ops:Array Oper) (i j:Nat) (oi oj:Oper):Bool:=zC db ops i j oi oj || (!db.contains i && !db.contains j && oi.apart ops oj && AR oi.op && AR oj.op && match fp.lookup i,fp.lookup j with
 | some r,some r'=>!(r == r')
 | _,_=>false)
theorem ad6 {i j:Nat} {oi oj:Oper} (hc:BT db fp ops i j oi oj=true) {σ aT gU:St} (h1:xt P T Mv G N db fp i oi σ aT) (h2:xt P T Mv G N db fp j oj aT gU) :
  ∃ jl,xt P T Mv G N db fp j oj σ jl/\xt P T Mv G N db fp i oi jl gU:=by
 obtain⟨s1,t1⟩:=h1;obtain⟨s2,t2⟩:=h2
 have eu:oi.apart ops oj=true:=by
  simp only[BT,zC,akp,IT]at hc
  rcases hc with hc | hc
  .exact hc.1
  .exact hc.1.1.1.2
 have eU:∀ v,gq oj.op (aL σ.env oi.dst v) σ.env:=fun v t ht=>(je eu (e:=σ.env) (v:=v)).1 t (kK ht);have fB:∀ v,gq oi.op σ.env (aL σ.env oj.dst v):=fun v t ht=>((je eu (e:=σ.env) (v:=v)).2.1 t (kK ht)).symm;have bf:=(je eu (e:=σ.env) (v:=da)).2.2;obtain⟨v1,se⟩:=s1.env
 have main:∃ jl,nR P T Mv G N db j oj σ jl/\nR P T Mv G N db i oi jl gU:=by
  simp only[BT,akp]at hc
  rcases hc with hc | hc
  .exact O9 hc s1 s2
  .simp only[IT,akP]at hc;obtain⟨⟨⟨⟨⟨bi,bj⟩,_⟩,li⟩,lj⟩,x5⟩:=hc;have UK:=t1 bi;have Nh:=t2 bj
   cases cm:fp.lookup i with
   | none=>simp[cm]at x5
   | some r=>
    cases x3:fp.lookup j with
    | none=>simp[cm,x3]at x5
    | some r'=>
     have hr:r≠r':=by simpa[cm,x3]using x5
     obtain⟨di,gi,s1⟩:=s1;obtain⟨dj,gj,s2⟩:=s2
     rcases s1 with⟨b,_⟩ | ⟨_,k1,x,H',e1,rfl⟩
     .rw[bi]at b;cases b
     rcases s2 with⟨b,_⟩ | ⟨_,k2,z,H2,e2,rfl⟩
     .rw[bj]at b;cases b
     dsimp only at e2 Nh se;simp only[r3,cm]at UK;simp only[r3,x3]at Nh;obtain⟨u,rfl,LJ⟩:=e1.HF UK;have e2:=e2.congr k2 (eU _);obtain⟨u',rfl,LK⟩:=e2.HF (Mm (eU _) Nh);refine⟨⟨aL σ.env oj.dst z,nc σ.H r' u'⟩,⟨dj,gj,.inr ⟨bj,k2,z,nc σ.H r' u',LK σ.H (Hd (H:=σ.H) (u:=u) (akI hr)).symm,rfl⟩⟩,di,gi,.inr ⟨bi,k1,x,nc (nc σ.H r' u') r u,(LJ (nc σ.H r' u') (Hd hr)).congr k1 (fB _),?_⟩⟩;rw[Te hr,ig bf]
 obtain⟨jl,f1,f2⟩:=main;obtain⟨v3,B1⟩:=f1.env;refine⟨jl,⟨f1,fun hb=>?_⟩,f2,fun hb=>?_⟩
 .have h:=t2 hb;rw[se]at h;exact HG (eU _) h
 .rw[B1];exact HG (fB _) (t1 hb)
def T5 (P:Program) (T:Ty) (Mv:Nat->Prop) (G:ay) (N:Fr) (db:List Nat) (fp:List (Nat×Nat)) (ops:Array Oper):List Nat->St->St->Prop:=iJ (xt P T Mv G N db fp) ops
def SJ (db:List Nat) (fp:List (Nat×Nat)) (ord:List Nat) (ops:Array Oper):Bool:=oH (BT db fp ops) ord ops
def Hz (P:Program) (T:Ty) (Mv:Nat->Prop) (G:ay) (N:Fr) (db:List Nat) (fp:List (Nat×Nat)) (i:Nat) (o:Oper) (σ:St) (K:St->Prop):Prop:=eI N o/\o.guard=none/\
 if db.contains i=true then (match oP T G σ.env o with
  | some (c,y)=>c/\K ⟨aL σ.env o.dst (.d y),σ.H⟩
  | none=>False)
 else r3 G fp σ.env i o.op/\kindOf o.op≠9/\match dP o.op with
  | some c=>sb P G c σ.env o.dst σ.H [] [] K
  | none=>wZ T G Mv o σ [] K
def vp (P:Program) (T:Ty) (Mv:Nat->Prop) (G:ay) (N:Fr) (db:List Nat) (fp:List (Nat×Nat)) (K:St->Prop):List (Nat×Oper)->St->Prop
 | [],σ=>K σ
 | (i,o) :: rest,σ=>Hz P T Mv G N db fp i o σ (vp P T Mv G N db fp K rest)
theorem ag4 {K:St->Prop}:∀ (l:List Nat) (σ:St),(∀ i∈l,i < ops.size)->vp P T Mv G N db fp K (bU ops l) σ->∃ cq,K cq/\T5 P T Mv G N db fp ops l σ cq:=by
 intro l
 induction l with
 | nil=>intro σ _ h;exact⟨σ,h,rfl⟩
 | cons i l ih=>
  intro σ hl h;have hi:=hl i ak
  have ho:ops[i]? = some ops[i]:=by simp[hi]
  simp only[bU,ho]at h;generalize ops[i]=o at ho h;simp only[vp,Hz]at h;obtain⟨hd,de,h⟩:=h
  have fin:∀ aT,xt P T Mv G N db fp i o σ aT->vp P T Mv G N db fp K (bU ops l) aT->∃ cq,K cq/\T5 P T Mv G N db fp ops (i :: l) σ cq:=fun aT hs h1=>by
   obtain⟨cq,hk,hr⟩:=ih aT (fun j hj=>hl j (by simp[hj])) h1;exact⟨cq,hk,o,ho,aT,hs,hr⟩
  split at h
  .rename_i hb;split at h
   .rename_i c y hw;obtain⟨hc,h⟩:=h;exact fin _ ⟨⟨hd,de,.inl ⟨hb,c,y,hw,hc,rfl⟩⟩,fun e=>by rw[hb]at e;cases e⟩ h
   .exact h.elim
  .rename_i hb
   have hb:db.contains i=false:=by simpa using hb
   obtain⟨KZ,hk,h⟩:=h;split at h
   .rename_i c hc;obtain⟨y,g,ds,ht,hp,hU,h⟩:=h;refine fin _ ⟨⟨hd,de,.inr ⟨hb,hk,.d y,σ.H,?_,rfl⟩⟩,fun _=>KZ⟩ h;unfold Ex;simp only[hc];exact⟨y,⟨g,_,ht,.inl ⟨ds,rfl,hp⟩⟩,rfl,trivial⟩
   .rename_i hc;unfold wZ at h;split at h
    .rename_i hw;split at h
     .rename_i c x aT h1;obtain⟨cK,hU,h⟩:=h;have he:=BA hk h1;obtain⟨e,H⟩:=σ;obtain⟨e1,H1⟩:=aT;dsimp only at he;subst he;refine fin _ ⟨⟨hd,de,.inr ⟨hb,hk,x,H1,?_,rfl⟩⟩,fun _=>KZ⟩ h;unfold Ex;simp only[hc];rw[if_pos hw];exact⟨c,h1,cK⟩
     .exact h.elim
    .rename_i hw;split at h
     .rename_i c x h1;obtain⟨cK,hU,h⟩:=h;refine fin _ ⟨⟨hd,de,.inr ⟨hb,hk,x,σ.H,?_,rfl⟩⟩,fun _=>KZ⟩ h;unfold Ex;simp only[hc];rw[if_neg hw];exact⟨c,h1,cK,trivial⟩
     .exact h.elim
theorem Vv (hg:Good P T) (hm:P.follows .mixedOrders=true) (db:List Nat) (fp:List (Nat×Nat)) (ord:List Nat) {id:Nat} (bX:SJ db fp ord ops=true) {Q:Exit->St->Prop} {σ:St} (h:vp P T Mv G N db fp (fun aG=>Q .normal aG) (bU ops ord) σ):AW P Mv X G N (.region id ops true) Q σ:=vA (Step:=xt P T Mv G N db fp) (cp:=BT db fp ops) hm (fun i o ho σ aG h w μ a hi _ _ hk=>nR.ok hg h.1 hi ho hk) (fun i j oi oj _ _ hc σ aT gU h1 h2=>ad6 hc h1 h2) ord bX fun aH=>ag4 ord σ aH h
theorem HY (hg:Good P T) (hm:P.follows .mixedOrders=true) (db:List Nat) (fp:List (Nat×Nat)) (ord:List Nat) (l ns:List Nat) (hM:∀ r,ns.contains r=false->Mv r) {id:Nat} (bX:SJ db fp ord ops=true) {y:Code} {Q:Exit->St->Prop} {σ:St}
  (h:∀ K:St->Prop,(∀ τ:St,AW P Mv X G N y Q (τ.norm l ns)->K τ)->vp P T Mv G N db fp K (bU ops ord) σ):AW P Mv X G N (.seq (.region id ops true) y) Q σ:=
 sK (Vv hg hm db fp ord bX (h _ fun _ h=>h.norm l ns hM))
theorem Na {K:St->Prop} {i:Nat} {l:List Nat} {o:Oper} (ho:ops[i]? = some o) (h:∀ K':St->Prop,(∀ τ,vp P T Mv G N db fp K (bU ops l) τ->K' τ)->Hz P T Mv G N db fp i o σ K'):vp P T Mv G N db fp K (bU ops (i :: l)) σ:=by
 have:bU ops (i :: l)=(i,o) :: bU ops l:=by simp[bU,ho]
 rw[this];exact h _ fun _ h=>h
theorem Nb {K:St->Prop} (h:K σ):vp P T Mv G N db fp K (bU ops []) σ:=h
end
attribute [simp] Hz
