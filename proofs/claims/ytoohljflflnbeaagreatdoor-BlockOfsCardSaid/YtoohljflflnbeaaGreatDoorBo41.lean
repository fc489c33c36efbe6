/- Parts. -/
import Derived.Test.YtoohljflflnbeaaGreatDoorBo35
import Derived.Test.YtoohljflflnbeaaGreatDoorBo36
import Derived.Test.YtoohljflflnbeaaGreatDoorBo37
import Derived.Test.YtoohljflflnbeaaGreatDoorBo38
import Derived.Test.YtoohljflflnbeaaGreatDoorBo39
import Derived.Test.YtoohljflflnbeaaGreatDoorBo40
import Derived.Lib.ParseIntBTie
set_option linter.unusedSectionVars false
set_option linter.unusedSimpArgs false
set_option linter.unusedVariables false
set_option maxHeartbeats 16000000
set_option maxRecDepth 100000
open Go.Proofs.Tryz
namespace Go.Proofs.YtoohljflflnbeaaGreatDoor
open Go.Av Go.Shelf Go.RowKit
def rQ (G:aC):Prop:=G 6=some (.pK (Lib.pow10Tab.map fun z=>Value.int .u64 z).toArray)
def AD (v:Value):Prop:=v = .nilIface\/∃ te pe,v = .iface te pe
def sQ (G:aC) (es er:Value):Prop:=(G 7=some (.ip [.v es])/\AD es)/\G 8=some (.ip [.v er])/\AD er
theorem DS {G:aC} {g:Nat} {v:Value} {w:World} {X:Nat->Prop} (hm:G g=some (.ip [.v v])) (dz:∀ g x,G g=some x->RD w X (.pointer (some ⟨g,0,none⟩)) x):w.cell? ⟨g,0,none⟩=some v:=by
 obtain⟨b',off,f,hp,_,_,ea,hr⟩:=(dz _ _ hm).qK;have h0:=ea 0 ak;have h1:=(hr 0 _ rfl).scalar;rw[h1]at h0;injection hp with hp;injection hp with hp;injection hp with eb fb _;subst eb fb;exact h0
theorem Qa {G:aC} (h:rQ G) {w:World} {X:Nat->Prop} (dz:∀ g x,G g=some x->RD w X (.pointer (some ⟨g,0,none⟩)) x):Lib.TabIs prog w "internal/strconv.uint64pow10" .u64 Lib.pow10Tab:=by
 have h1:=dz _ _ h
 obtain⟨ty,fr,hh⟩:∃ ty fr,w.heap[6]? = some (.cells (Lib.pow10Tab.map fun z=>Value.int .u64 z).toArray ty fr):=by
  generalize hy:D.pK _=y at h1;cases h1<;>cases hy;exact⟨_,_,by assumption⟩
 unfold Lib.TabIs World.var?;rw[show prog.globalNamed "internal/strconv.uint64pow10" = some 6 by kernel_rfl];simp only[aid,hh]
theorem MH (w:World) (os:Array Obj):cR w (Go.Sort.grow w os):=⟨by simp[Go.Sort.grow],rfl,rfl,rfl,fun b hb=>by simp[Go.Sort.grow,ag8 hb]⟩
theorem cR.trans' {w w1 w2:World} (h:cR w w1) (h2:cR w1 w2):cR w w2:=⟨ah5 h.size h2.size,h2.os.trans h.os,h2.tape.trans h.tape,h2.output.trans h.output,fun b hb=>(h2.same b (ag2 hb h.size)).trans (h.same b hb)⟩
theorem OV (G:aC) (hP:rQ G) (n:Int) (h0:-9223372036854775808<=n) (h1:n<=9223372036854775807):aD prog G 82 [.v (.int .i64 n)] (dS (Lib.itoa n)):=by
 refine aD.rJ (gS.of func82 rfl rfl) fun X w vs bg cf dz=>?_
 obtain⟨u,rfl⟩:∃ u,vs = #[u]:=by
  match vs,bg with
  | ⟨[u]⟩,_=>exact⟨u,rfl⟩
 have hu:=(cf 0 u _ rfl rfl).scalar;subst hu;refine (Any.strconv_Itoa Tryz.aaL n h0 h1 w (Qa hP dz)).mono fun e w' ⟨he,k,os,hw⟩=>⟨_,he,by rw[hw];exact cR.trans' (DA w k) (MH _ _),.v _⟩
theorem WW (G:aC) (hP:rQ G) (n:Int) (h0:-9223372036854775808<=n) (h1:n<=9223372036854775807):aD prog G 226 [.v (.int .i64 n),.v (.int .i64 10)] (dS (Lib.itoa n)):=by
 refine aD.rJ (gS.of func226 rfl rfl) fun X w vs bg cf dz=>?_
 obtain⟨u,v,rfl⟩:∃ u v,vs = #[u,v]:=by
  match vs,bg with
  | ⟨[u,v]⟩,_=>exact⟨u,v,rfl⟩
 have hu:=(cf 0 u _ rfl rfl).scalar;have hv:=(cf 1 v _ rfl rfl).scalar;subst hu hv;refine (Any.strconv_FormatInt_10 Tryz.aaO n h0 h1 w (Qa hP dz)).mono fun e w' ⟨he,k,os,hw⟩=>⟨_,he,by rw[hw];exact cR.trans' (DA w k) (MH _ _),.v _⟩
def s6 (f s:Tx) (ev:Value):D:=.bZ 422 (.ip [dS f,dS s,.v ev])
def wu (f s:Tx) (es er:Value):D:=match Lib.atoiAll s with
 | .ok v=>.bx [.v (.int .i64 v),.v .nilIface]
 | .range=>.bx [.v (.int .i64 (Lib.atoiSat s)),s6 f s er]
 | _=>.bx [.v (.int .i64 0),s6 f s es]
theorem Fy {w:World} {X:Nat->Prop} (v:Int):RD w X (.tuple #[.int .i64 v,.nilIface]) (.bx [.v (.int .i64 v),.v .nilIface]):=.bx rfl fun j u c hu hc=>by
 match j,hu,hc with
 | 0,hu,hc=>simp at hu hc;subst hu hc;exact .v _
 | 1,hu,hc=>simp at hu hc;subst hu hc;exact .v _
 | j+2,hu,hc=>simp at hu
theorem Fx {w w':World} {X:Nat->Prop} (lK:∀ b,X b->b < w.heap.size) {v:Int} {f s:Tx} {ev:Value} {N:Nat} {T:TypeId} (hN:w.heap.size<=N) (hc:w'.heap[N]? = some (.cells #[.string (bs f),.string (bs s),ev] T (0,0))) :
  RD w' X (.tuple #[.int .i64 v,.iface 422 (.pointer (some ⟨N,0,none⟩))]) (.bx [.v (.int .i64 v),s6 f s ev]):=by
 have ea:∀ j,w'.cell? ⟨N,j,none⟩=(#[.string (bs f),.string (bs s),ev]:Array Value)[j]?:=fun j=>by simp[World.cell?,hc]
 refine .bx rfl fun j u c hu hx=>?_
 match j,hu,hx with
 | 0,hu,hx=>simp at hu hx;subst hu hx;exact .v _
 | 1,hu,hx=>
  simp at hu hx;subst hu hx;refine .bZ (.ip (f:=fun j=>(w'.cell? ⟨N,j,none⟩).getD undef) (fun hx=>by have:=lK _ hx;omega) (agx.1 hc).1 (fun j hj=>?_) fun j c gY=>?_)
  .have YV:j < 3:=by simpa using hj
   rw[ag4,ea]
   match j,YV with
   | 0,_=>rfl
   | 1,_=>rfl
   | 2,_=>rfl
  .rw[ea]
   match j,gY with
   | 0,gY=>simp at gY;subst gY;exact .v _
   | 1,gY=>simp at gY;subst gY;exact .v _
   | 2,gY=>simp at gY;subst gY;exact .v _
   | j+3,gY=>simp at gY
 | j+2,hu,hx=>simp at hu
theorem LQ (w:World) (e:TypeId) (s:ByteArray):cR w (Lib.bytesWorld w e s):=wb (Lib.bytesWorld_below w e s)
def Tw:Tx:=[65,116,111,105]
def acb:Tx:=[80,97,114,115,101,73,110,116]
theorem LG (G:aC) {es er:Value} (hE:sQ G es er) (s:Tx) (hs:s.length < 2^40):aD prog G 239 [dS s] (wu Tw s es er):=by
 obtain⟨⟨h1,G5⟩,h2,G8⟩:=hE;refine Fk (gS.of func239 rfl rfl) fun X w vs lK bg cf dz=>?_
 obtain⟨u,rfl⟩:∃ u,vs = #[u]:=by
  match vs,bg with
  | ⟨[u]⟩,_=>exact⟨u,rfl⟩
 have hu:=(cf 0 u _ rfl rfl).scalar;subst hu
 have IE:(bs s).size < 2^40:=by rw[bQ];exact hs
 unfold wu
 cases hn:Lib.atoiAll s with
 | ok v=>
  refine (Any.strconv_Atoi_ok Tryz.Jk (bs s) aa v hn w).mono fun e w' ⟨he,hw⟩=>⟨_,he,?_,Fy v⟩
  rcases hw with rfl | ⟨t,rfl⟩
  .exact cR.refl _
  .exact LQ _ _ _
 | range=>
  refine (Any.strconv_Atoi_range Tryz.Jk (bs s) aa hn er w (DS h2 dz) G8).mono fun e w' ⟨N,he,hN,hc,hB⟩=>⟨_,he,wb hB,Fx lK hN hc⟩
 | _=>
  refine (Any.strconv_Atoi_syntax Tryz.Jk (bs s) aa hn es w (DS h1 dz) G5).mono fun e w' ⟨N,he,hN,hc,hB⟩=>⟨_,he,wb hB,Fx lK hN hc⟩
theorem acd (G:aC) {es er:Value} (hE:sQ G es er) (s:Tx) (hs:s.length < 2^40):aD prog G 225 [dS s,.v (.int .i64 10),.v (.int .i64 64)] (wu acb s es er):=by
 obtain⟨⟨h1,G5⟩,h2,G8⟩:=hE;refine Fk (gS.of func225 rfl rfl) fun X w vs lK bg cf dz=>?_
 obtain⟨u,v1,v2,rfl⟩:∃ u v1 v2,vs = #[u,v1,v2]:=by
  match vs,bg with
  | ⟨[u,v1,v2]⟩,_=>exact⟨u,v1,v2,rfl⟩
 have hu:=(cf 0 u _ rfl rfl).scalar;have iS:=(cf 1 v1 _ rfl rfl).scalar;have zq:=(cf 2 v2 _ rfl rfl).scalar;subst hu iS zq
 have IE:(bs s).size < 2^40:=by rw[bQ];exact hs
 have GQ:Lib.parseIntB 64 (bs s).data.toList=Lib.atoiAll s:=by rw[dk];exact Lib.parseIntB_64 s
 unfold wu
 cases hn:Lib.atoiAll s with
 | ok v=>
  refine (Any.strconv_ParseInt_10_at64_ok Tryz.Jl (bs s) aa v (GQ.trans hn) w).mono fun e w' ⟨he,hw⟩=>⟨_,he,?_,Fy v⟩
  rcases hw with rfl | ⟨t,rfl⟩
  .exact cR.refl _
  .exact LQ _ _ _
 | range=>
  refine (Any.strconv_ParseInt_10_at64_range Tryz.Jl (bs s) aa (GQ.trans hn) er w (DS h2 dz) G8).mono fun e w' ⟨N,he,hN,hc,hB⟩=>⟨_,by rw[dk,Lib.intSat_64]at he;exact he,wb hB,Fx lK hN hc⟩
 | _=>
  refine (Any.strconv_ParseInt_10_at64_syntax Tryz.Jl (bs s) aa (GQ.trans hn) es w (DS h1 dz) G5).mono fun e w' ⟨N,he,hN,hc,hB⟩=>⟨_,he,wb hB,Fx lK hN hc⟩
end Go.Proofs.YtoohljflflnbeaaGreatDoor
namespace Go.Proofs.YtoohljflflnbeaaGreatDoor
open Go.Av
def da:ra->D
 | .form=>.bx [.v (.pointer none),.v (.pointer none),.bZ 50 (.v (.int .i64 3))]
 | .bad c off=>.bx [.v (.pointer none),.v (.pointer none),.bZ 269 (.ip [.v (.int .i64 c),.v (.int .i64 off)])]
 | .name n=>.bx [.ip (bo n),.v (.pointer none),.v .nilIface]
 | .pH r=>.bx [.v (.pointer none),.ip (c8 r),.v .nilIface]
theorem Z7 (l:List Tx) (s:Tx):idx (fun x=>s == x) l=jX l s:=by
 unfold jX;congr 1;funext x;by_cases h:s=x
 .subst h;simp
 .have h2:x≠s:=fun e=>h e.symm;rw[beq_eq_false_iff_ne.2 h,beq_eq_false_iff_ne.2 h2]
theorem EP (l:List Tx) (s:Tx):-1<=jX l s/\jX l s < l.length:=by
 by_cases h:jX l s < 0
 .unfold jX idx at h ⊢
  cases hf:l.findIdx? (fun x=>x == s) with
  | none=>simp;omega
  | some k=>rw[hf]at h;simp at h;omega
 .obtain⟨k,hk,he,_⟩:=uh h;have lJ:jX l s=(k:Int):=he;omega
theorem V4 (c:Option Ex):rW c=dC c:=by cases c<;>rfl
theorem sq:(⟨#[61]⟩:ByteArray)=bs [61]:=rfl
theorem vM:IntKind.i64.wrap 0=0:=bO
theorem pM:IntKind.i64.wrap 1=1:=bO
theorem aiJ:type_of% (Aq @da.eq_1 (Aq @da.eq_2 (Aq @da.eq_3 @da.eq_4))):=(Aq @da.eq_1 (Aq @da.eq_2 (Aq @da.eq_3 @da.eq_4)))
theorem aiK:type_of% (Aq @da.eq_1 (Aq @da.eq_2 (Aq @da.eq_3 (Aq @da.eq_4 (Aq @bo.eq_1 @aii))))):=(Aq @da.eq_1 (Aq @da.eq_2 (Aq @da.eq_3 (Aq @da.eq_4 (Aq @bo.eq_1 @aii)))))
theorem aiU:type_of% (Aq @vM @pM):=(Aq @vM @pM)
theorem aiH:type_of% (Aq @aiu (Aq @aiv @aiw)):=(Aq @aiu (Aq @aiv @aiw))
theorem aa9 (G:aC) (hM:j3 G) (hP:rQ G) (hG:qm G) {es er:Value} (hE:sQ G es er) (s:Tx) (hs:s.length<=20000) (h0:iw s≠[]):aD prog G 180 [dS s] (da (gO s)):=by
 have nL:=adF G hM s 61 aa;have El:=fun (ws:List Tx) (x:Tx) (h:ws.length < 2^60)=>index_spec G none ws x h;simp only[Z7]at El;by_cases uU:(61:UInt8)∈s
 .have hle:=Dw 61 s
  have l4:gO s=qj (cutAt 61 s).1 (cutAt 61 s).2 (iw (cutAt 61 s).1):=by unfold gO;rw[if_pos uU]
  rw[l4];simp only[uU,if_true,decide_true]at nL;generalize (cutAt 61 s).1=hd at nL hle ⊢;generalize (cutAt 61 s).2=rest at nL hle ⊢;have fB:=My G hd aa;have np:=F8 hd;generalize nV:iw hd=ws at fB np ⊢;have dJ:=acg G rest aa;rw[V4]at dJ;have kW:=aer G hG (iH rest).2;have hR:∀ k nm,mN k nm hd rest=(match (iH rest).2 with | some (c,o)=>.bad c (hd.length+1+o.getD 0) | none=>.pH ⟨k,nm,(iH rest).1⟩):=fun _ _=>rfl;simp only[dS]at nL fB dJ ⊢
  match ws,fB,np with
  | [],fB,np=>
   show aD _ _ _ _ (da .form);simp only[da];refine aD.aQ (aB _) func180 rfl rfl (rs:=[.tmp 2,.tmp 3,.tmp 4]) results180 (by simp[ntmps180]) fun X=>?_;simp only[ntmps180,List.map];refine aq [0] [] ?_;have qf:=@sq;refine fj nL [5,6,7] [] ?_;refine br trivial fB [5,6,7,8] [] ?_;refine ag fun K1 aF=>aq [5,6,8,26] [] ?_;refine aI (aq [5,6,8,9] [28] ?_);refine ag fun K2 au=>aq [5,6,8,9,31] [28] ?_;refine al (ar ?_);refine au _ (AW.norm [5,6,8,9] [28] aN (AW.st bA ?_));refine ag fun K3 aU=>aq [5,6,8,9,54] [28] ?_;refine aI (aq [2,3,4] [28] ?_);exact gw
  | [a],fB,np=>
   show aD _ _ _ _ (da (mN 1 a hd rest));rw[hR];have hsome:=fun h=>Cs (t:=rest) h;have dB:=fun c o h=>Cr (t:=rest) (c:=c) (p:=o) h;generalize (iH rest).1=oe at dJ hsome ⊢;generalize (iH rest).2=oc at dJ kW hsome dB ⊢
   match oc,dJ,kW,hsome,dB with
   | some (c,some o),dJ,kW,_,dB=>
    have Iq:=dB c o rfl
    have hcast:((hd.length+1+o:Nat):Int)=(hd.length:Int)+1+o:=aa
    simp only[bB]at dJ;simp only[da,ah1];refine aD.aQ (aB _) func180 rfl rfl (rs:=[.tmp 2,.tmp 3,.tmp 4]) results180 (by simp[ntmps180]) fun X=>?_;simp only[ntmps180,List.map];refine aq [0] [] ?_;have qf:=@sq;refine fj nL [5,6,7] [] ?_;refine br trivial fB [5,6,7,8] [] ?_;refine ag fun K1 aF=>aq [5,6,8,26] [] ?_;refine aI (aq [5,6,8,9] [28] ?_);refine ag fun K2 au=>aq [5,6,8,9,31] [28] ?_;refine al (ar ?_);refine au _ (AW.norm [5,6,8,9] [28] aN (AW.st bA ?_));refine ag fun K3 aU=>aq [5,6,8,9,54] [28] ?_;refine al (ar (aU _ ?_));refine aq [5,6,9] [28] ?_;refine br trivial dJ [5,9,10,11] [28] ?_;refine ag fun K4 ck=>ae aiH [5,9,10,11,12,13] [28] ?_;refine aq [5,9,10,11,12,75] [28] ?_;refine aI ?_;have qf:=@bQ;refine iV [2,3,4] [28,89] ?_;refine fI 89 ?_;exact aW @hcast
   | some (c,none),dJ,kW,_,_=>
    have hcast:((hd.length+1:Nat):Int)=(hd.length:Int)+1:=aa
    simp only[bB,codeF]at dJ kW;simp only[da,Option.getD_none,ahB];refine aD.aQ (aB _) func180 rfl rfl (rs:=[.tmp 2,.tmp 3,.tmp 4]) results180 (by simp[ntmps180]) fun X=>?_;simp only[ntmps180,List.map];refine aq [0] [] ?_;have qf:=@sq;refine fj nL [5,6,7] [] ?_;refine br trivial fB [5,6,7,8] [] ?_;refine ag fun K1 aF=>aq [5,6,8,26] [] ?_;refine aI (aq [5,6,8,9] [28] ?_);refine ag fun K2 au=>aq [5,6,8,9,31] [28] ?_;refine al (ar ?_);refine au _ (AW.norm [5,6,8,9] [28] aN (AW.st bA ?_));refine ag fun K3 aU=>aq [5,6,8,9,54] [28] ?_;refine al (ar (aU _ ?_));refine aq [5,6,9] [28] ?_;refine br trivial dJ [5,9,10,11] [28] ?_;refine ag fun K4 ck=>ae aiH [5,9,10,11,12,13] [28] ?_;refine aq [5,9,10,11,12,75] [28] ?_;refine al (ar (ck _ ?_));refine ag fun K5 b9=>aq [5,9,10,11,92] [28] ?_;refine aI ?_;have qf:=@bQ;refine fj kW [2,3,4] [28,99] ?_;refine fI 99 ?_;exact aW @hcast
   | none,dJ,kW,hsome,_=>
    obtain⟨e,rfl⟩:=hsome rfl;obtain⟨ta,ca,qH⟩:=kJ e;simp only[dC,qH,bB]at dJ;simp only[da,c8,dC,qH,dS];refine aD.aQ (aB _) func180 rfl rfl (rs:=[.tmp 2,.tmp 3,.tmp 4]) results180 (by simp[ntmps180]) fun X=>?_;simp only[ntmps180,List.map];refine aq [0] [] ?_;have qf:=@sq;refine fj nL [5,6,7] [] ?_;refine br trivial fB [5,6,7,8] [] ?_;refine ag fun K1 aF=>aq [5,6,8,26] [] ?_;refine aI (aq [5,6,8,9] [28] ?_);refine ag fun K2 au=>aq [5,6,8,9,31] [28] ?_;refine al (ar ?_);refine au _ (AW.norm [5,6,8,9] [28] aN (AW.st bA ?_));refine ag fun K3 aU=>aq [5,6,8,9,54] [28] ?_;refine al (ar (aU _ ?_));refine aq [5,6,9] [28] ?_;refine br trivial dJ [5,9,10,11] [28] ?_;refine ag fun K4 ck=>ae aiH [5,9,10,11,12,13] [28] ?_;refine aq [5,9,10,11,12,75] [28] ?_;refine al (ar (ck _ ?_));refine ag fun K5 b9=>aq [5,9,10,11,92] [28] ?_;refine al (ar (b9 _ ?_));refine aq [9] [28] ?_;refine aq [2,3,4] [28] ?_;refine fI 28 ?_;exact gw
  | [a,b],fB,np=>
   have gN:=El oT a bO;simp only[dS]at gN;show aD _ _ _ _ (da (if jX oT a < 2 then .form else mN (jX oT a) b hd rest));have pc:=EP oT a;generalize jX oT a=k at gN pc ⊢;have Nt:k < 7:=pc.2;by_cases hk:k < 2
   .rw[if_pos hk];simp only[da];refine aD.aQ (aB _) func180 rfl rfl (rs:=[.tmp 2,.tmp 3,.tmp 4]) results180 (by simp[ntmps180]) fun X=>?_;simp only[ntmps180,List.map];refine aq [0] [] ?_;have qf:=@sq;refine fj nL [5,6,7] [] ?_;refine br trivial fB [5,6,7,8] [] ?_;refine ag fun K1 aF=>aq [5,6,8,26] [] ?_;refine aI (aq [5,6,8,9] [28] ?_);refine ag fun K2 au=>aq [5,6,8,9,31] [28] ?_;refine aI (eU (aB _) fun K' ao=>?_);(repeat refine aM fun Kq af=>?_;simp;(repeat refine⟨aa,?_⟩);refine af _ ?_);refine aM fun Kq af=>?_;simp;refine dT.rH (gN) bA (by first | exact D.bJ _ | simp[aL,agF,agy,D.le,D.le.go,D.le_refl,D.bJ]) (by simp[D.scalar]) ?_;refine af _ ?_;simp only[aR,dY];(repeat refine aM fun Kq af=>?_;simp;(repeat refine⟨aa,?_⟩);refine af _ ?_);refine bK (ao _ ?_);refine au _ (AW.norm [5,6,8,9] [28,33] aN (AW.st bA ?_));refine ag fun K3 aU=>?_;have qf:=@hk;refine ay [5,6,8,9,54] [28,33] ?_;refine aI (aq [2,3,4] [28,33] ?_);exact gw
   rw[if_neg hk];rw[hR];have hsome:=fun h=>Cs (t:=rest) h;have dB:=fun c o h=>Cr (t:=rest) (c:=c) (p:=o) h;generalize (iH rest).1=oe at dJ hsome ⊢;generalize (iH rest).2=oc at dJ kW hsome dB ⊢
   match oc,dJ,kW,hsome,dB with
   | some (c,some o),dJ,kW,_,dB=>
    have Iq:=dB c o rfl
    have hcast:((hd.length+1+o:Nat):Int)=(hd.length:Int)+1+o:=aa
    simp only[bB]at dJ;simp only[da,ah1];refine aD.aQ (aB _) func180 rfl rfl (rs:=[.tmp 2,.tmp 3,.tmp 4]) results180 (by simp[ntmps180]) fun X=>?_;simp only[ntmps180,List.map];refine aq [0] [] ?_;have qf:=@sq;refine fj nL [5,6,7] [] ?_;refine br trivial fB [5,6,7,8] [] ?_;refine ag fun K1 aF=>aq [5,6,8,26] [] ?_;refine aI (aq [5,6,8,9] [28] ?_);refine ag fun K2 au=>aq [5,6,8,9,31] [28] ?_;refine aI (eU (aB _) fun K' ao=>?_);(repeat refine aM fun Kq af=>?_;simp;(repeat refine⟨aa,?_⟩);refine af _ ?_);refine aM fun Kq af=>?_;simp;refine dT.rH (gN) bA (by first | exact D.bJ _ | simp[aL,agF,agy,D.le,D.le.go,D.le_refl,D.bJ]) (by simp[D.scalar]) ?_;refine af _ ?_;simp only[aR,dY];(repeat refine aM fun Kq af=>?_;simp;(repeat refine⟨aa,?_⟩);refine af _ ?_);refine bK (ao _ ?_);refine au _ (AW.norm [5,6,8,9] [28,33] aN (AW.st bA ?_));refine ag fun K3 aU=>?_;have qf:=@hk;refine ay [5,6,8,9,54] [28,33] ?_;refine al (ar (aU _ ?_));refine aq [5,6,9] [28,33] ?_;refine br trivial dJ [5,9,10,11] [28,33] ?_;refine ag fun K4 ck=>ae aiH [5,9,10,11,12,13] [28,33] ?_;refine aq [5,9,10,11,12,75] [28,33] ?_;refine aI ?_;have qf:=@bQ;refine iV [2,3,4] [28,33,89] ?_;refine fI 89 ?_;exact aW @hcast
   | some (c,none),dJ,kW,_,_=>
    have hcast:((hd.length+1:Nat):Int)=(hd.length:Int)+1:=aa
    simp only[bB,codeF]at dJ kW;simp only[da,Option.getD_none,ahB];refine aD.aQ (aB _) func180 rfl rfl (rs:=[.tmp 2,.tmp 3,.tmp 4]) results180 (by simp[ntmps180]) fun X=>?_;simp only[ntmps180,List.map];refine aq [0] [] ?_;have qf:=@sq;refine fj nL [5,6,7] [] ?_;refine br trivial fB [5,6,7,8] [] ?_;refine ag fun K1 aF=>aq [5,6,8,26] [] ?_;refine aI (aq [5,6,8,9] [28] ?_);refine ag fun K2 au=>aq [5,6,8,9,31] [28] ?_;refine aI (eU (aB _) fun K' ao=>?_);(repeat refine aM fun Kq af=>?_;simp;(repeat refine⟨aa,?_⟩);refine af _ ?_);refine aM fun Kq af=>?_;simp;refine dT.rH (gN) bA (by first | exact D.bJ _ | simp[aL,agF,agy,D.le,D.le.go,D.le_refl,D.bJ]) (by simp[D.scalar]) ?_;refine af _ ?_;simp only[aR,dY];(repeat refine aM fun Kq af=>?_;simp;(repeat refine⟨aa,?_⟩);refine af _ ?_);refine bK (ao _ ?_);refine au _ (AW.norm [5,6,8,9] [28,33] aN (AW.st bA ?_));refine ag fun K3 aU=>?_;have qf:=@hk;refine ay [5,6,8,9,54] [28,33] ?_;refine al (ar (aU _ ?_));refine aq [5,6,9] [28,33] ?_;refine br trivial dJ [5,9,10,11] [28,33] ?_;refine ag fun K4 ck=>ae aiH [5,9,10,11,12,13] [28,33] ?_;refine aq [5,9,10,11,12,75] [28,33] ?_;refine al (ar (ck _ ?_));refine ag fun K5 b9=>aq [5,9,10,11,92] [28,33] ?_;refine aI ?_;have qf:=@bQ;refine fj kW [2,3,4] [28,33,99] ?_;refine fI 99 ?_;exact aW @hcast
   | none,dJ,kW,hsome,_=>
    obtain⟨e,rfl⟩:=hsome rfl;obtain⟨ta,ca,qH⟩:=kJ e;simp only[dC,qH,bB]at dJ;simp only[da,c8,dC,qH,dS];refine aD.aQ (aB _) func180 rfl rfl (rs:=[.tmp 2,.tmp 3,.tmp 4]) results180 (by simp[ntmps180]) fun X=>?_;simp only[ntmps180,List.map];refine aq [0] [] ?_;have qf:=@sq;refine fj nL [5,6,7] [] ?_;refine br trivial fB [5,6,7,8] [] ?_;refine ag fun K1 aF=>aq [5,6,8,26] [] ?_;refine aI (aq [5,6,8,9] [28] ?_);refine ag fun K2 au=>aq [5,6,8,9,31] [28] ?_;refine aI (eU (aB _) fun K' ao=>?_);(repeat refine aM fun Kq af=>?_;simp;(repeat refine⟨aa,?_⟩);refine af _ ?_);refine aM fun Kq af=>?_;simp;refine dT.rH (gN) bA (by first | exact D.bJ _ | simp[aL,agF,agy,D.le,D.le.go,D.le_refl,D.bJ]) (by simp[D.scalar]) ?_;refine af _ ?_;simp only[aR,dY];(repeat refine aM fun Kq af=>?_;simp;(repeat refine⟨aa,?_⟩);refine af _ ?_);refine bK (ao _ ?_);refine au _ (AW.norm [5,6,8,9] [28,33] aN (AW.st bA ?_));refine ag fun K3 aU=>?_;have qf:=@hk;refine ay [5,6,8,9,54] [28,33] ?_;refine al (ar (aU _ ?_));refine aq [5,6,9] [28,33] ?_;refine br trivial dJ [5,9,10,11] [28,33] ?_;refine ag fun K4 ck=>ae aiH [5,9,10,11,12,13] [28,33] ?_;refine aq [5,9,10,11,12,75] [28,33] ?_;refine al (ar (ck _ ?_));refine ag fun K5 b9=>aq [5,9,10,11,92] [28,33] ?_;refine al (ar (b9 _ ?_));refine aq [9] [28,33] ?_;refine aq [2,3,4] [28,33] ?_;refine fI 28 ?_;exact gw
  | a :: b :: c :: l,fB,np=>
   have n1:¬ ((a :: b :: c :: l).length:Int)=2:=by simp only[agS];omega
   have n2:¬ ((a :: b :: c :: l).length:Int)=1:=by simp only[agS];omega
   show aD _ _ _ _ (da .form);simp only[da];generalize a :: b :: c :: l=ws at fB np n1 n2;refine aD.aQ (aB _) func180 rfl rfl (rs:=[.tmp 2,.tmp 3,.tmp 4]) results180 (by simp[ntmps180]) fun X=>?_;simp only[ntmps180,List.map];refine aq [0] [] ?_;have qf:=@sq;refine fj nL [5,6,7] [] ?_;refine br trivial fB [5,6,7,8] [] ?_;refine ag fun K1 aF=>aq [5,6,8,26] [] ?_;refine aI (aq [5,6,8,9] [28] ?_);refine ag fun K2 au=>?_;have qf:=(Aq @n1 @n2);refine ay [5,6,8,9,31] [28] ?_;refine al (ar ?_);refine au _ (AW.norm [5,6,8,9] [28] aN (AW.st bA ?_));refine ag fun K3 aU=>?_;have qf:=(Aq @n1 @n2);refine ay [5,6,8,9,54] [28] ?_;refine aI (aq [2,3,4] [28] ?_);exact gw
 .have l4:gO s=lq (iw s):=by unfold gO;rw[if_neg uU]
  rw[l4];simp only[uU,if_false,decide_false]at nL;have fB:=My G s aa;have np:=F8 s;have zu:=fun x=>F9 (t:=s) (w:=x);generalize nV:iw s=ws at fB np zu h0 ⊢;obtain⟨a,l,rfl⟩:∃ a l,ws=a :: l:=List.exists_cons_of_ne_nil h0;show aD _ _ _ _ (da (gE (jX so a) l));have gN:=El so a bO;have pc:=EP so a;have Nt:jX so a < 5:=pc.2;generalize jX so a=k at gN Nt ⊢
  have w7:((a :: l).length:Int)=(l.length:Int)+1:=ak
  simp only[dS]at nL fB gN ⊢;refine aD.aQ (aB _) func180 rfl rfl (rs:=[.tmp 2,.tmp 3,.tmp 4]) results180 (by simp[ntmps180]) fun X=>?_;simp only[ntmps180,List.map];refine aq [0] [] ?_;have qf:=@sq;refine fj nL [5,6,7] [] ?_;refine br trivial fB [5,6,7,8] [] ?_;refine ag fun K1 aF=>aq [5,6,8,26] [] ?_;refine al (ar (aF _ ?_));refine rg [8,14] [106] aN fun K' ao=>?_;(repeat refine aM fun Kq af=>?_;simp;(repeat refine⟨aa,?_⟩);refine af _ ?_);refine aM fun Kq af=>?_;simp;refine dT.rH (gN) bA (by first | exact D.bJ _ | simp[aL,agF,agy,D.le,D.le.go,D.le_refl,D.bJ]) (by simp[D.scalar]) ?_;refine af _ ?_;simp only[aR,dY];(repeat refine aM fun Kq af=>?_;simp;(repeat refine⟨aa,?_⟩);refine af _ ?_);refine bK (ao _ (AW.st bA ?_));refine ag fun K6 eH=>?_;by_cases hk:k < 1
  .have hF:gE k l = .form:=by
    match l with
    | []=>rfl
    | [b]=>rw[gE,if_neg aa]
    | [b,c]=>rw[gE,if_neg aa]
    | b :: c :: d :: l=>rfl
   rw[hF];simp only[da];have qf:=@hk;refine ay [8,14,120] [106] ?_;refine aI (aq [2,3,4] [106] ?_);exact gw
  have Eo:k=1\/k=2\/k=3\/k=4:=aa
  rcases Eo with rfl | rfl | rfl | rfl
  .by_cases hl:l.length=1
   .obtain⟨b,rfl⟩:∃ b,l=[b]:=ag7.1 hl;have hF:gE 1 [b] = .name ⟨b,1,0⟩:=rfl;have qf:=aiU;refine ay [8,14,120] [106] ?_;refine al (ar (eH _ ?_));refine aq [8,14,15] [106,127] ?_;refine ag fun K7 eL=>aq [8,15,129] [106,127] ?_;refine al (ar ?_);refine eL _ (AW.norm [15] [106,127] aN (AW.st bA ?_));refine aq [2,3,4] [106,127] ?_;refine fI 127 ?_;exact aW (Aq @hF aiK)
   .have hF:gE 1 l = .form:=by
     match l,hl with
     | [],_=>rfl
     | [b],hl=>simp at hl
     | [b,c],_=>rw[gE,if_neg aa]
     | b :: c :: d :: l,_=>rfl
    rw[hF];simp only[da]
    have hn:¬ (l.length:Int)=1:=aa
    have nT:¬ (l.length:Int)+1=2:=aa
    have qf:=(Aq @hn (Aq @nT (Aq @w7 aiU)));refine ay [8,14,120] [106] ?_;refine aI (aq [2,3,4] [106] ?_);exact gw
  .by_cases hl:l.length=1
   .obtain⟨b,rfl⟩:∃ b,l=[b]:=ag7.1 hl;have hF:gE 2 [b] = .name ⟨b,2,0⟩:=rfl;have qf:=aiU;refine ay [8,14,120] [106] ?_;refine al (ar (eH _ ?_));refine aq [8,14,15] [106,127] ?_;refine ag fun K7 eL=>aq [8,15,129] [106,127] ?_;refine al (ar ?_);refine eL _ (AW.norm [15] [106,127] aN (AW.st bA ?_));refine aq [2,3,4] [106,127] ?_;refine fI 127 ?_;exact aW (Aq @hF aiK)
   .have hF:gE 2 l = .form:=by
     match l,hl with
     | [],_=>rfl
     | [b],hl=>simp at hl
     | [b,c],_=>rw[gE,if_neg aa]
     | b :: c :: d :: l,_=>rfl
    rw[hF];simp only[da]
    have hn:¬ (l.length:Int)=1:=aa
    have nT:¬ (l.length:Int)+1=2:=aa
    have qf:=(Aq @hn (Aq @nT (Aq @w7 aiU)));refine ay [8,14,120] [106] ?_;refine aI (aq [2,3,4] [106] ?_);exact gw
  .by_cases hl:l.length=2
   .obtain⟨b,c,rfl⟩:∃ b c,l=[b,c]:=by
     match l,hl with
     | [b,c],_=>exact⟨b,c,rfl⟩
    have cN:c.length < 2^40:=by have:=(zu c ak).2;omega
    have dB:=LG G hE c cN;have b5:gE 3 [b,c]=(match vw c with | some v=>.name ⟨b,3,v⟩ | none=>.form):=rfl;unfold vw at b5
    unfold wu at dB
    simp only[dS]at dB
    have qf:=aiU;refine ay [8,14,120] [106] ?_;refine al (ar (eH _ ?_));refine aq [8,14,15] [106,127] ?_;refine ag fun K7 eL=>aq [8,15,129] [106,127] ?_;refine aI ?_
    cases hn:Lib.atoiAll c with
    | ok v=>
     rw[hn]at dB b5;dsimp only at dB b5;obtain⟨v0,v1⟩:=Lib.atoiAll_bounds hn;have hit:=OV G hP v v0 v1;simp only[dS]at hit;generalize Lib.itoa v=iv at hit b5;refine br trivial dB [8,15,16,17] [106,127] ?_;refine ag fun K8 fA=>?_;by_cases hc:iv=c
     .rw[if_pos hc]at b5;subst hc;refine qY (aB _) ah [15,16,146] [106,127] aN ah fun K' ao=>?_;(repeat refine eK fun Kq af=>?_;simp[bf,bt];(repeat refine⟨aa,?_⟩);refine af _ ?_);refine eK fun Kq af=>?_;simp[bf,bt];refine kG.data (hit) bA bA (by first | exact D.bJ _ | simp[aL,agF,agy,D.le,D.le.go,D.le_refl,D.bJ,bf,bt]) ?_;refine af _ ?_;simp only[aR,dY];(repeat refine eK fun Kq af=>?_;simp[bf,bt];(repeat refine⟨aa,?_⟩);refine af _ ?_);refine mQ (ao _ ?_);refine AW.st (by simp[bf,bt];rfl) ?_;refine al (ar (fA _ ?_));refine gH trivial eL [15] [106,127] ?_;refine aq [2,3,4] [106,127] ?_;refine fI 127 ?_;exact aW (Aq @b5 aiK)
     .rw[if_neg hc]at b5;refine qY (aB _) ah [15,16,146] [106,127] aN ah fun K' ao=>?_;(repeat refine eK fun Kq af=>?_;simp[bf,bt,hc];(repeat refine⟨aa,?_⟩);refine af _ ?_);refine eK fun Kq af=>?_;simp[bf,bt,hc];refine kG.data (hit) bA bA (by first | exact D.bJ _ | simp[aL,agF,agy,D.le,D.le.go,D.le_refl,D.bJ,bf,bt,hc]) ?_;refine af _ ?_;simp only[aR,dY];(repeat refine eK fun Kq af=>?_;simp[bf,bt,hc];(repeat refine⟨aa,?_⟩);refine af _ ?_);refine mQ (ao _ ?_);refine AW.st (by simp[bf,bt,hc];rfl) ?_;refine cm (by simp[hc]) (aq [2,3,4] [106,127] ?_);exact aW (Aq @b5 aiJ)
    | range=>
     rw[hn]at dB b5;dsimp only[s6]at dB b5;refine br trivial dB [8,15,16,17] [106,127] ?_;refine ag fun K8 fA=>Fz trivial [15,16,146] [106,127] ?_;refine aI (aq [2,3,4] [106,127] ?_);exact aW (Aq @b5 aiJ)
    | _=>
     rw[hn]at dB b5;dsimp only[s6]at dB b5;refine br trivial dB [8,15,16,17] [106,127] ?_;refine ag fun K8 fA=>Fz trivial [15,16,146] [106,127] ?_;refine aI (aq [2,3,4] [106,127] ?_);exact aW (Aq @b5 aiJ)
   .have hF:gE 3 l = .form:=by
     match l,hl with
     | [],_=>rfl
     | [b],_=>rw[gE,if_neg aa]
     | [b,c],hl=>simp at hl
     | b :: c :: d :: l,_=>rfl
    rw[hF];simp only[da]
    have hn:¬ (l.length:Int)=2:=aa
    have nT:¬ (l.length:Int)+1=3:=aa
    have qf:=(Aq @hn (Aq @nT (Aq @w7 aiU)));refine ay [8,14,120] [106] ?_;refine aI (aq [2,3,4] [106] ?_);exact gw
  .by_cases hl:l.length=2
   .obtain⟨b,c,rfl⟩:∃ b c,l=[b,c]:=by
     match l,hl with
     | [b,c],_=>exact⟨b,c,rfl⟩
    have cN:c.length < 2^40:=by have:=(zu c ak).2;omega
    have dB:=LG G hE c cN;have b5:gE 4 [b,c]=(match vw c with | some v=>.name ⟨b,4,v⟩ | none=>.form):=rfl;unfold vw at b5
    unfold wu at dB
    simp only[dS]at dB
    have qf:=aiU;refine ay [8,14,120] [106] ?_;refine al (ar (eH _ ?_));refine aq [8,14,15] [106,127] ?_;refine ag fun K7 eL=>aq [8,15,129] [106,127] ?_;refine aI ?_
    cases hn:Lib.atoiAll c with
    | ok v=>
     rw[hn]at dB b5;dsimp only at dB b5;obtain⟨v0,v1⟩:=Lib.atoiAll_bounds hn;have hit:=OV G hP v v0 v1;simp only[dS]at hit;generalize Lib.itoa v=iv at hit b5;refine br trivial dB [8,15,16,17] [106,127] ?_;refine ag fun K8 fA=>?_;by_cases hc:iv=c
     .rw[if_pos hc]at b5;subst hc;refine qY (aB _) ah [15,16,146] [106,127] aN ah fun K' ao=>?_;(repeat refine eK fun Kq af=>?_;simp[bf,bt];(repeat refine⟨aa,?_⟩);refine af _ ?_);refine eK fun Kq af=>?_;simp[bf,bt];refine kG.data (hit) bA bA (by first | exact D.bJ _ | simp[aL,agF,agy,D.le,D.le.go,D.le_refl,D.bJ,bf,bt]) ?_;refine af _ ?_;simp only[aR,dY];(repeat refine eK fun Kq af=>?_;simp[bf,bt];(repeat refine⟨aa,?_⟩);refine af _ ?_);refine mQ (ao _ ?_);refine AW.st (by simp[bf,bt];rfl) ?_;refine al (ar (fA _ ?_));refine gH trivial eL [15] [106,127] ?_;refine aq [2,3,4] [106,127] ?_;refine fI 127 ?_;exact aW (Aq @b5 aiK)
     .rw[if_neg hc]at b5;refine qY (aB _) ah [15,16,146] [106,127] aN ah fun K' ao=>?_;(repeat refine eK fun Kq af=>?_;simp[bf,bt,hc];(repeat refine⟨aa,?_⟩);refine af _ ?_);refine eK fun Kq af=>?_;simp[bf,bt,hc];refine kG.data (hit) bA bA (by first | exact D.bJ _ | simp[aL,agF,agy,D.le,D.le.go,D.le_refl,D.bJ,bf,bt,hc]) ?_;refine af _ ?_;simp only[aR,dY];(repeat refine eK fun Kq af=>?_;simp[bf,bt,hc];(repeat refine⟨aa,?_⟩);refine af _ ?_);refine mQ (ao _ ?_);refine AW.st (by simp[bf,bt,hc];rfl) ?_;refine cm (by simp[hc]) (aq [2,3,4] [106,127] ?_);exact aW (Aq @b5 aiJ)
    | range=>
     rw[hn]at dB b5;dsimp only[s6]at dB b5;refine br trivial dB [8,15,16,17] [106,127] ?_;refine ag fun K8 fA=>Fz trivial [15,16,146] [106,127] ?_;refine aI (aq [2,3,4] [106,127] ?_);exact aW (Aq @b5 aiJ)
    | _=>
     rw[hn]at dB b5;dsimp only[s6]at dB b5;refine br trivial dB [8,15,16,17] [106,127] ?_;refine ag fun K8 fA=>Fz trivial [15,16,146] [106,127] ?_;refine aI (aq [2,3,4] [106,127] ?_);exact aW (Aq @b5 aiJ)
   .have hF:gE 4 l = .form:=by
     match l,hl with
     | [],_=>rfl
     | [b],_=>rw[gE,if_neg aa]
     | [b,c],hl=>simp at hl
     | b :: c :: d :: l,_=>rfl
    rw[hF];simp only[da]
    have hn:¬ (l.length:Int)=2:=aa
    have nT:¬ (l.length:Int)+1=3:=aa
    have qf:=(Aq @hn (Aq @nT (Aq @w7 aiU)));refine ay [8,14,120] [106] ?_;refine aI (aq [2,3,4] [106] ?_);exact gw
end Go.Proofs.YtoohljflflnbeaaGreatDoor
namespace Go.Av
section
variable {P:Program} {T:Ty} {Mv X:Nat->Prop} {G:aC} {N:Fr} {w w':World} {μ:Mu} {a:Act} {σ:St} {ops:Array Oper} {db:List Nat} {fp:List (Nat×Nat)}
def v8 (P:Program) (T:Ty) (Mv:Nat->Prop) (G:aC) (N:Fr) (db:List Nat) (fp:List (Nat×Nat)) (i:Nat) (o:Oper) (σ aJ:St):Prop:=
 nD P T Mv G N db i o σ aJ/\(db.contains i=false->qX G fp σ.env i o.op)
theorem nD.env {i:Nat} {o:Oper} {σ aJ:St} (h:nD P T Mv G N db i o σ aJ):∃ v,aJ.env=aR σ.env o.dst v:=by
 rcases h.2.2 with⟨_,c,y,_,_,rfl⟩ | ⟨_,_,x,H',_,rfl⟩
 .exact⟨_,rfl⟩
 .exact⟨_,rfl⟩
def Aw (db:List Nat) (fp:List (Nat×Nat)) (ops:Array Oper) (i j:Nat) (oi oj:Oper):Bool:=yt db ops i j oi oj || (!db.contains i && !db.contains j && oi.apart ops oj && zA oi.op && zA oj.op && match fp.lookup i,fp.lookup j with
 | some r,some r'=>!(r == r')
 | _,_=>false)
theorem acE {i j:Nat} {oi oj:Oper} (hc:Aw db fp ops i j oi oj=true) {σ bh iy:St} (h1:v8 P T Mv G N db fp i oi σ bh) (h2:v8 P T Mv G N db fp j oj bh iy) :
  ∃ j1,v8 P T Mv G N db fp j oj σ j1/\v8 P T Mv G N db fp i oi j1 iy:=by
 obtain⟨s1,t1⟩:=h1;obtain⟨s2,t2⟩:=h2
 have gL:oi.apart ops oj=true:=by
  simp only[Aw,yt,ag9,abi]at hc
  rcases hc with hc | hc
  .exact hc.1
  .exact hc.1.1.1.2
 have fV:∀ v,iA oj.op (aR σ.env oi.dst v) σ.env:=fun v t ht=>(kD gL (e:=σ.env) (v:=v)).1 t (lP ht);have gJ:∀ v,iA oi.op σ.env (aR σ.env oj.dst v):=fun v t ht=>((kD gL (e:=σ.env) (v:=v)).2.1 t (lP ht)).symm;have bl:=(kD gL (e:=σ.env) (v:=dN)).2.2;obtain⟨v1,rj⟩:=s1.env
 have main:∃ j1,nD P T Mv G N db j oj σ j1/\nD P T Mv G N db i oi j1 iy:=by
  simp only[Aw,ag9]at hc
  rcases hc with hc | hc
  .exact MB hc s1 s2
  .simp only[abi,ahY]at hc;obtain⟨⟨⟨⟨⟨bi,bj⟩,_⟩,li⟩,lj⟩,wU⟩:=hc;have RY:=t1 bi;have KH:=t2 bj
   cases b8:fp.lookup i with
   | none=>simp[b8]at wU
   | some r=>
    cases wT:fp.lookup j with
    | none=>simp[b8,wT]at wU
    | some r'=>
     have hr:r≠r':=by simpa[b8,wT]using wU
     obtain⟨di,gi,s1⟩:=s1;obtain⟨dj,gj,s2⟩:=s2
     rcases s1 with⟨b,_⟩ | ⟨_,k1,x,H',e1,rfl⟩
     .rw[bi]at b;cases b
     rcases s2 with⟨b,_⟩ | ⟨_,k2,z,H2,e2,rfl⟩
     .rw[bj]at b;cases b
     dsimp only at e2 KH rj;simp only[qX,b8]at RY;simp only[qX,wT]at KH;obtain⟨u,rfl,Jo⟩:=e1.FX RY;have e2:=e2.congr k2 (fV _);obtain⟨u',rfl,Jp⟩:=e2.FX (JV (fV _) KH);refine⟨⟨aR σ.env oj.dst z,mL σ.H r' u'⟩,⟨dj,gj,.inr ⟨bj,k2,z,mL σ.H r' u',Jp σ.H (Fu (H:=σ.H) (u:=u) (ahD hr)).symm,rfl⟩⟩,di,gi,.inr ⟨bi,k1,x,mL (mL σ.H r' u') r u,(Jo (mL σ.H r' u') (Fu hr)).congr k1 (gJ _),?_⟩⟩;rw[Qr hr,iI bl]
 obtain⟨j1,f1,f2⟩:=main;obtain⟨v3,AE⟩:=f1.env;refine⟨j1,⟨f1,fun hb=>?_⟩,f2,fun hb=>?_⟩
 .have h:=t2 hb;rw[rj]at h;exact FY (fV _) h
 .rw[AE];exact FY (gJ _) (t1 hb)
def Q8 (P:Program) (T:Ty) (Mv:Nat->Prop) (G:aC) (N:Fr) (db:List Nat) (fp:List (Nat×Nat)) (ops:Array Oper):List Nat->St->St->Prop:=iJ (v8 P T Mv G N db fp) ops
def PW (db:List Nat) (fp:List (Nat×Nat)) (ord:List Nat) (ops:Array Oper):Bool:=qP (Aw db fp ops) ord ops
def FQ (P:Program) (T:Ty) (Mv:Nat->Prop) (G:aC) (N:Fr) (db:List Nat) (fp:List (Nat×Nat)) (i:Nat) (o:Oper) (σ:St) (K:St->Prop):Prop:=gP N o/\o.guard=none/\
 if db.contains i=true then (match ow T G σ.env o with
  | some (c,y)=>c/\K ⟨aR σ.env o.dst (.d y),σ.H⟩
  | none=>False)
 else qX G fp σ.env i o.op/\kindOf o.op≠9/\match ey o.op with
  | some c=>qt P G c σ.env o.dst σ.H [] [] K
  | none=>vA T G Mv o σ [] K
def ux (P:Program) (T:Ty) (Mv:Nat->Prop) (G:aC) (N:Fr) (db:List Nat) (fp:List (Nat×Nat)) (K:St->Prop):List (Nat×Oper)->St->Prop
 | [],σ=>K σ
 | (i,o) :: rest,σ=>FQ P T Mv G N db fp i o σ (ux P T Mv G N db fp K rest)
theorem ad6 {K:St->Prop}:∀ (l:List Nat) (σ:St),(∀ i∈l,i < ops.size)->ux P T Mv G N db fp K (cU ops l) σ->∃ cJ,K cJ/\Q8 P T Mv G N db fp ops l σ cJ:=by
 intro l
 induction l with
 | nil=>intro σ _ h;exact⟨σ,h,rfl⟩
 | cons i l ih=>
  intro σ hl h;have hi:=hl i ak
  have ho:ops[i]? = some ops[i]:=by simp[hi]
  simp only[cU,ho]at h;generalize ops[i]=o at ho h;simp only[ux,FQ]at h;obtain⟨hd,e8,h⟩:=h
  have fin:∀ bh,v8 P T Mv G N db fp i o σ bh->ux P T Mv G N db fp K (cU ops l) bh->∃ cJ,K cJ/\Q8 P T Mv G N db fp ops (i :: l) σ cJ:=fun bh hs h1=>by
   obtain⟨cJ,hk,hr⟩:=ih bh (fun j hj=>hl j (by simp[hj])) h1;exact⟨cJ,hk,o,ho,bh,hs,hr⟩
  split at h
  .rename_i hb;split at h
   .rename_i c y hw;obtain⟨hc,h⟩:=h;exact fin _ ⟨⟨hd,e8,.inl ⟨hb,c,y,hw,hc,rfl⟩⟩,fun e=>by rw[hb]at e;cases e⟩ h
   .exact h.elim
  .rename_i hb
   have hb:db.contains i=false:=by simpa using hb
   obtain⟨II,hk,h⟩:=h;split at h
   .rename_i c hc;obtain⟨y,g,ds,ht,hp,ij,h⟩:=h;refine fin _ ⟨⟨hd,e8,.inr ⟨hb,hk,.d y,σ.H,?_,rfl⟩⟩,fun _=>II⟩ h;unfold Ex;simp only[hc];exact⟨y,⟨g,_,ht,.inl ⟨ds,rfl,hp⟩⟩,rfl,trivial⟩
   .rename_i hc;unfold vA at h;split at h
    .rename_i hw;split at h
     .rename_i c x bh h1;obtain⟨cG,ij,h⟩:=h;have he:=Ae hk h1;obtain⟨e,H⟩:=σ;obtain⟨e1,H1⟩:=bh;dsimp only at he;subst he;refine fin _ ⟨⟨hd,e8,.inr ⟨hb,hk,x,H1,?_,rfl⟩⟩,fun _=>II⟩ h;unfold Ex;simp only[hc];rw[if_pos hw];exact⟨c,h1,cG⟩
     .exact h.elim
    .rename_i hw;split at h
     .rename_i c x h1;obtain⟨cG,ij,h⟩:=h;refine fin _ ⟨⟨hd,e8,.inr ⟨hb,hk,x,σ.H,?_,rfl⟩⟩,fun _=>II⟩ h;unfold Ex;simp only[hc];rw[if_neg hw];exact⟨c,h1,cG,trivial⟩
     .exact h.elim
theorem SH (hg:Good P T) (hm:P.follows .mixedOrders=true) (db:List Nat) (fp:List (Nat×Nat)) (ord:List Nat) {id:Nat} (cz:PW db fp ord ops=true) {Q:Exit->St->Prop} {σ:St} (h:ux P T Mv G N db fp (fun aJ=>Q .normal aJ) (cU ops ord) σ):AW P Mv X G N (.region id ops true) Q σ:=ye (Step:=v8 P T Mv G N db fp) (cp:=Aw db fp ops) hm (fun i o ho σ aJ h w μ a hi _ _ hk=>nD.ok hg h.1 hi ho hk) (fun i j oi oj _ _ hc σ bh iy h1 h2=>acE hc h1 h2) ord cz fun aG=>ad6 ord σ aG h
theorem Gb (hg:Good P T) (hm:P.follows .mixedOrders=true) (db:List Nat) (fp:List (Nat×Nat)) (ord:List Nat) (l ns:List Nat) (hM:∀ r,ns.contains r=false->Mv r) {id:Nat} (cz:PW db fp ord ops=true) {y:Code} {Q:Exit->St->Prop} {σ:St}
  (h:∀ K:St->Prop,(∀ τ:St,AW P Mv X G N y Q (τ.norm l ns)->K τ)->ux P T Mv G N db fp K (cU ops ord) σ):AW P Mv X G N (.seq (.region id ops true) y) Q σ:=
 sN (SH hg hm db fp ord cz (h _ fun _ h=>h.norm l ns hM))
theorem KD {K:St->Prop} {i:Nat} {l:List Nat} {o:Oper} (ho:ops[i]? = some o) (h:∀ K':St->Prop,(∀ τ,ux P T Mv G N db fp K (cU ops l) τ->K' τ)->FQ P T Mv G N db fp i o σ K'):ux P T Mv G N db fp K (cU ops (i :: l)) σ:=by
 have:cU ops (i :: l)=(i,o) :: cU ops l:=by simp[cU,ho]
 rw[this];exact h _ fun _ h=>h
theorem KE {K:St->Prop} (h:K σ):ux P T Mv G N db fp K (cU ops []) σ:=h
end
attribute [simp] FQ
