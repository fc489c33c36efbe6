/- Parts. -/
import Derived.Test.YtdigkhaofjmgkaaGreatDoorPs30
import Derived.Test.YtdigkhaofjmgkaaGreatDoorPs31
import Derived.Test.YtdigkhaofjmgkaaGreatDoorPs32
import Derived.Test.YtdigkhaofjmgkaaGreatDoorPs33
import Derived.Shelf.Strconv.Itoa4
import Derived.Shelf.Strconv.ParseIntPublic10
import Derived.Lib.ParseIntBTie
set_option linter.unusedSectionVars false
set_option linter.unusedSimpArgs false
set_option linter.unusedVariables false
set_option maxHeartbeats 16000000
set_option maxRecDepth 100000
open Go.Proofs.Tryz
namespace Go.Proofs.YtdigkhaofjmgkaaGreatDoor
open Go.Av Go.Shelf Go.RowKit
def nV (G:Yt):Prop:=G 7=some (.jQ (Lib.pow10Tab.map fun z=>Value.int .u64 z).toArray)
def sx (v:Value):Prop:=v = .nilIface\/∃ te pe,v = .iface te pe
def ph (G:Yt) (es er:Value):Prop:=(G 5=some (.ip [.v es])/\sx es)/\G 6=some (.ip [.v er])/\sx er
theorem EL {G:Yt} {g:Nat} {v:Value} {w:World} {X:Nat->Prop} (hm:G g=some (.ip [.v v])) (ck:∀ g x,G g=some x->RD w X (.pointer (some ⟨g,0,none⟩)) x):w.cell? ⟨g,0,none⟩=some v:=by
 obtain⟨b',off,f,hp,_,_,YX,hr⟩:=(ck _ _ hm).mb;have h0:=YX 0 (by simp);have h1:=(hr 0 _ rfl).scalar;rw[h1]at h0;injection hp with hp;injection hp with hp;injection hp with eC Zg _;subst eC Zg;exact h0
theorem Sr {G:Yt} (h:nV G) {w:World} {X:Nat->Prop} (ck:∀ g x,G g=some x->RD w X (.pointer (some ⟨g,0,none⟩)) x):Lib.TabIs prog w "internal/strconv.uint64pow10" .u64 Lib.pow10Tab:=by
 have h1:=ck _ _ h
 obtain⟨ty,fr,hh⟩:∃ ty fr,w.heap[7]? = some (.cells (Lib.pow10Tab.map fun z=>Value.int .u64 z).toArray ty fr):=by
  generalize hy:D.jQ _=y at h1;cases h1<;>cases hy;exact⟨_,_,by assumption⟩
 unfold Lib.TabIs World.var?;rw[show prog.globalNamed "internal/strconv.uint64pow10" = some 7 by kernel_rfl];simp only[Option.bind_some,hh]
theorem MT (w:World) (os:Array Obj):bQ w (Go.Sort.grow w os):=⟨by simp[Go.Sort.grow],rfl,rfl,rfl,fun b hb=>by simp[Go.Sort.grow,Array.getElem?_append_left hb]⟩
theorem bQ.trans' {w w1 w2:World} (h:bQ w w1) (h2:bQ w1 w2):bQ w w2:=⟨Nat.le_trans h.size h2.size,h2.os.trans h.os,h2.tape.trans h.tape,h2.output.trans h.output,fun b hb=>(h2.same b (Nat.lt_of_lt_of_le hb h.size)).trans (h.same b hb)⟩
theorem adl (G:Yt) (hP:nV G) (n:Int) (h0:-9223372036854775808<=n) (h1:n<=9223372036854775807):ao prog G 177 [.v (.int .i64 n)] (dS (Lib.itoa n)):=by
 refine ao.rD (fm.of func177 rfl rfl) fun X w vs aK bq ck=>?_
 obtain⟨u,rfl⟩:∃ u,vs = #[u]:=by
  match vs,aK with
  | ⟨[u]⟩,_=>exact⟨u,rfl⟩
 have hu:=(bq 0 u _ rfl rfl).scalar;subst hu;refine (Any.strconv_Itoa Tryz.Q0 n h0 h1 w (Sr hP ck)).mono fun e w' ⟨he,k,os,hw⟩=>⟨_,he,by rw[hw];exact bQ.trans' (y5 w k) (MT _ _),.v _⟩
def pt (f s:Tx) (ev:Value):D:=.bg 339 (.ip [dS f,dS s,.v ev])
def vp (f s:Tx) (es er:Value):D:=match Lib.atoiAll s with
 | .ok v=>.aR [.v (.int .i64 v),.v .nilIface]
 | .range=>.aR [.v (.int .i64 (Lib.atoiSat s)),pt f s er]
 | _=>.aR [.v (.int .i64 0),pt f s es]
theorem Cq {w:World} {X:Nat->Prop} (v:Int):RD w X (.tuple #[.int .i64 v,.nilIface]) (.aR [.v (.int .i64 v),.v .nilIface]):=.aR rfl fun j u c hu hc=>by
 match j,hu,hc with
 | 0,hu,hc=>simp at hu hc;subst hu hc;exact .v _
 | 1,hu,hc=>simp at hu hc;subst hu hc;exact .v _
 | j+2,hu,hc=>simp at hu
theorem Ig {w w':World} {X:Nat->Prop} (ZR:∀ b,X b->b < w.heap.size) {v:Int} {f s:Tx} {ev:Value} {N:Nat} {T:TypeId} (hN:w.heap.size<=N) (hc:w'.heap[N]? = some (.cells #[.string (bs f),.string (bs s),ev] T (0,0))) :
  RD w' X (.tuple #[.int .i64 v,.iface 339 (.pointer (some ⟨N,0,none⟩))]) (.aR [.v (.int .i64 v),pt f s ev]):=by
 have YX:∀ j,w'.cell? ⟨N,j,none⟩=(#[.string (bs f),.string (bs s),ev]:Array Value)[j]?:=fun j=>by simp[World.cell?,hc]
 refine .aR rfl fun j u c hu hx=>?_
 match j,hu,hx with
 | 0,hu,hx=>simp at hu hx;subst hu hx;exact .v _
 | 1,hu,hx=>
  simp at hu hx;subst hu hx;refine .bg (.ip (f:=fun j=>(w'.cell? ⟨N,j,none⟩).getD undef) (fun hx=>by have:=ZR _ hx;omega) (Array.getElem?_eq_some_iff.1 hc).1 (fun j hj=>?_) fun j c Zf=>?_)
  .have OX:j < 3:=by simpa using hj
   rw[Nat.zero_add,YX]
   match j,OX with
   | 0,_=>rfl
   | 1,_=>rfl
   | 2,_=>rfl
  .rw[YX]
   match j,Zf with
   | 0,Zf=>simp at Zf;subst Zf;exact .v _
   | 1,Zf=>simp at Zf;subst Zf;exact .v _
   | 2,Zf=>simp at Zf;subst Zf;exact .v _
   | j+3,Zf=>simp at Zf
 | j+2,hu,hx=>simp at hu
theorem adF (w:World) (e:TypeId) (s:ByteArray):bQ w (Lib.bytesWorld w e s):=sd (Lib.bytesWorld_below w e s)
def KX:Tx:=[65,116,111,105]
theorem DF (G:Yt) {es er:Value} (hE:ph G es er) (s:Tx) (hs:s.length < 2^40):ao prog G 176 [dS s] (vp KX s es er):=by
 obtain⟨⟨h1,M0⟩,h2,M3⟩:=hE;refine HB (fm.of func176 rfl rfl) fun X w vs ZR aK bq ck=>?_
 obtain⟨u,rfl⟩:∃ u,vs = #[u]:=by
  match vs,aK with
  | ⟨[u]⟩,_=>exact⟨u,rfl⟩
 have hu:=(bq 0 u _ rfl rfl).scalar;subst hu
 have PY:(bs s).size < 2^40:=by rw[bF];exact hs
 unfold vp
 cases hn:Lib.atoiAll s with
 | ok v=>
  refine (Any.strconv_Atoi_ok Tryz.BI (bs s) (by omega) v hn w).mono fun e w' ⟨he,hw⟩=>⟨_,he,?_,Cq v⟩
  rcases hw with rfl | ⟨t,rfl⟩
  .exact bQ.refl _
  .exact adF _ _ _
 | range=>
  refine (Any.strconv_Atoi_range Tryz.BI (bs s) (by omega) hn er w (EL h2 ck) M3).mono fun e w' ⟨N,he,hN,hc,hB⟩=>⟨_,he,sd hB,Ig ZR hN hc⟩
 | _=>
  refine (Any.strconv_Atoi_syntax Tryz.BI (bs s) (by omega) hn es w (EL h1 ck) M0).mono fun e w' ⟨N,he,hN,hc,hB⟩=>⟨_,he,sd hB,Ig ZR hN hc⟩
end Go.Proofs.YtdigkhaofjmgkaaGreatDoor
namespace Go.Proofs.YtdigkhaofjmgkaaGreatDoor
open Go.Av
def bN:lT->D
 | .form=>.aR [.v (.pointer none),.v (.pointer none),.bg 40 (.v (.int .i64 3))]
 | .bad c off=>.aR [.v (.pointer none),.v (.pointer none),.bg 213 (.ip [.v (.int .i64 c),.v (.int .i64 off)])]
 | .name n=>.aR [.ip (YE n),.v (.pointer none),.v .nilIface]
 | .jk r=>.aR [.v (.pointer none),.ip (bD r),.v .nilIface]
theorem Qk (l:List Tx) (s:Tx):idx (fun x=>s == x) l=ZW l s:=by
 unfold ZW;congr 1;funext x;by_cases h:s=x
 .subst h;simp
 .have h2:x≠s:=fun e=>h e.symm;rw[beq_eq_false_iff_ne.2 h,beq_eq_false_iff_ne.2 h2]
theorem adm (l:List Tx) (s:Tx):-1<=ZW l s/\ZW l s < l.length:=by
 by_cases h:ZW l s < 0
 .unfold ZW idx at h ⊢
  cases hf:l.findIdx? (fun x=>x == s) with
  | none=>simp;omega
  | some k=>rw[hf]at h;simp at h;omega
 .obtain⟨k,hk,he,_⟩:=oK h;have he2:ZW l s=(k:Int):=he;omega
theorem LR (c:Option Ex):iR c=dC c:=by cases c<;>rfl
theorem me:(⟨#[61]⟩:ByteArray)=bs [61]:=rfl
theorem pa:IntKind.i64.wrap 0=0:=by decide
theorem jS:IntKind.i64.wrap 1=1:=by decide
theorem Ri (G:Yt) (hM:nU G) (hP:nV G) (hG:mD G) {es er:Value} (hE:ph G es er) (s:Tx) (hs:s.length<=20000) (h0:eb s≠[]):ao prog G 122 [dS s] (bN (gz s)):=by
 have Z5:=Vo G hM s 61 (by omega);have wm:=fun (ws:List Tx) (x:Tx) (h:ws.length < 2^60)=>index_spec G none ws x h;simp only[Qk]at wm;by_cases qX:(61:UInt8)∈s
 .have hle:=yY 61 s
  have ZT:gz s=k6 (cutAt 61 s).1 (cutAt 61 s).2 (eb (cutAt 61 s).1):=by unfold gz;rw[if_pos qX]
  rw[ZT];simp only[qX,if_true,decide_true]at Z5;generalize (cutAt 61 s).1=hd at Z5 hle ⊢;generalize (cutAt 61 s).2=rest at Z5 hle ⊢;have Zn:=EB G hd (by omega);have hwl:=C8 hd;generalize ma:eb hd=ws at Zn hwl ⊢;have Y0:=xA G rest (by omega);rw[LR]at Y0;have gS:=Wb G hG (dO rest).2;have hR:∀ k nm,jM k nm hd rest=(match (dO rest).2 with | some (c,o)=>.bad c (hd.length+1+o.getD 0) | none=>.jk ⟨k,nm,(dO rest).1⟩):=fun _ _=>rfl;simp only[dS]at Z5 Zn Y0 ⊢
  match ws,Zn,hwl with
  | [],Zn,hwl=>
   show ao _ _ _ _ (bN .form);simp only[bN];refine ao.aI (au _) func122 rfl rfl (rs:=[.tmp 2,.tmp 3,.tmp 4]) results122 (by simp[ntmps122]) fun X=>?_;simp only[ntmps122,List.map];refine al [0] [] ?_;have qf:=@me;refine Zq Z5 [5,6,7] [] ?_;refine aW trivial Zn [5,6,7,8] [] ?_;refine ae fun K1 Yw=>?_;refine al [5,6,8,26] [] ?_;refine Yx rfl ?_;refine al [5,6,8,9] [28] ?_;refine ae fun K2 aa=>?_;refine al [5,6,8,9,31] [28] ?_;refine ag rfl ?_;refine ar ?_;refine aa _ (AW.norm [5,6,8,9] [28] (fun _ _=>trivial) (AW.st (by simp;rfl) ?_));refine ae fun K3 bf=>?_;refine al [5,6,8,9,54] [28] ?_;refine Yx rfl ?_;refine al [2,3,4] [28] ?_;exact da
  | [a],Zn,hwl=>
   show ao _ _ _ _ (bN (jM 1 a hd rest));rw[hR];have hsome:=fun h=>xz (t:=rest) h;have bT:=fun c o h=>Cj (t:=rest) (c:=c) (p:=o) h;generalize (dO rest).1=oe at Y0 hsome ⊢;generalize (dO rest).2=oc at Y0 gS hsome bT ⊢
   match oc,Y0,gS,hsome,bT with
   | some (c,some o),Y0,gS,_,bT=>
    have AZ:=bT c o rfl
    have hcast:((hd.length+1+o:Nat):Int)=(hd.length:Int)+1+o:=by omega
    simp only[aO]at Y0;simp only[bN,Option.getD_some];refine ao.aI (au _) func122 rfl rfl (rs:=[.tmp 2,.tmp 3,.tmp 4]) results122 (by simp[ntmps122]) fun X=>?_;simp only[ntmps122,List.map];refine al [0] [] ?_;have qf:=@me;refine Zq Z5 [5,6,7] [] ?_;refine aW trivial Zn [5,6,7,8] [] ?_;refine ae fun K1 Yw=>?_;refine al [5,6,8,26] [] ?_;refine Yx rfl ?_;refine al [5,6,8,9] [28] ?_;refine ae fun K2 aa=>?_;refine al [5,6,8,9,31] [28] ?_;refine ag rfl ?_;refine ar ?_;refine aa _ (AW.norm [5,6,8,9] [28] (fun _ _=>trivial) (AW.st (by simp;rfl) ?_));refine ae fun K3 bf=>?_;refine al [5,6,8,9,54] [28] ?_;refine ag rfl ?_;refine ar (bf _ ?_);refine al [5,6,9] [28] ?_;refine aW trivial Y0 [5,9,10,11] [28] ?_;refine ae fun K4 bZ=>?_;refine Ys (Aq @Yz.eq_1 (Aq @Yz.eq_2 @bH.eq_1)) [5,9,10,11,12,13] [28] ?_;refine al [5,9,10,11,12,75] [28] ?_;refine Yx rfl ?_;have qf:=@bF;refine aaR [2,3,4] [28,89] ?_;refine eB 89 ?_;exact aY @hcast
   | some (c,none),Y0,gS,_,_=>
    have hcast:((hd.length+1:Nat):Int)=(hd.length:Int)+1:=by omega
    simp only[aO,codeF]at Y0 gS;simp only[bN,Option.getD_none,Nat.add_zero];refine ao.aI (au _) func122 rfl rfl (rs:=[.tmp 2,.tmp 3,.tmp 4]) results122 (by simp[ntmps122]) fun X=>?_;simp only[ntmps122,List.map];refine al [0] [] ?_;have qf:=@me;refine Zq Z5 [5,6,7] [] ?_;refine aW trivial Zn [5,6,7,8] [] ?_;refine ae fun K1 Yw=>?_;refine al [5,6,8,26] [] ?_;refine Yx rfl ?_;refine al [5,6,8,9] [28] ?_;refine ae fun K2 aa=>?_;refine al [5,6,8,9,31] [28] ?_;refine ag rfl ?_;refine ar ?_;refine aa _ (AW.norm [5,6,8,9] [28] (fun _ _=>trivial) (AW.st (by simp;rfl) ?_));refine ae fun K3 bf=>?_;refine al [5,6,8,9,54] [28] ?_;refine ag rfl ?_;refine ar (bf _ ?_);refine al [5,6,9] [28] ?_;refine aW trivial Y0 [5,9,10,11] [28] ?_;refine ae fun K4 bZ=>?_;refine Ys (Aq @Yz.eq_1 (Aq @Yz.eq_2 @bH.eq_1)) [5,9,10,11,12,13] [28] ?_;refine al [5,9,10,11,12,75] [28] ?_;refine ag rfl ?_;refine ar (bZ _ ?_);refine ae fun K5 b4=>?_;refine al [5,9,10,11,92] [28] ?_;refine Yx rfl ?_;have qf:=@bF;refine Zq gS [2,3,4] [28,99] ?_;refine eB 99 ?_;exact aY @hcast
   | none,Y0,gS,hsome,_=>
    obtain⟨e,rfl⟩:=hsome rfl;obtain⟨ta,ca,kS⟩:=dY e;simp only[dC,kS,aO]at Y0;simp only[bN,bD,dC,kS,dS];refine ao.aI (au _) func122 rfl rfl (rs:=[.tmp 2,.tmp 3,.tmp 4]) results122 (by simp[ntmps122]) fun X=>?_;simp only[ntmps122,List.map];refine al [0] [] ?_;have qf:=@me;refine Zq Z5 [5,6,7] [] ?_;refine aW trivial Zn [5,6,7,8] [] ?_;refine ae fun K1 Yw=>?_;refine al [5,6,8,26] [] ?_;refine Yx rfl ?_;refine al [5,6,8,9] [28] ?_;refine ae fun K2 aa=>?_;refine al [5,6,8,9,31] [28] ?_;refine ag rfl ?_;refine ar ?_;refine aa _ (AW.norm [5,6,8,9] [28] (fun _ _=>trivial) (AW.st (by simp;rfl) ?_));refine ae fun K3 bf=>?_;refine al [5,6,8,9,54] [28] ?_;refine ag rfl ?_;refine ar (bf _ ?_);refine al [5,6,9] [28] ?_;refine aW trivial Y0 [5,9,10,11] [28] ?_;refine ae fun K4 bZ=>?_;refine Ys (Aq @Yz.eq_1 (Aq @Yz.eq_2 @bH.eq_1)) [5,9,10,11,12,13] [28] ?_;refine al [5,9,10,11,12,75] [28] ?_;refine ag rfl ?_;refine ar (bZ _ ?_);refine ae fun K5 b4=>?_;refine al [5,9,10,11,92] [28] ?_;refine ag rfl ?_;refine ar (b4 _ ?_);refine al [9] [28] ?_;refine al [2,3,4] [28] ?_;refine eB 28 ?_;exact da
  | [a,b],Zn,hwl=>
   have eQ:=wm oO a (by decide);simp only[dS]at eQ;show ao _ _ _ _ (bN (if ZW oO a < 2 then .form else jM (ZW oO a) b hd rest));have mW:=adm oO a;generalize ZW oO a=k at eQ mW ⊢;have FB:k < 7:=mW.2;by_cases hk:k < 2
   .rw[if_pos hk];simp only[bN];refine ao.aI (au _) func122 rfl rfl (rs:=[.tmp 2,.tmp 3,.tmp 4]) results122 (by simp[ntmps122]) fun X=>?_;simp only[ntmps122,List.map];refine al [0] [] ?_;have qf:=@me;refine Zq Z5 [5,6,7] [] ?_;refine aW trivial Zn [5,6,7,8] [] ?_;refine ae fun K1 Yw=>?_;refine al [5,6,8,26] [] ?_;refine Yx rfl ?_;refine al [5,6,8,9] [28] ?_;refine ae fun K2 aa=>?_;refine al [5,6,8,9,31] [28] ?_;refine Yx rfl ?_;refine ZD (au _) fun K' Yu=>?_;(repeat (refine aP fun K2 aa=>?_;simp;(repeat (refine⟨by omega,?_⟩));refine aa _ ?_;clear aa K2));refine aP fun K2 aa=>?_;simp;refine YR.kX (eQ) (by simp;rfl) (by first | exact D.YG _ | simp[aQ,List.map_map,Function.comp_def,D.le,D.le.go,D.le_refl,D.YG]) (by simp[D.scalar]) ?_;refine aa _ ?_;clear aa K2;simp only[aw,cJ];(repeat (refine aP fun K2 aa=>?_;simp;(repeat (refine⟨by omega,?_⟩));refine aa _ ?_;clear aa K2));refine YM (Yu _ ?_);clear Yu K';refine aa _ (AW.norm [5,6,8,9] [28,33] (fun _ _=>trivial) (AW.st (by simp;rfl) ?_));refine ae fun K3 bf=>?_;have qf:=@hk;refine aC [5,6,8,9,54] [28,33] ?_;refine Yx rfl ?_;refine al [2,3,4] [28,33] ?_;exact da
   rw[if_neg hk];rw[hR];have hsome:=fun h=>xz (t:=rest) h;have bT:=fun c o h=>Cj (t:=rest) (c:=c) (p:=o) h;generalize (dO rest).1=oe at Y0 hsome ⊢;generalize (dO rest).2=oc at Y0 gS hsome bT ⊢
   match oc,Y0,gS,hsome,bT with
   | some (c,some o),Y0,gS,_,bT=>
    have AZ:=bT c o rfl
    have hcast:((hd.length+1+o:Nat):Int)=(hd.length:Int)+1+o:=by omega
    simp only[aO]at Y0;simp only[bN,Option.getD_some];refine ao.aI (au _) func122 rfl rfl (rs:=[.tmp 2,.tmp 3,.tmp 4]) results122 (by simp[ntmps122]) fun X=>?_;simp only[ntmps122,List.map];refine al [0] [] ?_;have qf:=@me;refine Zq Z5 [5,6,7] [] ?_;refine aW trivial Zn [5,6,7,8] [] ?_;refine ae fun K1 Yw=>?_;refine al [5,6,8,26] [] ?_;refine Yx rfl ?_;refine al [5,6,8,9] [28] ?_;refine ae fun K2 aa=>?_;refine al [5,6,8,9,31] [28] ?_;refine Yx rfl ?_;refine ZD (au _) fun K' Yu=>?_;(repeat (refine aP fun K2 aa=>?_;simp;(repeat (refine⟨by omega,?_⟩));refine aa _ ?_;clear aa K2));refine aP fun K2 aa=>?_;simp;refine YR.kX (eQ) (by simp;rfl) (by first | exact D.YG _ | simp[aQ,List.map_map,Function.comp_def,D.le,D.le.go,D.le_refl,D.YG]) (by simp[D.scalar]) ?_;refine aa _ ?_;clear aa K2;simp only[aw,cJ];(repeat (refine aP fun K2 aa=>?_;simp;(repeat (refine⟨by omega,?_⟩));refine aa _ ?_;clear aa K2));refine YM (Yu _ ?_);clear Yu K';refine aa _ (AW.norm [5,6,8,9] [28,33] (fun _ _=>trivial) (AW.st (by simp;rfl) ?_));refine ae fun K3 bf=>?_;have qf:=@hk;refine aC [5,6,8,9,54] [28,33] ?_;refine ag rfl ?_;refine ar (bf _ ?_);refine al [5,6,9] [28,33] ?_;refine aW trivial Y0 [5,9,10,11] [28,33] ?_;refine ae fun K4 bZ=>?_;refine Ys (Aq @Yz.eq_1 (Aq @Yz.eq_2 @bH.eq_1)) [5,9,10,11,12,13] [28,33] ?_;refine al [5,9,10,11,12,75] [28,33] ?_;refine Yx rfl ?_;have qf:=@bF;refine aaR [2,3,4] [28,33,89] ?_;refine eB 89 ?_;exact aY @hcast
   | some (c,none),Y0,gS,_,_=>
    have hcast:((hd.length+1:Nat):Int)=(hd.length:Int)+1:=by omega
    simp only[aO,codeF]at Y0 gS;simp only[bN,Option.getD_none,Nat.add_zero];refine ao.aI (au _) func122 rfl rfl (rs:=[.tmp 2,.tmp 3,.tmp 4]) results122 (by simp[ntmps122]) fun X=>?_;simp only[ntmps122,List.map];refine al [0] [] ?_;have qf:=@me;refine Zq Z5 [5,6,7] [] ?_;refine aW trivial Zn [5,6,7,8] [] ?_;refine ae fun K1 Yw=>?_;refine al [5,6,8,26] [] ?_;refine Yx rfl ?_;refine al [5,6,8,9] [28] ?_;refine ae fun K2 aa=>?_;refine al [5,6,8,9,31] [28] ?_;refine Yx rfl ?_;refine ZD (au _) fun K' Yu=>?_;(repeat (refine aP fun K2 aa=>?_;simp;(repeat (refine⟨by omega,?_⟩));refine aa _ ?_;clear aa K2));refine aP fun K2 aa=>?_;simp;refine YR.kX (eQ) (by simp;rfl) (by first | exact D.YG _ | simp[aQ,List.map_map,Function.comp_def,D.le,D.le.go,D.le_refl,D.YG]) (by simp[D.scalar]) ?_;refine aa _ ?_;clear aa K2;simp only[aw,cJ];(repeat (refine aP fun K2 aa=>?_;simp;(repeat (refine⟨by omega,?_⟩));refine aa _ ?_;clear aa K2));refine YM (Yu _ ?_);clear Yu K';refine aa _ (AW.norm [5,6,8,9] [28,33] (fun _ _=>trivial) (AW.st (by simp;rfl) ?_));refine ae fun K3 bf=>?_;have qf:=@hk;refine aC [5,6,8,9,54] [28,33] ?_;refine ag rfl ?_;refine ar (bf _ ?_);refine al [5,6,9] [28,33] ?_;refine aW trivial Y0 [5,9,10,11] [28,33] ?_;refine ae fun K4 bZ=>?_;refine Ys (Aq @Yz.eq_1 (Aq @Yz.eq_2 @bH.eq_1)) [5,9,10,11,12,13] [28,33] ?_;refine al [5,9,10,11,12,75] [28,33] ?_;refine ag rfl ?_;refine ar (bZ _ ?_);refine ae fun K5 b4=>?_;refine al [5,9,10,11,92] [28,33] ?_;refine Yx rfl ?_;have qf:=@bF;refine Zq gS [2,3,4] [28,33,99] ?_;refine eB 99 ?_;exact aY @hcast
   | none,Y0,gS,hsome,_=>
    obtain⟨e,rfl⟩:=hsome rfl;obtain⟨ta,ca,kS⟩:=dY e;simp only[dC,kS,aO]at Y0;simp only[bN,bD,dC,kS,dS];refine ao.aI (au _) func122 rfl rfl (rs:=[.tmp 2,.tmp 3,.tmp 4]) results122 (by simp[ntmps122]) fun X=>?_;simp only[ntmps122,List.map];refine al [0] [] ?_;have qf:=@me;refine Zq Z5 [5,6,7] [] ?_;refine aW trivial Zn [5,6,7,8] [] ?_;refine ae fun K1 Yw=>?_;refine al [5,6,8,26] [] ?_;refine Yx rfl ?_;refine al [5,6,8,9] [28] ?_;refine ae fun K2 aa=>?_;refine al [5,6,8,9,31] [28] ?_;refine Yx rfl ?_;refine ZD (au _) fun K' Yu=>?_;(repeat (refine aP fun K2 aa=>?_;simp;(repeat (refine⟨by omega,?_⟩));refine aa _ ?_;clear aa K2));refine aP fun K2 aa=>?_;simp;refine YR.kX (eQ) (by simp;rfl) (by first | exact D.YG _ | simp[aQ,List.map_map,Function.comp_def,D.le,D.le.go,D.le_refl,D.YG]) (by simp[D.scalar]) ?_;refine aa _ ?_;clear aa K2;simp only[aw,cJ];(repeat (refine aP fun K2 aa=>?_;simp;(repeat (refine⟨by omega,?_⟩));refine aa _ ?_;clear aa K2));refine YM (Yu _ ?_);clear Yu K';refine aa _ (AW.norm [5,6,8,9] [28,33] (fun _ _=>trivial) (AW.st (by simp;rfl) ?_));refine ae fun K3 bf=>?_;have qf:=@hk;refine aC [5,6,8,9,54] [28,33] ?_;refine ag rfl ?_;refine ar (bf _ ?_);refine al [5,6,9] [28,33] ?_;refine aW trivial Y0 [5,9,10,11] [28,33] ?_;refine ae fun K4 bZ=>?_;refine Ys (Aq @Yz.eq_1 (Aq @Yz.eq_2 @bH.eq_1)) [5,9,10,11,12,13] [28,33] ?_;refine al [5,9,10,11,12,75] [28,33] ?_;refine ag rfl ?_;refine ar (bZ _ ?_);refine ae fun K5 b4=>?_;refine al [5,9,10,11,92] [28,33] ?_;refine ag rfl ?_;refine ar (b4 _ ?_);refine al [9] [28,33] ?_;refine al [2,3,4] [28,33] ?_;refine eB 28 ?_;exact da
  | a :: b :: c :: l,Zn,hwl=>
   have n1:¬ ((a :: b :: c :: l).length:Int)=2:=by simp only[List.length_cons];omega
   have n2:¬ ((a :: b :: c :: l).length:Int)=1:=by simp only[List.length_cons];omega
   show ao _ _ _ _ (bN .form);simp only[bN];generalize a :: b :: c :: l=ws at Zn hwl n1 n2;refine ao.aI (au _) func122 rfl rfl (rs:=[.tmp 2,.tmp 3,.tmp 4]) results122 (by simp[ntmps122]) fun X=>?_;simp only[ntmps122,List.map];refine al [0] [] ?_;have qf:=@me;refine Zq Z5 [5,6,7] [] ?_;refine aW trivial Zn [5,6,7,8] [] ?_;refine ae fun K1 Yw=>?_;refine al [5,6,8,26] [] ?_;refine Yx rfl ?_;refine al [5,6,8,9] [28] ?_;refine ae fun K2 aa=>?_;have qf:=(Aq @n1 @n2);refine aC [5,6,8,9,31] [28] ?_;refine ag rfl ?_;refine ar ?_;refine aa _ (AW.norm [5,6,8,9] [28] (fun _ _=>trivial) (AW.st (by simp;rfl) ?_));refine ae fun K3 bf=>?_;have qf:=(Aq @n1 @n2);refine aC [5,6,8,9,54] [28] ?_;refine Yx rfl ?_;refine al [2,3,4] [28] ?_;exact da
 .have ZT:gz s=ig (eb s):=by unfold gz;rw[if_neg qX]
  rw[ZT];simp only[qX,if_false,decide_false]at Z5;have Zn:=EB G s (by omega);have hwl:=C8 s;have tG:=fun x=>C9 (t:=s) (w:=x);generalize ma:eb s=ws at Zn hwl tG h0 ⊢;obtain⟨a,l,rfl⟩:∃ a l,ws=a :: l:=List.exists_cons_of_ne_nil h0;show ao _ _ _ _ (bN (eF (ZW oN a) l));have eQ:=wm oN a (by decide);have mW:=adm oN a;have FB:ZW oN a < 5:=mW.2;generalize ZW oN a=k at eQ FB ⊢
  have ou:((a :: l).length:Int)=(l.length:Int)+1:=by simp
  simp only[dS]at Z5 Zn eQ ⊢;refine ao.aI (au _) func122 rfl rfl (rs:=[.tmp 2,.tmp 3,.tmp 4]) results122 (by simp[ntmps122]) fun X=>?_;simp only[ntmps122,List.map];refine al [0] [] ?_;have qf:=@me;refine Zq Z5 [5,6,7] [] ?_;refine aW trivial Zn [5,6,7,8] [] ?_;refine ae fun K1 Yw=>?_;refine al [5,6,8,26] [] ?_;refine ag rfl ?_;refine ar (Yw _ ?_);refine rg [8,14] [106] (fun _ _=>trivial) fun K' Yu=>?_;(repeat (refine aP fun K2 aa=>?_;simp;(repeat (refine⟨by omega,?_⟩));refine aa _ ?_;clear aa K2));refine aP fun K2 aa=>?_;simp;refine YR.kX (eQ) (by simp;rfl) (by first | exact D.YG _ | simp[aQ,List.map_map,Function.comp_def,D.le,D.le.go,D.le_refl,D.YG]) (by simp[D.scalar]) ?_;refine aa _ ?_;clear aa K2;simp only[aw,cJ];(repeat (refine aP fun K2 aa=>?_;simp;(repeat (refine⟨by omega,?_⟩));refine aa _ ?_;clear aa K2));refine YM (Yu _ (AW.st (by simp;rfl) ?_));clear Yu K';refine ae fun K6 dB=>?_;by_cases hk:k < 1
  .have hF:eF k l = .form:=by
    match l with
    | []=>rfl
    | [b]=>rw[eF,if_neg (by omega)]
    | [b,c]=>rw[eF,if_neg (by omega)]
    | b :: c :: d :: l=>rfl
   rw[hF];simp only[bN];have qf:=@hk;refine aC [8,14,120] [106] ?_;refine Yx rfl ?_;refine al [2,3,4] [106] ?_;exact da
  have O0:k=1\/k=2\/k=3\/k=4:=by omega
  rcases O0 with rfl | rfl | rfl | rfl
  .by_cases hl:l.length=1
   .obtain⟨b,rfl⟩:∃ b,l=[b]:=List.length_eq_one_iff.1 hl;have hF:eF 1 [b] = .name ⟨b,1,0⟩:=rfl;have qf:=(Aq @pa @jS);refine aC [8,14,120] [106] ?_;refine ag rfl ?_;refine ar (dB _ ?_);refine al [8,14,15] [106,127] ?_;refine ae fun K7 Zl=>?_;refine al [8,15,129] [106,127] ?_;refine ag rfl ?_;refine ar ?_;refine Zl _ (AW.norm [15] [106,127] (fun _ _=>trivial) (AW.st (by simp;rfl) ?_));refine al [2,3,4] [106,127] ?_;refine eB 127 ?_;exact aY (Aq @hF (Aq @bN.eq_1 (Aq @bN.eq_2 (Aq @bN.eq_3 (Aq @bN.eq_4 (Aq @YE.eq_1 @dS.eq_1))))))
   .have hF:eF 1 l = .form:=by
     match l,hl with
     | [],_=>rfl
     | [b],hl=>simp at hl
     | [b,c],_=>rw[eF,if_neg (by omega)]
     | b :: c :: d :: l,_=>rfl
    rw[hF];simp only[bN]
    have hn:¬ (l.length:Int)=1:=by omega
    have gQ:¬ (l.length:Int)+1=2:=by omega
    have qf:=(Aq @hn (Aq @gQ (Aq @ou (Aq @pa @jS))));refine aC [8,14,120] [106] ?_;refine Yx rfl ?_;refine al [2,3,4] [106] ?_;exact da
  .by_cases hl:l.length=1
   .obtain⟨b,rfl⟩:∃ b,l=[b]:=List.length_eq_one_iff.1 hl;have hF:eF 2 [b] = .name ⟨b,2,0⟩:=rfl;have qf:=(Aq @pa @jS);refine aC [8,14,120] [106] ?_;refine ag rfl ?_;refine ar (dB _ ?_);refine al [8,14,15] [106,127] ?_;refine ae fun K7 Zl=>?_;refine al [8,15,129] [106,127] ?_;refine ag rfl ?_;refine ar ?_;refine Zl _ (AW.norm [15] [106,127] (fun _ _=>trivial) (AW.st (by simp;rfl) ?_));refine al [2,3,4] [106,127] ?_;refine eB 127 ?_;exact aY (Aq @hF (Aq @bN.eq_1 (Aq @bN.eq_2 (Aq @bN.eq_3 (Aq @bN.eq_4 (Aq @YE.eq_1 @dS.eq_1))))))
   .have hF:eF 2 l = .form:=by
     match l,hl with
     | [],_=>rfl
     | [b],hl=>simp at hl
     | [b,c],_=>rw[eF,if_neg (by omega)]
     | b :: c :: d :: l,_=>rfl
    rw[hF];simp only[bN]
    have hn:¬ (l.length:Int)=1:=by omega
    have gQ:¬ (l.length:Int)+1=2:=by omega
    have qf:=(Aq @hn (Aq @gQ (Aq @ou (Aq @pa @jS))));refine aC [8,14,120] [106] ?_;refine Yx rfl ?_;refine al [2,3,4] [106] ?_;exact da
  .by_cases hl:l.length=2
   .obtain⟨b,c,rfl⟩:∃ b c,l=[b,c]:=by
     match l,hl with
     | [b,c],_=>exact⟨b,c,rfl⟩
    have bO:c.length < 2^40:=by have:=(tG c (by simp)).2;omega
    have bT:=DF G hE c bO;have bB:eF 3 [b,c]=(match rC c with | some v=>.name ⟨b,3,v⟩ | none=>.form):=rfl;unfold rC at bB
    unfold vp at bT
    simp only[dS]at bT
    have qf:=(Aq @pa @jS);refine aC [8,14,120] [106] ?_;refine ag rfl ?_;refine ar (dB _ ?_);refine al [8,14,15] [106,127] ?_;refine ae fun K7 Zl=>?_;refine al [8,15,129] [106,127] ?_;refine Yx rfl ?_
    cases hn:Lib.atoiAll c with
    | ok v=>
     rw[hn]at bT bB;dsimp only at bT bB;obtain⟨v0,v1⟩:=Lib.atoiAll_bounds hn;have hit:=adl G hP v v0 v1;simp only[dS]at hit;generalize Lib.itoa v=iv at hit bB;refine aW trivial bT [8,15,16,17] [106,127] ?_;refine ae fun K8 cU=>?_;by_cases hc:iv=c
     .rw[if_pos hc]at bB;subst hc;refine aa3 (au _) (by kernel_rfl) [15,16,146] [106,127] (fun _ _=>trivial) (by kernel_rfl) fun K' Yu=>?_;(repeat (refine e9 fun K2 aa=>?_;simp[bI,YJ];(repeat (refine⟨by omega,?_⟩));refine aa _ ?_;clear aa K2));refine e9 fun K2 aa=>?_;simp[bI,YJ];refine aak.data (hit) (by simp;rfl) (by simp;rfl) (by first | exact D.YG _ | simp[aQ,List.map_map,Function.comp_def,D.le,D.le.go,D.le_refl,D.YG,bI,YJ]) ?_;refine aa _ ?_;clear aa K2;simp only[aw,cJ];(repeat (refine e9 fun K2 aa=>?_;simp[bI,YJ];(repeat (refine⟨by omega,?_⟩));refine aa _ ?_;clear aa K2));refine nK (Yu _ ?_);refine AW.st (by simp[bI,YJ];rfl) ?_;clear Yu K';refine ag rfl ?_;refine ar (cU _ ?_);refine gB trivial Zl [15] [106,127] ?_;refine al [2,3,4] [106,127] ?_;refine eB 127 ?_;exact aY (Aq @bB (Aq @bN.eq_1 (Aq @bN.eq_2 (Aq @bN.eq_3 (Aq @bN.eq_4 (Aq @YE.eq_1 @dS.eq_1))))))
     .rw[if_neg hc]at bB;refine aa3 (au _) (by kernel_rfl) [15,16,146] [106,127] (fun _ _=>trivial) (by kernel_rfl) fun K' Yu=>?_;(repeat (refine e9 fun K2 aa=>?_;simp[bI,YJ,hc];(repeat (refine⟨by omega,?_⟩));refine aa _ ?_;clear aa K2));refine e9 fun K2 aa=>?_;simp[bI,YJ,hc];refine aak.data (hit) (by simp;rfl) (by simp;rfl) (by first | exact D.YG _ | simp[aQ,List.map_map,Function.comp_def,D.le,D.le.go,D.le_refl,D.YG,bI,YJ,hc]) ?_;refine aa _ ?_;clear aa K2;simp only[aw,cJ];(repeat (refine e9 fun K2 aa=>?_;simp[bI,YJ,hc];(repeat (refine⟨by omega,?_⟩));refine aa _ ?_;clear aa K2));refine nK (Yu _ ?_);refine AW.st (by simp[bI,YJ,hc];rfl) ?_;clear Yu K';refine Yx (by simp[hc]) ?_;refine al [2,3,4] [106,127] ?_;exact aY (Aq @bB (Aq @bN.eq_1 (Aq @bN.eq_2 (Aq @bN.eq_3 @bN.eq_4))))
    | range=>
     rw[hn]at bT bB;dsimp only[pt]at bT bB;refine aW trivial bT [8,15,16,17] [106,127] ?_;refine ae fun K8 cU=>?_;refine rO trivial [15,16,146] [106,127] ?_;refine Yx rfl ?_;refine al [2,3,4] [106,127] ?_;exact aY (Aq @bB (Aq @bN.eq_1 (Aq @bN.eq_2 (Aq @bN.eq_3 @bN.eq_4))))
    | _=>
     rw[hn]at bT bB;dsimp only[pt]at bT bB;refine aW trivial bT [8,15,16,17] [106,127] ?_;refine ae fun K8 cU=>?_;refine rO trivial [15,16,146] [106,127] ?_;refine Yx rfl ?_;refine al [2,3,4] [106,127] ?_;exact aY (Aq @bB (Aq @bN.eq_1 (Aq @bN.eq_2 (Aq @bN.eq_3 @bN.eq_4))))
   .have hF:eF 3 l = .form:=by
     match l,hl with
     | [],_=>rfl
     | [b],_=>rw[eF,if_neg (by omega)]
     | [b,c],hl=>simp at hl
     | b :: c :: d :: l,_=>rfl
    rw[hF];simp only[bN]
    have hn:¬ (l.length:Int)=2:=by omega
    have gQ:¬ (l.length:Int)+1=3:=by omega
    have qf:=(Aq @hn (Aq @gQ (Aq @ou (Aq @pa @jS))));refine aC [8,14,120] [106] ?_;refine Yx rfl ?_;refine al [2,3,4] [106] ?_;exact da
  .by_cases hl:l.length=2
   .obtain⟨b,c,rfl⟩:∃ b c,l=[b,c]:=by
     match l,hl with
     | [b,c],_=>exact⟨b,c,rfl⟩
    have bO:c.length < 2^40:=by have:=(tG c (by simp)).2;omega
    have bT:=DF G hE c bO;have bB:eF 4 [b,c]=(match rC c with | some v=>.name ⟨b,4,v⟩ | none=>.form):=rfl;unfold rC at bB
    unfold vp at bT
    simp only[dS]at bT
    have qf:=(Aq @pa @jS);refine aC [8,14,120] [106] ?_;refine ag rfl ?_;refine ar (dB _ ?_);refine al [8,14,15] [106,127] ?_;refine ae fun K7 Zl=>?_;refine al [8,15,129] [106,127] ?_;refine Yx rfl ?_
    cases hn:Lib.atoiAll c with
    | ok v=>
     rw[hn]at bT bB;dsimp only at bT bB;obtain⟨v0,v1⟩:=Lib.atoiAll_bounds hn;have hit:=adl G hP v v0 v1;simp only[dS]at hit;generalize Lib.itoa v=iv at hit bB;refine aW trivial bT [8,15,16,17] [106,127] ?_;refine ae fun K8 cU=>?_;by_cases hc:iv=c
     .rw[if_pos hc]at bB;subst hc;refine aa3 (au _) (by kernel_rfl) [15,16,146] [106,127] (fun _ _=>trivial) (by kernel_rfl) fun K' Yu=>?_;(repeat (refine e9 fun K2 aa=>?_;simp[bI,YJ];(repeat (refine⟨by omega,?_⟩));refine aa _ ?_;clear aa K2));refine e9 fun K2 aa=>?_;simp[bI,YJ];refine aak.data (hit) (by simp;rfl) (by simp;rfl) (by first | exact D.YG _ | simp[aQ,List.map_map,Function.comp_def,D.le,D.le.go,D.le_refl,D.YG,bI,YJ]) ?_;refine aa _ ?_;clear aa K2;simp only[aw,cJ];(repeat (refine e9 fun K2 aa=>?_;simp[bI,YJ];(repeat (refine⟨by omega,?_⟩));refine aa _ ?_;clear aa K2));refine nK (Yu _ ?_);refine AW.st (by simp[bI,YJ];rfl) ?_;clear Yu K';refine ag rfl ?_;refine ar (cU _ ?_);refine gB trivial Zl [15] [106,127] ?_;refine al [2,3,4] [106,127] ?_;refine eB 127 ?_;exact aY (Aq @bB (Aq @bN.eq_1 (Aq @bN.eq_2 (Aq @bN.eq_3 (Aq @bN.eq_4 (Aq @YE.eq_1 @dS.eq_1))))))
     .rw[if_neg hc]at bB;refine aa3 (au _) (by kernel_rfl) [15,16,146] [106,127] (fun _ _=>trivial) (by kernel_rfl) fun K' Yu=>?_;(repeat (refine e9 fun K2 aa=>?_;simp[bI,YJ,hc];(repeat (refine⟨by omega,?_⟩));refine aa _ ?_;clear aa K2));refine e9 fun K2 aa=>?_;simp[bI,YJ,hc];refine aak.data (hit) (by simp;rfl) (by simp;rfl) (by first | exact D.YG _ | simp[aQ,List.map_map,Function.comp_def,D.le,D.le.go,D.le_refl,D.YG,bI,YJ,hc]) ?_;refine aa _ ?_;clear aa K2;simp only[aw,cJ];(repeat (refine e9 fun K2 aa=>?_;simp[bI,YJ,hc];(repeat (refine⟨by omega,?_⟩));refine aa _ ?_;clear aa K2));refine nK (Yu _ ?_);refine AW.st (by simp[bI,YJ,hc];rfl) ?_;clear Yu K';refine Yx (by simp[hc]) ?_;refine al [2,3,4] [106,127] ?_;exact aY (Aq @bB (Aq @bN.eq_1 (Aq @bN.eq_2 (Aq @bN.eq_3 @bN.eq_4))))
    | range=>
     rw[hn]at bT bB;dsimp only[pt]at bT bB;refine aW trivial bT [8,15,16,17] [106,127] ?_;refine ae fun K8 cU=>?_;refine rO trivial [15,16,146] [106,127] ?_;refine Yx rfl ?_;refine al [2,3,4] [106,127] ?_;exact aY (Aq @bB (Aq @bN.eq_1 (Aq @bN.eq_2 (Aq @bN.eq_3 @bN.eq_4))))
    | _=>
     rw[hn]at bT bB;dsimp only[pt]at bT bB;refine aW trivial bT [8,15,16,17] [106,127] ?_;refine ae fun K8 cU=>?_;refine rO trivial [15,16,146] [106,127] ?_;refine Yx rfl ?_;refine al [2,3,4] [106,127] ?_;exact aY (Aq @bB (Aq @bN.eq_1 (Aq @bN.eq_2 (Aq @bN.eq_3 @bN.eq_4))))
   .have hF:eF 4 l = .form:=by
     match l,hl with
     | [],_=>rfl
     | [b],_=>rw[eF,if_neg (by omega)]
     | [b,c],hl=>simp at hl
     | b :: c :: d :: l,_=>rfl
    rw[hF];simp only[bN]
    have hn:¬ (l.length:Int)=2:=by omega
    have gQ:¬ (l.length:Int)+1=3:=by omega
    have qf:=(Aq @hn (Aq @gQ (Aq @ou (Aq @pa @jS))));refine aC [8,14,120] [106] ?_;refine Yx rfl ?_;refine al [2,3,4] [106] ?_;exact da
end Go.Proofs.YtdigkhaofjmgkaaGreatDoor
namespace Go.Av
section
variable {P:Program} {T:Ty} {Mv X:Nat->Prop} {G:Yt} {N:Fr} {w w':World} {μ:Mu} {a:Act} {σ:St} {ops:Array Oper} {db:List Nat} {fp:List (Nat×Nat)}
def qF (P:Program) (T:Ty) (Mv:Nat->Prop) (G:Yt) (N:Fr) (db:List Nat) (fp:List (Nat×Nat)) (i:Nat) (o:Oper) (σ af:St):Prop:=
 jV P T Mv G N db i o σ af/\(db.contains i=false->ld G fp σ.env i o.op)
theorem jV.env {i:Nat} {o:Oper} {σ af:St} (h:jV P T Mv G N db i o σ af):∃ v,af.env=aw σ.env o.dst v:=by
 rcases h.2.2 with⟨_,c,y,_,_,rfl⟩ | ⟨_,_,x,H',_,rfl⟩
 .exact⟨_,rfl⟩
 .exact⟨_,rfl⟩
def abL (db:List Nat) (fp:List (Nat×Nat)) (ops:Array Oper) (i j:Nat) (oi oj:Oper):Bool:=pq db ops i j oi oj || (!db.contains i && !db.contains j && oi.apart ops oj && ru oi.op && ru oj.op && match fp.lookup i,fp.lookup j with
 | some r,some r'=>!(r == r')
 | _,_=>false)
theorem Ul {i j:Nat} {oi oj:Oper} (hc:abL db fp ops i j oi oj=true) {σ ay Y6:St} (h1:qF P T Mv G N db fp i oi σ ay) (h2:qF P T Mv G N db fp j oj ay Y6) :
  ∃ dy,qF P T Mv G N db fp j oj σ dy/\qF P T Mv G N db fp i oi dy Y6:=by
 obtain⟨s1,t1⟩:=h1;obtain⟨s2,t2⟩:=h2
 have YU:oi.apart ops oj=true:=by
  simp only[abL,pq,Bool.or_eq_true,Bool.and_eq_true]at hc
  rcases hc with hc | hc
  .exact hc.1
  .exact hc.1.1.1.2
 have cC:∀ v,dz oj.op (aw σ.env oi.dst v) σ.env:=fun v t ht=>(eG YU (e:=σ.env) (v:=v)).1 t (fB ht);have cN:∀ v,dz oi.op σ.env (aw σ.env oj.dst v):=fun v t ht=>((eG YU (e:=σ.env) (v:=v)).2.1 t (fB ht)).symm;have aG:=(eG YU (e:=σ.env) (v:=bX)).2.2;obtain⟨v1,ev1⟩:=s1.env
 have main:∃ dy,jV P T Mv G N db j oj σ dy/\jV P T Mv G N db i oi dy Y6:=by
  simp only[abL,Bool.or_eq_true]at hc
  rcases hc with hc | hc
  .exact EJ hc s1 s2
  .simp only[Bool.and_eq_true,Bool.not_eq_true']at hc;obtain⟨⟨⟨⟨⟨bi,bj⟩,_⟩,li⟩,lj⟩,pR⟩:=hc;have Jo:=t1 bi;have CT:=t2 bj
   cases Zs:fp.lookup i with
   | none=>simp[Zs]at pR
   | some r=>
    cases pQ:fp.lookup j with
    | none=>simp[Zs,pQ]at pR
    | some r'=>
     have hr:r≠r':=by simpa[Zs,pQ]using pR
     obtain⟨di,gi,s1⟩:=s1;obtain⟨dj,gj,s2⟩:=s2
     rcases s1 with⟨b,_⟩ | ⟨_,k1,x,H',e1,rfl⟩
     .rw[bi]at b;cases b
     rcases s2 with⟨b,_⟩ | ⟨_,k2,z,H2,e2,rfl⟩
     .rw[bj]at b;cases b
     dsimp only at e2 CT ev1;simp only[ld,Zs]at Jo;simp only[ld,pQ]at CT;obtain⟨u,rfl,BL⟩:=e1.uL Jo;have e2:=e2.congr k2 (cC _);obtain⟨u',rfl,BM⟩:=e2.uL (Cf (cC _) CT);refine⟨⟨aw σ.env oj.dst z,gd σ.H r' u'⟩,⟨dj,gj,.inr ⟨bj,k2,z,gd σ.H r' u',BM σ.H (xE (H:=σ.H) (u:=u) (Ne.symm hr)).symm,rfl⟩⟩,di,gi,.inr ⟨bi,k1,x,gd (gd σ.H r' u') r u,(BL (gd σ.H r' u') (xE hr)).congr k1 (cN _),?_⟩⟩;rw[H7 hr,Zk aG]
 obtain⟨dy,f1,f2⟩:=main;obtain⟨v3,sy⟩:=f1.env;refine⟨dy,⟨f1,fun hb=>?_⟩,f2,fun hb=>?_⟩
 .have h:=t2 hb;rw[ev1]at h;exact xX (cC _) h
 .rw[sy];exact xX (cN _) (t1 hb)
def rT (P:Program) (T:Ty) (Mv:Nat->Prop) (G:Yt) (N:Fr) (db:List Nat) (fp:List (Nat×Nat)) (ops:Array Oper):List Nat->St->St->Prop
 | [],σ,af=>σ=af
 | i :: l,σ,af=>∃ o,ops[i]? = some o/\∃ ay,qF P T Mv G N db fp i o σ ay/\rT P T Mv G N db fp ops l ay af
theorem U7 {p:Nat} {op:Oper} (hp:ops[p]? = some op):∀ (l1:List Nat) {l2:List Nat} {σ af:St},(∀ q∈l1,∀ oq,ops[q]? = some oq->abL db fp ops q p oq op=true)->rT P T Mv G N db fp ops (l1 ++ p :: l2) σ af->rT P T Mv G N db fp ops (p :: (l1 ++ l2)) σ af:=by
 intro l1
 induction l1 with
 | nil=>intro l2 σ af _ h;exact h
 | cons q l1 ih=>
  intro l2 σ af bu h;obtain⟨oq,hq,ay,s1,rest⟩:=h;obtain⟨o',Y9,Y6,s2,nC⟩:=ih (fun q' fP=>bu q' (by simp[fP])) rest;rw[hp]at Y9;obtain rfl:=Option.some.inj Y9;obtain⟨dy,f1,f2⟩:=Ul (bu q (by simp) oq hq) s1 s2;exact⟨op,hp,dy,f1,oq,hq,Y6,f2,nC⟩
def uh (db:List Nat) (fp:List (Nat×Nat)) (ord:List Nat) (ops:Array Oper):Bool:=
 let t:=tb ops
 ord.length == ops.size && (ord.all fun i=>decide (i < ops.size)) && ((List.range ops.size).all fun i=>ord.contains i) && decide ord.Nodup &&
 ((List.range ops.size).all fun j=>match ops[j]? with
  | some oj=>oj.after.all fun e=>!Region.binds .any e || e.on < j
  | none=>true) &&
 go t ord
where
 go (t:List Nat):List Nat->Bool
 | []=>true
 | a :: l=>(l.all fun b=>match ops[a]?,ops[b]? with
  | some oa,some ob=>(oa.after.all fun e=>!Region.binds .any e || !(e.on == b)) && ((t.getD b 0).testBit a || abL db fp ops a b oa ob)
  | _,_=>true) && go t l
def acQ (db:List Nat) (fp:List (Nat×Nat)) (ops:Array Oper) (a b:Nat):Prop:=∀ oa ob,ops[a]? = some oa->ops[b]? = some ob->
 (∀ e∈oa.after,Region.binds .any e=true->e.on≠b)/\(((tb ops).getD b 0).testBit a=true\/abL db fp ops a b oa ob=true)
theorem HP:∀ {l:List Nat},uh.go db fp ops (tb ops) l=true->l.Pairwise (acQ db fp ops)
 | [],_=>.nil
 | a :: l,h=>by
  simp only[uh.go,Bool.and_eq_true]at h;refine .cons (fun b hb oa ob np nq=>?_) (HP h.2);have:=List.all_eq_true.1 h.1 b hb;simp only[np,nq,Bool.and_eq_true,Bool.or_eq_true]at this;refine⟨fun e he mX heq=>?_,this.2⟩;have h1:=Array.all_eq_true_iff_forall_mem.1 this.1 e he;simp[mX,heq]at h1
theorem Kv (hg:Good P T) (Yv:∀ j oj,ops[j]? = some oj->∀ e∈oj.after,Region.binds .any e=true->e.on < j) {Q:Exit->St->Prop} {w0:World} {eX:Mu} {aX:St} (hQ:Q .normal aX):∀ (n:Nat) (R:List Nat) (listed:Array Bool) (w:World) (μ:Mu) (a:Act) (σ:St),R.length=n->R.Nodup->
  (∀ j,j∈R↔j < ops.size/\listed.getD j true=false)->listed.size=ops.size->R.Pairwise (acQ db fp ops)->
  (∀ j oj,ops[j]? = some oj->listed.getD j false=true->∀ e∈oj.after,Region.binds .any e=true->listed.getD e.on false=true)->rT P T Mv G N db fp ops R σ aX->In w X G μ N a σ->Ev Mv w0 eX w μ->
  wpAnyIn (wd N.ro) 0 P .any ops (After Mv X G N w0 eX Q) n listed a w:=by
 intro n
 induction n with
 | zero=>
  intro R listed w μ a σ hl _ hR aK _ _ bt hi aB;have:R=[]:=List.eq_nil_of_length_eq_zero hl;subst this
  have hr:Region.ready .any ops listed=[]:=by
   apply List.eq_nil_iff_forall_not_mem.2;intro j hj;obtain⟨h1,o,ho,_⟩:=mem_ready.1 hj;exact absurd ((hR j).2 ⟨(Array.getElem?_eq_some_iff.1 ho).1,h1⟩) (by simp)
  have:σ=aX:=bt;subst this;exact⟨hr,μ,σ,hQ,hi,aB⟩
 | succ n ih=>
  intro R listed w μ a σ hl fj hR aK eL gr bt hi aB;refine⟨fun hr=>?_,fun i lD=>?_⟩
  .cases R with
   | nil=>simp at hl
   | cons j R=>
    obtain⟨gu,fY⟩:=(hR j).1 (by simp)
    have ba:ops[j]? = some ops[j]:=by simp[gu]
    have hjr:j∈Region.ready .any ops listed:=by
     refine mem_ready.2 ⟨fY,ops[j],ba,fun e he hb=>?_⟩;have abx:=Yv j ops[j] ba e he hb
     have bU:e.on < ops.size:=by omega
     have aG:e.on ∉ (j :: R):=by
      intro hm
      rcases List.mem_cons.1 hm with h | h
      .omega
      .exact ((List.pairwise_cons.1 eL).1 _ h ops[j] ops[e.on] ba (by simp[bU])).1 e he hb rfl
     have:=mt (hR e.on).2 aG
     have ZF:e.on < listed.size:=by omega
     simp only[bU,true_and,Array.getD_eq_getD_getElem?]at this ⊢;simp[ZF]at this ⊢;exact this
    rw[hr]at hjr;cases hjr
  .obtain⟨cE,oi,YI,bu⟩:=mem_ready.1 lD;have lB:i∈R:=(hR i).2 ⟨(Array.getElem?_eq_some_iff.1 YI).1,cE⟩;obtain⟨R1,R2,rfl⟩:=List.append_of_mem lB
   have lz:=U7 (P:=P) (T:=T) (Mv:=Mv) (G:=G) (N:=N) (db:=db) (fp:=fp) YI R1 (fun q hq oq hoq=>by
    have nt:acQ db fp ops q i:=(List.pairwise_append.1 eL).2.2 q hq i (by simp)
    rcases (nt oq oi hoq YI).2 with h | h
    .exfalso;have hlq:=sc Yv gr i i oi (Nat.le_refl _) YI bu q h;have e7:=((hR q).1 (by simp[hq])).2
     have lI:q < listed.size:=by have:=(Array.getElem?_eq_some_iff.1 hoq).1;omega
     simp[Array.getD_eq_getD_getElem?,lI]at hlq e7;rw[hlq]at e7;cases e7
    .exact h) bt
   obtain⟨o',Y9,ay,hstep,bx⟩:=lz;rw[YI]at Y9;obtain rfl:=Option.some.inj Y9;refine hstep.1.ok hg hi YI fun w' ak a' ax aao=>?_
   have lG:(R1 ++ R2).Nodup:=by
    have:=fj;rw[List.nodup_append]at this ⊢;obtain⟨g1,g2,g3⟩:=this;exact⟨g1,(List.nodup_cons.1 g2).2,fun x hx y hy=>g3 x hx y (by simp[hy])⟩
   have lC:i ∉ R1 ++ R2:=by
    have:=fj;rw[List.nodup_append]at this;obtain⟨g1,g2,g3⟩:=this;intro hm
    rcases List.mem_append.1 hm with h | h
    .exact g3 i h i (by simp) rfl
    .exact (List.nodup_cons.1 g2).1 h
   refine ih (R1 ++ R2) _ w' ak a' ay (by simp at hl ⊢;omega) lG (fun j=>?_) (by simpa using aK) ?_ ?_ bx ax (aB.trans aao)
   .by_cases cI:j=i
    .subst cI
     have ZF:j < listed.size:=by rw[aK];exact (Array.getElem?_eq_some_iff.1 YI).1
     simp[ZF];simpa using lC
    .rw[getD_set_ne true (Ne.symm cI)];rw[<- hR j];simp[cI]
   .rw[List.pairwise_append]at eL ⊢;obtain⟨g1,g2,g3⟩:=eL;exact⟨g1,(List.pairwise_cons.1 g2).2,fun x hx y hy=>g3 x hx y (by simp[hy])⟩
   .intro j oj ba cQ e he hb;by_cases cI:j=i
    .subst cI;rw[YI]at ba;obtain rfl:=Option.some.inj ba;exact getD_set_true (bu e he hb)
    .rw[getD_set_ne false (Ne.symm cI)]at cQ;exact getD_set_true (gr j oj ba cQ e he hb)
def xR (P:Program) (T:Ty) (Mv:Nat->Prop) (G:Yt) (N:Fr) (db:List Nat) (fp:List (Nat×Nat)) (i:Nat) (o:Oper) (σ:St) (K:St->Prop):Prop:=cZ N o/\o.guard=none/\
 if db.contains i=true then (match iS T G σ.env o with
  | some (c,y)=>c/\K ⟨aw σ.env o.dst (.d y),σ.H⟩
  | none=>False)
 else ld G fp σ.env i o.op/\kindOf o.op≠9/\match YK o.op with
  | some c=>aaj P G c σ.env o.dst σ.H [] [] K
  | none=>oY T G Mv o σ [] K
def nE (P:Program) (T:Ty) (Mv:Nat->Prop) (G:Yt) (N:Fr) (db:List Nat) (fp:List (Nat×Nat)) (K:St->Prop):List (Nat×Oper)->St->Prop
 | [],σ=>K σ
 | (i,o) :: rest,σ=>xR P T Mv G N db fp i o σ (nE P T Mv G N db fp K rest)
theorem VJ {K:St->Prop}:∀ (l:List Nat) (σ:St),(∀ i∈l,i < ops.size)->nE P T Mv G N db fp K (YA ops l) σ->∃ aX,K aX/\rT P T Mv G N db fp ops l σ aX:=by
 intro l
 induction l with
 | nil=>intro σ _ h;exact⟨σ,h,rfl⟩
 | cons i l ih=>
  intro σ hl h;have hi:=hl i (by simp)
  have ho:ops[i]? = some ops[i]:=by simp[hi]
  simp only[YA,ho]at h;generalize ops[i]=o at ho h;simp only[nE,xR]at h;obtain⟨hd,YL,h⟩:=h
  have fin:∀ ay,qF P T Mv G N db fp i o σ ay->nE P T Mv G N db fp K (YA ops l) ay->∃ aX,K aX/\rT P T Mv G N db fp ops (i :: l) σ aX:=fun ay hs h1=>by
   obtain⟨aX,hk,hr⟩:=ih ay (fun j hj=>hl j (by simp[hj])) h1;exact⟨aX,hk,o,ho,ay,hs,hr⟩
  split at h
  .rename_i hb;split at h
   .rename_i c y hw;obtain⟨hc,h⟩:=h;exact fin _ ⟨⟨hd,YL,.inl ⟨hb,c,y,hw,hc,rfl⟩⟩,fun e=>by rw[hb]at e;cases e⟩ h
   .exact h.elim
  .rename_i hb
   have hb:db.contains i=false:=by simpa using hb
   obtain⟨Be,hk,h⟩:=h;split at h
   .rename_i c hc;obtain⟨y,g,ds,ht,hp,dR,h⟩:=h;refine fin _ ⟨⟨hd,YL,.inr ⟨hb,hk,.d y,σ.H,?_,rfl⟩⟩,fun _=>Be⟩ h;unfold Ex;simp only[hc];exact⟨y,⟨g,_,ht,.inl ⟨ds,rfl,hp⟩⟩,rfl,trivial⟩
   .rename_i hc;unfold oY at h;split at h
    .rename_i hw;split at h
     .rename_i c x ay h1;obtain⟨bL,dR,h⟩:=h;have he:=abX hk h1;obtain⟨e,H⟩:=σ;obtain⟨e1,H1⟩:=ay;dsimp only at he;subst he;refine fin _ ⟨⟨hd,YL,.inr ⟨hb,hk,x,H1,?_,rfl⟩⟩,fun _=>Be⟩ h;unfold Ex;simp only[hc];rw[if_pos hw];exact⟨c,h1,bL⟩
     .exact h.elim
    .rename_i hw;split at h
     .rename_i c x h1;obtain⟨bL,dR,h⟩:=h;refine fin _ ⟨⟨hd,YL,.inr ⟨hb,hk,x,σ.H,?_,rfl⟩⟩,fun _=>Be⟩ h;unfold Ex;simp only[hc];rw[if_neg hw];exact⟨c,h1,bL,trivial⟩
     .exact h.elim
theorem J4 (hg:Good P T) (hm:P.follows .mixedOrders=true) (db:List Nat) (fp:List (Nat×Nat)) (ord:List Nat) {id:Nat} (bp:uh db fp ord ops=true) {Q:Exit->St->Prop} {σ:St} (h:nE P T Mv G N db fp (fun af=>Q .normal af) (YA ops ord) σ):AW P Mv X G N (.region id ops true) Q σ:=fun w μ a hi=>by
 unfold uh at bp;simp only[Bool.and_eq_true]at bp;obtain⟨⟨⟨⟨⟨h1,h2⟩,h3⟩,h4⟩,h5⟩,h6⟩:=bp
 have hlen:ord.length=ops.size:=by simpa using h1
 have Yv:∀ i∈ord,i < ops.size:=fun i hi=>by simpa using List.all_eq_true.1 h2 i hi
 have bu:∀ i,i < ops.size->i∈ord:=fun i hi=>by simpa using List.all_eq_true.1 h3 i (List.mem_range.2 hi)
 have fj:ord.Nodup:=by simpa using h4
 have nc:∀ j oj,ops[j]? = some oj->∀ e∈oj.after,Region.binds .any e=true->e.on < j:=fun j oj ba e he hb=>by
  have:=List.all_eq_true.1 h5 j (List.mem_range.2 (Array.getElem?_eq_some_iff.1 ba).1);simp only[ba]at this;have:=Array.all_eq_true_iff_forall_mem.1 this e he;simpa[hb]using this
 obtain⟨aX,hQ,bt⟩:=VJ ord σ Yv h;refine wpIn_region_any hm ?_;obtain⟨ax,aB⟩:=hi.iW (Mv:=Mv) (bQ.drew w);refine Kv hg nc hQ ops.size ord _ w.drew μ a σ hlen fj (fun j=>?_) (by simp) (HP h6) ?_ bt ax aB
 .constructor
  .intro hj;have:=Yv j hj;simp[Array.getD_eq_getD_getElem?,this]
  .intro hj;exact bu j hj.1
 .intro j oj ba cQ;have hj:=(Array.getElem?_eq_some_iff.1 ba).1;simp[Array.getD_eq_getD_getElem?,hj]at cQ
theorem x8 (hg:Good P T) (hm:P.follows .mixedOrders=true) (db:List Nat) (fp:List (Nat×Nat)) (ord:List Nat) (l ns:List Nat) (hM:∀ r,ns.contains r=false->Mv r) {id:Nat} (bp:uh db fp ord ops=true) {y:Code} {Q:Exit->St->Prop} {σ:St}
  (h:∀ K:St->Prop,(∀ τ:St,AW P Mv X G N y Q (τ.norm l ns)->K τ)->nE P T Mv G N db fp K (YA ops ord) σ):AW P Mv X G N (.seq (.region id ops true) y) Q σ:=
 pc (J4 hg hm db fp ord bp (h _ fun _ h=>h.norm l ns hM))
theorem CM {K:St->Prop} {i:Nat} {l:List Nat} {o:Oper} (ho:ops[i]? = some o) (h:∀ K':St->Prop,(∀ τ,nE P T Mv G N db fp K (YA ops l) τ->K' τ)->xR P T Mv G N db fp i o σ K'):nE P T Mv G N db fp K (YA ops (i :: l)) σ:=by
 have:YA ops (i :: l)=(i,o) :: YA ops l:=by simp[YA,ho]
 rw[this];exact h _ fun _ h=>h
theorem CN {K:St->Prop} (h:K σ):nE P T Mv G N db fp K (YA ops []) σ:=h
end
attribute [simp] xR
