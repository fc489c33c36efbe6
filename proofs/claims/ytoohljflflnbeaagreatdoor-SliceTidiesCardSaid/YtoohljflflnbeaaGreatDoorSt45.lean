/- Parts. -/
import Derived.Test.YtoohljflflnbeaaGreatDoorSt44
import Derived.Lib.LaidTab
set_option linter.unusedSimpArgs false
set_option linter.unusedVariables false
open Go.Proofs.Tryz
namespace Go.Proofs.YtoohljflflnbeaaGreatDoor
open Go.Av Go.ChangeShapes Go.WideShapes Go.ChangeAt Go.RowKit
def A0 (l:List (Nat×D)):aF:=fun g=>l.lookup g
theorem I5 {W:World}:∀ {l:List (Nat×D)},(∀ p∈l,RD W (fun _=>False) (.pointer (some ⟨p.1,0,none⟩)) p.2)->∀ g x,A0 l g=some x->RD W (fun _=>False) (.pointer (some ⟨g,0,none⟩)) x
 | [],_,g,x,hx=>by simp[A0]at hx
 | (a,y) :: l,h,g,x,hx=>by
  unfold A0 at hx;rw[List.lookup_cons]at hx;split at hx
  .rename_i hg;obtain rfl:=AI hx
   obtain rfl:g=a:=by simpa using hg
   exact h (g,y) al
  .exact I5 (fun p hp=>h p (by simp[hp])) g x hx
theorem VN {W:World} (h:handlesMet prog BS W):RD W (fun _=>False) (.pointer (some ⟨4,0,none⟩)) (.ip [.v px]):=RD.Ar al (QZ h)
theorem VS {W:World} {m:Int} (h:W.cell? ⟨5,0,none⟩=some (.int .i64 m)):RD W (fun _=>False) (.pointer (some ⟨5,0,none⟩)) (.ip [ab m]):=RD.Ar al h
theorem VO {W:World} (h:laidMet prog BT W):RD W (fun _=>False) (.pointer (some ⟨0,0,none⟩)) (.ip [ab 0,ab (-1)]):=by
 obtain⟨f0,f1⟩:=Qo h;exact RD.O8 al f0 f1
theorem VQ {W:World} (h:laidMet prog FY W):RD W (fun _=>False) (.pointer (some ⟨1,0,none⟩)) (.ip b8):=OE (ws:=Rw) rfl TO TP h
theorem VT {W:World} (h:laidMet prog FZ W):RD W (fun _=>False) (.pointer (some ⟨2,0,none⟩)) (.ip [.sl none (Cb.map fun s=>[.v (.string (bs s))])]):=M0 (ws:=Cb) (by simp[Cb]) TQ TR h
theorem VW {W:World} (h:laidMet prog F0 W):RD W (fun _=>False) (.pointer (some ⟨3,0,none⟩)) (.ip [.sl none (Cw.map fun s=>[.v (.string (bs s))])]):=M0 (ws:=Cw) (by simp[Cw]) TV TW h
def BU:List (String×DataW Unit):=[("internal/strconv.uint64pow10",Rows.laid_internal_strconv_uint64pow10)]
theorem TT:(Rows.laid_internal_strconv_uint64pow10:DataW Unit)=Lib.tabData .u64 Lib.pow10Tab:=ag
theorem VU {W:World} (h:laidMet prog BU W):RD W (fun _=>False) (.pointer (some ⟨6,0,none⟩)) (.nW (Lib.pow10Tab.map fun z=>Value.int .u64 z).toArray):=by
 unfold BU at h;rw[TT]at h
 have hg:prog.globalNamed "internal/strconv.uint64pow10" = some 6:=by kernel_rfl
 have ht:=Lib.tabIs_of_head (n:=20) hg ag underlying410 underlying377 ag ag h;unfold Lib.TabIs World.var? at ht;rw[hg]at ht;simp only[acz]at ht;split at ht
 .rename_i cs ty fr hh;obtain rfl:=AI ht;exact .nW al hh
 .cases ht
def FX:List (String×DataW Unit):=[("strconv.ErrSyntax",Rows.laid_strconv_ErrSyntax)]
def FW:List (String×DataW Unit):=[("strconv.ErrRange",Rows.laid_strconv_ErrRange)]
theorem IW {W:World} {nm dn:String} {dd:DataW Unit} {g:Nat} {ti:TypeId} {ms:Array (String×TypeId)} (hg:prog.globalNamed nm=some g) (hT:(prog.globals[g]?).map (·.type)=some ti) (hi:prog.underlying ti=some (.interface ms))
  (h:laidMet prog [(nm,.iface dn dd)] W):∃ ev,W.cell? ⟨g,0,none⟩=some ev/\xG ev:=by
 obtain⟨ps,hv,_,_⟩:=h;obtain⟨g',t,cs,fuel,p,q,qq,ht,cK,oJ,_,_⟩:=hv;obtain rfl:=AI (hg.symm.trans qq);obtain rfl:=AI (hT.symm.trans ht);obtain⟨fu,u,v,e6,_⟩:=iface_of_trod hi oJ;refine⟨.iface u v,?_,.inr ⟨_,_,rfl⟩⟩;rw[World.var?_cell hg cK 0,<- abc,e6];rfl
theorem YQ {W:World} (h:laidMet prog FX W):∃ ev,W.cell? ⟨7,0,none⟩=some ev/\xG ev:=
 IW (ti:=30) ag ag underlying30 h
theorem Wk {W:World} (h:laidMet prog FW W):∃ ev,W.cell? ⟨8,0,none⟩=some ev/\xG ev:=
 IW (ti:=30) ag ag underlying30 h
theorem VX {W:World} {ev:Value} (h:W.cell? ⟨7,0,none⟩=some ev):RD W (fun _=>False) (.pointer (some ⟨7,0,none⟩)) (.ip [.v ev]):=RD.Ar al h
theorem VV {W:World} {ev:Value} (h:W.cell? ⟨8,0,none⟩=some ev):RD W (fun _=>False) (.pointer (some ⟨8,0,none⟩)) (.ip [.v ev]):=RD.Ar al h
