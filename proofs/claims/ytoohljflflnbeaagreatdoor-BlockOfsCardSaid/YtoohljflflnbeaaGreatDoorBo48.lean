/- Parts. -/
import Derived.Test.YtoohljflflnbeaaGreatDoorBo47
import Derived.Lib.LaidTab
set_option linter.unusedSimpArgs false
set_option linter.unusedVariables false
open Go.Proofs.Tryz
namespace Go.Proofs.YtoohljflflnbeaaGreatDoor
open Go.Av Go.ChangeShapes Go.WideShapes Go.ChangeAt Go.RowKit
def DR (l:List (Nat×D)):aC:=fun g=>l.lookup g
theorem MF {W:World}:∀ {l:List (Nat×D)},(∀ p∈l,RD W (fun _=>False) (.pointer (some ⟨p.1,0,none⟩)) p.2)->∀ g x,DR l g=some x->RD W (fun _=>False) (.pointer (some ⟨g,0,none⟩)) x
 | [],_,g,x,hx=>by simp[DR]at hx
 | (a,y) :: l,h,g,x,hx=>by
  unfold DR at hx;rw[List.lookup_cons]at hx;split at hx
  .rename_i hg;obtain rfl:=AI hx
   obtain rfl:g=a:=by simpa using hg
   exact h (g,y) ak
  .exact MF (fun p hp=>h p (by simp[hp])) g x hx
theorem acI {W:World} (h:handlesMet prog E0 W):RD W (fun _=>False) (.pointer (some ⟨4,0,none⟩)) (.ip [.v pW]):=RD.Dq ak (X1 h)
theorem acM {W:World} {m:Int} (h:W.cell? ⟨5,0,none⟩=some (.int .i64 m)):RD W (fun _=>False) (.pointer (some ⟨5,0,none⟩)) (.ip [ab m]):=RD.Dq ak h
theorem acJ {W:World} (h:laidMet prog E3 W):RD W (fun _=>False) (.pointer (some ⟨0,0,none⟩)) (.ip [ab 0,ab (-1)]):=by
 obtain⟨f0,f1⟩:=WT h;exact RD.Vw ak f0 f1
theorem acN {W:World} (h:laidMet prog Jf W):RD W (fun _=>False) (.pointer (some ⟨2,0,none⟩)) (.ip [.sl none (Fi.map fun s=>[.v (.string (bs s))])]):=Rw (ws:=Fi) (by simp[Fi]) aau aav h
theorem acQ {W:World} (h:laidMet prog Jg W):RD W (fun _=>False) (.pointer (some ⟨3,0,none⟩)) (.ip [.sl none (FK.map fun s=>[.v (.string (bs s))])]):=Rw (ws:=FK) (by simp[FK]) aaz aaA h
def E4:List (String×DataW Unit):=[("internal/strconv.uint64pow10",Rows.laid_internal_strconv_uint64pow10)]
theorem aax:(Rows.laid_internal_strconv_uint64pow10:DataW Unit)=Lib.tabData .u64 Lib.pow10Tab:=ah
theorem acO {W:World} (h:laidMet prog E4 W):RD W (fun _=>False) (.pointer (some ⟨6,0,none⟩)) (.pK (Lib.pow10Tab.map fun z=>Value.int .u64 z).toArray):=by
 unfold E4 at h;rw[aax]at h
 have hg:prog.globalNamed "internal/strconv.uint64pow10" = some 6:=by kernel_rfl
 have ht:=Lib.tabIs_of_head (n:=20) hg ah underlying410 underlying377 ah ah h;unfold Lib.TabIs World.var? at ht;rw[hg]at ht;simp only[aid]at ht;split at ht
 .rename_i cs ty fr hh;obtain rfl:=AI ht;exact .pK ak hh
 .cases ht
def Je:List (String×DataW Unit):=[("strconv.ErrSyntax",Rows.laid_strconv_ErrSyntax)]
def Jd:List (String×DataW Unit):=[("strconv.ErrRange",Rows.laid_strconv_ErrRange)]
theorem Ms {W:World} {nm dn:String} {dd:DataW Unit} {g:Nat} {ti:TypeId} {ms:Array (String×TypeId)} (hg:prog.globalNamed nm=some g) (hT:(prog.globals[g]?).map (·.type)=some ti) (hi:prog.underlying ti=some (.interface ms))
  (h:laidMet prog [(nm,.iface dn dd)] W):∃ ev,W.cell? ⟨g,0,none⟩=some ev/\AD ev:=by
 obtain⟨ps,hv,_,_⟩:=h;obtain⟨g',t,cs,fuel,p,q,HS,ht,cX,lp,_,_⟩:=hv;obtain rfl:=AI (hg.symm.trans HS);obtain rfl:=AI (hT.symm.trans ht);obtain⟨fu,u,v,cN,_⟩:=iface_of_trod hi lp;refine⟨.iface u v,?_,.inr ⟨_,_,rfl⟩⟩;rw[World.var?_cell hg cX 0,<- agH,cN];rfl
theorem aeg {W:World} (h:laidMet prog Je W):∃ ev,W.cell? ⟨7,0,none⟩=some ev/\AD ev:=
 Ms (ti:=30) ah ah underlying30 h
theorem adk {W:World} (h:laidMet prog Jd W):∃ ev,W.cell? ⟨8,0,none⟩=some ev/\AD ev:=
 Ms (ti:=30) ah ah underlying30 h
theorem acR {W:World} {ev:Value} (h:W.cell? ⟨7,0,none⟩=some ev):RD W (fun _=>False) (.pointer (some ⟨7,0,none⟩)) (.ip [.v ev]):=RD.Dq ak h
theorem acP {W:World} {ev:Value} (h:W.cell? ⟨8,0,none⟩=some ev):RD W (fun _=>False) (.pointer (some ⟨8,0,none⟩)) (.ip [.v ev]):=RD.Dq ak h
