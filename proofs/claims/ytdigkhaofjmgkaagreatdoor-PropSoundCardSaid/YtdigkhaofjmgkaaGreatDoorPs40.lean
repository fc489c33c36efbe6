/- Parts. -/
import Derived.Test.YtdigkhaofjmgkaaGreatDoorPs39
import Derived.Lib.LaidTab
set_option linter.unusedSimpArgs false
set_option linter.unusedVariables false
open Go.Proofs.Tryz
namespace Go.Proofs.YtdigkhaofjmgkaaGreatDoor
open Go.Av Go.ChangeShapes Go.WideShapes Go.ChangeAt Go.RowKit
def vI (l:List (Nat×D)):Yt:=fun g=>l.lookup g
theorem EK {W:World}:∀ {l:List (Nat×D)},(∀ p∈l,RD W (fun _=>False) (.pointer (some ⟨p.1,0,none⟩)) p.2)->∀ g x,vI l g=some x->RD W (fun _=>False) (.pointer (some ⟨g,0,none⟩)) x
 | [],_,g,x,hx=>by simp[vI]at hx
 | (a,y) :: l,h,g,x,hx=>by
  unfold vI at hx;rw[List.lookup_cons]at hx;split at hx
  .rename_i hg;obtain rfl:=Option.some.inj hx
   obtain rfl:g=a:=by simpa using hg
   exact h (g,y) (by simp)
  .exact EK (fun p hp=>h p (by simp[hp])) g x hx
theorem Un {W:World} (h:handlesMet prog xb W):RD W (fun _=>False) (.pointer (some ⟨3,0,none⟩)) (.ip [.v lp]):=RD.vf (by simp) (NY h)
theorem Uq {W:World} {m:Int} (h:W.cell? ⟨4,0,none⟩=some (.int .i64 m)):RD W (fun _=>False) (.pointer (some ⟨4,0,none⟩)) (.ip [ab m]):=RD.vf (by simp) h
def xc:List (String×DataW Unit):=[("internal/strconv.uint64pow10",Rows.laid_internal_strconv_uint64pow10)]
theorem QS:(Rows.laid_internal_strconv_uint64pow10:DataW Unit)=Lib.tabData .u64 Lib.pow10Tab:=by kernel_rfl
theorem Ur {W:World} (h:laidMet prog xc W):RD W (fun _=>False) (.pointer (some ⟨7,0,none⟩)) (.jQ (Lib.pow10Tab.map fun z=>Value.int .u64 z).toArray):=by
 unfold xc at h;rw[QS]at h
 have hg:prog.globalNamed "internal/strconv.uint64pow10" = some 7:=by kernel_rfl
 have ht:=Lib.tabIs_of_head (n:=20) hg (by kernel_rfl) underlying366 underlying303 (by kernel_rfl) (by kernel_rfl) h;unfold Lib.TabIs World.var? at ht;rw[hg]at ht;simp only[Option.bind_some]at ht;split at ht
 .rename_i cs ty fr hh;obtain rfl:=Option.some.inj ht;exact .jQ (by simp) hh
 .cases ht
def BE:List (String×DataW Unit):=[("strconv.ErrSyntax",Rows.laid_strconv_ErrSyntax)]
def BD:List (String×DataW Unit):=[("strconv.ErrRange",Rows.laid_strconv_ErrRange)]
theorem Eo {W:World} {nm dn:String} {dd:DataW Unit} {g:Nat} {ti:TypeId} {ms:Array (String×TypeId)} (hg:prog.globalNamed nm=some g) (hT:(prog.globals[g]?).map (·.type)=some ti) (hi:prog.underlying ti=some (.interface ms))
  (h:laidMet prog [(nm,.iface dn dd)] W):∃ ev,W.cell? ⟨g,0,none⟩=some ev/\sx ev:=by
 obtain⟨ps,hv,_,_⟩:=h;obtain⟨g',t,cs,fuel,p,q,OL,ht,bR,eD,_,_⟩:=hv;obtain rfl:=Option.some.inj (hg.symm.trans OL);obtain rfl:=Option.some.inj (hT.symm.trans ht);obtain⟨fu,u,v,bO,_⟩:=iface_of_trod hi eD;refine⟨.iface u v,?_,.inr ⟨_,_,rfl⟩⟩;rw[World.var?_cell hg bR 0,<- Array.getElem?_toList,bO];rfl
theorem V2 {W:World} (h:laidMet prog BE W):∃ ev,W.cell? ⟨5,0,none⟩=some ev/\sx ev:=
 Eo (ti:=36) (by kernel_rfl) (by kernel_rfl) underlying36 h
theorem UU {W:World} (h:laidMet prog BD W):∃ ev,W.cell? ⟨6,0,none⟩=some ev/\sx ev:=
 Eo (ti:=36) (by kernel_rfl) (by kernel_rfl) underlying36 h
theorem Uu {W:World} {ev:Value} (h:W.cell? ⟨5,0,none⟩=some ev):RD W (fun _=>False) (.pointer (some ⟨5,0,none⟩)) (.ip [.v ev]):=RD.vf (by simp) h
theorem Us {W:World} {ev:Value} (h:W.cell? ⟨6,0,none⟩=some ev):RD W (fun _=>False) (.pointer (some ⟨6,0,none⟩)) (.ip [.v ev]):=RD.vf (by simp) h
