/-
  Texts that belong together,in one file: RG.
-/
import Derived.Test.YtdigkhaofjmgkaaGreatDoorIs39
import Derived.Lib.LaidTab
set_option linter.unusedSimpArgs false
set_option linter.unusedVariables false
namespace Go.Proofs.YtdigkhaofjmgkaaGreatDoor
open Go.Av Go.ChangeShapes Go.WideShapes Go.ChangeAt Go.RowKit
def wg (l:List (Nat×D)):YJ:=fun g=>l.lookup g
theorem E2 {W:World}:∀ {l:List (Nat×D)},(∀ p∈l,RD W (fun _=>False) (.pointer (some ⟨p.1,0,none⟩)) p.2)->∀ g x,wg l g=some x->RD W (fun _=>False) (.pointer (some ⟨g,0,none⟩)) x
 | [],_,g,x,hx=>by simp [wg] at hx
 | (a,y) :: l,h,g,x,hx=>by
  unfold wg at hx;rw [List.lookup_cons] at hx;split at hx
  .rename_i hg;obtain rfl:=Option.some.inj hx
   obtain rfl:g=a:=by simpa using hg
   exact h (g,y) (by simp)
  .exact E2 (fun p hp=>h p (by simp [hp])) g x hx
theorem UK {W:World} (h:handlesMet Tryz.prog xA W):RD W (fun _=>False) (.pointer (some ⟨3,0,none⟩)) (.ip [.v lB]):=RD.vF (by simp) (Oq h)
theorem UN {W:World} {m:Int} (h:W.cell? ⟨4,0,none⟩=some (.int .i64 m)):RD W (fun _=>False) (.pointer (some ⟨4,0,none⟩)) (.ip [YH m]):=RD.vF (by simp) h
def xB:List (String×DataW Unit):=[("internal/strconv.uint64pow10",Rows.laid_internal_strconv_uint64pow10)]
theorem SH:(Rows.laid_internal_strconv_uint64pow10:DataW Unit)=Lib.tabData .u64 Lib.pow10Tab:=by kernel_rfl
theorem UO {W:World} (h:laidMet Tryz.prog xB W):RD W (fun _=>False) (.pointer (some ⟨7,0,none⟩)) (.j0 (Lib.pow10Tab.map fun z=>Value.int .u64 z).toArray):=by
 unfold xB at h;rw [SH] at h
 have hg:Tryz.prog.globalNamed "internal/strconv.uint64pow10" = some 7:=by kernel_rfl
 have ht:=Lib.tabIs_of_head (n:=20) hg (by kernel_rfl) Tryz.underlying366 Tryz.underlying303 (by kernel_rfl) (by kernel_rfl) h;unfold Lib.TabIs World.var? at ht;rw [hg] at ht;simp only [Option.bind_some] at ht;split at ht
 .rename_i cs ty fr hh;obtain rfl:=Option.some.inj ht;exact .j0 (by simp) hh
 .cases ht
def BW:List (String×DataW Unit):=[("strconv.ErrSyntax",Rows.laid_strconv_ErrSyntax)]
def BV:List (String×DataW Unit):=[("strconv.ErrRange",Rows.laid_strconv_ErrRange)]
theorem EH {W:World} {nm dn:String} {dd:DataW Unit} {g:Nat} {ti:TypeId} {ms:Array (String×TypeId)} (hg:Tryz.prog.globalNamed nm=some g) (hT:(Tryz.prog.globals[g]?).map (·.type)=some ti) (hi:Tryz.prog.underlying ti=some (.interface ms))
  (h:laidMet Tryz.prog [(nm,.iface dn dd)] W):∃ ev,W.cell? ⟨g,0,none⟩=some ev/\sN ev:=by
 obtain ⟨ps,hv,_,_⟩:=h;obtain ⟨g',t,cs,fuel,p,q,O8,ht,bR,eA,_,_⟩:=hv;obtain rfl:=Option.some.inj (hg.symm.trans O8);obtain rfl:=Option.some.inj (hT.symm.trans ht);obtain ⟨fu,u,v,bQ,_⟩:=iface_of_trod hi eA;refine ⟨.iface u v,?_,.inr ⟨_,_,rfl⟩⟩;rw [World.var?_cell hg bR 0,<- Array.getElem?_toList,bQ];rfl
theorem Wk {W:World} (h:laidMet Tryz.prog BW W):∃ ev,W.cell? ⟨5,0,none⟩=some ev/\sN ev:=
 EH (ti:=36) (by kernel_rfl) (by kernel_rfl) Tryz.underlying36 h
theorem Vf {W:World} (h:laidMet Tryz.prog BV W):∃ ev,W.cell? ⟨6,0,none⟩=some ev/\sN ev:=
 EH (ti:=36) (by kernel_rfl) (by kernel_rfl) Tryz.underlying36 h
theorem UR {W:World} {ev:Value} (h:W.cell? ⟨5,0,none⟩=some ev):RD W (fun _=>False) (.pointer (some ⟨5,0,none⟩)) (.ip [.v ev]):=RD.vF (by simp) h
theorem UP {W:World} {ev:Value} (h:W.cell? ⟨6,0,none⟩=some ev):RD W (fun _=>False) (.pointer (some ⟨6,0,none⟩)) (.ip [.v ev]):=RD.vF (by simp) h
end Go.Proofs.YtdigkhaofjmgkaaGreatDoor
