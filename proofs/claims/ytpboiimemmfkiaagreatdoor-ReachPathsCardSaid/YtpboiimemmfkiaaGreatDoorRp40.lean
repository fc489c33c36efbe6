/-
  Texts that belong together,in one file: RG.
-/
import Derived.Test.YtpboiimemmfkiaaGreatDoorRp39
import Derived.Lib.LaidTab
set_option linter.unusedSimpArgs false
set_option linter.unusedVariables false
namespace Go.Proofs.YtpboiimemmfkiaaGreatDoor
open Go.Av Go.ChangeShapes Go.WideShapes Go.ChangeAt Go.RowKit
def globL (l:List (Nat×D)):Glob:=fun g=>l.lookup g
theorem globL_ok {W:World}:∀ {l:List (Nat×D)},(∀ p∈l,RD W (fun _=>False) (.pointer (some ⟨p.1,0,none⟩)) p.2)→∀ g x,globL l g=some x→RD W (fun _=>False) (.pointer (some ⟨g,0,none⟩)) x
 | [],_,g,x,hx=>by simp [globL] at hx
 | (a,y) :: l,h,g,x,hx=>by
  unfold globL at hx;rw [List.lookup_cons] at hx
  split at hx
  ·rename_i hg
   obtain rfl:=Option.some.inj hx
   obtain rfl:g=a:=by simpa using hg
   exact h (g,y) (by simp)
  ·exact globL_ok (fun p hp=>h p (by simp [hp])) g x hx
theorem rd_err {W:World} (h:handlesMet Tryz.prog laidE W):RD W (fun _=>False) (.pointer (some ⟨4,0,none⟩)) (.ip [.v errType]):=RD.cell1 (by simp) (handle_of_met h)
theorem rd_max {W:World} {m:Int} (h:W.cell? ⟨5,0,none⟩=some (.int .i64 m)):RD W (fun _=>False) (.pointer (some ⟨5,0,none⟩)) (.ip [dNum m]):=RD.cell1 (by simp) h
def laidP10:List (String×DataW Unit):=[("internal/strconv.uint64pow10",Rows.laid_internal_strconv_uint64pow10)]
theorem laid_p10:(Rows.laid_internal_strconv_uint64pow10:DataW Unit)=Lib.tabData .u64 Lib.pow10Tab:=by kernel_rfl
theorem rd_p10 {W:World} (h:laidMet Tryz.prog laidP10 W):RD W (fun _=>False) (.pointer (some ⟨6,0,none⟩)) (.tab (Lib.pow10Tab.map fun z=>Value.int .u64 z).toArray):=by
 unfold laidP10 at h;rw [laid_p10] at h
 have hg:Tryz.prog.globalNamed "internal/strconv.uint64pow10" = some 6:=by kernel_rfl
 have ht:=Lib.tabIs_of_head (n:=20) hg (by kernel_rfl) Tryz.underlying368 Tryz.underlying310 (by kernel_rfl) (by kernel_rfl) h
 unfold Lib.TabIs World.var? at ht;rw [hg] at ht;simp only [Option.bind_some] at ht
 split at ht
 ·rename_i cs ty fr hh
  obtain rfl:=Option.some.inj ht
  exact .tab (by simp) hh
 ·cases ht
def laidES:List (String×DataW Unit):=[("strconv.ErrSyntax",Rows.laid_strconv_ErrSyntax)]
def laidER:List (String×DataW Unit):=[("strconv.ErrRange",Rows.laid_strconv_ErrRange)]
theorem errv_of {W:World} {nm dn:String} {dd:DataW Unit} {g:Nat} {ti:TypeId} {ms:Array (String×TypeId)} (hg:Tryz.prog.globalNamed nm=some g) (hT:(Tryz.prog.globals[g]?).map (·.type)=some ti) (hi:Tryz.prog.underlying ti=some (.interface ms))
  (h:laidMet Tryz.prog [(nm,.iface dn dd)] W):∃ ev,W.cell? ⟨g,0,none⟩=some ev∧errV ev:=by
 obtain ⟨ps,hv,_,_⟩:=h
 obtain ⟨g',t,cs,fuel,p,q,hg',ht,hcs,htr,_,_⟩:=hv
 obtain rfl:=Option.some.inj (hg.symm.trans hg')
 obtain rfl:=Option.some.inj (hT.symm.trans ht)
 obtain ⟨fu,u,v,hcl,_⟩:=iface_of_trod hi htr
 refine ⟨.iface u v,?_,.inr ⟨_,_,rfl⟩⟩;rw [World.var?_cell hg hcs 0,← Array.getElem?_toList,hcl]
 rfl
theorem syn_some {W:World} (h:laidMet Tryz.prog laidES W):∃ ev,W.cell? ⟨7,0,none⟩=some ev∧errV ev:=
 errv_of (ti:=39) (by kernel_rfl) (by kernel_rfl) Tryz.underlying39 h
theorem rng_some {W:World} (h:laidMet Tryz.prog laidER W):∃ ev,W.cell? ⟨8,0,none⟩=some ev∧errV ev:=
 errv_of (ti:=39) (by kernel_rfl) (by kernel_rfl) Tryz.underlying39 h
theorem rd_syn {W:World} {ev:Value} (h:W.cell? ⟨7,0,none⟩=some ev):RD W (fun _=>False) (.pointer (some ⟨7,0,none⟩)) (.ip [.v ev]):=RD.cell1 (by simp) h
theorem rd_rng {W:World} {ev:Value} (h:W.cell? ⟨8,0,none⟩=some ev):RD W (fun _=>False) (.pointer (some ⟨8,0,none⟩)) (.ip [.v ev]):=RD.cell1 (by simp) h
end Go.Proofs.YtpboiimemmfkiaaGreatDoor
