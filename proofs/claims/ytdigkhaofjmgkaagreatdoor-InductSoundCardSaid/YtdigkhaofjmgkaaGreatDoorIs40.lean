/- Parts. -/
import Derived.Test.YtdigkhaofjmgkaaGreatDoorIs39
import Derived.Lib.LaidTab
set_option linter.unusedSimpArgs false
set_option linter.unusedVariables false
open Go.Proofs.Tryz
namespace Go.Proofs.YtdigkhaofjmgkaaGreatDoor
open Go.Av Go.ChangeShapes Go.WideShapes Go.ChangeAt Go.RowKit
def we (l:List (Nat×D)):YI:=fun g=>l.lookup g
theorem E1 {W:World}:∀ {l:List (Nat×D)},(∀ p∈l,RD W (fun _=>False) (.pointer (some ⟨p.1,0,none⟩)) p.2)->∀ g x,we l g=some x->RD W (fun _=>False) (.pointer (some ⟨g,0,none⟩)) x
 | [],_,g,x,hx=>by simp[we]at hx
 | (a,y) :: l,h,g,x,hx=>by
  unfold we at hx;rw[List.lookup_cons]at hx;split at hx
  .rename_i hg;obtain rfl:=Option.some.inj hx
   obtain rfl:g=a:=by simpa using hg
   exact h (g,y) (by simp)
  .exact E1 (fun p hp=>h p (by simp[hp])) g x hx
theorem UJ {W:World} (h:handlesMet prog xz W):RD W (fun _=>False) (.pointer (some ⟨3,0,none⟩)) (.ip [.v lB]):=RD.acN (by simp) (Oo h)
theorem UM {W:World} {m:Int} (h:W.cell? ⟨4,0,none⟩=some (.int .i64 m)):RD W (fun _=>False) (.pointer (some ⟨4,0,none⟩)) (.ip [YG m]):=RD.acN (by simp) h
def xA:List (String×DataW Unit):=[("internal/strconv.uint64pow10",Rows.laid_internal_strconv_uint64pow10)]
theorem SG:(Rows.laid_internal_strconv_uint64pow10:DataW Unit)=Lib.tabData .u64 Lib.pow10Tab:=by kernel_rfl
theorem UN {W:World} (h:laidMet prog xA W):RD W (fun _=>False) (.pointer (some ⟨7,0,none⟩)) (.j0 (Lib.pow10Tab.map fun z=>Value.int .u64 z).toArray):=by
 unfold xA at h;rw[SG]at h
 have hg:prog.globalNamed "internal/strconv.uint64pow10" = some 7:=by kernel_rfl
 have ht:=Lib.tabIs_of_head (n:=20) hg (by kernel_rfl) underlying366 underlying303 (by kernel_rfl) (by kernel_rfl) h;unfold Lib.TabIs World.var? at ht;rw[hg]at ht;simp only[Option.bind_some]at ht;split at ht
 .rename_i cs ty fr hh;obtain rfl:=Option.some.inj ht;exact .j0 (by simp) hh
 .cases ht
def BV:List (String×DataW Unit):=[("strconv.ErrSyntax",Rows.laid_strconv_ErrSyntax)]
def BU:List (String×DataW Unit):=[("strconv.ErrRange",Rows.laid_strconv_ErrRange)]
theorem EG {W:World} {nm dn:String} {dd:DataW Unit} {g:Nat} {ti:TypeId} {ms:Array (String×TypeId)} (hg:prog.globalNamed nm=some g) (hT:(prog.globals[g]?).map (·.type)=some ti) (hi:prog.underlying ti=some (.interface ms))
  (h:laidMet prog [(nm,.iface dn dd)] W):∃ ev,W.cell? ⟨g,0,none⟩=some ev/\sM ev:=by
 obtain⟨ps,hv,_,_⟩:=h;obtain⟨g',t,cs,fuel,p,q,O7,ht,bR,eA,_,_⟩:=hv;obtain rfl:=Option.some.inj (hg.symm.trans O7);obtain rfl:=Option.some.inj (hT.symm.trans ht);obtain⟨fu,u,v,bQ,_⟩:=iface_of_trod hi eA;refine⟨.iface u v,?_,.inr ⟨_,_,rfl⟩⟩;rw[World.var?_cell hg bR 0,<- Array.getElem?_toList,bQ];rfl
theorem Wj {W:World} (h:laidMet prog BV W):∃ ev,W.cell? ⟨5,0,none⟩=some ev/\sM ev:=
 EG (ti:=36) (by kernel_rfl) (by kernel_rfl) underlying36 h
theorem Ve {W:World} (h:laidMet prog BU W):∃ ev,W.cell? ⟨6,0,none⟩=some ev/\sM ev:=
 EG (ti:=36) (by kernel_rfl) (by kernel_rfl) underlying36 h
theorem UQ {W:World} {ev:Value} (h:W.cell? ⟨5,0,none⟩=some ev):RD W (fun _=>False) (.pointer (some ⟨5,0,none⟩)) (.ip [.v ev]):=RD.acN (by simp) h
theorem UO {W:World} {ev:Value} (h:W.cell? ⟨6,0,none⟩=some ev):RD W (fun _=>False) (.pointer (some ⟨6,0,none⟩)) (.ip [.v ev]):=RD.acN (by simp) h
