/- Parts. -/
import Derived.Test.YtdigkhaofjmgkaaGreatDoorFx47
import Derived.Lib.LaidTab
set_option linter.unusedSimpArgs false
set_option linter.unusedVariables false
open Go.Proofs.Tryz
namespace Go.Proofs.YtdigkhaofjmgkaaGreatDoor
open Go.Av Go.ChangeShapes Go.WideShapes Go.ChangeAt Go.RowKit
def zc (l:List (Nat×D)):aq:=fun g=>l.lookup g
theorem HO {W:World}:∀ {l:List (Nat×D)},(∀ p∈l,RD W (fun _=>False) (.pointer (some ⟨p.1,0,none⟩)) p.2)->∀ g x,zc l g=some x->RD W (fun _=>False) (.pointer (some ⟨g,0,none⟩)) x
 | [],_,g,x,hx=>by simp[zc]at hx
 | (a,y) :: l,h,g,x,hx=>by
  unfold zc at hx;rw[List.lookup_cons]at hx;split at hx
  .rename_i hg;obtain rfl:=AI hx
   obtain rfl:g=a:=by simpa using hg
   exact h (g,y) (by simp)
  .exact HO (fun p hp=>h p (by simp[hp])) g x hx
theorem Wa {W:World} (h:handlesMet prog Am W):RD W (fun _=>False) (.pointer (some ⟨3,0,none⟩)) (.ip [.v lZ]):=RD.agD (by simp) (Q7 h)
theorem We {W:World} {m:Int} (h:W.cell? ⟨4,0,none⟩=some (.int .i64 m)):RD W (fun _=>False) (.pointer (some ⟨4,0,none⟩)) (.ip [ab m]):=RD.agD (by simp) h
theorem Wb {W:World} (h:laidMet prog An W):RD W (fun _=>False) (.pointer (some ⟨2,0,none⟩)) (.ip [ab 0,ab (-1)]):=by
 obtain⟨f0,f1⟩:=PU h;exact RD.Ou (by simp) f0 f1
theorem Wf {W:World} (h:laidMet prog agW W):RD W (fun _=>False) (.pointer (some ⟨1,0,none⟩)) (.ip [.sl none (AH.map fun s=>[.v (.string (bs s))])]):=Mb (ws:=AH) (by simp[AH]) TJ TK h
theorem Wi {W:World} (h:laidMet prog Ew W):RD W (fun _=>False) (.pointer (some ⟨0,0,none⟩)) (.ip [.sl none (Bf.map fun s=>[.v (.string (bs s))])]):=Mb (ws:=Bf) (by simp[Bf]) TO TP h
def Ao:List (String×DataW Unit):=[("internal/strconv.uint64pow10",Rows.laid_internal_strconv_uint64pow10)]
theorem TM:(Rows.laid_internal_strconv_uint64pow10:DataW Unit)=Lib.tabData .u64 Lib.pow10Tab:=by kernel_rfl
theorem Wg {W:World} (h:laidMet prog Ao W):RD W (fun _=>False) (.pointer (some ⟨7,0,none⟩)) (.lN (Lib.pow10Tab.map fun z=>Value.int .u64 z).toArray):=by
 unfold Ao at h;rw[TM]at h
 have hg:prog.globalNamed "internal/strconv.uint64pow10" = some 7:=by kernel_rfl
 have ht:=Lib.tabIs_of_head (n:=20) hg (by kernel_rfl) underlying366 underlying303 (by kernel_rfl) (by kernel_rfl) h;unfold Lib.TabIs World.var? at ht;rw[hg]at ht;simp only[ae5]at ht;split at ht
 .rename_i cs ty fr hh;obtain rfl:=AI ht;exact .lN (by simp) hh
 .cases ht
def Eu:List (String×DataW Unit):=[("strconv.ErrSyntax",Rows.laid_strconv_ErrSyntax)]
def Et:List (String×DataW Unit):=[("strconv.ErrRange",Rows.laid_strconv_ErrRange)]
theorem HB {W:World} {nm dn:String} {dd:DataW Unit} {g:Nat} {ti:TypeId} {ms:Array (String×TypeId)} (hg:prog.globalNamed nm=some g) (hT:(prog.globals[g]?).map (·.type)=some ti) (hi:prog.underlying ti=some (.interface ms))
  (h:laidMet prog [(nm,.iface dn dd)] W):∃ ev,W.cell? ⟨g,0,none⟩=some ev/\v7 ev:=by
 obtain⟨ps,hv,_,_⟩:=h;obtain⟨g',t,cs,fuel,p,q,Dy,ht,b8,nP,_,_⟩:=hv;obtain rfl:=AI (hg.symm.trans Dy);obtain rfl:=AI (hT.symm.trans ht);obtain⟨fu,u,v,hcl,_⟩:=iface_of_trod hi nP;refine⟨.iface u v,?_,.inr ⟨_,_,rfl⟩⟩;rw[World.var?_cell hg b8 0,<- ab2,hcl];rfl
theorem Zp {W:World} (h:laidMet prog Eu W):∃ ev,W.cell? ⟨5,0,none⟩=some ev/\v7 ev:=
 HB (ti:=36) (by kernel_rfl) (by kernel_rfl) underlying36 h
theorem Yd {W:World} (h:laidMet prog Et W):∃ ev,W.cell? ⟨6,0,none⟩=some ev/\v7 ev:=
 HB (ti:=36) (by kernel_rfl) (by kernel_rfl) underlying36 h
theorem Wj {W:World} {ev:Value} (h:W.cell? ⟨5,0,none⟩=some ev):RD W (fun _=>False) (.pointer (some ⟨5,0,none⟩)) (.ip [.v ev]):=RD.agD (by simp) h
theorem Wh {W:World} {ev:Value} (h:W.cell? ⟨6,0,none⟩=some ev):RD W (fun _=>False) (.pointer (some ⟨6,0,none⟩)) (.ip [.v ev]):=RD.agD (by simp) h
