/- Parts. -/
import Derived.Test.YtdigkhaofjmgkaaGreatDoorMs47
import Derived.Lib.LaidTab
set_option linter.unusedSimpArgs false
set_option linter.unusedVariables false
open Go.Proofs.Tryz
namespace Go.Proofs.YtdigkhaofjmgkaaGreatDoor
open Go.Av Go.ChangeShapes Go.WideShapes Go.ChangeAt Go.RowKit
def yp (l:List (Nat×D)):ao:=fun g=>l.lookup g
theorem Gz {W:World}:∀ {l:List (Nat×D)},(∀ p∈l,RD W (fun _=>False) (.pointer (some ⟨p.1,0,none⟩)) p.2)->∀ g x,yp l g=some x->RD W (fun _=>False) (.pointer (some ⟨g,0,none⟩)) x
 | [],_,g,x,hx=>by simp[yp]at hx
 | (a,y) :: l,h,g,x,hx=>by
  unfold yp at hx;rw[List.lookup_cons]at hx;split at hx
  .rename_i hg;obtain rfl:=Option.some.inj hx
   obtain rfl:g=a:=by simpa using hg
   exact h (g,y) (by simp)
  .exact Gz (fun p hp=>h p (by simp[hp])) g x hx
theorem V7 {W:World} (h:handlesMet prog zr W):RD W (fun _=>False) (.pointer (some ⟨3,0,none⟩)) (.ip [.v lK]):=RD.ae8 (by simp) (PH h)
theorem Wb {W:World} {m:Int} (h:W.cell? ⟨4,0,none⟩=some (.int .i64 m)):RD W (fun _=>False) (.pointer (some ⟨4,0,none⟩)) (.ip [ab m]):=RD.ae8 (by simp) h
theorem V8 {W:World} (h:laidMet prog afm W):RD W (fun _=>False) (.pointer (some ⟨2,0,none⟩)) (.ip [ab 0,ab (-1)]):=by
 obtain⟨f0,f1⟩:=OD h;exact RD.Nb (by simp) f0 f1
theorem Wc {W:World} (h:laidMet prog Dv W):RD W (fun _=>False) (.pointer (some ⟨1,0,none⟩)) (.ip [.sl none (zI.map fun s=>[.v (.string (bs s))])]):=KX (ws:=zI) (by simp[zI]) Sl Sm h
theorem Wf {W:World} (h:laidMet prog Dw W):RD W (fun _=>False) (.pointer (some ⟨0,0,none⟩)) (.ip [.sl none (Ae.map fun s=>[.v (.string (bs s))])]):=KX (ws:=Ae) (by simp[Ae]) Sr Ss h
def zt:List (String×DataW Unit):=[("internal/strconv.uint64pow10",Rows.laid_internal_strconv_uint64pow10)]
theorem Sp:(Rows.laid_internal_strconv_uint64pow10:DataW Unit)=Lib.tabData .u64 Lib.pow10Tab:=by kernel_rfl
theorem Wd {W:World} (h:laidMet prog zt W):RD W (fun _=>False) (.pointer (some ⟨7,0,none⟩)) (.lA (Lib.pow10Tab.map fun z=>Value.int .u64 z).toArray):=by
 unfold zt at h;rw[Sp]at h
 have hg:prog.globalNamed "internal/strconv.uint64pow10" = some 7:=by kernel_rfl
 have ht:=Lib.tabIs_of_head (n:=20) hg (by kernel_rfl) underlying366 underlying303 (by kernel_rfl) (by kernel_rfl) h;unfold Lib.TabIs World.var? at ht;rw[hg]at ht;simp only[Option.bind_some]at ht;split at ht
 .rename_i cs ty fr hh;obtain rfl:=Option.some.inj ht;exact .lA (by simp) hh
 .cases ht
def Du:List (String×DataW Unit):=[("strconv.ErrSyntax",Rows.laid_strconv_ErrSyntax)]
def Dt:List (String×DataW Unit):=[("strconv.ErrRange",Rows.laid_strconv_ErrRange)]
theorem Gp {W:World} {nm dn:String} {dd:DataW Unit} {g:Nat} {ti:TypeId} {ms:Array (String×TypeId)} (hg:prog.globalNamed nm=some g) (hT:(prog.globals[g]?).map (·.type)=some ti) (hi:prog.underlying ti=some (.interface ms))
  (h:laidMet prog [(nm,.iface dn dd)] W):∃ ev,W.cell? ⟨g,0,none⟩=some ev/\vt ev:=by
 obtain⟨ps,hv,_,_⟩:=h;obtain⟨g',t,cs,fuel,p,q,Cz,ht,hcs,htr,_,_⟩:=hv;obtain rfl:=Option.some.inj (hg.symm.trans Cz);obtain rfl:=Option.some.inj (hT.symm.trans ht);obtain⟨fu,u,v,hcl,_⟩:=iface_of_trod hi htr;refine⟨.iface u v,?_,.inr ⟨_,_,rfl⟩⟩;rw[World.var?_cell hg hcs 0,<- Array.getElem?_toList,hcl];rfl
theorem XJ {W:World} (h:laidMet prog Du W):∃ ev,W.cell? ⟨5,0,none⟩=some ev/\vt ev:=
 Gp (ti:=36) (by kernel_rfl) (by kernel_rfl) underlying36 h
theorem WE {W:World} (h:laidMet prog Dt W):∃ ev,W.cell? ⟨6,0,none⟩=some ev/\vt ev:=
 Gp (ti:=36) (by kernel_rfl) (by kernel_rfl) underlying36 h
theorem Wg {W:World} {ev:Value} (h:W.cell? ⟨5,0,none⟩=some ev):RD W (fun _=>False) (.pointer (some ⟨5,0,none⟩)) (.ip [.v ev]):=RD.ae8 (by simp) h
theorem We {W:World} {ev:Value} (h:W.cell? ⟨6,0,none⟩=some ev):RD W (fun _=>False) (.pointer (some ⟨6,0,none⟩)) (.ip [.v ev]):=RD.ae8 (by simp) h
