/-
  Texts that belong together,in one file: RG.
-/
import Derived.Test.YtdigkhaofjmgkaaGreatDoorMk45
import Derived.Lib.LaidTab
set_option linter.unusedSimpArgs false
set_option linter.unusedVariables false
namespace Go.Proofs.YtdigkhaofjmgkaaGreatDoor
open Go.Av Go.ChangeShapes Go.WideShapes Go.ChangeAt Go.RowKit
def aez (l:List (Nat×D)):ao:=fun g=>l.lookup g
theorem Gv {W:World}:∀ {l:List (Nat×D)},(∀ p∈l,RD W (fun _=>False) (.pointer (some ⟨p.1,0,none⟩)) p.2)->∀ g x,aez l g=some x->RD W (fun _=>False) (.pointer (some ⟨g,0,none⟩)) x
 | [],_,g,x,hx=>by simp [aez] at hx
 | (a,y) :: l,h,g,x,hx=>by
  unfold aez at hx;rw [List.lookup_cons] at hx;split at hx
  .rename_i hg;obtain rfl:=Option.some.inj hx
   obtain rfl:g=a:=by simpa using hg
   exact h (g,y) (by simp)
  .exact Gv (fun p hp=>h p (by simp [hp])) g x hx
theorem Vy {W:World} (h:handlesMet Tryz.prog zb W):RD W (fun _=>False) (.pointer (some ⟨3,0,none⟩)) (.ip [.v lf]):=RD.xD (by simp) (afB h)
theorem VC {W:World} {m:Int} (h:W.cell? ⟨4,0,none⟩=some (.int .i64 m)):RD W (fun _=>False) (.pointer (some ⟨4,0,none⟩)) (.ip [ab m]):=RD.xD (by simp) h
theorem Vz {W:World} (h:laidMet Tryz.prog zc W):RD W (fun _=>False) (.pointer (some ⟨2,0,none⟩)) (.ip [ab 0,ab (-1)]):=by
 obtain ⟨f0,f1⟩:=Oc h;exact RD.MO (by simp) f0 f1
theorem VD {W:World} (h:laidMet Tryz.prog Ds W):RD W (fun _=>False) (.pointer (some ⟨1,0,none⟩)) (.ip [.sl none (zt.map fun s=>[.v (.string (bs s))])]):=KD (ws:=zt) (by simp [zt]) RO afM h
theorem VG {W:World} (h:laidMet Tryz.prog Dt W):RD W (fun _=>False) (.pointer (some ⟨0,0,none⟩)) (.ip [.sl none (zX.map fun s=>[.v (.string (bs s))])]):=KD (ws:=zX) (by simp [zX]) RT RU h
def zd:List (String×DataW Unit):=[("internal/strconv.uint64pow10",Rows.laid_internal_strconv_uint64pow10)]
theorem afN:(Rows.laid_internal_strconv_uint64pow10:DataW Unit)=Lib.tabData .u64 Lib.pow10Tab:=by kernel_rfl
theorem VE {W:World} (h:laidMet Tryz.prog zd W):RD W (fun _=>False) (.pointer (some ⟨7,0,none⟩)) (.tab (Lib.pow10Tab.map fun z=>Value.int .u64 z).toArray):=by
 unfold zd at h;rw [afN] at h
 have hg:Tryz.prog.globalNamed "internal/strconv.uint64pow10" = some 7:=by kernel_rfl
 have ht:=Lib.tabIs_of_head (n:=20) hg (by kernel_rfl) Tryz.underlying366 Tryz.underlying303 (by kernel_rfl) (by kernel_rfl) h;unfold Lib.TabIs World.var? at ht;rw [hg] at ht;simp only [Option.bind_some] at ht;split at ht
 .rename_i cs ty fr hh;obtain rfl:=Option.some.inj ht;exact .tab (by simp) hh
 .cases ht
def Dr:List (String×DataW Unit):=[("strconv.ErrSyntax",Rows.laid_strconv_ErrSyntax)]
def Dq:List (String×DataW Unit):=[("strconv.ErrRange",Rows.laid_strconv_ErrRange)]
theorem Gk {W:World} {nm dn:String} {dd:DataW Unit} {g:Nat} {ti:TypeId} {ms:Array (String×TypeId)} (hg:Tryz.prog.globalNamed nm=some g) (hT:(Tryz.prog.globals[g]?).map (·.type)=some ti) (hi:Tryz.prog.underlying ti=some (.interface ms))
  (h:laidMet Tryz.prog [(nm,.iface dn dd)] W):∃ ev,W.cell? ⟨g,0,none⟩=some ev/\uN ev:=by
 obtain ⟨ps,hv,_,_⟩:=h;obtain ⟨g',t,cs,fuel,p,q,Cr,ht,bW,htr,_,_⟩:=hv;obtain rfl:=Option.some.inj (hg.symm.trans Cr);obtain rfl:=Option.some.inj (hT.symm.trans ht);obtain ⟨fu,u,v,hcl,_⟩:=iface_of_trod hi htr;refine ⟨.iface u v,?_,.inr ⟨_,_,rfl⟩⟩;rw [World.var?_cell hg bW 0,<- Array.getElem?_toList,hcl];rfl
theorem W7 {W:World} (h:laidMet Tryz.prog Dr W):∃ ev,W.cell? ⟨5,0,none⟩=some ev/\uN ev:=
 Gk (ti:=36) (by kernel_rfl) (by kernel_rfl) Tryz.underlying36 h
theorem V5 {W:World} (h:laidMet Tryz.prog Dq W):∃ ev,W.cell? ⟨6,0,none⟩=some ev/\uN ev:=
 Gk (ti:=36) (by kernel_rfl) (by kernel_rfl) Tryz.underlying36 h
theorem VH {W:World} {ev:Value} (h:W.cell? ⟨5,0,none⟩=some ev):RD W (fun _=>False) (.pointer (some ⟨5,0,none⟩)) (.ip [.v ev]):=RD.xD (by simp) h
theorem VF {W:World} {ev:Value} (h:W.cell? ⟨6,0,none⟩=some ev):RD W (fun _=>False) (.pointer (some ⟨6,0,none⟩)) (.ip [.v ev]):=RD.xD (by simp) h
end Go.Proofs.YtdigkhaofjmgkaaGreatDoor
