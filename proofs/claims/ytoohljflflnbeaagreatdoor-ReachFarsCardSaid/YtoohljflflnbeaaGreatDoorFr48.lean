/- Parts. -/
import Derived.Test.YtoohljflflnbeaaGreatDoorFr47
import Derived.Lib.LaidTab
set_option linter.unusedSimpArgs false
set_option linter.unusedVariables false
open Go.Proofs.Tryz
namespace Go.Proofs.YtoohljflflnbeaaGreatDoor
open Go.Av Go.ChangeShapes Go.WideShapes Go.ChangeAt Go.RowKit
def Fg (l:List (Nat×D)):ay:=fun g=>l.lookup g
theorem Pc {W:World}:∀ {l:List (Nat×D)},(∀ p∈l,RD W (fun _=>False) (.pointer (some ⟨p.1,0,none⟩)) p.2)->∀ g x,Fg l g=some x->RD W (fun _=>False) (.pointer (some ⟨g,0,none⟩)) x
 | [],_,g,x,hx=>by simp[Fg]at hx
 | (a,y) :: l,h,g,x,hx=>by
  unfold Fg at hx;rw[List.lookup_cons]at hx;split at hx
  .rename_i hg;obtain rfl:=AI hx
   obtain rfl:g=a:=by simpa using hg
   exact h (g,y) ak
  .exact Pc (fun p hp=>h p (by simp[hp])) g x hx
theorem aea {W:World} (h:handlesMet prog GJ W):RD W (fun _=>False) (.pointer (some ⟨4,0,none⟩)) (.ip [.v qs]):=RD.EJ ak (Zz h)
theorem aee {W:World} {m:Int} (h:W.cell? ⟨5,0,none⟩=some (.int .i64 m)):RD W (fun _=>False) (.pointer (some ⟨5,0,none⟩)) (.ip [ab m]):=RD.EJ ak h
theorem aeb {W:World} (h:laidMet prog GK W):RD W (fun _=>False) (.pointer (some ⟨0,0,none⟩)) (.ip [ab 0,ab (-1)]):=by
 obtain⟨f0,f1⟩:=Yo h;exact RD.WQ ak f0 f1
theorem aef {W:World} (h:laidMet prog Lz W):RD W (fun _=>False) (.pointer (some ⟨2,0,none⟩)) (.ip [.sl none (G2.map fun s=>[.v (.string (bs s))])]):=Uq (ws:=G2) (by simp[G2]) abw abx h
theorem aei {W:World} (h:laidMet prog LA W):RD W (fun _=>False) (.pointer (some ⟨3,0,none⟩)) (.ip [.sl none (Hu.map fun s=>[.v (.string (bs s))])]):=Uq (ws:=Hu) (by simp[Hu]) abB abC h
def GL:List (String×DataW Unit):=[("internal/strconv.uint64pow10",Rows.laid_internal_strconv_uint64pow10)]
theorem abz:(Rows.laid_internal_strconv_uint64pow10:DataW Unit)=Lib.tabData .u64 Lib.pow10Tab:=ah
theorem aeg {W:World} (h:laidMet prog GL W):RD W (fun _=>False) (.pointer (some ⟨6,0,none⟩)) (.qe (Lib.pow10Tab.map fun z=>Value.int .u64 z).toArray):=by
 unfold GL at h;rw[abz]at h
 have hg:prog.globalNamed "internal/strconv.uint64pow10" = some 6:=by kernel_rfl
 have ht:=Lib.tabIs_of_head (n:=20) hg ah underlying410 underlying377 ah ah h;unfold Lib.TabIs World.var? at ht;rw[hg]at ht;simp only[alp]at ht;split at ht
 .rename_i cs ty fr hh;obtain rfl:=AI ht;exact .qe ak hh
 .cases ht
def Ly:List (String×DataW Unit):=[("strconv.ErrSyntax",Rows.laid_strconv_ErrSyntax)]
def Lx:List (String×DataW Unit):=[("strconv.ErrRange",Rows.laid_strconv_ErrRange)]
theorem OY {W:World} {nm dn:String} {dd:DataW Unit} {g:Nat} {ti:TypeId} {ms:Array (String×TypeId)} (hg:prog.globalNamed nm=some g) (hT:(prog.globals[g]?).map (·.type)=some ti) (hi:prog.underlying ti=some (.interface ms))
  (h:laidMet prog [(nm,.iface dn dd)] W):∃ ev,W.cell? ⟨g,0,none⟩=some ev/\B0 ev:=by
 obtain⟨ps,hv,_,_⟩:=h;obtain⟨g',t,cs,fuel,p,q,Kc,ht,cO,ia,_,_⟩:=hv;obtain rfl:=AI (hg.symm.trans Kc);obtain rfl:=AI (hT.symm.trans ht);obtain⟨fu,u,v,cA,_⟩:=iface_of_trod hi ia;refine⟨.iface u v,?_,.inr ⟨_,_,rfl⟩⟩;rw[World.var?_cell hg cO 0,<- ajT,cA];rfl
theorem ahl {W:World} (h:laidMet prog Ly W):∃ ev,W.cell? ⟨7,0,none⟩=some ev/\B0 ev:=
 OY (ti:=30) ah ah underlying30 h
theorem agd {W:World} (h:laidMet prog Lx W):∃ ev,W.cell? ⟨8,0,none⟩=some ev/\B0 ev:=
 OY (ti:=30) ah ah underlying30 h
theorem aej {W:World} {ev:Value} (h:W.cell? ⟨7,0,none⟩=some ev):RD W (fun _=>False) (.pointer (some ⟨7,0,none⟩)) (.ip [.v ev]):=RD.EJ ak h
theorem aeh {W:World} {ev:Value} (h:W.cell? ⟨8,0,none⟩=some ev):RD W (fun _=>False) (.pointer (some ⟨8,0,none⟩)) (.ip [.v ev]):=RD.EJ ak h
