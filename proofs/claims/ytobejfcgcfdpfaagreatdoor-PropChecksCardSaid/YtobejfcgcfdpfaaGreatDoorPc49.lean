/- Parts. -/
import Derived.Test.YtobejfcgcfdpfaaGreatDoorPc48
import Derived.Lib.LaidTab
set_option linter.unusedSimpArgs false
set_option linter.unusedVariables false
open Go.Proofs.Tryz
namespace Go.Proofs.YtobejfcgcfdpfaaGreatDoor
open Go.Av Go.ChangeShapes Go.WideShapes Go.ChangeAt Go.RowKit
def GU (l:List (Nat×D)):aB:=fun g=>l.lookup g
theorem Rr {W:World}:∀ {l:List (Nat×D)},(∀ p∈l,RD W (fun _=>False) (.pointer (some ⟨p.1,0,none⟩)) p.2)->∀ g x,GU l g=some x->RD W (fun _=>False) (.pointer (some ⟨g,0,none⟩)) x
 | [],_,g,x,hx=>by simp[GU]at hx
 | (a,y) :: l,h,g,x,hx=>by
  unfold GU at hx;rw[List.lookup_cons]at hx;split at hx
  .rename_i hg;obtain rfl:=AI hx
   obtain rfl:g=a:=by simpa using hg
   exact h (g,y) ak
  .exact Rr (fun p hp=>h p (by simp[hp])) g x hx
theorem ahX {W:World} (h:handlesMet prog Iw W):RD W (fun _=>False) (.pointer (some ⟨3,0,none⟩)) (.ip [.v rv]):=RD.Gj ak (abM h)
theorem ah1 {W:World} {m:Int} (h:W.cell? ⟨4,0,none⟩=some (.int .i64 m)):RD W (fun _=>False) (.pointer (some ⟨4,0,none⟩)) (.ip [ab m]):=RD.Gj ak h
theorem ahY {W:World} (h:laidMet prog Ix W):RD W (fun _=>False) (.pointer (some ⟨0,0,none⟩)) (.ip [ab 0,ab (-1)]):=by
 obtain⟨f0,f1⟩:=aa1 h;exact RD.ZE ak f0 f1
theorem ah2 {W:World} (h:laidMet prog NL W):RD W (fun _=>False) (.pointer (some ⟨2,0,none⟩)) (.ip [.sl none (IW.map fun s=>[.v (.string (bs s))])]):=Xe (ws:=IW) (by simp[IW]) adR adS h
theorem ah5 {W:World} (h:laidMet prog NM W):RD W (fun _=>False) (.pointer (some ⟨1,0,none⟩)) (.ip [.sl none (Jr.map fun s=>[.v (.string (bs s))])]):=Xe (ws:=Jr) (by simp[Jr]) adW adX h
def Iy:List (String×DataW Unit):=[("internal/strconv.uint64pow10",Rows.laid_internal_strconv_uint64pow10)]
theorem adU:(Rows.laid_internal_strconv_uint64pow10:DataW Unit)=Lib.tabData .u64 Lib.pow10Tab:=ah
theorem ah3 {W:World} (h:laidMet prog Iy W):RD W (fun _=>False) (.pointer (some ⟨7,0,none⟩)) (.ra (Lib.pow10Tab.map fun z=>Value.int .u64 z).toArray):=by
 unfold Iy at h;rw[adU]at h
 have hg:prog.globalNamed "internal/strconv.uint64pow10" = some 7:=by kernel_rfl
 have ht:=Lib.tabIs_of_head (n:=20) hg ah underlying320 underlying237 ah ah h;unfold Lib.TabIs World.var? at ht;rw[hg]at ht;simp only[an3]at ht;split at ht
 .rename_i cs ty fr hh;obtain rfl:=AI ht;exact .ra ak hh
 .cases ht
def NK:List (String×DataW Unit):=[("strconv.ErrSyntax",Rows.laid_strconv_ErrSyntax)]
def NJ:List (String×DataW Unit):=[("strconv.ErrRange",Rows.laid_strconv_ErrRange)]
theorem Rf {W:World} {nm dn:String} {dd:DataW Unit} {g:Nat} {ti:TypeId} {ms:Array (String×TypeId)} (hg:prog.globalNamed nm=some g) (hT:(prog.globals[g]?).map (·.type)=some ti) (hi:prog.underlying ti=some (.interface ms))
  (h:laidMet prog [(nm,.iface dn dd)] W):∃ ev,W.cell? ⟨g,0,none⟩=some ev/\Dr ev:=by
 obtain⟨ps,hv,_,_⟩:=h;obtain⟨g',t,cs,fuel,p,q,Mk,ht,cY,iI,_,_⟩:=hv;obtain rfl:=AI (hg.symm.trans Mk);obtain rfl:=AI (hT.symm.trans ht);obtain⟨fu,u,v,cH,_⟩:=iface_of_trod hi iI;refine⟨.iface u v,?_,.inr ⟨_,_,rfl⟩⟩;rw[World.var?_cell hg cY 0,<- ams,cH];rfl
theorem ajG {W:World} (h:laidMet prog NK W):∃ ev,W.cell? ⟨5,0,none⟩=some ev/\Dr ev:=
 Rf (ti:=33) ah ah underlying33 h
theorem aiA {W:World} (h:laidMet prog NJ W):∃ ev,W.cell? ⟨6,0,none⟩=some ev/\Dr ev:=
 Rf (ti:=33) ah ah underlying33 h
theorem ah6 {W:World} {ev:Value} (h:W.cell? ⟨5,0,none⟩=some ev):RD W (fun _=>False) (.pointer (some ⟨5,0,none⟩)) (.ip [.v ev]):=RD.Gj ak h
theorem ah4 {W:World} {ev:Value} (h:W.cell? ⟨6,0,none⟩=some ev):RD W (fun _=>False) (.pointer (some ⟨6,0,none⟩)) (.ip [.v ev]):=RD.Gj ak h
