/-
  Texts that belong together,in one file: L37.
-/
import Derived.Test.YtdigkhaofjmgkaaGreatDoorMk46
import Derived.Test.YtdigkhaofjmgkaaGreatDoorCards
import Derived.Test.YtdigkhaofjmgkaaGreatDoorTie
import Derived.ChangeSame
import Derived.ChangeVars
import Derived.ChangeMaps5
import Derived.JoinedOf
import Derived.LaidMore
set_option linter.unusedSimpArgs false
set_option linter.unusedVariables false
namespace Go.Proofs.YtdigkhaofjmgkaaGreatDoor
open Go.Av Go.ChangeShapes Go.WideShapes Go.ChangeAt Go.RowKit
def j2:List (String×DataW Unit):=Rows.machineMakesRow.laid
def ac1:List (String×DataW Unit):=[("math/bits.deBruijn32tab",Rows.laid_math_bits_deBruijn32tab),("math/bits.deBruijn64tab",Rows.laid_math_bits_deBruijn64tab),("internal/strconv.uint64pow10",Rows.laid_internal_strconv_uint64pow10),("unicode/utf8.acceptRanges",Rows.laid_unicode_utf8_acceptRanges),("strconv.ErrRange",Rows.laid_strconv_ErrRange),("strconv.ErrSyntax",Rows.laid_strconv_ErrSyntax),("signalcabin/signalcabinref.Fine",Rows.laid_signalcabin_signalcabinref_Fine),("signalcabin/signalcabinref.nameWords",Rows.laid_signalcabin_signalcabinref_nameWords),("signalcabin/signalcabinref.rungWords",Rows.laid_signalcabin_signalcabinref_rungWords),("unicode/utf8.first",Rows.laid_unicode_utf8_first)]
set_option maxRecDepth 100000 in
theorem IM:j2.filter (fun x=>x.2.handleName?.isNone)=ac1:=by kernel_rfl
theorem ad6 {W:World} (h:laidMetH Tryz.prog j2 W):laidMet Tryz.prog ac1 W:=by
 have:=(laidMetH_iff.1 h).1;rwa [IM] at this
theorem TT:ac1.filter (fun x=>x.1 == "signalcabin/signalcabinref.Fine")=zc:=by kernel_rfl
theorem Tj {W:World} (h:laidMetH Tryz.prog j2 W):laidMet Tryz.prog zc W:=by
 have:=(ad6 h).filter fun x=>x.1 == "signalcabin/signalcabinref.Fine"
 rwa [TT] at this
theorem TV:ac1.filter (fun x=>x.1 == "internal/strconv.uint64pow10")=zd:=by kernel_rfl
theorem T6 {W:World} (h:laidMetH Tryz.prog j2 W):laidMet Tryz.prog zd W:=by
 have:=(ad6 h).filter fun x=>x.1 == "internal/strconv.uint64pow10"
 rwa [TV] at this
theorem TY:ac1.filter (fun x=>x.1 == "strconv.ErrSyntax")=Dr:=by kernel_rfl
theorem Ua {W:World} (h:laidMetH Tryz.prog j2 W):laidMet Tryz.prog Dr W:=by
 have:=(ad6 h).filter fun x=>x.1 == "strconv.ErrSyntax"
 rwa [TY] at this
theorem TW:ac1.filter (fun x=>x.1 == "strconv.ErrRange")=Dq:=by kernel_rfl
theorem T7 {W:World} (h:laidMetH Tryz.prog j2 W):laidMet Tryz.prog Dq W:=by
 have:=(ad6 h).filter fun x=>x.1 == "strconv.ErrRange"
 rwa [TW] at this
theorem TU:ac1.filter (fun x=>x.1 == "signalcabin/signalcabinref.nameWords")=Ds:=by kernel_rfl
theorem T5 {W:World} (h:laidMetH Tryz.prog j2 W):laidMet Tryz.prog Ds W:=by
 have:=(ad6 h).filter fun x=>x.1 == "signalcabin/signalcabinref.nameWords"
 rwa [TU] at this
theorem TX:ac1.filter (fun x=>x.1 == "signalcabin/signalcabinref.rungWords")=Dt:=by kernel_rfl
theorem T8 {W:World} (h:laidMetH Tryz.prog j2 W):laidMet Tryz.prog Dt W:=by
 have:=(ad6 h).filter fun x=>x.1 == "signalcabin/signalcabinref.rungWords"
 rwa [TX] at this
set_option maxRecDepth 100000 in
theorem Tl:j2.filter (fun x=>x.2.handleName?.isSome)=zb:=by kernel_rfl
theorem Ti {W:World} (h:laidMetH Tryz.prog j2 W):handlesMet Tryz.prog zb W:=by
 have:=h.2;rw [<- Tl];exact this
noncomputable def Lj (os:Os):World:=
 let w0:=World.laidAll Tryz.prog os ac1
 { w0 with heap:=w0.heap.modify 3 fun
   | .cells _ t frozen=>.cells #[lf] t frozen
   | o=>o }
set_option maxRecDepth 100000 in
theorem T3 (os:Os) (args:Array Value):laidMetH Tryz.prog j2 ((Lj os).forCall (fun _ _=>0) ⟨#[],args,[]⟩).memory:=by
 refine laidMetH_of_parts ?_ (by kernel_rfl);have e:(j2.filter fun x=>x.2.handleName?.isNone)=ac1:=IM;rw [e];exact laidMet_of_run' 8 (by kernel_rfl) (by kernel_rfl)
def Gw (m:Int) (es:Value) (er:Value):ao:=aez [(3,.ip [.v lf]),(2,.ip [ab 0,ab (-1)]),(4,.ip [ab m]),(7,.tab (Lib.pow10Tab.map fun z=>Value.int .u64 z).toArray),(5,.ip [.v es]),(6,.ip [.v er]),(1,.ip [.sl none (zt.map fun s=>[.v (.string (bs s))])]),(0,.ip [.sl none (zX.map fun s=>[.v (.string (bs s))])])]
theorem Oj {W:World} {m:Int} {es:Value} {er:Value} (hL:laidMetH Tryz.prog j2 W) (hm:W.cell? ⟨4,0,none⟩=some (.int .i64 m)) (qW:W.cell? ⟨5,0,none⟩=some es) (Ch:W.cell? ⟨6,0,none⟩=some er):∀ g x,Gw m es er g=some x->RD W (fun _=>False) (.pointer (some ⟨g,0,none⟩)) x:=Gv fun p hp=>by
 simp only [List.mem_cons,List.not_mem_nil,or_false] at hp
 rcases hp with rfl | rfl | rfl | rfl | rfl | rfl | rfl | rfl
 .exact Vy (Ti hL)
 .exact Vz (Tj hL)
 .exact VC hm
 .exact VE (T6 hL)
 .exact VH qW
 .exact VF Ch
 .exact VD (T5 hL)
 .exact VG (T8 hL)
set_option maxRecDepth 100000 in
theorem T0 (os:Os) (started:os.Started) (H:Type) (enc:TypeId×Value->H) :
  ReturnsInHanded {} Tryz.checked os 3 .any (fun w args=>(Rows.machineMakesSpec.pre enc Tryz.prog Tryz.f3 [] false w args/\laidMetH Tryz.prog j2 w)/\sizedMet enc Tryz.prog Tryz.f3 (OpenSpec.ofChange Rows.machineMakesSpec) false w args)
   (Rows.machineMakesSpec.post enc Tryz.prog Tryz.f3 false true false false):=by
 refine Pk (C:=Tryz.checked) (X:=fun w _=>laidMetH Tryz.prog j2 w) (fun _ _ _ hh h=>h.of_heap hh) RY started (by kernel_rfl) Tryz.func3
  (ChangeSpec.witness_shaped (enc:=enc) (C:=Tryz.checked) (os:=os) (X:=fun w _=>laidMetH Tryz.prog j2 w) false (Lj os) #[.string ⟨#[]⟩] 8 rfl (World.shaped_of_ZipB (by kernel_rfl) (by kernel_rfl)) (by kernel_rfl) (by kernel_rfl) (by kernel_rfl) (T3 os _)) ?_
 intro W base args ds gs before Ra hW hL oL;obtain ⟨m,hm⟩:=SF oL;obtain ⟨es,qW,PU⟩:=W7 (Ua hL);obtain ⟨er,Ch,afG⟩:=V5 (T7 hL);have kQ:∀ (j:Nat) t v,Tryz.f3.params[j]? = some t->args[j]? = some v->Value.okWide Tryz.prog W .any base t v:=Ra;have GZ:=hW;obtain ⟨p,q,BB,hV,rfl,Yw,eY⟩:=hW;have hA:DataW.TrodAll enc Tryz.prog W 0 (fun _=>true) true Tryz.f3.params.toList args.toList ds p:=BB
 have ax:∀ x∈p,x.block < W.heap.size:=fun x hx=>by simpa using GZ.lt x (by simp [hx])
 have Po:∀ W',Below W.heap.size W W'->DataW.TrodAll enc Tryz.prog W' 0 (fun b=>decide (b < W.heap.size)) true Tryz.f3.params.toList args.toList ds p:=fun W' hb=>
  afd RX hb (by rw [Tryz.params3];intro t ht;simp at ht;subst ht<;>exact ⟨by kernel_rfl,of_decide_eq_true (by kernel_rfl)⟩) hA ax
 rw [Tryz.params3] at hA kQ;obtain ⟨v0,l0,d0,e0,a0,b0,Qp,rfl,rfl,h0,hA⟩:=trodAll_cons hA;obtain ⟨rfl,rfl,rfl⟩:=trodAll_nil hA
 obtain rfl:args = #[v0]:=by
  apply Array.ext';simpa using Qp
 obtain ⟨rfl,rfl⟩:=trodVars_none hV;obtain ⟨Eu,rfl,rfl,rfl,_⟩:=Go.ChangeMaps.open_string Tryz.underlying9 (kQ 0 9 v0 rfl rfl) h0;obtain ⟨s0,rfl⟩:∃ s,Eu=bs s:=⟨Eu.data.toList,by cases Eu;simp [bs]⟩;have QU:RD W (fun _=>False) (.string (bs s0)) (dS s0):=.v _;refine (afQ (TZ (Gw m es er) rfl ⟨m,rfl⟩ rfl rfl ⟨⟨rfl,PU⟩,rfl,afG⟩ rfl rfl s0) (W:=W) (args:=#[.string (bs s0)]) (Oj hL hm qW Ch) rfl (RD.xv QU)).mono fun e W' ⟨he,hb⟩=>?_;subst he;exact ⟨_,rfl,_,_,_,[],_,[],GZ,trodAll_mk1 (shut_bool Tryz.underlying4 _),Po W' hb,rfl,hb.frame _,fun h=>by cases h⟩
end Go.Proofs.YtdigkhaofjmgkaaGreatDoor
