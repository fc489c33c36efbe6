/- Parts. -/
import Derived.Test.YtoohljflflnbeaaGreatDoorFr48
import Derived.Test.YtoohljflflnbeaaGreatDoorCards
import Derived.Test.YtoohljflflnbeaaGreatDoorTie
import Derived.ChangeSame
import Derived.ChangeVars
import Derived.ChangeMaps5
import Derived.JoinedOf
import Derived.LaidMore
set_option linter.unusedSimpArgs false
set_option linter.unusedVariables false
set_option maxRecDepth 100000
open Go.Proofs.Tryz
namespace Go.Proofs.YtoohljflflnbeaaGreatDoor
open Go.Av Go.ChangeShapes Go.WideShapes Go.ChangeAt Go.RowKit
def oD:List (String×DataW Unit):=Rows.reachFarsRow.laid
def tD:List (String×DataW Unit):=[("math/bits.deBruijn32tab",Rows.laid_math_bits_deBruijn32tab),("math/bits.deBruijn64tab",Rows.laid_math_bits_deBruijn64tab),("internal/strconv.uint64pow10",Rows.laid_internal_strconv_uint64pow10),("unicode/utf8.acceptRanges",Rows.laid_unicode_utf8_acceptRanges),("strconv.ErrRange",Rows.laid_strconv_ErrRange),("strconv.ErrSyntax",Rows.laid_strconv_ErrSyntax),("signalcabin/signalcabinref.Fine",Rows.laid_signalcabin_signalcabinref_Fine),("signalcabin/signalcabinref.nameWords",Rows.laid_signalcabin_signalcabinref_nameWords),("signalcabin/signalcabinref.rungWords",Rows.laid_signalcabin_signalcabinref_rungWords),("unicode/utf8.first",Rows.laid_unicode_utf8_first)]
theorem Ts:oD.filter (fun x=>x.2.handleName?.isNone)=tD:=ah
theorem Bo {W:World} (h:laidMetH prog oD W):laidMet prog tD W:=by
 have:=(laidMetH_iff.1 h).1;rwa [Ts]at this
theorem afJ:tD.filter (fun x=>x.1 == "signalcabin/signalcabinref.Fine")=GK:=by kernel_rfl
theorem ae9 {W:World} (h:laidMetH prog oD W):laidMet prog GK W:=by
 have:=(Bo h).filter fun x=>x.1 == "signalcabin/signalcabinref.Fine"
 rwa [afJ]at this
theorem afL:tD.filter (fun x=>x.1 == "internal/strconv.uint64pow10")=GL:=by kernel_rfl
theorem afW {W:World} (h:laidMetH prog oD W):laidMet prog GL W:=by
 have:=(Bo h).filter fun x=>x.1 == "internal/strconv.uint64pow10"
 rwa [afL]at this
theorem afO:tD.filter (fun x=>x.1 == "strconv.ErrSyntax")=Ly:=by kernel_rfl
theorem af0 {W:World} (h:laidMetH prog oD W):laidMet prog Ly W:=by
 have:=(Bo h).filter fun x=>x.1 == "strconv.ErrSyntax"
 rwa [afO]at this
theorem afM:tD.filter (fun x=>x.1 == "strconv.ErrRange")=Lx:=by kernel_rfl
theorem afX {W:World} (h:laidMetH prog oD W):laidMet prog Lx W:=by
 have:=(Bo h).filter fun x=>x.1 == "strconv.ErrRange"
 rwa [afM]at this
theorem afK:tD.filter (fun x=>x.1 == "signalcabin/signalcabinref.nameWords")=Lz:=by kernel_rfl
theorem afV {W:World} (h:laidMetH prog oD W):laidMet prog Lz W:=by
 have:=(Bo h).filter fun x=>x.1 == "signalcabin/signalcabinref.nameWords"
 rwa [afK]at this
theorem afN:tD.filter (fun x=>x.1 == "signalcabin/signalcabinref.rungWords")=LA:=by kernel_rfl
theorem afY {W:World} (h:laidMetH prog oD W):laidMet prog LA W:=by
 have:=(Bo h).filter fun x=>x.1 == "signalcabin/signalcabinref.rungWords"
 rwa [afN]at this
theorem afb:oD.filter (fun x=>x.2.handleName?.isSome)=GJ:=ah
theorem ae8 {W:World} (h:laidMetH prog oD W):handlesMet prog GJ W:=by
 have:=h.2;rw[<- afb];exact this
noncomputable def Ve (os:Os):World:=
 let w0:=World.laidAll prog os tD
 { w0 with heap:=w0.heap.modify 4 fun
   | .cells _ t frozen=>.cells #[qs] t frozen
   | o=>o }
theorem afT (os:Os) (args:Array Value):laidMetH prog oD ((Ve os).forCall (fun _ _=>0) ⟨#[],args,[]⟩).memory:=by
 refine laidMetH_of_parts ?_ ah;have e:(oD.filter fun x=>x.2.handleName?.isNone)=tD:=Ts;rw[e];exact laidMet_of_run' 8 ah ah
def Pd (m:Int) (es:Value) (er:Value):ay:=Fg [(4,.ip [.v qs]),(0,.ip [ab 0,ab (-1)]),(5,.ip [ab m]),(6,.qe (Lib.pow10Tab.map fun z=>Value.int .u64 z).toArray),(7,.ip [.v es]),(8,.ip [.v er]),(2,.ip [.sl none (G2.map fun s=>[.v (.string (bs s))])]),(3,.ip [.sl none (Hu.map fun s=>[.v (.string (bs s))])])]
theorem Yv {W:World} {m:Int} {es:Value} {er:Value} (hL:laidMetH prog oD W) (hm:W.cell? ⟨5,0,none⟩=some (.int .i64 m)) (xY:W.cell? ⟨7,0,none⟩=some es) (J2:W.cell? ⟨8,0,none⟩=some er):∀ g x,Pd m es er g=some x->RD W (fun _=>False) (.pointer (some ⟨g,0,none⟩)) x:=Pc fun p hp=>by
 simp only[ajX,List.not_mem_nil,or_false]at hp
 rcases hp with rfl | rfl | rfl | rfl | rfl | rfl | rfl | rfl
 .exact aea (ae8 hL)
 .exact aeb (ae9 hL)
 .exact aee hm
 .exact aeg (afW hL)
 .exact aej xY
 .exact aeh J2
 .exact aef (afV hL)
 .exact aei (afY hL)
theorem afQ (os:Os) (started:os.Started) (H:Type) (enc:TypeId×Value->H) :
  ReturnsInHanded {} Tryz.checked os 10 .any (fun w args=>(Rows.reachFarsSpec.pre enc prog Tryz.f10 [] false w args/\laidMetH prog oD w)/\sizedMet enc prog Tryz.f10 (OpenSpec.ofChange Rows.reachFarsSpec) false w args)
   (Rows.reachFarsSpec.post enc prog Tryz.f10 false true false false):=by
 refine Zy (C:=Tryz.checked) (X:=fun w _=>laidMetH prog oD w) (fun _ _ _ hh h=>h.of_heap hh) abG started ah func10
  (ChangeSpec.witness_shaped (enc:=enc) (C:=Tryz.checked) (os:=os) (X:=fun w _=>laidMetH prog oD w) false (Ve os) #[.string ⟨#[]⟩,.int .i64 0] 8 rfl (World.shaped_of_ZipB ah ah) ah ah ah (afT os _)) ?_
 intro W base args ds gs before aa1 hW hL va;obtain⟨m,hm⟩:=acy va;obtain⟨es,xY,Z8⟩:=ahl (af0 hL);obtain⟨er,J2,Z7⟩:=agd (afX hL);have pa:∀ (j:Nat) t v,Tryz.f10.params[j]? = some t->args[j]? = some v->Value.okWide prog W .any base t v:=aa1;have PX:=hW;obtain⟨p,q,Jk,hV,rfl,Qf,pQ⟩:=hW;have hA:DataW.TrodAll enc prog W 0 (fun _=>true) true Tryz.f10.params.toList args.toList ds p:=Jk
 have aH:∀ x∈p,x.block < W.heap.size:=fun x hx=>by simpa using PX.lt x (by simp[hx])
 have ZC:∀ W',Below W.heap.size W W'->DataW.TrodAll enc prog W' 0 (fun b=>decide (b < W.heap.size)) true Tryz.f10.params.toList args.toList ds p:=fun W' hb=>
  US abF hb (by rw[Tryz.params10];intro t ht;simp at ht;rcases ht with rfl | rfl<;>exact⟨ah,of_decide_eq_true ah⟩) hA aH
 rw[Tryz.params10]at hA pa;obtain⟨v0,l0,d0,e0,a0,b0,F1,rfl,rfl,h0,hA⟩:=trodAll_cons hA;obtain⟨v1,l1,d1,e1,a1,b1,rfl,rfl,rfl,h1,hA⟩:=trodAll_cons hA;obtain⟨rfl,rfl,rfl⟩:=trodAll_nil hA
 obtain rfl:args = #[v0,v1]:=by
  apply Array.ext';simpa using F1
 obtain⟨rfl,rfl⟩:=trodVars_none hV;obtain⟨MP,rfl,rfl,rfl,_⟩:=Go.ChangeMaps.open_string underlying9 (pa 0 9 v0 rfl rfl) h0;obtain⟨s0,rfl⟩:∃ s,MP=bs s:=⟨MP.data.toList,by cases MP;simp[bs]⟩;have aaO:RD W (fun _=>False) (.string (bs s0)) (dS s0):=.v _;obtain⟨s1,rfl,rfl,rfl,_⟩:=open_int underlying3 (pa 1 3 v1 rfl rfl) h1;have aaP:RD W (fun _=>False) (.int .i64 s1) (.v (.int .i64 s1)):=.v _;refine (abE (afP (Pd m es er) rfl ⟨m,rfl⟩ rfl rfl ⟨⟨rfl,Z8⟩,rfl,Z7⟩ rfl rfl s0 s1) (W:=W) (args:=#[.string (bs s0),.int .i64 s1]) (Yv hL hm xY J2) rfl (RD.EA aaO aaP)).mono fun e W' ⟨he,hb⟩=>?_;subst he;exact⟨_,rfl,_,_,_,[],_,[],PX,trodAll_mk1 (shut_bool underlying4 _),ZC W' hb,rfl,hb.frame _,fun h=>by cases h⟩
