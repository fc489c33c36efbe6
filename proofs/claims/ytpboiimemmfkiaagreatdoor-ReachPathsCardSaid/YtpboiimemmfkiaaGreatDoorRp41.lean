/-
  Texts that belong together,in one file: L36.
-/
import Derived.Test.YtpboiimemmfkiaaGreatDoorRp40
import Derived.Test.YtpboiimemmfkiaaGreatDoorCards
import Derived.Test.YtpboiimemmfkiaaGreatDoorTie
import Derived.ChangeSame
import Derived.ChangeVars
import Derived.ChangeMaps5
import Derived.JoinedOf
import Derived.LaidMore
import Derived.LaidLaws
import Derived.LaidHandle
import Derived.Lay
set_option linter.unusedSimpArgs false
set_option linter.unusedVariables false
namespace Go.Proofs.YtpboiimemmfkiaaGreatDoor
open Go.Av Go.ChangeShapes Go.WideShapes Go.ChangeAt Go.RowKit
def laid_rpaths:List (String×DataW Unit):=Rows.reachPathsRow.laid
def laid3_rpaths:List (String×DataW Unit):=[("math/bits.deBruijn32tab",Rows.laid_math_bits_deBruijn32tab),("math/bits.deBruijn64tab",Rows.laid_math_bits_deBruijn64tab),("internal/strconv.uint64pow10",Rows.laid_internal_strconv_uint64pow10),("unicode/utf8.acceptRanges",Rows.laid_unicode_utf8_acceptRanges),("strconv.ErrRange",Rows.laid_strconv_ErrRange),("strconv.ErrSyntax",Rows.laid_strconv_ErrSyntax),("unicode/utf8.first",Rows.laid_unicode_utf8_first)]
set_option maxRecDepth 100000 in
theorem rpaths_split:laid_rpaths.filter (fun x=>x.2.handleName?.isNone)=laid3_rpaths:=by kernel_rfl
theorem rpaths_rest {W:World} (h:laidMetH Tryz.prog laid_rpaths W):laidMet Tryz.prog laid3_rpaths W:=by
 have:=(laidMetH_iff.1 h).1;rwa [rpaths_split] at this
theorem rpaths_keep_p10:laid3_rpaths.filter (fun x=>x.1 == "internal/strconv.uint64pow10")=laidP10:=by kernel_rfl
theorem rpaths_p10 {W:World} (h:laidMetH Tryz.prog laid_rpaths W):laidMet Tryz.prog laidP10 W:=by
 have:=(rpaths_rest h).filter fun x=>x.1 == "internal/strconv.uint64pow10"
 rwa [rpaths_keep_p10] at this
theorem rpaths_keep_syn:laid3_rpaths.filter (fun x=>x.1 == "strconv.ErrSyntax")=laidES:=by kernel_rfl
theorem rpaths_syn {W:World} (h:laidMetH Tryz.prog laid_rpaths W):laidMet Tryz.prog laidES W:=by
 have:=(rpaths_rest h).filter fun x=>x.1 == "strconv.ErrSyntax"
 rwa [rpaths_keep_syn] at this
theorem rpaths_keep_rng:laid3_rpaths.filter (fun x=>x.1 == "strconv.ErrRange")=laidER:=by kernel_rfl
theorem rpaths_rng {W:World} (h:laidMetH Tryz.prog laid_rpaths W):laidMet Tryz.prog laidER W:=by
 have:=(rpaths_rest h).filter fun x=>x.1 == "strconv.ErrRange"
 rwa [rpaths_keep_rng] at this
set_option maxRecDepth 100000 in
theorem rpaths_handles:laid_rpaths.filter (fun x=>x.2.handleName?.isSome)=laidE:=by kernel_rfl
theorem rpaths_err {W:World} (h:laidMetH Tryz.prog laid_rpaths W):handlesMet Tryz.prog laidE W:=by
 have:=h.2
 rw [← rpaths_handles];exact this
noncomputable def world_rpaths (os:Os):World:=
 let w0:=World.laidAll Tryz.prog os laid3_rpaths
 { w0 with heap:=w0.heap.modify 4 fun
   | .cells _ t frozen=>.cells #[errType] t frozen
   | o=>o }
set_option maxRecDepth 100000 in
theorem rpaths_met (os:Os) (args:Array Value):laidMetH Tryz.prog laid_rpaths ((world_rpaths os).forCall (fun _ _=>0) ⟨#[],args,[]⟩).memory:=by
 refine laidMetH_of_parts ?_ (by kernel_rfl)
 have e:(laid_rpaths.filter fun x=>x.2.handleName?.isNone)=laid3_rpaths:=rpaths_split
 rw [e];exact laidMet_of_run' 8 (by kernel_rfl) (by kernel_rfl)
def glob_rpaths (m:Int) (es:Value) (er:Value):Glob:=globL [(4,.ip [.v errType]),(5,.ip [dNum m]),(6,.tab (Lib.pow10Tab.map fun z=>Value.int .u64 z).toArray),(7,.ip [.v es]),(8,.ip [.v er])]
theorem glob_rpaths_ok {W:World} {m:Int} {es:Value} {er:Value} (hL:laidMetH Tryz.prog laid_rpaths W) (hm:W.cell? ⟨5,0,none⟩=some (.int .i64 m)) (hes:W.cell? ⟨7,0,none⟩=some es) (her:W.cell? ⟨8,0,none⟩=some er):∀ g x,glob_rpaths m es er g=some x→RD W (fun _=>False) (.pointer (some ⟨g,0,none⟩)) x:=globL_ok fun p hp=>by
 simp only [List.mem_cons,List.not_mem_nil,or_false] at hp
 rcases hp with rfl | rfl | rfl | rfl | rfl
 ·exact rd_err (rpaths_err hL)
 ·exact rd_max hm
 ·exact rd_p10 (rpaths_p10 hL)
 ·exact rd_syn hes
 ·exact rd_rng her
set_option maxRecDepth 100000 in
theorem rpaths_lifted (os:Os) (started:os.Started) (H:Type) (enc:TypeId×Value→H) :
  ReturnsInHanded {} Tryz.checked os 7 .any (fun w args=>(Rows.reachPathsSpec.pre enc Tryz.prog Tryz.f7 [] false w args∧laidMetH Tryz.prog laid_rpaths w)∧sizedMet enc Tryz.prog Tryz.f7 (OpenSpec.ofChange Rows.reachPathsSpec) false w args)
   (Rows.reachPathsSpec.post enc Tryz.prog Tryz.f7 false true false false):=by
 refine handed_both (C:=Tryz.checked) (X:=fun w _=>laidMetH Tryz.prog laid_rpaths w) (fun _ _ _ hh h=>h.of_heap hh) law_own started (by kernel_rfl) Tryz.func7
  (ChangeSpec.witness_shaped (enc:=enc) (C:=Tryz.checked) (os:=os) (X:=fun w _=>laidMetH Tryz.prog laid_rpaths w) false (world_rpaths os) #[.string ⟨#[]⟩,.int .i64 0] 8 rfl (World.shaped_of_ZipB (by kernel_rfl) (by kernel_rfl)) (by kernel_rfl) (by kernel_rfl) (by kernel_rfl) (rpaths_met os _)) ?_
 intro W base args ds gs before hval0 hW hL hsh
 obtain ⟨m,hm⟩:=max_some hsh
 obtain ⟨es,hes,hes2⟩:=syn_some (rpaths_syn hL)
 obtain ⟨er,her,her2⟩:=rng_some (rpaths_rng hL)
 have hval:∀ (j:Nat) t v,Tryz.f7.params[j]? = some t→args[j]? = some v→Value.okWide Tryz.prog W .any base t v:=hval0
 have hW':=hW
 obtain ⟨p,q,hA0,hV,rfl,hfz,hnd⟩:=hW
 have hA:DataW.TrodAll enc Tryz.prog W 0 (fun _=>true) true Tryz.f7.params.toList args.toList ds p:=hA0
 have hlt:∀ x∈p,x.block < W.heap.size:=fun x hx=>by simpa using hW'.lt x (by simp [hx])
 have hback:∀ W',Below W.heap.size W W'→DataW.TrodAll enc Tryz.prog W' 0 (fun b=>decide (b < W.heap.size)) true Tryz.f7.params.toList args.toList ds p:=fun W' hb=>
  trodAll_below law_laidOut hb (by rw [Tryz.params7];intro t ht;simp at ht;rcases ht with rfl | rfl<;>exact ⟨by kernel_rfl,of_decide_eq_true (by kernel_rfl)⟩) hA hlt
 rw [Tryz.params7] at hA hval
 obtain ⟨v0,l0,d0,e0,a0,b0,hl0,rfl,rfl,h0,hA⟩:=trodAll_cons hA
 obtain ⟨v1,l1,d1,e1,a1,b1,rfl,rfl,rfl,h1,hA⟩:=trodAll_cons hA
 obtain ⟨rfl,rfl,rfl⟩:=trodAll_nil hA
 obtain rfl:args = #[v0,v1]:=by
  apply Array.ext'
  simpa using hl0
 obtain ⟨rfl,rfl⟩:=trodVars_none hV
 obtain ⟨s0',rfl,rfl,rfl,_⟩:=Go.ChangeMaps.open_string Tryz.underlying9 (hval 0 9 v0 rfl rfl) h0
 obtain ⟨s0,rfl⟩:∃ s,s0'=bs s:=⟨s0'.data.toList,by cases s0';simp [bs]⟩
 have hrd0:RD W (fun _=>False) (.string (bs s0)) (dS s0):=.v _
 obtain ⟨s1,rfl,rfl,rfl,_⟩:=open_int Tryz.underlying3 (hval 1 3 v1 rfl rfl) h1
 have hrd1:RD W (fun _=>False) (.int .i64 s1) (.v (.int .i64 s1)):=.v _
 refine (law_callsG (rpaths_law (glob_rpaths m es er) ⟨m,rfl⟩ rfl rfl ⟨⟨rfl,hes2⟩,rfl,her2⟩ s0 s1) (W:=W) (args:=#[.string (bs s0),.int .i64 s1]) (glob_rpaths_ok hL hm hes her) rfl (RD.at2 hrd0 hrd1)).mono fun e W' ⟨he,hb⟩=>?_;subst he;exact ⟨_,rfl,_,_,_,[],_,[],hW',trodAll_mk1 (shut_bool Tryz.underlying4 _),hback W' hb,rfl,hb.frame _,fun h=>by cases h⟩
end Go.Proofs.YtpboiimemmfkiaaGreatDoor
