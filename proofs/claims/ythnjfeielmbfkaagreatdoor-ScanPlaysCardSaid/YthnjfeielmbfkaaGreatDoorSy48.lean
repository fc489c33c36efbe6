/-
  Texts that belong together,in one file: L33.
-/
import Derived.Test.YthnjfeielmbfkaaGreatDoorSy47
import Derived.Test.YthnjfeielmbfkaaGreatDoorCards
import Derived.Test.YthnjfeielmbfkaaGreatDoorTie
import Derived.ChangeSame
import Derived.ChangeVars
import Derived.ChangeMaps5
import Derived.JoinedOf
import Derived.LaidMore
import Derived.LaidLaws
import Derived.LaidHandle
import Derived.Lay
set_option linter.unusedSimpArgs false
set_option linter.unusedVariables false
namespace Go.Proofs.YthnjfeielmbfkaaGreatDoor
open Go.Av Go.ChangeShapes Go.WideShapes Go.ChangeAt Go.RowKit
def laid_splays:List (String×DataW Unit):=Rows.scanPlaysRow.laid
def laid3_splays:List (String×DataW Unit):=[("math/bits.deBruijn32tab",Rows.laid_math_bits_deBruijn32tab),("math/bits.deBruijn64tab",Rows.laid_math_bits_deBruijn64tab),("internal/strconv.uint64pow10",Rows.laid_internal_strconv_uint64pow10),("unicode/utf8.acceptRanges",Rows.laid_unicode_utf8_acceptRanges),("strconv.ErrRange",Rows.laid_strconv_ErrRange),("strconv.ErrSyntax",Rows.laid_strconv_ErrSyntax),("signalcabin/signalcabinref.Fine",Rows.laid_signalcabin_signalcabinref_Fine),("signalcabin/signalcabinref.nameWords",Rows.laid_signalcabin_signalcabinref_nameWords),("signalcabin/signalcabinref.rungWords",Rows.laid_signalcabin_signalcabinref_rungWords),("unicode/utf8.first",Rows.laid_unicode_utf8_first)]
set_option maxRecDepth 100000 in
theorem splays_split:laid_splays.filter (fun x=>x.2.handleName?.isNone)=laid3_splays:=by kernel_rfl
theorem splays_rest {W:World} (h:laidMetH Tryz.prog laid_splays W):laidMet Tryz.prog laid3_splays W:=by
 have:=(laidMetH_iff.1 h).1;rwa [splays_split] at this
theorem splays_keep_fine:laid3_splays.filter (fun x=>x.1 == "signalcabin/signalcabinref.Fine")=laidF:=by kernel_rfl
theorem splays_fine {W:World} (h:laidMetH Tryz.prog laid_splays W):laidMet Tryz.prog laidF W:=by
 have:=(splays_rest h).filter fun x=>x.1 == "signalcabin/signalcabinref.Fine"
 rwa [splays_keep_fine] at this
theorem splays_keep_nw:laid3_splays.filter (fun x=>x.1 == "signalcabin/signalcabinref.nameWords")=laidNW:=by kernel_rfl
theorem splays_nw {W:World} (h:laidMetH Tryz.prog laid_splays W):laidMet Tryz.prog laidNW W:=by
 have:=(splays_rest h).filter fun x=>x.1 == "signalcabin/signalcabinref.nameWords"
 rwa [splays_keep_nw] at this
theorem splays_keep_rw:laid3_splays.filter (fun x=>x.1 == "signalcabin/signalcabinref.rungWords")=laidRW:=by kernel_rfl
theorem splays_rw {W:World} (h:laidMetH Tryz.prog laid_splays W):laidMet Tryz.prog laidRW W:=by
 have:=(splays_rest h).filter fun x=>x.1 == "signalcabin/signalcabinref.rungWords"
 rwa [splays_keep_rw] at this
theorem splays_keep_p10:laid3_splays.filter (fun x=>x.1 == "internal/strconv.uint64pow10")=laidP10:=by kernel_rfl
theorem splays_p10 {W:World} (h:laidMetH Tryz.prog laid_splays W):laidMet Tryz.prog laidP10 W:=by
 have:=(splays_rest h).filter fun x=>x.1 == "internal/strconv.uint64pow10"
 rwa [splays_keep_p10] at this
theorem splays_keep_syn:laid3_splays.filter (fun x=>x.1 == "strconv.ErrSyntax")=laidES:=by kernel_rfl
theorem splays_syn {W:World} (h:laidMetH Tryz.prog laid_splays W):laidMet Tryz.prog laidES W:=by
 have:=(splays_rest h).filter fun x=>x.1 == "strconv.ErrSyntax"
 rwa [splays_keep_syn] at this
theorem splays_keep_rng:laid3_splays.filter (fun x=>x.1 == "strconv.ErrRange")=laidER:=by kernel_rfl
theorem splays_rng {W:World} (h:laidMetH Tryz.prog laid_splays W):laidMet Tryz.prog laidER W:=by
 have:=(splays_rest h).filter fun x=>x.1 == "strconv.ErrRange"
 rwa [splays_keep_rng] at this
set_option maxRecDepth 100000 in
theorem splays_handles:laid_splays.filter (fun x=>x.2.handleName?.isSome)=laidE:=by kernel_rfl
theorem splays_err {W:World} (h:laidMetH Tryz.prog laid_splays W):handlesMet Tryz.prog laidE W:=by
 have:=h.2
 rw [← splays_handles];exact this
noncomputable def world_splays (os:Os):World:=
 let w0:=World.laidAll Tryz.prog os laid3_splays
 { w0 with heap:=w0.heap.modify 4 fun
   | .cells _ t frozen=>.cells #[errType] t frozen
   | o=>o }
set_option maxRecDepth 100000 in
theorem splays_met (os:Os) (args:Array Value):laidMetH Tryz.prog laid_splays ((world_splays os).forCall (fun _ _=>0) ⟨#[],args,[]⟩).memory:=by
 refine laidMetH_of_parts ?_ (by kernel_rfl)
 have e:(laid_splays.filter fun x=>x.2.handleName?.isNone)=laid3_splays:=splays_split
 rw [e];exact laidMet_of_run' 8 (by kernel_rfl) (by kernel_rfl)
def glob_splays (m:Int) (es:Value) (er:Value):Glob:=globL [(4,.ip [.v errType]),(0,.ip [dNum 0,dNum (-1)]),(5,.ip [dNum m]),(3,.ip [.sl none (nwL.map fun s=>[.v (.string (bs s))])]),(2,.ip [.sl none (rwL.map fun s=>[.v (.string (bs s))])]),(6,.tab (Lib.pow10Tab.map fun z=>Value.int .u64 z).toArray),(7,.ip [.v es]),(8,.ip [.v er])]
theorem glob_splays_ok {W:World} {m:Int} {es:Value} {er:Value} (hL:laidMetH Tryz.prog laid_splays W) (hm:W.cell? ⟨5,0,none⟩=some (.int .i64 m)) (hes:W.cell? ⟨7,0,none⟩=some es) (her:W.cell? ⟨8,0,none⟩=some er):∀ g x,glob_splays m es er g=some x→RD W (fun _=>False) (.pointer (some ⟨g,0,none⟩)) x:=globL_ok fun p hp=>by
 simp only [List.mem_cons,List.not_mem_nil,or_false] at hp
 rcases hp with rfl | rfl | rfl | rfl | rfl | rfl | rfl | rfl
 ·exact rd_err (splays_err hL)
 ·exact rd_fine (splays_fine hL)
 ·exact rd_max hm
 ·exact rd_nw (splays_nw hL)
 ·exact rd_rw (splays_rw hL)
 ·exact rd_p10 (splays_p10 hL)
 ·exact rd_syn hes
 ·exact rd_rng her
set_option maxRecDepth 100000 in
theorem splays_lifted (os:Os) (started:os.Started) (H:Type) (enc:TypeId×Value→H) :
  ReturnsInHanded {} Tryz.checked os 7 .any (fun w args=>(Rows.scanPlaysSpec.pre enc Tryz.prog Tryz.f7 [] false w args∧laidMetH Tryz.prog laid_splays w)∧sizedMet enc Tryz.prog Tryz.f7 (OpenSpec.ofChange Rows.scanPlaysSpec) false w args)
   (Rows.scanPlaysSpec.post enc Tryz.prog Tryz.f7 false true false false):=by
 refine handed_both (C:=Tryz.checked) (X:=fun w _=>laidMetH Tryz.prog laid_splays w) (fun _ _ _ hh h=>h.of_heap hh) law_own started (by kernel_rfl) Tryz.func7
  (ChangeSpec.witness_shaped (enc:=enc) (C:=Tryz.checked) (os:=os) (X:=fun w _=>laidMetH Tryz.prog laid_splays w) false (world_splays os) #[.string ⟨#[]⟩,.slice none 0 0,.bool false] 8 rfl (World.shaped_of_ZipB (by kernel_rfl) (by kernel_rfl)) (by kernel_rfl) (by kernel_rfl) (by kernel_rfl) (splays_met os _)) ?_
 intro W base args ds gs before hval0 hW hL hsh
 obtain ⟨m,hm⟩:=max_some hsh
 obtain ⟨es,hes,hes2⟩:=syn_some (splays_syn hL)
 obtain ⟨er,her,her2⟩:=rng_some (splays_rng hL)
 have hval:∀ (j:Nat) t v,Tryz.f7.params[j]? = some t→args[j]? = some v→Value.okWide Tryz.prog W .any base t v:=hval0
 have hW':=hW
 obtain ⟨p,q,hA0,hV,rfl,hfz,hnd⟩:=hW
 have hA:DataW.TrodAll enc Tryz.prog W 0 (fun _=>true) true Tryz.f7.params.toList args.toList ds p:=hA0
 have hlt:∀ x∈p,x.block < W.heap.size:=fun x hx=>by simpa using hW'.lt x (by simp [hx])
 have hback:∀ W',Below W.heap.size W W'→DataW.TrodAll enc Tryz.prog W' 0 (fun b=>decide (b < W.heap.size)) true Tryz.f7.params.toList args.toList ds p:=fun W' hb=>
  trodAll_below law_laidOut hb (by rw [Tryz.params7];intro t ht;simp at ht;rcases ht with rfl | rfl | rfl<;>exact ⟨by kernel_rfl,of_decide_eq_true (by kernel_rfl)⟩) hA hlt
 rw [Tryz.params7] at hA hval
 obtain ⟨v0,l0,d0,e0,a0,b0,hl0,rfl,rfl,h0,hA⟩:=trodAll_cons hA
 obtain ⟨v1,l1,d1,e1,a1,b1,rfl,rfl,rfl,h1,hA⟩:=trodAll_cons hA
 obtain ⟨v2,l2,d2,e2,a2,b2,rfl,rfl,rfl,h2,hA⟩:=trodAll_cons hA
 obtain ⟨rfl,rfl,rfl⟩:=trodAll_nil hA
 obtain rfl:args = #[v0,v1,v2]:=by
  apply Array.ext'
  simpa using hl0
 obtain ⟨rfl,rfl⟩:=trodVars_none hV
 obtain ⟨s0',rfl,rfl,rfl,_⟩:=Go.ChangeMaps.open_string Tryz.underlying9 (hval 0 9 v0 rfl rfl) h0
 obtain ⟨s0,rfl⟩:∃ s,s0'=bs s:=⟨s0'.data.toList,by cases s0';simp [bs]⟩
 have hrd0:RD W (fun _=>False) (.string (bs s0)) (dS s0):=.v _
 obtain ⟨sa1,sl1,sc1,rfl⟩:=okWide_slice Tryz.underlying25 (hval 1 25 v1 rfl rfl)
 obtain ⟨fuel1,hf1⟩:=h1
 obtain ⟨s1,_,hr1⟩:=reads_ints (X:=fun _=>False) (by simp) fuel1 _ _ hf1
 have hrd1:=RD.of_cell (by simp) hr1
 obtain ⟨s2,rfl,rfl,rfl⟩:=open_bool Tryz.underlying4 (hval 2 4 v2 rfl rfl) h2
 have hrd2:RD W (fun _=>False) (.bool s2) (.v (.bool s2)):=.v _
 refine (law_callsG (splays_law (glob_splays m es er) rfl ⟨m,rfl⟩ rfl rfl ⟨⟨rfl,hes2⟩,rfl,her2⟩ rfl rfl s0 s1 s2) (W:=W) (args:=#[.string (bs s0),.slice sa1 sl1 sc1,.bool s2]) (glob_splays_ok hL hm hes her) rfl (RD.at3 hrd0 hrd1 hrd2)).mono fun e W' ⟨he,hb⟩=>?_;subst he;exact ⟨_,rfl,_,_,_,[],_,[],hW',trodAll_mk1 (shut_bool Tryz.underlying4 _),hback W' hb,rfl,hb.frame _,fun h=>by cases h⟩
end Go.Proofs.YthnjfeielmbfkaaGreatDoor
