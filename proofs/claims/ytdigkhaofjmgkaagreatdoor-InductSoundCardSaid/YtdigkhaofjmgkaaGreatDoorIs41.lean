/-
  Texts that belong together,in one file: L41.
-/
import Derived.Test.YtdigkhaofjmgkaaGreatDoorIs40
import Derived.Test.YtdigkhaofjmgkaaGreatDoorCards
import Derived.Test.YtdigkhaofjmgkaaGreatDoorTie
import Derived.ChangeSame
import Derived.ChangeVars
import Derived.ChangeMaps5
import Derived.JoinedOf
import Derived.LaidMore
set_option linter.unusedSimpArgs false
set_option linter.unusedVariables false
namespace Go.Proofs.YtdigkhaofjmgkaaGreatDoor
open Go.Av Go.ChangeShapes Go.WideShapes Go.ChangeAt Go.RowKit
def ku:List (String×DataW Unit):=Rows.inductSoundRow.laid
def qm:List (String×DataW Unit):=[("math/bits.deBruijn32tab",Rows.laid_math_bits_deBruijn32tab),("math/bits.deBruijn64tab",Rows.laid_math_bits_deBruijn64tab),("internal/strconv.uint64pow10",Rows.laid_internal_strconv_uint64pow10),("unicode/utf8.acceptRanges",Rows.laid_unicode_utf8_acceptRanges),("strconv.ErrRange",Rows.laid_strconv_ErrRange),("strconv.ErrSyntax",Rows.laid_strconv_ErrSyntax),("unicode/utf8.first",Rows.laid_unicode_utf8_first)]
set_option maxRecDepth 100000 in
theorem Hf:ku.filter (fun x=>x.2.handleName?.isNone)=qm:=by kernel_rfl
theorem BQ {W:World} (h:laidMetH Tryz.prog ku W):laidMet Tryz.prog qm W:=by
 have:=(laidMetH_iff.1 h).1;rwa [Hf] at this
theorem Sb:qm.filter (fun x=>x.1 == "internal/strconv.uint64pow10")=xB:=by kernel_rfl
theorem Sk {W:World} (h:laidMetH Tryz.prog ku W):laidMet Tryz.prog xB W:=by
 have:=(BQ h).filter fun x=>x.1 == "internal/strconv.uint64pow10"
 rwa [Sb] at this
theorem Sd:qm.filter (fun x=>x.1 == "strconv.ErrSyntax")=BW:=by kernel_rfl
theorem Sn {W:World} (h:laidMetH Tryz.prog ku W):laidMet Tryz.prog BW W:=by
 have:=(BQ h).filter fun x=>x.1 == "strconv.ErrSyntax"
 rwa [Sd] at this
theorem Sc:qm.filter (fun x=>x.1 == "strconv.ErrRange")=BV:=by kernel_rfl
theorem Sl {W:World} (h:laidMetH Tryz.prog ku W):laidMet Tryz.prog BV W:=by
 have:=(BQ h).filter fun x=>x.1 == "strconv.ErrRange"
 rwa [Sc] at this
set_option maxRecDepth 100000 in
theorem RC:ku.filter (fun x=>x.2.handleName?.isSome)=xA:=by kernel_rfl
theorem aej {W:World} (h:laidMetH Tryz.prog ku W):handlesMet Tryz.prog xA W:=by
 have:=h.2;rw [<- RC];exact this
noncomputable def J6 (os:Os):World:=
 let w0:=World.laidAll Tryz.prog os qm
 { w0 with heap:=w0.heap.modify 3 fun
   | .cells _ t frozen=>.cells #[lB] t frozen
   | o=>o }
set_option maxRecDepth 100000 in
theorem Si (os:Os) (args:Array Value):laidMetH Tryz.prog ku ((J6 os).forCall (fun _ _=>0) ⟨#[],args,[]⟩).memory:=by
 refine laidMetH_of_parts ?_ (by kernel_rfl);have e:(ku.filter fun x=>x.2.handleName?.isNone)=qm:=Hf;rw [e];exact laidMet_of_run' 8 (by kernel_rfl) (by kernel_rfl)
def E4 (m:Int) (es:Value) (er:Value):YJ:=wg [(3,.ip [.v lB]),(4,.ip [YH m]),(7,.j0 (Lib.pow10Tab.map fun z=>Value.int .u64 z).toArray),(5,.ip [.v es]),(6,.ip [.v er])]
theorem M8 {W:World} {m:Int} {es:Value} {er:Value} (hL:laidMetH Tryz.prog ku W) (hm:W.cell? ⟨4,0,none⟩=some (.int .i64 m)) (hes:W.cell? ⟨5,0,none⟩=some es) (her:W.cell? ⟨6,0,none⟩=some er):∀ g x,E4 m es er g=some x->RD W (fun _=>False) (.pointer (some ⟨g,0,none⟩)) x:=E2 fun p hp=>by
 simp only [List.mem_cons,List.not_mem_nil,or_false] at hp
 rcases hp with rfl | rfl | rfl | rfl | rfl
 .exact UK (aej hL)
 .exact UN hm
 .exact UO (Sk hL)
 .exact UR hes
 .exact UP her
set_option maxRecDepth 100000 in
theorem Sf (os:Os) (started:os.Started) (H:Type) (enc:TypeId×Value->H) :
  ReturnsInHanded {} Tryz.checked os 10 .any (fun w args=>(Rows.inductSoundSpec.pre enc Tryz.prog Tryz.f10 [] false w args/\laidMetH Tryz.prog ku w)/\sizedMet enc Tryz.prog Tryz.f10 (OpenSpec.ofChange Rows.inductSoundSpec) false w args)
   (Rows.inductSoundSpec.post enc Tryz.prog Tryz.f10 false true false false):=by
 refine Oo (C:=Tryz.checked) (X:=fun w _=>laidMetH Tryz.prog ku w) (fun _ _ _ hh h=>h.of_heap hh) SM started (by kernel_rfl) Tryz.func10
  (ChangeSpec.witness_shaped (enc:=enc) (C:=Tryz.checked) (os:=os) (X:=fun w _=>laidMetH Tryz.prog ku w) false (J6 os) #[.string ⟨#[]⟩,.string ⟨#[]⟩,.int .i64 0] 8 rfl (World.shaped_of_ZipB (by kernel_rfl) (by kernel_rfl)) (by kernel_rfl) (by kernel_rfl) (by kernel_rfl) (Si os _)) ?_
 intro W base args ds gs before QC hW hL nH;obtain ⟨m,hm⟩:=Tl nH;obtain ⟨es,hes,O0⟩:=Wk (Sn hL);obtain ⟨er,her,OZ⟩:=Vf (Sl hL);have abi:∀ (j:Nat) t v,Tryz.f10.params[j]? = some t->args[j]? = some v->Value.okWide Tryz.prog W .any base t v:=QC;have FP:=hW;obtain ⟨p,q,zV,hV,rfl,XG,ZU⟩:=hW;have hA:DataW.TrodAll enc Tryz.prog W 0 (fun _=>true) true Tryz.f10.params.toList args.toList ds p:=zV
 have YK:∀ x∈p,x.block < W.heap.size:=fun x hx=>by simpa using FP.lt x (by simp [hx])
 have Ow:∀ W',Below W.heap.size W W'->DataW.TrodAll enc Tryz.prog W' 0 (fun b=>decide (b < W.heap.size)) true Tryz.f10.params.toList args.toList ds p:=fun W' hb=>
  JP SL hb (by rw [Tryz.params10];intro t ht;simp at ht;rcases ht with rfl | rfl<;>exact ⟨by kernel_rfl,of_decide_eq_true (by kernel_rfl)⟩) hA YK
 rw [Tryz.params10] at hA abi;obtain ⟨v0,l0,d0,e0,a0,b0,wY,rfl,rfl,h0,hA⟩:=trodAll_cons hA;obtain ⟨v1,l1,d1,e1,a1,b1,rfl,rfl,rfl,h1,hA⟩:=trodAll_cons hA;obtain ⟨v2,l2,d2,e2,a2,b2,rfl,rfl,rfl,h2,hA⟩:=trodAll_cons hA;obtain ⟨rfl,rfl,rfl⟩:=trodAll_nil hA
 obtain rfl:args = #[v0,v1,v2]:=by
  apply Array.ext';simpa using wY
 obtain ⟨rfl,rfl⟩:=trodVars_none hV;obtain ⟨CR,rfl,rfl,rfl,_⟩:=Go.ChangeMaps.open_string Tryz.underlying9 (abi 0 9 v0 rfl rfl) h0;obtain ⟨s0,rfl⟩:∃ s,CR=bs s:=⟨CR.data.toList,by cases CR;simp [bs]⟩;have P7:RD W (fun _=>False) (.string (bs s0)) (dS s0):=.v _;obtain ⟨s1',rfl,rfl,rfl,_⟩:=Go.ChangeMaps.open_string Tryz.underlying9 (abi 1 9 v1 rfl rfl) h1;obtain ⟨s1,rfl⟩:∃ s,s1'=bs s:=⟨s1'.data.toList,by cases s1';simp [bs]⟩;have P8:RD W (fun _=>False) (.string (bs s1)) (dS s1):=.v _;obtain ⟨s2,rfl,rfl,rfl,_⟩:=open_int Tryz.underlying3 (abi 2 3 v2 rfl rfl) h2;have P9:RD W (fun _=>False) (.int .i64 s2) (.v (.int .i64 s2)):=.v _;refine (SK (Se (E4 m es er) ⟨m,rfl⟩ rfl rfl ⟨⟨rfl,O0⟩,rfl,OZ⟩ s0 s1 s2) (W:=W) (args:=#[.string (bs s0),.string (bs s1),.int .i64 s2]) (M8 hL hm hes her) rfl (RD.Lj P7 P8 P9)).mono fun e W' ⟨he,hb⟩=>?_;subst he;exact ⟨_,rfl,_,_,_,[],_,[],FP,trodAll_mk1 (shut_bool Tryz.underlying4 _),Ow W' hb,rfl,hb.frame _,fun h=>by cases h⟩
end Go.Proofs.YtdigkhaofjmgkaaGreatDoor
