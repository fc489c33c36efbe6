/- Parts. -/
import Derived.Test.YtdigkhaofjmgkaaGreatDoorIs40
import Derived.Test.YtdigkhaofjmgkaaGreatDoorCards
import Derived.Test.YtdigkhaofjmgkaaGreatDoorTie
import Derived.ChangeSame
import Derived.ChangeVars
import Derived.ChangeMaps5
import Derived.JoinedOf
import Derived.LaidMore
set_option linter.unusedSimpArgs false
set_option linter.unusedVariables false
set_option maxRecDepth 100000
open Go.Proofs.Tryz
namespace Go.Proofs.YtdigkhaofjmgkaaGreatDoor
open Go.Av Go.ChangeShapes Go.WideShapes Go.ChangeAt Go.RowKit
def ku:List (String×DataW Unit):=Rows.inductSoundRow.laid
def qm:List (String×DataW Unit):=[("math/bits.deBruijn32tab",Rows.laid_math_bits_deBruijn32tab),("math/bits.deBruijn64tab",Rows.laid_math_bits_deBruijn64tab),("internal/strconv.uint64pow10",Rows.laid_internal_strconv_uint64pow10),("unicode/utf8.acceptRanges",Rows.laid_unicode_utf8_acceptRanges),("strconv.ErrRange",Rows.laid_strconv_ErrRange),("strconv.ErrSyntax",Rows.laid_strconv_ErrSyntax),("unicode/utf8.first",Rows.laid_unicode_utf8_first)]
theorem He:ku.filter (fun x=>x.2.handleName?.isNone)=qm:=by kernel_rfl
theorem BP {W:World} (h:laidMetH prog ku W):laidMet prog qm W:=by
 have:=(laidMetH_iff.1 h).1;rwa [He]at this
theorem Sa:qm.filter (fun x=>x.1 == "internal/strconv.uint64pow10")=xA:=by kernel_rfl
theorem Sj {W:World} (h:laidMetH prog ku W):laidMet prog xA W:=by
 have:=(BP h).filter fun x=>x.1 == "internal/strconv.uint64pow10"
 rwa [Sa]at this
theorem Sc:qm.filter (fun x=>x.1 == "strconv.ErrSyntax")=BV:=by kernel_rfl
theorem Sm {W:World} (h:laidMetH prog ku W):laidMet prog BV W:=by
 have:=(BP h).filter fun x=>x.1 == "strconv.ErrSyntax"
 rwa [Sc]at this
theorem Sb:qm.filter (fun x=>x.1 == "strconv.ErrRange")=BU:=by kernel_rfl
theorem Sk {W:World} (h:laidMetH prog ku W):laidMet prog BU W:=by
 have:=(BP h).filter fun x=>x.1 == "strconv.ErrRange"
 rwa [Sb]at this
theorem RB:ku.filter (fun x=>x.2.handleName?.isSome)=xz:=by kernel_rfl
theorem Rz {W:World} (h:laidMetH prog ku W):handlesMet prog xz W:=by
 have:=h.2;rw[<- RB];exact this
noncomputable def J5 (os:Os):World:=
 let w0:=World.laidAll prog os qm
 { w0 with heap:=w0.heap.modify 3 fun
   | .cells _ t frozen=>.cells #[lB] t frozen
   | o=>o }
theorem Sh (os:Os) (args:Array Value):laidMetH prog ku ((J5 os).forCall (fun _ _=>0) ⟨#[],args,[]⟩).memory:=by
 refine laidMetH_of_parts ?_ (by kernel_rfl);have e:(ku.filter fun x=>x.2.handleName?.isNone)=qm:=He;rw[e];exact laidMet_of_run' 8 (by kernel_rfl) (by kernel_rfl)
def E3 (m:Int) (es:Value) (er:Value):YI:=we [(3,.ip [.v lB]),(4,.ip [YG m]),(7,.j0 (Lib.pow10Tab.map fun z=>Value.int .u64 z).toArray),(5,.ip [.v es]),(6,.ip [.v er])]
theorem M7 {W:World} {m:Int} {es:Value} {er:Value} (hL:laidMetH prog ku W) (hm:W.cell? ⟨4,0,none⟩=some (.int .i64 m)) (hes:W.cell? ⟨5,0,none⟩=some es) (Az:W.cell? ⟨6,0,none⟩=some er):∀ g x,E3 m es er g=some x->RD W (fun _=>False) (.pointer (some ⟨g,0,none⟩)) x:=E1 fun p hp=>by
 simp only[List.mem_cons,List.not_mem_nil,or_false]at hp
 rcases hp with rfl | rfl | rfl | rfl | rfl
 .exact UJ (Rz hL)
 .exact UM hm
 .exact UN (Sj hL)
 .exact UQ hes
 .exact UO Az
theorem Se (os:Os) (started:os.Started) (H:Type) (enc:TypeId×Value->H) :
  ReturnsInHanded {} Tryz.checked os 10 .any (fun w args=>(Rows.inductSoundSpec.pre enc prog Tryz.f10 [] false w args/\laidMetH prog ku w)/\sizedMet enc prog Tryz.f10 (OpenSpec.ofChange Rows.inductSoundSpec) false w args)
   (Rows.inductSoundSpec.post enc prog Tryz.f10 false true false false):=by
 refine On (C:=Tryz.checked) (X:=fun w _=>laidMetH prog ku w) (fun _ _ _ hh h=>h.of_heap hh) SL started (by kernel_rfl) func10
  (ChangeSpec.witness_shaped (enc:=enc) (C:=Tryz.checked) (os:=os) (X:=fun w _=>laidMetH prog ku w) false (J5 os) #[.string ⟨#[]⟩,.string ⟨#[]⟩,.int .i64 0] 8 rfl (World.shaped_of_ZipB (by kernel_rfl) (by kernel_rfl)) (by kernel_rfl) (by kernel_rfl) (by kernel_rfl) (Sh os _)) ?_
 intro W base args ds gs before QB hW hL nH;obtain⟨m,hm⟩:=Tk nH;obtain⟨es,hes,OZ⟩:=Wj (Sm hL);obtain⟨er,Az,OY⟩:=Ve (Sk hL);have abh:∀ (j:Nat) t v,Tryz.f10.params[j]? = some t->args[j]? = some v->Value.okWide prog W .any base t v:=QB;have FO:=hW;obtain⟨p,q,zU,hV,rfl,XF,ZT⟩:=hW;have hA:DataW.TrodAll enc prog W 0 (fun _=>true) true Tryz.f10.params.toList args.toList ds p:=zU
 have YJ:∀ x∈p,x.block < W.heap.size:=fun x hx=>by simpa using FO.lt x (by simp[hx])
 have Ov:∀ W',Below W.heap.size W W'->DataW.TrodAll enc prog W' 0 (fun b=>decide (b < W.heap.size)) true Tryz.f10.params.toList args.toList ds p:=fun W' hb=>
  JO SK hb (by rw[Tryz.params10];intro t ht;simp at ht;rcases ht with rfl | rfl<;>exact⟨by kernel_rfl,of_decide_eq_true (by kernel_rfl)⟩) hA YJ
 rw[Tryz.params10]at hA abh;obtain⟨v0,l0,d0,e0,a0,b0,wX,rfl,rfl,h0,hA⟩:=trodAll_cons hA;obtain⟨v1,l1,d1,e1,a1,b1,rfl,rfl,rfl,h1,hA⟩:=trodAll_cons hA;obtain⟨v2,l2,d2,e2,a2,b2,rfl,rfl,rfl,h2,hA⟩:=trodAll_cons hA;obtain⟨rfl,rfl,rfl⟩:=trodAll_nil hA
 obtain rfl:args = #[v0,v1,v2]:=by
  apply Array.ext';simpa using wX
 obtain⟨rfl,rfl⟩:=trodVars_none hV;obtain⟨CQ,rfl,rfl,rfl,_⟩:=Go.ChangeMaps.open_string underlying9 (abh 0 9 v0 rfl rfl) h0;obtain⟨s0,rfl⟩:∃ s,CQ=bs s:=⟨CQ.data.toList,by cases CQ;simp[bs]⟩;have P6:RD W (fun _=>False) (.string (bs s0)) (dS s0):=.v _;obtain⟨CR,rfl,rfl,rfl,_⟩:=Go.ChangeMaps.open_string underlying9 (abh 1 9 v1 rfl rfl) h1;obtain⟨s1,rfl⟩:∃ s,CR=bs s:=⟨CR.data.toList,by cases CR;simp[bs]⟩;have P7:RD W (fun _=>False) (.string (bs s1)) (dS s1):=.v _;obtain⟨s2,rfl,rfl,rfl,_⟩:=open_int underlying3 (abh 2 3 v2 rfl rfl) h2;have P8:RD W (fun _=>False) (.int .i64 s2) (.v (.int .i64 s2)):=.v _;refine (SJ (Sd (E3 m es er) ⟨m,rfl⟩ rfl rfl ⟨⟨rfl,OZ⟩,rfl,OY⟩ s0 s1 s2) (W:=W) (args:=#[.string (bs s0),.string (bs s1),.int .i64 s2]) (M7 hL hm hes Az) rfl (RD.Li P6 P7 P8)).mono fun e W' ⟨he,hb⟩=>?_;subst he;exact⟨_,rfl,_,_,_,[],_,[],FO,trodAll_mk1 (shut_bool underlying4 _),Ov W' hb,rfl,hb.frame _,fun h=>by cases h⟩
