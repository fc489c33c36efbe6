/- Parts. -/
import Derived.Test.YtdigkhaofjmgkaaGreatDoorPs40
import Derived.Test.YtdigkhaofjmgkaaGreatDoorCards
import Derived.Test.YtdigkhaofjmgkaaGreatDoorTie
import Derived.ChangeSame
import Derived.ChangeVars
import Derived.ChangeMaps5
import Derived.JoinedOf
import Derived.LaidMore
set_option linter.unusedSimpArgs false
set_option linter.unusedVariables false
set_option maxRecDepth 100000
open Go.Proofs.Tryz
namespace Go.Proofs.YtdigkhaofjmgkaaGreatDoor
open Go.Av Go.ChangeShapes Go.WideShapes Go.ChangeAt Go.RowKit
def kp:List (String×DataW Unit):=Rows.propSoundRow.laid
def p9:List (String×DataW Unit):=[("math/bits.deBruijn32tab",Rows.laid_math_bits_deBruijn32tab),("math/bits.deBruijn64tab",Rows.laid_math_bits_deBruijn64tab),("internal/strconv.uint64pow10",Rows.laid_internal_strconv_uint64pow10),("unicode/utf8.acceptRanges",Rows.laid_unicode_utf8_acceptRanges),("strconv.ErrRange",Rows.laid_strconv_ErrRange),("strconv.ErrSyntax",Rows.laid_strconv_ErrSyntax),("unicode/utf8.first",Rows.laid_unicode_utf8_first)]
theorem H8:kp.filter (fun x=>x.2.handleName?.isNone)=p9:=by kernel_rfl
theorem Cp {W:World} (h:laidMetH prog kp W):laidMet prog p9 W:=by
 have:=(laidMetH_iff.1 h).1;rwa [H8]at this
theorem aeh:p9.filter (fun x=>x.1 == "internal/strconv.uint64pow10")=xc:=by kernel_rfl
theorem Ua {W:World} (h:laidMetH prog kp W):laidMet prog xc W:=by
 have:=(Cp h).filter fun x=>x.1 == "internal/strconv.uint64pow10"
 rwa [aeh]at this
theorem aej:p9.filter (fun x=>x.1 == "strconv.ErrSyntax")=BE:=by kernel_rfl
theorem Ud {W:World} (h:laidMetH prog kp W):laidMet prog BE W:=by
 have:=(Cp h).filter fun x=>x.1 == "strconv.ErrSyntax"
 rwa [aej]at this
theorem aei:p9.filter (fun x=>x.1 == "strconv.ErrRange")=BD:=by kernel_rfl
theorem Ub {W:World} (h:laidMetH prog kp W):laidMet prog BD W:=by
 have:=(Cp h).filter fun x=>x.1 == "strconv.ErrRange"
 rwa [aei]at this
theorem Ts:kp.filter (fun x=>x.2.handleName?.isSome)=xb:=by kernel_rfl
theorem Tq {W:World} (h:laidMetH prog kp W):handlesMet prog xb W:=by
 have:=h.2;rw[<- Ts];exact this
noncomputable def JL (os:Os):World:=
 let w0:=World.laidAll prog os p9
 { w0 with heap:=w0.heap.modify 3 fun
   | .cells _ t frozen=>.cells #[lp] t frozen
   | o=>o }
theorem T8 (os:Os) (args:Array Value):laidMetH prog kp ((JL os).forCall (fun _ _=>0) ⟨#[],args,[]⟩).memory:=by
 refine laidMetH_of_parts ?_ (by kernel_rfl);have e:(kp.filter fun x=>x.2.handleName?.isNone)=p9:=H8;rw[e];exact laidMet_of_run' 8 (by kernel_rfl) (by kernel_rfl)
def EM (m:Int) (es:Value) (er:Value):Yt:=vI [(3,.ip [.v lp]),(4,.ip [ab m]),(7,.jQ (Lib.pow10Tab.map fun z=>Value.int .u64 z).toArray),(5,.ip [.v es]),(6,.ip [.v er])]
theorem MJ {W:World} {m:Int} {es:Value} {er:Value} (hL:laidMetH prog kp W) (hm:W.cell? ⟨4,0,none⟩=some (.int .i64 m)) (pN:W.cell? ⟨5,0,none⟩=some es) (Aj:W.cell? ⟨6,0,none⟩=some er):∀ g x,EM m es er g=some x->RD W (fun _=>False) (.pointer (some ⟨g,0,none⟩)) x:=EK fun p hp=>by
 simp only[List.mem_cons,List.not_mem_nil,or_false]at hp
 rcases hp with rfl | rfl | rfl | rfl | rfl
 .exact Un (Tq hL)
 .exact Uq hm
 .exact Ur (Ua hL)
 .exact Uu pN
 .exact Us Aj
theorem T5 (os:Os) (started:os.Started) (H:Type) (enc:TypeId×Value->H) :
  ReturnsInHanded {} Tryz.checked os 9 .any (fun w args=>(Rows.propSoundSpec.pre enc prog Tryz.f9 [] false w args/\laidMetH prog kp w)/\sizedMet enc prog Tryz.f9 (OpenSpec.ofChange Rows.propSoundSpec) false w args)
   (Rows.propSoundSpec.post enc prog Tryz.f9 false true false false):=by
 refine adO (C:=Tryz.checked) (X:=fun w _=>laidMetH prog kp w) (fun _ _ _ hh h=>h.of_heap hh) QX started (by kernel_rfl) func9
  (ChangeSpec.witness_shaped (enc:=enc) (C:=Tryz.checked) (os:=os) (X:=fun w _=>laidMetH prog kp w) false (JL os) #[.string ⟨#[]⟩,.string ⟨#[]⟩,.slice none 0 0] 8 rfl (World.shaped_of_ZipB (by kernel_rfl) (by kernel_rfl)) (by kernel_rfl) (by kernel_rfl) (by kernel_rfl) (T8 os _)) ?_
 intro W base args ds gs before Qa hW hL nu;obtain⟨m,hm⟩:=Rx nu;obtain⟨es,pN,OB⟩:=V2 (Ud hL);obtain⟨er,Aj,OA⟩:=UU (Ub hL);have l9:∀ (j:Nat) t v,Tryz.f9.params[j]? = some t->args[j]? = some v->Value.okWide prog W .any base t v:=Qa;have Fq:=hW;obtain⟨p,q,zC,hV,rfl,Xq,fj⟩:=hW;have hA:DataW.TrodAll enc prog W 0 (fun _=>true) true Tryz.f9.params.toList args.toList ds p:=zC
 have Yv:∀ x∈p,x.block < W.heap.size:=fun x hx=>by simpa using Fq.lt x (by simp[hx])
 have N2:∀ W',Below W.heap.size W W'->DataW.TrodAll enc prog W' 0 (fun b=>decide (b < W.heap.size)) true Tryz.f9.params.toList args.toList ds p:=fun W' hb=>
  Ju QW hb (by rw[Tryz.params9];intro t ht;simp at ht;rcases ht with rfl | rfl<;>exact⟨by kernel_rfl,of_decide_eq_true (by kernel_rfl)⟩) hA Yv
 rw[Tryz.params9]at hA l9;obtain⟨v0,l0,d0,e0,a0,b0,wy,rfl,rfl,h0,hA⟩:=trodAll_cons hA;obtain⟨v1,l1,d1,e1,a1,b1,rfl,rfl,rfl,h1,hA⟩:=trodAll_cons hA;obtain⟨v2,l2,d2,e2,a2,b2,rfl,rfl,rfl,h2,hA⟩:=trodAll_cons hA;obtain⟨rfl,rfl,rfl⟩:=trodAll_nil hA
 obtain rfl:args = #[v0,v1,v2]:=by
  apply Array.ext';simpa using wy
 obtain⟨rfl,rfl⟩:=trodVars_none hV;obtain⟨CA,rfl,rfl,rfl,_⟩:=Go.ChangeMaps.open_string underlying9 (l9 0 9 v0 rfl rfl) h0;obtain⟨s0,rfl⟩:∃ s,CA=bs s:=⟨CA.data.toList,by cases CA;simp[bs]⟩;have adQ:RD W (fun _=>False) (.string (bs s0)) (dS s0):=.v _;obtain⟨CB,rfl,rfl,rfl,_⟩:=Go.ChangeMaps.open_string underlying9 (l9 1 9 v1 rfl rfl) h1;obtain⟨s1,rfl⟩:∃ s,CB=bs s:=⟨CB.data.toList,by cases CB;simp[bs]⟩;have PJ:RD W (fun _=>False) (.string (bs s1)) (dS s1):=.v _;obtain⟨Vk,Vu,Vm,rfl⟩:=okWide_slice underlying46 (l9 2 46 v2 rfl rfl);obtain⟨MH,OE⟩:=h2;obtain⟨s2,_,lJ⟩:=Ux (X:=fun _=>False) (by simp) MH _ _ OE;have adR:=RD.Sd (by simp) lJ;refine (QV (T4 (EM m es er) ⟨m,rfl⟩ rfl rfl ⟨⟨rfl,OB⟩,rfl,OA⟩ s0 s1 s2) (W:=W) (args:=#[.string (bs s0),.string (bs s1),.slice Vk Vu Vm]) (MJ hL hm pN Aj) rfl (RD.KV adQ PJ adR)).mono fun e W' ⟨he,hb⟩=>?_;subst he;exact⟨_,rfl,_,_,_,[],_,[],Fq,trodAll_mk1 (shut_bool underlying4 _),N2 W' hb,rfl,hb.frame _,fun h=>by cases h⟩
