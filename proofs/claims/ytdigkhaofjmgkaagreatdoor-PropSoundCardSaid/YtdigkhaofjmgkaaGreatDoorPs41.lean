/-
  Texts that belong together,in one file: L40.
-/
import Derived.Test.YtdigkhaofjmgkaaGreatDoorPs40
import Derived.Test.YtdigkhaofjmgkaaGreatDoorCards
import Derived.Test.YtdigkhaofjmgkaaGreatDoorTie
import Derived.ChangeSame
import Derived.ChangeVars
import Derived.ChangeMaps5
import Derived.JoinedOf
import Derived.LaidMore
set_option linter.unusedSimpArgs false
set_option linter.unusedVariables false
namespace Go.Proofs.YtdigkhaofjmgkaaGreatDoor
open Go.Av Go.ChangeShapes Go.WideShapes Go.ChangeAt Go.RowKit
def kp:List (String×DataW Unit):=Rows.propSoundRow.laid
def p9:List (String×DataW Unit):=[("math/bits.deBruijn32tab",Rows.laid_math_bits_deBruijn32tab),("math/bits.deBruijn64tab",Rows.laid_math_bits_deBruijn64tab),("internal/strconv.uint64pow10",Rows.laid_internal_strconv_uint64pow10),("unicode/utf8.acceptRanges",Rows.laid_unicode_utf8_acceptRanges),("strconv.ErrRange",Rows.laid_strconv_ErrRange),("strconv.ErrSyntax",Rows.laid_strconv_ErrSyntax),("unicode/utf8.first",Rows.laid_unicode_utf8_first)]
set_option maxRecDepth 100000 in
theorem H9:kp.filter (fun x=>x.2.handleName?.isNone)=p9:=by kernel_rfl
theorem Cq {W:World} (h:laidMetH Tryz.prog kp W):laidMet Tryz.prog p9 W:=by
 have:=(laidMetH_iff.1 h).1;rwa [H9] at this
theorem aej:p9.filter (fun x=>x.1 == "internal/strconv.uint64pow10")=xd:=by kernel_rfl
theorem Ub {W:World} (h:laidMetH Tryz.prog kp W):laidMet Tryz.prog xd W:=by
 have:=(Cq h).filter fun x=>x.1 == "internal/strconv.uint64pow10"
 rwa [aej] at this
theorem T4:p9.filter (fun x=>x.1 == "strconv.ErrSyntax")=BF:=by kernel_rfl
theorem Ue {W:World} (h:laidMetH Tryz.prog kp W):laidMet Tryz.prog BF W:=by
 have:=(Cq h).filter fun x=>x.1 == "strconv.ErrSyntax"
 rwa [T4] at this
theorem aek:p9.filter (fun x=>x.1 == "strconv.ErrRange")=BE:=by kernel_rfl
theorem Uc {W:World} (h:laidMetH Tryz.prog kp W):laidMet Tryz.prog BE W:=by
 have:=(Cq h).filter fun x=>x.1 == "strconv.ErrRange"
 rwa [aek] at this
set_option maxRecDepth 100000 in
theorem Tt:kp.filter (fun x=>x.2.handleName?.isSome)=xc:=by kernel_rfl
theorem Tr {W:World} (h:laidMetH Tryz.prog kp W):handlesMet Tryz.prog xc W:=by
 have:=h.2;rw [<- Tt];exact this
noncomputable def JM (os:Os):World:=
 let w0:=World.laidAll Tryz.prog os p9
 { w0 with heap:=w0.heap.modify 3 fun
   | .cells _ t frozen=>.cells #[lp] t frozen
   | o=>o }
set_option maxRecDepth 100000 in
theorem T9 (os:Os) (args:Array Value):laidMetH Tryz.prog kp ((JM os).forCall (fun _ _=>0) ⟨#[],args,[]⟩).memory:=by
 refine laidMetH_of_parts ?_ (by kernel_rfl);have e:(kp.filter fun x=>x.2.handleName?.isNone)=p9:=H9;rw [e];exact laidMet_of_run' 8 (by kernel_rfl) (by kernel_rfl)
def EN (m:Int) (es:Value) (er:Value):Yu:=vJ [(3,.ip [.v lp]),(4,.ip [ab m]),(7,.jQ (Lib.pow10Tab.map fun z=>Value.int .u64 z).toArray),(5,.ip [.v es]),(6,.ip [.v er])]
theorem MK {W:World} {m:Int} {es:Value} {er:Value} (hL:laidMetH Tryz.prog kp W) (hm:W.cell? ⟨4,0,none⟩=some (.int .i64 m)) (pN:W.cell? ⟨5,0,none⟩=some es) (Ak:W.cell? ⟨6,0,none⟩=some er):∀ g x,EN m es er g=some x->RD W (fun _=>False) (.pointer (some ⟨g,0,none⟩)) x:=EL fun p hp=>by
 simp only [List.mem_cons,List.not_mem_nil,or_false] at hp
 rcases hp with rfl | rfl | rfl | rfl | rfl
 .exact Uo (Tr hL)
 .exact Ur hm
 .exact Us (Ub hL)
 .exact Uv pN
 .exact Ut Ak
set_option maxRecDepth 100000 in
theorem T6 (os:Os) (started:os.Started) (H:Type) (enc:TypeId×Value->H) :
  ReturnsInHanded {} Tryz.checked os 9 .any (fun w args=>(Rows.propSoundSpec.pre enc Tryz.prog Tryz.f9 [] false w args/\laidMetH Tryz.prog kp w)/\sizedMet enc Tryz.prog Tryz.f9 (OpenSpec.ofChange Rows.propSoundSpec) false w args)
   (Rows.propSoundSpec.post enc Tryz.prog Tryz.f9 false true false false):=by
 refine NY (C:=Tryz.checked) (X:=fun w _=>laidMetH Tryz.prog kp w) (fun _ _ _ hh h=>h.of_heap hh) QY started (by kernel_rfl) Tryz.func9
  (ChangeSpec.witness_shaped (enc:=enc) (C:=Tryz.checked) (os:=os) (X:=fun w _=>laidMetH Tryz.prog kp w) false (JM os) #[.string ⟨#[]⟩,.string ⟨#[]⟩,.slice none 0 0] 8 rfl (World.shaped_of_ZipB (by kernel_rfl) (by kernel_rfl)) (by kernel_rfl) (by kernel_rfl) (by kernel_rfl) (T9 os _)) ?_
 intro W base args ds gs before Qb hW hL nu;obtain ⟨m,hm⟩:=Ry nu;obtain ⟨es,pN,OC⟩:=V3 (Ue hL);obtain ⟨er,Ak,OB⟩:=UW (Uc hL);have l9:∀ (j:Nat) t v,Tryz.f9.params[j]? = some t->args[j]? = some v->Value.okWide Tryz.prog W .any base t v:=Qb;have Fs:=hW;obtain ⟨p,q,zD,hV,rfl,Xr,fj⟩:=hW;have hA:DataW.TrodAll enc Tryz.prog W 0 (fun _=>true) true Tryz.f9.params.toList args.toList ds p:=zD
 have Yw:∀ x∈p,x.block < W.heap.size:=fun x hx=>by simpa using Fs.lt x (by simp [hx])
 have N3:∀ W',Below W.heap.size W W'->DataW.TrodAll enc Tryz.prog W' 0 (fun b=>decide (b < W.heap.size)) true Tryz.f9.params.toList args.toList ds p:=fun W' hb=>
  Jv QX hb (by rw [Tryz.params9];intro t ht;simp at ht;rcases ht with rfl | rfl<;>exact ⟨by kernel_rfl,of_decide_eq_true (by kernel_rfl)⟩) hA Yw
 rw [Tryz.params9] at hA l9;obtain ⟨v0,l0,d0,e0,a0,b0,wz,rfl,rfl,h0,hA⟩:=trodAll_cons hA;obtain ⟨v1,l1,d1,e1,a1,b1,rfl,rfl,rfl,h1,hA⟩:=trodAll_cons hA;obtain ⟨v2,l2,d2,e2,a2,b2,rfl,rfl,rfl,h2,hA⟩:=trodAll_cons hA;obtain ⟨rfl,rfl,rfl⟩:=trodAll_nil hA
 obtain rfl:args = #[v0,v1,v2]:=by
  apply Array.ext';simpa using wz
 obtain ⟨rfl,rfl⟩:=trodVars_none hV;obtain ⟨CB,rfl,rfl,rfl,_⟩:=Go.ChangeMaps.open_string Tryz.underlying9 (l9 0 9 v0 rfl rfl) h0;obtain ⟨s0,rfl⟩:∃ s,CB=bs s:=⟨CB.data.toList,by cases CB;simp [bs]⟩;have PJ:RD W (fun _=>False) (.string (bs s0)) (dS s0):=.v _;obtain ⟨s1',rfl,rfl,rfl,_⟩:=Go.ChangeMaps.open_string Tryz.underlying9 (l9 1 9 v1 rfl rfl) h1;obtain ⟨s1,rfl⟩:∃ s,s1'=bs s:=⟨s1'.data.toList,by cases s1';simp [bs]⟩;have adS:RD W (fun _=>False) (.string (bs s1)) (dS s1):=.v _;obtain ⟨Vl,Vv,Vn,rfl⟩:=okWide_slice Tryz.underlying46 (l9 2 46 v2 rfl rfl);obtain ⟨MI,OG⟩:=h2;obtain ⟨s2,_,lJ⟩:=Uy (X:=fun _=>False) (by simp) MI _ _ OG;have adT:=RD.Se (by simp) lJ;refine (QW (T5 (EN m es er) ⟨m,rfl⟩ rfl rfl ⟨⟨rfl,OC⟩,rfl,OB⟩ s0 s1 s2) (W:=W) (args:=#[.string (bs s0),.string (bs s1),.slice Vl Vv Vn]) (MK hL hm pN Ak) rfl (RD.KW PJ adS adT)).mono fun e W' ⟨he,hb⟩=>?_;subst he;exact ⟨_,rfl,_,_,_,[],_,[],Fs,trodAll_mk1 (shut_bool Tryz.underlying4 _),N3 W' hb,rfl,hb.frame _,fun h=>by cases h⟩
end Go.Proofs.YtdigkhaofjmgkaaGreatDoor
