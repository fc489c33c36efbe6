/- Parts. -/
import Derived.Test.YtdigkhaofjmgkaaGreatDoorFx48
import Derived.Test.YtdigkhaofjmgkaaGreatDoorCards
import Derived.Test.YtdigkhaofjmgkaaGreatDoorTie
import Derived.ChangeSame
import Derived.ChangeVars
import Derived.ChangeMaps5
import Derived.JoinedOf
import Derived.LaidMore
set_option linter.unusedSimpArgs false
set_option linter.unusedVariables false
set_option maxRecDepth 100000
open Go.Proofs.Tryz
namespace Go.Proofs.YtdigkhaofjmgkaaGreatDoor
open Go.Av Go.ChangeShapes Go.WideShapes Go.ChangeAt Go.RowKit
def aed:List (String×DataW Unit):=Rows.reachFixedRow.laid
def oG:List (String×DataW Unit):=[("math/bits.deBruijn32tab",Rows.laid_math_bits_deBruijn32tab),("math/bits.deBruijn64tab",Rows.laid_math_bits_deBruijn64tab),("internal/strconv.uint64pow10",Rows.laid_internal_strconv_uint64pow10),("unicode/utf8.acceptRanges",Rows.laid_unicode_utf8_acceptRanges),("strconv.ErrRange",Rows.laid_strconv_ErrRange),("strconv.ErrSyntax",Rows.laid_strconv_ErrSyntax),("signalcabin/signalcabinref.Fine",Rows.laid_signalcabin_signalcabinref_Fine),("signalcabin/signalcabinref.nameWords",Rows.laid_signalcabin_signalcabinref_nameWords),("signalcabin/signalcabinref.rungWords",Rows.laid_signalcabin_signalcabinref_rungWords),("unicode/utf8.first",Rows.laid_unicode_utf8_first)]
theorem Ln:aed.filter (fun x=>x.2.handleName?.isNone)=oG:=by kernel_rfl
theorem vm {W:World} (h:laidMetH prog aed W):laidMet prog oG W:=by
 have:=(laidMetH_iff.1 h).1;rwa [Ln]at this
theorem XI:oG.filter (fun x=>x.1 == "signalcabin/signalcabinref.Fine")=An:=by kernel_rfl
theorem W8 {W:World} (h:laidMetH prog aed W):laidMet prog An W:=by
 have:=(vm h).filter fun x=>x.1 == "signalcabin/signalcabinref.Fine"
 rwa [XI]at this
theorem XK:oG.filter (fun x=>x.1 == "internal/strconv.uint64pow10")=Ao:=by kernel_rfl
theorem XV {W:World} (h:laidMetH prog aed W):laidMet prog Ao W:=by
 have:=(vm h).filter fun x=>x.1 == "internal/strconv.uint64pow10"
 rwa [XK]at this
theorem XN:oG.filter (fun x=>x.1 == "strconv.ErrSyntax")=Eu:=by kernel_rfl
theorem XZ {W:World} (h:laidMetH prog aed W):laidMet prog Eu W:=by
 have:=(vm h).filter fun x=>x.1 == "strconv.ErrSyntax"
 rwa [XN]at this
theorem XL:oG.filter (fun x=>x.1 == "strconv.ErrRange")=Et:=by kernel_rfl
theorem XW {W:World} (h:laidMetH prog aed W):laidMet prog Et W:=by
 have:=(vm h).filter fun x=>x.1 == "strconv.ErrRange"
 rwa [XL]at this
theorem XJ:oG.filter (fun x=>x.1 == "signalcabin/signalcabinref.nameWords")=agW:=by kernel_rfl
theorem XU {W:World} (h:laidMetH prog aed W):laidMet prog agW W:=by
 have:=(vm h).filter fun x=>x.1 == "signalcabin/signalcabinref.nameWords"
 rwa [XJ]at this
theorem XM:oG.filter (fun x=>x.1 == "signalcabin/signalcabinref.rungWords")=Ew:=by kernel_rfl
theorem ah4 {W:World} (h:laidMetH prog aed W):laidMet prog Ew W:=by
 have:=(vm h).filter fun x=>x.1 == "signalcabin/signalcabinref.rungWords"
 rwa [XM]at this
theorem Xa:aed.filter (fun x=>x.2.handleName?.isSome)=Am:=by kernel_rfl
theorem W7 {W:World} (h:laidMetH prog aed W):handlesMet prog Am W:=by
 have:=h.2;rw[<- Xa];exact this
noncomputable def MT (os:Os):World:=
 let w0:=World.laidAll prog os oG
 { w0 with heap:=w0.heap.modify 3 fun
   | .cells _ t frozen=>.cells #[lZ] t frozen
   | o=>o }
theorem XS (os:Os) (args:Array Value):laidMetH prog aed ((MT os).forCall (fun _ _=>0) ⟨#[],args,[]⟩).memory:=by
 refine laidMetH_of_parts ?_ (by kernel_rfl);have e:(aed.filter fun x=>x.2.handleName?.isNone)=oG:=Ln;rw[e];exact laidMet_of_run' 8 (by kernel_rfl) (by kernel_rfl)
def HP (m:Int) (es:Value) (er:Value):aq:=zc [(3,.ip [.v lZ]),(2,.ip [ab 0,ab (-1)]),(4,.ip [ab m]),(7,.lN (Lib.pow10Tab.map fun z=>Value.int .u64 z).toArray),(5,.ip [.v es]),(6,.ip [.v er]),(1,.ip [.sl none (AH.map fun s=>[.v (.string (bs s))])]),(0,.ip [.sl none (Bf.map fun s=>[.v (.string (bs s))])])]
theorem P7 {W:World} {m:Int} {es:Value} {er:Value} (hL:laidMetH prog aed W) (hm:W.cell? ⟨4,0,none⟩=some (.int .i64 m)) (sf:W.cell? ⟨5,0,none⟩=some es) (Dp:W.cell? ⟨6,0,none⟩=some er):∀ g x,HP m es er g=some x->RD W (fun _=>False) (.pointer (some ⟨g,0,none⟩)) x:=HO fun p hp=>by
 simp only[abV,List.not_mem_nil,or_false]at hp
 rcases hp with rfl | rfl | rfl | rfl | rfl | rfl | rfl | rfl
 .exact Wa (W7 hL)
 .exact Wb (W8 hL)
 .exact We hm
 .exact Wg (XV hL)
 .exact Wj sf
 .exact Wh Dp
 .exact Wf (XU hL)
 .exact Wi (ah4 hL)
theorem XP (os:Os) (started:os.Started) (H:Type) (enc:TypeId×Value->H) :
  ReturnsInHanded {} Tryz.checked os 5 .any (fun w args=>(Rows.reachFixedSpec.pre enc prog Tryz.f5 [] false w args/\laidMetH prog aed w)/\sizedMet enc prog Tryz.f5 (OpenSpec.ofChange Rows.reachFixedSpec) false w args)
   (Rows.reachFixedSpec.post enc prog Tryz.f5 false true false false):=by
 refine Q6 (C:=Tryz.checked) (X:=fun w _=>laidMetH prog aed w) (fun _ _ _ hh h=>h.of_heap hh) TT started (by kernel_rfl) func5
  (ChangeSpec.witness_shaped (enc:=enc) (C:=Tryz.checked) (os:=os) (X:=fun w _=>laidMetH prog aed w) false (MT os) #[.string ⟨#[]⟩,.slice none 0 0] 8 rfl (World.shaped_of_ZipB (by kernel_rfl) (by kernel_rfl)) (by kernel_rfl) (by kernel_rfl) (by kernel_rfl) (XS os _)) ?_
 intro W base args ds gs before S5 hW hL hsh;obtain⟨m,hm⟩:=UD hsh;obtain⟨es,sf,RH⟩:=Zp (XZ hL);obtain⟨er,Dp,RG⟩:=Yd (XW hL);have kQ:∀ (j:Nat) t v,Tryz.f5.params[j]? = some t->args[j]? = some v->Value.okWide prog W .any base t v:=S5;have Iv:=hW;obtain⟨p,q,CN,hV,rfl,hfz,fi⟩:=hW;have hA:DataW.TrodAll enc prog W 0 (fun _=>true) true Tryz.f5.params.toList args.toList ds p:=CN
 have au:∀ x∈p,x.block < W.heap.size:=fun x hx=>by simpa using Iv.lt x (by simp[hx])
 have Ra:∀ W',Below W.heap.size W W'->DataW.TrodAll enc prog W' 0 (fun b=>decide (b < W.heap.size)) true Tryz.f5.params.toList args.toList ds p:=fun W' hb=>
  MA TS hb (by rw[Tryz.params5];intro t ht;simp at ht;rcases ht with rfl | rfl<;>exact⟨by kernel_rfl,of_decide_eq_true (by kernel_rfl)⟩) hA au
 rw[Tryz.params5]at hA kQ;obtain⟨v0,l0,d0,e0,a0,b0,Sf,rfl,rfl,h0,hA⟩:=trodAll_cons hA;obtain⟨v1,l1,d1,e1,a1,b1,rfl,rfl,rfl,h1,hA⟩:=trodAll_cons hA;obtain⟨rfl,rfl,rfl⟩:=trodAll_nil hA
 obtain rfl:args = #[v0,v1]:=by
  apply Array.ext';simpa using Sf
 obtain⟨rfl,rfl⟩:=trodVars_none hV;obtain⟨FF,rfl,rfl,rfl,_⟩:=Go.ChangeMaps.open_string underlying9 (kQ 0 9 v0 rfl rfl) h0;obtain⟨s0,rfl⟩:∃ s,FF=bs s:=⟨FF.data.toList,by cases FF;simp[bs]⟩;have SK:RD W (fun _=>False) (.string (bs s0)) (dS s0):=.v _;obtain⟨YD,YP,YE,rfl⟩:=okWide_slice underlying55 (kQ 1 55 v1 rfl rfl);obtain⟨P5,wS⟩:=h1;obtain⟨s1,_,qW⟩:=Wm (X:=fun _=>False) (by simp) P5 _ _ wS;have SL:=RD.Vq (by simp) qW;refine (TR (XO (HP m es er) rfl ⟨m,rfl⟩ rfl rfl ⟨⟨rfl,RH⟩,rfl,RG⟩ rfl rfl s0 s1) (W:=W) (args:=#[.string (bs s0),.slice YD YP YE]) (P7 hL hm sf Dp) rfl (RD.yG SK SL)).mono fun e W' ⟨he,hb⟩=>?_;subst he;exact⟨_,rfl,_,_,_,[],_,[],Iv,trodAll_mk1 (shut_bool underlying4 _),Ra W' hb,rfl,hb.frame _,fun h=>by cases h⟩
