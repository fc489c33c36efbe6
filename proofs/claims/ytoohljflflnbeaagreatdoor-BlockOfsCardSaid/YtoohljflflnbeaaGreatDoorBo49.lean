/- Parts. -/
import Derived.Test.YtoohljflflnbeaaGreatDoorBo48
import Derived.Test.YtoohljflflnbeaaGreatDoorCards
import Derived.Test.YtoohljflflnbeaaGreatDoorTie
import Derived.ChangeSame
import Derived.ChangeVars
import Derived.ChangeMaps5
import Derived.JoinedOf
import Derived.LaidMore
set_option linter.unusedSimpArgs false
set_option linter.unusedVariables false
set_option maxRecDepth 100000
open Go.Proofs.Tryz
namespace Go.Proofs.YtoohljflflnbeaaGreatDoor
open Go.Av Go.ChangeShapes Go.WideShapes Go.ChangeAt Go.RowKit
def nZ:List (String×DataW Unit):=Rows.blockOfsRow.laid
def sr:List (String×DataW Unit):=[("math/bits.deBruijn32tab",Rows.laid_math_bits_deBruijn32tab),("math/bits.deBruijn64tab",Rows.laid_math_bits_deBruijn64tab),("internal/strconv.uint64pow10",Rows.laid_internal_strconv_uint64pow10),("unicode/utf8.acceptRanges",Rows.laid_unicode_utf8_acceptRanges),("strconv.ErrRange",Rows.laid_strconv_ErrRange),("strconv.ErrSyntax",Rows.laid_strconv_ErrSyntax),("signalcabin/signalcabinref.Fine",Rows.laid_signalcabin_signalcabinref_Fine),("signalcabin/signalcabinref.nameWords",Rows.laid_signalcabin_signalcabinref_nameWords),("signalcabin/signalcabinref.rungWords",Rows.laid_signalcabin_signalcabinref_rungWords),("unicode/utf8.first",Rows.laid_unicode_utf8_first)]
theorem LJ:nZ.filter (fun x=>x.2.handleName?.isNone)=sr:=ah
theorem yo {W:World} (h:laidMetH prog nZ W):laidMet prog sr W:=by
 have:=(laidMetH_iff.1 h).1;rwa [LJ]at this
theorem U5:sr.filter (fun x=>x.1 == "signalcabin/signalcabinref.Fine")=E3:=by kernel_rfl
theorem Uu {W:World} (h:laidMetH prog nZ W):laidMet prog E3 W:=by
 have:=(yo h).filter fun x=>x.1 == "signalcabin/signalcabinref.Fine"
 rwa [U5]at this
theorem U7:sr.filter (fun x=>x.1 == "internal/strconv.uint64pow10")=E4:=by kernel_rfl
theorem Vi {W:World} (h:laidMetH prog nZ W):laidMet prog E4 W:=by
 have:=(yo h).filter fun x=>x.1 == "internal/strconv.uint64pow10"
 rwa [U7]at this
theorem Va:sr.filter (fun x=>x.1 == "strconv.ErrSyntax")=Je:=by kernel_rfl
theorem Vm {W:World} (h:laidMetH prog nZ W):laidMet prog Je W:=by
 have:=(yo h).filter fun x=>x.1 == "strconv.ErrSyntax"
 rwa [Va]at this
theorem U8:sr.filter (fun x=>x.1 == "strconv.ErrRange")=Jd:=by kernel_rfl
theorem Vj {W:World} (h:laidMetH prog nZ W):laidMet prog Jd W:=by
 have:=(yo h).filter fun x=>x.1 == "strconv.ErrRange"
 rwa [U8]at this
theorem U6:sr.filter (fun x=>x.1 == "signalcabin/signalcabinref.nameWords")=Jf:=by kernel_rfl
theorem Vh {W:World} (h:laidMetH prog nZ W):laidMet prog Jf W:=by
 have:=(yo h).filter fun x=>x.1 == "signalcabin/signalcabinref.nameWords"
 rwa [U6]at this
theorem U9:sr.filter (fun x=>x.1 == "signalcabin/signalcabinref.rungWords")=Jg:=by kernel_rfl
theorem Vk {W:World} (h:laidMetH prog nZ W):laidMet prog Jg W:=by
 have:=(yo h).filter fun x=>x.1 == "signalcabin/signalcabinref.rungWords"
 rwa [U9]at this
theorem Uw:nZ.filter (fun x=>x.2.handleName?.isSome)=E0:=ah
theorem Ut {W:World} (h:laidMetH prog nZ W):handlesMet prog E0 W:=by
 have:=h.2;rw[<- Uw];exact this
noncomputable def Sp (os:Os):World:=
 let w0:=World.laidAll prog os sr
 { w0 with heap:=w0.heap.modify 4 fun
   | .cells _ t frozen=>.cells #[pW] t frozen
   | o=>o }
theorem Vf (os:Os) (args:Array Value):laidMetH prog nZ ((Sp os).forCall (fun _ _=>0) ⟨#[],args,[]⟩).memory:=by
 refine laidMetH_of_parts ?_ ah;have e:(nZ.filter fun x=>x.2.handleName?.isNone)=sr:=LJ;rw[e];exact laidMet_of_run' 8 ah ah
def MG (m:Int) (es:Value) (er:Value):aC:=DR [(4,.ip [.v pW]),(0,.ip [ab 0,ab (-1)]),(5,.ip [ab m]),(6,.pK (Lib.pow10Tab.map fun z=>Value.int .u64 z).toArray),(7,.ip [.v es]),(8,.ip [.v er]),(2,.ip [.sl none (Fi.map fun s=>[.v (.string (bs s))])]),(3,.ip [.sl none (FK.map fun s=>[.v (.string (bs s))])])]
theorem W0 {W:World} {m:Int} {es:Value} {er:Value} (hL:laidMetH prog nZ W) (hm:W.cell? ⟨5,0,none⟩=some (.int .i64 m)) (wR:W.cell? ⟨7,0,none⟩=some es) (HK:W.cell? ⟨8,0,none⟩=some er):∀ g x,MG m es er g=some x->RD W (fun _=>False) (.pointer (some ⟨g,0,none⟩)) x:=MF fun p hp=>by
 simp only[agK,List.not_mem_nil,or_false]at hp
 rcases hp with rfl | rfl | rfl | rfl | rfl | rfl | rfl | rfl
 .exact acI (Ut hL)
 .exact acJ (Uu hL)
 .exact acM hm
 .exact acO (Vi hL)
 .exact acR wR
 .exact acP HK
 .exact acN (Vh hL)
 .exact acQ (Vk hL)
theorem Vc (os:Os) (started:os.Started) (H:Type) (enc:TypeId×Value->H) :
  ReturnsInHanded {} Tryz.checked os 7 .any (fun w args=>(Rows.blockOfsSpec.pre enc prog Tryz.f7 [] false w args/\laidMetH prog nZ w)/\sizedMet enc prog Tryz.f7 (OpenSpec.ofChange Rows.blockOfsSpec) false w args)
   (Rows.blockOfsSpec.post enc prog Tryz.f7 false true false false):=by
 refine X0 (C:=Tryz.checked) (X:=fun w _=>laidMetH prog nZ w) (fun _ _ _ hh h=>h.of_heap hh) aaE started ah func7
  (ChangeSpec.witness_shaped (enc:=enc) (C:=Tryz.checked) (os:=os) (X:=fun w _=>laidMetH prog nZ w) false (Sp os) #[.string ⟨#[]⟩,.slice none 0 0] 8 rfl (World.shaped_of_ZipB ah ah) ah ah ah (Vf os _)) ?_
 intro W base args ds gs before Z0 hW hL xk;obtain⟨m,hm⟩:=abn xk;obtain⟨es,wR,YC⟩:=aeg (Vm hL);obtain⟨er,HK,YB⟩:=adk (Vj hL);have oR:∀ (j:Nat) t v,Tryz.f7.params[j]? = some t->args[j]? = some v->Value.okWide prog W .any base t v:=Z0;have Nj:=hW;obtain⟨p,q,Ha,hV,rfl,hfz,pq⟩:=hW;have hA:DataW.TrodAll enc prog W 0 (fun _=>true) true Tryz.f7.params.toList args.toList ds p:=Ha
 have aG:∀ x∈p,x.block < W.heap.size:=fun x hx=>by simpa using Nj.lt x (by simp[hx])
 have X4:∀ W',Below W.heap.size W W'->DataW.TrodAll enc prog W' 0 (fun b=>decide (b < W.heap.size)) true Tryz.f7.params.toList args.toList ds p:=fun W' hb=>
  R9 aaD hb (by rw[Tryz.params7];intro t ht;simp at ht;rcases ht with rfl | rfl<;>exact⟨ah,of_decide_eq_true ah⟩) hA aG
 rw[Tryz.params7]at hA oR;obtain⟨v0,l0,d0,e0,a0,b0,Y8,rfl,rfl,h0,hA⟩:=trodAll_cons hA;obtain⟨v1,l1,d1,e1,a1,b1,rfl,rfl,rfl,h1,hA⟩:=trodAll_cons hA;obtain⟨rfl,rfl,rfl⟩:=trodAll_nil hA
 obtain rfl:args = #[v0,v1]:=by
  apply Array.ext';simpa using Y8
 obtain⟨rfl,rfl⟩:=trodVars_none hV;obtain⟨Km,rfl,rfl,rfl,_⟩:=Go.ChangeMaps.open_string underlying9 (oR 0 9 v0 rfl rfl) h0;obtain⟨s0,rfl⟩:∃ s,Km=bs s:=⟨Km.data.toList,by cases Km;simp[bs]⟩;have ZG:RD W (fun _=>False) (.string (bs s0)) (dS s0):=.v _;obtain⟨sa1,sl1,sc1,rfl⟩:=okWide_slice underlying58 (oR 1 58 v1 rfl rfl);obtain⟨WY,Bm⟩:=h1;obtain⟨s1,_,tW⟩:=acU (X:=fun _=>False) ak WY _ _ Bm;have ZH:=RD.abX ak tW;refine (aaC (Vb (MG m es er) rfl ⟨m,rfl⟩ rfl rfl ⟨⟨rfl,YC⟩,rfl,YB⟩ rfl rfl s0 s1) (W:=W) (args:=#[.string (bs s0),.slice sa1 sl1 sc1]) (W0 hL hm wR HK) rfl (RD.Dh ZG ZH)).mono fun e W' ⟨he,hb⟩=>?_;subst he;exact⟨_,rfl,_,_,_,[],_,[],Nj,trodAll_mk1 (shut_bool underlying4 _),X4 W' hb,rfl,hb.frame _,fun h=>by cases h⟩
