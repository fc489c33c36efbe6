/- Parts. -/
import Derived.Test.YtoohljflflnbeaaGreatDoorSt45
import Derived.Test.YtoohljflflnbeaaGreatDoorCards
import Derived.Test.YtoohljflflnbeaaGreatDoorTie
import Derived.ChangeSame
import Derived.ChangeVars
import Derived.ChangeMaps5
import Derived.JoinedOf
import Derived.LaidMore
set_option linter.unusedSimpArgs false
set_option linter.unusedVariables false
set_option maxRecDepth 100000
open Go.Proofs.Tryz
namespace Go.Proofs.YtoohljflflnbeaaGreatDoor
open Go.Av Go.ChangeShapes Go.WideShapes Go.ChangeAt Go.RowKit
def lS:List (String×DataW Unit):=Rows.sliceTidiesRow.laid
def pX:List (String×DataW Unit):=[("math/bits.deBruijn32tab",Rows.laid_math_bits_deBruijn32tab),("math/bits.deBruijn64tab",Rows.laid_math_bits_deBruijn64tab),("internal/strconv.uint64pow10",Rows.laid_internal_strconv_uint64pow10),("unicode/utf8.acceptRanges",Rows.laid_unicode_utf8_acceptRanges),("strconv.ErrRange",Rows.laid_strconv_ErrRange),("strconv.ErrSyntax",Rows.laid_strconv_ErrSyntax),("signalcabin/ladder.heads",Rows.laid_signalcabin_ladder_heads),("signalcabin/signalcabinref.Fine",Rows.laid_signalcabin_signalcabinref_Fine),("signalcabin/signalcabinref.nameWords",Rows.laid_signalcabin_signalcabinref_nameWords),("signalcabin/signalcabinref.rungWords",Rows.laid_signalcabin_signalcabinref_rungWords),("unicode/utf8.first",Rows.laid_unicode_utf8_first)]
theorem M9:lS.filter (fun x=>x.2.handleName?.isNone)=pX:=ag
theorem vd {W:World} (h:laidMetH prog lS W):laidMet prog pX W:=by
 have:=(laidMetH_iff.1 h).1;rwa [M9]at this
theorem Yi:pX.filter (fun x=>x.1 == "signalcabin/signalcabinref.Fine")=BT:=by kernel_rfl
theorem XG {W:World} (h:laidMetH prog lS W):laidMet prog BT W:=by
 have:=(vd h).filter fun x=>x.1 == "signalcabin/signalcabinref.Fine"
 rwa [Yi]at this
theorem Yj:pX.filter (fun x=>x.1 == "signalcabin/ladder.heads")=FY:=by kernel_rfl
theorem XJ {W:World} (h:laidMetH prog lS W):laidMet prog FY W:=by
 have:=(vd h).filter fun x=>x.1 == "signalcabin/ladder.heads"
 rwa [Yj]at this
theorem Yl:pX.filter (fun x=>x.1 == "internal/strconv.uint64pow10")=BU:=by kernel_rfl
theorem Yw {W:World} (h:laidMetH prog lS W):laidMet prog BU W:=by
 have:=(vd h).filter fun x=>x.1 == "internal/strconv.uint64pow10"
 rwa [Yl]at this
theorem Yo:pX.filter (fun x=>x.1 == "strconv.ErrSyntax")=FX:=by kernel_rfl
theorem YA {W:World} (h:laidMetH prog lS W):laidMet prog FX W:=by
 have:=(vd h).filter fun x=>x.1 == "strconv.ErrSyntax"
 rwa [Yo]at this
theorem Ym:pX.filter (fun x=>x.1 == "strconv.ErrRange")=FW:=by kernel_rfl
theorem Yx {W:World} (h:laidMetH prog lS W):laidMet prog FW W:=by
 have:=(vd h).filter fun x=>x.1 == "strconv.ErrRange"
 rwa [Ym]at this
theorem Yk:pX.filter (fun x=>x.1 == "signalcabin/signalcabinref.nameWords")=FZ:=by kernel_rfl
theorem Yv {W:World} (h:laidMetH prog lS W):laidMet prog FZ W:=by
 have:=(vd h).filter fun x=>x.1 == "signalcabin/signalcabinref.nameWords"
 rwa [Yk]at this
theorem Yn:pX.filter (fun x=>x.1 == "signalcabin/signalcabinref.rungWords")=F0:=by kernel_rfl
theorem Yy {W:World} (h:laidMetH prog lS W):laidMet prog F0 W:=by
 have:=(vd h).filter fun x=>x.1 == "signalcabin/signalcabinref.rungWords"
 rwa [Yn]at this
theorem XI:lS.filter (fun x=>x.2.handleName?.isSome)=BS:=ag
theorem XF {W:World} (h:laidMetH prog lS W):handlesMet prog BS W:=by
 have:=h.2;rw[<- XI];exact this
noncomputable def NG (os:Os):World:=
 let w0:=World.laidAll prog os pX
 { w0 with heap:=w0.heap.modify 4 fun
   | .cells _ t frozen=>.cells #[px] t frozen
   | o=>o }
theorem Yt (os:Os) (args:Array Value):laidMetH prog lS ((NG os).forCall (fun _ _=>0) ⟨#[],args,[]⟩).memory:=by
 refine laidMetH_of_parts ?_ ag;have e:(lS.filter fun x=>x.2.handleName?.isNone)=pX:=M9;rw[e];exact laidMet_of_run' 8 ag ag
def I6 (m:Int) (es:Value) (er:Value):aF:=A0 [(4,.ip [.v px]),(0,.ip [ab 0,ab (-1)]),(1,.ip b8),(5,.ip [ab m]),(6,.nW (Lib.pow10Tab.map fun z=>Value.int .u64 z).toArray),(7,.ip [.v es]),(8,.ip [.v er]),(2,.ip [.sl none (Cb.map fun s=>[.v (.string (bs s))])]),(3,.ip [.sl none (Cw.map fun s=>[.v (.string (bs s))])])]
theorem Qu {W:World} {m:Int} {es:Value} {er:Value} (hL:laidMetH prog lS W) (hm:W.cell? ⟨5,0,none⟩=some (.int .i64 m)) (ui:W.cell? ⟨7,0,none⟩=some es) (Ez:W.cell? ⟨8,0,none⟩=some er):∀ g x,I6 m es er g=some x->RD W (fun _=>False) (.pointer (some ⟨g,0,none⟩)) x:=I5 fun p hp=>by
 simp only[abg,List.not_mem_nil,or_false]at hp
 rcases hp with rfl | rfl | rfl | rfl | rfl | rfl | rfl | rfl | rfl
 .exact VN (XF hL)
 .exact VO (XG hL)
 .exact VQ (XJ hL)
 .exact VS hm
 .exact VU (Yw hL)
 .exact VX ui
 .exact VV Ez
 .exact VT (Yv hL)
 .exact VW (Yy hL)
theorem Yq (os:Os) (started:os.Started) (H:Type) (enc:TypeId×Value->H) :
  ReturnsInHanded {} Tryz.checked os 8 .any (fun w args=>(Rows.sliceTidiesSpec.pre enc prog Tryz.f8 [] false w args/\laidMetH prog lS w)/\sizedMet enc prog Tryz.f8 (OpenSpec.ofChange Rows.sliceTidiesSpec) false w args)
   (Rows.sliceTidiesSpec.post enc prog Tryz.f8 false true false false):=by
 refine QY (C:=Tryz.checked) (X:=fun w _=>laidMetH prog lS w) (fun _ _ _ hh h=>h.of_heap hh) T0 started ag func8
  (ChangeSpec.witness_shaped (enc:=enc) (C:=Tryz.checked) (os:=os) (X:=fun w _=>laidMetH prog lS w) false (NG os) #[.string ⟨#[]⟩] 8 rfl (World.shaped_of_ZipB ag ag) ag ag ag (Yt os _)) ?_
 intro W base args ds gs before S8 hW hL yQ;obtain⟨m,hm⟩:=Uz yQ;obtain⟨es,ui,RG⟩:=YQ (YA hL);obtain⟨er,Ez,RF⟩:=Wk (Yx hL);have sZ:∀ (j:Nat) t v,Tryz.f8.params[j]? = some t->args[j]? = some v->Value.okWide prog W .any base t v:=S8;have Jl:=hW;obtain⟨p,q,QH,hV,rfl,Z5,sT⟩:=hW;have hA:DataW.TrodAll enc prog W 0 (fun _=>true) true Tryz.f8.params.toList args.toList ds p:=QH
 have bf:∀ x∈p,x.block < W.heap.size:=fun x hx=>by simpa using Jl.lt x (by simp[hx])
 have Q4:∀ W',Below W.heap.size W W'->DataW.TrodAll enc prog W' 0 (fun b=>decide (b < W.heap.size)) true Tryz.f8.params.toList args.toList ds p:=fun W' hb=>
  Np TZ hb (by rw[Tryz.params8];intro t ht;simp at ht;subst ht<;>exact⟨ag,of_decide_eq_true ag⟩) hA bf
 rw[Tryz.params8]at hA sZ;obtain⟨v0,l0,d0,e0,a0,b0,kM,rfl,rfl,h0,hA⟩:=trodAll_cons hA;obtain⟨rfl,rfl,rfl⟩:=trodAll_nil hA
 obtain rfl:args = #[v0]:=by
  apply Array.ext';simpa using kM
 obtain⟨rfl,rfl⟩:=trodVars_none hV;obtain⟨GW,rfl,rfl,rfl,_⟩:=Go.ChangeMaps.open_string underlying9 (sZ 0 9 v0 rfl rfl) h0;obtain⟨s0,rfl⟩:∃ s,GW=bs s:=⟨GW.data.toList,by cases GW;simp[bs]⟩;have SO:RD W (fun _=>False) (.string (bs s0)) (dS s0):=.v _;refine (TY (Yp (I6 m es er) rfl ⟨m,rfl⟩ rfl rfl rfl ⟨⟨rfl,RG⟩,rfl,RF⟩ rfl rfl s0) (W:=W) (args:=#[.string (bs s0)]) (Qu hL hm ui Ez) rfl (RD.Ak SO)).mono fun e W' ⟨he,hb⟩=>?_;subst he;exact⟨_,rfl,_,_,_,[],_,[],Jl,trodAll_mk1 (shut_bool underlying4 _),Q4 W' hb,rfl,hb.frame _,fun h=>by cases h⟩
