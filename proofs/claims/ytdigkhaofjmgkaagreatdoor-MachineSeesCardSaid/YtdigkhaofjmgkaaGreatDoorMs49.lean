/- Parts. -/
import Derived.Test.YtdigkhaofjmgkaaGreatDoorMs48
import Derived.Test.YtdigkhaofjmgkaaGreatDoorCards
import Derived.Test.YtdigkhaofjmgkaaGreatDoorTie
import Derived.ChangeSame
import Derived.ChangeVars
import Derived.ChangeMaps5
import Derived.JoinedOf
import Derived.LaidMore
set_option linter.unusedSimpArgs false
set_option linter.unusedVariables false
set_option maxRecDepth 100000
open Go.Proofs.Tryz
namespace Go.Proofs.YtdigkhaofjmgkaaGreatDoor
open Go.Av Go.ChangeShapes Go.WideShapes Go.ChangeAt Go.RowKit
def acW:List (String×DataW Unit):=Rows.machineSeesRow.laid
def adG:List (String×DataW Unit):=[("math/bits.deBruijn32tab",Rows.laid_math_bits_deBruijn32tab),("math/bits.deBruijn64tab",Rows.laid_math_bits_deBruijn64tab),("internal/strconv.uint64pow10",Rows.laid_internal_strconv_uint64pow10),("unicode/utf8.acceptRanges",Rows.laid_unicode_utf8_acceptRanges),("strconv.ErrRange",Rows.laid_strconv_ErrRange),("strconv.ErrSyntax",Rows.laid_strconv_ErrSyntax),("signalcabin/signalcabinref.Fine",Rows.laid_signalcabin_signalcabinref_Fine),("signalcabin/signalcabinref.nameWords",Rows.laid_signalcabin_signalcabinref_nameWords),("signalcabin/signalcabinref.rungWords",Rows.laid_signalcabin_signalcabinref_rungWords),("unicode/utf8.first",Rows.laid_unicode_utf8_first)]
theorem Jc:acW.filter (fun x=>x.2.handleName?.isNone)=adG:=by kernel_rfl
theorem uw {W:World} (h:laidMetH prog acW W):laidMet prog adG W:=by
 have:=(laidMetH_iff.1 h).1;rwa [Jc]at this
theorem Ux:adG.filter (fun x=>x.1 == "signalcabin/signalcabinref.Fine")=afm:=by kernel_rfl
theorem TX {W:World} (h:laidMetH prog acW W):laidMet prog afm W:=by
 have:=(uw h).filter fun x=>x.1 == "signalcabin/signalcabinref.Fine"
 rwa [Ux]at this
theorem Uz:adG.filter (fun x=>x.1 == "internal/strconv.uint64pow10")=zt:=by kernel_rfl
theorem UK {W:World} (h:laidMetH prog acW W):laidMet prog zt W:=by
 have:=(uw h).filter fun x=>x.1 == "internal/strconv.uint64pow10"
 rwa [Uz]at this
theorem UC:adG.filter (fun x=>x.1 == "strconv.ErrSyntax")=Du:=by kernel_rfl
theorem UO {W:World} (h:laidMetH prog acW W):laidMet prog Du W:=by
 have:=(uw h).filter fun x=>x.1 == "strconv.ErrSyntax"
 rwa [UC]at this
theorem UA:adG.filter (fun x=>x.1 == "strconv.ErrRange")=Dt:=by kernel_rfl
theorem UL {W:World} (h:laidMetH prog acW W):laidMet prog Dt W:=by
 have:=(uw h).filter fun x=>x.1 == "strconv.ErrRange"
 rwa [UA]at this
theorem Uy:adG.filter (fun x=>x.1 == "signalcabin/signalcabinref.nameWords")=Dv:=by kernel_rfl
theorem UJ {W:World} (h:laidMetH prog acW W):laidMet prog Dv W:=by
 have:=(uw h).filter fun x=>x.1 == "signalcabin/signalcabinref.nameWords"
 rwa [Uy]at this
theorem UB:adG.filter (fun x=>x.1 == "signalcabin/signalcabinref.rungWords")=Dw:=by kernel_rfl
theorem UM {W:World} (h:laidMetH prog acW W):laidMet prog Dw W:=by
 have:=(uw h).filter fun x=>x.1 == "signalcabin/signalcabinref.rungWords"
 rwa [UB]at this
theorem TZ:acW.filter (fun x=>x.2.handleName?.isSome)=zr:=by kernel_rfl
theorem TW {W:World} (h:laidMetH prog acW W):handlesMet prog zr W:=by
 have:=h.2;rw[<- TZ];exact this
noncomputable def LI (os:Os):World:=
 let w0:=World.laidAll prog os adG
 { w0 with heap:=w0.heap.modify 3 fun
   | .cells _ t frozen=>.cells #[lK] t frozen
   | o=>o }
theorem UH (os:Os) (args:Array Value):laidMetH prog acW ((LI os).forCall (fun _ _=>0) ⟨#[],args,[]⟩).memory:=by
 refine laidMetH_of_parts ?_ (by kernel_rfl);have e:(acW.filter fun x=>x.2.handleName?.isNone)=adG:=Jc;rw[e];exact laidMet_of_run' 8 (by kernel_rfl) (by kernel_rfl)
def GA (m:Int) (es:Value) (er:Value):ao:=yp [(3,.ip [.v lK]),(2,.ip [ab 0,ab (-1)]),(4,.ip [ab m]),(7,.lA (Lib.pow10Tab.map fun z=>Value.int .u64 z).toArray),(5,.ip [.v es]),(6,.ip [.v er]),(1,.ip [.sl none (zI.map fun s=>[.v (.string (bs s))])]),(0,.ip [.sl none (Ae.map fun s=>[.v (.string (bs s))])])]
theorem OK {W:World} {m:Int} {es:Value} {er:Value} (hL:laidMetH prog acW W) (hm:W.cell? ⟨4,0,none⟩=some (.int .i64 m)) (rI:W.cell? ⟨5,0,none⟩=some es) (Cp:W.cell? ⟨6,0,none⟩=some er):∀ g x,GA m es er g=some x->RD W (fun _=>False) (.pointer (some ⟨g,0,none⟩)) x:=Gz fun p hp=>by
 simp only[List.mem_cons,List.not_mem_nil,or_false]at hp
 rcases hp with rfl | rfl | rfl | rfl | rfl | rfl | rfl | rfl
 .exact V7 (TW hL)
 .exact V8 (TX hL)
 .exact Wb hm
 .exact Wd (UK hL)
 .exact Wg rI
 .exact We Cp
 .exact Wc (UJ hL)
 .exact Wf (UM hL)
theorem UE (os:Os) (started:os.Started) (H:Type) (enc:TypeId×Value->H) :
  ReturnsInHanded {} Tryz.checked os 4 .any (fun w args=>(Rows.machineSeesSpec.pre enc prog Tryz.f4 [] false w args/\laidMetH prog acW w)/\sizedMet enc prog Tryz.f4 (OpenSpec.ofChange Rows.machineSeesSpec) false w args)
   (Rows.machineSeesSpec.post enc prog Tryz.f4 false true false false):=by
 refine PG (C:=Tryz.checked) (X:=fun w _=>laidMetH prog acW w) (fun _ _ _ hh h=>h.of_heap hh) Sw started (by kernel_rfl) func4
  (ChangeSpec.witness_shaped (enc:=enc) (C:=Tryz.checked) (os:=os) (X:=fun w _=>laidMetH prog acW w) false (LI os) #[.string ⟨#[]⟩,.int .i64 0,.int .i64 0] 8 rfl (World.shaped_of_ZipB (by kernel_rfl) (by kernel_rfl)) (by kernel_rfl) (by kernel_rfl) (by kernel_rfl) (UH os _)) ?_
 intro W base args ds gs before RH hW hL hsh;obtain⟨m,hm⟩:=Tf hsh;obtain⟨es,rI,Qh⟩:=XJ (UO hL);obtain⟨er,Cp,Qg⟩:=WE (UL hL);have acS:∀ (j:Nat) t v,Tryz.f4.params[j]? = some t->args[j]? = some v->Value.okWide prog W .any base t v:=RH;have Ha:=hW;obtain⟨p,q,BO,hV,rfl,Zb,fe⟩:=hW;have hA:DataW.TrodAll enc prog W 0 (fun _=>true) true Tryz.f4.params.toList args.toList ds p:=BO
 have ay:∀ x∈p,x.block < W.heap.size:=fun x hx=>by simpa using Ha.lt x (by simp[hx])
 have PM:∀ W',Below W.heap.size W W'->DataW.TrodAll enc prog W' 0 (fun b=>decide (b < W.heap.size)) true Tryz.f4.params.toList args.toList ds p:=fun W' hb=>
  Lq Sv hb (by rw[Tryz.params4];intro t ht;simp at ht;rcases ht with rfl | rfl<;>exact⟨by kernel_rfl,of_decide_eq_true (by kernel_rfl)⟩) hA ay
 rw[Tryz.params4]at hA acS;obtain⟨v0,l0,d0,e0,a0,b0,QO,rfl,rfl,h0,hA⟩:=trodAll_cons hA;obtain⟨v1,l1,d1,e1,a1,b1,rfl,rfl,rfl,h1,hA⟩:=trodAll_cons hA;obtain⟨v2,l2,d2,e2,a2,b2,rfl,rfl,rfl,h2,hA⟩:=trodAll_cons hA;obtain⟨rfl,rfl,rfl⟩:=trodAll_nil hA
 obtain rfl:args = #[v0,v1,v2]:=by
  apply Array.ext';simpa using QO
 obtain⟨rfl,rfl⟩:=trodVars_none hV;obtain⟨Ez,rfl,rfl,rfl,_⟩:=Go.ChangeMaps.open_string underlying9 (acS 0 9 v0 rfl rfl) h0;obtain⟨s0,rfl⟩:∃ s,Ez=bs s:=⟨Ez.data.toList,by cases Ez;simp[bs]⟩;have Rm:RD W (fun _=>False) (.string (bs s0)) (dS s0):=.v _;obtain⟨s1,rfl,rfl,rfl,_⟩:=open_int underlying3 (acS 1 3 v1 rfl rfl) h1;have Rn:RD W (fun _=>False) (.int .i64 s1) (.v (.int .i64 s1)):=.v _;obtain⟨s2,rfl,rfl,rfl,_⟩:=open_int underlying3 (acS 2 3 v2 rfl rfl) h2;have Ro:RD W (fun _=>False) (.int .i64 s2) (.v (.int .i64 s2)):=.v _;refine (Su (UD (GA m es er) rfl ⟨m,rfl⟩ rfl rfl ⟨⟨rfl,Qh⟩,rfl,Qg⟩ rfl rfl s0 s1 s2) (W:=W) (args:=#[.string (bs s0),.int .i64 s1,.int .i64 s2]) (OK hL hm rI Cp) rfl (RD.ML Rm Rn Ro)).mono fun e W' ⟨he,hb⟩=>?_;subst he;exact⟨_,rfl,_,_,_,[],_,[],Ha,trodAll_mk1 (shut_bool underlying4 _),PM W' hb,rfl,hb.frame _,fun h=>by cases h⟩
