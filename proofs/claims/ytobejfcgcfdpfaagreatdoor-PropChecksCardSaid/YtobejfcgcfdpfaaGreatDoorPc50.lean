/- Parts. -/
import Derived.Test.YtobejfcgcfdpfaaGreatDoorPc49
import Derived.Test.YtobejfcgcfdpfaaGreatDoorCards
import Derived.Test.YtobejfcgcfdpfaaGreatDoorTie
import Derived.ChangeSame
import Derived.ChangeVars
import Derived.ChangeMaps5
import Derived.JoinedOf
import Derived.LaidMore
set_option linter.unusedSimpArgs false
set_option linter.unusedVariables false
set_option maxRecDepth 100000
open Go.Proofs.Tryz
namespace Go.Proofs.YtobejfcgcfdpfaaGreatDoor
open Go.Av Go.ChangeShapes Go.WideShapes Go.ChangeAt Go.RowKit
def pG:List (String×DataW Unit):=Rows.propChecksRow.laid
def uT:List (String×DataW Unit):=[("math/bits.deBruijn32tab",Rows.laid_math_bits_deBruijn32tab),("math/bits.deBruijn64tab",Rows.laid_math_bits_deBruijn64tab),("internal/strconv.uint64pow10",Rows.laid_internal_strconv_uint64pow10),("unicode/utf8.acceptRanges",Rows.laid_unicode_utf8_acceptRanges),("strconv.ErrRange",Rows.laid_strconv_ErrRange),("strconv.ErrSyntax",Rows.laid_strconv_ErrSyntax),("signalcabin/signalcabinref.Fine",Rows.laid_signalcabin_signalcabinref_Fine),("signalcabin/signalcabinref.nameWords",Rows.laid_signalcabin_signalcabinref_nameWords),("signalcabin/signalcabinref.rungWords",Rows.laid_signalcabin_signalcabinref_rungWords),("unicode/utf8.first",Rows.laid_unicode_utf8_first)]
theorem VL:pG.filter (fun x=>x.2.handleName?.isNone)=uT:=ah
theorem CE {W:World} (h:laidMetH prog pG W):laidMet prog uT W:=by
 have:=(laidMetH_iff.1 h).1;rwa [VL]at this
theorem agZ:uT.filter (fun x=>x.1 == "signalcabin/signalcabinref.Fine")=Ix:=by kernel_rfl
theorem agp {W:World} (h:laidMetH prog pG W):laidMet prog Ix W:=by
 have:=(CE h).filter fun x=>x.1 == "signalcabin/signalcabinref.Fine"
 rwa [agZ]at this
theorem ag1:uT.filter (fun x=>x.1 == "internal/strconv.uint64pow10")=Iy:=by kernel_rfl
theorem ahc {W:World} (h:laidMetH prog pG W):laidMet prog Iy W:=by
 have:=(CE h).filter fun x=>x.1 == "internal/strconv.uint64pow10"
 rwa [ag1]at this
theorem ag4:uT.filter (fun x=>x.1 == "strconv.ErrSyntax")=NK:=by kernel_rfl
theorem ahg {W:World} (h:laidMetH prog pG W):laidMet prog NK W:=by
 have:=(CE h).filter fun x=>x.1 == "strconv.ErrSyntax"
 rwa [ag4]at this
theorem ag2:uT.filter (fun x=>x.1 == "strconv.ErrRange")=NJ:=by kernel_rfl
theorem ahd {W:World} (h:laidMetH prog pG W):laidMet prog NJ W:=by
 have:=(CE h).filter fun x=>x.1 == "strconv.ErrRange"
 rwa [ag2]at this
theorem ag0:uT.filter (fun x=>x.1 == "signalcabin/signalcabinref.nameWords")=NL:=by kernel_rfl
theorem ahb {W:World} (h:laidMetH prog pG W):laidMet prog NL W:=by
 have:=(CE h).filter fun x=>x.1 == "signalcabin/signalcabinref.nameWords"
 rwa [ag0]at this
theorem ag3:uT.filter (fun x=>x.1 == "signalcabin/signalcabinref.rungWords")=NM:=by kernel_rfl
theorem ahe {W:World} (h:laidMetH prog pG W):laidMet prog NM W:=by
 have:=(CE h).filter fun x=>x.1 == "signalcabin/signalcabinref.rungWords"
 rwa [ag3]at this
theorem agr:pG.filter (fun x=>x.2.handleName?.isSome)=Iw:=ah
theorem ago {W:World} (h:laidMetH prog pG W):handlesMet prog Iw W:=by
 have:=h.2;rw[<- agr];exact this
noncomputable def X5 (os:Os):World:=
 let w0:=World.laidAll prog os uT
 { w0 with heap:=w0.heap.modify 3 fun
   | .cells _ t frozen=>.cells #[rv] t frozen
   | o=>o }
theorem ag9 (os:Os) (args:Array Value):laidMetH prog pG ((X5 os).forCall (fun _ _=>0) ⟨#[],args,[]⟩).memory:=by
 refine laidMetH_of_parts ?_ ah;have e:(pG.filter fun x=>x.2.handleName?.isNone)=uT:=VL;rw[e];exact laidMet_of_run' 8 ah ah
def Rt (m:Int) (es:Value) (er:Value):aB:=GU [(3,.ip [.v rv]),(0,.ip [ab 0,ab (-1)]),(4,.ip [ab m]),(7,.ra (Lib.pow10Tab.map fun z=>Value.int .u64 z).toArray),(5,.ip [.v es]),(6,.ip [.v er]),(2,.ip [.sl none (IW.map fun s=>[.v (.string (bs s))])]),(1,.ip [.sl none (Jr.map fun s=>[.v (.string (bs s))])])]
theorem aa8 {W:World} {m:Int} {es:Value} {er:Value} (hL:laidMetH prog pG W) (hm:W.cell? ⟨4,0,none⟩=some (.int .i64 m)) (zx:W.cell? ⟨5,0,none⟩=some es) (L9:W.cell? ⟨6,0,none⟩=some er):∀ g x,Rt m es er g=some x->RD W (fun _=>False) (.pointer (some ⟨g,0,none⟩)) x:=Rr fun p hp=>by
 simp only[amx,List.not_mem_nil,or_false]at hp
 rcases hp with rfl | rfl | rfl | rfl | rfl | rfl | rfl | rfl
 .exact ahX (ago hL)
 .exact ahY (agp hL)
 .exact ah1 hm
 .exact ah3 (ahc hL)
 .exact ah6 zx
 .exact ah4 L9
 .exact ah2 (ahb hL)
 .exact ah5 (ahe hL)
theorem ag6 (os:Os) (started:os.Started) (H:Type) (enc:TypeId×Value->H) :
  ReturnsInHanded {} Tryz.checked os 3 .any (fun w args=>(Rows.propChecksSpec.pre enc prog Tryz.f3 [] false w args/\laidMetH prog pG w)/\sizedMet enc prog Tryz.f3 (OpenSpec.ofChange Rows.propChecksSpec) false w args)
   (Rows.propChecksSpec.post enc prog Tryz.f3 false true false false):=by
 refine abL (C:=Tryz.checked) (X:=fun w _=>laidMetH prog pG w) (fun _ _ _ hh h=>h.of_heap hh) ad1 started ah func3
  (ChangeSpec.witness_shaped (enc:=enc) (C:=Tryz.checked) (os:=os) (X:=fun w _=>laidMetH prog pG w) false (X5 os) #[.string ⟨#[]⟩,.string ⟨#[]⟩] 8 rfl (World.shaped_of_ZipB ah ah) ah ah ah (ag9 os _)) ?_
 intro W base args ds gs before adh hW hL wA;obtain⟨m,hm⟩:=aeT wA;obtain⟨es,zx,acf⟩:=ajG (ahg hL);obtain⟨er,L9,ace⟩:=aiA (ahd hL);have qg:∀ (j:Nat) t v,Tryz.f3.params[j]? = some t->args[j]? = some v->Value.okWide prog W .any base t v:=adh;have Sy:=hW;obtain⟨p,q,Lj,hV,rfl,hfz,mO⟩:=hW;have hA:DataW.TrodAll enc prog W 0 (fun _=>true) true Tryz.f3.params.toList args.toList ds p:=Lj
 have aG:∀ x∈p,x.block < W.heap.size:=fun x hx=>by simpa using Sy.lt x (by simp[hx])
 have abR:∀ W',Below W.heap.size W W'->DataW.TrodAll enc prog W' 0 (fun b=>decide (b < W.heap.size)) true Tryz.f3.params.toList args.toList ds p:=fun W' hb=>
  XI ad0 hb (by rw[Tryz.params3];intro t ht;simp at ht;subst ht<;>exact⟨ah,of_decide_eq_true ah⟩) hA aG
 rw[Tryz.params3]at hA qg;obtain⟨v0,l0,d0,e0,a0,b0,HI,rfl,rfl,h0,hA⟩:=trodAll_cons hA;obtain⟨v1,l1,d1,e1,a1,b1,rfl,rfl,rfl,h1,hA⟩:=trodAll_cons hA;obtain⟨rfl,rfl,rfl⟩:=trodAll_nil hA
 obtain rfl:args = #[v0,v1]:=by
  apply Array.ext';simpa using HI
 obtain⟨rfl,rfl⟩:=trodVars_none hV;obtain⟨O7,rfl,rfl,rfl,_⟩:=Go.ChangeMaps.open_string underlying9 (qg 0 9 v0 rfl rfl) h0;obtain⟨s0,rfl⟩:∃ s,O7=bs s:=⟨O7.data.toList,by cases O7;simp[bs]⟩;have acY:RD W (fun _=>False) (.string (bs s0)) (dS s0):=.v _;obtain⟨O8,rfl,rfl,rfl,_⟩:=Go.ChangeMaps.open_string underlying9 (qg 1 9 v1 rfl rfl) h1;obtain⟨s1,rfl⟩:∃ s,O8=bs s:=⟨O8.data.toList,by cases O8;simp[bs]⟩;have acZ:RD W (fun _=>False) (.string (bs s1)) (dS s1):=.v _;refine (adZ (ag5 (Rt m es er) rfl ⟨m,rfl⟩ rfl rfl ⟨⟨rfl,acf⟩,rfl,ace⟩ rfl rfl s0 s1) (W:=W) (args:=#[.string (bs s0),.string (bs s1)]) (aa8 hL hm zx L9) rfl (RD.F9 acY acZ)).mono fun e W' ⟨he,hb⟩=>?_;subst he;exact⟨_,rfl,_,_,_,[],_,[],Sy,trodAll_mk1 (shut_bool underlying4 _),abR W' hb,rfl,hb.frame _,fun h=>by cases h⟩
