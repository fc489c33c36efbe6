/-
  Texts that belong together,in one file: N1.
-/
import Derived.Test.YtpboiimemmfkiaaGreatDoorRp15
import Derived.Laws.Strings
set_option linter.unusedSimpArgs false
set_option linter.unusedVariables false
namespace Go.Proofs.YtpboiimemmfkiaaGreatDoor
open Go.Av
open Go.RowKit Go.Shelf Go.Lib
def bs (l:List UInt8):ByteArray:=⟨l.toArray⟩
def dS (l:List UInt8):D:=.v (.string (bs l))
theorem bs_list (l:List UInt8):(bs l).toList=l:=by rw [ByteArray.toList_eq];rfl
theorem bs_data (l:List UInt8):(bs l).data.toList=l:=rfl
theorem bs_size (l:List UInt8):(bs l).size=l.length:=rfl
theorem bs_nil:(⟨#[]⟩:ByteArray)=bs []:=rfl
theorem below_grew {w w':World} (h:Below w.heap.size w w'):Grew w w':=⟨h.size,h.os,h.tape,h.output,h.block⟩
theorem trim_spec (G:Glob) (l:List UInt8) (hl:l.length < 2^60):PureC Tryz.prog G 162 [dS l,dS cutL] (dS (Lib.trimS l cutL)):=by
 refine PureC.of_calls (Fun.of Tryz.func162 rfl rfl) fun X w vs hsz hrd hgl=>?_
 obtain ⟨a,b,rfl⟩:∃ a b,vs = #[a,b]:=by
  match vs,hsz with
  | ⟨[a,b]⟩,_=>exact ⟨a,b,rfl⟩
 have ha:=(hrd 0 a _ rfl rfl).scalar
 have hb:=(hrd 1 b _ rfl rfl).scalar
 subst ha hb
 have hcon:=Any.strings_Trim_laid Tryz.lays160 (by kernel_rfl) (bs l) (bs cutL) w (by rw [bs_size];omega) (by decide) (ascii_of_all (by decide))
 change Calls Tryz.prog 162 _ _ (fun e w'=>e = .returned (.string (bs (Lib.trimS l cutL)))∧Below w.heap.size w w') at hcon
 exact hcon.mono fun e w' ⟨he,hB⟩=>⟨_,he,below_grew hB,.v _⟩
set_option maxHeartbeats 1000000 in
theorem index_spec (G:Glob) (k:Option Bool) (ws:List (List UInt8)) (s:List UInt8) (hl:ws.length < 2^60):PureC Tryz.prog G 212 [.sl k (ws.map fun x=>[dS x]),dS s] (.v (.int .i64 (idx (fun x=>s == x) ws))):=by
 refine PureC.of_body (tyOf_good _) Tryz.func212 rfl rfl (rs:=[.tmp 4]) Tryz.results212 (by simp [Tryz.ntmps212]) fun X=>?_;simp only [Tryz.ntmps212,List.map];refine rg0 [0,1] [] ?_;refine AW_then fun K1 hK1=>?_;refine rg0 [0,1,7,8] [] ?_;refine AW_for (S:=Nat) (fun n=>n≤ws.length∧∀ i (hi:i < ws.length),i < n→(s == ws[i])=false) (fun n=>⟨lst [(0,.d (.sl k (ws.map fun x=>[dS x]))),(1,.d (dS s)),(7,int ws.length),(8,int n)],hlst []⟩) (fun n=>ws.length - n) 0 ?_ (by simp) ?_
 ·refine Imp.to' (fun _ _=>trivial) (by simp) (by simp)
 ·rintro n ⟨hn,hp⟩
  refine rg0 [0,1,7,8,9] [] ?_;refine AW_then fun K2 hK2=>?_;refine AW_cond' (b:=n < ws.length) (by simp [D.le,D.le.go,takeMap]) (fun hc=>?_) (fun hc=>?_)
  ·refine AW_skip (hK2 _ ?_);refine AW_then fun K3 hK3=>?_;refine AW_block ?_;refine rg0 [0,1,5,7,8] [] ?_
   by_cases he:s=ws[n]
   ·refine rg [0,1,5,7,8,16] [] (fun _ _=>trivial) fun K' hK'=>?_;(repeat (refine sxn fun K2 hK2=>?_;simp [hc,dS,bs_list,he,binS];(repeat (refine ⟨by omega,?_⟩));refine hK2 _ ?_;clear hK2 K2));refine sxz (hK' _ (AW.st (by simp [hc,dS,bs_list,he,binS];rfl) ?_));clear hK' K';refine AW_tt rfl ?_;refine rg0 [4] [] ?_;refine AW_ret ?_;simp [D.le,D.le.go,takeMap];exact (idx_hit (p:=fun x=>s == x) hc (by simp [he]) fun i hi=>hp i (by omega) hi).symm
   ·have he':(s == ws[n])=false:=by simpa using he
    refine rg [0,1,5,7,8,16] [] (fun _ _=>trivial) fun K' hK'=>?_;(repeat (refine sxn fun K2 hK2=>?_;simp [hc,dS,bs_list,he,he',binS];(repeat (refine ⟨by omega,?_⟩));refine hK2 _ ?_;clear hK2 K2));refine sxz (hK' _ (AW.st (by simp [hc,dS,bs_list,he,he',binS];rfl) ?_));clear hK' K';refine AW_ff rfl ?_;refine AW_skip (hK3 _ ?_);refine AW_re (tyOf_good _) fun K' hK'=>?_;(repeat (refine sxn fun K2 hK2=>?_;simp;(repeat (refine ⟨by omega,?_⟩));refine hK2 _ ?_;clear hK2 K2));refine sxz (hK' _ ?_);clear hK' K';(try simp only [thn,inb]);refine Again.mk (n+1) ⟨by omega,fun i hi hin=>?_⟩ (by omega) ?_
    ·by_cases h:i=n
     ·subst h;simpa using he
     ·exact hp i hi (by omega)
    refine Imp.to' (fun _ _=>trivial) (by simp [dS]) (by simp [dS])
  ·refine AW_exit (hK1 _ ?_);refine rg0 [4] [] ?_;refine AW_ret ?_;simp [D.le,D.le.go,takeMap];exact (idx_miss (p:=fun x=>s == x) fun i hi=>hp i hi (by omega)).symm
theorem contains_spec (G:Glob) (k:Option Bool) (ws:List (List UInt8)) (s:List UInt8) (hl:ws.length < 2^60):PureC Tryz.prog G 179 [.sl k (ws.map fun x=>[dS x]),dS s] (.v (.bool (ws.any fun x=>s == x))):=by
 refine PureC.of_body (tyOf_good _) Tryz.func179 rfl rfl (rs:=[.tmp 4]) Tryz.results179 (by simp [Tryz.ntmps179]) fun X=>?_;simp only [Tryz.ntmps179,List.map];refine rg0 [0,1] [] ?_;refine rgc trivial (index_spec G k ws s hl) [4] [] ?_;refine AW_ret ?_;simp [D.le,D.le.go,takeMap];exact idx_any (fun x=>s == x) ws
set_option maxHeartbeats 4000000 in
theorem name_spec (G:Glob) (l:List UInt8) (hl:l.length < 2^60):PureC Tryz.prog G 138 [dS l] (.v (.bool (nameF l))):=by
 have htrim:=trim_spec G l hl
 have hcont:=contains_spec G none wordsL l (by decide)
 refine PureC.of_body (tyOf_good _) Tryz.func138 rfl rfl (rs:=[.tmp 2]) Tryz.results138 (by simp [Tryz.ntmps138]) fun X=>?_;simp only [Tryz.ntmps138,List.map];refine rgq @dS.eq_1 [0] [] ?_
 by_cases h1:l=[]
 ·subst h1;refine rg [2] [] (fun _ _=>trivial) fun K' hK'=>?_;(repeat (refine sxn fun K2 hK2=>?_;simp [bs_nil,bs_list,binS];(repeat (refine ⟨by omega,?_⟩));refine hK2 _ ?_;clear hK2 K2));refine sxz (hK' _ (AW.st (by simp [bs_nil,bs_list,binS];rfl) ?_));clear hK' K';refine AW_ret ?_;simp [D.le,D.le.go,takeMap];simp [nameF]
 obtain ⟨a,l',hal⟩:∃ a l',l=a :: l':=by
  cases l with
  | nil=>exact absurd rfl h1
  | cons a l'=>exact ⟨a,l',rfl⟩
 have e0:l[0]? = some a:=by rw [hal];rfl
 have e1:l.head? = some a:=by rw [hal];rfl
 have h0:0 < l.length:=by rw [hal];simp
 have hg:l.getD 0 0=a:=by rw [hal];rfl
 have hga:l[0]=a:=by apply Option.some.inj;rw [← e0];exact (List.getElem?_eq_getElem h0).symm
 by_cases h2:(l.length:Int)≤8
 ·have h2':l.length≤8:=by omega
  by_cases h3:(97:Int)≤(a.toNat:Int)
  ·have h3':97≤a.toNat:=by omega
   by_cases h4:(a.toNat:Int)≤122
   ·have h4':a.toNat≤122:=by omega
    by_cases h5:Lib.trimS l cutL=[]
    ·rw [h5] at htrim;refine rg [2] [26] (fun _ _=>trivial) fun K' hK'=>?_;(repeat (refine sxn fun K2 hK2=>?_;simp [bs_nil,bs_list,bs_size,bs_data,binS,e0,e1,h0,hga,h1,h2,h2',h3,h4,dS];(repeat (refine ⟨by omega,?_⟩));refine hK2 _ ?_;clear hK2 K2));refine sxn fun K2 hK2=>?_;simp [bs_nil,bs_list,bs_size,bs_data,binS,e0,e1,h0,hga,h1,h2,h2',h3,h4,dS];refine callK.data (htrim) (by simp;rfl) (by first | exact D.leGo_refl _ | simp [takeMap,List.map_map,Function.comp_def,D.le,D.le.go,D.le_refl,D.leGo_refl,bs_nil,bs_list,bs_size,bs_data,binS,e0,e1,h0,hga,h1,h2,h2',h3,h4,dS]) ?_;refine hK2 _ ?_;clear hK2 K2;simp only [putd,upd_lst];(repeat (refine sxn fun K2 hK2=>?_;simp [bs_nil,bs_list,bs_size,bs_data,binS,e0,e1,h0,hga,h1,h2,h2',h3,h4,dS];(repeat (refine ⟨by omega,?_⟩));refine hK2 _ ?_;clear hK2 K2));refine sxn fun K2 hK2=>?_;simp [bs_nil,bs_list,bs_size,bs_data,binS,e0,e1,h0,hga,h1,h2,h2',h3,h4,dS];refine callK.lend (hcont) (by simp;rfl) (by first | exact D.leGo_refl _ | simp [takeMap,List.map_map,Function.comp_def,D.le,D.le.go,D.le_refl,D.leGo_refl,bs_nil,bs_list,bs_size,bs_data,binS,e0,e1,h0,hga,h1,h2,h2',h3,h4,dS]) (by simp [D.scalar]) ?_;refine hK2 _ ?_;clear hK2 K2;simp only [putd,upd_lst];(repeat (refine sxn fun K2 hK2=>?_;simp [bs_nil,bs_list,bs_size,bs_data,binS,e0,e1,h0,hga,h1,h2,h2',h3,h4,dS];(repeat (refine ⟨by omega,?_⟩));refine hK2 _ ?_;clear hK2 K2));refine sxz (hK' _ (AW.st (by simp [bs_nil,bs_list,bs_size,bs_data,binS,e0,e1,h0,hga,h1,h2,h2',h3,h4,dS];rfl) ?_));clear hK' K';refine AW_ret ?_;simp [D.le,D.le.go,takeMap];simp [nameF,h1,h2',hg,e0,h3',h4',h5]
    ·have h5':¬ (Lib.trimS l cutL == [])=true:=by simpa using h5
     refine rg [2] [] (fun _ _=>trivial) fun K' hK'=>?_;(repeat (refine sxn fun K2 hK2=>?_;simp [bs_nil,bs_list,bs_size,bs_data,binS,e0,e1,h0,hga,h1,h2,h2',h3,h4,h5,dS];(repeat (refine ⟨by omega,?_⟩));refine hK2 _ ?_;clear hK2 K2));refine sxn fun K2 hK2=>?_;simp [bs_nil,bs_list,bs_size,bs_data,binS,e0,e1,h0,hga,h1,h2,h2',h3,h4,h5,dS];refine callK.data (htrim) (by simp;rfl) (by first | exact D.leGo_refl _ | simp [takeMap,List.map_map,Function.comp_def,D.le,D.le.go,D.le_refl,D.leGo_refl,bs_nil,bs_list,bs_size,bs_data,binS,e0,e1,h0,hga,h1,h2,h2',h3,h4,h5,dS]) ?_;refine hK2 _ ?_;clear hK2 K2;simp only [putd,upd_lst];(repeat (refine sxn fun K2 hK2=>?_;simp [bs_nil,bs_list,bs_size,bs_data,binS,e0,e1,h0,hga,h1,h2,h2',h3,h4,h5,dS];(repeat (refine ⟨by omega,?_⟩));refine hK2 _ ?_;clear hK2 K2));refine sxz (hK' _ (AW.st (by simp [bs_nil,bs_list,bs_size,bs_data,binS,e0,e1,h0,hga,h1,h2,h2',h3,h4,h5,dS];rfl) ?_));clear hK' K';refine AW_ret ?_;simp [D.le,D.le.go,takeMap];simp [nameF,h1,h2',hg,e0,h3',h4',h5]
   ·have h4':¬ a.toNat≤122:=by omega
    refine rg [2] [] (fun _ _=>trivial) fun K' hK'=>?_;(repeat (refine sxn fun K2 hK2=>?_;simp [bs_nil,bs_list,bs_size,bs_data,binS,e0,e1,h0,hga,h1,h2,h2',h3,h4];(repeat (refine ⟨by omega,?_⟩));refine hK2 _ ?_;clear hK2 K2));refine sxz (hK' _ (AW.st (by simp [bs_nil,bs_list,bs_size,bs_data,binS,e0,e1,h0,hga,h1,h2,h2',h3,h4];rfl) ?_));clear hK' K';refine AW_ret ?_;simp [D.le,D.le.go,takeMap];simp [nameF,h1,h2',hg,e0,h3',h4']
  ·have h3':¬ 97≤a.toNat:=by omega
   refine rg [2] [] (fun _ _=>trivial) fun K' hK'=>?_;(repeat (refine sxn fun K2 hK2=>?_;simp [bs_nil,bs_list,bs_size,bs_data,binS,e0,e1,h0,hga,h1,h2,h2',h3];(repeat (refine ⟨by omega,?_⟩));refine hK2 _ ?_;clear hK2 K2));refine sxz (hK' _ (AW.st (by simp [bs_nil,bs_list,bs_size,bs_data,binS,e0,e1,h0,hga,h1,h2,h2',h3];rfl) ?_));clear hK' K';refine AW_ret ?_;simp [D.le,D.le.go,takeMap];simp [nameF,h1,h2',hg,e0,h3']
 ·have h2':¬ l.length≤8:=by omega
  refine rg [2] [] (fun _ _=>trivial) fun K' hK'=>?_;(repeat (refine sxn fun K2 hK2=>?_;simp [bs_nil,bs_list,bs_size,bs_data,binS,e0,e1,h0,hga,h1,h2,h2'];(repeat (refine ⟨by omega,?_⟩));refine hK2 _ ?_;clear hK2 K2));refine sxz (hK' _ (AW.st (by simp [bs_nil,bs_list,bs_size,bs_data,binS,e0,e1,h0,hga,h1,h2,h2'];rfl) ?_));clear hK' K';refine AW_ret ?_;simp [D.le,D.le.go,takeMap];simp [nameF,h1,h2']
end Go.Proofs.YtpboiimemmfkiaaGreatDoor
