/- Parts. -/
import Derived.Test.YtobejfcgcfdpfaaGreatDoorPc1
import Derived.WalkKit
import Derived.WalkLawsBesides
set_option linter.unusedSectionVars false
set_option linter.unusedSimpArgs false
set_option linter.unusedVariables false
theorem sh:type_of% @List.take_of_length_le:=@List.take_of_length_le
theorem AI:type_of% @Option.some.inj:=@Option.some.inj
theorem AS:type_of% @Option.map_eq_some_iff:=@Option.map_eq_some_iff
theorem AT:type_of% @List.getElem?_eq_getElem:=@List.getElem?_eq_getElem
theorem By:type_of% @List.getElem_mem:=@List.getElem_mem
theorem BY:type_of% @List.getElem?_eq_some_iff:=@List.getElem?_eq_some_iff
theorem IT:type_of% @Option.some.injEq:=@Option.some.injEq
theorem OF:type_of% @Bool.and_eq_true:=@Bool.and_eq_true
theorem amc:type_of% @Function.comp_def:=@Function.comp_def
theorem amd:type_of% @Int.toNat_natCast:=@Int.toNat_natCast
theorem ame:type_of% @List.getD_eq_getElem?_getD:=@List.getD_eq_getElem?_getD
theorem amf:type_of% @Array.getElem?_eq_some_iff:=@Array.getElem?_eq_some_iff
theorem amg:type_of% @Array.getD_eq_getD_getElem?:=@Array.getD_eq_getD_getElem?
theorem amh:type_of% @Nat.le_refl:=@Nat.le_refl
theorem ami:type_of% @Int.eq_ofNat_of_zero_le:=@Int.eq_ofNat_of_zero_le
theorem amj:type_of% @Prod.mk.injEq:=@Prod.mk.injEq
theorem amk:type_of% @List.map_map:=@List.map_map
theorem aml:type_of% @List.take_succ_eq_append_getElem:=@List.take_succ_eq_append_getElem
theorem amm:type_of% @List.getElem?_map:=@List.getElem?_map
theorem amn:type_of% @Bool.false_eq_true:=@Bool.false_eq_true
theorem amo:type_of% @List.length_cons:=@List.length_cons
theorem amp:type_of% @List.length_append:=@List.length_append
theorem amq:type_of% @List.mem_append:=@List.mem_append
theorem amr:type_of% @List.mem_of_mem_take:=@List.mem_of_mem_take
theorem ams:type_of% @Array.getElem?_toList:=@Array.getElem?_toList
theorem amt:type_of% @List.map_set:=@List.map_set
theorem amu:type_of% @List.drop_eq_getElem_cons:=@List.drop_eq_getElem_cons
theorem amv:type_of% @List.getElem?_take:=@List.getElem?_take
theorem amw:type_of% @List.length_take:=@List.length_take
theorem amx:type_of% @List.mem_cons:=@List.mem_cons
theorem amy:type_of% @Option.bind_eq_some_iff:=@Option.bind_eq_some_iff
theorem amz:type_of% @List.mem_iff_getElem:=@List.mem_iff_getElem
theorem amA:type_of% @Array.getElem?_eq_getElem:=@Array.getElem?_eq_getElem
theorem amB:type_of% @Nat.mul_le_mul_right:=@Nat.mul_le_mul_right
theorem amC:type_of% @List.eq_nil_of_length_eq_zero:=@List.eq_nil_of_length_eq_zero
theorem amD:type_of% @List.mem_singleton:=@List.mem_singleton
theorem amE:type_of% @List.map_cons:=@List.map_cons
theorem amF:type_of% @List.length_drop:=@List.length_drop
theorem amG:type_of% @List.findIdx?_eq_some_iff_getElem:=@List.findIdx?_eq_some_iff_getElem
theorem amH:type_of% @List.drop_eq_nil_of_le:=@List.drop_eq_nil_of_le
theorem amI:type_of% @Option.map_some:=@Option.map_some
theorem amJ:type_of% @Nat.add_mul:=@Nat.add_mul
theorem amK:type_of% @Array.length_toList:=@Array.length_toList
theorem amL:type_of% @List.sizeOf_lt_of_mem:=@List.sizeOf_lt_of_mem
theorem amM:type_of% @List.getElem?_drop:=@List.getElem?_drop
theorem amN:type_of% @Nat.lt_of_lt_of_le:=@Nat.lt_of_lt_of_le
theorem amO:type_of% @List.map_replicate:=@List.map_replicate
theorem amP:type_of% @Nat.pow_le_pow_right:=@Nat.pow_le_pow_right
theorem amQ:type_of% @Classical.byContradiction:=@Classical.byContradiction
theorem amR:type_of% @Nat.zero_add:=@Nat.zero_add
theorem amS:type_of% @List.mem_map:=@List.mem_map
theorem amT:type_of% @List.length_map:=@List.length_map
theorem amU:type_of% @Bool.or_eq_true:=@Bool.or_eq_true
theorem amV:type_of% @List.map_append:=@List.map_append
theorem amW:type_of% @List.length_eq_one_iff:=@List.length_eq_one_iff
theorem amX:type_of% @Array.toList_inj:=@Array.toList_inj
theorem amY:type_of% @Array.getElem?_append_left:=@Array.getElem?_append_left
theorem amZ:type_of% @List.mem_of_getElem?:=@List.mem_of_getElem?
theorem am0:type_of% @List.append_nil:=@List.append_nil
theorem am1:type_of% @List.contains_iff_mem:=@List.contains_iff_mem
theorem am2:type_of% @List.length_nil:=@List.length_nil
theorem am3:type_of% @List.mem_of_mem_drop:=@List.mem_of_mem_drop
theorem am4:type_of% @List.append_assoc:=@List.append_assoc
theorem am5:type_of% @List.pairwise_cons:=@List.pairwise_cons
theorem am6:type_of% @Nat.add_assoc:=@Nat.add_assoc
theorem am7:type_of% @List.cons_append:=@List.cons_append
theorem am8:type_of% @List.take_length:=@List.take_length
theorem am9:type_of% @Option.isSome_iff_exists:=@Option.isSome_iff_exists
theorem ana:type_of% @List.eq_append_cons_of_mem:=@List.eq_append_cons_of_mem
theorem anb:type_of% @Int.tmod_eq_emod_of_nonneg:=@Int.tmod_eq_emod_of_nonneg
theorem anc:type_of% @List.length_pos_iff:=@List.length_pos_iff
theorem ane:type_of% @List.all_eq_true:=@List.all_eq_true
theorem anf:type_of% @List.nodup_cons:=@List.nodup_cons
theorem ang:type_of% @List.nil_append:=@List.nil_append
theorem anh:type_of% @List.take_append_of_le_length:=@List.take_append_of_le_length
theorem ani:type_of% @Int.mul_le_mul_of_nonneg_left:=@Int.mul_le_mul_of_nonneg_left
theorem anj:type_of% @Nat.add_zero:=@Nat.add_zero
theorem ank:type_of% @List.singleton_append:=@List.singleton_append
theorem anl:type_of% @Bool.not_false:=@Bool.not_false
theorem anm:type_of% @Int.tdiv_eq_ediv_of_nonneg:=@Int.tdiv_eq_ediv_of_nonneg
theorem ann:type_of% @Ne.symm:=@Ne.symm
theorem ano:type_of% @List.pairwise_append:=@List.pairwise_append
theorem anp:type_of% @Array.getElem?_eq_none:=@Array.getElem?_eq_none
theorem anq:type_of% @List.getElem?_append_left:=@List.getElem?_append_left
theorem anr:type_of% @List.any_eq_true:=@List.any_eq_true
theorem ans:type_of% @List.size_toArray:=@List.size_toArray
theorem ant:type_of% @Bool.not_eq_true':=@Bool.not_eq_true'
theorem anu:type_of% @Int.natCast_add:=@Int.natCast_add
theorem anv:type_of% @Nat.lt_or_ge:=@Nat.lt_or_ge
theorem anw:type_of% @Array.getElem?_setIfInBounds_ne:=@Array.getElem?_setIfInBounds_ne
theorem anx:type_of% @Nat.mul_one:=@Nat.mul_one
theorem anz:type_of% @Bool.false_or:=@Bool.false_or
theorem anA:type_of% @List.mem_range:=@List.mem_range
theorem anB:type_of% @List.findIdx?_eq_none_iff:=@List.findIdx?_eq_none_iff
theorem anC:type_of% @List.isEmpty_eq_false_iff:=@List.isEmpty_eq_false_iff
theorem anD:type_of% @List.getElem?_eq_none:=@List.getElem?_eq_none
theorem anE:type_of% @Bool.and_eq_false_iff:=@Bool.and_eq_false_iff
theorem anF:type_of% @List.findIdx?_cons:=@List.findIdx?_cons
theorem anG:type_of% @List.getElem?_append:=@List.getElem?_append
theorem anH:type_of% @Bool.or_eq_false_iff:=@Bool.or_eq_false_iff
theorem anI:type_of% @List.length_eq_zero_iff:=@List.length_eq_zero_iff
theorem anJ:type_of% @Nat.zero_mul:=@Nat.zero_mul
theorem anK:type_of% @Int.le_of_lt:=@Int.le_of_lt
theorem anL:type_of% @List.takeWhile_cons:=@List.takeWhile_cons
theorem anM:type_of% @Option.getD_some:=@Option.getD_some
theorem anN:type_of% @Nat.add_comm:=@Nat.add_comm
theorem anO:type_of% @Array.getElem?_modify:=@Array.getElem?_modify
theorem anP:type_of% @List.length_singleton:=@List.length_singleton
theorem anQ:type_of% @Nat.le_trans:=@Nat.le_trans
theorem anR:type_of% @List.take_append_drop:=@List.take_append_drop
theorem anS:type_of% @List.map_nil:=@List.map_nil
theorem anT:type_of% @List.mem_append_left:=@List.mem_append_left
theorem anU:type_of% @List.range_eq_range':=@List.range_eq_range'
theorem anV:type_of% @List.cons.injEq:=@List.cons.injEq
theorem anW:type_of% @Nat.min_eq_left:=@Nat.min_eq_left
theorem anX:type_of% @List.any_eq_false:=@List.any_eq_false
theorem anY:type_of% @List.map_drop:=@List.map_drop
theorem anZ:type_of% @Nat.zero_le:=@Nat.zero_le
theorem an0:type_of% @Int.le_refl:=@Int.le_refl
theorem an1:type_of% @Sum.inr.injEq:=@Sum.inr.injEq
theorem an2:type_of% @List.ext_getElem:=@List.ext_getElem
theorem an3:type_of% @Option.bind_some:=@Option.bind_some
theorem an4:type_of% @List.range'_succ:=@List.range'_succ
theorem an5:type_of% @Int.mul_nonneg:=@Int.mul_nonneg
theorem an6:type_of% @Option.map_none:=@Option.map_none
theorem an7:type_of% @List.map_take:=@List.map_take
namespace Go.Av
inductive D where
 | v (x:Value)
 | sl (k:Option Bool) (els:List (List D))
 | ip (cells:List D)
 | agg (cells:List D)
 | bz (vs:List D)
 | cC (t:TypeId) (x:D)
 | fn (f:Fn) (caps:List D)
 | ra (cs:Array Value)
 | dm (x:Bool) (ents:List (Value×Value))
instance:Inhabited D:=⟨.v .nilFunc⟩
inductive AV where
 | d (x:D)
 | own (r off n:Nat)
 | ref (r e j:Nat)
 | agg (cells:List AV)
 | bz (vs:List AV)
 | cC (t:TypeId) (x:AV)
 | fn (f:Fn) (caps:List AV)
 | bm (g:FuncId) (x:AV)
 | mp (r:Nat)
 | dead
instance:Inhabited AV:=⟨.dead⟩
inductive Row where
 | sl (ty:TypeId) (sz:Nat) (els:List (List D))
 | box (ty:TypeId) (cells:List AV)
 | mp (ty:TypeId) (ents:List (Value×D))
 | it (ents:List (Value×Value)) (seen:List Nat)
instance:Inhabited Row:=⟨.box 0 []⟩
structure jZ where
 fT:Option Nat
 sz:Nat
 cap:Nat
abbrev Mu:=Nat->Option jZ
def jU (μ:Mu) (b:Nat):Prop:=∃ r m,μ r=some m/\m.fT=some b
def XX (X:Nat->Prop) (μ:Mu) (b:Nat):Prop:=X b\/jU μ b
def kD (ents:List (Value×Value)):Array MapEntry:=(ents.zipIdx.map fun p=>{ key:=p.1.1,val:=p.1.2,born:=p.2:MapEntry }).toArray
theorem rW (ents:List (Value×Value)):(kD ents).size=ents.length:=by simp[kD]
theorem Cn {ents:List (Value×Value)} {i:Nat} (h:i < ents.length):(kD ents)[i]? = some { key:=ents[i].1,val:=ents[i].2,born:=i }:=by simp[kD,h]
inductive RD (w:World) (X:Nat->Prop):Value->D->Prop
 | v (x:Value):RD w X x (.v x)
 | nil {k:Option Bool} (hk:k≠some true):RD w X (.slice none 0 0) (.sl k [])
 | empty {k:Option Bool} {a:Addr} {cap:Nat} (hk:k≠some false) (hm:cap<=maxLen):RD w X (.slice (some a) 0 cap) (.sl k [])
 | sl {k:Option Bool} {b off n cap sz:Nat} {els:List (List D)} {f:Nat->Nat->Value} (hk:k≠some false) (hn:els.length=n) (hc:n<=cap) (hm:cap<=maxLen)
   (hX:¬ X b) (hs:∀ el∈els,el.length=sz) (hz:0 < sz) (bq:0 < n)
   (fJ:∀ i j,i < n->j < sz->w.cell? ⟨b,off+(i * sz+j),none⟩=some (f i j))
   (hr:∀ (i j:Nat) (el:List D) (c:D),els[i]? = some el->el[j]? = some c->RD w X (f i j) c) :
   RD w X (.slice (some ⟨b,off,none⟩) n cap) (.sl k els)
 | ip {b off:Nat} {cells:List D} {f:Nat->Value} (hX:¬ X b) (hb:b < w.heap.size)
   (fJ:∀ j,j < cells.length->w.cell? ⟨b,off+j,none⟩=some (f j))
   (hr:∀ (j:Nat) (c:D),cells[j]? = some c->RD w X (f j) c):RD w X (.pointer (some ⟨b,off,none⟩)) (.ip cells)
 | agg {arr:Array Value} {cells:List D} (hn:arr.size=cells.length) (hr:∀ (j:Nat) (u:Value) (c:D),arr[j]? = some u->cells[j]? = some c->RD w X u c):RD w X (.agg arr) (.agg cells)
 | bz {arr:Array Value} {cells:List D} (hn:arr.size=cells.length) (hr:∀ (j:Nat) (u:Value) (c:D),arr[j]? = some u->cells[j]? = some c->RD w X u c):RD w X (.tuple arr) (.bz cells)
 | cC {t:TypeId} {u:Value} {x:D} (h:RD w X u x):RD w X (.iface t u) (.cC t x)
 | fn {f:Fn} {arr:Array Value} {cells:List D} (hn:arr.size=cells.length) (hr:∀ (j:Nat) (u:Value) (c:D),arr[j]? = some u->cells[j]? = some c->RD w X u c):RD w X (.func f #[] arr) (.fn f cells)
 | ra {b:Nat} {cs:Array Value} {ty:TypeId} {fr:Nat×Nat} (hX:¬ X b) (hh:w.heap[b]? = some (.cells cs ty fr)):RD w X (.pointer (some ⟨b,0,none⟩)) (.ra cs)
 | dm {b:Nat} {x:Bool} {es ents:List (Value×Value)} (hX:¬ X b) (hh:w.heap[b]? = some (.map (kD es) es.length)) (hp:es.Perm ents) (hx:x=true->es=ents):RD w X (.map (some b)) (.dm x ents)
theorem yY {w:World} {a:Addr} {v:Value} (h:w.cell? a=some v):a.block < w.heap.size:=World.block_lt_of_cell? w a h
theorem RD.mono {w w':World} {X X':Nat->Prop} (bp:w.heap.size<=w'.heap.size) (h:∀ b,b < w.heap.size->¬ X b->w'.heap[b]? = w.heap[b]?/\¬ X' b) {v:Value} {x:D} (hr:RD w X v x):RD w' X' v x:=by
 induction hr with
 | v x=>exact .v x
 | nil hk=>exact .nil hk
 | empty hk hm=>exact .empty hk hm
 | sl hk hn hc hm hX hs hz bq fJ hr ih=>
  rename_i k b off n cap sz els f;have hb:b < w.heap.size:=yY (fJ 0 0 bq hz);refine .sl hk hn hc hm (h b hb hX).2 hs hz bq (fun i j hi hj=>?_) ih;rw[World.cell?_of_block (w:=w) (h b hb hX).1];exact fJ i j hi hj
 | ip hX hb fJ hr ih=>
  rename_i b off cells f;refine .ip (h b hb hX).2 aa (fun j hj=>?_) ih;rw[World.cell?_of_block (w:=w) (h b hb hX).1];exact fJ j hj
 | agg hn _ ih=>exact .agg hn ih
 | bz hn _ ih=>exact .bz hn ih
 | cC _ ih=>exact .cC ih
 | fn hn _ ih=>exact .fn hn ih
 | ra hX hh=>exact .ra (h _ (Array.getElem?_eq_some_iff.1 hh).1 hX).2 ((h _ (Array.getElem?_eq_some_iff.1 hh).1 hX).1.trans hh)
 | dm hX hh hp hx=>exact .dm (h _ (Array.getElem?_eq_some_iff.1 hh).1 hX).2 ((h _ (Array.getElem?_eq_some_iff.1 hh).1 hX).1.trans hh) hp hx
inductive RV (w:World) (X:Nat->Prop) (μ:Mu):Value->AV->Prop
 | d {u:Value} {x:D} (h:RD w (XX X μ) u x):RV w X μ u (.d x)
 | own {u:Value} {r off n:Nat} {m:jZ} (hm:μ r=some m) (h:(m.fT=none/\u = .slice none 0 0/\off=0/\n=0)\/(∃ b,m.fT=some b/\u = .slice (some ⟨b,off * m.sz,none⟩) n (m.cap - off)/\off+n<=m.cap)):RV w X μ u (.own r off n)
 | ref {r e j b:Nat} {m:jZ} (hm:μ r=some m) (hb:m.fT=some b):RV w X μ (.pointer (some ⟨b,e * m.sz+j,none⟩)) (.ref r e j)
 | agg {arr:Array Value} {cells:List AV} (hn:arr.size=cells.length) (hr:∀ (j:Nat) (u:Value) (c:AV),arr[j]? = some u->cells[j]? = some c->RV w X μ u c):RV w X μ (.agg arr) (.agg cells)
 | bz {arr:Array Value} {cells:List AV} (hn:arr.size=cells.length) (hr:∀ (j:Nat) (u:Value) (c:AV),arr[j]? = some u->cells[j]? = some c->RV w X μ u c):RV w X μ (.tuple arr) (.bz cells)
 | cC {t:TypeId} {u:Value} {x:AV} (h:RV w X μ u x):RV w X μ (.iface t u) (.cC t x)
 | fn {f:Fn} {arr:Array Value} {cells:List AV} (hn:arr.size=cells.length) (hr:∀ (j:Nat) (u:Value) (c:AV),arr[j]? = some u->cells[j]? = some c->RV w X μ u c):RV w X μ (.func f #[] arr) (.fn f cells)
 | bm {g:FuncId} {u:Value} {x:AV} (h:RV w X μ u x):RV w X μ (.func (.func g) #[u] #[]) (.bm g x)
 | mp {r b:Nat} {m:jZ} (hm:μ r=some m) (hb:m.fT=some b):RV w X μ (.map (some b)) (.mp r)
 | dead (u:Value):RV w X μ u .dead
theorem RD.scalar {w:World} {X:Nat->Prop} {u x:Value} (h:RD w X u (.v x)):u=x:=by
 generalize hy:D.v x=y at h;cases h<;>cases hy;rfl
theorem RV.scalar {w:World} {X:Nat->Prop} {μ:Mu} {u x:Value} (h:RV w X μ u (.d (.v x))):u=x:=by
 generalize hy:AV.d (.v x)=y at h;cases h<;>cases hy;rename_i h;exact h.scalar
theorem RV.data {w:World} {X:Nat->Prop} {μ:Mu} {u:Value} {x:D} (h:RV w X μ u (.d x)):RD w (XX X μ) u x:=by
 generalize hy:AV.d x=y at h;cases h<;>cases hy
 assumption
def AV.kill (r:Nat):AV->AV
 | .d x=>.d x
 | .own q off n=>if q=r then .dead else .own q off n
 | .ref q e j=>if q=r then .dead else .ref q e j
 | .agg cells=>.agg (go r cells)
 | .bz vs=>.bz (go r vs)
 | .cC t x=>.cC t (x.kill r)
 | .fn f caps=>.fn f (go r caps)
 | .bm g x=>.bm g (x.kill r)
 | .mp q=>if q=r then .dead else .mp q
 | .dead=>.dead
where
 go (r:Nat):List AV->List AV
 | []=>[]
 | x :: l=>x.kill r :: go r l
theorem AV.go_eq (r:Nat) (l:List AV):AV.kill.go r l=l.map (AV.kill r):=by
 induction l with
 | nil=>rfl
 | cons x l ih=>simp[AV.kill.go,ih]
def Row.kill (r:Nat):Row->Row
 | .sl ty sz els=>.sl ty sz els
 | .box ty cells=>.box ty (cells.map (AV.kill r))
 | .mp ty ents=>.mp ty ents
 | .it ents seen=>.it ents seen
structure Ev (Mv:Nat->Prop) (w:World) (μ:Mu) (w':World) (aI:Mu):Prop where
 size:w.heap.size<=w'.heap.size
 os:w'.os=w.os
 tape:w'.tape=w.tape
 output:w'.output=w.output
 same:∀ b,b < w.heap.size->¬ jU μ b->w'.heap[b]? = w.heap[b]?/\¬ jU aI b
 kept:∀ r m,μ r=some m->¬ Mv r->aI r=some m
theorem Ev.refl (Mv:Nat->Prop) (w:World) (μ:Mu):Ev Mv w μ w μ:=⟨Nat.le_refl _,rfl,rfl,rfl,fun _ _ h=>⟨rfl,h⟩,fun _ _ h _=>h⟩
theorem Ev.trans {Mv:Nat->Prop} {w w1 w2:World} {μ mY ku:Mu} (h:Ev Mv w μ w1 mY) (h':Ev Mv w1 mY w2 ku):Ev Mv w μ w2 ku:=
 ⟨Nat.le_trans h.size h'.size,h'.os.trans h.os,h'.tape.trans h.tape,h'.output.trans h.output,fun b hb hr=>
  have h1:=h.same b hb hr;have h2:=h'.same b (Nat.lt_of_lt_of_le hb h.size) h1.2
  ⟨h2.1.trans h1.1,h2.2⟩,fun r m hm hn=>h'.kept r m (h.kept r m hm hn) hn⟩
theorem Ev.weaken {Mv Qe:Nat->Prop} {w w':World} {μ aI:Mu} (h:Ev Mv w μ w' aI) (hm:∀ r m,μ r=some m->Mv r->Qe r):Ev Qe w μ w' aI:=
 ⟨h.size,h.os,h.tape,h.output,h.same,fun r m hr hn=>h.kept r m hr fun hh=>hn (hm r m hr hh)⟩
theorem RD.ev {w w':World} {μ aI:Mu} {X:Nat->Prop} {Mv:Nat->Prop} (h:Ev Mv w μ w' aI) {v:Value} {x:D} (hr:RD w (XX X μ) v x):RD w' (XX X aI) v x:=
 hr.mono h.size fun b hb hX=>⟨(h.same b hb fun e=>hX (.inr e)).1,fun e=>e.elim (fun e=>hX (.inl e)) (h.same b hb fun e=>hX (.inr e)).2⟩
theorem RV.keep {w w':World} {μ aI:Mu} {X:Nat->Prop} {Mv:Nat->Prop} (h:Ev Mv w μ w' aI) {r:Nat} (gS:∀ q,q≠r->aI q=μ q):∀ {v:Value} {x:AV},RV w X μ v x->RV w' X aI v (x.kill r):=by
 intro v x hr
 induction hr with
 | d h'=>exact .d (h'.ev h)
 | own hm h'=>
  rename_i u r' off n m;unfold AV.kill;split
  .exact .dead _
  .rename_i bq;exact .own ((gS r' bq).trans hm) h'
 | ref hm hb=>
  rename_i r' e j b m;unfold AV.kill;split
  .exact .dead _
  .rename_i bq;exact .ref ((gS r' bq).trans hm) hb
 | agg hn _ ih=>
  rw[AV.kill,AV.go_eq];refine .agg (by simpa using hn) fun j u c hu hc=>?_;rw[List.getElem?_map]at hc;obtain⟨c',eI,rfl⟩:=Option.map_eq_some_iff.1 hc;exact ih j u c' hu eI
 | bz hn _ ih=>
  rw[AV.kill,AV.go_eq];refine .bz (by simpa using hn) fun j u c hu hc=>?_;rw[List.getElem?_map]at hc;obtain⟨c',eI,rfl⟩:=Option.map_eq_some_iff.1 hc;exact ih j u c' hu eI
 | cC _ ih=>exact .cC ih
 | bm _ ih=>exact .bm ih
 | fn hn _ ih=>
  rw[AV.kill,AV.go_eq];refine .fn (by simpa using hn) fun j u c hu hc=>?_;rw[List.getElem?_map]at hc;obtain⟨c',eI,rfl⟩:=Option.map_eq_some_iff.1 hc;exact ih j u c' hu eI
 | mp hm hb=>
  rename_i r' b m;unfold AV.kill;split
  .exact .dead _
  .rename_i bq;exact .mp ((gS r' bq).trans hm) hb
 | dead u=>exact .dead u
theorem RV.same {w w':World} {μ aI:Mu} {X:Nat->Prop} {Mv:Nat->Prop} (h:Ev Mv w μ w' aI) (gS:∀ q m,μ q=some m->aI q=some m):∀ {v:Value} {x:AV},RV w X μ v x->RV w' X aI v x:=by
 intro v x hr
 induction hr with
 | d h'=>exact .d (h'.ev h)
 | own hm h'=>exact .own (gS _ _ hm) h'
 | ref hm hb=>exact .ref (gS _ _ hm) hb
 | agg hn _ ih=>exact .agg hn ih
 | bz hn _ ih=>exact .bz hn ih
 | cC _ ih=>exact .cC ih
 | bm _ ih=>exact .bm ih
 | fn hn _ ih=>exact .fn hn ih
 | mp hm hb=>exact .mp (gS _ _ hm) hb
 | dead u=>exact .dead u
abbrev Heap:=Nat->Option Row
inductive kY (w:World) (X:Nat->Prop) (μ:Mu) (m:jZ):Row->Prop
 | nil {ty sz:Nat} (hb:m.fT=none) (hs:m.sz=sz):kY w X μ m (.sl ty sz [])
 | sl {ty sz b:Nat} {els:List (List D)} {cur:Array Value} (hb:m.fT=some b) (hs:m.sz=sz) (hh:w.heap[b]? = some (.cells cur ty (0,0))) (hc:cur.size=m.cap * sz)
   (hn:els.length<=m.cap) (hm:m.cap<=maxLen) (hl:∀ el∈els,el.length=sz) (hz:0 < sz)
   (hr:∀ (i j:Nat) (el:List D) (c:D),els[i]? = some el->el[j]? = some c->∃ u,cur[i * sz+j]? = some u/\RD w (XX X μ) u c):kY w X μ m (.sl ty sz els)
 | box {ty b:Nat} {cells:List AV} {cur:Array Value} (hb:m.fT=some b) (hs:m.sz=m.sz) (hc:m.cap<=maxLen) (hh:w.heap[b]? = some (.cells cur ty (0,0))) (hn:cells.length<=cur.size)
   (hr:∀ (j:Nat) (u:Value) (c:AV),cur[j]? = some u->cells[j]? = some c->RV w X μ u c) (hx:ty=QB->cells.length=cur.size):kY w X μ m (.box ty cells)
 | mp {ty b:Nat} {ents:List (Value×D)} {es:Array MapEntry} (hb:m.fT=some b) (hh:w.heap[b]? = some (.map es es.size)) (hn:es.size=ents.length)
   (hr:∀ (i:Nat) (e:MapEntry) (p:Value×D),es[i]? = some e->ents[i]? = some p->e.key=p.1/\e.born=i/\RD w (XX X μ) e.val p.2):kY w X μ m (.mp ty ents)
 | it {b bm:Nat} {ents:List (Value×Value)} {seen:List Nat} (hb:m.fT=some b) (hh:w.heap[b]? = some (.mapIter (some bm) ents.length seen.toArray ents.length)) (hr:RD w (XX X μ) (.map (some bm)) (.dm true ents)):kY w X μ m (.it ents seen)
structure eT (w:World) (X:Nat->Prop) (μ:Mu) (H:Heap):Prop where
 rows:∀ r row,H r=some row->∃ m,μ r=some m/\kY w X μ m row
 l5:∀ r m,μ r=some m->∃ row,H r=some row
 inj:∀ r r' m m' b,μ r=some m->μ r'=some m'->m.fT=some b->m'.fT=some b->r=r'
 frame:∀ r m b,μ r=some m->m.fT=some b->¬ X b
 fits:∀ b,X b->b < w.heap.size
theorem eT.nP {w:World} {X:Nat->Prop} {μ:Mu} {H:Heap} (h:eT w X μ H) {b:Nat} (hb:jU μ b):b < w.heap.size:=by
 obtain⟨r,m,hm,hb⟩:=hb;obtain⟨row,hr⟩:=h.l5 r m hm;obtain⟨m',cL,ok⟩:=h.rows r row hr;rw[hm]at cL;obtain rfl:=Option.some.inj cL
 cases ok with
 | nil br _=>rw[br]at hb;cases hb
 | sl br _ hh=>rw[br]at hb;obtain rfl:=Option.some.inj hb;exact (Array.getElem?_eq_some_iff.1 hh).1
 | box br _ _ hh=>rw[br]at hb;obtain rfl:=Option.some.inj hb;exact (Array.getElem?_eq_some_iff.1 hh).1
 | mp br hh=>rw[br]at hb;obtain rfl:=Option.some.inj hb;exact (Array.getElem?_eq_some_iff.1 hh).1
 | it br hh=>rw[br]at hb;obtain rfl:=Option.some.inj hb;exact (Array.getElem?_eq_some_iff.1 hh).1
