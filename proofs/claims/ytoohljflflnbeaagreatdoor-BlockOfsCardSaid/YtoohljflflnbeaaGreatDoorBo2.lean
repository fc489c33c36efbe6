/- Parts. -/
import Derived.Test.YtoohljflflnbeaaGreatDoorBo1
import Derived.WalkKit
import Derived.WalkLawsBesides
set_option linter.unusedSectionVars false
set_option linter.unusedSimpArgs false
set_option linter.unusedVariables false
theorem sh:type_of% @List.take_of_length_le:=@List.take_of_length_le
theorem AI:type_of% @Option.some.inj:=@Option.some.inj
theorem AS:type_of% @Option.map_eq_some_iff:=@Option.map_eq_some_iff
theorem By:type_of% @List.getElem?_eq_getElem:=@List.getElem?_eq_getElem
theorem BY:type_of% @List.getElem?_eq_some_iff:=@List.getElem?_eq_some_iff
theorem IT:type_of% @Option.some.injEq:=@Option.some.injEq
theorem OF:type_of% @List.getElem_mem:=@List.getElem_mem
theorem abi:type_of% @Bool.and_eq_true:=@Bool.and_eq_true
theorem agw:type_of% @List.getD_eq_getElem?_getD:=@List.getD_eq_getElem?_getD
theorem agx:type_of% @Array.getElem?_eq_some_iff:=@Array.getElem?_eq_some_iff
theorem agy:type_of% @Function.comp_def:=@Function.comp_def
theorem agz:type_of% @Array.getD_eq_getD_getElem?:=@Array.getD_eq_getD_getElem?
theorem agA:type_of% @Prod.mk.injEq:=@Prod.mk.injEq
theorem agB:type_of% @List.take_succ_eq_append_getElem:=@List.take_succ_eq_append_getElem
theorem agC:type_of% @List.getElem?_map:=@List.getElem?_map
theorem agD:type_of% @Nat.le_refl:=@Nat.le_refl
theorem agE:type_of% @Bool.false_eq_true:=@Bool.false_eq_true
theorem agF:type_of% @List.map_map:=@List.map_map
theorem agG:type_of% @List.mem_iff_getElem:=@List.mem_iff_getElem
theorem agH:type_of% @Array.getElem?_toList:=@Array.getElem?_toList
theorem agI:type_of% @Option.bind_eq_some_iff:=@Option.bind_eq_some_iff
theorem agJ:type_of% @List.mem_of_mem_take:=@List.mem_of_mem_take
theorem agK:type_of% @List.mem_cons:=@List.mem_cons
theorem agL:type_of% @Array.getElem?_eq_getElem:=@Array.getElem?_eq_getElem
theorem agM:type_of% @List.length_take:=@List.length_take
theorem agN:type_of% @List.mem_append:=@List.mem_append
theorem agO:type_of% @Int.toNat_natCast:=@Int.toNat_natCast
theorem agP:type_of% @List.getElem?_take:=@List.getElem?_take
theorem agQ:type_of% @List.map_set:=@List.map_set
theorem agR:type_of% @List.drop_eq_getElem_cons:=@List.drop_eq_getElem_cons
theorem agS:type_of% @List.length_cons:=@List.length_cons
theorem agT:type_of% @Nat.mul_le_mul_right:=@Nat.mul_le_mul_right
theorem agU:type_of% @List.length_append:=@List.length_append
theorem agV:type_of% @List.map_append:=@List.map_append
theorem agW:type_of% @List.map_cons:=@List.map_cons
theorem agX:type_of% @List.length_drop:=@List.length_drop
theorem agY:type_of% @Int.eq_ofNat_of_zero_le:=@Int.eq_ofNat_of_zero_le
theorem agZ:type_of% @List.eq_nil_of_length_eq_zero:=@List.eq_nil_of_length_eq_zero
theorem ag0:type_of% @List.sizeOf_lt_of_mem:=@List.sizeOf_lt_of_mem
theorem ag1:type_of% @Option.map_some:=@Option.map_some
theorem ag2:type_of% @Nat.lt_of_lt_of_le:=@Nat.lt_of_lt_of_le
theorem ag3:type_of% @List.mem_map:=@List.mem_map
theorem ag4:type_of% @Nat.zero_add:=@Nat.zero_add
theorem ag5:type_of% @List.length_map:=@List.length_map
theorem ag6:type_of% @List.findIdx?_eq_some_iff_getElem:=@List.findIdx?_eq_some_iff_getElem
theorem ag7:type_of% @List.length_eq_one_iff:=@List.length_eq_one_iff
theorem ag8:type_of% @Array.getElem?_append_left:=@Array.getElem?_append_left
theorem ag9:type_of% @Bool.or_eq_true:=@Bool.or_eq_true
theorem aha:type_of% @List.contains_iff_mem:=@List.contains_iff_mem
theorem ahb:type_of% @Classical.byContradiction:=@Classical.byContradiction
theorem ahc:type_of% @List.mem_singleton:=@List.mem_singleton
theorem ahd:type_of% @List.getElem?_drop:=@List.getElem?_drop
theorem ahe:type_of% @List.drop_eq_nil_of_le:=@List.drop_eq_nil_of_le
theorem ahf:type_of% @List.mem_of_mem_drop:=@List.mem_of_mem_drop
theorem ahg:type_of% @Array.toList_inj:=@Array.toList_inj
theorem ahh:type_of% @Nat.add_mul:=@Nat.add_mul
theorem ahi:type_of% @List.pairwise_cons:=@List.pairwise_cons
theorem ahj:type_of% @List.eq_append_cons_of_mem:=@List.eq_append_cons_of_mem
theorem ahk:type_of% @Array.length_toList:=@Array.length_toList
theorem ahl:type_of% @List.all_eq_true:=@List.all_eq_true
theorem ahm:type_of% @List.append_nil:=@List.append_nil
theorem ahn:type_of% @List.nodup_cons:=@List.nodup_cons
theorem aho:type_of% @List.take_length:=@List.take_length
theorem ahp:type_of% @List.any_eq_true:=@List.any_eq_true
theorem ahq:type_of% @Int.mul_le_mul_of_nonneg_left:=@Int.mul_le_mul_of_nonneg_left
theorem ahr:type_of% @List.mem_of_getElem?:=@List.mem_of_getElem?
theorem ahs:type_of% @Nat.add_assoc:=@Nat.add_assoc
theorem aht:type_of% @Option.isSome_iff_exists:=@Option.isSome_iff_exists
theorem ahu:type_of% @List.length_pos_iff:=@List.length_pos_iff
theorem ahv:type_of% @List.singleton_append:=@List.singleton_append
theorem ahw:type_of% @Bool.not_false:=@Bool.not_false
theorem ahx:type_of% @Int.tmod_eq_emod_of_nonneg:=@Int.tmod_eq_emod_of_nonneg
theorem ahy:type_of% @Int.tdiv_eq_ediv_of_nonneg:=@Int.tdiv_eq_ediv_of_nonneg
theorem ahz:type_of% @Array.getElem?_eq_none:=@Array.getElem?_eq_none
theorem ahA:type_of% @List.getElem?_append_left:=@List.getElem?_append_left
theorem ahB:type_of% @Nat.add_zero:=@Nat.add_zero
theorem ahC:type_of% @List.mem_range:=@List.mem_range
theorem ahD:type_of% @Ne.symm:=@Ne.symm
theorem ahE:type_of% @Int.natCast_add:=@Int.natCast_add
theorem ahF:type_of% @List.pairwise_append:=@List.pairwise_append
theorem ahG:type_of% @Nat.pow_le_pow_right:=@Nat.pow_le_pow_right
theorem ahH:type_of% @Nat.lt_or_ge:=@Nat.lt_or_ge
theorem ahI:type_of% @List.append_assoc:=@List.append_assoc
theorem ahJ:type_of% @Array.getElem?_setIfInBounds_ne:=@Array.getElem?_setIfInBounds_ne
theorem ahK:type_of% @Nat.mul_one:=@Nat.mul_one
theorem ahL:type_of% @List.isEmpty_eq_false_iff:=@List.isEmpty_eq_false_iff
theorem ahM:type_of% @Nat.zero_mul:=@Nat.zero_mul
theorem ahN:type_of% @List.getElem?_eq_none:=@List.getElem?_eq_none
theorem ahO:type_of% @Bool.and_eq_false_iff:=@Bool.and_eq_false_iff
theorem ahP:type_of% @List.nil_append:=@List.nil_append
theorem ahQ:type_of% @List.findIdx?_cons:=@List.findIdx?_cons
theorem ahR:type_of% @List.cons_append:=@List.cons_append
theorem ahS:type_of% @List.take_append_of_le_length:=@List.take_append_of_le_length
theorem ahT:type_of% @List.getElem?_append:=@List.getElem?_append
theorem ahU:type_of% @Bool.or_eq_false_iff:=@Bool.or_eq_false_iff
theorem ahV:type_of% @List.length_eq_zero_iff:=@List.length_eq_zero_iff
theorem ahW:type_of% @Int.le_of_lt:=@Int.le_of_lt
theorem ahX:type_of% @List.size_toArray:=@List.size_toArray
theorem ahY:type_of% @Bool.not_eq_true':=@Bool.not_eq_true'
theorem ahZ:type_of% @List.length_nil:=@List.length_nil
theorem ah0:type_of% @List.takeWhile_cons:=@List.takeWhile_cons
theorem ah1:type_of% @Option.getD_some:=@Option.getD_some
theorem ah2:type_of% @Bool.false_or:=@Bool.false_or
theorem ah3:type_of% @Array.getElem?_modify:=@Array.getElem?_modify
theorem ah4:type_of% @List.length_singleton:=@List.length_singleton
theorem ah5:type_of% @Nat.le_trans:=@Nat.le_trans
theorem ah6:type_of% @List.take_append_drop:=@List.take_append_drop
theorem ah7:type_of% @List.mem_append_left:=@List.mem_append_left
theorem ah8:type_of% @List.cons.injEq:=@List.cons.injEq
theorem ah9:type_of% @Nat.add_comm:=@Nat.add_comm
theorem aia:type_of% @List.map_nil:=@List.map_nil
theorem aib:type_of% @Nat.zero_le:=@Nat.zero_le
theorem aic:type_of% @Sum.inr.injEq:=@Sum.inr.injEq
theorem aid:type_of% @Option.bind_some:=@Option.bind_some
theorem aie:type_of% @Int.mul_nonneg:=@Int.mul_nonneg
theorem aif:type_of% @Nat.min_eq_left:=@Nat.min_eq_left
namespace Go.Av
inductive D where
 | v (x:Value)
 | sl (k:Option Bool) (els:List (List D))
 | ip (cells:List D)
 | agg (cells:List D)
 | bx (vs:List D)
 | bZ (t:TypeId) (x:D)
 | fn (f:Fn) (caps:List D)
 | pK (cs:Array Value)
 | dm (x:Bool) (ents:List (Value×Value))
instance:Inhabited D:=⟨.v .nilFunc⟩
inductive AV where
 | d (x:D)
 | own (r off n:Nat)
 | ref (r e j:Nat)
 | agg (cells:List AV)
 | bx (vs:List AV)
 | bZ (t:TypeId) (x:AV)
 | fn (f:Fn) (caps:List AV)
 | bm (g:FuncId) (x:AV)
 | mp (r:Nat)
 | dead
instance:Inhabited AV:=⟨.dead⟩
inductive Row where
 | sl (ty:TypeId) (sz:Nat) (els:List (List D))
 | box (ty:TypeId) (cells:List AV)
 | mp (ty:TypeId) (ents:List (Value×D))
 | it (ents:List (Value×Value)) (seen:List Nat)
instance:Inhabited Row:=⟨.box 0 []⟩
structure jo where
 fo:Option Nat
 sz:Nat
 cap:Nat
abbrev Mu:=Nat->Option jo
def jj (μ:Mu) (b:Nat):Prop:=∃ r m,μ r=some m/\m.fo=some b
def XX (X:Nat->Prop) (μ:Mu) (b:Nat):Prop:=X b\/jj μ b
def jL (ents:List (Value×Value)):Array MapEntry:=(ents.zipIdx.map fun p=>{ key:=p.1.1,val:=p.1.2,born:=p.2:MapEntry }).toArray
theorem qg (ents:List (Value×Value)):(jL ents).size=ents.length:=by simp[jL]
theorem zI {ents:List (Value×Value)} {i:Nat} (h:i < ents.length):(jL ents)[i]? = some { key:=ents[i].1,val:=ents[i].2,born:=i }:=by simp[jL,h]
inductive RD (w:World) (X:Nat->Prop):Value->D->Prop
 | v (x:Value):RD w X x (.v x)
 | nil {k:Option Bool} (hk:k≠some true):RD w X (.slice none 0 0) (.sl k [])
 | empty {k:Option Bool} {a:Addr} {cap:Nat} (hk:k≠some false) (hm:cap<=maxLen):RD w X (.slice (some a) 0 cap) (.sl k [])
 | sl {k:Option Bool} {b off n cap sz:Nat} {els:List (List D)} {f:Nat->Nat->Value} (hk:k≠some false) (hn:els.length=n) (hc:n<=cap) (hm:cap<=maxLen)
   (hX:¬ X b) (hs:∀ el∈els,el.length=sz) (hz:0 < sz) (bl:0 < n)
   (ea:∀ i j,i < n->j < sz->w.cell? ⟨b,off+(i * sz+j),none⟩=some (f i j))
   (hr:∀ (i j:Nat) (el:List D) (c:D),els[i]? = some el->el[j]? = some c->RD w X (f i j) c) :
   RD w X (.slice (some ⟨b,off,none⟩) n cap) (.sl k els)
 | ip {b off:Nat} {cells:List D} {f:Nat->Value} (hX:¬ X b) (hb:b < w.heap.size)
   (ea:∀ j,j < cells.length->w.cell? ⟨b,off+j,none⟩=some (f j))
   (hr:∀ (j:Nat) (c:D),cells[j]? = some c->RD w X (f j) c):RD w X (.pointer (some ⟨b,off,none⟩)) (.ip cells)
 | agg {arr:Array Value} {cells:List D} (hn:arr.size=cells.length) (hr:∀ (j:Nat) (u:Value) (c:D),arr[j]? = some u->cells[j]? = some c->RD w X u c):RD w X (.agg arr) (.agg cells)
 | bx {arr:Array Value} {cells:List D} (hn:arr.size=cells.length) (hr:∀ (j:Nat) (u:Value) (c:D),arr[j]? = some u->cells[j]? = some c->RD w X u c):RD w X (.tuple arr) (.bx cells)
 | bZ {t:TypeId} {u:Value} {x:D} (h:RD w X u x):RD w X (.iface t u) (.bZ t x)
 | fn {f:Fn} {arr:Array Value} {cells:List D} (hn:arr.size=cells.length) (hr:∀ (j:Nat) (u:Value) (c:D),arr[j]? = some u->cells[j]? = some c->RD w X u c):RD w X (.func f #[] arr) (.fn f cells)
 | pK {b:Nat} {cs:Array Value} {ty:TypeId} {fr:Nat×Nat} (hX:¬ X b) (hh:w.heap[b]? = some (.cells cs ty fr)):RD w X (.pointer (some ⟨b,0,none⟩)) (.pK cs)
 | dm {b:Nat} {x:Bool} {es ents:List (Value×Value)} (hX:¬ X b) (hh:w.heap[b]? = some (.map (jL es) es.length)) (hp:es.Perm ents) (hx:x=true->es=ents):RD w X (.map (some b)) (.dm x ents)
theorem wc {w:World} {a:Addr} {v:Value} (h:w.cell? a=some v):a.block < w.heap.size:=World.block_lt_of_cell? w a h
theorem RD.mono {w w':World} {X X':Nat->Prop} (bg:w.heap.size<=w'.heap.size) (h:∀ b,b < w.heap.size->¬ X b->w'.heap[b]? = w.heap[b]?/\¬ X' b) {v:Value} {x:D} (hr:RD w X v x):RD w' X' v x:=by
 induction hr with
 | v x=>exact .v x
 | nil hk=>exact .nil hk
 | empty hk hm=>exact .empty hk hm
 | sl hk hn hc hm hX hs hz bl ea hr ih=>
  rename_i k b off n cap sz els f;have hb:b < w.heap.size:=wc (ea 0 0 bl hz);refine .sl hk hn hc hm (h b hb hX).2 hs hz bl (fun i j hi hj=>?_) ih;rw[World.cell?_of_block (w:=w) (h b hb hX).1];exact ea i j hi hj
 | ip hX hb ea hr ih=>
  rename_i b off cells f;refine .ip (h b hb hX).2 aa (fun j hj=>?_) ih;rw[World.cell?_of_block (w:=w) (h b hb hX).1];exact ea j hj
 | agg hn _ ih=>exact .agg hn ih
 | bx hn _ ih=>exact .bx hn ih
 | bZ _ ih=>exact .bZ ih
 | fn hn _ ih=>exact .fn hn ih
 | pK hX hh=>exact .pK (h _ (Array.getElem?_eq_some_iff.1 hh).1 hX).2 ((h _ (Array.getElem?_eq_some_iff.1 hh).1 hX).1.trans hh)
 | dm hX hh hp hx=>exact .dm (h _ (Array.getElem?_eq_some_iff.1 hh).1 hX).2 ((h _ (Array.getElem?_eq_some_iff.1 hh).1 hX).1.trans hh) hp hx
inductive RV (w:World) (X:Nat->Prop) (μ:Mu):Value->AV->Prop
 | d {u:Value} {x:D} (h:RD w (XX X μ) u x):RV w X μ u (.d x)
 | own {u:Value} {r off n:Nat} {m:jo} (hm:μ r=some m) (h:(m.fo=none/\u = .slice none 0 0/\off=0/\n=0)\/(∃ b,m.fo=some b/\u = .slice (some ⟨b,off * m.sz,none⟩) n (m.cap - off)/\off+n<=m.cap)):RV w X μ u (.own r off n)
 | ref {r e j b:Nat} {m:jo} (hm:μ r=some m) (hb:m.fo=some b):RV w X μ (.pointer (some ⟨b,e * m.sz+j,none⟩)) (.ref r e j)
 | agg {arr:Array Value} {cells:List AV} (hn:arr.size=cells.length) (hr:∀ (j:Nat) (u:Value) (c:AV),arr[j]? = some u->cells[j]? = some c->RV w X μ u c):RV w X μ (.agg arr) (.agg cells)
 | bx {arr:Array Value} {cells:List AV} (hn:arr.size=cells.length) (hr:∀ (j:Nat) (u:Value) (c:AV),arr[j]? = some u->cells[j]? = some c->RV w X μ u c):RV w X μ (.tuple arr) (.bx cells)
 | bZ {t:TypeId} {u:Value} {x:AV} (h:RV w X μ u x):RV w X μ (.iface t u) (.bZ t x)
 | fn {f:Fn} {arr:Array Value} {cells:List AV} (hn:arr.size=cells.length) (hr:∀ (j:Nat) (u:Value) (c:AV),arr[j]? = some u->cells[j]? = some c->RV w X μ u c):RV w X μ (.func f #[] arr) (.fn f cells)
 | bm {g:FuncId} {u:Value} {x:AV} (h:RV w X μ u x):RV w X μ (.func (.func g) #[u] #[]) (.bm g x)
 | mp {r b:Nat} {m:jo} (hm:μ r=some m) (hb:m.fo=some b):RV w X μ (.map (some b)) (.mp r)
 | dead (u:Value):RV w X μ u .dead
theorem RD.scalar {w:World} {X:Nat->Prop} {u x:Value} (h:RD w X u (.v x)):u=x:=by
 generalize hy:D.v x=y at h;cases h<;>cases hy;rfl
theorem RV.scalar {w:World} {X:Nat->Prop} {μ:Mu} {u x:Value} (h:RV w X μ u (.d (.v x))):u=x:=by
 generalize hy:AV.d (.v x)=y at h;cases h<;>cases hy;rename_i h;exact h.scalar
theorem RV.data {w:World} {X:Nat->Prop} {μ:Mu} {u:Value} {x:D} (h:RV w X μ u (.d x)):RD w (XX X μ) u x:=by
 generalize hy:AV.d x=y at h;cases h<;>cases hy
 assumption
def AV.kill (r:Nat):AV->AV
 | .d x=>.d x
 | .own q off n=>if q=r then .dead else .own q off n
 | .ref q e j=>if q=r then .dead else .ref q e j
 | .agg cells=>.agg (go r cells)
 | .bx vs=>.bx (go r vs)
 | .bZ t x=>.bZ t (x.kill r)
 | .fn f caps=>.fn f (go r caps)
 | .bm g x=>.bm g (x.kill r)
 | .mp q=>if q=r then .dead else .mp q
 | .dead=>.dead
where
 go (r:Nat):List AV->List AV
 | []=>[]
 | x :: l=>x.kill r :: go r l
theorem AV.go_eq (r:Nat) (l:List AV):AV.kill.go r l=l.map (AV.kill r):=by
 induction l with
 | nil=>rfl
 | cons x l ih=>simp[AV.kill.go,ih]
def Row.kill (r:Nat):Row->Row
 | .sl ty sz els=>.sl ty sz els
 | .box ty cells=>.box ty (cells.map (AV.kill r))
 | .mp ty ents=>.mp ty ents
 | .it ents seen=>.it ents seen
structure Ev (Mv:Nat->Prop) (w:World) (μ:Mu) (w':World) (aH:Mu):Prop where
 size:w.heap.size<=w'.heap.size
 os:w'.os=w.os
 tape:w'.tape=w.tape
 output:w'.output=w.output
 same:∀ b,b < w.heap.size->¬ jj μ b->w'.heap[b]? = w.heap[b]?/\¬ jj aH b
 kept:∀ r m,μ r=some m->¬ Mv r->aH r=some m
theorem Ev.refl (Mv:Nat->Prop) (w:World) (μ:Mu):Ev Mv w μ w μ:=⟨Nat.le_refl _,rfl,rfl,rfl,fun _ _ h=>⟨rfl,h⟩,fun _ _ h _=>h⟩
theorem Ev.trans {Mv:Nat->Prop} {w w1 w2:World} {μ lQ jG:Mu} (h:Ev Mv w μ w1 lQ) (h':Ev Mv w1 lQ w2 jG):Ev Mv w μ w2 jG:=
 ⟨Nat.le_trans h.size h'.size,h'.os.trans h.os,h'.tape.trans h.tape,h'.output.trans h.output,fun b hb hr=>
  have h1:=h.same b hb hr;have h2:=h'.same b (Nat.lt_of_lt_of_le hb h.size) h1.2
  ⟨h2.1.trans h1.1,h2.2⟩,fun r m hm hn=>h'.kept r m (h.kept r m hm hn) hn⟩
theorem Ev.weaken {Mv Lq:Nat->Prop} {w w':World} {μ aH:Mu} (h:Ev Mv w μ w' aH) (hm:∀ r m,μ r=some m->Mv r->Lq r):Ev Lq w μ w' aH:=
 ⟨h.size,h.os,h.tape,h.output,h.same,fun r m hr hn=>h.kept r m hr fun hh=>hn (hm r m hr hh)⟩
theorem RD.ev {w w':World} {μ aH:Mu} {X:Nat->Prop} {Mv:Nat->Prop} (h:Ev Mv w μ w' aH) {v:Value} {x:D} (hr:RD w (XX X μ) v x):RD w' (XX X aH) v x:=
 hr.mono h.size fun b hb hX=>⟨(h.same b hb fun e=>hX (.inr e)).1,fun e=>e.elim (fun e=>hX (.inl e)) (h.same b hb fun e=>hX (.inr e)).2⟩
theorem RV.keep {w w':World} {μ aH:Mu} {X:Nat->Prop} {Mv:Nat->Prop} (h:Ev Mv w μ w' aH) {r:Nat} (gb:∀ q,q≠r->aH q=μ q):∀ {v:Value} {x:AV},RV w X μ v x->RV w' X aH v (x.kill r):=by
 intro v x hr
 induction hr with
 | d h'=>exact .d (h'.ev h)
 | own hm h'=>
  rename_i u r' off n m;unfold AV.kill;split
  .exact .dead _
  .rename_i bl;exact .own ((gb r' bl).trans hm) h'
 | ref hm hb=>
  rename_i r' e j b m;unfold AV.kill;split
  .exact .dead _
  .rename_i bl;exact .ref ((gb r' bl).trans hm) hb
 | agg hn _ ih=>
  rw[AV.kill,AV.go_eq];refine .agg (by simpa using hn) fun j u c hu hc=>?_;rw[List.getElem?_map]at hc;obtain⟨c',dZ,rfl⟩:=Option.map_eq_some_iff.1 hc;exact ih j u c' hu dZ
 | bx hn _ ih=>
  rw[AV.kill,AV.go_eq];refine .bx (by simpa using hn) fun j u c hu hc=>?_;rw[List.getElem?_map]at hc;obtain⟨c',dZ,rfl⟩:=Option.map_eq_some_iff.1 hc;exact ih j u c' hu dZ
 | bZ _ ih=>exact .bZ ih
 | bm _ ih=>exact .bm ih
 | fn hn _ ih=>
  rw[AV.kill,AV.go_eq];refine .fn (by simpa using hn) fun j u c hu hc=>?_;rw[List.getElem?_map]at hc;obtain⟨c',dZ,rfl⟩:=Option.map_eq_some_iff.1 hc;exact ih j u c' hu dZ
 | mp hm hb=>
  rename_i r' b m;unfold AV.kill;split
  .exact .dead _
  .rename_i bl;exact .mp ((gb r' bl).trans hm) hb
 | dead u=>exact .dead u
theorem RV.same {w w':World} {μ aH:Mu} {X:Nat->Prop} {Mv:Nat->Prop} (h:Ev Mv w μ w' aH) (gb:∀ q m,μ q=some m->aH q=some m):∀ {v:Value} {x:AV},RV w X μ v x->RV w' X aH v x:=by
 intro v x hr
 induction hr with
 | d h'=>exact .d (h'.ev h)
 | own hm h'=>exact .own (gb _ _ hm) h'
 | ref hm hb=>exact .ref (gb _ _ hm) hb
 | agg hn _ ih=>exact .agg hn ih
 | bx hn _ ih=>exact .bx hn ih
 | bZ _ ih=>exact .bZ ih
 | bm _ ih=>exact .bm ih
 | fn hn _ ih=>exact .fn hn ih
 | mp hm hb=>exact .mp (gb _ _ hm) hb
 | dead u=>exact .dead u
abbrev Heap:=Nat->Option Row
inductive j6 (w:World) (X:Nat->Prop) (μ:Mu) (m:jo):Row->Prop
 | nil {ty sz:Nat} (hb:m.fo=none) (hs:m.sz=sz):j6 w X μ m (.sl ty sz [])
 | sl {ty sz b:Nat} {els:List (List D)} {cur:Array Value} (hb:m.fo=some b) (hs:m.sz=sz) (hh:w.heap[b]? = some (.cells cur ty (0,0))) (hc:cur.size=m.cap * sz)
   (hn:els.length<=m.cap) (hm:m.cap<=maxLen) (hl:∀ el∈els,el.length=sz) (hz:0 < sz)
   (hr:∀ (i j:Nat) (el:List D) (c:D),els[i]? = some el->el[j]? = some c->∃ u,cur[i * sz+j]? = some u/\RD w (XX X μ) u c):j6 w X μ m (.sl ty sz els)
 | box {ty b:Nat} {cells:List AV} {cur:Array Value} (hb:m.fo=some b) (hs:m.sz=m.sz) (hc:m.cap<=maxLen) (hh:w.heap[b]? = some (.cells cur ty (0,0))) (hn:cells.length<=cur.size)
   (hr:∀ (j:Nat) (u:Value) (c:AV),cur[j]? = some u->cells[j]? = some c->RV w X μ u c) (hx:ty=TO->cells.length=cur.size):j6 w X μ m (.box ty cells)
 | mp {ty b:Nat} {ents:List (Value×D)} {es:Array MapEntry} (hb:m.fo=some b) (hh:w.heap[b]? = some (.map es es.size)) (hn:es.size=ents.length)
   (hr:∀ (i:Nat) (e:MapEntry) (p:Value×D),es[i]? = some e->ents[i]? = some p->e.key=p.1/\e.born=i/\RD w (XX X μ) e.val p.2):j6 w X μ m (.mp ty ents)
 | it {b bm:Nat} {ents:List (Value×Value)} {seen:List Nat} (hb:m.fo=some b) (hh:w.heap[b]? = some (.mapIter (some bm) ents.length seen.toArray ents.length)) (hr:RD w (XX X μ) (.map (some bm)) (.dm true ents)):j6 w X μ m (.it ents seen)
structure eF (w:World) (X:Nat->Prop) (μ:Mu) (H:Heap):Prop where
 rows:∀ r row,H r=some row->∃ m,μ r=some m/\j6 w X μ m row
 lD:∀ r m,μ r=some m->∃ row,H r=some row
 inj:∀ r r' m m' b,μ r=some m->μ r'=some m'->m.fo=some b->m'.fo=some b->r=r'
 frame:∀ r m b,μ r=some m->m.fo=some b->¬ X b
 fits:∀ b,X b->b < w.heap.size
theorem eF.mg {w:World} {X:Nat->Prop} {μ:Mu} {H:Heap} (h:eF w X μ H) {b:Nat} (hb:jj μ b):b < w.heap.size:=by
 obtain⟨r,m,hm,hb⟩:=hb;obtain⟨row,hr⟩:=h.lD r m hm;obtain⟨m',cH,ok⟩:=h.rows r row hr;rw[hm]at cH;obtain rfl:=Option.some.inj cH
 cases ok with
 | nil bk _=>rw[bk]at hb;cases hb
 | sl bk _ hh=>rw[bk]at hb;obtain rfl:=Option.some.inj hb;exact (Array.getElem?_eq_some_iff.1 hh).1
 | box bk _ _ hh=>rw[bk]at hb;obtain rfl:=Option.some.inj hb;exact (Array.getElem?_eq_some_iff.1 hh).1
 | mp bk hh=>rw[bk]at hb;obtain rfl:=Option.some.inj hb;exact (Array.getElem?_eq_some_iff.1 hh).1
 | it bk hh=>rw[bk]at hb;obtain rfl:=Option.some.inj hb;exact (Array.getElem?_eq_some_iff.1 hh).1
