/- Parts. -/
import Derived.Test.YtdigkhaofjmgkaaGreatDoorFx1
import Derived.WalkKit
import Derived.WalkLawsBesides
set_option linter.unusedSectionVars false
set_option linter.unusedSimpArgs false
set_option linter.unusedVariables false
theorem sh:type_of% @List.take_of_length_le:=@List.take_of_length_le
theorem AI:type_of% @Option.some.inj:=@Option.some.inj
theorem AS:type_of% @Option.some.injEq:=@Option.some.injEq
theorem AT:type_of% @Option.map_eq_some_iff:=@Option.map_eq_some_iff
theorem By:type_of% @List.getElem?_eq_getElem:=@List.getElem?_eq_getElem
theorem BY:type_of% @Prod.mk.injEq:=@Prod.mk.injEq
theorem IS:type_of% @Array.getElem?_eq_some_iff:=@Array.getElem?_eq_some_iff
theorem IT:type_of% @Array.getD_eq_getD_getElem?:=@Array.getD_eq_getD_getElem?
theorem OF:type_of% @List.getElem?_eq_some_iff:=@List.getElem?_eq_some_iff
theorem abH:type_of% @List.getElem_mem:=@List.getElem_mem
theorem abI:type_of% @Bool.and_eq_true:=@Bool.and_eq_true
theorem abJ:type_of% @List.getD_eq_getElem?_getD:=@List.getD_eq_getElem?_getD
theorem abK:type_of% @Function.comp_def:=@Function.comp_def
theorem abL:type_of% @Nat.le_refl:=@Nat.le_refl
theorem abM:type_of% @List.getElem?_map:=@List.getElem?_map
theorem abR:type_of% @List.take_succ_eq_append_getElem:=@List.take_succ_eq_append_getElem
theorem abT:type_of% @Bool.false_eq_true:=@Bool.false_eq_true
theorem abU:type_of% @List.map_map:=@List.map_map
theorem abV:type_of% @List.mem_cons:=@List.mem_cons
theorem abX:type_of% @Int.toNat_natCast:=@Int.toNat_natCast
theorem ab2:type_of% @Array.getElem?_toList:=@Array.getElem?_toList
theorem ab4:type_of% @List.mem_append:=@List.mem_append
theorem ab5:type_of% @List.map_set:=@List.map_set
theorem ab9:type_of% @Option.bind_eq_some_iff:=@Option.bind_eq_some_iff
theorem acb:type_of% @Array.getElem?_eq_getElem:=@Array.getElem?_eq_getElem
theorem acd:type_of% @List.mem_of_mem_take:=@List.mem_of_mem_take
theorem acj:type_of% @Classical.byContradiction:=@Classical.byContradiction
theorem ack:type_of% @List.all_eq_true:=@List.all_eq_true
theorem acn:type_of% @Int.eq_ofNat_of_zero_le:=@Int.eq_ofNat_of_zero_le
theorem aco:type_of% @List.mem_iff_getElem:=@List.mem_iff_getElem
theorem acq:type_of% @List.eq_nil_of_length_eq_zero:=@List.eq_nil_of_length_eq_zero
theorem acr:type_of% @Array.all_eq_true_iff_forall_mem:=@Array.all_eq_true_iff_forall_mem
theorem acu:type_of% @List.getElem?_take:=@List.getElem?_take
theorem acv:type_of% @List.length_cons:=@List.length_cons
theorem acy:type_of% @List.drop_eq_getElem_cons:=@List.drop_eq_getElem_cons
theorem acz:type_of% @List.length_take:=@List.length_take
theorem acA:type_of% @List.pairwise_cons:=@List.pairwise_cons
theorem acB:type_of% @Nat.mul_le_mul_right:=@Nat.mul_le_mul_right
theorem acC:type_of% @List.length_append:=@List.length_append
theorem acD:type_of% @List.mem_map:=@List.mem_map
theorem acE:type_of% @List.pairwise_append:=@List.pairwise_append
theorem acF:type_of% @List.nodup_cons:=@List.nodup_cons
theorem acI:type_of% @Bool.or_eq_true:=@Bool.or_eq_true
theorem acJ:type_of% @List.map_cons:=@List.map_cons
theorem acK:type_of% @List.length_drop:=@List.length_drop
theorem acL:type_of% @List.sizeOf_lt_of_mem:=@List.sizeOf_lt_of_mem
theorem acM:type_of% @Array.getElem?_append_left:=@Array.getElem?_append_left
theorem acN:type_of% @Option.map_some:=@Option.map_some
theorem acP:type_of% @Nat.lt_of_lt_of_le:=@Nat.lt_of_lt_of_le
theorem acR:type_of% @Nat.zero_add:=@Nat.zero_add
theorem acT:type_of% @List.findIdx?_eq_some_iff_getElem:=@List.findIdx?_eq_some_iff_getElem
theorem acV:type_of% @List.mem_singleton:=@List.mem_singleton
theorem acW:type_of% @List.mem_range:=@List.mem_range
theorem acX:type_of% @List.length_eq_one_iff:=@List.length_eq_one_iff
theorem acY:type_of% @List.contains_iff_mem:=@List.contains_iff_mem
theorem ac0:type_of% @List.take_length:=@List.take_length
theorem ac1:type_of% @List.length_map:=@List.length_map
theorem ac2:type_of% @List.nodup_append:=@List.nodup_append
theorem ac3:type_of% @List.getElem?_drop:=@List.getElem?_drop
theorem ac5:type_of% @List.map_append:=@List.map_append
theorem ac7:type_of% @List.mem_of_mem_drop:=@List.mem_of_mem_drop
theorem ada:type_of% @Array.toList_inj:=@Array.toList_inj
theorem ade:type_of% @Nat.add_mul:=@Nat.add_mul
theorem adg:type_of% @Bool.not_false:=@Bool.not_false
theorem adh:type_of% @List.getElem?_eq_none:=@List.getElem?_eq_none
theorem adj:type_of% @List.eq_nil_iff_forall_not_mem:=@List.eq_nil_iff_forall_not_mem
theorem adm:type_of% @List.eq_append_cons_of_mem:=@List.eq_append_cons_of_mem
theorem adn:type_of% @Nat.add_assoc:=@Nat.add_assoc
theorem ado:type_of% @Array.length_toList:=@Array.length_toList
theorem adp:type_of% @List.append_nil:=@List.append_nil
theorem adr:type_of% @Ne.symm:=@Ne.symm
theorem adv:type_of% @Int.mul_le_mul_of_nonneg_left:=@Int.mul_le_mul_of_nonneg_left
theorem adB:type_of% @List.getElem?_append_left:=@List.getElem?_append_left
theorem adF:type_of% @Nat.add_zero:=@Nat.add_zero
theorem adG:type_of% @List.mem_of_getElem?:=@List.mem_of_getElem?
theorem adH:type_of% @Nat.pow_le_pow_right:=@Nat.pow_le_pow_right
theorem adI:type_of% @List.drop_eq_nil_of_le:=@List.drop_eq_nil_of_le
theorem adL:type_of% @Option.isSome_iff_exists:=@Option.isSome_iff_exists
theorem adM:type_of% @List.length_pos_iff:=@List.length_pos_iff
theorem adO:type_of% @List.singleton_append:=@List.singleton_append
theorem adS:type_of% @Array.getElem?_eq_none:=@Array.getElem?_eq_none
theorem adU:type_of% @List.append_assoc:=@List.append_assoc
theorem adV:type_of% @Int.natCast_add:=@Int.natCast_add
theorem adW:type_of% @Option.getD_some:=@Option.getD_some
theorem adY:type_of% @Nat.lt_or_ge:=@Nat.lt_or_ge
theorem ad1:type_of% @List.any_eq_true:=@List.any_eq_true
theorem ad2:type_of% @Array.getElem?_setIfInBounds_ne:=@Array.getElem?_setIfInBounds_ne
theorem ad3:type_of% @List.isEmpty_eq_false_iff:=@List.isEmpty_eq_false_iff
theorem aea:type_of% @Nat.zero_mul:=@Nat.zero_mul
theorem aeb:type_of% @Bool.and_eq_false_iff:=@Bool.and_eq_false_iff
theorem aei:type_of% @List.nil_append:=@List.nil_append
theorem ael:type_of% @List.findIdx?_cons:=@List.findIdx?_cons
theorem aem:type_of% @List.append_of_mem:=@List.append_of_mem
theorem aen:type_of% @Nat.mul_one:=@Nat.mul_one
theorem aeo:type_of% @List.cons_append:=@List.cons_append
theorem aep:type_of% @List.take_append_of_le_length:=@List.take_append_of_le_length
theorem aer:type_of% @List.getElem?_append:=@List.getElem?_append
theorem aes:type_of% @Bool.or_eq_false_iff:=@Bool.or_eq_false_iff
theorem aeu:type_of% @List.length_eq_zero_iff:=@List.length_eq_zero_iff
theorem aew:type_of% @Nat.le_trans:=@Nat.le_trans
theorem aex:type_of% @Int.le_of_lt:=@Int.le_of_lt
theorem aey:type_of% @List.size_toArray:=@List.size_toArray
theorem aez:type_of% @Bool.not_eq_true':=@Bool.not_eq_true'
theorem aeA:type_of% @List.length_nil:=@List.length_nil
theorem aeB:type_of% @Bool.eq_iff_iff:=@Bool.eq_iff_iff
theorem aeC:type_of% @List.takeWhile_cons:=@List.takeWhile_cons
theorem aeE:type_of% @Bool.false_or:=@Bool.false_or
theorem aeJ:type_of% @Array.getElem?_modify:=@Array.getElem?_modify
theorem aeK:type_of% @Bool.true_and:=@Bool.true_and
theorem aeL:type_of% @List.length_singleton:=@List.length_singleton
theorem aeM:type_of% @List.take_append_drop:=@List.take_append_drop
theorem aeQ:type_of% @List.mem_append_left:=@List.mem_append_left
theorem aeV:type_of% @List.cons.injEq:=@List.cons.injEq
theorem aeX:type_of% @List.map_nil:=@List.map_nil
theorem ae2:type_of% @Nat.zero_le:=@Nat.zero_le
theorem ae3:type_of% @Sum.inr.injEq:=@Sum.inr.injEq
theorem ae5:type_of% @Option.bind_some:=@Option.bind_some
theorem ae7:type_of% @Int.mul_nonneg:=@Int.mul_nonneg
theorem afa:type_of% @Nat.min_eq_left:=@Nat.min_eq_left
theorem afc:type_of% @Nat.add_comm:=@Nat.add_comm
namespace Go.Av
inductive D where
 | v (x:Value)
 | sl (k:Option Bool) (els:List (List D))
 | ip (cells:List D)
 | agg (cells:List D)
 | aW (vs:List D)
 | bt (t:TypeId) (x:D)
 | fn (f:Fn) (caps:List D)
 | lN (cs:Array Value)
 | dm (x:Bool) (ents:List (Value×Value))
instance:Inhabited D:=⟨.v .nilFunc⟩
inductive AV where
 | d (x:D)
 | own (r off n:Nat)
 | ref (r e j:Nat)
 | agg (cells:List AV)
 | aW (vs:List AV)
 | bt (t:TypeId) (x:AV)
 | fn (f:Fn) (caps:List AV)
 | bm (g:FuncId) (x:AV)
 | mp (r:Nat)
 | dead
instance:Inhabited AV:=⟨.dead⟩
inductive Row where
 | sl (ty:TypeId) (sz:Nat) (els:List (List D))
 | box (ty:TypeId) (cells:List AV)
 | mp (ty:TypeId) (ents:List (Value×D))
 | it (ents:List (Value×Value)) (seen:List Nat)
instance:Inhabited Row:=⟨.box 0 []⟩
structure gp where
 blk:Option Nat
 sz:Nat
 cap:Nat
abbrev Mu:=Nat->Option gp
def ran (μ:Mu) (b:Nat):Prop:=∃ r m,μ r=some m/\m.blk=some b
def XX (X:Nat->Prop) (μ:Mu) (b:Nat):Prop:=X b\/ran μ b
def gR (ents:List (Value×Value)):Array MapEntry:=(ents.zipIdx.map fun p=>{ key:=p.1.1,val:=p.1.2,born:=p.2:MapEntry }).toArray
theorem mf (ents:List (Value×Value)):(gR ents).size=ents.length:=by simp[gR]
theorem u0 {ents:List (Value×Value)} {i:Nat} (h:i < ents.length):(gR ents)[i]? = some { key:=ents[i].1,val:=ents[i].2,born:=i }:=by simp[gR,h]
inductive RD (w:World) (X:Nat->Prop):Value->D->Prop
 | v (x:Value):RD w X x (.v x)
 | nil {k:Option Bool} (hk:k≠some true):RD w X (.slice none 0 0) (.sl k [])
 | empty {k:Option Bool} {a:Addr} {cap:Nat} (hk:k≠some false) (hm:cap<=maxLen):RD w X (.slice (some a) 0 cap) (.sl k [])
 | sl {k:Option Bool} {b off n cap sz:Nat} {els:List (List D)} {f:Nat->Nat->Value} (hk:k≠some false) (hn:els.length=n) (hc:n<=cap) (hm:cap<=maxLen)
   (hX:¬ X b) (hs:∀ el∈els,el.length=sz) (hz:0 < sz) (aI:0 < n)
   (cI:∀ i j,i < n->j < sz->w.cell? ⟨b,off+(i * sz+j),none⟩=some (f i j))
   (hr:∀ (i j:Nat) (el:List D) (c:D),els[i]? = some el->el[j]? = some c->RD w X (f i j) c) :
   RD w X (.slice (some ⟨b,off,none⟩) n cap) (.sl k els)
 | ip {b off:Nat} {cells:List D} {f:Nat->Value} (hX:¬ X b) (hb:b < w.heap.size)
   (cI:∀ j,j < cells.length->w.cell? ⟨b,off+j,none⟩=some (f j))
   (hr:∀ (j:Nat) (c:D),cells[j]? = some c->RD w X (f j) c):RD w X (.pointer (some ⟨b,off,none⟩)) (.ip cells)
 | agg {arr:Array Value} {cells:List D} (hn:arr.size=cells.length) (hr:∀ (j:Nat) (u:Value) (c:D),arr[j]? = some u->cells[j]? = some c->RD w X u c):RD w X (.agg arr) (.agg cells)
 | aW {arr:Array Value} {cells:List D} (hn:arr.size=cells.length) (hr:∀ (j:Nat) (u:Value) (c:D),arr[j]? = some u->cells[j]? = some c->RD w X u c):RD w X (.tuple arr) (.aW cells)
 | bt {t:TypeId} {u:Value} {x:D} (h:RD w X u x):RD w X (.iface t u) (.bt t x)
 | fn {f:Fn} {arr:Array Value} {cells:List D} (hn:arr.size=cells.length) (hr:∀ (j:Nat) (u:Value) (c:D),arr[j]? = some u->cells[j]? = some c->RD w X u c):RD w X (.func f #[] arr) (.fn f cells)
 | lN {b:Nat} {cs:Array Value} {ty:TypeId} {fr:Nat×Nat} (hX:¬ X b) (hh:w.heap[b]? = some (.cells cs ty fr)):RD w X (.pointer (some ⟨b,0,none⟩)) (.lN cs)
 | dm {b:Nat} {x:Bool} {es ents:List (Value×Value)} (hX:¬ X b) (hh:w.heap[b]? = some (.map (gR es) es.length)) (hp:es.Perm ents) (hx:x=true->es=ents):RD w X (.map (some b)) (.dm x ents)
theorem rM {w:World} {a:Addr} {v:Value} (h:w.cell? a=some v):a.block < w.heap.size:=World.block_lt_of_cell? w a h
theorem RD.mono {w w':World} {X X':Nat->Prop} (aK:w.heap.size<=w'.heap.size) (h:∀ b,b < w.heap.size->¬ X b->w'.heap[b]? = w.heap[b]?/\¬ X' b) {v:Value} {x:D} (hr:RD w X v x):RD w' X' v x:=by
 induction hr with
 | v x=>exact .v x
 | nil hk=>exact .nil hk
 | empty hk hm=>exact .empty hk hm
 | sl hk hn hc hm hX hs hz aI cI hr ih=>
  rename_i k b off n cap sz els f;have hb:b < w.heap.size:=rM (cI 0 0 aI hz);refine .sl hk hn hc hm (h b hb hX).2 hs hz aI (fun i j hi hj=>?_) ih;rw[World.cell?_of_block (w:=w) (h b hb hX).1];exact cI i j hi hj
 | ip hX hb cI hr ih=>
  rename_i b off cells f;refine .ip (h b hb hX).2 (by omega) (fun j hj=>?_) ih;rw[World.cell?_of_block (w:=w) (h b hb hX).1];exact cI j hj
 | agg hn _ ih=>exact .agg hn ih
 | aW hn _ ih=>exact .aW hn ih
 | bt _ ih=>exact .bt ih
 | fn hn _ ih=>exact .fn hn ih
 | lN hX hh=>exact .lN (h _ (Array.getElem?_eq_some_iff.1 hh).1 hX).2 ((h _ (Array.getElem?_eq_some_iff.1 hh).1 hX).1.trans hh)
 | dm hX hh hp hx=>exact .dm (h _ (Array.getElem?_eq_some_iff.1 hh).1 hX).2 ((h _ (Array.getElem?_eq_some_iff.1 hh).1 hX).1.trans hh) hp hx
inductive RV (w:World) (X:Nat->Prop) (μ:Mu):Value->AV->Prop
 | d {u:Value} {x:D} (h:RD w (XX X μ) u x):RV w X μ u (.d x)
 | own {u:Value} {r off n:Nat} {m:gp} (hm:μ r=some m) (h:(m.blk=none/\u = .slice none 0 0/\off=0/\n=0)\/(∃ b,m.blk=some b/\u = .slice (some ⟨b,off * m.sz,none⟩) n (m.cap - off)/\off+n<=m.cap)):RV w X μ u (.own r off n)
 | ref {r e j b:Nat} {m:gp} (hm:μ r=some m) (hb:m.blk=some b):RV w X μ (.pointer (some ⟨b,e * m.sz+j,none⟩)) (.ref r e j)
 | agg {arr:Array Value} {cells:List AV} (hn:arr.size=cells.length) (hr:∀ (j:Nat) (u:Value) (c:AV),arr[j]? = some u->cells[j]? = some c->RV w X μ u c):RV w X μ (.agg arr) (.agg cells)
 | aW {arr:Array Value} {cells:List AV} (hn:arr.size=cells.length) (hr:∀ (j:Nat) (u:Value) (c:AV),arr[j]? = some u->cells[j]? = some c->RV w X μ u c):RV w X μ (.tuple arr) (.aW cells)
 | bt {t:TypeId} {u:Value} {x:AV} (h:RV w X μ u x):RV w X μ (.iface t u) (.bt t x)
 | fn {f:Fn} {arr:Array Value} {cells:List AV} (hn:arr.size=cells.length) (hr:∀ (j:Nat) (u:Value) (c:AV),arr[j]? = some u->cells[j]? = some c->RV w X μ u c):RV w X μ (.func f #[] arr) (.fn f cells)
 | bm {g:FuncId} {u:Value} {x:AV} (h:RV w X μ u x):RV w X μ (.func (.func g) #[u] #[]) (.bm g x)
 | mp {r b:Nat} {m:gp} (hm:μ r=some m) (hb:m.blk=some b):RV w X μ (.map (some b)) (.mp r)
 | dead (u:Value):RV w X μ u .dead
theorem RD.scalar {w:World} {X:Nat->Prop} {u x:Value} (h:RD w X u (.v x)):u=x:=by
 generalize hy:D.v x=y at h;cases h<;>cases hy;rfl
theorem RV.scalar {w:World} {X:Nat->Prop} {μ:Mu} {u x:Value} (h:RV w X μ u (.d (.v x))):u=x:=by
 generalize hy:AV.d (.v x)=y at h;cases h<;>cases hy;rename_i h;exact h.scalar
theorem RV.data {w:World} {X:Nat->Prop} {μ:Mu} {u:Value} {x:D} (h:RV w X μ u (.d x)):RD w (XX X μ) u x:=by
 generalize hy:AV.d x=y at h;cases h<;>cases hy
 assumption
def AV.kill (r:Nat):AV->AV
 | .d x=>.d x
 | .own q off n=>if q=r then .dead else .own q off n
 | .ref q e j=>if q=r then .dead else .ref q e j
 | .agg cells=>.agg (go r cells)
 | .aW vs=>.aW (go r vs)
 | .bt t x=>.bt t (x.kill r)
 | .fn f caps=>.fn f (go r caps)
 | .bm g x=>.bm g (x.kill r)
 | .mp q=>if q=r then .dead else .mp q
 | .dead=>.dead
where
 go (r:Nat):List AV->List AV
 | []=>[]
 | x :: l=>x.kill r :: go r l
theorem AV.go_eq (r:Nat) (l:List AV):AV.kill.go r l=l.map (AV.kill r):=by
 induction l with
 | nil=>rfl
 | cons x l ih=>simp[AV.kill.go,ih]
def Row.kill (r:Nat):Row->Row
 | .sl ty sz els=>.sl ty sz els
 | .box ty cells=>.box ty (cells.map (AV.kill r))
 | .mp ty ents=>.mp ty ents
 | .it ents seen=>.it ents seen
structure Ev (Mv:Nat->Prop) (w:World) (μ:Mu) (w':World) (ay:Mu):Prop where
 size:w.heap.size<=w'.heap.size
 os:w'.os=w.os
 tape:w'.tape=w.tape
 output:w'.output=w.output
 same:∀ b,b < w.heap.size->¬ ran μ b->w'.heap[b]? = w.heap[b]?/\¬ ran ay b
 kept:∀ r m,μ r=some m->¬ Mv r->ay r=some m
theorem Ev.refl (Mv:Nat->Prop) (w:World) (μ:Mu):Ev Mv w μ w μ:=⟨Nat.le_refl _,rfl,rfl,rfl,fun _ _ h=>⟨rfl,h⟩,fun _ _ h _=>h⟩
theorem Ev.trans {Mv:Nat->Prop} {w w1 w2:World} {μ iM μ2:Mu} (h:Ev Mv w μ w1 iM) (h':Ev Mv w1 iM w2 μ2):Ev Mv w μ w2 μ2:=
 ⟨Nat.le_trans h.size h'.size,h'.os.trans h.os,h'.tape.trans h.tape,h'.output.trans h.output,fun b hb hr=>
  have h1:=h.same b hb hr;have h2:=h'.same b (Nat.lt_of_lt_of_le hb h.size) h1.2
  ⟨h2.1.trans h1.1,h2.2⟩,fun r m hm hn=>h'.kept r m (h.kept r m hm hn) hn⟩
theorem Ev.weaken {Mv GC:Nat->Prop} {w w':World} {μ ay:Mu} (h:Ev Mv w μ w' ay) (hm:∀ r m,μ r=some m->Mv r->GC r):Ev GC w μ w' ay:=
 ⟨h.size,h.os,h.tape,h.output,h.same,fun r m hr hn=>h.kept r m hr fun hh=>hn (hm r m hr hh)⟩
theorem RD.ev {w w':World} {μ ay:Mu} {X:Nat->Prop} {Mv:Nat->Prop} (h:Ev Mv w μ w' ay) {v:Value} {x:D} (hr:RD w (XX X μ) v x):RD w' (XX X ay) v x:=
 hr.mono h.size fun b hb hX=>⟨(h.same b hb fun e=>hX (.inr e)).1,fun e=>e.elim (fun e=>hX (.inl e)) (h.same b hb fun e=>hX (.inr e)).2⟩
theorem RV.keep {w w':World} {μ ay:Mu} {X:Nat->Prop} {Mv:Nat->Prop} (h:Ev Mv w μ w' ay) {r:Nat} (eo:∀ q,q≠r->ay q=μ q):∀ {v:Value} {x:AV},RV w X μ v x->RV w' X ay v (x.kill r):=by
 intro v x hr
 induction hr with
 | d h'=>exact .d (h'.ev h)
 | own hm h'=>
  rename_i u r' off n m;unfold AV.kill;split
  .exact .dead _
  .rename_i aI;exact .own ((eo r' aI).trans hm) h'
 | ref hm hb=>
  rename_i r' e j b m;unfold AV.kill;split
  .exact .dead _
  .rename_i aI;exact .ref ((eo r' aI).trans hm) hb
 | agg hn _ ih=>
  rw[AV.kill,AV.go_eq];refine .agg (by simpa using hn) fun j u c hu hc=>?_;rw[List.getElem?_map]at hc;obtain⟨c',cH,rfl⟩:=Option.map_eq_some_iff.1 hc;exact ih j u c' hu cH
 | aW hn _ ih=>
  rw[AV.kill,AV.go_eq];refine .aW (by simpa using hn) fun j u c hu hc=>?_;rw[List.getElem?_map]at hc;obtain⟨c',cH,rfl⟩:=Option.map_eq_some_iff.1 hc;exact ih j u c' hu cH
 | bt _ ih=>exact .bt ih
 | bm _ ih=>exact .bm ih
 | fn hn _ ih=>
  rw[AV.kill,AV.go_eq];refine .fn (by simpa using hn) fun j u c hu hc=>?_;rw[List.getElem?_map]at hc;obtain⟨c',cH,rfl⟩:=Option.map_eq_some_iff.1 hc;exact ih j u c' hu cH
 | mp hm hb=>
  rename_i r' b m;unfold AV.kill;split
  .exact .dead _
  .rename_i aI;exact .mp ((eo r' aI).trans hm) hb
 | dead u=>exact .dead u
theorem RV.same {w w':World} {μ ay:Mu} {X:Nat->Prop} {Mv:Nat->Prop} (h:Ev Mv w μ w' ay) (eo:∀ q m,μ q=some m->ay q=some m):∀ {v:Value} {x:AV},RV w X μ v x->RV w' X ay v x:=by
 intro v x hr
 induction hr with
 | d h'=>exact .d (h'.ev h)
 | own hm h'=>exact .own (eo _ _ hm) h'
 | ref hm hb=>exact .ref (eo _ _ hm) hb
 | agg hn _ ih=>exact .agg hn ih
 | aW hn _ ih=>exact .aW hn ih
 | bt _ ih=>exact .bt ih
 | bm _ ih=>exact .bm ih
 | fn hn _ ih=>exact .fn hn ih
 | mp hm hb=>exact .mp (eo _ _ hm) hb
 | dead u=>exact .dead u
abbrev Heap:=Nat->Option Row
inductive adk (w:World) (X:Nat->Prop) (μ:Mu) (m:gp):Row->Prop
 | nil {ty sz:Nat} (hb:m.blk=none) (hs:m.sz=sz):adk w X μ m (.sl ty sz [])
 | sl {ty sz b:Nat} {els:List (List D)} {cur:Array Value} (hb:m.blk=some b) (hs:m.sz=sz) (hh:w.heap[b]? = some (.cells cur ty (0,0))) (hc:cur.size=m.cap * sz)
   (hn:els.length<=m.cap) (hm:m.cap<=maxLen) (hl:∀ el∈els,el.length=sz) (hz:0 < sz)
   (hr:∀ (i j:Nat) (el:List D) (c:D),els[i]? = some el->el[j]? = some c->∃ u,cur[i * sz+j]? = some u/\RD w (XX X μ) u c):adk w X μ m (.sl ty sz els)
 | box {ty b:Nat} {cells:List AV} {cur:Array Value} (hb:m.blk=some b) (hs:m.sz=m.sz) (hc:m.cap<=maxLen) (hh:w.heap[b]? = some (.cells cur ty (0,0))) (hn:cells.length<=cur.size)
   (hr:∀ (j:Nat) (u:Value) (c:AV),cur[j]? = some u->cells[j]? = some c->RV w X μ u c) (hx:ty=Og->cells.length=cur.size):adk w X μ m (.box ty cells)
 | mp {ty b:Nat} {ents:List (Value×D)} {es:Array MapEntry} (hb:m.blk=some b) (hh:w.heap[b]? = some (.map es es.size)) (hn:es.size=ents.length)
   (hr:∀ (i:Nat) (e:MapEntry) (p:Value×D),es[i]? = some e->ents[i]? = some p->e.key=p.1/\e.born=i/\RD w (XX X μ) e.val p.2):adk w X μ m (.mp ty ents)
 | it {b bm:Nat} {ents:List (Value×Value)} {seen:List Nat} (hb:m.blk=some b) (hh:w.heap[b]? = some (.mapIter (some bm) ents.length seen.toArray ents.length)) (hr:RD w (XX X μ) (.map (some bm)) (.dm true ents)):adk w X μ m (.it ents seen)
structure Sim (w:World) (X:Nat->Prop) (μ:Mu) (H:Heap):Prop where
 rows:∀ r row,H r=some row->∃ m,μ r=some m/\adk w X μ m row
 iy:∀ r m,μ r=some m->∃ row,H r=some row
 inj:∀ r r' m m' b,μ r=some m->μ r'=some m'->m.blk=some b->m'.blk=some b->r=r'
 frame:∀ r m b,μ r=some m->m.blk=some b->¬ X b
 fits:∀ b,X b->b < w.heap.size
theorem Sim.jl {w:World} {X:Nat->Prop} {μ:Mu} {H:Heap} (h:Sim w X μ H) {b:Nat} (hb:ran μ b):b < w.heap.size:=by
 obtain⟨r,m,hm,hb⟩:=hb;obtain⟨row,hr⟩:=h.iy r m hm;obtain⟨m',bU,ok⟩:=h.rows r row hr;rw[hm]at bU;obtain rfl:=Option.some.inj bU
 cases ok with
 | nil aU _=>rw[aU]at hb;cases hb
 | sl aU _ hh=>rw[aU]at hb;obtain rfl:=Option.some.inj hb;exact (Array.getElem?_eq_some_iff.1 hh).1
 | box aU _ _ hh=>rw[aU]at hb;obtain rfl:=Option.some.inj hb;exact (Array.getElem?_eq_some_iff.1 hh).1
 | mp aU hh=>rw[aU]at hb;obtain rfl:=Option.some.inj hb;exact (Array.getElem?_eq_some_iff.1 hh).1
 | it aU hh=>rw[aU]at hb;obtain rfl:=Option.some.inj hb;exact (Array.getElem?_eq_some_iff.1 hh).1
