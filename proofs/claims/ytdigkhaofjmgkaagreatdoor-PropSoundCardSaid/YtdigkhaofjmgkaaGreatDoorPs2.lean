/- Parts. -/
import Derived.Test.YtdigkhaofjmgkaaGreatDoorPs1
import Derived.WalkKit
import Derived.WalkLawsBesides
set_option linter.unusedSectionVars false
set_option linter.unusedSimpArgs false
set_option linter.unusedVariables false
namespace Go.Av
inductive D where
 | v (x:Value)
 | sl (k:Option Bool) (els:List (List D))
 | ip (cells:List D)
 | agg (cells:List D)
 | aR (vs:List D)
 | bg (t:TypeId) (x:D)
 | fn (f:Fn) (caps:List D)
 | jQ (cs:Array Value)
 | dm (x:Bool) (ents:List (Value×Value))
instance:Inhabited D:=⟨.v .nilFunc⟩
inductive AV where
 | d (x:D)
 | own (r off n:Nat)
 | ref (r e j:Nat)
 | agg (cells:List AV)
 | aR (vs:List AV)
 | bg (t:TypeId) (x:AV)
 | fn (f:Fn) (caps:List AV)
 | bm (g:FuncId) (x:AV)
 | mp (r:Nat)
 | dead
instance:Inhabited AV:=⟨.dead⟩
inductive Row where
 | sl (ty:TypeId) (sz:Nat) (els:List (List D))
 | box (ty:TypeId) (cells:List AV)
 | mp (ty:TypeId) (ents:List (Value×D))
 | it (ents:List (Value×Value)) (seen:List Nat)
instance:Inhabited Row:=⟨.box 0 []⟩
structure ff where
 Y3:Option Nat
 sz:Nat
 cap:Nat
abbrev Mu:=Nat->Option ff
def eU (μ:Mu) (b:Nat):Prop:=∃ r m,μ r=some m/\m.Y3=some b
def XX (X:Nat->Prop) (μ:Mu) (b:Nat):Prop:=X b\/eU μ b
def lN (ents:List (Value×Value)):Array MapEntry:=(ents.zipIdx.map fun p=>{ key:=p.1.1,val:=p.1.2,born:=p.2:MapEntry }).toArray
theorem oR (ents:List (Value×Value)):(lN ents).size=ents.length:=by simp[lN]
theorem BS {ents:List (Value×Value)} {i:Nat} (h:i < ents.length):(lN ents)[i]? = some { key:=ents[i].1,val:=ents[i].2,born:=i }:=by simp[lN,h]
inductive RD (w:World) (X:Nat->Prop):Value->D->Prop
 | v (x:Value):RD w X x (.v x)
 | nil {k:Option Bool} (hk:k≠some true):RD w X (.slice none 0 0) (.sl k [])
 | empty {k:Option Bool} {a:Addr} {cap:Nat} (hk:k≠some false) (hm:cap<=maxLen):RD w X (.slice (some a) 0 cap) (.sl k [])
 | sl {k:Option Bool} {b off n cap sz:Nat} {els:List (List D)} {f:Nat->Nat->Value} (hk:k≠some false) (hn:els.length=n) (hc:n<=cap) (hm:cap<=maxLen)
   (hX:¬ X b) (hs:∀ el∈els,el.length=sz) (hz:0 < sz) (aG:0 < n)
   (YX:∀ i j,i < n->j < sz->w.cell? ⟨b,off+(i * sz+j),none⟩=some (f i j))
   (hr:∀ (i j:Nat) (el:List D) (c:D),els[i]? = some el->el[j]? = some c->RD w X (f i j) c) :
   RD w X (.slice (some ⟨b,off,none⟩) n cap) (.sl k els)
 | ip {b off:Nat} {cells:List D} {f:Nat->Value} (hX:¬ X b) (hb:b < w.heap.size)
   (YX:∀ j,j < cells.length->w.cell? ⟨b,off+j,none⟩=some (f j))
   (hr:∀ (j:Nat) (c:D),cells[j]? = some c->RD w X (f j) c):RD w X (.pointer (some ⟨b,off,none⟩)) (.ip cells)
 | agg {arr:Array Value} {cells:List D} (hn:arr.size=cells.length) (hr:∀ (j:Nat) (u:Value) (c:D),arr[j]? = some u->cells[j]? = some c->RD w X u c):RD w X (.agg arr) (.agg cells)
 | aR {arr:Array Value} {cells:List D} (hn:arr.size=cells.length) (hr:∀ (j:Nat) (u:Value) (c:D),arr[j]? = some u->cells[j]? = some c->RD w X u c):RD w X (.tuple arr) (.aR cells)
 | bg {t:TypeId} {u:Value} {x:D} (h:RD w X u x):RD w X (.iface t u) (.bg t x)
 | fn {f:Fn} {arr:Array Value} {cells:List D} (hn:arr.size=cells.length) (hr:∀ (j:Nat) (u:Value) (c:D),arr[j]? = some u->cells[j]? = some c->RD w X u c):RD w X (.func f #[] arr) (.fn f cells)
 | jQ {b:Nat} {cs:Array Value} {ty:TypeId} {fr:Nat×Nat} (hX:¬ X b) (hh:w.heap[b]? = some (.cells cs ty fr)):RD w X (.pointer (some ⟨b,0,none⟩)) (.jQ cs)
 | dm {b:Nat} {x:Bool} {es ents:List (Value×Value)} (hX:¬ X b) (hh:w.heap[b]? = some (.map (lN es) es.length)) (hp:es.Perm ents) (hx:x=true->es=ents):RD w X (.map (some b)) (.dm x ents)
theorem vg {w:World} {a:Addr} {v:Value} (h:w.cell? a=some v):a.block < w.heap.size:=World.block_lt_of_cell? w a h
theorem RD.mono {w w':World} {X X':Nat->Prop} (aK:w.heap.size<=w'.heap.size) (h:∀ b,b < w.heap.size->¬ X b->w'.heap[b]? = w.heap[b]?/\¬ X' b) {v:Value} {x:D} (hr:RD w X v x):RD w' X' v x:=by
 induction hr with
 | v x=>exact .v x
 | nil hk=>exact .nil hk
 | empty hk hm=>exact .empty hk hm
 | sl hk hn hc hm hX hs hz aG YX hr ih=>
  rename_i k b off n cap sz els f;have hb:b < w.heap.size:=vg (YX 0 0 aG hz);refine .sl hk hn hc hm (h b hb hX).2 hs hz aG (fun i j hi hj=>?_) ih;rw[World.cell?_of_block (w:=w) (h b hb hX).1];exact YX i j hi hj
 | ip hX hb YX hr ih=>
  rename_i b off cells f;refine .ip (h b hb hX).2 (by omega) (fun j hj=>?_) ih;rw[World.cell?_of_block (w:=w) (h b hb hX).1];exact YX j hj
 | agg hn _ ih=>exact .agg hn ih
 | aR hn _ ih=>exact .aR hn ih
 | bg _ ih=>exact .bg ih
 | fn hn _ ih=>exact .fn hn ih
 | jQ hX hh=>exact .jQ (h _ (Array.getElem?_eq_some_iff.1 hh).1 hX).2 ((h _ (Array.getElem?_eq_some_iff.1 hh).1 hX).1.trans hh)
 | dm hX hh hp hx=>exact .dm (h _ (Array.getElem?_eq_some_iff.1 hh).1 hX).2 ((h _ (Array.getElem?_eq_some_iff.1 hh).1 hX).1.trans hh) hp hx
inductive RV (w:World) (X:Nat->Prop) (μ:Mu):Value->AV->Prop
 | d {u:Value} {x:D} (h:RD w (XX X μ) u x):RV w X μ u (.d x)
 | own {u:Value} {r off n:Nat} {m:ff} (hm:μ r=some m) (h:(m.Y3=none/\u = .slice none 0 0/\off=0/\n=0)\/(∃ b,m.Y3=some b/\u = .slice (some ⟨b,off * m.sz,none⟩) n (m.cap - off)/\off+n<=m.cap)):RV w X μ u (.own r off n)
 | ref {r e j b:Nat} {m:ff} (hm:μ r=some m) (hb:m.Y3=some b):RV w X μ (.pointer (some ⟨b,e * m.sz+j,none⟩)) (.ref r e j)
 | agg {arr:Array Value} {cells:List AV} (hn:arr.size=cells.length) (hr:∀ (j:Nat) (u:Value) (c:AV),arr[j]? = some u->cells[j]? = some c->RV w X μ u c):RV w X μ (.agg arr) (.agg cells)
 | aR {arr:Array Value} {cells:List AV} (hn:arr.size=cells.length) (hr:∀ (j:Nat) (u:Value) (c:AV),arr[j]? = some u->cells[j]? = some c->RV w X μ u c):RV w X μ (.tuple arr) (.aR cells)
 | bg {t:TypeId} {u:Value} {x:AV} (h:RV w X μ u x):RV w X μ (.iface t u) (.bg t x)
 | fn {f:Fn} {arr:Array Value} {cells:List AV} (hn:arr.size=cells.length) (hr:∀ (j:Nat) (u:Value) (c:AV),arr[j]? = some u->cells[j]? = some c->RV w X μ u c):RV w X μ (.func f #[] arr) (.fn f cells)
 | bm {g:FuncId} {u:Value} {x:AV} (h:RV w X μ u x):RV w X μ (.func (.func g) #[u] #[]) (.bm g x)
 | mp {r b:Nat} {m:ff} (hm:μ r=some m) (hb:m.Y3=some b):RV w X μ (.map (some b)) (.mp r)
 | dead (u:Value):RV w X μ u .dead
theorem RD.scalar {w:World} {X:Nat->Prop} {u x:Value} (h:RD w X u (.v x)):u=x:=by
 generalize hy:D.v x=y at h;cases h<;>cases hy;rfl
theorem RV.scalar {w:World} {X:Nat->Prop} {μ:Mu} {u x:Value} (h:RV w X μ u (.d (.v x))):u=x:=by
 generalize hy:AV.d (.v x)=y at h;cases h<;>cases hy;rename_i h;exact h.scalar
theorem RV.data {w:World} {X:Nat->Prop} {μ:Mu} {u:Value} {x:D} (h:RV w X μ u (.d x)):RD w (XX X μ) u x:=by
 generalize hy:AV.d x=y at h;cases h<;>cases hy
 assumption
def AV.kill (r:Nat):AV->AV
 | .d x=>.d x
 | .own q off n=>if q=r then .dead else .own q off n
 | .ref q e j=>if q=r then .dead else .ref q e j
 | .agg cells=>.agg (go r cells)
 | .aR vs=>.aR (go r vs)
 | .bg t x=>.bg t (x.kill r)
 | .fn f caps=>.fn f (go r caps)
 | .bm g x=>.bm g (x.kill r)
 | .mp q=>if q=r then .dead else .mp q
 | .dead=>.dead
where
 go (r:Nat):List AV->List AV
 | []=>[]
 | x :: l=>x.kill r :: go r l
theorem AV.go_eq (r:Nat) (l:List AV):AV.kill.go r l=l.map (AV.kill r):=by
 induction l with
 | nil=>rfl
 | cons x l ih=>simp[AV.kill.go,ih]
def Row.kill (r:Nat):Row->Row
 | .sl ty sz els=>.sl ty sz els
 | .box ty cells=>.box ty (cells.map (AV.kill r))
 | .mp ty ents=>.mp ty ents
 | .it ents seen=>.it ents seen
structure Ev (Mv:Nat->Prop) (w:World) (μ:Mu) (w':World) (ak:Mu):Prop where
 size:w.heap.size<=w'.heap.size
 os:w'.os=w.os
 tape:w'.tape=w.tape
 output:w'.output=w.output
 same:∀ b,b < w.heap.size->¬ eU μ b->w'.heap[b]? = w.heap[b]?/\¬ eU ak b
 kept:∀ r m,μ r=some m->¬ Mv r->ak r=some m
theorem Ev.refl (Mv:Nat->Prop) (w:World) (μ:Mu):Ev Mv w μ w μ:=⟨Nat.le_refl _,rfl,rfl,rfl,fun _ _ h=>⟨rfl,h⟩,fun _ _ h _=>h⟩
theorem Ev.trans {Mv:Nat->Prop} {w w1 w2:World} {μ μ1 fv:Mu} (h:Ev Mv w μ w1 μ1) (h':Ev Mv w1 μ1 w2 fv):Ev Mv w μ w2 fv:=
 ⟨Nat.le_trans h.size h'.size,h'.os.trans h.os,h'.tape.trans h.tape,h'.output.trans h.output,fun b hb hr=>
  have h1:=h.same b hb hr;have h2:=h'.same b (Nat.lt_of_lt_of_le hb h.size) h1.2
  ⟨h2.1.trans h1.1,h2.2⟩,fun r m hm hn=>h'.kept r m (h.kept r m hm hn) hn⟩
theorem Ev.weaken {Mv Dm:Nat->Prop} {w w':World} {μ ak:Mu} (h:Ev Mv w μ w' ak) (hm:∀ r m,μ r=some m->Mv r->Dm r):Ev Dm w μ w' ak:=
 ⟨h.size,h.os,h.tape,h.output,h.same,fun r m hr hn=>h.kept r m hr fun hh=>hn (hm r m hr hh)⟩
theorem RD.ev {w w':World} {μ ak:Mu} {X:Nat->Prop} {Mv:Nat->Prop} (h:Ev Mv w μ w' ak) {v:Value} {x:D} (hr:RD w (XX X μ) v x):RD w' (XX X ak) v x:=
 hr.mono h.size fun b hb hX=>⟨(h.same b hb fun e=>hX (.inr e)).1,fun e=>e.elim (fun e=>hX (.inl e)) (h.same b hb fun e=>hX (.inr e)).2⟩
theorem RV.keep {w w':World} {μ ak:Mu} {X:Nat->Prop} {Mv:Nat->Prop} (h:Ev Mv w μ w' ak) {r:Nat} (du:∀ q,q≠r->ak q=μ q):∀ {v:Value} {x:AV},RV w X μ v x->RV w' X ak v (x.kill r):=by
 intro v x hr
 induction hr with
 | d h'=>exact .d (h'.ev h)
 | own hm h'=>
  rename_i u r' off n m;unfold AV.kill;split
  .exact .dead _
  .rename_i aG;exact .own ((du r' aG).trans hm) h'
 | ref hm hb=>
  rename_i r' e j b m;unfold AV.kill;split
  .exact .dead _
  .rename_i aG;exact .ref ((du r' aG).trans hm) hb
 | agg hn _ ih=>
  rw[AV.kill,AV.go_eq];refine .agg (by simpa using hn) fun j u c hu hc=>?_;rw[List.getElem?_map]at hc;obtain⟨c',YS,rfl⟩:=Option.map_eq_some_iff.1 hc;exact ih j u c' hu YS
 | aR hn _ ih=>
  rw[AV.kill,AV.go_eq];refine .aR (by simpa using hn) fun j u c hu hc=>?_;rw[List.getElem?_map]at hc;obtain⟨c',YS,rfl⟩:=Option.map_eq_some_iff.1 hc;exact ih j u c' hu YS
 | bg _ ih=>exact .bg ih
 | bm _ ih=>exact .bm ih
 | fn hn _ ih=>
  rw[AV.kill,AV.go_eq];refine .fn (by simpa using hn) fun j u c hu hc=>?_;rw[List.getElem?_map]at hc;obtain⟨c',YS,rfl⟩:=Option.map_eq_some_iff.1 hc;exact ih j u c' hu YS
 | mp hm hb=>
  rename_i r' b m;unfold AV.kill;split
  .exact .dead _
  .rename_i aG;exact .mp ((du r' aG).trans hm) hb
 | dead u=>exact .dead u
theorem RV.same {w w':World} {μ ak:Mu} {X:Nat->Prop} {Mv:Nat->Prop} (h:Ev Mv w μ w' ak) (du:∀ q m,μ q=some m->ak q=some m):∀ {v:Value} {x:AV},RV w X μ v x->RV w' X ak v x:=by
 intro v x hr
 induction hr with
 | d h'=>exact .d (h'.ev h)
 | own hm h'=>exact .own (du _ _ hm) h'
 | ref hm hb=>exact .ref (du _ _ hm) hb
 | agg hn _ ih=>exact .agg hn ih
 | aR hn _ ih=>exact .aR hn ih
 | bg _ ih=>exact .bg ih
 | bm _ ih=>exact .bm ih
 | fn hn _ ih=>exact .fn hn ih
 | mp hm hb=>exact .mp (du _ _ hm) hb
 | dead u=>exact .dead u
abbrev Heap:=Nat->Option Row
inductive aet (w:World) (X:Nat->Prop) (μ:Mu) (m:ff):Row->Prop
 | nil {ty sz:Nat} (hb:m.Y3=none) (hs:m.sz=sz):aet w X μ m (.sl ty sz [])
 | sl {ty sz b:Nat} {els:List (List D)} {cur:Array Value} (hb:m.Y3=some b) (hs:m.sz=sz) (hh:w.heap[b]? = some (.cells cur ty (0,0))) (hc:cur.size=m.cap * sz)
   (hn:els.length<=m.cap) (hm:m.cap<=maxLen) (hl:∀ el∈els,el.length=sz) (hz:0 < sz)
   (hr:∀ (i j:Nat) (el:List D) (c:D),els[i]? = some el->el[j]? = some c->∃ u,cur[i * sz+j]? = some u/\RD w (XX X μ) u c):aet w X μ m (.sl ty sz els)
 | box {ty b:Nat} {cells:List AV} {cur:Array Value} (hb:m.Y3=some b) (hs:m.sz=m.sz) (hc:m.cap<=maxLen) (hh:w.heap[b]? = some (.cells cur ty (0,0))) (hn:cells.length<=cur.size)
   (hr:∀ (j:Nat) (u:Value) (c:AV),cur[j]? = some u->cells[j]? = some c->RV w X μ u c) (hx:ty=DK->cells.length=cur.size):aet w X μ m (.box ty cells)
 | mp {ty b:Nat} {ents:List (Value×D)} {es:Array MapEntry} (hb:m.Y3=some b) (hh:w.heap[b]? = some (.map es es.size)) (hn:es.size=ents.length)
   (hr:∀ (i:Nat) (e:MapEntry) (p:Value×D),es[i]? = some e->ents[i]? = some p->e.key=p.1/\e.born=i/\RD w (XX X μ) e.val p.2):aet w X μ m (.mp ty ents)
 | it {b bm:Nat} {ents:List (Value×Value)} {seen:List Nat} (hb:m.Y3=some b) (hh:w.heap[b]? = some (.mapIter (some bm) ents.length seen.toArray ents.length)) (hr:RD w (XX X μ) (.map (some bm)) (.dm true ents)):aet w X μ m (.it ents seen)
structure cw (w:World) (X:Nat->Prop) (μ:Mu) (H:Heap):Prop where
 rows:∀ r row,H r=some row->∃ m,μ r=some m/\aet w X μ m row
 gl:∀ r m,μ r=some m->∃ row,H r=some row
 inj:∀ r r' m m' b,μ r=some m->μ r'=some m'->m.Y3=some b->m'.Y3=some b->r=r'
 frame:∀ r m b,μ r=some m->m.Y3=some b->¬ X b
 fits:∀ b,X b->b < w.heap.size
theorem cw.ZZ {w:World} {X:Nat->Prop} {μ:Mu} {H:Heap} (h:cw w X μ H) {b:Nat} (hb:eU μ b):b < w.heap.size:=by
 obtain⟨r,m,hm,hb⟩:=hb;obtain⟨row,hr⟩:=h.gl r m hm;obtain⟨m',bA,ok⟩:=h.rows r row hr;rw[hm]at bA;obtain rfl:=Option.some.inj bA
 cases ok with
 | nil aH _=>rw[aH]at hb;cases hb
 | sl aH _ hh=>rw[aH]at hb;obtain rfl:=Option.some.inj hb;exact (Array.getElem?_eq_some_iff.1 hh).1
 | box aH _ _ hh=>rw[aH]at hb;obtain rfl:=Option.some.inj hb;exact (Array.getElem?_eq_some_iff.1 hh).1
 | mp aH hh=>rw[aH]at hb;obtain rfl:=Option.some.inj hb;exact (Array.getElem?_eq_some_iff.1 hh).1
 | it aH hh=>rw[aH]at hb;obtain rfl:=Option.some.inj hb;exact (Array.getElem?_eq_some_iff.1 hh).1
