/-
  Texts that belong together,in one file: Av38,Av39.
-/
import Derived.Test.YtpboiimemmfkiaaGreatDoorRp10
import Derived.Maps.RangeRun
set_option linter.unusedSectionVars false
set_option linter.unusedSimpArgs false
set_option linter.unusedVariables false
namespace Go.Av
open Go.ChangeMaps (setBlock)
section
variable {P:Program} {T:Ty} {Mv X:Nat→Prop} {G:Glob} {N:Fr} {w:World} {μ:Mu} {a:Act} {σ:St}
def isIt:Op→Bool
 | .range _ _=>true
 | .next _ false=>true
 | .entry _=>true
 | _=>false
def isMapT (T:Ty) (t:TypeId):Bool:=match T t with
 | some tt=>match tt.desc with
  | .map _ _=>true
  | _=>false
 | none=>false
def rngK (T:Ty) (G:Glob) (t:TypeId) (x:Operand) (d:Nat) (σ:St) (K:St→Prop):Prop:=match aeval G σ.env x with
 | some (.d (.dm _ ents))=>isMapT T t=true∧σ.H d=none∧∀ es:List (Value×Value),es.Perm ents→K ⟨upd σ.env d (.ref d 0 0),hup σ.H d (.it es [])⟩
 | _=>False
def nextK (G:Glob) (x:Operand) (d:Nat) (σ:St) (K:St→Prop):Prop:=match aeval G σ.env x with
 | some (.ref r 0 0)=>match σ.H r with
  | some (.it ents seen)=>((∀ j,j < ents.length→j∈seen)→K ⟨upd σ.env d (.d (.tup [.v (.bool false)])),σ.H⟩)∧
   ∀ j (hj:j < ents.length),j ∉ seen→K ⟨upd σ.env d (.d (.tup [.v (.bool true),.v ents[j].1,.v ents[j].2])),hup σ.H r (.it ents (seen ++ [j]))⟩
  | _=>False
 | _=>False
def entryK (G:Glob) (x:Operand) (d:Nat) (σ:St) (K:St→Prop):Prop:=match aeval G σ.env x with
 | some (.ref r 0 0)=>match σ.H r with
  | some (.it ents seen)=>∃ s j,∃ hj:j < ents.length,seen=s ++ [j]∧K ⟨upd σ.env d (.d (.tup [.v ents[j].1,.v ents[j].2])),σ.H⟩
  | _=>False
 | _=>False
def itK (T:Ty) (G:Glob) (o:Oper) (σ:St) (K:St→Prop):Prop:=match o.op,o.dst with
 | .range t x,some d=>rngK T G t x d σ K
 | .next x false,some d=>nextK G x d σ K
 | .entry x,some d=>entryK G x d σ K
 | _,_=>False
def stepIt (P:Program) (T:Ty) (Mv X:Nat→Prop) (G:Glob) (N:Fr) (ops:Array Oper) (o:Oper) (σ:St) (K:St→Prop):Prop:=okDst N o∧match wantedS ops σ.env o with
 | some b=>if b=true then (if isIt o.op=true then itK T G o σ K else exK P T Mv X G N o σ K) else K ⟨putd σ.env o.dst und,σ.H⟩
 | none=>False
end
attribute [simp] stepIt isIt isMapT allV
end Go.Av
namespace Go.Av
section
variable {P:Program} {T:Ty} {Mv X:Nat→Prop} {G:Glob} {N:Fr} {w:World} {μ:Mu} {a:Act} {σ:St}
theorem run_append_off (t ty e:TypeId) (i:TypeInfo) (ht:P.underlying t=some (.slice e)) (hi:P.info? e=some i)
  (g off sLen sCap:Nat) (cur:Array Value) (hg:w.heap[g]? = some (.cells cur e (0,0)))
  (a:Addr) (m c:Nat) (news:List Value) (hl:news.length=m * i.size) (hnews:∀ j u,news[j]? = some u→w.cell? (a.add j)=some u) (h1:∀ u∈news,u.oneCell'=true)
  (hroom:sLen+m≤sCap) (hfit:off+sLen * i.size+news.length≤cur.size) :
  (Builtin.append_ #[t,t] ty #[.slice (some ⟨g,off,none⟩) sLen sCap,.slice (some a) m c]).run P w =
   .ok (.slice (some ⟨g,off,none⟩) (sLen+m) sCap) (w.setRow g (cur.toList.take (off+sLen * i.size) ++ news ++ cur.toList.drop (off+sLen * i.size+news.length)).toArray):=by
 have hf:=run_firstCells_some (P:=P) w i.size m a m c news hl hnews
 have hst:=run_storeCells_at P g (off+sLen * i.size) e news 0 cur w hg (by simpa using hfit) h1
 simp only [Nat.add_zero] at hst;simp [Builtin.append_,run_underlying ht,sizeOf,typeInfo,hi,Builtin.lenOf,hroom,hf,Addr.add_lit,hst]
theorem appendT_ok (hg:Good P T) (hi:In w X G μ N a σ) {r off n:Nat} (hmv:Mv r) {t ty e:TypeId} {tt te:TI} (htt:T t=some tt) (hdd:tt.desc = .slice e) (hte:T e=some te) {els news:List (List D)} {u v:Value}
  (hH:σ.H r=some (.sl e te.size els)) (hle:off+n≤els.length) (hu:RV w X μ u (.own r off n)) (hn:News w X μ te.size v news) (hz:0 < te.size) (hzs:(zeroD te.zero).length=te.size)
  (h63:n+news.length≤maxLen) (hb:(n+news.length) * te.bytes≤140737488355328) :
  ∃ pre:List (List D),Does Mv X G N w μ a ((Builtin.append_ #[t,t] ty #[u,v]).run P w) (.own r pre.length (n+news.length)) ⟨killE r σ.env,hup (killH r σ.H) r (.sl e te.size (pre ++ ((els.drop off).take n ++ news)))⟩:=by
 by_cases hoff:off=0
 ·subst hoff;exact ⟨[],by simpa using appendA_ok (Mv:=Mv) hg hi hmv htt hdd hte hH (by omega) hu hn hz hzs h63 hb⟩
 obtain ⟨m,hm,hh⟩:=hu.own_inv
 obtain ⟨m',hm',ok⟩:=hi.sim.rows r _ hH
 rw [hm] at hm'
 obtain rfl:=Option.some.inj hm'
 obtain ⟨hund,i0,hii,hs0,hb0,hz0,_⟩:=hg e te hte
 have ht:=(hg t tt htt).1
 rw [hdd] at ht
 have hzc:=zeroD_ok (w:=w) (X:=XX X μ) te.zero
 have hcs0:te.zero.cells.size=te.size:=by rw [hzc.1,hzs]
 rcases hh with ⟨_,_,h0,_⟩ | ⟨b,hbk,rfl,hcap⟩
 ·exact absurd h0 hoff
 cases ok with
 | nil hb' _=>rw [hb'] at hbk;cases hbk
 | sl hb' hsz hhp hcs hn' hmx hl hz' hr=>
  rename_i b' cur
  rw [hbk] at hb'
  obtain rfl:=Option.some.inj hb'
  have hplen:(els.take off).length=off:=by rw [List.length_take];omega
  have htake:els.take off ++ (els.drop off).take n=els.take (off+n):=by rw [List.take_add]
  have hmidl:((els.drop off).take n).length=n:=by rw [List.length_take,List.length_drop];omega
  have hmid:∀ el∈(els.drop off).take n,el.length=te.size:=fun el hel=>hl el (List.mem_of_mem_drop (List.mem_of_mem_take hel))
  by_cases hne:news=[]
  ·subst hne
   have hv:∃ ad c,v = .slice ad 0 c:=by
    rcases hn.at_ with ⟨_,ad,cap,rfl⟩ | ⟨ad,cap,nws,rfl,_⟩
    ·exact ⟨_,_,rfl⟩
    ·exact ⟨_,_,rfl⟩
   obtain ⟨ad,c,rfl⟩:=hv
   refine ⟨els.take off,?_⟩
   have hrun:=run_append_none (P:=P) (w:=w) (ty:=ty) hg htt hdd hte (some ⟨b,off * m.sz,none⟩) ad n (m.cap - off) c (by omega)
   rw [hrun]
   obtain ⟨hin,hev⟩:=hi.move (Mv:=Mv) (w':=w) (m':=m) hm hmv (Nat.le_refl _) rfl rfl rfl (fun _ _ _=>rfl) (fun b hb=>.inr hb) (row:=.sl e te.size (els.take off ++ ((els.drop off).take n ++ []))) fun ev=>by
    rw [List.append_nil,htake];refine .sl hbk hsz hhp hcs (by simp;omega) hmx (fun el hel=>hl el (List.mem_of_mem_take hel)) hz' fun i j el c hel hc=>?_;rw [List.getElem?_take] at hel
    split at hel
    ·obtain ⟨v,hv,hrd⟩:=hr i j el c hel hc
     exact ⟨v,hv,hrd.ev ev⟩
    ·cases hel
   refine ⟨_,_,_,rfl,hin,.own (m:=m) (by simp [mup]) ?_,hev⟩;rw [hplen];exact .inr ⟨b,hbk,rfl,by simpa using hcap⟩
  ·have hnpos:0 < news.length:=List.length_pos_iff.2 hne
   rcases hn.at_ with ⟨h,_⟩ | ⟨ad,cap,nws,rfl,hnl,hncell,hn1,hnr⟩
   ·exact absurd h hne
   have hsmall:n+news.length≤9223372036854775807:=by simp only [maxLen] at h63;omega
   have hmulc:(off+n) * te.size≤m.cap * te.size:=Nat.mul_le_mul_right _ hcap
   rw [Nat.add_mul] at hmulc
   by_cases hroom:n+news.length≤m.cap - off
   ·have hfit:off * te.size+n * te.size+nws.length≤cur.size:=by
     rw [hnl,hcs,← Nat.add_mul,← Nat.add_mul];exact Nat.mul_le_mul_right _ (by omega)
    have hrun:=run_append_off (P:=P) (w:=w) t ty e i0 ht hii b (off * te.size) n (m.cap - off) cur hhp ad news.length cap nws (by rw [hnl,hs0]) hncell hn1 hroom (by rw [hs0];exact hfit)
    refine ⟨els.take off,?_⟩;rw [hsz,hrun,hs0]
    have hxl:(cur.toList.take (off * te.size+n * te.size)).length=(off+n) * te.size:=by rw [List.length_take,Array.length_toList,hcs,Nat.add_mul];omega
    have hxr:Rel w X μ te.size (cur.toList.take (off * te.size+n * te.size)) (els.take (off+n)):=by
     intro i j el c hel hc
     rw [List.getElem?_take] at hel
     split at hel
     ·rename_i hin
      obtain ⟨v,hv,hrd⟩:=hr i j el c hel hc
      have hel':el.length=te.size:=hl _ (List.mem_of_getElem? hel)
      have hj:j < te.size:=by rw [← hel'];exact (List.getElem?_eq_some_iff.1 hc).1
      refine ⟨v,?_,hrd⟩;rw [List.getElem?_take,if_pos]
      ·simpa using hv
      ·have:(i+1) * te.size≤(off+n) * te.size:=Nat.mul_le_mul_right _ hin
       rw [Nat.add_mul,Nat.add_mul] at this
       omega
     ·cases hel
    obtain ⟨hin,hev⟩:=hi.move (Mv:=Mv) (w':=w.setRow b (cur.toList.take (off * te.size+n * te.size) ++ nws ++ cur.toList.drop (off * te.size+n * te.size+nws.length)).toArray) (m':=m) hm hmv (by simp) rfl rfl rfl
     (fun k hk hne'=>setRow_other w b k _ fun e'=>hne' (by rw [hbk,e'])) (fun b hb=>.inr hb) (row:=.sl e te.size (els.take off ++ ((els.drop off).take n ++ news))) fun ev=>by
      rw [← List.append_assoc,htake];refine .sl hbk hsz (setRow_heap w b cur _ e _ hhp) ?_ (by simp;omega) hmx (fun el hel=>?_) hz' fun i j el c hi hj=>?_
      ·simp only [List.size_toArray,List.length_append,List.length_take,List.length_drop,Array.length_toList]
       omega
      ·rcases List.mem_append.1 hel with h | h
       ·exact hl el (List.mem_of_mem_take h)
       ·exact hn.len el h
      ·obtain ⟨v,hv,hrd⟩:=((hxr.append (by rw [hxl,List.length_take,Nat.min_eq_left hle]) (fun el hel=>hl el (List.mem_of_mem_take hel)) hnr).more (l':=cur.toList.drop (off * te.size+n * te.size+nws.length))) i j el c hi hj
       exact ⟨v,by rw [← Array.getElem?_toList];simpa using hv,hrd.ev ev⟩
    refine ⟨_,_,_,rfl,hin,.own (m:=m) (by simp [mup]) (.inr ⟨b,hbk,by rw [hplen,hsz],by rw [hplen];omega⟩),hev⟩
   ·have hxl:((cur.toList.drop (off * te.size)).take (n * te.size)).length=n * te.size:=by rw [List.length_take,List.length_drop,Array.length_toList,hcs];omega
    have hxr:Rel w X μ te.size ((cur.toList.drop (off * te.size)).take (n * te.size)) ((els.drop off).take n):=by
     intro i j el c hel hc
     rw [List.getElem?_take] at hel
     split at hel
     ·rename_i hin
      rw [List.getElem?_drop] at hel
      obtain ⟨v,hv,hrd⟩:=hr (off+i) j el c hel hc
      have hel':el.length=te.size:=hl _ (List.mem_of_getElem? hel)
      have hj:j < te.size:=by rw [← hel'];exact (List.getElem?_eq_some_iff.1 hc).1
      refine ⟨v,?_,hrd⟩;rw [List.getElem?_take,if_pos,List.getElem?_drop]
      ·rw [← Nat.add_assoc,← Nat.add_mul];simpa using hv
      ·have:(i+1) * te.size≤n * te.size:=Nat.mul_le_mul_right _ hin
       rw [Nat.add_mul] at this
       omega
     ·cases hel
    have hrun:=run_append_grow (P:=P) w t ty e i0 te.zero ht hii hz0 ⟨b,off * te.size,none⟩ n (m.cap - off) ((cur.toList.drop (off * te.size)).take (n * te.size)) (by rw [hxl,hs0]) (fun j v hv=>by
     rw [addr_add,cell_of_row w b _ cur e (0,0) hhp];rw [List.getElem?_take] at hv
     split at hv
     ·rw [List.getElem?_drop] at hv;simpa using hv
     ·cases hv) ad news.length cap nws (by rw [hnl,hs0]) hncell (by omega) (by omega) (by rw [hb0];exact growslice_fits (by omega) hb)
    refine ⟨[],?_⟩;rw [hsz,hrun]
    have hc1:=grownCap_ge w (n+news.length) (m.cap - off) e
    have hc2:=grownCap_le_maxLen w (n+news.length) (m.cap - off) e h63
    generalize grownCap w (n+news.length) (m.cap - off) e=ncap at *;generalize (cur.toList.drop (off * te.size)).take (n * te.size)=xs at *
    have hgw:Grew w (w.drew.alloc (.cells (xs.toArray ++ nws.toArray ++ Builtin.zeroCells te.zero.cells (ncap - (n+news.length))) e)):=by
     have h1:=Grew.alloc w.drew (.cells (xs.toArray ++ nws.toArray ++ Builtin.zeroCells te.zero.cells (ncap - (n+news.length))) e)
     exact ⟨h1.size,h1.os,h1.tape,h1.output,h1.same⟩
    have hsz2:(xs.toArray ++ nws.toArray ++ Builtin.zeroCells te.zero.cells (ncap - (n+news.length))).size=ncap * te.size:=by
     simp only [Array.size_append,List.size_toArray,size_zeroCells,hcs0,hxl,hnl,← Nat.add_mul]
     congr 1
     omega
    obtain ⟨hin,hev⟩:=hi.move (Mv:=Mv) (w':=w.drew.alloc (.cells (xs.toArray ++ nws.toArray ++ Builtin.zeroCells te.zero.cells (ncap - (n+news.length))) e)) (m':=⟨some w.heap.size,te.size,ncap⟩) hm hmv hgw.size hgw.os hgw.tape hgw.output
     (fun k hk _=>hgw.same k hk) (fun b hb=>by simp at hb;omega) (row:=.sl e te.size ([] ++ ((els.drop off).take n ++ news))) fun ev=>by
      rw [List.nil_append];refine .sl rfl rfl (by simpa using heap_alloc_new w.drew (.cells (xs.toArray ++ nws.toArray ++ Builtin.zeroCells te.zero.cells (ncap - (n+news.length))) e)) hsz2 (by rw [List.length_append,hmidl];omega) hc2 (fun el hel=>?_) hz fun i j el c hi hj=>?_
      ·rcases List.mem_append.1 hel with h | h
       ·exact hmid el h
       ·exact hn.len el h
      ·have hrel:=((hxr.append (by rw [hxl,hmidl]) hmid hnr).more (l':=(Builtin.zeroCells te.zero.cells (ncap - (n+news.length))).toList)) i j el c hi hj
       obtain ⟨v,hv,hrd⟩:=hrel
       refine ⟨v,?_,hrd.ev ev⟩;rw [← Array.getElem?_toList];simpa using hv
    exact ⟨_,_,_,rfl,hin,.own (m:=⟨some w.heap.size,te.size,ncap⟩) (by simp [mup]) (.inr ⟨w.heap.size,rfl,by simp,by simpa using hc1⟩),hev⟩
def tailA (T:Ty) (G:Glob) (Mv:Nat→Prop) (σ:St) (o:Oper):Option (Prop×(List (List D)→AV×St)):=match o.op,o.dst with
 | .call { callee:=.builtin .append,args,argTypes },some _=>match args.toList,argTypes.toList with
  | [x,y],[t,t']=>match T t with
   | some tt=>match tt.desc with
    | .slice e=>match T e,aeval G σ.env x,aeval G σ.env y with
     | some te,some (.own r off n),some v=>match σ.H r,newsOf σ.H r v with
      | some (.sl ty sz els),some news=>some (t=t'∧Mv r∧ty=e∧sz=te.size∧off+n≤els.length∧(∀ el∈news,el.length=te.size)∧(∀ el∈news,∀ c∈el,D.one c=true)∧0 < te.size∧(zeroD te.zero).length=te.size∧n+news.length≤9223372036854775807∧(n+news.length) * te.bytes≤140737488355328,
        fun pre=>(.own r pre.length (n+news.length),⟨killE r σ.env,hup (killH r σ.H) r (.sl e te.size (pre ++ ((els.drop off).take n ++ news)))⟩))
      | _,_=>none
     | _,_,_=>none
    | _=>none
   | none=>none
  | _,_=>none
 | _,_=>none
def exT (P:Program) (T:Ty) (Mv X:Nat→Prop) (G:Glob) (N:Fr) (o:Oper) (σ:St) (next:St→Prop):Prop:=match tailA T G Mv σ o with
 | some (c,f)=>c∧∀ pre:List (List D),next ⟨putd (f pre).2.env o.dst (f pre).1,(f pre).2.H⟩
 | none=>exK P T Mv X G N o σ next
theorem exT_ok (hg:Good P T) (hi:In w X G μ N a σ) {o:Oper} {K:St→Prop} (hd:∀ d,o.dst=some d→d < N.n) (h:exT P T Mv X G N o σ K) {Q:Exit→Act→World→Prop} {next:Act→World→Prop}
  (hk:∀ w' μ' a' σ',K σ'→In w' X G μ' N a' σ'→Ev Mv w μ w' μ'→next a' w'):o.wpIn (wd N.ro) 0 P a w next Q:=by
 unfold exT at h
 split at h
 ·rename_i c f hw
  obtain ⟨hc,k⟩:=h
  obtain ⟨op,dst,type,pos,after,guard⟩:=o
  unfold tailA at hw
  split at hw
  ·rename_i args argTypes d hop hdst
   simp only at hop hdst;subst hop hdst;refine wpR (fun c e=>by cases e) ?_
   split at hw
   ·rename_i x0 y0 t t' ha ht
    have e1:args = #[x0,y0]:=Array.toList_inj.1 ha
    have e2:argTypes = #[t,t']:=Array.toList_inj.1 ht
    subst e1 e2
    split at hw
    ·rename_i tt htt
     split at hw
     ·rename_i e hdd
      split at hw
      ·rename_i te r off n v hte h1 h2
       split at hw
       ·rename_i ty sz els news hH hn
        simp only [Option.some.injEq,Prod.mk.injEq] at hw
        obtain ⟨rfl,rfl⟩:=hw
        obtain ⟨rfl,g1,rfl,rfl,g2,g3,g4,g5,g6,g7,g8⟩:=hc
        obtain ⟨pre,v',w',μ',hr,hin,hrv,hev⟩:=appendT_ok (Mv:=Mv) (ty:=type) hg hi g1 htt hdd hte hH g2 (hi.eval h1) (newsOf_ok hi.sim (hi.eval h2) hn g3 g5 g4) g5 g6 (by unfold maxLen;omega) g8
        unfold Oper.wp
        have hx:(execOp a.eval { op:=.call { callee:=.builtin .append,args:=#[x0,y0],argTypes:=#[t,t] },dst:=some d,type:=type,pos:=pos,after:=after,guard:=guard:Oper }).run P w = .ok (.value v') w':=by simp [execOp,resolve,invoke,builtin,hr]
        rw [hx];exact hk _ μ' _ _ (k pre) (hin.put hrv hd) hev
       ·cases hw
      ·cases hw
     ·cases hw
    ·cases hw
   ·cases hw
  ·cases hw
 ·exact exK_ok hg hi hd h hk
def sxt (P:Program) (T:Ty) (Mv X:Nat→Prop) (G:Glob) (N:Fr) (ops:Array Oper) (K:St→Prop):List Oper→St→Prop
 | [],σ=>K σ
 | o :: rest,σ=>okDst N o∧match wantedS ops σ.env o with
  | some b=>if b=true then exT P T Mv X G N o σ (sxt P T Mv X G N ops K rest) else sxt P T Mv X G N ops K rest ⟨putd σ.env o.dst und,σ.H⟩
  | none=>False
theorem sxt_ok (hg:Good P T) {ops:Array Oper} {Q:Exit→St→Prop} {w0:World} {μ0:Mu}:∀ (l:List Oper) (k:Nat) (w:World) (μ:Mu) (a:Act) (σ:St),(∀ j,l[j]? = ops[k+j]?)→sxt P T Mv X G N ops (fun σ'=>Q .normal σ') l σ→In w X G μ N a σ→Ev Mv w0 μ0 w μ→
  wpOpsIn (wd N.ro) 0 P ops (After Mv X G N w0 μ0 Q) (List.range' k l.length) a w:=by
 intro l
 induction l with
 | nil=>intro k w μ a σ _ h hi hev;exact ⟨μ,σ,h,hi,hev⟩
 | cons o l ih=>
  intro k w μ a σ hl h hi hev
  have h0:ops[k]? = some o:=by simpa using (hl 0).symm
  have hl':∀ j,l[j]? = ops[k+1+j]?:=fun j=>by have:=hl (j+1);simpa [Nat.add_assoc,Nat.add_comm 1 j] using this
  obtain ⟨hd,h⟩:=h
  have hd':∀ d,o.dst=some d→d < N.n:=fun d e=>by unfold okDst at hd;rw [e] at hd;exact hd
  rw [List.length_cons,List.range'_succ];simp only [wpOpsIn,h0]
  split at h
  ·rename_i b hb
   rw [wantedS_ok hi hb]
   split at h
   ·rename_i hbt
    subst hbt;rw [if_pos rfl];exact (exT_ok hg hi hd' h fun w' μ' a' σ' k' hin hev'=>ih (k+1) w' μ' a' σ' hl' k' hin (hev.trans hev'))
   ·rename_i hbf
    rw [if_neg (by simpa using hbf)];exact ⟨fun _ _=>trivial,ih (k+1) w μ _ _ hl' h (hi.put (.d (.v _)) hd') hev⟩
  ·exact h.elim
theorem AW_regionT (hg:Good P T) {id:Nat} {ops:Array Oper} {Q:Exit→St→Prop} (h:sxt P T Mv X G N ops (fun σ'=>Q .normal σ') ops.toList σ):AW P Mv X G N (.region id ops false) Q σ:=fun w μ a hi=>by
 refine wpIn_region ?_
 have:=sxt_ok hg ops.toList 0 w μ a σ (by simp) h hi (.refl _ w μ)
 rwa [← List.range_eq_range',Array.length_toList] at this
theorem AW_rte (hg:Good P T) {id:Nat} {ops:Array Oper} {Q:Exit→St→Prop} (h:∀ K:St→Prop,(∀ τ:St,Q .normal τ→K τ)→sxt P T Mv X G N ops K ops.toList σ):AW P Mv X G N (.region id ops false) Q σ:=
 AW_regionT hg (h _ fun _ h=>h)
def stepT (P:Program) (T:Ty) (Mv X:Nat→Prop) (G:Glob) (N:Fr) (ops:Array Oper) (o:Oper) (σ:St) (K:St→Prop):Prop:=okDst N o∧match wantedS ops σ.env o with
 | some b=>if b=true then exT P T Mv X G N o σ K else K ⟨putd σ.env o.dst und,σ.H⟩
 | none=>False
theorem sxt_next {ops:Array Oper} {K:St→Prop} {o:Oper} {rest:List Oper} (h:∀ K':St→Prop,(∀ τ,sxt P T Mv X G N ops K rest τ→K' τ)→stepT P T Mv X G N ops o σ K'):sxt P T Mv X G N ops K (o :: rest) σ:=h _ fun _ h=>h
theorem sxt_nil {ops:Array Oper} {K:St→Prop} (h:K σ):sxt P T Mv X G N ops K [] σ:=h
attribute [simp] tailA exT stepT
end
end Go.Av
