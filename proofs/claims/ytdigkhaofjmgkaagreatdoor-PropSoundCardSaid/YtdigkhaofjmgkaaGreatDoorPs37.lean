/- Parts. -/
import Derived.Test.YtdigkhaofjmgkaaGreatDoorPs36
import Derived.Maps.RangeRun
set_option linter.unusedSectionVars false
set_option linter.unusedSimpArgs false
set_option linter.unusedVariables false
set_option maxHeartbeats 32000000
set_option maxRecDepth 100000
open Go.Proofs.Tryz
namespace Go.Av
open Go.ChangeMaps (setBlock)
section
variable {P:Program} {T:Ty} {Mv X:Nat->Prop} {G:Yt} {N:Fr} {w:World} {μ:Mu} {a:Act} {σ:St}
def GM:Op->Bool
 | .range _ _=>true
 | .next _ false=>true
 | .entry _=>true
 | _=>false
def GO (T:Ty) (t:TypeId):Bool:=match T t with
 | some tt=>match tt.desc with
  | .map _ _=>true
  | _=>false
 | none=>false
def UT (T:Ty) (G:Yt) (t:TypeId) (x:Operand) (d:Nat) (σ:St) (K:St->Prop):Prop:=match aT G σ.env x with
 | some (.d (.dm _ ents))=>GO T t=true/\σ.H d=none/\∀ es:List (Value×Value),es.Perm ents->K ⟨fb σ.env d (.ref d 0 0),aF σ.H d (.it es [])⟩
 | _=>False
def RU (G:Yt) (x:Operand) (d:Nat) (σ:St) (K:St->Prop):Prop:=match aT G σ.env x with
 | some (.ref r 0 0)=>match σ.H r with
  | some (.it ents seen)=>((∀ j,j < ents.length->j∈seen)->K ⟨fb σ.env d (.d (.aR [.v (.bool false)])),σ.H⟩)/\
   ∀ j (hj:j < ents.length),j ∉ seen->K ⟨fb σ.env d (.d (.aR [.v (.bool true),.v ents[j].1,.v ents[j].2])),aF σ.H r (.it ents (seen ++ [j]))⟩
  | _=>False
 | _=>False
def L7 (G:Yt) (x:Operand) (d:Nat) (σ:St) (K:St->Prop):Prop:=match aT G σ.env x with
 | some (.ref r 0 0)=>match σ.H r with
  | some (.it ents seen)=>∃ s j,∃ hj:j < ents.length,seen=s ++ [j]/\K ⟨fb σ.env d (.d (.aR [.v ents[j].1,.v ents[j].2])),σ.H⟩
  | _=>False
 | _=>False
def Qy (T:Ty) (G:Yt) (o:Oper) (σ:St) (K:St->Prop):Prop:=match o.op,o.dst with
 | .range t x,some d=>UT T G t x d σ K
 | .next x false,some d=>RU G x d σ K
 | .entry x,some d=>L7 G x d σ K
 | _,_=>False
def VF (P:Program) (T:Ty) (Mv X:Nat->Prop) (G:Yt) (N:Fr) (ops:Array Oper) (o:Oper) (σ:St) (K:St->Prop):Prop:=cZ N o/\match fc ops σ.env o with
 | some b=>if b=true then (if GM o.op=true then Qy T G o σ K else py P T Mv X G N o σ K) else K ⟨aw σ.env o.dst bX,σ.H⟩
 | none=>False
end
attribute [simp] VF GM GO jo
end Go.Av
namespace Go.Av
section
variable {P:Program} {T:Ty} {Mv X:Nat->Prop} {G:Yt} {N:Fr} {w:World} {μ:Mu} {a:Act} {σ:St}
theorem Va (t ty e:TypeId) (i:TypeInfo) (ht:P.underlying t=some (.slice e)) (hi:P.info? e=some i)
  (g off qk ac6:Nat) (cur:Array Value) (hg:w.heap[g]? = some (.cells cur e (0,0)))
  (a:Addr) (m c:Nat) (news:List Value) (hl:news.length=m * i.size) (AR:∀ j u,news[j]? = some u->w.cell? (a.add j)=some u) (h1:∀ u∈news,u.oneCell'=true)
  (l6:qk+m<=ac6) (ZR:off+qk * i.size+news.length<=cur.size) :
  (Builtin.append_ #[t,t] ty #[.slice (some ⟨g,off,none⟩) qk ac6,.slice (some a) m c]).run P w =
   .ok (.slice (some ⟨g,off,none⟩) (qk+m) ac6) (w.setRow g (cur.toList.take (off+qk * i.size) ++ news ++ cur.toList.drop (off+qk * i.size+news.length)).toArray):=by
 have hf:=run_firstCells_some (P:=P) w i.size m a m c news hl AR;have bw:=run_storeCells_at P g (off+qk * i.size) e news 0 cur w hg (by simpa using ZR) h1;simp only[Nat.add_zero]at bw;simp[Builtin.append_,run_underlying ht,sizeOf,typeInfo,hi,Builtin.lenOf,l6,hf,Addr.add_lit,bw]
theorem KJ (hg:Good P T) (hi:In w X G μ N a σ) {r off n:Nat} (cW:Mv r) {t ty e:TypeId} {tt te:TI} (YO:T t=some tt) (YQ:tt.desc = .slice e) (bJ:T e=some te) {els news:List (List D)} {u v:Value}
  (hH:σ.H r=some (.sl e te.size els)) (hle:off+n<=els.length) (hu:RV w X μ u (.own r off n)) (hn:lU w X μ te.size v news) (hz:0 < te.size) (kU:(dW te.zero).length=te.size)
  (h63:n+news.length<=maxLen) (hb:(n+news.length) * te.bytes<=140737488355328) :
  ∃ pre:List (List D),iu Mv X G N w μ a ((Builtin.append_ #[t,t] ty #[u,v]).run P w) (.own r pre.length (n+news.length)) ⟨YT r σ.env,aF (cf r σ.H) r (.sl e te.size (pre ++ ((els.drop off).take n ++ news)))⟩:=by
 by_cases dR:off=0
 .subst dR;exact⟨[],by simpa using yu (Mv:=Mv) hg hi cW YO YQ bJ hH (by omega) hu hn hz kU h63 hb⟩
 obtain⟨m,hm,hh⟩:=hu.gV;obtain⟨m',bA,ok⟩:=hi.aL.rows r _ hH;rw[hm]at bA;obtain rfl:=Option.some.inj bA;obtain⟨oH,i0,gN,c6,ZQ,ic,_⟩:=hg e te bJ;have ht:=(hg t tt YO).1;rw[YQ]at ht;have lM:=qz (w:=w) (X:=XX X μ) te.zero
 have Ad:te.zero.cells.size=te.size:=by rw[lM.1,kU]
 rcases hh with⟨_,_,h0,_⟩ | ⟨b,Zv,rfl,fL⟩
 .exact absurd h0 dR
 cases ok with
 | nil aH _=>rw[aH]at Zv;cases Zv
 | sl aH aK ja bR iG dK hl tJ hr=>
  rename_i b' cur;rw[Zv]at aH;obtain rfl:=Option.some.inj aH
  have A3:(els.take off).length=off:=by rw[List.length_take];omega
  have Gu:els.take off ++ (els.drop off).take n=els.take (off+n):=by rw[List.take_add]
  have F4:((els.drop off).take n).length=n:=by rw[List.length_take,List.length_drop];omega
  have F3:∀ el∈(els.drop off).take n,el.length=te.size:=fun el aJ=>hl el (List.mem_of_mem_drop (List.mem_of_mem_take aJ));by_cases aG:news=[]
  .subst aG
   have hv:∃ ad c,v = .slice ad 0 c:=by
    rcases hn.at_ with⟨_,ad,cap,rfl⟩ | ⟨ad,cap,dN,rfl,_⟩
    .exact⟨_,_,rfl⟩
    .exact⟨_,_,rfl⟩
   obtain⟨ad,c,rfl⟩:=hv;refine⟨els.take off,?_⟩;have bt:=IU (P:=P) (w:=w) (ty:=ty) hg YO YQ bJ (some ⟨b,off * m.sz,none⟩) ad n (m.cap - off) c (by omega);rw[bt]
   obtain⟨ax,aB⟩:=hi.move (Mv:=Mv) (w':=w) (m':=m) hm cW (Nat.le_refl _) rfl rfl rfl (fun _ _ _=>rfl) (fun b hb=>.inr hb) (row:=.sl e te.size (els.take off ++ ((els.drop off).take n ++ []))) fun ev=>by
    rw[List.append_nil,Gu];refine .sl Zv aK ja bR (by simp;omega) dK (fun el aJ=>hl el (List.mem_of_mem_take aJ)) tJ fun i j el c aJ hc=>?_;rw[List.getElem?_take]at aJ;split at aJ
    .obtain⟨v,hv,bq⟩:=hr i j el c aJ hc;exact⟨v,hv,bq.ev ev⟩
    .cases aJ
   refine⟨_,_,_,rfl,ax,.own (m:=m) (by simp[cq]) ?_,aB⟩;rw[A3];exact .inr ⟨b,Zv,rfl,by simpa using fL⟩
  .have ac4:0 < news.length:=List.length_pos_iff.2 aG
   rcases hn.at_ with⟨h,_⟩ | ⟨ad,cap,dN,rfl,eK,oB,kh,fZ⟩
   .exact absurd h aG
   have A8:n+news.length<=9223372036854775807:=by simp only[maxLen]at h63;omega
   have Pj:(off+n) * te.size<=m.cap * te.size:=Nat.mul_le_mul_right _ fL;rw[Nat.add_mul]at Pj;by_cases l6:n+news.length<=m.cap - off
   .have ZR:off * te.size+n * te.size+dN.length<=cur.size:=by
     rw[eK,bR,<- Nat.add_mul,<- Nat.add_mul];exact Nat.mul_le_mul_right _ (by omega)
    have bt:=Va (P:=P) (w:=w) t ty e i0 ht gN b (off * te.size) n (m.cap - off) cur ja ad news.length cap dN (by rw[eK,c6]) oB kh l6 (by rw[c6];exact ZR);refine⟨els.take off,?_⟩;rw[aK,bt,c6]
    have eu:(cur.toList.take (off * te.size+n * te.size)).length=(off+n) * te.size:=by rw[List.length_take,Array.length_toList,bR,Nat.add_mul];omega
    have hxr:Rel w X μ te.size (cur.toList.take (off * te.size+n * te.size)) (els.take (off+n)):=by
     intro i j el c aJ hc;rw[List.getElem?_take]at aJ;split at aJ
     .rename_i ax;obtain⟨v,hv,bq⟩:=hr i j el c aJ hc;have nd:el.length=te.size:=hl _ (List.mem_of_getElem? aJ)
      have hj:j < te.size:=by rw[<- nd];exact (List.getElem?_eq_some_iff.1 hc).1
      refine⟨v,?_,bq⟩;rw[List.getElem?_take,if_pos]
      .simpa using hv
      .have:(i+1) * te.size<=(off+n) * te.size:=Nat.mul_le_mul_right _ ax;rw[Nat.add_mul,Nat.add_mul]at this;omega
     .cases aJ
    obtain⟨ax,aB⟩:=hi.move (Mv:=Mv) (w':=w.setRow b (cur.toList.take (off * te.size+n * te.size) ++ dN ++ cur.toList.drop (off * te.size+n * te.size+dN.length)).toArray) (m':=m) hm cW (by simp) rfl rfl rfl
     (fun k hk acb=>setRow_other w b k _ fun e'=>acb (by rw[Zv,e'])) (fun b hb=>.inr hb) (row:=.sl e te.size (els.take off ++ ((els.drop off).take n ++ news))) fun ev=>by
      rw[<- List.append_assoc,Gu];refine .sl Zv aK (setRow_heap w b cur _ e _ ja) ?_ (by simp;omega) dK (fun el aJ=>?_) tJ fun i j el c hi hj=>?_
      .simp only[List.size_toArray,List.length_append,List.length_take,List.length_drop,Array.length_toList];omega
      .rcases List.mem_append.1 aJ with h | h
       .exact hl el (List.mem_of_mem_take h)
       .exact hn.len el h
      .obtain⟨v,hv,bq⟩:=((hxr.append (by rw[eu,List.length_take,Nat.min_eq_left hle]) (fun el aJ=>hl el (List.mem_of_mem_take aJ)) fZ).more (l':=cur.toList.drop (off * te.size+n * te.size+dN.length))) i j el c hi hj;exact⟨v,by rw[<- Array.getElem?_toList];simpa using hv,bq.ev ev⟩
    refine⟨_,_,_,rfl,ax,.own (m:=m) (by simp[cq]) (.inr ⟨b,Zv,by rw[A3,aK],by rw[A3];omega⟩),aB⟩
   .have eu:((cur.toList.drop (off * te.size)).take (n * te.size)).length=n * te.size:=by rw[List.length_take,List.length_drop,Array.length_toList,bR];omega
    have hxr:Rel w X μ te.size ((cur.toList.drop (off * te.size)).take (n * te.size)) ((els.drop off).take n):=by
     intro i j el c aJ hc;rw[List.getElem?_take]at aJ;split at aJ
     .rename_i ax;rw[List.getElem?_drop]at aJ;obtain⟨v,hv,bq⟩:=hr (off+i) j el c aJ hc;have nd:el.length=te.size:=hl _ (List.mem_of_getElem? aJ)
      have hj:j < te.size:=by rw[<- nd];exact (List.getElem?_eq_some_iff.1 hc).1
      refine⟨v,?_,bq⟩;rw[List.getElem?_take,if_pos,List.getElem?_drop]
      .rw[<- Nat.add_assoc,<- Nat.add_mul];simpa using hv
      .have:(i+1) * te.size<=n * te.size:=Nat.mul_le_mul_right _ ax;rw[Nat.add_mul]at this;omega
     .cases aJ
    have bt:=run_append_grow (P:=P) w t ty e i0 te.zero ht gN ic ⟨b,off * te.size,none⟩ n (m.cap - off) ((cur.toList.drop (off * te.size)).take (n * te.size)) (by rw[eu,c6]) (fun j v hv=>by
     rw[addr_add,cell_of_row w b _ cur e (0,0) ja];rw[List.getElem?_take]at hv;split at hv
     .rw[List.getElem?_drop]at hv;simpa using hv
     .cases hv) ad news.length cap dN (by rw[eK,c6]) oB (by omega) (by omega) (by rw[ZQ];exact growslice_fits (by omega) hb)
    refine⟨[],?_⟩;rw[aK,bt];have dJ:=grownCap_ge w (n+news.length) (m.cap - off) e;have Zf:=grownCap_le_maxLen w (n+news.length) (m.cap - off) e h63;generalize grownCap w (n+news.length) (m.cap - off) e=c8 at *;generalize (cur.toList.drop (off * te.size)).take (n * te.size)=xs at *
    have hZ:bQ w (w.drew.alloc (.cells (xs.toArray ++ dN.toArray ++ Builtin.zeroCells te.zero.cells (c8 - (n+news.length))) e)):=by
     have h1:=bQ.alloc w.drew (.cells (xs.toArray ++ dN.toArray ++ Builtin.zeroCells te.zero.cells (c8 - (n+news.length))) e);exact⟨h1.size,h1.os,h1.tape,h1.output,h1.same⟩
    have kR:(xs.toArray ++ dN.toArray ++ Builtin.zeroCells te.zero.cells (c8 - (n+news.length))).size=c8 * te.size:=by
     simp only[Array.size_append,List.size_toArray,size_zeroCells,Ad,eu,eK,<- Nat.add_mul];congr 1;omega
    obtain⟨ax,aB⟩:=hi.move (Mv:=Mv) (w':=w.drew.alloc (.cells (xs.toArray ++ dN.toArray ++ Builtin.zeroCells te.zero.cells (c8 - (n+news.length))) e)) (m':=⟨some w.heap.size,te.size,c8⟩) hm cW hZ.size hZ.os hZ.tape hZ.output
     (fun k hk _=>hZ.same k hk) (fun b hb=>by simp at hb;omega) (row:=.sl e te.size ([] ++ ((els.drop off).take n ++ news))) fun ev=>by
      rw[List.nil_append];refine .sl rfl rfl (by simpa using heap_alloc_new w.drew (.cells (xs.toArray ++ dN.toArray ++ Builtin.zeroCells te.zero.cells (c8 - (n+news.length))) e)) kR (by rw[List.length_append,F4];omega) Zf (fun el aJ=>?_) hz fun i j el c hi hj=>?_
      .rcases List.mem_append.1 aJ with h | h
       .exact F3 el h
       .exact hn.len el h
      .have hrel:=((hxr.append (by rw[eu,F4]) F3 fZ).more (l':=(Builtin.zeroCells te.zero.cells (c8 - (n+news.length))).toList)) i j el c hi hj;obtain⟨v,hv,bq⟩:=hrel;refine⟨v,?_,bq.ev ev⟩;rw[<- Array.getElem?_toList];simpa using hv
    exact⟨_,_,_,rfl,ax,.own (m:=⟨some w.heap.size,te.size,c8⟩) (by simp[cq]) (.inr ⟨w.heap.size,rfl,by simp,by simpa using dJ⟩),aB⟩
def CU (T:Ty) (G:Yt) (Mv:Nat->Prop) (σ:St) (o:Oper):Option (Prop×(List (List D)->AV×St)):=match o.op,o.dst with
 | .call { callee:=.builtin .append,args,argTypes },some _=>match args.toList,argTypes.toList with
  | [x,y],[t,t']=>match T t with
   | some tt=>match tt.desc with
    | .slice e=>match T e,aT G σ.env x,aT G σ.env y with
     | some te,some (.own r off n),some v=>match σ.H r,ZX σ.H r v with
      | some (.sl ty sz els),some news=>some (t=t'/\Mv r/\ty=e/\sz=te.size/\off+n<=els.length/\(∀ el∈news,el.length=te.size)/\(∀ el∈news,∀ c∈el,D.one c=true)/\0 < te.size/\(dW te.zero).length=te.size/\n+news.length<=9223372036854775807/\(n+news.length) * te.bytes<=140737488355328,
        fun pre=>(.own r pre.length (n+news.length),⟨YT r σ.env,aF (cf r σ.H) r (.sl e te.size (pre ++ ((els.drop off).take n ++ news)))⟩))
      | _,_=>none
     | _,_,_=>none
    | _=>none
   | none=>none
  | _,_=>none
 | _,_=>none
def sC (P:Program) (T:Ty) (Mv X:Nat->Prop) (G:Yt) (N:Fr) (o:Oper) (σ:St) (next:St->Prop):Prop:=match CU T G Mv σ o with
 | some (c,f)=>c/\∀ pre:List (List D),next ⟨aw (f pre).2.env o.dst (f pre).1,(f pre).2.H⟩
 | none=>py P T Mv X G N o σ next
theorem Mq (hg:Good P T) (hi:In w X G μ N a σ) {o:Oper} {K:St->Prop} (hd:∀ d,o.dst=some d->d < N.n) (h:sC P T Mv X G N o σ K) {Q:Exit->Act->World->Prop} {next:Act->World->Prop}
  (hk:∀ w' ak a' af,K af->In w' X G ak N a' af->Ev Mv w μ w' ak->next a' w'):o.wpIn (wd N.ro) 0 P a w next Q:=by
 unfold sC at h;split at h
 .rename_i c f hw;obtain⟨hc,k⟩:=h;obtain⟨op,dst,type,pos,after,guard⟩:=o;unfold CU at hw;split at hw
  .rename_i args argTypes d e6 v7;simp only at e6 v7;subst e6 v7;refine x7 (fun c e=>by cases e) ?_;split at hw
   .rename_i x0 y0 t t' ha ht;have e1:args = #[x0,y0]:=Array.toList_inj.1 ha;have e2:argTypes = #[t,t']:=Array.toList_inj.1 ht;subst e1 e2;split at hw
    .rename_i tt YO;split at hw
     .rename_i e YQ;split at hw
      .rename_i te r off n v bJ h1 h2;split at hw
       .rename_i ty sz els news hH hn;simp only[Option.some.injEq,Prod.mk.injEq]at hw;obtain⟨rfl,rfl⟩:=hw;obtain⟨rfl,g1,rfl,rfl,g2,g3,g4,g5,g6,g7,g8⟩:=hc;obtain⟨pre,v',w',ak,hr,ax,Zt,aB⟩:=KJ (Mv:=Mv) (ty:=type) hg hi g1 YO YQ bJ hH g2 (hi.eval h1) (ue hi.aL (hi.eval h2) hn g3 g5 g4) g5 g6 (by unfold maxLen;omega) g8;unfold Oper.wp
        have hx:(execOp a.eval { op:=.call { callee:=.builtin .append,args:=#[x0,y0],argTypes:=#[t,t] },dst:=some d,type:=type,pos:=pos,after:=after,guard:=guard:Oper }).run P w = .ok (.value v') w':=by simp[execOp,resolve,invoke,builtin,hr]
        rw[hx];exact hk _ ak _ _ (k pre) (ax.put Zt hd) aB
       .cases hw
      .cases hw
     .cases hw
    .cases hw
   .cases hw
  .cases hw
 .exact Et hg hi hd h hk
def o8 (P:Program) (T:Ty) (Mv X:Nat->Prop) (G:Yt) (N:Fr) (ops:Array Oper) (K:St->Prop):List Oper->St->Prop
 | [],σ=>K σ
 | o :: rest,σ=>cZ N o/\match fc ops σ.env o with
  | some b=>if b=true then sC P T Mv X G N o σ (o8 P T Mv X G N ops K rest) else o8 P T Mv X G N ops K rest ⟨aw σ.env o.dst bX,σ.H⟩
  | none=>False
theorem V1 (hg:Good P T) {ops:Array Oper} {Q:Exit->St->Prop} {w0:World} {eX:Mu}:∀ (l:List Oper) (k:Nat) (w:World) (μ:Mu) (a:Act) (σ:St),(∀ j,l[j]? = ops[k+j]?)->o8 P T Mv X G N ops (fun af=>Q .normal af) l σ->In w X G μ N a σ->Ev Mv w0 eX w μ->
  wpOpsIn (wd N.ro) 0 P ops (After Mv X G N w0 eX Q) (List.range' k l.length) a w:=by
 intro l
 induction l with
 | nil=>intro k w μ a σ _ h hi aB;exact⟨μ,σ,h,hi,aB⟩
 | cons o l ih=>
  intro k w μ a σ hl h hi aB
  have h0:ops[k]? = some o:=by simpa using (hl 0).symm
  have fi:∀ j,l[j]? = ops[k+1+j]?:=fun j=>by have:=hl (j+1);simpa[Nat.add_assoc,Nat.add_comm 1 j]using this
  obtain⟨hd,h⟩:=h
  have dt:∀ d,o.dst=some d->d < N.n:=fun d e=>by unfold cZ at hd;rw[e]at hd;exact hd
  rw[List.length_cons,List.range'_succ];simp only[wpOpsIn,h0];split at h
  .rename_i b hb;rw[o9 hi hb];split at h
   .rename_i mY;subst mY;rw[if_pos rfl];exact (Mq hg hi dt h fun w' ak a' af k' ax aao=>ih (k+1) w' ak a' af fi k' ax (aB.trans aao))
   .rename_i sY;rw[if_neg (by simpa using sY)];exact⟨fun _ _=>trivial,ih (k+1) w μ _ _ fi h (hi.put (.d (.v _)) dt) aB⟩
  .exact h.elim
theorem J6 (hg:Good P T) {id:Nat} {ops:Array Oper} {Q:Exit->St->Prop} (h:o8 P T Mv X G N ops (fun af=>Q .normal af) ops.toList σ):AW P Mv X G N (.region id ops false) Q σ:=fun w μ a hi=>by
 refine wpIn_region ?_;have:=V1 hg ops.toList 0 w μ a σ (by simp) h hi (.refl _ w μ)
 rwa [<- List.range_eq_range',Array.length_toList]at this
theorem Kb (hg:Good P T) {id:Nat} {ops:Array Oper} {Q:Exit->St->Prop} (h:∀ K:St->Prop,(∀ τ:St,Q .normal τ->K τ)->o8 P T Mv X G N ops K ops.toList σ):AW P Mv X G N (.region id ops false) Q σ:=
 J6 hg (h _ fun _ h=>h)
def stepT (P:Program) (T:Ty) (Mv X:Nat->Prop) (G:Yt) (N:Fr) (ops:Array Oper) (o:Oper) (σ:St) (K:St->Prop):Prop:=cZ N o/\match fc ops σ.env o with
 | some b=>if b=true then sC P T Mv X G N o σ K else K ⟨aw σ.env o.dst bX,σ.H⟩
 | none=>False
theorem VZ {ops:Array Oper} {K:St->Prop} {o:Oper} {rest:List Oper} (h:∀ K':St->Prop,(∀ τ,o8 P T Mv X G N ops K rest τ->K' τ)->stepT P T Mv X G N ops o σ K'):o8 P T Mv X G N ops K (o :: rest) σ:=h _ fun _ h=>h
theorem V0 {ops:Array Oper} {K:St->Prop} (h:K σ):o8 P T Mv X G N ops K [] σ:=h
attribute [simp] CU sC stepT
end
end Go.Av
namespace Go.Proofs.YtdigkhaofjmgkaaGreatDoor
open Go.Av
theorem Rr:j1 .and .u64 1 4294967295=1:=by decide
theorem Rq:j1 .and .u64 0 4294967295=0:=by decide
theorem Rw (n:Nat) (h:n < 2^32):j1 .and .u64 (n:Int) 4294967295=n:=by
 have:=Wn n 4294967295 (by omega) (by decide)
 have e:n &&& 4294967295=n:=by
  have:=Nat.and_two_pow_sub_one_eq_mod n 32;simp only[Nat.reducePow,Nat.reduceSub]at this;rw[this];omega
 rw[e]at this;exact this
theorem RG:Int.fdiv 1 (2 ^ (min 32 IntKind.u64.bits))=0:=by decide
theorem RF:Int.fdiv 0 (2 ^ (min 32 IntKind.u64.bits))=0:=by decide
theorem RH (n:Nat) (h:n < 2^32):Int.fdiv (n:Int) (2 ^ (min 32 IntKind.u64.bits))=0:=by
 have e:(2:Int) ^ (min 32 IntKind.u64.bits)=4294967296:=by decide
 rw[e,Int.fdiv_eq_ediv_of_nonneg _ (by decide)];omega
theorem RL:IntKind.u64.wrap 0=0:=by decide
theorem BZ:IntKind.u64.wrap 1=1:=by decide
theorem Ho (n:Nat) (h:n < 2^32):IntKind.u64.wrap (n:Int)=n:=Jz n (by omega)
def dU (n:Int):D:=.v (.int .u64 n)
theorem RJ (G:Yt) (n:Nat) (h:n < 2^32):ao prog G 189 [dU 1,dU n] (.aR [dU 0,dU n]):=by
 have a2:=Rw n h;have s2:=RH n h;have w2:=Ho n h;simp only[dU];refine ao.aI (au _) func189 rfl rfl (rs:=[.tmp 4,.tmp 5]) results189 (by simp[ntmps189]) fun X=>?_;simp only[ntmps189,List.map];have fw:=(Aq @shI.eq_1 (Aq @shI.eq_2 (Aq @shI.eq_3 (Aq @Rr (Aq @Rq (Aq @a2 (Aq @RG (Aq @RF (Aq @s2 (Aq @RL (Aq @BZ @w2)))))))))));refine Ys fw [0,1] [] ?_;refine Ys fw [0,1,6] [] ?_;refine Ys fw [0,1,6,7] [] ?_;refine Ys fw [0,1,6,7,8] [] ?_;refine Ys fw [0,1,6,7,8,9] [] ?_;refine Ys fw [0,1,6,7,8,9,10] [] ?_;refine Ys fw [0,1,6,7,9,11] [] ?_;refine Ys fw [0,1,6,7,9,11,12] [] ?_;refine Ys fw [0,1,6,7,9,12,13] [] ?_;refine Ys fw [0,1,7,9,12,13] [] ?_;refine Ys fw [0,1,4] [] ?_;refine Ys fw [4,5] [] ?_;exact aY fw
theorem mul_one (G:Yt) (n:Nat) (h:n < 2^32):ao prog G 143 [dU 1,dU n] (.aR [dU 0,dU n]):=by
 have hm:=RJ G n h;simp only[dU]at hm ⊢;refine ao.aI (au _) func143 rfl rfl (rs:=[.tmp 4,.tmp 5]) results143 (by simp[ntmps143]) fun X=>?_;simp only[ntmps143,List.map];refine al [0,1] [] ?_;refine ae fun K1 Yw=>?_;refine ag rfl ?_;refine ar (Yw _ ?_);refine aW trivial hm [8,9] [] ?_;refine al [4,5] [] ?_;exact da
def ik (x:Int) (k n:Nat):List (List D):=List.replicate k [.v (.int .i64 x)] ++ List.replicate (n - k) [.v (.int .i64 0)]
theorem Il {x:Int} {k n:Nat} (h:k<=n):(ik x k n).length=n:=by simp[ik];omega
theorem UD (x:Int) (n:Nat):List.replicate n [D.v (.int .i64 0)]=ik x 0 n:=by simp[ik]
theorem UA (x:Int) (n:Nat):ik x n n=List.replicate n [.v (.int .i64 x)]:=by simp[ik]
theorem UC {x:Int} {n:Nat} (h:1<=n):js (ik x 0 n) [[.v (.int .i64 x)]] 0 n=ik x 1 n:=by
 have e:[[D.v (.int .i64 x)]].take n=[[.v (.int .i64 x)]]:=List.take_of_length_le (by simpa using h);simp[js,ik,e]
theorem Im {x:Int} {k n:Nat}:(ik x k n).take k=List.replicate k [.v (.int .i64 x)]:=by
 unfold ik;rw[List.take_append_of_le_length (by simp),List.take_of_length_le (by simp)]
theorem UB {x:Int} {k n:Nat} (h:k<=n):js (ik x k n) (List.replicate k [.v (.int .i64 x)]) k (n - k)=ik x (k+min (n - k) k) n:=by
 unfold js;rw[Im,List.take_replicate,List.length_replicate]
 have e:(ik x k n).drop (k+min (n - k) k)=List.replicate (n - (k+min (n - k) k)) [.v (.int .i64 0)]:=by
  unfold ik;rw[List.drop_append,List.drop_eq_nil_of_le (by simp),List.nil_append,List.length_replicate,List.drop_replicate];congr 1;omega
 rw[e];unfold ik;rw[List.replicate_append_replicate]
theorem UE (G:Yt) (x:Int) (n:Nat) (h1:1<=n) (h2:n<=2^20):MC prog G [] 88 [.d (.sl none [[.v (.int .i64 x)]]),.d (ab n)] (ah []) (.own 601 0 n) (ah [(601,.sl 3 1 (List.replicate n [.v (.int .i64 x)]))]):=by
 have hm:=mul_one G n (by omega);have w2:=Ho n (by omega);have hz:=UD x n;have ho:=UC (x:=x) h1
 have h0:¬ (n:Int) < 0:=by omega
 have hb:¬ (n:Int) > 9223372036854775807:=by omega
 have p3:[[D.v (.int .i64 x)]].take n=[[.v (.int .i64 x)]]:=List.take_of_length_le (by simpa using h1);simp only[dU,ab]at hm ⊢;refine MC.aI (au _) func88 rfl rfl (rs:=[.tmp 4]) results88 (by simp[ntmps88]) rfl fun X=>?_;simp only[ntmps88];have fw:=(Aq @BZ @w2);refine Ys fw [0,1] [] ?_;refine ae fun K1 Yw=>?_;have qf:=(Aq fw @h0);refine aC [0,1,10] [] ?_;refine ag (by simp) ?_;refine ar (Yw _ ?_);refine aW fw hm [0,5,6] [] ?_;refine ae fun K2 aa=>?_;have qf:=(Aq fw @hb);refine aC [0,6,26] [] ?_;refine ag (by simp<;>omega) ?_;refine ar (aa _ ?_);have qf:=(Aq fw (Aq @aad.eq_1 (Aq @dW.eq_1 (Aq @dW.eq_2 @hz))));refine aC [0,7] [30] ?_;have qf:=(Aq fw (Aq @Il (Aq @ho (Aq @p3 @h1))));refine aC [7,8] [30] ?_;refine ae fun K3 bf=>?_;refine cr (S:=Nat) (fun k=>1<=k/\k<=n) (fun k=>⟨YB [(7,.own 30 0 n),(8,int k)],ah [(30,.sl 3 1 (ik x k n))]⟩) (fun k=>n - k) 1 ?_ ⟨by omega,h1⟩ ?_
 .refine bz fw
 .rintro k ⟨Y2,jE⟩;refine ae fun K4 bZ=>?_;by_cases Yv:k < n
  .have hl:=Il (x:=x) jE;have Oi:=UB (x:=x) jE;have fQ:=Im (x:=x) (k:=k) (n:=n);have qf:=(Aq fw @Yv);refine aC [7,8,37] [30] ?_;refine Yx (by simp<;>omega) ?_;refine ar (bZ _ ?_);refine YF ?_
   have l4:¬ k=n:=by omega
   refine JX (au _) (by kernel_rfl) ([7]) (List.range 10) (by kernel_rfl) fun K' Yu=>?_;(repeat (refine VQ rfl fun K2 aa=>?_;simp[BZ,w2,hl,Oi,fQ,jE,l4];(repeat (refine⟨by omega,?_⟩));refine aa _ ?_;clear aa K2));refine VR (Yu _ ?_);clear Yu K';(try simp only[YC,bd]);refine bo.mk (k+min (n - k) k) ⟨by omega,by omega⟩ (by omega) ?_;refine bz fw
  .obtain rfl:k=n:=by omega
   refine Ys fw [7,8,37] [30] ?_;refine ag (by simp) ?_;refine bY (bf _ ?_);rw[UA];refine Ys fw [4] [30] ?_;refine AW.imp (aD.Za (r:=30) (r':=601) (by decide) (by simp)) ?_;refine AW.st (by simp[gY,gX,Go.Av.Za,abC];rfl) ?_;exact aY fw
def nP:List Int->Nat->AV
 | [],_=>.d (.sl none [])
 | _ :: T,m=>.own 20 m (T.length+1)
theorem EA (G:Yt) (p:Yy) (aS:YP p=none) (hi6:(aZ p).length<=6) (hP:bl (bk p)<=4096):ao prog G 38 [gk p] (.aR [dr (iC (aN p)),.v .nilIface]):=by
 have ht:=nO aS;have l5:=ht.pos;have hlen:=nB p;have hpp:0 < bl (bk p):=aaQ fun x hx=>(jK (fh aS) hx).m2;have om:∀ O,jT (aN p) O []->O=iC (aN p):=fun O h=>zi (se h) (mO ht);have bw:=yG ht
 have wK:∀ s (h:s < (aN p).length),(aN p)[s].length<=64:=fun s h=>by
  rw[xn h,uu];have:=Nat.pow_le_pow_right (n:=2) (by decide) hi6;omega
 have lZ:=xt (aN p)
 have iX:∀ s (h:s < (aN p).length),(ew (aN p))[s]? = some [dr (aN p)[s]]:=fun s h=>by simp[ew,h]
 have wJ:=fun n (h1:1<=n) (h2:n<=2^20)=>UE G (-1) n h1 h2
 have hcast:((aN p).length:Int)=bl (bk p):=by rw[hlen];omega
 simp only[gk,jt,cMa,YW,ch,aaB,dr,ab]at iX wJ ⊢;rw[<- hcast]
 have rj:(aN p).length<=4096:=by omega
 generalize iC (aN p)=F at *;generalize ew (aN p)=NX at *;generalize aN p=TN at *;clear hlen hcast;generalize ((aZ p).map fun n=>[D.v (.int .i64 n)])=IN at *;generalize (bk p).map eo=PT at *;generalize p.names.map YE=NN at *;generalize p.aq.map bD=RR at *;obtain⟨N,hN⟩:∃ N:Nat,TN.length=N:=⟨_,rfl⟩;rw[hN]at lZ rj l5 bw ⊢;have PQ:=wJ N (by omega) (by omega)
 have Py:0 < N:=by omega
 refine ao.aI (au _) func38 rfl rfl (rs:=[.tmp 2,.tmp 3]) results38 (by simp[ntmps38]) fun X=>?_;simp only[ntmps38,List.map];have fw:=@ab.eq_1;refine Ys fw [0] [] ?_;refine ae fun K1 Yw=>?_;refine Ys fw [0,10] [] ?_;refine ag rfl ?_;refine ar (Yw _ ?_);refine rg [0,4] [601] (fun _ _=>trivial) fun K' Yu=>?_;(repeat (refine aP fun K2 aa=>?_;simp[ab];(repeat (refine⟨by omega,?_⟩));refine aa _ ?_;clear aa K2));refine aP fun K2 aa=>?_;simp[ab];refine YR.pA 12 (by first | rfl | (simp[ab];rfl)) trivial ?_;simp[ab];refine YR.mc (PQ) ?_ ?_ ?_ ?_ ?_<;>simp[ab];refine aa _ ?_;clear aa K2;(repeat (refine aP fun K2 aa=>?_;simp[ab];(repeat (refine⟨by omega,?_⟩));refine aa _ ?_;clear aa K2));refine YM (Yu _ (AW.st (by simp[ab];rfl) ?_));clear Yu K';have qf:=(Aq fw @Py);refine aC [0,4] [601] ?_;refine ae fun K2 aa=>?_;refine Ys fw [0,4,5] [601,20] ?_;refine cr (S:=List Int×List Int×List (List D)) (fun s=>jT TN s.1 s.2.1) (fun s=>⟨YB [(0,.d (.ip [.sl none NN,.sl none RR,.v (.int .i64 N),.v (.int .i64 (cY p)),.sl none NX,.sl none PT,.sl none IN])),(4,.own 601 0 N),(5,nP s.2.1 s.2.2.length)],ah [(601,.sl 3 1 (s.1.map fun n=>[.v (.int .i64 n)])),(20,.sl 3 1 (s.2.2 ++ s.2.1.map fun n=>[.v (.int .i64 n)]))]⟩) (fun s=>2 * jH s.1+s.2.1.length) ((List.replicate N (-1)).set 0 0,[0],[]) ?_ bw ?_
 .refine aD.dw (fun _ _=>trivial) (by simp[ab,List.map_set,List.map_replicate,nP]) (by simp[ab,List.map_set,List.map_replicate,nP])
 .rintro⟨O,T,pr⟩ hb;dsimp only at hb ⊢;refine ae fun K3 bf=>?_
  cases T with
  | nil=>
   simp only[nP];refine Ys fw [0,4,5,23] [601,20] ?_;refine ag (by simp) ?_;refine bY (aa _ ?_);obtain rfl:=om O hb
   have pE:(O.map fun n=>[D.v (.int .i64 n)]).length=N:=by rw[List.length_map,hb.len,hN]
   refine AW.imp (aD.freeze 601 trivial) ?_;refine AW.st (by simp[ab,pE,List.take_of_length_le];rfl) ?_;refine Ys fw [2,3] [20] ?_;exact aY fw
  | cons t T=>
   obtain⟨h0,h1,h2⟩:=hb.mem t (by simp);obtain⟨s,rfl⟩:=Int.eq_ofNat_of_zero_le h0
   have wN:s < N:=by omega
   have rm:s < TN.length:=by omega
   have ck:(T.length:Int)+1 > 0:=by omega
   simp only[nP];have qf:=(Aq fw @ck);refine aC [0,4,5,23] [601,20] ?_;refine Yx (by simp<;>omega) ?_;refine ar (bf _ ?_);refine ae fun K4 bZ=>?_;refine YF ?_;have lu:=iX s rm
   have iY:s < NX.length:=by omega
   have hXs:NX[s]=[.sl none (TN[s].map fun n=>[.v (.int .i64 n)])]:=by
    rw[List.getElem?_eq_getElem iY]at lu;exact Option.some.inj lu
   have Zj:=ht.mem _ (List.getElem_mem rm);have NH:=wK s rm;have YN:∃ R,TN[s]=R:=⟨_,rfl⟩;obtain⟨R,hR⟩:=YN
   have hrl:∀ k (h:k < R.length),(R.map fun n=>[D.v (.int .i64 n)])[k]? = some [.v (.int .i64 R[k])]:=fun k h=>by simp[h]
   have wc:(pr ++ List.map (fun n=>[D.v (.int .i64 n)]) ((s:Int) :: T))[pr.length]? = some [.v (.int .i64 s)]:=by simp
   have FO:(pr ++ List.map (fun n=>[D.v (.int .i64 n)]) ((s:Int) :: T)).length=pr.length+(T.length+1):=by simp
   rw[hR]at hXs Zj NH
   have b7:(R.map fun n=>[D.v (.int .i64 n)]).length=R.length:=by simp
   have Nw:2 * jH O+T.length<=2 * jH O+T.length:=Nat.le_refl _;generalize hM:2 * jH O+T.length=M at Nw
   have W8:2 * jH O+((s:Int) :: T).length=M+1:=by simp;omega
   generalize zQ:pr ++ List.map (fun n=>[D.v (.int .i64 n)]) ((s:Int) :: T)=Dp at wc FO ⊢;obtain⟨wh,wc⟩:=List.getElem?_eq_some_iff.1 wc;have qf:=(Aq fw (Aq @wh (Aq @wc @FO)));refine aC [0,4,5,6] [601,20] ?_;have qf:=(Aq fw (Aq @iY @hXs));refine aC [0,4,5,6,35,36,37] [601,20] ?_;subst zQ;refine cr (S:=Nat×List Int×List Int×List (List D)) (fun q=>q.1<=R.length/\jT TN q.2.1 ((s:Int) :: q.2.2.1)/\(∀ t∈R.take q.1,jJ q.2.1 s t)/\2 * jH q.2.1+q.2.2.1.length<=M) (fun q=>⟨YB [(0,.d (.ip [.sl none NN,.sl none RR,.v (.int .i64 N),.v (.int .i64 (cY p)),.sl none NX,.sl none PT,.sl none IN])),(4,.own 601 0 N),(5,.own 20 q.2.2.2.length (q.2.2.1.length+1)),(6,int s),(35,.d (.sl none (R.map fun n=>[.v (.int .i64 n)]))),(36,int R.length),(37,int q.1)],ah [(601,.sl 3 1 (q.2.1.map fun n=>[.v (.int .i64 n)])),(20,.sl 3 1 (q.2.2.2 ++ [.v (.int .i64 s)] :: q.2.2.1.map fun n=>[.v (.int .i64 n)]))]⟩) (fun q=>R.length - q.1) (0,O,T,pr) ?_ ⟨by simp,hb,by simp,by dsimp only;omega⟩ ?_
   .refine bz fw
   .rintro⟨k,O2,T2,uo⟩ ⟨hk,Y4,bp,hms⟩;dsimp only at hk Y4 bp hms ⊢;have Ar:=Y4.zj;simp only[List.length_cons]at Ar
    have Xh:T2.length+1<=4096:=by omega
    have Xc:(O2.map fun n=>[D.v (.int .i64 n)]).length=N:=by rw[List.length_map,Y4.len,hN]
    refine Ys fw [0,4,5,6,35,36,37,38] [601,20] ?_;refine ae fun K5 b4=>?_;refine eM (b:=k < R.length) (by simp[D.le,D.le.go,aQ,ab]) (fun hc=>?_) (fun hc=>?_)
    .refine ar (b4 _ ?_);refine ae fun K6 dB=>?_;refine YF ?_;obtain⟨v0,v1⟩:=Zj R[k] (List.getElem_mem hc);obtain⟨u,hu⟩:=Int.eq_ofNat_of_zero_le v0
     have wV:u < N:=by omega
     have p6:u < O2.length:=by rw[Y4.len,hN];exact wV
     have Gl:s < O2.length:=by rw[Y4.len,hN];exact wN
     have ax:(u:Int)∈TN[s]:=by rw[hR,<- hu];exact List.getElem_mem hc
     have fQ:R.take (k+1)=R.take k ++ [(u:Int)]:=by rw[List.take_succ_eq_append_getElem hc,hu]
     have c6:=(Y4.mem (s:Int) (by simp)).2.2;simp only[Int.toNat_natCast]at c6;have nu:=Y4.hi s rm;have P2:=Y4.top _ rfl u (by omega);simp only[Int.toNat_natCast]at P2
     have abu:0<=((O2.countP fun x=>decide (x < 0):Nat):Int):=by omega
     have qf:=(Aq fw (Aq @hc @hu));refine aC [0,4,5,6,8,35,36,37] [601,20] ?_;by_cases aar:O2.getD u 0 < 0
     .have Gh:=DJ Y4 rm (by omega) ax aar;have hng:=B2 (x:=O2.getD s 0+1) p6 aar (by omega)
      have Bb:u≠s:=fun e=>by subst e;omega
      have wD:∀ t∈R.take (k+1),jJ (O2.set u (O2.getD s 0+1)) s t:=fun t h=>by
       rw[fQ]at h
       rcases List.mem_append.1 h with h | h
       .exact Ce (bp t h) c6 aar
       .obtain rfl:=List.mem_singleton.1 h;unfold jJ;rw[Int.toNat_natCast,gK p6,Zr Bb];omega
      rw[cD p6]at aar;rw[cD Gl]at Gh hng wD c6 nu;generalize A0:O2[u]=ov at aar;generalize iJ:O2[s]=sv at *
      have FH:List.take (T2.length+1) (List.drop uo.length (uo ++ [D.v (.int .i64 s)] :: T2.map fun n=>[D.v (.int .i64 n)]))=[D.v (.int .i64 s)] :: T2.map fun n=>[D.v (.int .i64 n)]:=by
       rw[List.drop_left,List.take_of_length_le (by simp)]
      have qf:=(Aq fw (Aq @p6 (Aq @wV (Aq @A0 @aar))));refine aC [0,4,5,6,8,35,36,37,45] [601,20] ?_;refine Yx (by simp<;>omega) ?_;have qf:=(Aq fw (Aq @p6 (Aq @Gl (Aq @wV (Aq @wN @iJ)))));refine aC [0,4,5,6,8,35,36,37] [601,20] ?_;refine Kb (au _) fun K' Yu=>?_;(repeat (refine VZ fun K2 aa=>?_;simp[ab,FH];(repeat (refine⟨by omega,?_⟩));(first | refine aa _ ?_ | (intro pre;refine aa _ ?_));clear aa K2));refine V0 (Yu _ ?_);clear Yu K';refine dB _ (AW.norm [0,4,5,6,35,36,37] [601,20] (fun _ _=>trivial) (AW.st (by simp[ab,FH];rfl) ?_));refine b8 fw ?_;(try simp only[YC,bd]);refine bo.mk (k+1,O2.set u (sv+1),T2 ++ [(u:Int)],pre) ⟨by dsimp only;omega,Gh,wD,by dsimp only;rw[List.length_append];simp only[List.length_cons,List.length_nil];omega⟩ (by dsimp only;omega) ?_;refine aD.dw (fun _ _=>trivial) (by simp[ab,List.map_set,List.take_of_length_le]) (by simp[ab,List.map_set,List.take_of_length_le])
     .have wD:∀ t∈R.take (k+1),jJ O2 s t:=fun t h=>by
       rw[fQ]at h
       rcases List.mem_append.1 h with h | h
       .exact bp t h
       .obtain rfl:=List.mem_singleton.1 h;unfold jJ;rw[Int.toNat_natCast];omega
      rw[cD p6]at aar;generalize A0:O2[u]=ov at aar;have qf:=(Aq fw (Aq @p6 (Aq @wV (Aq @A0 @aar))));refine aC [0,4,5,6,8,35,36,37,45] [601,20] ?_;refine ag (by simp<;>omega) ?_;refine ar (dB _ ?_);refine b8 fw ?_;(try simp only[YC,bd]);refine bo.mk (k+1,O2,T2,uo) ⟨by dsimp only;omega,Y4,wD,hms⟩ (by dsimp only;omega) ?_;refine bz fw
    .obtain rfl:k=R.length:=by omega
     rw[List.take_of_length_le (Nat.le_refl _)]at bp;have Ge:=yF Y4 rm (by rw[hR];exact bp)
     cases T2 with
     | nil=>
      refine bY (bZ _ ?_);refine b8 fw ?_;(try simp only[YC,bd]);refine bo.mk (O2,[],uo ++ [[D.v (.int .i64 s)]]) Ge (by dsimp only;omega) ?_;refine aD.dw (fun _ _=>trivial) (by simp[ab,nP]) (by simp[ab,nP])
     | cons u T3=>
      have aG:¬ (1:Int)=(T3.length:Int)+1+1:=by omega
      refine bY (bZ _ ?_);have qf:=(Aq fw @aG);refine xH ?_;(try simp only[YC,bd]);refine bo.mk (O2,u :: T3,uo ++ [[D.v (.int .i64 s)]]) Ge (by dsimp only;omega) ?_;refine aD.dw (fun _ _=>trivial) (by simp[ab,nP]) (by simp[ab,nP])
structure pd (C:List AV) (n kk N:Nat) (L:List Bool):Prop where
 len:C.length=n
 lt:kk < n
 at':∀ h:kk < C.length,C[kk] = .d (.sl none (L.map fun b=>[.v (.bool b)]))
 tr:∀ o f:Nat->Nat->Nat->AV,o 73 0 N = .own 73 0 N->C.map (AV.tr o f)=C
 kill:∀ r,r≠73->C.map (AV.kill r)=C
theorem Ug (G:Yt) {n kk N:Nat} {C:List AV} {L:List Bool} (hC:pd C n kk N L) (r:List (List D)) (hn:n<=2^20) (x:Nat) (hx:x < L.length):MC prog G [8,9,46,73] 89 [.d (.v (.int .i64 x)),.ref 8 0 0,.ref 9 0 0] (ah [(8,.box 117 [.own 46 0 n]),(9,.box 3 [.d (.v (.int .i64 ((kk:Int)+1)))]),(46,.box 55 C),(73,.sl 4 1 r)]) (.d (.v (.bool L[x]))) (ah [(8,.box 117 [.own 46 0 n]),(9,.box 3 [.d (.v (.int .i64 ((kk:Int)+1)))]),(46,.box 55 C),(73,.sl 4 1 r)]):=by
 have hl:=hC.len;have Yv:=hC.lt
 have bU:kk < C.length:=by omega
 have ha:=hC.at' bU;have eD:=hC.tr;generalize hb:L[x]=b;refine MC.aI (au _) func89 rfl rfl (rs:=[.tmp 4]) results89 (by simp[ntmps89]) rfl fun X=>?_;simp only[ntmps89];have fw:=@eD;refine Ys fw [0,1,2] [8,9,46,73] ?_;have qf:=(Aq fw (Aq @hl (Aq @Yv (Aq @bU (Aq @ha (Aq @hx @hb))))));refine aC [4] [8,9,46,73] ?_;exact aY (Aq fw @eD)
theorem Uh (G:Yt) {n kk N:Nat} {C:List AV} {L:List Bool} (hC:pd C n kk N L) (hD:∀ o f:Nat->Nat->Nat->AV,C.map (AV.tr o f)=C) (hn:n<=2^20) (x:Nat) (hx:x < L.length):MC prog G [8,14,46] 91 [.d (.v (.int .i64 x)),.ref 8 0 0,.ref 14 0 0] (ah [(8,.box 117 [.own 46 0 n]),(14,.box 3 [.d (.v (.int .i64 ((kk:Int)+1)))]),(46,.box 55 C)]) (.d (.v (.bool L[x]))) (ah [(8,.box 117 [.own 46 0 n]),(14,.box 3 [.d (.v (.int .i64 ((kk:Int)+1)))]),(46,.box 55 C)]):=by
 have hl:=hC.len;have Yv:=hC.lt
 have bU:kk < C.length:=by omega
 have ha:=hC.at' bU;have eD:=hD;generalize hb:L[x]=b;refine MC.aI (au _) func91 rfl rfl (rs:=[.tmp 4]) results91 (by simp[ntmps91]) rfl fun X=>?_;simp only[ntmps91];have fw:=@eD;refine Ys fw [0,1,2] [8,14,46] ?_;have qf:=(Aq fw (Aq @hl (Aq @Yv (Aq @bU (Aq @ha (Aq @hx @hb))))));refine aC [4] [8,14,46] ?_;exact aY (Aq fw @eD)
theorem Qv (G:Yt) {n kk N:Nat} {C:List AV} {L:List Bool} (hC:pd C n kk N L) (r:List (List D)) (hn:n<=2^20) (xs:List Int) (hx:∀ x∈xs,0<=x/\x < L.length) (hl:xs.length < 2^40):MC prog G [8,9,46,73] 90 [.d (.sl none (xs.map fun n=>[.v (.int .i64 n)])),.fn (.func 89) [.ref 8 0 0,.ref 9 0 0]] (ah [(8,.box 117 [.own 46 0 n]),(9,.box 3 [.d (.v (.int .i64 ((kk:Int)+1)))]),(46,.box 55 C),(73,.sl 4 1 r)]) (.d (.v (.int .i64 (idx (fun x:Int=>L.getD x.toNat false) xs)))) (ah [(8,.box 117 [.own 46 0 n]),(9,.box 3 [.d (.v (.int .i64 ((kk:Int)+1)))]),(46,.box 55 C),(73,.sl 4 1 r)]):=by
 have hp:=fun (x:Int) (h:x∈xs)=>(show MC prog G [8,9,46,73] 89 [.d (.v (.int .i64 x)),.ref 8 0 0,.ref 9 0 0] (ah [(8,.box 117 [.own 46 0 n]),(9,.box 3 [.d (.v (.int .i64 ((kk:Int)+1)))]),(46,.box 55 C),(73,.sl 4 1 r)]) (.d (.v (.bool (L.getD x.toNat false)))) (ah [(8,.box 117 [.own 46 0 n]),(9,.box 3 [.d (.v (.int .i64 ((kk:Int)+1)))]),(46,.box 55 C),(73,.sl 4 1 r)]) by
  obtain⟨h0,h1⟩:=hx x h;obtain⟨u,rfl⟩:=Int.eq_ofNat_of_zero_le h0;rw[Int.toNat_natCast,cD (by omega)]
  exact Ug G hC r hn u (by omega))
 have eD:=hC.tr;refine MC.aI (au _) func90 rfl rfl (rs:=[.tmp 4]) results90 (by simp[ntmps90]) rfl fun X=>?_;simp only[ntmps90];have fw:=@eD;refine Ys fw [0,1] [8,9,46,73] ?_;refine ae fun K1 Yw=>?_;refine Ys fw [0,1,7,8] [8,9,46,73] ?_;refine cr (S:=Nat) (fun n=>n<=xs.length/\∀ i (hi:i < xs.length),i < n->(L.getD xs[i].toNat false)=false) (fun n_1=>⟨YB [(0,.d (.sl none (xs.map fun n=>[.v (.int .i64 n)]))),(1,.fn (.func 89) [.ref 8 0 0,.ref 9 0 0]),(7,int xs.length),(8,int n_1)],ah [(8,.box 117 [.own 46 0 n]),(9,.box 3 [.d (.v (.int .i64 ((kk:Int)+1)))]),(46,.box 55 C),(73,.sl 4 1 r)]⟩) (fun n=>xs.length - n) 0 ?_ (by simp) ?_
 .refine bz (Aq fw @eD)
 .rintro j ⟨hj,hpn⟩;refine Ys fw [0,1,7,8,9] [8,9,46,73] ?_;refine ae fun K2 aa=>?_;refine eM (b:=j < xs.length) (by simp[D.le,D.le.go,aQ,eD]) (fun hc=>?_) (fun hc=>?_)
  .refine ar (aa _ ?_);refine ae fun K3 bf=>?_;refine YF ?_;have eC:=hp _ (List.getElem_mem hc);have hit:=fun Zg=>oI (p:=fun x:Int=>L.getD x.toNat false) hc Zg fun i hi=>hpn i (by omega) hi;generalize hbv:L.getD xs[j].toNat false=bv at eC hit;refine Ys fw [0,1,5,7,8] [8,9,46,73] ?_;have qf:=(Aq fw @hc);refine aaS eC [0,1,5,7,8,16] [8,9,46,73] ?_
   cases bv with
   | true=>
    refine Yx rfl ?_;rw[hit rfl];refine Ys fw [4] [8,9,46,73] ?_;exact aY (Aq fw @eD)
   | false=>
    refine ag rfl ?_;refine ar (bf _ ?_);refine b8 fw ?_;(try simp only[YC,bd]);refine bo.mk (j+1) ⟨by omega,fun i hi ax=>?_⟩ (by omega) ?_
    .by_cases h:i=j
     .subst h;exact hbv
     .exact hpn i hi (by omega)
    refine bz (Aq fw @eD)
  .refine bY (Yw _ ?_);have AM:=oJ (p:=fun x:Int=>L.getD x.toNat false) (l:=xs) fun i hi=>hpn i hi (by omega);rw[AM];refine Ys fw [4] [8,9,46,73] ?_;exact aY (Aq fw @eD)
theorem LJ (G:Yt) {n kk N:Nat} {C:List AV} {L:List Bool} (hC:pd C n kk N L) (r:List (List D)) (hn:n<=2^20) (xs:List Int) (hx:∀ x∈xs,0<=x/\x < L.length) (hl:xs.length < 2^40):MC prog G [8,9,46,73] 78 [.d (.sl none (xs.map fun n=>[.v (.int .i64 n)])),.fn (.func 89) [.ref 8 0 0,.ref 9 0 0]] (ah [(8,.box 117 [.own 46 0 n]),(9,.box 3 [.d (.v (.int .i64 ((kk:Int)+1)))]),(46,.box 55 C),(73,.sl 4 1 r)]) (.d (.v (.bool (qH xs L)))) (ah [(8,.box 117 [.own 46 0 n]),(9,.box 3 [.d (.v (.int .i64 ((kk:Int)+1)))]),(46,.box 55 C),(73,.sl 4 1 r)]):=by
 have hi:=Qv G hC r hn xs hx hl;have eD:=hC.tr;have he:decide (0<=idx (fun x:Int=>L.getD x.toNat false) xs)=qH xs L:=acE _ _;rw[<- he];generalize idx (fun x:Int=>L.getD x.toNat false) xs=ix at hi ⊢;generalize (xs.map fun n=>[D.v (.int .i64 n)])=XS at *;refine MC.aI (au _) func78 rfl rfl (rs:=[.tmp 4]) results78 (by simp[ntmps78]) rfl fun X=>?_;simp only[ntmps78];have fw:=@eD;refine Ys fw [0,1] [8,9,46,73] ?_;refine bh fw hi [4] [8,9,46,73] ?_;exact aY (Aq fw @eD)
theorem Qw (G:Yt) {n kk N:Nat} {C:List AV} {L:List Bool} (hC:pd C n kk N L) (hD:∀ o f:Nat->Nat->Nat->AV,C.map (AV.tr o f)=C) (hn:n<=2^20) (xs:List Int) (hx:∀ x∈xs,0<=x/\x < L.length) (hl:xs.length < 2^40):MC prog G [8,14,46] 90 [.d (.sl none (xs.map fun n=>[.v (.int .i64 n)])),.fn (.func 91) [.ref 8 0 0,.ref 14 0 0]] (ah [(8,.box 117 [.own 46 0 n]),(14,.box 3 [.d (.v (.int .i64 ((kk:Int)+1)))]),(46,.box 55 C)]) (.d (.v (.int .i64 (idx (fun x:Int=>L.getD x.toNat false) xs)))) (ah [(8,.box 117 [.own 46 0 n]),(14,.box 3 [.d (.v (.int .i64 ((kk:Int)+1)))]),(46,.box 55 C)]):=by
 have hp:=fun (x:Int) (h:x∈xs)=>(show MC prog G [8,14,46] 91 [.d (.v (.int .i64 x)),.ref 8 0 0,.ref 14 0 0] (ah [(8,.box 117 [.own 46 0 n]),(14,.box 3 [.d (.v (.int .i64 ((kk:Int)+1)))]),(46,.box 55 C)]) (.d (.v (.bool (L.getD x.toNat false)))) (ah [(8,.box 117 [.own 46 0 n]),(14,.box 3 [.d (.v (.int .i64 ((kk:Int)+1)))]),(46,.box 55 C)]) by
  obtain⟨h0,h1⟩:=hx x h;obtain⟨u,rfl⟩:=Int.eq_ofNat_of_zero_le h0;rw[Int.toNat_natCast,cD (by omega)]
  exact Uh G hC hD hn u (by omega))
 have eD:=hD;refine MC.aI (au _) func90 rfl rfl (rs:=[.tmp 4]) results90 (by simp[ntmps90]) rfl fun X=>?_;simp only[ntmps90];have fw:=@eD;refine Ys fw [0,1] [8,14,46] ?_;refine ae fun K1 Yw=>?_;refine Ys fw [0,1,7,8] [8,14,46] ?_;refine cr (S:=Nat) (fun n=>n<=xs.length/\∀ i (hi:i < xs.length),i < n->(L.getD xs[i].toNat false)=false) (fun n_1=>⟨YB [(0,.d (.sl none (xs.map fun n=>[.v (.int .i64 n)]))),(1,.fn (.func 91) [.ref 8 0 0,.ref 14 0 0]),(7,int xs.length),(8,int n_1)],ah [(8,.box 117 [.own 46 0 n]),(14,.box 3 [.d (.v (.int .i64 ((kk:Int)+1)))]),(46,.box 55 C)]⟩) (fun n=>xs.length - n) 0 ?_ (by simp) ?_
 .refine bz (Aq fw @eD)
 .rintro j ⟨hj,hpn⟩;refine Ys fw [0,1,7,8,9] [8,14,46] ?_;refine ae fun K2 aa=>?_;refine eM (b:=j < xs.length) (by simp[D.le,D.le.go,aQ,eD]) (fun hc=>?_) (fun hc=>?_)
  .refine ar (aa _ ?_);refine ae fun K3 bf=>?_;refine YF ?_;have eC:=hp _ (List.getElem_mem hc);have hit:=fun Zg=>oI (p:=fun x:Int=>L.getD x.toNat false) hc Zg fun i hi=>hpn i (by omega) hi;generalize hbv:L.getD xs[j].toNat false=bv at eC hit;refine Ys fw [0,1,5,7,8] [8,14,46] ?_;have qf:=(Aq fw @hc);refine aaS eC [0,1,5,7,8,16] [8,14,46] ?_
   cases bv with
   | true=>
    refine Yx rfl ?_;rw[hit rfl];refine Ys fw [4] [8,14,46] ?_;exact aY (Aq fw @eD)
   | false=>
    refine ag rfl ?_;refine ar (bf _ ?_);refine b8 fw ?_;(try simp only[YC,bd]);refine bo.mk (j+1) ⟨by omega,fun i hi ax=>?_⟩ (by omega) ?_
    .by_cases h:i=j
     .subst h;exact hbv
     .exact hpn i hi (by omega)
    refine bz (Aq fw @eD)
  .refine bY (Yw _ ?_);have AM:=oJ (p:=fun x:Int=>L.getD x.toNat false) (l:=xs) fun i hi=>hpn i hi (by omega);rw[AM];refine Ys fw [4] [8,14,46] ?_;exact aY (Aq fw @eD)
theorem EF:iC (aN fK)=[0,1]:=by
 have ht:=nO acw;refine zi (mO ht) ?_;rw[acY];refine⟨rfl,rfl,fun t ht e=>?_,fun s hs=>?_,fun s hs h0 t Zj=>?_,fun t ht h0=>?_⟩
 .match t,ht with
  | 0,_=>rfl
  | 1,_=>exact absurd e (by decide)
 .match s,hs with
  | 0,_=>decide
  | 1,_=>decide
 .match s,hs with
  | 0,_=>
   have:t=0\/t=1:=by simpa using Zj
   rcases this with rfl | rfl<;>decide
  | 1,_=>
   have:t=1:=by simpa using Zj
   subst this;decide
 .match t,ht with
  | 0,_=>exact absurd h0 (by decide)
  | 1,_=>exact⟨0,by decide,by decide,by decide⟩
def jx (L:List Bool) (s:Nat):List Bool:=L.take s ++ List.replicate (L.length - s) false
theorem qU {L:List Bool} {s:Nat} (h:s<=L.length):(jx L s).length=L.length:=by simp[jx];omega
theorem Mz (L:List Bool):jx L 0=List.replicate L.length false:=by simp[jx]
theorem Mx (L:List Bool):jx L L.length=L:=by simp[jx]
theorem My {L:List Bool} {s:Nat} (h:s < L.length):(jx L s).set s L[s]=jx L (s+1):=by
 refine zh (d:=false) (by rw[List.length_set,qU (by omega),qU (by omega)]) fun i hi=>?_;rw[List.length_set,qU (by omega)]at hi
 have at':∀ k,k<=L.length->(jx L k).getD i false=if i < k then L[i] else false:=fun k hk=>by
  rw[cD (by rw[qU hk];exact hi)];unfold jx;by_cases h:i < k
  .rw[List.getElem_append_left (by rw[List.length_take];omega),if_pos h];simp
  .rw[List.getElem_append_right (by rw[List.length_take];omega),if_neg h];simp
 by_cases e:s=i
 .subst e;rw[gK (by rw[qU (by omega)];exact h),at' _ (by omega),if_pos (by omega)]
 .rw[Zr e,at' _ (by omega),at' _ (by omega)];by_cases h2:i < s
  .rw[if_pos h2,if_pos (by omega)]
  .rw[if_neg h2,if_neg (by omega)]
def fo (TN:List (List Int)) (z k:Nat):List AV:=(List.range k).map fun i=>.d (.sl none ((eh TN z i).map fun b=>[.v (.bool b)]))
theorem Zd (TN:List (List Int)) (z k:Nat):(fo TN z k).length=k:=by simp[fo]
theorem cH (TN:List (List Int)) (z k:Nat) (o f:Nat->Nat->Nat->AV):(fo TN z k).map (AV.tr o f)=fo TN z k:=by
 unfold fo;rw[List.map_map];rfl
theorem Zc (TN:List (List Int)) (z k r:Nat):(fo TN z k).map (AV.kill r)=fo TN z k:=by
 unfold fo;rw[List.map_map];rfl
theorem Lg (TN:List (List Int)) (z k:Nat):fo TN z (k+1)=fo TN z k ++ [.d (.sl none ((eh TN z k).map fun b=>[.v (.bool b)]))]:=by
 unfold fo;rw[List.range_succ,List.map_append];rfl
theorem DQ {TN:List (List Int)} {z k i:Nat} (h:i < k):∀ h2:i < (fo TN z k).length,(fo TN z k)[i] = .d (.sl none ((eh TN z i).map fun b=>[.v (.bool b)])):=fun h2=>by simp[fo]
def ga:AV:=.d (.sl (some false) [])
theorem cK (o f:Nat->Nat->Nat->AV):AV.tr o f ga=ga:=rfl
theorem Zu (r:Nat):AV.kill r ga=ga:=rfl
theorem RZ (m:Nat) (o f:Nat->Nat->Nat->AV):(List.replicate m ga).map (AV.tr o f)=List.replicate m ga:=by rw[List.map_replicate];rfl
theorem RY (m r:Nat):(List.replicate m ga).map (AV.kill r)=List.replicate m ga:=by rw[List.map_replicate];rfl
theorem Sy {TN:List (List Int)} {z kk m N:Nat}:pd (fo TN z (kk+1) ++ .own 73 0 N :: List.replicate m ga) (kk+1+1+m) kk N (eh TN z kk):=by
 refine⟨by simp[Zd];omega,by omega,fun h=>?_,fun o f ho=>?_,fun r hr=>?_⟩
 .rw[List.getElem_append_left (by rw[Zd];omega)];exact DQ (by omega) _
 .rw[List.map_append,List.map_cons,cH,RZ];show _ ++ o 73 0 N :: _=_;rw[ho]
 .rw[List.map_append,List.map_cons,Zc,RY];show _ ++ (if 73=r then AV.dead else .own 73 0 N) :: _=_;rw[if_neg (fun e=>hr e.symm)]
theorem Sz {TN:List (List Int)} {z d kk N:Nat} (h:kk < d+1):pd (fo TN z (d+1)) (d+1) kk N (eh TN z kk):=
 ⟨Zd _ _ _,h,fun h2=>DQ h h2,fun o f _=>cH _ _ _ o f,fun r _=>Zc _ _ _ r⟩
theorem SA (G:Yt) (p:Yy) (aS:YP p=none) (hi6:(aZ p).length<=6) (hP:bl (bk p)<=4096) (z:Nat) (hz:z < (aN p).length) (d:Nat) (hd:(iC (aN p)).getD z 0=(d:Int)) (Ae:d < 2^19):MC prog G [] 40 [.d (gk p),.d (ab z)] (ah []) (.aR [.own 905 0 d,.d (.v .nilIface)]) (ah [(905,.sl 3 1 ((fe (aN p) z d 0).map fun n=>[.v (.int .i64 n)]))]):=by
 have hfa:=EA G p aS hi6 hP;have ht:=nO aS;have l5:=ht.pos;have E7:=(mO ht).len;have Z8:=sE (mO ht) d z hz hd;have hlen:=nB p;have hpp:0 < bl (bk p):=aaQ fun x hx=>(jK (fh aS) hx).m2
 have rr:z < (iC (aN p)).length:=by omega
 rw[cD rr]at hd;generalize iC (aN p)=F at *
 have wK:∀ s (h:s < (aN p).length),(aN p)[s].length<=64:=fun s h=>by
  rw[xn h,uu];have:=Nat.pow_le_pow_right (n:=2) (by decide) hi6;omega
 have lZ:=xt (aN p)
 have iX:∀ s (h:s < (aN p).length),(ew (aN p))[s]? = some [dr (aN p)[s]]:=fun s h=>by simp[ew,h]
 have hcast:((aN p).length:Int)=bl (bk p):=by rw[hlen];omega
 have rj:(aN p).length<=4096:=by omega
 have Oj:=fun (kk m N:Nat) (r:List (List D)) (xs:List Int) (h1:kk+1+1+m<=2^20) (h2:∀ x∈xs,0<=x/\x < (eh (aN p) z kk).length) (h3:xs.length < 2^40)=>LJ G (Sy (TN:=aN p) (z:=z) (kk:=kk) (m:=m) (N:=N)) r h1 xs h2 h3;have OW:=fun (kk N:Nat) (h:kk < d+1) (xs:List Int) (h2:∀ x∈xs,0<=x/\x < (eh (aN p) z kk).length) (h3:xs.length < 2^40)=>Qw G (Sz (TN:=aN p) (z:=z) (d:=d) (kk:=kk) (N:=N) h) (fun o f=>cH _ _ _ o f) (by omega) xs h2 h3;have ka:=Hc (aN p) z;have Nv:=fun k s (h:s < (aN p).length)=>Hd (z:=z) (k:=k) h
 have pH:∀ s (h:s < (aN p).length),(aN p)[s].length < 2^40:=fun s h=>by have:=wK s h;omega
 have Zj:=ht.mem;have hstep:=fun k s (hs:s < (aN p).length) (hg:lS (aN p) (k+1) s z)=>Jl ht hz hs hg
 have Qd:∀ k s (hs:s < (aN p).length),fe (aN p) z (k+1) s=(iN (aN p) z k s:Int) :: fe (aN p) z k ((aN p)[s].getD (iN (aN p) z k s) 0).toNat:=fun k s hs=>by rw[fe,k5 hs]
 have Qe:∀ s,fe (aN p) z 0 s=[]:=fun _=>rfl;simp only[gk,jt,cMa,YW,ch,aaB,dr,ab,<- hcast]at hfa iX ⊢;clear hlen hcast hpp ht wK;generalize ew (aN p)=NX at *;generalize aN p=TN at *;obtain⟨N,hN⟩:∃ N:Nat,TN.length=N:=⟨_,rfl⟩;rw[hN]at hfa lZ rj l5 E7 ⊢
 have Qj:z < N:=by omega
 generalize ((aZ p).map fun n=>[D.v (.int .i64 n)])=IN at *;generalize (bk p).map eo=PT at *;generalize p.names.map YE=NN at *;generalize p.aq.map bD=RR at *
 have h0:¬ (z:Int) < 0:=by omega
 have h1:¬ N<=z:=by omega
 have wy:eh TN z 0=(List.replicate N false).set z true:=by rw[eh,hN]
 have dJ:fo TN z 1=[.d (.sl none ((eh TN z 0).map fun b=>[.v (.bool b)]))]:=rfl
 have eJ:¬ (d:Int) < 0:=by omega
 refine MC.aI (au _) func40 rfl rfl (rs:=[.tmp 4,.tmp 5]) results40 (by simp[ntmps40]) rfl fun X=>?_;simp only[ntmps40];have fw:=(Aq @cK (Aq @Zu (Aq @cH (Aq @Zc @Zd))));refine Ys fw [0,1] [] ?_;refine aW fw hfa [0,1,6,7] [] ?_;refine ae fun K1 Yw=>?_;refine Ys fw [0,1,6,7,22] [] ?_;refine ag rfl ?_;refine ar (Yw _ ?_);refine ae fun K2 aa=>?_;have qf:=(Aq fw (Aq @h0 @h1));refine aC [0,1,6,33] [] ?_;refine ag (by simp<;>omega) ?_;refine ar (aa _ ?_);refine ae fun K3 bf=>?_;have qf:=(Aq fw (Aq @rr (Aq @hd @eJ)));refine aC [0,1,6,39] [] ?_;refine ag (by simp<;>omega) ?_;refine ar (bf _ ?_);have qf:=(Aq fw (Aq @aad.eq_1 (Aq @dW.eq_1 (Aq @dW.eq_2 (Aq @rr @hd)))));refine aC [0,1,6,8] [46,8] ?_;refine AW.imp (aD.We 46 rfl (by simp)) ?_
 refine AW.st (τ:=⟨YB [(0,.d (.ip [.sl none NN,.sl none RR,.v (.int .i64 N),.v (.int .i64 (cY p)),.sl none NX,.sl none PT,.sl none IN])),(1,int z),(6,.d (.sl none (F.map fun n=>[.v (.int .i64 n)]))),(8,.ref 8 0 0)],ah [(46,.box 55 (ga :: List.replicate d ga)),(8,.box 117 [.own 46 0 (d+1)])]⟩) (by
  have e:List.replicate (d+1) ga=ga :: List.replicate d ga:=rfl;rw[<- e];congr 1;simp only[Gx,List.map_replicate]
  exact F2 (by simp[ga]) (by simp[ga])) ?_
 refine uU (au _) (by kernel_rfl) ([]) ([]) (List.range 8) [0,1,6,8] [46,8,52] (cF rfl) (by kernel_rfl) fun K' Yu=>?_;(repeat (refine gg rfl fun K2 aa=>?_;simp[cK,Zu,cH,Zc,Zd,aad,dW];(repeat (refine⟨by omega,?_⟩));refine aa _ ?_;clear aa K2));refine o6 (Yu _ ?_);refine AW.st (by simp[cK,Zu,cH,Zc,Zd,aad,dW];rfl) ?_;clear Yu K';have qf:=(Aq fw @Qj);refine aC [0,1,6,8] [46,8,52] ?_;refine AW.imp (aD.freeze 52 (by decide)) ?_;refine AW.st (by simp[cK,Zu,cH,Zc,Zd];rfl) ?_;refine ae fun K4 bZ=>?_;refine Ys fw [0,1,6,8,9] [46,8,9] ?_;refine cr (S:=Nat) (fun k=>1<=k/\k<=d+1) (fun k=>⟨YB [(0,.d (.ip [.sl none NN,.sl none RR,.v (.int .i64 N),.v (.int .i64 (cY p)),.sl none NX,.sl none PT,.sl none IN])),(1,int z),(6,.d (.sl none (F.map fun n=>[.v (.int .i64 n)]))),(8,.ref 8 0 0),(9,.ref 9 0 0)],ah [(46,.box 55 (fo TN z k ++ List.replicate (d+1 - k) ga)),(8,.box 117 [.own 46 0 (d+1)]),(9,.box 3 [int k])]⟩) (fun k=>d+1 - k) 1 ?_ ⟨by omega,by omega⟩ ?_
 .refine aD.dw (cF rfl) (by simp[cK,Zu,cH,Zc,Zd,dJ,wy,List.map_set,List.map_replicate,cK]) (by simp[cK,Zu,cH,Zc,Zd,dJ,wy,List.map_set,List.map_replicate,cK])
 .rintro k ⟨Y2,jE⟩;refine ae fun K5 b4=>?_;by_cases jF:k<=d
  .obtain⟨kk,rfl⟩:∃ kk,k=kk+1:=⟨k - 1,by omega⟩;obtain⟨m,hm⟩:∃ m,d+1 - (kk+1)=m+1:=⟨d - (kk+1),by omega⟩
   have ac2:(kk:Int)+1<=(d:Int):=by omega
   have kN:kk+1 < d+1:=by omega
   have wJ:List.replicate (m+1) ga=ga :: List.replicate m ga:=rfl;rw[hm,wJ]
   have kO:∀ x,(fo TN z (kk+1) ++ x :: List.replicate m ga).length=d+1:=fun x=>by simp[Zd];omega
   have hT:∀ R,List.take (kk+1) (fo TN z (kk+1) ++ R)=fo TN z (kk+1):=fun R=>List.take_left' (Zd _ _ _);have j8:∀ R,List.drop (kk+1) (fo TN z (kk+1) ++ R)=R:=fun R=>List.drop_left' (Zd _ _ _)
   have E3:∀ x R,List.drop (kk+1+1) (fo TN z (kk+1) ++ x :: R)=R:=fun x R=>by
    rw[<- List.drop_drop,j8];rfl
   have qf:=(Aq fw (Aq @rr (Aq @hd @ac2)));refine aaR [0,1,6,8,9,64] [46,8,9] ?_;refine Yx (by simp<;>omega) ?_;refine ar (b4 _ ?_);refine ae fun K6 dB=>?_;refine YF ?_;refine uU (au _) (by kernel_rfl) ([]) ([]) (List.range 9) [0,1,6,8,9] [46,8,9,73] (cF rfl) (by kernel_rfl) fun K' Yu=>?_;(repeat (refine gg rfl fun K2 aa=>?_;simp[cK,Zu,cH,Zc,Zd,aad,dW,hT,j8,E3,kO,kN];(repeat (refine⟨by omega,?_⟩));refine aa _ ?_;clear aa K2));refine o6 (Yu _ ?_);refine AW.st (by simp[cK,Zu,cH,Zc,Zd,aad,dW,hT,j8,E3,kO,kN];rfl) ?_;clear Yu K';refine Ys fw [0,1,6,8,9,78,79,80] [46,8,9,73] ?_;refine cr (S:=Nat) (fun s=>s<=N) (fun s=>⟨YB [(0,.d (.ip [.sl none NN,.sl none RR,.v (.int .i64 N),.v (.int .i64 (cY p)),.sl none NX,.sl none PT,.sl none IN])),(1,int z),(6,.d (.sl none (F.map fun n=>[.v (.int .i64 n)]))),(8,.ref 8 0 0),(9,.ref 9 0 0),(78,.d (.sl none NX)),(79,int NX.length),(80,int s)],ah [(46,.box 55 (fo TN z (kk+1) ++ .own 73 0 N :: List.replicate m ga)),(8,.box 117 [.own 46 0 (d+1)]),(9,.box 3 [int ((kk:Int)+1)]),(73,.sl 4 1 ((jx (eh TN z (kk+1)) s).map fun b=>[.v (.bool b)]))]⟩) (fun s=>N - s) 0 ?_ (by omega) ?_
   .rw[Mz,ka,hN];refine aD.dw (cF rfl) (by simp[cK,Zu,cH,Zc,Zd,List.map_replicate,cK,cH]) (by simp[cK,Zu,cH,Zc,Zd,List.map_replicate,cK,cH])
   .intro s hs;refine Ys fw [0,1,6,8,9,78,79,80,81] [46,8,9,73] ?_;refine ae fun K7 Zl=>?_;by_cases Yv:s < N
    .have bU:s < NX.length:=by omega
     have fy:(s:Int) < (NX.length:Int):=by omega
     have ab9:s < TN.length:=by omega
     refine Yx (by simp<;>omega) ?_;refine ar (Zl _ ?_);refine ae fun K8 cU=>?_;refine YF ?_
     have hXs:NX[s]=[.sl none (TN[s].map fun n=>[.v (.int .i64 n)])]:=by
      have lu:=iX s ab9;rw[List.getElem?_eq_getElem bU]at lu;exact Option.some.inj lu
     have E9:s < (eh TN z (kk+1)).length:=by rw[ka];exact ab9
     have q7:=My E9;have iJ:=Nv kk s ab9;rw[cD E9]at iJ;rw[iJ]at q7;have Zn:=qU (L:=eh TN z (kk+1)) (s:=s) (by omega);rw[ka,hN]at Zn
     have l7:s < (jx (eh TN z (kk+1)) s).length:=by omega
     have vX:=Oj kk m N ((jx (eh TN z (kk+1)) s).map fun b=>[.v (.bool b)]) TN[s] (by omega) (fun x hx=>by
      rw[ka];exact Zj _ (List.getElem_mem ab9) x hx) (pH s ab9)
     rw[show kk+1+1+m=d+1 by omega]at vX;generalize TN[s]=R at hXs vX q7;generalize qH R (eh TN z kk)=b at vX q7;have qf:=(Aq fw (Aq @bU @hXs));refine aC [0,1,6,8,9,10,11,78,79,80] [46,8,9,73] ?_;refine Ka (au _) (by kernel_rfl) ([7]) (List.range 10) (by kernel_rfl) fun K' Yu=>?_;(repeat (refine CQ rfl fun K2 aa=>?_;simp[cK,Zu,cH,Zc,Zd,j8,kO,kN,l7,Yv];(repeat (refine⟨by omega,?_⟩));refine aa _ ?_;clear aa K2));refine CQ rfl fun K2 aa=>?_;simp[cK,Zu,cH,Zc,Zd,j8,kO,kN,l7,Yv];refine wG.mc (vX) (by simp[cK,Zu,cH,Zc,Zd,j8,kO,kN,l7,Yv]) (by simp[cK,Zu,cH,Zc,Zd,j8,kO,kN,l7,Yv]) (by simp[cK,Zu,cH,Zc,Zd,j8,kO,kN,l7,Yv]) (by simp[cK,Zu,cH,Zc,Zd,j8,kO,kN,l7,Yv]) (by simp[cK,Zu,cH,Zc,Zd,j8,kO,kN,l7,Yv];exact F2 (by simp) (by simp)) ?_;simp[cK,Zu,cH,Zc,Zd,j8,kO,kN,l7,Yv];refine aa _ ?_;clear aa K2;(repeat (refine CQ rfl fun K2 aa=>?_;simp[cK,Zu,cH,Zc,Zd,j8,kO,kN,l7,Yv];(repeat (refine⟨by omega,?_⟩));refine aa _ ?_;clear aa K2));refine VX (Yu _ ?_);clear Yu K';refine cU _ (AW.norm [0,1,6,8,9,78,79,80] [46,8,9,73] (cF rfl) (AW.st (by simp[cK,Zu,cH,Zc,Zd,j8,kO,kN,l7,Yv];rfl) ?_));refine b8 fw ?_;(try simp only[YC,bd]);refine bo.mk (s+1) (by omega) (by omega) ?_;rw[<- q7];refine aD.dw (cF rfl) (by simp[cK,Zu,cH,Zc,Zd,List.map_set,cK,cH]) (by simp[cK,Zu,cH,Zc,Zd,List.map_set,cK,cH])
    .obtain rfl:s=N:=by omega
     have fy:¬ (s:Int) < (NX.length:Int):=by omega
     refine ag (by simp<;>omega) ?_;refine bY (dB _ ?_)
     have OG:jx (eh TN z (kk+1)) s=eh TN z (kk+1):=by
      have:=Mx (eh TN z (kk+1));rw[ka,hN]at this;exact this
     rw[OG]
     have ou:((eh TN z (kk+1)).map fun b=>[D.v (.bool b)]).length=s:=by rw[List.length_map,ka,hN]
     refine AW.imp (aD.freeze 73 (by decide)) ?_;refine AW.st (by simp[cK,Zu,cH,Zc,Zd,ou,List.take_of_length_le];rfl) ?_;refine ae fun K9 iD=>?_;refine Ys fw [0,1,6,8,95] [46,8] ?_;refine gB fw iD [0,1,6,8,9] [46,8,9] ?_;refine b8 fw ?_;(try simp only[YC,bd]);have bR:=Lg TN z (kk+1)
     have hm2:d+1 - (kk+1+1)=m:=by omega
     refine bo.mk (kk+1+1) ⟨by omega,by omega⟩ (by omega) ?_;rw[bR,hm2];refine aD.dw (cF rfl) (by simp[cK,Zu,cH,Zc,Zd,List.append_assoc,cK,cH]) (by simp[cK,Zu,cH,Zc,Zd,List.append_assoc,cK,cH])
  .obtain rfl:k=d+1:=by omega
   have ac2:¬ (d:Int)+1<=(d:Int):=by omega
   have ic:d+1 - (d+1)=0:=by omega
   rw[ic];simp only[List.replicate_zero,List.append_nil];have qf:=(Aq fw (Aq @rr (Aq @hd @ac2)));refine aaR [0,1,6,8,9,64] [46,8,9] ?_;refine ag (by simp<;>omega) ?_;refine bY (bZ _ ?_);refine Ys fw [0,1,6,8,12] [46,8] ?_;refine Ys fw [0,1,6,8,12,13] [46,8] ?_;refine ae fun qE jA=>?_;have qf:=(Aq fw (Aq @rr @hd));refine aC [0,8,12,13,14] [46,8,14] ?_;generalize hW:fe TN z d 0=W;refine cr (S:=Nat×Nat×List Int) (fun q=>q.1<=d/\q.2.1 < TN.length/\lS TN q.1 q.2.1 z/\q.2.2.length<=d/\q.2.2 ++ fe TN z q.1 q.2.1=W/\q.2.2.length+q.1=d) (fun q=>⟨YB [(0,.d (.ip [.sl none NN,.sl none RR,.v (.int .i64 N),.v (.int .i64 (cY p)),.sl none NX,.sl none PT,.sl none IN])),(8,.ref 8 0 0),(12,.own 905 0 q.2.2.length),(13,int q.2.1),(14,.ref 14 0 0)],ah [(46,.box 55 (fo TN z (d+1))),(8,.box 117 [.own 46 0 (d+1)]),(14,.box 3 [int q.1]),(905,.sl 3 1 (q.2.2.map fun n=>[.v (.int .i64 n)]))]⟩) (fun q=>q.1) (d,0,[]) ?_ ⟨by simp,by dsimp only;omega,Z8,by simp,hW,by simp⟩ ?_
   .refine (aD.kD 12 905 3 1 rfl rfl).trans ?_;refine aD.dw (cF rfl) (by simp[cK,Zu,cH,Zc,Zd,cK,cH,Zc]) (by simp[cK,Zu,cH,Zc,Zd,cK,cH,Zc])
   .rintro⟨k,s,out⟩ ⟨hk,hs,hg,AZ,how,PZ⟩;dsimp only at hk hs hg AZ how PZ ⊢
    have pE:(out.map fun n=>[D.v (.int .i64 n)]).length=out.length:=by simp
    refine ae fun Dl sK=>?_
    cases k with
    | zero=>
     rw[Qe,List.append_nil]at how;subst how;refine Ys fw [0,8,12,13,14,101] [46,8,14,905] ?_;refine ag (by simp) ?_;refine bY (jA _ ?_)
     have Ny:out.length=d:=by omega
     refine Ys fw [4,5] [905] ?_;exact aY (Aq fw (Aq @hW @Ny))
    | succ k=>
     have O7:(k:Int)+1 > 0:=by omega
     have qf:=(Aq fw @O7);refine aC [0,8,12,13,14,101] [46,8,14,905] ?_;refine Yx (by simp<;>omega) ?_;refine ar (sK _ ?_);refine ae fun Kg zI=>?_;refine YF ?_
     have wN:s < N:=by omega
     have A6:s < NX.length:=by omega
     have hXs:NX[s]=[.sl none (TN[s].map fun n=>[.v (.int .i64 n)])]:=by
      have lu:=iX s hs;rw[List.getElem?_eq_getElem A6]at lu;exact Option.some.inj lu
     obtain⟨hi,he,v0,v1,we⟩:=hstep k s hs hg;have GA:=Qd k s hs;rw[cD hi]at GA
     have FR:=OW k N (by omega) TN[s] (fun x hx=>by
      rw[ka];exact Zj _ (List.getElem_mem hs) x hx) (pH s hs)
     rw[he]at FR;rw[GA]at how;obtain⟨u,hu⟩:=Int.eq_ofNat_of_zero_le v0;rw[hu,Int.toNat_natCast]at v1 we how
     have b7:(TN[s].map fun n=>[D.v (.int .i64 n)]).length=TN[s].length:=by simp
     generalize iN TN z k s=i at *;generalize TN[s]=R at *;have qf:=(Aq fw (Aq @A6 @hXs));refine aaS FR [0,8,12,13,14,15] [46,8,14,905] ?_;refine rg [0,8,12,13,14,15] [46,8,14,905] (cF rfl) fun K' Yu=>?_;(repeat (refine aP fun K2 aa=>?_;simp[cK,Zu,cH,Zc,Zd,pE,List.take_of_length_le];(repeat (refine⟨by omega,?_⟩));refine aa _ ?_;clear aa K2));refine YM (Yu _ (AW.st (by simp[cK,Zu,cH,Zc,Zd,pE,List.take_of_length_le];rfl) ?_));clear Yu K';have qf:=(Aq fw (Aq @A6 (Aq @hXs (Aq @hi @hu))));refine ZY zI [0,8,12,13,14] [46,8,14,905] ?_;refine ae fun Kh zJ=>?_;refine Ys fw [0,8,12,13,127] [46,8,905] ?_;refine gB fw zJ [0,8,12,13,14] [46,8,14,905] ?_;refine b8 fw ?_;(try simp only[YC,bd]);refine bo.mk (k,u,out ++ [(i:Int)]) ⟨by dsimp only;omega,v1,we,by dsimp only;rw[List.length_append];simp only[List.length_cons,List.length_nil];omega,by rw[List.append_assoc];exact how,by dsimp only;rw[List.length_append];simp only[List.length_cons,List.length_nil];omega⟩ (by dsimp only;omega) ?_;refine aD.dw (cF rfl) (by simp[cK,Zu,cH,Zc,Zd,cK,cH,Zc]) (by simp[cK,Zu,cH,Zc,Zd,cK,cH,Zc])
def mL (l:List Int):D:=if l=[] then .sl (some false) [] else .sl (some true) (l.map fun n=>[.v (.int .i64 n)])
theorem sr {l:List Int} (h:l=[]):mL l = .sl (some false) []:=if_pos h
theorem sq {l:List Int} (h:l≠[]):mL l = .sl (some true) (l.map fun n=>[.v (.int .i64 n)]):=if_neg h
theorem Lj (G:Yt) (p:Yy) (aS:YP p=none) (e:Ex) (hb:bE e<=2^28) (gv:aaA p e=true):ao prog G 48 [gk p,dE e] (.aR [.v (.bool false),mL [],.bg 40 (.v (.int .i64 7))]):=by
 have lA:=MO G p aS e hb gv;obtain⟨ta,ca,he⟩:=dY e;have vY:mL [] = .sl (some false) []:=rfl;have eI:∃ c,gk p = .ip c:=⟨_,rfl⟩;obtain⟨c,eI⟩:=eI;simp only[he,eI,vY]at lA ⊢;refine ao.aI (au _) func48 rfl rfl (rs:=[.tmp 4,.tmp 5,.tmp 6]) results48 (by simp[ntmps48]) fun X=>?_;simp only[ntmps48,List.map];refine al [0,1] [] ?_;refine aW trivial lA [0,7,8] [] ?_;refine ae fun K1 Yw=>?_;refine al [0,7,8,26] [] ?_;refine Yx rfl ?_;refine al [4,5,6] [] ?_;exact da
theorem yR (G:Yt) (p:Yy) (aS:YP p=none) (hk:∀ r∈p.aq,jU r) (hi6:(aZ p).length<=6) (hP:bl (bk p)<=4096) (e:Ex) (hw:cu e) (hb:bE e<=2^28) (gv:aaA p e=false):ao prog G 48 [gk p,dE e] (.aR [.v (.bool (decide (dH p e=[]))),mL (dH p e),.v .nilIface]):=by
 have lA:=MP G p aS hk hi6 hP e hw hb gv;have wa:=EA G p aS hi6 hP;have ht:=nO aS;have E6:=mO ht;have wb:=Ey ht;have hlen:=nB p;have hpp:0 < bl (bk p):=aaQ fun x hx=>(jK (fh aS) hx).m2
 have hcast:((aN p).length:Int)=bl (bk p):=by rw[hlen];omega
 have rj:(aN p).length<=4096:=by omega
 have A1:=fun (z:Nat) (hz:z < (aN p).length) (d:Nat) (hd:(iC (aN p)).getD z 0=(d:Int))=>SA G p aS hi6 hP z hz d hd (by have:=wb z hz;omega);have sU:=fun z d=>acL (aN p) z d 0;have ck:=vJ p e
 have hrl:∀ s (h:s < (ZP p e).length),(ZP p e)[s].length<=64:=fun s h=>by
  rw[zu,sF];exact Nat.pow_le_pow_right (n:=2) (by decide) hi6
 have E7:=E6.len;have eQ:=fun l hl=>GW G false l hl;have fN:=fun l hl=>QE G false l hl;have Aa:=fun a b ha hb=>Lt G (some true) (some true) a b ha hb;unfold dH acm;generalize iC (aN p)=F at *;generalize ZP p e=GD at *
 have hNs:∀ k (h:k < GD.length) (hf:k < F.length),gA F GD (k+1)=if 0<=F[k]/\0<=idx (fun x=>false == x) GD[k]/\(gA F GD k < 0\/F[k] < gA F GD k) then F[k] else gA F GD k:=fun k h hf=>by rw[gA,cD h,cD hf];rfl
 have Fa:gA F GD 0 = -1:=rfl
 have og:∀ (m:Int) k (h:k < GD.length) (hf:k < F.length),ZN (aN p) F GD m (k+1)=if idx (fun x=>false == x) GD[k] < 0\/m < 0\/F[k]≠m then ZN (aN p) F GD m k else if ZN (aN p) F GD m k=[]\/Z0 (fe (aN p) k m.toNat 0 ++ [idx (fun x=>false == x) GD[k]]) (ZN (aN p) F GD m k) < 0 then fe (aN p) k m.toNat 0 ++ [idx (fun x=>false == x) GD[k]] else ZN (aN p) F GD m k:=fun m k h hf=>by
  rw[ZN,qw,cD h,cD hf];rfl
 have hB0:∀ m,ZN (aN p) F GD m 0=[]:=fun _=>rfl
 have j7:∀ (m:Int) k,k<=GD.length->m.toNat<=4096->(ZN (aN p) F GD m k).length<=4097:=fun m k hk hm=>by
  rcases u9 (aN p) F GD m k with⟨h,_⟩ | ⟨_,s,_,_,_,h⟩
  .rw[h];simp
  .rw[h,qw,List.length_append,acL];simp only[List.length_cons,List.length_nil];omega
 have zL:∀ k,k<=GD.length->gA F GD k<=4096:=fun k hk=>by
  rcases ud F GD k with⟨h,_⟩ | ⟨_,⟨s,h1,h2,_⟩,_⟩
  .omega
  .have:=wb s (by omega);omega
 obtain⟨NR,Fb⟩:∃ NR:Nat->Int,∀ k,gA F GD k=NR k:=⟨_,fun _=>rfl⟩;simp only[Fb]at hNs Fa zL ⊢;rw[<- ck];have Xb:=zL GD.length (Nat.le_refl _);generalize Pk:NR GD.length=Zo at *;have zD:=og Zo;have EW:=hB0 Zo;have E0:=fun k hk=>j7 Zo k hk (by omega);clear og hB0 j7;obtain⟨BN,EZ⟩:∃ BN:Nat->List Int,∀ k,ZN (aN p) F GD Zo k=BN k:=⟨_,fun _=>rfl⟩;simp only[EZ]at zD EW E0 ⊢;clear Fb EZ;obtain⟨WG,Fs⟩:∃ WG:Nat->Nat->List Int,∀ z d,fe (aN p) z d 0=WG z d:=⟨_,fun _ _=>rfl⟩;simp only[Fs]at A1 zD sU;clear Fs;obtain⟨ta,ca,he⟩:=dY e;simp only[he,gk,jt,cMa,YW,ch,aaB,dr,ab,acX,dI,<- hcast]at lA wa A1 ⊢;clear hlen hcast hpp hP ht E6;generalize ew (aN p)=NX at *;generalize (aN p).length=N at *;generalize cY p=NI at *;generalize ((aZ p).map fun n=>[D.v (.int .i64 n)])=IN at *;generalize (bk p).map eo=PT at *;generalize p.names.map YE=NN at *;generalize p.aq.map bD=RR at *;refine ao.aI (au _) func48 rfl rfl (rs:=[.tmp 4,.tmp 5,.tmp 6]) results48 (by simp[ntmps48]) fun X=>?_;simp only[ntmps48,List.map];refine al [0,1] [] ?_;refine aW trivial lA [0,7,8] [] ?_;refine ae fun K1 Yw=>?_;refine al [0,7,26] [] ?_;refine ag rfl ?_;refine ar (Yw _ ?_);refine aW trivial wa [0,7,8,9] [] ?_;refine ae fun K2 aa=>?_;refine al [0,7,9,34] [] ?_;refine ag rfl ?_;refine ar (aa _ ?_);refine al [0,7,9,10] [] ?_;refine ae fun K3 bf=>?_;refine al [0,7,9,10,36,37,38] [] ?_;refine cr (S:=Nat) (fun k=>k<=GD.length) (fun k=>⟨YB [(0,.d (.ip [.sl none NN,.sl none RR,.v (.int .i64 N),.v (.int .i64 NI),.sl none NX,.sl none PT,.sl none IN])),(7,.d (.sl none (GD.map fun x=>[.sl none (x.map fun b=>[.v (.bool b)])]))),(9,.d (.sl none (F.map fun n=>[.v (.int .i64 n)]))),(10,int (NR k)),(36,.d (.sl none (GD.map fun x=>[.sl none (x.map fun b=>[.v (.bool b)])]))),(37,int GD.length),(38,int k)],ah []⟩) (fun k=>GD.length - k) 0 ?_ (by omega) ?_
 .refine bz @Fa
 .intro k ZA;refine al [0,7,9,10,36,37,38,39] [] ?_;refine ae fun K4 bZ=>?_;by_cases Yv:k < GD.length
  .have kf:k < F.length:=by omega
   have sM:=hNs k Yv kf;have q5:=fN GD[k] (by have:=hrl k Yv;omega);generalize Au:GD[k]=g at *;generalize jD:F[k]=f at *;generalize idx (fun x=>false == x) g=ni at *;generalize NR k=nr at *;refine Yx (by simp<;>omega) ?_;refine ar (bZ _ ?_);refine ae fun K5 b4=>?_;refine YF ?_;have qf:=(Aq @Yv @Au);refine aC [0,7,9,10,11,12,36,37,38] [] ?_;by_cases hge:f >= 0
   .by_cases hni:0<=ni
    .rw[decide_eq_true hni]at q5;by_cases fZ:nr < 0
     .have qf:=(Aq @kf (Aq @jD (Aq @hge @fZ)));refine Zq q5 [0,7,9,10,11,36,37,38,63] [] ?_;refine Yx (by simp<;>omega) ?_;have qf:=(Aq @kf @jD);refine ZY b4 [0,7,9,10,36,37,38] [] ?_;refine fk ?_;(try simp only[YC,bd]);refine bo.mk (k+1) (by omega) (by omega) ?_;rw[sM,if_pos (by refine⟨by omega,by omega,by omega⟩)];refine eg
     .by_cases hfn:f < nr
      .have qf:=(Aq @kf (Aq @jD (Aq @hge (Aq @fZ @hfn))));refine Zq q5 [0,7,9,10,11,36,37,38,63] [] ?_;refine Yx (by simp<;>omega) ?_;have qf:=(Aq @kf @jD);refine ZY b4 [0,7,9,10,36,37,38] [] ?_;refine fk ?_;(try simp only[YC,bd]);refine bo.mk (k+1) (by omega) (by omega) ?_;rw[sM,if_pos (by refine⟨by omega,by omega,by omega⟩)];refine eg
      .have qf:=(Aq @kf (Aq @jD (Aq @hge (Aq @fZ @hfn))));refine Zq q5 [0,7,9,10,11,36,37,38,63] [] ?_;refine ag (by simp<;>omega) ?_;refine ar (b4 _ ?_);refine fk ?_;(try simp only[YC,bd]);refine bo.mk (k+1) (by omega) (by omega) ?_;rw[sM,if_neg (by rintro⟨h1,h2,h3⟩;omega)];refine eg
    .rw[decide_eq_false hni]at q5;have qf:=(Aq @kf (Aq @jD @hge));refine Zq q5 [0,7,9,10,11,36,37,38,63] [] ?_;refine ag (by simp<;>omega) ?_;refine ar (b4 _ ?_);refine fk ?_;(try simp only[YC,bd]);refine bo.mk (k+1) (by omega) (by omega) ?_;rw[sM,if_neg (by rintro⟨h1,h2,h3⟩;omega)];refine eg
   .have qf:=(Aq @kf (Aq @jD @hge));refine aC [0,7,9,10,11,36,37,38,63] [] ?_;refine ag (by simp<;>omega) ?_;refine ar (b4 _ ?_);refine fk ?_;(try simp only[YC,bd]);refine bo.mk (k+1) (by omega) (by omega) ?_;rw[sM,if_neg (by rintro⟨h1,h2,h3⟩;omega)];refine eg
  .obtain rfl:k=GD.length:=by omega
   refine ag (by simp) ?_;refine bY (bf _ ?_);rw[Pk];clear hNs zL;refine al [0,7,9,10,13] [] ?_;refine ae fun K6 dB=>?_;refine al [0,9,10,13,69,70,71] [] ?_;refine cr (S:=Nat) (fun k=>k<=GD.length) (fun k=>⟨YB [(0,.d (.ip [.sl none NN,.sl none RR,.v (.int .i64 N),.v (.int .i64 NI),.sl none NX,.sl none PT,.sl none IN])),(9,.d (.sl none (F.map fun n=>[.v (.int .i64 n)]))),(10,int Zo),(13,.d (mL (BN k))),(69,.d (.sl none (GD.map fun x=>[.sl none (x.map fun b=>[.v (.bool b)])]))),(70,int GD.length),(71,int k)],ah []⟩) (fun k=>GD.length - k) 0 ?_ (by omega) ?_
   .rw[EW,sr rfl];refine eg
   .intro k ZA;refine al [0,9,10,13,69,70,71,72] [] ?_;refine ae fun K7 Zl=>?_;by_cases Yv:k < GD.length
    .have kf:k < F.length:=by omega
     have lr:=zD k Yv kf;have acC:=eQ GD[k] (by have:=hrl k Yv;omega);have Zy:=E0 k (by omega);have Gb:=A1 k (by omega);rw[cD kf]at Gb;generalize Au:GD[k]=g at *;generalize jD:F[k]=f at *;generalize idx (fun x=>false == x) g=ni at *;generalize BN k=B at *;refine Yx (by simp<;>omega) ?_;refine ar (Zl _ ?_);refine ae fun K8 cU=>?_;refine YF ?_;have qf:=(Aq @Yv @Au);refine aC [0,9,10,13,14,15,69,70,71] [] ?_;refine aW trivial acC [0,9,10,13,14,16,69,70,71] [] ?_;refine ae fun K9 iD=>?_;by_cases hni:ni < 0
     .have qf:=@hni;refine aC [0,9,10,13,14,16,69,70,71,91] [] ?_;refine Yx (by simp<;>omega) ?_;refine bY (cU _ ?_);refine fk ?_;(try simp only[YC,bd]);refine bo.mk (k+1) (by omega) (by omega) ?_;rw[lr,if_pos (by omega)];refine eg
     .by_cases fZ:Zo < 0
      .have qf:=(Aq @hni @fZ);refine aC [0,9,10,13,14,16,69,70,71,91] [] ?_;refine Yx (by simp<;>omega) ?_;refine bY (cU _ ?_);refine fk ?_;(try simp only[YC,bd]);refine bo.mk (k+1) (by omega) (by omega) ?_;rw[lr,if_pos (by omega)];refine eg
      .by_cases hfn:f=Zo
       .subst hfn;rw[if_neg (by omega)]at lr;obtain⟨d,rfl⟩:=Int.eq_ofNat_of_zero_le (show 0<=f by omega);rw[Int.toNat_natCast]at lr;have Pv:=Gb d rfl;have hwl:=sU k d
        have pE:((WG k d).map fun n=>[D.v (.int .i64 n)]).length=d:=by simp[hwl]
        have qf:=(Aq @hni (Aq @fZ (Aq @kf @jD)));refine aC [0,9,10,13,14,16,69,70,71,91] [] ?_;refine ag (by simp<;>omega) ?_;refine ar (iD _ ?_);refine bh trivial Pv [0,9,10,13,16,17,18,69,70,71] [905] ?_;refine ae fun qE jA=>?_;refine al [0,9,10,13,16,17,69,70,71,99] [905] ?_;refine ag rfl ?_;refine ar (jA _ ?_);refine rg [0,9,10,13,17,69,70,71] [905] (fun _ _=>trivial) fun K' Yu=>?_;(repeat (refine aP fun K2 aa=>?_;simp[pE,List.take_of_length_le];(repeat (refine⟨by omega,?_⟩));refine aa _ ?_;clear aa K2));refine YM (Yu _ (AW.st (by simp[pE,List.take_of_length_le];rfl) ?_));clear Yu K'
        have pI:((WG k d).map fun n=>[D.v (.int .i64 n)]) ++ [[D.v (.int .i64 ni)]]=(WG k d ++ [ni]).map fun n=>[D.v (.int .i64 n)]:=by simp
        have zT:(WG k d ++ [ni]).length=d+1:=by simp[hwl]
        simp only[pI];generalize WG k d ++ [ni]=W at *
        have Fu:W≠[]:=fun h=>by rw[h]at zT;cases zT
        have adM:(W.map fun n=>[D.v (.int .i64 n)]).length=d+1:=by simp[zT]
        refine AW.imp (aD.freeze 905 trivial) ?_;refine AW.st (by simp[adM,List.take_of_length_le];rfl) ?_;refine AW.B6 17 rfl ?_ (fun h=>absurd (List.map_eq_nil_iff.1 h) Fu);refine AW.st (by simp;rfl) ?_;have Ft:=sq Fu;by_cases lY:B=[]
        .rw[if_pos (.inl lY)]at lr;rw[sr lY];refine al [0,9,10,13,17,69,70,71,112] [] ?_;refine Yx (by simp<;>omega) ?_;refine gB trivial cU [0,9,10,13,69,70,71] [] ?_;refine fk ?_;(try simp only[YC,bd]);refine bo.mk (k+1) (by omega) (by omega) ?_;rw[lr,Ft];refine eg
        .have FE:=Aa W B (by omega) (by omega);rw[sq lY];by_cases bU:Z0 W B < 0
         .rw[if_pos (.inr bU)]at lr;generalize Z0 W B=c at *;have qf:=@bU;refine Zq FE [0,9,10,13,17,69,70,71,112] [] ?_;refine Yx (by simp<;>omega) ?_;refine gB trivial cU [0,9,10,13,69,70,71] [] ?_;refine fk ?_;(try simp only[YC,bd]);refine bo.mk (k+1) (by omega) (by omega) ?_;rw[lr,Ft];refine eg
         .rw[if_neg (by simp[lY,bU])]at lr;generalize Z0 W B=c at *;have qf:=@bU;refine Zq FE [0,9,10,13,17,69,70,71,112] [] ?_;refine ag (by simp<;>omega) ?_;refine ar (cU _ ?_);refine fk ?_;(try simp only[YC,bd]);refine bo.mk (k+1) (by omega) (by omega) ?_;rw[lr,sq lY];refine eg
       .have qf:=(Aq @hni (Aq @fZ (Aq @kf (Aq @jD @hfn))));refine aC [0,9,10,13,14,16,69,70,71,91] [] ?_;refine Yx (by simp<;>omega) ?_;refine bY (cU _ ?_);refine fk ?_;(try simp only[YC,bd]);refine bo.mk (k+1) (by omega) (by omega) ?_;rw[lr,if_pos (by omega)];refine eg
    .obtain rfl:k=GD.length:=by omega
     refine ag (by simp) ?_;refine bY (dB _ ?_);generalize BN GD.length=B at *;by_cases lY:B=[]
     .rw[sr lY];refine al [4,5,6] [] ?_;refine b6 ?_;simp[D.le,D.le.go,aQ,lY,sr]
     .rw[sq lY];refine al [4,5,6] [] ?_;exact aY @lY
def j4:Ex:=.or [.not (.bit [97]),.bit [109]]
def j5:Ex:=.not (.bit [109])
theorem adb:cu j4:=by simp only[j4,cu,pn];exact⟨by simp,by decide +kernel,by decide +kernel,trivial⟩
theorem ade:cu j5:=by simp only[j5,cu];decide +kernel
theorem Eu:dO [33,97,32,124,32,109]=(some j4,none):=by
 have ht:aU j4 0=[33,97,32,124,32,109]:=by simp[j4,aU,kA,Lib.join,List.intercalate]
 have:=HT adb (by simp[j4,Z1,kJ,df,dpO]) (by rw[ht];simp);rw[ht]at this;exact this
theorem Ew:dO [33,109]=(some j5,none):=by
 have ht:aU j5 0=[33,109]:=by simp[j5,aU,kA,Lib.join,List.intercalate]
 have:=HT ade (by simp[j5,Z1,kJ,df,dpO]) (by rw[ht];simp);rw[ht]at this;exact this
theorem Mk:bE j4<=10000:=rK (t:=[33,97,32,124,32,109]) (by rw[Eu])
theorem Mn:bE j5<=10000:=rK (t:=[33,109]) (by rw[Ew])
theorem adI:YH fK [97]=0:=by kernel_rfl
theorem Mm:aaA fK j4=false:=by
 unfold aaA;rw[List.any_eq_false];intro s hs;have:=oS.1 hs;simp[j4,b5,dZ,Y1,gb]at this
 rcases this with rfl | rfl
 .rw[adI];decide
 .rw[EG];decide
theorem Mp:aaA fK j5=false:=by
 unfold aaA;rw[List.any_eq_false];intro s hs;have:=oS.1 hs;simp[j5,b5,dZ,Y1,gb]at this;subst this;rw[EG];decide
theorem ML:ZP fK j4=[[true,true],[true,true]]:=by kernel_rfl
theorem MM:ZP fK j5=[[true,false],[false,false]]:=by kernel_rfl
theorem Ml:dH fK j4=[]:=by
 unfold dH;rw[EF,ML,acY]
 kernel_rfl
theorem Mo:dH fK j5=[1]:=by
 unfold dH;rw[EF,MM,acY]
 kernel_rfl
theorem Rl:(⟨#[33,97,32,124,32,109]⟩:ByteArray)=bs [33,97,32,124,32,109]:=rfl
theorem Rm:(⟨#[33,109]⟩:ByteArray)=bs [33,109]:=rfl
theorem SR (G:Yt) (hM:nU G) (hP:nV G) (hG:mD G) {es er:Value} (hE:ph G es er):ao prog G 46 [] (.v (.bool true)):=by
 have gP:=Hg G hM hP hG hE pz 9 (by decide) (by decide);rw[MB (by decide)]at gP;have eC:=xA G [33,97,32,124,32,109] (by decide);rw[Eu]at eC;have Zg:=xA G [33,109] (by decide);rw[Ew]at Zg;have dJ:=yR G fK acw adf (by rw[zr];decide) (by rw[zt];decide) j4 adb (by have:=Mk;omega) Mm;have Zf:=yR G fK acw adf (by rw[zr];decide) (by rw[zt];decide) j5 ade (by have:=Mn;omega) Mp;rw[Ml,show decide (([]:List Int)=[])=true from rfl]at dJ;rw[Mo,show decide (([1]:List Int)=[])=false from rfl]at Zf;have s1:=Vl G (some true) none [1] [1] (by decide);have lx:mL [] = .sl (some false) []:=rfl;have Ae:mL [1] = .sl (some true) [[.v (.int .i64 1)]]:=rfl;have eI:∃ c,gk fK = .ip c:=⟨_,rfl⟩;obtain⟨MC,eI⟩:=eI;obtain⟨t1,c1,he1⟩:=dY j4;obtain⟨t2,c2,he2⟩:=dY j5;simp only[iQ,iR,aO,he1,he2,eI,lx,Ae,kH,List.map,dS,ab]at gP eC Zg dJ Zf s1;have wb:=MA;have gO:=Rl;have fO:=Rm;generalize bs pz=FT at *;generalize bs [33,97,32,124,32,109]=T1 at *;generalize bs [33,109]=T2 at *;refine ao.aI (au _) func46 rfl rfl (rs:=[.tmp 0]) results46 (by simp[ntmps46]) fun X=>?_;simp only[ntmps46,List.map];refine al [] [] ?_;have qf:=@wb;refine Zq gP [1,2] [] ?_;refine ae fun K1 Yw=>?_;refine al [1,18] [] ?_;refine ag rfl ?_;refine ar (Yw _ ?_);have qf:=@gO;refine Zq eC [1,3,4] [] ?_;have qf:=@fO;refine Zq Zg [1,3,4,5,6] [] ?_;refine ae fun K2 aa=>?_;refine al [1,3,5,32] [] ?_;refine ag rfl ?_;refine ar (aa _ ?_);refine aW trivial dJ [1,5,7,9] [] ?_;refine aW trivial Zf [7,9,10,11,12] [] ?_;refine rg [0] [] (fun _ _=>trivial) fun K' Yu=>?_;(repeat (refine aP fun K2 aa=>?_;simp;(repeat (refine⟨by omega,?_⟩));refine aa _ ?_;clear aa K2));refine aP fun K2 aa=>?_;simp;refine YR.kX (s1) (by simp;rfl) (by first | exact D.YG _ | simp[aQ,List.map_map,Function.comp_def,D.le,D.le.go,D.le_refl,D.YG]) (by simp[D.scalar]) ?_;refine aa _ ?_;clear aa K2;simp only[aw,cJ];(repeat (refine aP fun K2 aa=>?_;simp;(repeat (refine⟨by omega,?_⟩));refine aa _ ?_;clear aa K2));refine YM (Yu _ (AW.st (by simp;rfl) ?_));clear Yu K';exact da
def abY (p:Yy) (l:List Bool):D:=.fn (.func 106) [.ip (b9 p),.ip [dI l]]
theorem QF (G:Yt) (p:Yy) (l:List Bool):ao prog G 52 [cg p,dI l] (abY p l):=by
 simp only[cg,b9,YW,ch,dI,abY];generalize p.names.map YE=NN;generalize p.aq.map bD=RR;generalize (l.map fun b=>[D.v (.bool b)])=L;refine ao.aI (au _) func52 rfl rfl (rs:=[.tmp 4]) results52 (by simp[ntmps52]) fun X=>?_;simp only[ntmps52,List.map];refine al [2,3] [2,3] ?_;refine al [4] [2,3] ?_;exact da
theorem GX (G:Yt) (p:Yy) (hp:p.names.length < 2^60) (L:List Bool) (hl:L.length=p.names.length):nY (fun nm=>¬ YH p nm < 0) G 106 [.ip (b9 p),.ip [dI L]] (gH p L):=by
 intro nm hn;have bB:=mf G p (by omega) nm;obtain⟨h1,h2⟩:=uf hn
 have hi:(YH p nm).toNat < L.length:=by omega
 have hbv:gH p L nm=L[(YH p nm).toNat]:=by unfold gH;exact cD hi
 rw[hbv];rw[h2]at bB
 have hL:L.length < 2^60:=by omega
 clear h1 h2 hbv hn;simp only[cg,b9,YW,ch,dS]at bB;simp only[dI,b9,YW,ch];generalize eQ:(YH p nm).toNat=i at bB hi ⊢;clear eQ hl hp;generalize p.names.map YE=NN at bB ⊢;generalize p.aq.map bD=RR at bB ⊢;generalize hv:L[i]=v
 have h0:(i:Int) >= 0:=by omega
 refine ao.aI (au _) func106 rfl rfl (rs:=[.tmp 4]) results106 (by simp[ntmps106]) fun X=>?_;simp only[ntmps106,List.map];have fw:=@dS.eq_1;refine Ys fw [0,1,2] [] ?_;refine aW fw bB [2,5] [] ?_;have qf:=(Aq fw (Aq @hi (Aq @h0 @hv)));refine aC [4] [] ?_;exact aY fw
theorem QG (G:Yt) {p:Yy} (aS:YP p=none) {e:Ex} (hw:cu e) (hb:bE e<=2^28) (gv:aaA p e=false) (s i:Nat):ao prog G 51 [dE e,abY p (iA p (eV p s) (dv (i:Int) (aZ p).length)).is,abY p (eV p s).is] (.v (.bool (jw p e s i))):=by
 have gw:=(fh aS).names;have hs:=rW aS (s:Int);have hd:=(vq aS hs (dv (i:Int) (aZ p).length)).1;exact zg G _ _ _ _ _ _ _ _ (GX G p (by omega) _ hd.l1) (GX G p (by omega) _ hs.l1) e (DI hw gv) hb
theorem G1 (G:Yt) (p:Yy) (aS:YP p=none) (hk:∀ r∈p.aq,jU r) (hi6:(aZ p).length<=6) (hP:bl (bk p)<=4096) (e:Ex) (hw:cu e) (hb:bE e<=2^28) (gv:aaA p e=false) (k:Option Bool) (l:List Int) (hl:l.length < 2^40):ao prog G 49 [.sl k (l.map fun n=>[.v (.int .i64 n)]),.ip [gk p],.ip [dE e]] (.aR [dI (aaf p e l l.length),.v (.bool true)]):=by
 have ht:=nO aS;have aB:=fun s i=>QG G aS hw hb gv s i;have oF:=fun (s i:Nat) (h1:(s:Int) < bl (bk p)) (h2:i < cY p)=>I7 G p aS hk s i hP h1 h2;have bw:=fun (s:Nat) (h1:(s:Int) < bl (bk p))=>BW G p aS (bl (bk p)) ((cY p:Nat):Int) (ew (aN p)) s (by omega) (by omega);have bT:=fun l=>QF G p l;have zF:cY p<=64:=Nat.pow_le_pow_right (n:=2) (by decide) hi6;have pY:=fun a=>SC G a (cY p) (GJ p) (by omega)
 have ax:∀ j (h:j < l.length),ie p l j=pkF l[j] (cY p):=fun j h=>by unfold ie;rw[cD h]
 have Zz:=tM p l;have Fy:=fun j (h:j<=l.length)=>(u6 aS l j h).1;have has:=fun j (h:j < l.length)=>KW aS h
 have iX:∀ s (h:s < (aN p).length),(ew (aN p))[s]? = some [dr (aN p)[s]]:=fun s h=>by simp[ew,h]
 have lZ:=xt (aN p);have Y0:=SF p e l;have cX:=Cn p e l;have wE:aaf p e l 0=[]:=rfl;have NT:=DE p l;have hlen:=nB p;have hpp:0 < bl (bk p):=aaQ fun x hx=>(jK (fh aS) hx).m2
 have hcast:((aN p).length:Int)=bl (bk p):=by rw[hlen];omega
 obtain⟨ta,ca,he⟩:=dY e;simp only[he,gk,jt,cMa,cg,b9,YW,ch,aaB,dr,ab,dI,abY,j2,iw,<- hcast]at aB oF bw bT pY iX ⊢;clear hlen hcast hpp hP;generalize aaf p e l=PL at *;generalize ew (aN p)=NX at *;obtain⟨IS,sJ⟩:∃ IS:Nat->Nat->List Bool,∀ s i:Nat,(iA p (eV p s) (dv (i:Int) (aZ p).length)).is=IS s i:=⟨_,fun _ _=>rfl⟩;obtain⟨WS,sT⟩:∃ WS:Nat->List Bool,∀ s:Nat,(eV p s).is=WS s:=⟨_,fun _=>rfl⟩;obtain⟨CS,sH⟩:∃ CS:Nat->List Int,∀ s:Nat,(eV p s).ct=CS s:=⟨_,fun _=>rfl⟩;obtain⟨EV,sI⟩:∃ EV:Nat->Nat->Bool,∀ s i:Nat,jw p e s i=EV s i:=⟨_,fun _ _=>rfl⟩;simp only[sJ,sT,sH,sI]at aB oF bw Y0;clear sJ sT sH sI;generalize ZI p l=SN at *;generalize ie p l=QN at *;generalize aN p=TN at *;obtain⟨N,hN⟩:∃ N:Nat,TN.length=N:=⟨_,rfl⟩;rw[hN]at lZ;simp only[hN]at oF bw Fy aB pY ⊢;generalize cY p=NI at *;generalize ((aZ p).map fun n=>[D.v (.int .i64 n)])=IN at *;generalize (bk p).map eo=PT at *;generalize p.names.map YE=NN at *;generalize p.aq.map bD=RR at *;refine ao.aI (au _) func49 rfl rfl (rs:=[.tmp 4,.tmp 5]) results49 (by simp[ntmps49]) fun X=>?_;simp only[ntmps49,List.map];have fw:=@ab.eq_1;refine Ys fw [0,1,2] [] ?_;refine Ys fw [0,1,2,6] [] ?_;refine Ys fw [0,1,2,6,7] [] ?_;refine ae fun K1 Yw=>?_;refine Ys fw [0,1,2,6,7,8] [] ?_;refine cr (S:=Nat) (fun j=>j<=l.length) (fun j=>⟨YB [(0,.d (.sl k (l.map fun n=>[.v (.int .i64 n)]))),(1,.d (.ip [.ip [.sl none NN,.sl none RR,.v (.int .i64 N),.v (.int .i64 NI),.sl none NX,.sl none PT,.sl none IN]])),(2,.d (.ip [.bg ta ca])),(6,int (SN j)),(7,.own 800 0 j),(8,int j)],ah [(800,.sl 4 1 ((PL j).map fun b=>[.v (.bool b)]))]⟩) (fun j=>l.length - j) 0 ?_ (by omega) ?_
 .rw[NT,wE];refine (aD.kD 7 800 4 1 rfl rfl).trans ?_;refine bz fw
 .intro j hj
  have eO:((PL j).map fun b=>[D.v (.bool b)]).length=j:=by simp[cX]
  have PA:=Y0 j;refine ae fun K2 aa=>?_;refine Ys fw [0,1,2,6,7,8,15] [800] ?_;by_cases Yv:j < l.length
  .obtain⟨g1,g2,g3⟩:=has j Yv;have PC:=Zz j;have wN:=Fy j hj;have oo:=ax j Yv;have Gd:=pY l[j];rw[<- oo]at Gd;generalize PL j=P1 at *;generalize hs:SN j=s at *;generalize dM:SN (j+1)=s2 at *;generalize QN j=i at *;generalize hx:l[j]=x at *;have Ba:=bw s (by omega);have A7:=oF s i (by omega) PC;have pO:=aB s i;have NZ:=bT (IS s i);have zY:=bT (WS s)
   have Fw:s < NX.length:=by omega
   have hXs:NX[s]=[.sl none (TN[s].map fun n=>[.v (.int .i64 n)])]:=by
    have lu:=iX s g1;rw[List.getElem?_eq_getElem Fw]at lu;exact Option.some.inj lu
   generalize IS s i=II at *;generalize WS s=WW at *;generalize CS s=CC at *;generalize EV s i=ee at *;generalize TN[s]=R at *;refine Yx (by simp<;>omega) ?_;refine ar (aa _ ?_);refine ae fun K3 bf=>?_;refine YF ?_;have qf:=(Aq fw (Aq @Yv @hx));refine xG Gd [0,1,2,6,7,8,9] [800] ?_;refine aW fw A7 [0,1,2,6,7,8,9,10,11] [800] ?_;refine ae fun K4 bZ=>?_;refine Ys fw [0,1,2,6,7,8,9,10,35] [800] ?_;refine ag rfl ?_;refine ar (bZ _ ?_);refine uU (au _) (by kernel_rfl) ([(19,(800,54))]) ([]) (List.range 21) [0,1,2,6,7,8,9] [800] (fun _ _=>trivial) (by kernel_rfl) fun K' Yu=>?_;(repeat (refine gg rfl fun K2 aa=>?_;simp[ab,eO,List.take_of_length_le];(repeat (refine⟨by omega,?_⟩));refine aa _ ?_;clear aa K2));refine gg rfl fun K2 aa=>?_;simp[ab,eO,List.take_of_length_le];refine aaj.mk (NZ) (by simp;rfl) (by simp;rfl) (by first | exact D.YG _ | simp[aQ,List.map_map,Function.comp_def,D.le,D.le.go,D.le_refl,D.YG,ab,eO,List.take_of_length_le]) (by simp) ?_;refine aa _ ?_;clear aa K2;simp only[aw,cJ];(repeat (refine gg rfl fun K2 aa=>?_;simp[ab,eO,List.take_of_length_le];(repeat (refine⟨by omega,?_⟩));refine aa _ ?_;clear aa K2));refine gg rfl fun K2 aa=>?_;simp[ab,eO,List.take_of_length_le];refine aaj.mk (Ba) (by simp;rfl) (by simp;rfl) (by first | exact D.YG _ | simp[aQ,List.map_map,Function.comp_def,D.le,D.le.go,D.le_refl,D.YG,ab,eO,List.take_of_length_le]) (by simp) ?_;refine aa _ ?_;clear aa K2;simp only[aw,cJ];(repeat (refine gg rfl fun K2 aa=>?_;simp[ab,eO,List.take_of_length_le];(repeat (refine⟨by omega,?_⟩));refine aa _ ?_;clear aa K2));refine gg rfl fun K2 aa=>?_;simp[ab,eO,List.take_of_length_le];refine aaj.mk (zY) (by simp;rfl) (by simp;rfl) (by first | exact D.YG _ | simp[aQ,List.map_map,Function.comp_def,D.le,D.le.go,D.le_refl,D.YG,ab,eO,List.take_of_length_le]) (by simp) ?_;refine aa _ ?_;clear aa K2;simp only[aw,cJ];(repeat (refine gg rfl fun K2 aa=>?_;simp[ab,eO,List.take_of_length_le];(repeat (refine⟨by omega,?_⟩));refine aa _ ?_;clear aa K2));refine gg rfl fun K2 aa=>?_;simp[ab,eO,List.take_of_length_le];refine aaj.mk (pO) (by simp;rfl) (by simp;rfl) (by first | exact D.YG _ | simp[aQ,List.map_map,Function.comp_def,D.le,D.le.go,D.le_refl,D.YG,ab,eO,List.take_of_length_le]) (by simp) ?_;refine aa _ ?_;clear aa K2;simp only[aw,cJ];(repeat (refine gg rfl fun K2 aa=>?_;simp[ab,eO,List.take_of_length_le];(repeat (refine⟨by omega,?_⟩));refine aa _ ?_;clear aa K2));refine o6 (Yu _ ?_);refine AW.st (by simp[ab,eO,List.take_of_length_le];rfl) ?_
   clear Yu K';have qf:=(Aq fw (Aq @Fw (Aq @hXs (Aq @g2 @g3))));refine ZY bf [0,1,2,6,7,8] [800] ?_;refine b8 fw ?_;(try simp only[YC,bd]);refine bo.mk (j+1) (by omega) (by omega) ?_;rw[dM,PA];refine bz fw
  .obtain rfl:j=l.length:=by omega
   refine ag (by simp) ?_;refine bY (Yw _ ?_);refine AW.imp (aD.freeze 800 trivial) ?_;refine AW.st (by simp[ab,eO,List.take_of_length_le];rfl) ?_;refine Ys fw [4,5] [] ?_;exact aY fw
theorem T4 (G:Yt) (hM:nU G) (hP:nV G) (hG:mD G) {es er:Value} (hE:ph G es er) (t h:Tx) (l:List Int):ao prog G 9 [dS t,dS h,dr l] (.v (.bool true)):=by
 have gP:=Hg G hM hP hG hE t 200 (by decide) (by decide);have iI:=SR G hM hP hG hE
 have ka:(l.map fun n=>[D.v (.int .i64 n)]).length=l.length:=by simp
 cases AL:abJ t 200 with
 | none=>
  rw[AL]at gP;simp only[iQ,dS,dr,ab]at gP ⊢;generalize (l.map fun n=>[D.v (.int .i64 n)])=LL at *;refine ao.aI (au _) func9 rfl rfl (rs:=[.tmp 6]) results9 (by simp[ntmps9]) fun X=>?_;simp only[ntmps9,List.map];refine al [0,1,2] [] ?_;refine aW trivial gP [1,2,7,8] [7] ?_;refine eB 7 ?_;refine ae fun K1 Yw=>?_;refine al [1,2,7,35] [] ?_;refine Yx rfl ?_;refine aW trivial iI [6] [] ?_;exact da
 | some p=>
  rw[AL]at gP;obtain⟨aS,hk,OQ,Xe⟩:=adY AL;have eI:∃ c,gk p = .ip c:=⟨_,rfl⟩;by_cases ER:(h.length:Int) > 300
  .obtain⟨MC,eI⟩:=eI;simp only[iQ,dS,dr,ab,eI]at gP ⊢;generalize (l.map fun n=>[D.v (.int .i64 n)])=LL at *;refine ao.aI (au _) func9 rfl rfl (rs:=[.tmp 6]) results9 (by simp[ntmps9]) fun X=>?_;simp only[ntmps9,List.map];refine al [0,1,2] [] ?_;refine aW trivial gP [1,2,7,8] [7] ?_;refine eB 7 ?_;refine ae fun K1 Yw=>?_;have qf:=(Aq @bF @ER);refine aC [1,2,7,35] [] ?_;refine Yx (by simp<;>omega) ?_;refine aW trivial iI [6] [] ?_;exact da
  have j6:¬ (h.length:Int) > 300:=ER;by_cases zA:(l.length:Int) > 40
  .obtain⟨MC,eI⟩:=eI;simp only[iQ,dS,dr,ab,eI]at gP ⊢;rw[<- ka]at zA;generalize (l.map fun n=>[D.v (.int .i64 n)])=LL at *;refine ao.aI (au _) func9 rfl rfl (rs:=[.tmp 6]) results9 (by simp[ntmps9]) fun X=>?_;simp only[ntmps9,List.map];refine al [0,1,2] [] ?_;refine aW trivial gP [1,2,7,8] [7] ?_;refine eB 7 ?_;refine ae fun K1 Yw=>?_;have qf:=(Aq @bF (Aq @j6 @zA));refine aC [1,2,7,35] [] ?_;refine Yx (by simp<;>omega) ?_;refine aW trivial iI [6] [] ?_;exact da
  have jz:¬ (l.length:Int) > 40:=zA;have Y0:=xA G h (by omega)
  cases oD:dO h with
  | mk ox oe=>
  rw[oD]at Y0
  cases oe with
  | some e=>
   obtain⟨c,q⟩:=e
   have hn:ox=none:=by
    have:=Su (t:=h) (e:=(c,q)) (by rw[oD]);rw[oD]at this;exact this
   subst hn
   have aG:∃ te ce,aO (some (c,q)) = .bg te ce:=by cases q<;>exact⟨_,_,rfl⟩
   obtain⟨te,ce,v8⟩:=aG;obtain⟨MC,eI⟩:=eI;simp only[iR]at Y0;rw[v8]at Y0;simp only[iQ,dS,dr,ab,eI]at gP Y0 ⊢;rw[<- ka]at jz;generalize (l.map fun n=>[D.v (.int .i64 n)])=LL at *;refine ao.aI (au _) func9 rfl rfl (rs:=[.tmp 6]) results9 (by simp[ntmps9]) fun X=>?_;simp only[ntmps9,List.map];refine al [0,1,2] [] ?_;refine aW trivial gP [1,2,7,8] [7] ?_;refine eB 7 ?_;refine ae fun K1 Yw=>?_;have qf:=(Aq @bF (Aq @j6 @jz));refine aC [1,2,7,35] [] ?_;refine ag (by simp<;>omega) ?_;refine ar (Yw _ ?_);refine aW trivial Y0 [2,7,9,10] [9] ?_;refine eB 9 ?_;refine ae fun K2 aa=>?_;refine al [2,7,9,43] [] ?_;refine Yx rfl ?_;refine aW trivial iI [6] [] ?_;exact da
  | none=>
   obtain⟨e,fz⟩:=xz (t:=h) (by rw[oD]);have FC:=rK fz;obtain⟨tF,_⟩:=rL fz;rw[oD]at fz;dsimp only at fz;subst fz
   cases gv:aaA p e with
   | true=>
    have na:=Lj G p aS e (by omega) gv;have Oq:mL [] = .sl (some false) []:=rfl;obtain⟨MC,eI⟩:=eI;obtain⟨ta,ca,he⟩:=dY e;simp only[iQ,dS,dr,ab,eI,iR,aO,he,Oq]at gP Y0 na ⊢;rw[<- ka]at jz;generalize (l.map fun n=>[D.v (.int .i64 n)])=LL at *;refine ao.aI (au _) func9 rfl rfl (rs:=[.tmp 6]) results9 (by simp[ntmps9]) fun X=>?_;simp only[ntmps9,List.map];refine al [0,1,2] [] ?_;refine aW trivial gP [1,2,7,8] [7] ?_;refine eB 7 ?_;refine ae fun K1 Yw=>?_;have qf:=(Aq @bF (Aq @j6 @jz));refine aC [1,2,7,35] [] ?_;refine ag (by simp<;>omega) ?_;refine ar (Yw _ ?_);refine aW trivial Y0 [2,7,9,10] [9] ?_;refine eB 9 ?_;refine ae fun K2 aa=>?_;refine al [2,7,9,43] [] ?_;refine ag rfl ?_;refine ar (aa _ ?_);refine aW trivial na [2,7,9,10,11,12] [] ?_;refine ae fun K3 bf=>?_;refine aW trivial iI [2,7,9,11,12,57] [] ?_;refine Yx rfl ?_;refine aW trivial iI [6] [] ?_;exact da
   | false=>
    have zF:cY p<=64:=by have:=Qm OQ;omega
    have na:=yR G p aS hk (by omega) (by omega) e tF (by omega) gv;by_cases ZH:dH p e=[]
    .have bu:=SG aS ZH l;have cX:=G1 G p aS hk (by omega) (by omega) e tF (by omega) gv none l (by omega);have eO:=Cn p e l l.length
     have zN:∀ j (hj:j < (aaf p e l l.length).length),(aaf p e l l.length)[j]=true:=fun j hj=>by
      rw[H4];exact bu j (by omega)
     rw[sr ZH,decide_eq_true ZH]at na;obtain⟨MC,eI⟩:=eI;obtain⟨ta,ca,he⟩:=dY e;simp only[iQ,dS,dr,dI,ab,eI,iR,aO,he]at gP Y0 na cX ⊢;rw[<- ka]at jz;generalize (l.map fun n=>[D.v (.int .i64 n)])=LL at *;generalize aaf p e l l.length=GT at *;refine ao.aI (au _) func9 rfl rfl (rs:=[.tmp 6]) results9 (by simp[ntmps9]) fun X=>?_;simp only[ntmps9,List.map];refine al [0,1,2] [] ?_;refine aW trivial gP [1,2,7,8] [7] ?_;refine eB 7 ?_;refine ae fun K1 Yw=>?_;have qf:=(Aq @bF (Aq @j6 @jz));refine aC [1,2,7,35] [] ?_;refine ag (by simp<;>omega) ?_;refine ar (Yw _ ?_);refine aW trivial Y0 [2,7,9,10] [9] ?_;refine eB 9 ?_;refine ae fun K2 aa=>?_;refine al [2,7,9,43] [] ?_;refine ag rfl ?_;refine ar (aa _ ?_);refine aW trivial na [2,7,9,10,11,12] [] ?_;refine ae fun K3 bf=>?_;refine aW trivial iI [2,7,9,11,12,57] [] ?_;refine ag rfl ?_;refine ar (bf _ ?_);refine ae fun K4 bZ=>?_;refine al [2,7,9,11,12,72] [] ?_;refine ag (by simp) ?_;refine ar (bZ _ ?_);refine al [2,11,12,13] [] ?_;refine ae fun K5 b4=>?_;refine al [2,12,13,75] [] ?_;refine ag rfl ?_;refine ar (b4 _ ?_);refine aW trivial cX [8,17] [] ?_;refine ae fun K9 iD=>?_;refine al [8,17,18] [] ?_;refine cr (S:=Nat) (fun j=>j<=GT.length) (fun j=>⟨YB [(8,.d (.v (.bool true))),(17,.d (.sl none (GT.map fun b=>[.v (.bool b)]))),(18,int j)],ah []⟩) (fun j=>GT.length - j) 0 ?_ (by omega) ?_
     .refine eg
     .intro j hj;refine ae fun qE jA=>?_;refine al [8,17,18,108] [] ?_;by_cases Yv:j < GT.length
      .have hPj:=zN j Yv;refine Yx (by simp<;>omega) ?_;refine ar (jA _ ?_);refine ae fun Dl sK=>?_;refine YF ?_;have qf:=(Aq @Yv @hPj);refine aC [8,17,18,115] [] ?_;refine ag (by simp) ?_;refine ar (sK _ ?_);refine fk ?_;(try simp only[YC,bd]);refine bo.mk (j+1) (by omega) (by omega) ?_;refine eg
      .obtain rfl:j=GT.length:=by omega
       refine ag (by simp) ?_;refine bY (iD _ ?_);refine al [6] [] ?_;exact da
    .obtain⟨w1,w2,w3,w4⟩:=SH aS zF ZH
     have rj:(aN p).length<=4096:=by rw[nB];omega
     have cX:=G1 G p aS hk (by omega) (by omega) e tF (by omega) gv (some true) (dH p e) (by omega);have eO:=Cn p e (dH p e) (dH p e).length
     have zN:∀ j (hj:j < (aaf p e (dH p e) (dH p e).length).length),(aaf p e (dH p e) (dH p e).length)[j]=decide (j+1 < (aaf p e (dH p e) (dH p e).length).length):=fun j hj=>by
      rw[H4,eO];exact w4 j (by omega)
     rw[sq ZH,decide_eq_false ZH]at na;obtain⟨MC,eI⟩:=eI;obtain⟨ta,ca,he⟩:=dY e;simp only[iQ,dS,dr,dI,ab,eI,iR,aO,he]at gP Y0 na cX ⊢
     have E2:((dH p e).map fun n=>[D.v (.int .i64 n)]).length=(dH p e).length:=by simp
     rw[<- ka]at jz;generalize (l.map fun n=>[D.v (.int .i64 n)])=LL at *;generalize aaf p e (dH p e) (dH p e).length=GT at *;generalize ((dH p e).map fun n=>[D.v (.int .i64 n)])=CL at *;generalize (dH p e).length=cl at *
     have mZ:¬ (CL.length:Int)=0:=by omega
     have dJ:¬ CL.length=0:=by omega
     refine ao.aI (au _) func9 rfl rfl (rs:=[.tmp 6]) results9 (by simp[ntmps9]) fun X=>?_;simp only[ntmps9,List.map];refine al [0,1,2] [] ?_;refine aW trivial gP [1,2,7,8] [7] ?_;refine eB 7 ?_;refine ae fun K1 Yw=>?_;have qf:=(Aq @bF (Aq @j6 @jz));refine aC [1,2,7,35] [] ?_;refine ag (by simp<;>omega) ?_;refine ar (Yw _ ?_);refine aW trivial Y0 [2,7,9,10] [9] ?_;refine eB 9 ?_;refine ae fun K2 aa=>?_;refine al [2,7,9,43] [] ?_;refine ag rfl ?_;refine ar (aa _ ?_);refine aW trivial na [2,7,9,10,11,12] [] ?_;refine ae fun K3 bf=>?_;refine aW trivial iI [2,7,9,11,12,57] [] ?_;refine ag rfl ?_;refine ar (bf _ ?_);refine ae fun K4 bZ=>?_;have qf:=(Aq @mZ @dJ);refine aC [2,7,9,11,12,72] [] ?_;refine ag (by simp[dJ]) ?_;refine ar (bZ _ ?_);refine al [2,11,12,13] [] ?_;refine ae fun K5 b4=>?_;refine al [2,12,13,75] [] ?_;refine Yx rfl ?_;refine aW trivial cX [14,15] [] ?_;refine ae fun K6 dB=>?_;refine al [14,15,16] [] ?_;refine cr (S:=Nat) (fun j=>j<=GT.length) (fun j=>⟨YB [(14,.d (.sl none (GT.map fun b=>[.v (.bool b)]))),(15,.d (.v (.bool true))),(16,int j)],ah []⟩) (fun j=>GT.length - j) 0 ?_ (by omega) ?_
     .refine eg
     .intro j hj;refine ae fun K7 Zl=>?_;refine al [14,15,16,85] [] ?_;by_cases Yv:j < GT.length
      .have hPj:=zN j Yv;have Xs:decide ((j:Int)+1 < (GT.length:Int))=decide (j+1 < GT.length):=decide_eq_decide.2 (by omega);refine Yx (by simp<;>omega) ?_;refine ar (Zl _ ?_);refine ae fun K8 cU=>?_;refine YF ?_;by_cases F0:j+1 < GT.length
       .have gO:(j:Int)+1 < (GT.length:Int):=by omega
        rw[decide_eq_true F0]at hPj;have qf:=(Aq @Yv (Aq @hPj @gO));refine aC [14,15,16,97] [] ?_;refine ag (by simp<;>omega) ?_;refine ar (cU _ ?_);refine fk ?_;(try simp only[YC,bd]);refine bo.mk (j+1) (by omega) (by omega) ?_;refine eg
       .have gO:¬ (j:Int)+1 < (GT.length:Int):=by omega
        rw[decide_eq_false F0]at hPj;have qf:=(Aq @Yv (Aq @hPj @gO));refine aC [14,15,16,97] [] ?_;refine ag (by simp<;>omega) ?_;refine ar (cU _ ?_);refine fk ?_;(try simp only[YC,bd]);refine bo.mk (j+1) (by omega) (by omega) ?_;refine eg
      .obtain rfl:j=GT.length:=by omega
       refine ag (by simp) ?_;refine bY (dB _ ?_);refine al [6] [] ?_;exact da
open Go.ChangeAt Go.ChangeShapes Go.RowKit Go.WideShapes
theorem QX:ownKnob prog.godebug=none:=by kernel_rfl
theorem QW:laidOutB prog=true:=by kernel_rfl
theorem Lh:prog.cellsOf 3=1:=by kernel_rfl
section
variable {H:Type} {enc:TypeId×Value->H} {w:World} {base:Nat} {spare:Nat->Bool} {held:Bool} {X:Nat->Prop}
theorem Ux (hX:∀ b,¬ X b):u0 enc prog w base spare held X 46 (fun _:List Int=>True) (fun l=>[LU l]):=by
 intro fuel cs x h;obtain⟨l,_,hr⟩:=Uy underlying46 Lh (by omega) hX (Uw underlying3) fuel cs x h;exact⟨l,trivial,hr⟩
end
