/- Parts. -/
import Derived.Test.YtdigkhaofjmgkaaGreatDoorIs36
import Derived.Maps.RangeRun
set_option linter.unusedSectionVars false
set_option linter.unusedSimpArgs false
set_option linter.unusedVariables false
set_option maxHeartbeats 32000000
set_option maxRecDepth 100000
open Go.Proofs.Tryz
namespace Go.Av
open Go.ChangeMaps (setBlock)
section
variable {P:Program} {T:Ty} {Mv X:Nat->Prop} {G:YI} {N:Fr} {w:World} {μ:Mu} {a:Act} {σ:St}
def Ha:Op->Bool
 | .range _ _=>true
 | .next _ false=>true
 | .entry _=>true
 | _=>false
def Hc (T:Ty) (t:TypeId):Bool:=match T t with
 | some tt=>match tt.desc with
  | .map _ _=>true
  | _=>false
 | none=>false
def Vd (T:Ty) (G:YI) (t:TypeId) (x:Operand) (d:Nat) (σ:St) (K:St->Prop):Prop:=match aU G σ.env x with
 | some (.d (.dm _ ents))=>Hc T t=true/\σ.H d=none/\∀ es:List (Value×Value),es.Perm ents->K ⟨fb σ.env d (.ref d 0 0),aF σ.H d (.it es [])⟩
 | _=>False
def TG (G:YI) (x:Operand) (d:Nat) (σ:St) (K:St->Prop):Prop:=match aU G σ.env x with
 | some (.ref r 0 0)=>match σ.H r with
  | some (.it ents seen)=>((∀ j,j < ents.length->j∈seen)->K ⟨fb σ.env d (.d (.aT [.v (.bool false)])),σ.H⟩)/\
   ∀ j (hj:j < ents.length),j ∉ seen->K ⟨fb σ.env d (.d (.aT [.v (.bool true),.v ents[j].1,.v ents[j].2])),aF σ.H r (.it ents (seen ++ [j]))⟩
  | _=>False
 | _=>False
def My (G:YI) (x:Operand) (d:Nat) (σ:St) (K:St->Prop):Prop:=match aU G σ.env x with
 | some (.ref r 0 0)=>match σ.H r with
  | some (.it ents seen)=>∃ s j,∃ hj:j < ents.length,seen=s ++ [j]/\K ⟨fb σ.env d (.d (.aT [.v ents[j].1,.v ents[j].2])),σ.H⟩
  | _=>False
 | _=>False
def Sp (T:Ty) (G:YI) (o:Oper) (σ:St) (K:St->Prop):Prop:=match o.op,o.dst with
 | .range t x,some d=>Vd T G t x d σ K
 | .next x false,some d=>TG G x d σ K
 | .entry x,some d=>My G x d σ K
 | _,_=>False
def VW (P:Program) (T:Ty) (Mv X:Nat->Prop) (G:YI) (N:Fr) (ops:Array Oper) (o:Oper) (σ:St) (K:St->Prop):Prop:=c8 N o/\match fc ops σ.env o with
 | some b=>if b=true then (if Ha o.op=true then Sp T G o σ K else pL P T Mv X G N o σ K) else K ⟨au σ.env o.dst Y2,σ.H⟩
 | none=>False
end
attribute [simp] VW Ha Hc ju
end Go.Av
namespace Go.Av
section
variable {P:Program} {T:Ty} {Mv X:Nat->Prop} {G:YI} {N:Fr} {w:World} {μ:Mu} {a:Act} {σ:St}
theorem Vt (t ty e:TypeId) (i:TypeInfo) (ht:P.underlying t=some (.slice e)) (hi:P.info? e=some i)
  (g off qz ads:Nat) (cur:Array Value) (hg:w.heap[g]? = some (.cells cur e (0,0)))
  (a:Addr) (m c:Nat) (news:List Value) (hl:news.length=m * i.size) (A8:∀ j u,news[j]? = some u->w.cell? (a.add j)=some u) (h1:∀ u∈news,u.oneCell'=true)
  (abg:qz+m<=ads) (aae:off+qz * i.size+news.length<=cur.size) :
  (Builtin.append_ #[t,t] ty #[.slice (some ⟨g,off,none⟩) qz ads,.slice (some a) m c]).run P w =
   .ok (.slice (some ⟨g,off,none⟩) (qz+m) ads) (w.setRow g (cur.toList.take (off+qz * i.size) ++ news ++ cur.toList.drop (off+qz * i.size+news.length)).toArray):=by
 have hf:=run_firstCells_some (P:=P) w i.size m a m c news hl A8;have bA:=run_storeCells_at P g (off+qz * i.size) e news 0 cur w hg (by simpa using aae) h1;simp only[Nat.add_zero]at bA;simp[Builtin.append_,run_underlying ht,sizeOf,typeInfo,hi,Builtin.lenOf,abg,hf,Addr.add_lit,bA]
theorem adX (hg:Good P T) (hi:In w X G μ N a σ) {r off n:Nat} (c7:Mv r) {t ty e:TypeId} {tt te:TI} (b4:T t=some tt) (b5:tt.desc = .slice e) (bI:T e=some te) {els news:List (List D)} {u v:Value}
  (hH:σ.H r=some (.sl e te.size els)) (hle:off+n<=els.length) (hu:RV w X μ u (.own r off n)) (hn:l4 w X μ te.size v news) (hz:0 < te.size) (hzs:(cM te.zero).length=te.size)
  (h63:n+news.length<=maxLen) (hb:(n+news.length) * te.bytes<=140737488355328) :
  ∃ pre:List (List D),iy Mv X G N w μ a ((Builtin.append_ #[t,t] ty #[u,v]).run P w) (.own r pre.length (n+news.length)) ⟨ch r σ.env,aF (Y9 r σ.H) r (.sl e te.size (pre ++ ((els.drop off).take n ++ news)))⟩:=by
 by_cases dN:off=0
 .subst dN;exact⟨[],by simpa using yR (Mv:=Mv) hg hi c7 b4 b5 bI hH (by omega) hu hn hz hzs h63 hb⟩
 obtain⟨m,hm,hh⟩:=hu.Z3;obtain⟨m',bx,ok⟩:=hi.aL.rows r _ hH;rw[hm]at bx;obtain rfl:=Option.some.inj bx;obtain⟨oU,i0,gY,Zm,hb0,ik,_⟩:=hg e te bI;have ht:=(hg t tt b4).1;rw[b5]at ht;have lW:=qO (w:=w) (X:=XX X μ) te.zero
 have As:te.zero.cells.size=te.size:=by rw[lW.1,hzs]
 rcases hh with⟨_,_,h0,_⟩ | ⟨b,eO,rfl,fR⟩
 .exact absurd h0 dN
 cases ok with
 | nil aH _=>rw[aH]at eO;cases eO
 | sl aH aK jb bR iI dG hl ug hr=>
  rename_i b' cur;rw[eO]at aH;obtain rfl:=Option.some.inj aH
  have Bi:(els.take off).length=off:=by rw[List.length_take];omega
  have adG:els.take off ++ (els.drop off).take n=els.take (off+n):=by rw[List.take_add]
  have Gs:((els.drop off).take n).length=n:=by rw[List.length_take,List.length_drop];omega
  have Gr:∀ el∈(els.drop off).take n,el.length=te.size:=fun el aN=>hl el (List.mem_of_mem_drop (List.mem_of_mem_take aN));by_cases aG:news=[]
  .subst aG
   have hv:∃ ad c,v = .slice ad 0 c:=by
    rcases hn.at_ with⟨_,ad,cap,rfl⟩ | ⟨ad,cap,dI,rfl,_⟩
    .exact⟨_,_,rfl⟩
    .exact⟨_,_,rfl⟩
   obtain⟨ad,c,rfl⟩:=hv;refine⟨els.take off,?_⟩;have bt:=Je (P:=P) (w:=w) (ty:=ty) hg b4 b5 bI (some ⟨b,off * m.sz,none⟩) ad n (m.cap - off) c (by omega);rw[bt]
   obtain⟨ax,aD⟩:=hi.move (Mv:=Mv) (w':=w) (m':=m) hm c7 (Nat.le_refl _) rfl rfl rfl (fun _ _ _=>rfl) (fun b hb=>.inr hb) (row:=.sl e te.size (els.take off ++ ((els.drop off).take n ++ []))) fun ev=>by
    rw[List.append_nil,adG];refine .sl eO aK jb bR (by simp;omega) dG (fun el aN=>hl el (List.mem_of_mem_take aN)) ug fun i j el c aN hc=>?_;rw[List.getElem?_take]at aN;split at aN
    .obtain⟨v,hv,bq⟩:=hr i j el c aN hc;exact⟨v,hv,bq.ev ev⟩
    .cases aN
   refine⟨_,_,_,rfl,ax,.own (m:=m) (by simp[Zc]) ?_,aD⟩;rw[Bi];exact .inr ⟨b,eO,rfl,by simpa using fR⟩
  .have Bb:0 < news.length:=List.length_pos_iff.2 aG
   rcases hn.at_ with⟨h,_⟩ | ⟨ad,cap,dI,rfl,eJ,oO,jf,gk⟩
   .exact absurd h aG
   have Bo:n+news.length<=9223372036854775807:=by simp only[maxLen]at h63;omega
   have PH:(off+n) * te.size<=m.cap * te.size:=Nat.mul_le_mul_right _ fR;rw[Nat.add_mul]at PH;by_cases abg:n+news.length<=m.cap - off
   .have aae:off * te.size+n * te.size+dI.length<=cur.size:=by
     rw[eJ,bR,<- Nat.add_mul,<- Nat.add_mul];exact Nat.mul_le_mul_right _ (by omega)
    have bt:=Vt (P:=P) (w:=w) t ty e i0 ht gY b (off * te.size) n (m.cap - off) cur jb ad news.length cap dI (by rw[eJ,Zm]) oO jf abg (by rw[Zm];exact aae);refine⟨els.take off,?_⟩;rw[aK,bt,Zm]
    have ZG:(cur.toList.take (off * te.size+n * te.size)).length=(off+n) * te.size:=by rw[List.length_take,Array.length_toList,bR,Nat.add_mul];omega
    have hxr:Rel w X μ te.size (cur.toList.take (off * te.size+n * te.size)) (els.take (off+n)):=by
     intro i j el c aN hc;rw[List.getElem?_take]at aN;split at aN
     .rename_i ax;obtain⟨v,hv,bq⟩:=hr i j el c aN hc;have nt:el.length=te.size:=hl _ (List.mem_of_getElem? aN)
      have hj:j < te.size:=by rw[<- nt];exact (List.getElem?_eq_some_iff.1 hc).1
      refine⟨v,?_,bq⟩;rw[List.getElem?_take,if_pos]
      .simpa using hv
      .have:(i+1) * te.size<=(off+n) * te.size:=Nat.mul_le_mul_right _ ax;rw[Nat.add_mul,Nat.add_mul]at this;omega
     .cases aN
    obtain⟨ax,aD⟩:=hi.move (Mv:=Mv) (w':=w.setRow b (cur.toList.take (off * te.size+n * te.size) ++ dI ++ cur.toList.drop (off * te.size+n * te.size+dI.length)).toArray) (m':=m) hm c7 (by simp) rfl rfl rfl
     (fun k hk tI=>setRow_other w b k _ fun e'=>tI (by rw[eO,e'])) (fun b hb=>.inr hb) (row:=.sl e te.size (els.take off ++ ((els.drop off).take n ++ news))) fun ev=>by
      rw[<- List.append_assoc,adG];refine .sl eO aK (setRow_heap w b cur _ e _ jb) ?_ (by simp;omega) dG (fun el aN=>?_) ug fun i j el c hi hj=>?_
      .simp only[List.size_toArray,List.length_append,List.length_take,List.length_drop,Array.length_toList];omega
      .rcases List.mem_append.1 aN with h | h
       .exact hl el (List.mem_of_mem_take h)
       .exact hn.len el h
      .obtain⟨v,hv,bq⟩:=((hxr.append (by rw[ZG,List.length_take,Nat.min_eq_left hle]) (fun el aN=>hl el (List.mem_of_mem_take aN)) gk).more (l':=cur.toList.drop (off * te.size+n * te.size+dI.length))) i j el c hi hj;exact⟨v,by rw[<- Array.getElem?_toList];simpa using hv,bq.ev ev⟩
    refine⟨_,_,_,rfl,ax,.own (m:=m) (by simp[Zc]) (.inr ⟨b,eO,by rw[Bi,aK],by rw[Bi];omega⟩),aD⟩
   .have ZG:((cur.toList.drop (off * te.size)).take (n * te.size)).length=n * te.size:=by rw[List.length_take,List.length_drop,Array.length_toList,bR];omega
    have hxr:Rel w X μ te.size ((cur.toList.drop (off * te.size)).take (n * te.size)) ((els.drop off).take n):=by
     intro i j el c aN hc;rw[List.getElem?_take]at aN;split at aN
     .rename_i ax;rw[List.getElem?_drop]at aN;obtain⟨v,hv,bq⟩:=hr (off+i) j el c aN hc;have nt:el.length=te.size:=hl _ (List.mem_of_getElem? aN)
      have hj:j < te.size:=by rw[<- nt];exact (List.getElem?_eq_some_iff.1 hc).1
      refine⟨v,?_,bq⟩;rw[List.getElem?_take,if_pos,List.getElem?_drop]
      .rw[<- Nat.add_assoc,<- Nat.add_mul];simpa using hv
      .have:(i+1) * te.size<=n * te.size:=Nat.mul_le_mul_right _ ax;rw[Nat.add_mul]at this;omega
     .cases aN
    have bt:=run_append_grow (P:=P) w t ty e i0 te.zero ht gY ik ⟨b,off * te.size,none⟩ n (m.cap - off) ((cur.toList.drop (off * te.size)).take (n * te.size)) (by rw[ZG,Zm]) (fun j v hv=>by
     rw[addr_add,cell_of_row w b _ cur e (0,0) jb];rw[List.getElem?_take]at hv;split at hv
     .rw[List.getElem?_drop]at hv;simpa using hv
     .cases hv) ad news.length cap dI (by rw[eJ,Zm]) oO (by omega) (by omega) (by rw[hb0];exact growslice_fits (by omega) hb)
    refine⟨[],?_⟩;rw[aK,bt];have ZL:=grownCap_ge w (n+news.length) (m.cap - off) e;have ea:=grownCap_le_maxLen w (n+news.length) (m.cap - off) e h63;generalize grownCap w (n+news.length) (m.cap - off) e=df at *;generalize (cur.toList.drop (off * te.size)).take (n * te.size)=xs at *
    have hgw:bT w (w.drew.alloc (.cells (xs.toArray ++ dI.toArray ++ Builtin.zeroCells te.zero.cells (df - (n+news.length))) e)):=by
     have h1:=bT.alloc w.drew (.cells (xs.toArray ++ dI.toArray ++ Builtin.zeroCells te.zero.cells (df - (n+news.length))) e);exact⟨h1.size,h1.os,h1.tape,h1.output,h1.same⟩
    have kY:(xs.toArray ++ dI.toArray ++ Builtin.zeroCells te.zero.cells (df - (n+news.length))).size=df * te.size:=by
     simp only[Array.size_append,List.size_toArray,size_zeroCells,As,ZG,eJ,<- Nat.add_mul];congr 1;omega
    obtain⟨ax,aD⟩:=hi.move (Mv:=Mv) (w':=w.drew.alloc (.cells (xs.toArray ++ dI.toArray ++ Builtin.zeroCells te.zero.cells (df - (n+news.length))) e)) (m':=⟨some w.heap.size,te.size,df⟩) hm c7 hgw.size hgw.os hgw.tape hgw.output
     (fun k hk _=>hgw.same k hk) (fun b hb=>by simp at hb;omega) (row:=.sl e te.size ([] ++ ((els.drop off).take n ++ news))) fun ev=>by
      rw[List.nil_append];refine .sl rfl rfl (by simpa using heap_alloc_new w.drew (.cells (xs.toArray ++ dI.toArray ++ Builtin.zeroCells te.zero.cells (df - (n+news.length))) e)) kY (by rw[List.length_append,Gs];omega) ea (fun el aN=>?_) hz fun i j el c hi hj=>?_
      .rcases List.mem_append.1 aN with h | h
       .exact Gr el h
       .exact hn.len el h
      .have hrel:=((hxr.append (by rw[ZG,Gs]) Gr gk).more (l':=(Builtin.zeroCells te.zero.cells (df - (n+news.length))).toList)) i j el c hi hj;obtain⟨v,hv,bq⟩:=hrel;refine⟨v,?_,bq.ev ev⟩;rw[<- Array.getElem?_toList];simpa using hv
    exact⟨_,_,_,rfl,ax,.own (m:=⟨some w.heap.size,te.size,df⟩) (by simp[Zc]) (.inr ⟨w.heap.size,rfl,by simp,by simpa using ZL⟩),aD⟩
def Da (T:Ty) (G:YI) (Mv:Nat->Prop) (σ:St) (o:Oper):Option (Prop×(List (List D)->AV×St)):=match o.op,o.dst with
 | .call { callee:=.builtin .append,args,argTypes },some _=>match args.toList,argTypes.toList with
  | [x,y],[t,t']=>match T t with
   | some tt=>match tt.desc with
    | .slice e=>match T e,aU G σ.env x,aU G σ.env y with
     | some te,some (.own r off n),some v=>match σ.H r,aak σ.H r v with
      | some (.sl ty sz els),some news=>some (t=t'/\Mv r/\ty=e/\sz=te.size/\off+n<=els.length/\(∀ el∈news,el.length=te.size)/\(∀ el∈news,∀ c∈el,D.one c=true)/\0 < te.size/\(cM te.zero).length=te.size/\n+news.length<=9223372036854775807/\(n+news.length) * te.bytes<=140737488355328,
        fun pre=>(.own r pre.length (n+news.length),⟨ch r σ.env,aF (Y9 r σ.H) r (.sl e te.size (pre ++ ((els.drop off).take n ++ news)))⟩))
      | _,_=>none
     | _,_,_=>none
    | _=>none
   | none=>none
  | _,_=>none
 | _,_=>none
def sQ (P:Program) (T:Ty) (Mv X:Nat->Prop) (G:YI) (N:Fr) (o:Oper) (σ:St) (next:St->Prop):Prop:=match Da T G Mv σ o with
 | some (c,f)=>c/\∀ pre:List (List D),next ⟨au (f pre).2.env o.dst (f pre).1,(f pre).2.H⟩
 | none=>pL P T Mv X G N o σ next
theorem MP (hg:Good P T) (hi:In w X G μ N a σ) {o:Oper} {K:St->Prop} (hd:∀ d,o.dst=some d->d < N.n) (h:sQ P T Mv X G N o σ K) {Q:Exit->Act->World->Prop} {next:Act->World->Prop}
  (hk:∀ w' ak a' ag,K ag->In w' X G ak N a' ag->Ev Mv w μ w' ak->next a' w'):o.wpIn (wd N.ro) 0 P a w next Q:=by
 unfold sQ at h;split at h
 .rename_i c f hw;obtain⟨hc,k⟩:=h;obtain⟨op,dst,type,pos,after,guard⟩:=o;unfold Da at hw;split at hw
  .rename_i args argTypes d ZR wG;simp only at ZR wG;subst ZR wG;refine yt (fun c e=>by cases e) ?_;split at hw
   .rename_i x0 y0 t t' ha ht;have e1:args = #[x0,y0]:=Array.toList_inj.1 ha;have e2:argTypes = #[t,t']:=Array.toList_inj.1 ht;subst e1 e2;split at hw
    .rename_i tt b4;split at hw
     .rename_i e b5;split at hw
      .rename_i te r off n v bI h1 h2;split at hw
       .rename_i ty sz els news hH hn;simp only[Option.some.injEq,Prod.mk.injEq]at hw;obtain⟨rfl,rfl⟩:=hw;obtain⟨rfl,g1,rfl,rfl,g2,g3,g4,g5,g6,g7,g8⟩:=hc;obtain⟨pre,v',w',ak,hr,ax,eo,aD⟩:=adX (Mv:=Mv) (ty:=type) hg hi g1 b4 b5 bI hH g2 (hi.eval h1) (uH hi.aL (hi.eval h2) hn g3 g5 g4) g5 g6 (by unfold maxLen;omega) g8;unfold Oper.wp
        have hx:(execOp a.eval { op:=.call { callee:=.builtin .append,args:=#[x0,y0],argTypes:=#[t,t] },dst:=some d,type:=type,pos:=pos,after:=after,guard:=guard:Oper }).run P w = .ok (.value v') w':=by simp[execOp,resolve,invoke,builtin,hr]
        rw[hx];exact hk _ ak _ _ (k pre) (ax.put eo hd) aD
       .cases hw
      .cases hw
     .cases hw
    .cases hw
   .cases hw
  .cases hw
 .exact EL hg hi hd h hk
def pj (P:Program) (T:Ty) (Mv X:Nat->Prop) (G:YI) (N:Fr) (ops:Array Oper) (K:St->Prop):List Oper->St->Prop
 | [],σ=>K σ
 | o :: rest,σ=>c8 N o/\match fc ops σ.env o with
  | some b=>if b=true then sQ P T Mv X G N o σ (pj P T Mv X G N ops K rest) else pj P T Mv X G N ops K rest ⟨au σ.env o.dst Y2,σ.H⟩
  | none=>False
theorem Wi (hg:Good P T) {ops:Array Oper} {Q:Exit->St->Prop} {w0:World} {eV:Mu}:∀ (l:List Oper) (k:Nat) (w:World) (μ:Mu) (a:Act) (σ:St),(∀ j,l[j]? = ops[k+j]?)->pj P T Mv X G N ops (fun ag=>Q .normal ag) l σ->In w X G μ N a σ->Ev Mv w0 eV w μ->
  wpOpsIn (wd N.ro) 0 P ops (After Mv X G N w0 eV Q) (List.range' k l.length) a w:=by
 intro l
 induction l with
 | nil=>intro k w μ a σ _ h hi aD;exact⟨μ,σ,h,hi,aD⟩
 | cons o l ih=>
  intro k w μ a σ hl h hi aD
  have h0:ops[k]? = some o:=by simpa using (hl 0).symm
  have fk:∀ j,l[j]? = ops[k+1+j]?:=fun j=>by have:=hl (j+1);simpa[Nat.add_assoc,Nat.add_comm 1 j]using this
  obtain⟨hd,h⟩:=h
  have dv:∀ d,o.dst=some d->d < N.n:=fun d e=>by unfold c8 at hd;rw[e]at hd;exact hd
  rw[List.length_cons,List.range'_succ];simp only[wpOpsIn,h0];split at h
  .rename_i b hb;rw[abV hi hb];split at h
   .rename_i np;subst np;rw[if_pos rfl];exact (MP hg hi dv h fun w' ak a' ag k' ax aaI=>ih (k+1) w' ak a' ag fk k' ax (aD.trans aaI))
   .rename_i hbf;rw[if_neg (by simpa using hbf)];exact⟨fun _ _=>trivial,ih (k+1) w μ _ _ fk h (hi.put (.d (.v _)) dv) aD⟩
  .exact h.elim
theorem Kq (hg:Good P T) {id:Nat} {ops:Array Oper} {Q:Exit->St->Prop} (h:pj P T Mv X G N ops (fun ag=>Q .normal ag) ops.toList σ):AW P Mv X G N (.region id ops false) Q σ:=fun w μ a hi=>by
 refine wpIn_region ?_;have:=Wi hg ops.toList 0 w μ a σ (by simp) h hi (.refl _ w μ)
 rwa [<- List.range_eq_range',Array.length_toList]at this
theorem Kv (hg:Good P T) {id:Nat} {ops:Array Oper} {Q:Exit->St->Prop} (h:∀ K:St->Prop,(∀ τ:St,Q .normal τ->K τ)->pj P T Mv X G N ops K ops.toList σ):AW P Mv X G N (.region id ops false) Q σ:=
 Kq hg (h _ fun _ h=>h)
def stepT (P:Program) (T:Ty) (Mv X:Nat->Prop) (G:YI) (N:Fr) (ops:Array Oper) (o:Oper) (σ:St) (K:St->Prop):Prop:=c8 N o/\match fc ops σ.env o with
 | some b=>if b=true then sQ P T Mv X G N o σ K else K ⟨au σ.env o.dst Y2,σ.H⟩
 | none=>False
theorem Wg {ops:Array Oper} {K:St->Prop} {o:Oper} {rest:List Oper} (h:∀ K':St->Prop,(∀ τ,pj P T Mv X G N ops K rest τ->K' τ)->stepT P T Mv X G N ops o σ K'):pj P T Mv X G N ops K (o :: rest) σ:=h _ fun _ h=>h
theorem Wh {ops:Array Oper} {K:St->Prop} (h:K σ):pj P T Mv X G N ops K [] σ:=h
attribute [simp] Da sQ stepT
end
end Go.Av
namespace Go.Proofs.YtdigkhaofjmgkaaGreatDoor
open Go.Av
theorem Te:kb .and .u64 1 4294967295=1:=by decide
theorem Td:kb .and .u64 0 4294967295=0:=by decide
theorem Tj (n:Nat) (h:n < 2^32):kb .and .u64 (n:Int) 4294967295=n:=by
 have:=WD n 4294967295 (by omega) (by decide)
 have e:n &&& 4294967295=n:=by
  have:=Nat.and_two_pow_sub_one_eq_mod n 32;simp only[Nat.reducePow,Nat.reduceSub]at this;rw[this];omega
 rw[e]at this;exact this
theorem Tt:Int.fdiv 1 (2 ^ (min 32 IntKind.u64.bits))=0:=by decide
theorem Ts:Int.fdiv 0 (2 ^ (min 32 IntKind.u64.bits))=0:=by decide
theorem Tu (n:Nat) (h:n < 2^32):Int.fdiv (n:Int) (2 ^ (min 32 IntKind.u64.bits))=0:=by
 have e:(2:Int) ^ (min 32 IntKind.u64.bits)=4294967296:=by decide
 rw[e,Int.fdiv_eq_ediv_of_nonneg _ (by decide)];omega
theorem mw0:IntKind.u64.wrap 0=0:=by decide
theorem Ce:IntKind.u64.wrap 1=1:=by decide
theorem HM (n:Nat) (h:n < 2^32):IntKind.u64.wrap (n:Int)=n:=JT n (by omega)
def dU (n:Int):D:=.v (.int .u64 n)
theorem Tw (G:YI) (n:Nat) (h:n < 2^32):aq prog G 189 [dU 1,dU n] (.aT [dU 0,dU n]):=by
 have a2:=Tj n h;have s2:=Tu n h;have w2:=HM n h;simp only[dU];refine aq.aI (aw _) func189 rfl rfl (rs:=[.tmp 4,.tmp 5]) results189 (by simp[ntmps189]) fun X=>?_;simp only[ntmps189,List.map];have fw:=(Aq @kD.eq_1 (Aq @kD.eq_2 (Aq @kD.eq_3 (Aq @Te (Aq @Td (Aq @a2 (Aq @Tt (Aq @Ts (Aq @s2 (Aq @mw0 (Aq @Ce @w2)))))))))));refine ab fw [0,1] [] ?_;refine ab fw [0,1,6] [] ?_;refine ab fw [0,1,6,7] [] ?_;refine ab fw [0,1,6,7,8] [] ?_;refine ab fw [0,1,6,7,8,9] [] ?_;refine ab fw [0,1,6,7,8,9,10] [] ?_;refine ab fw [0,1,6,7,9,11] [] ?_;refine ab fw [0,1,6,7,9,11,12] [] ?_;refine ab fw [0,1,6,7,9,12,13] [] ?_;refine ab fw [0,1,7,9,12,13] [] ?_;refine ab fw [0,1,4] [] ?_;refine ab fw [4,5] [] ?_;exact aV fw
theorem mul_one (G:YI) (n:Nat) (h:n < 2^32):aq prog G 143 [dU 1,dU n] (.aT [dU 0,dU n]):=by
 have hm:=Tw G n h;simp only[dU]at hm ⊢;refine aq.aI (aw _) func143 rfl rfl (rs:=[.tmp 4,.tmp 5]) results143 (by simp[ntmps143]) fun X=>?_;simp only[ntmps143,List.map];refine al [0,1] [] ?_;refine ae fun K1 ay=>?_;refine af rfl ?_;refine ao (ay _ ?_);refine aP trivial hm [8,9] [] ?_;refine al [4,5] [] ?_;exact dK
def ir (x:Int) (k n:Nat):List (List D):=List.replicate k [.v (.int .i64 x)] ++ List.replicate (n - k) [.v (.int .i64 0)]
theorem IH {x:Int} {k n:Nat} (h:k<=n):(ir x k n).length=n:=by simp[ir];omega
theorem UX (x:Int) (n:Nat):List.replicate n [D.v (.int .i64 0)]=ir x 0 n:=by simp[ir]
theorem UT (x:Int) (n:Nat):ir x n n=List.replicate n [.v (.int .i64 x)]:=by simp[ir]
theorem UW {x:Int} {n:Nat} (h:1<=n):jy (ir x 0 n) [[.v (.int .i64 x)]] 0 n=ir x 1 n:=by
 have e:[[D.v (.int .i64 x)]].take n=[[.v (.int .i64 x)]]:=List.take_of_length_le (by simpa using h);simp[jy,ir,e]
theorem adL {x:Int} {k n:Nat}:(ir x k n).take k=List.replicate k [.v (.int .i64 x)]:=by
 unfold ir;rw[List.take_append_of_le_length (by simp),List.take_of_length_le (by simp)]
theorem UU {x:Int} {k n:Nat} (h:k<=n):jy (ir x k n) (List.replicate k [.v (.int .i64 x)]) k (n - k)=ir x (k+min (n - k) k) n:=by
 unfold jy;rw[adL,List.take_replicate,List.length_replicate]
 have e:(ir x k n).drop (k+min (n - k) k)=List.replicate (n - (k+min (n - k) k)) [.v (.int .i64 0)]:=by
  unfold ir;rw[List.drop_append,List.drop_eq_nil_of_le (by simp),List.nil_append,List.length_replicate,List.drop_replicate];congr 1;omega
 rw[e];unfold ir;rw[List.replicate_append_replicate]
theorem UY (G:YI) (x:Int) (n:Nat) (h1:1<=n) (h2:n<=2^20):MC prog G [] 88 [.d (.sl none [[.v (.int .i64 x)]]),.d (YG n)] (YH []) (.own 601 0 n) (YH [(601,.sl 3 1 (List.replicate n [.v (.int .i64 x)]))]):=by
 have hm:=mul_one G n (by omega);have w2:=HM n (by omega);have hz:=UX x n;have ho:=UW (x:=x) h1
 have h0:¬ (n:Int) < 0:=by omega
 have hb:¬ (n:Int) > 9223372036854775807:=by omega
 have qg:[[D.v (.int .i64 x)]].take n=[[.v (.int .i64 x)]]:=List.take_of_length_le (by simpa using h1);simp only[dU,YG]at hm ⊢;refine MC.aI (aw _) func88 rfl rfl (rs:=[.tmp 4]) results88 (by simp[ntmps88]) rfl fun X=>?_;simp only[ntmps88];have fw:=(Aq @Ce @w2);refine ab fw [0,1] [] ?_;refine ae fun K1 ay=>?_;have qf:=(Aq fw @h0);refine aB [0,1,10] [] ?_;refine af (by simp) ?_;refine ao (ay _ ?_);refine aP fw hm [0,5,6] [] ?_;refine ae fun K2 aa=>?_;have qf:=(Aq fw @hb);refine aB [0,6,26] [] ?_;refine af (by simp<;>omega) ?_;refine ao (aa _ ?_);have qf:=(Aq fw (Aq @aeM.eq_1 (Aq @cM.eq_1 (Aq @cM.eq_2 @hz))));refine aB [0,7] [30] ?_;have qf:=(Aq fw (Aq @IH (Aq @ho (Aq @qg @h1))));refine aB [7,8] [30] ?_;refine ae fun K3 YS=>?_;refine Zb (S:=Nat) (fun k=>1<=k/\k<=n) (fun k=>⟨aZ [(7,.own 30 0 n),(8,int k)],YH [(30,.sl 3 1 (ir x k n))]⟩) (fun k=>n - k) 1 ?_ ⟨by omega,h1⟩ ?_
 .refine bz fw
 .rintro k ⟨cQ,jd⟩;refine ae fun K4 Y4=>?_;by_cases YJ:k < n
  .have hl:=IH (x:=x) jd;have OK:=UU (x:=x) jd;have fU:=adL (x:=x) (k:=k) (n:=n);have qf:=(Aq fw @YJ);refine aB [7,8,37] [30] ?_;refine YL (by simp<;>omega) ?_;refine ao (Y4 _ ?_);refine YR ?_
   have ml:¬ k=n:=by omega
   refine Kh (aw _) (by kernel_rfl) ([7]) (List.range 10) (by kernel_rfl) fun K' ah=>?_;(repeat (refine V7 rfl fun K2 aa=>?_;simp[Ce,w2,hl,OK,fU,jd,ml];(repeat (refine⟨by omega,?_⟩));refine aa _ ?_;clear aa K2));refine V8 (ah _ ?_);clear ah K';(try simp only[YO,bd]);refine bn.mk (k+min (n - k) k) ⟨by omega,by omega⟩ (by omega) ?_;refine bz fw
  .obtain rfl:k=n:=by omega
   refine ab fw [7,8,37] [30] ?_;refine af (by simp) ?_;refine bY (YS _ ?_);rw[UT];refine ab fw [4] [30] ?_;refine AW.imp (aC.cU (r:=30) (r':=601) (by decide) (by simp)) ?_;refine AW.st (by simp[gr,gq,Go.Av.cU,abl];rfl) ?_;exact aV fw
def tdA:List Int->Nat->AV
 | [],_=>.d (.sl none [])
 | _ :: T,m=>.own 20 m (T.length+1)
theorem ER (G:YI) (p:YM) (aS:Y3 p=none) (jc:(YQ p).length<=6) (hP:YU (bl p)<=4096):aq prog G 38 [fN p] (.aT [eG (iV (aO p)),.v .nilIface]):=by
 have ht:=abE aS;have rC:=ht.pos;have hlen:=nP p;have nE:0 < YU (bl p):=k9 fun x hx=>(jT (ZU aS) hx).m2;have kS:∀ O,j3 (aO p) O []->O=iV (aO p):=fun O h=>zD (sy h) (mZ ht);have bA:=y3 ht
 have w9:∀ s (h:s < (aO p).length),(aO p)[s].length<=64:=fun s h=>by
  rw[uI h,r5];have:=Nat.pow_le_pow_right (n:=2) (by decide) jc;omega
 have me:=xR (aO p)
 have iY:∀ s (h:s < (aO p).length),(eD (aO p))[s]? = some [eG (aO p)[s]]:=fun s h=>by simp[eD,h]
 have w7:=fun n (h1:1<=n) (h2:n<=2^20)=>UY G (-1) n h1 h2
 have hcast:((aO p).length:Int)=YU (bl p):=by rw[hlen];omega
 simp only[fN,jz,lv,cz,cu,iA,eG,YG]at iY w7 ⊢;rw[<- hcast]
 have oM:(aO p).length<=4096:=by omega
 generalize iV (aO p)=F at *;generalize eD (aO p)=NX at *;generalize aO p=TN at *;clear hlen hcast;generalize ((YQ p).map fun n=>[D.v (.int .i64 n)])=IN at *;generalize (bl p).map ZE=PT at *;generalize p.names.map bk=NN at *;generalize p.ar.map bF=RR at *;obtain⟨N,hN⟩:∃ N:Nat,TN.length=N:=⟨_,rfl⟩;rw[hN]at me oM rC bA ⊢;have Qd:=w7 N (by omega) (by omega)
 have PX:0 < N:=by omega
 refine aq.aI (aw _) func38 rfl rfl (rs:=[.tmp 2,.tmp 3]) results38 (by simp[ntmps38]) fun X=>?_;simp only[ntmps38,List.map];have fw:=@YG.eq_1;refine ab fw [0] [] ?_;refine ae fun K1 ay=>?_;refine ab fw [0,10] [] ?_;refine af rfl ?_;refine ao (ay _ ?_);refine rg [0,4] [601] (fun _ _=>trivial) fun K' ah=>?_;(repeat (refine aJ fun K2 aa=>?_;simp[YG];(repeat (refine⟨by omega,?_⟩));refine aa _ ?_;clear aa K2));refine aJ fun K2 aa=>?_;simp[YG];refine bU.pN 12 (by first | rfl | (simp[YG];rfl)) trivial ?_;simp[YG];refine bU.mc (Qd) ?_ ?_ ?_ ?_ ?_<;>simp[YG];refine aa _ ?_;clear aa K2;(repeat (refine aJ fun K2 aa=>?_;simp[YG];(repeat (refine⟨by omega,?_⟩));refine aa _ ?_;clear aa K2));refine YZ (ah _ (AW.st (by simp[YG];rfl) ?_));clear ah K';have qf:=(Aq fw @PX);refine aB [0,4] [601] ?_;refine ae fun K2 aa=>?_;refine ab fw [0,4,5] [601,20] ?_;refine Zb (S:=List Int×List Int×List (List D)) (fun s=>j3 TN s.1 s.2.1) (fun s=>⟨aZ [(0,.d (.ip [.sl none NN,.sl none RR,.v (.int .i64 N),.v (.int .i64 (cR p)),.sl none NX,.sl none PT,.sl none IN])),(4,.own 601 0 N),(5,tdA s.2.1 s.2.2.length)],YH [(601,.sl 3 1 (s.1.map fun n=>[.v (.int .i64 n)])),(20,.sl 3 1 (s.2.2 ++ s.2.1.map fun n=>[.v (.int .i64 n)]))]⟩) (fun s=>2 * jQ s.1+s.2.1.length) ((List.replicate N (-1)).set 0 0,[0],[]) ?_ bA ?_
 .refine aC.cO (fun _ _=>trivial) (by simp[YG,List.map_set,List.map_replicate,tdA]) (by simp[YG,List.map_set,List.map_replicate,tdA])
 .rintro⟨O,T,pr⟩ hb;dsimp only at hb ⊢;refine ae fun K3 YS=>?_
  cases T with
  | nil=>
   simp only[tdA];refine ab fw [0,4,5,23] [601,20] ?_;refine af (by simp) ?_;refine bY (aa _ ?_);obtain rfl:=kS O hb
   have pT:(O.map fun n=>[D.v (.int .i64 n)]).length=N:=by rw[List.length_map,hb.len,hN]
   refine AW.imp (aC.freeze 601 trivial) ?_;refine AW.st (by simp[YG,pT,List.take_of_length_le];rfl) ?_;refine ab fw [2,3] [20] ?_;exact aV fw
  | cons t T=>
   obtain⟨h0,h1,h2⟩:=hb.mem t (by simp);obtain⟨s,rfl⟩:=Int.eq_ofNat_of_zero_le h0
   have Bm:s < N:=by omega
   have lT:s < TN.length:=by omega
   have Y7:(T.length:Int)+1 > 0:=by omega
   simp only[tdA];have qf:=(Aq fw @Y7);refine aB [0,4,5,23] [601,20] ?_;refine YL (by simp<;>omega) ?_;refine ao (YS _ ?_);refine ae fun K4 Y4=>?_;refine YR ?_;have lF:=iY s lT
   have iZ:s < NX.length:=by omega
   have mf:NX[s]=[.sl none (TN[s].map fun n=>[.v (.int .i64 n)])]:=by
    rw[List.getElem?_eq_getElem iZ]at lF;exact Option.some.inj lF
   have dw:=ht.mem _ (List.getElem_mem lT);have N5:=w9 s lT;have Y5:∃ R,TN[s]=R:=⟨_,rfl⟩;obtain⟨R,hR⟩:=Y5
   have Z0:∀ k (h:k < R.length),(R.map fun n=>[D.v (.int .i64 n)])[k]? = some [.v (.int .i64 R[k])]:=fun k h=>by simp[h]
   have wK:(pr ++ List.map (fun n=>[D.v (.int .i64 n)]) ((s:Int) :: T))[pr.length]? = some [.v (.int .i64 s)]:=by simp
   have Gd:(pr ++ List.map (fun n=>[D.v (.int .i64 n)]) ((s:Int) :: T)).length=pr.length+(T.length+1):=by simp
   rw[hR]at mf dw N5
   have b9:(R.map fun n=>[D.v (.int .i64 n)]).length=R.length:=by simp
   have NW:2 * jQ O+T.length<=2 * jQ O+T.length:=Nat.le_refl _;generalize hM:2 * jQ O+T.length=M at NW
   have Xo:2 * jQ O+((s:Int) :: T).length=M+1:=by simp;omega
   generalize Ab:pr ++ List.map (fun n=>[D.v (.int .i64 n)]) ((s:Int) :: T)=DH at wK Gd ⊢;obtain⟨oC,wK⟩:=List.getElem?_eq_some_iff.1 wK;have qf:=(Aq fw (Aq @oC (Aq @wK @Gd)));refine aB [0,4,5,6] [601,20] ?_;have qf:=(Aq fw (Aq @iZ @mf));refine aB [0,4,5,6,35,36,37] [601,20] ?_;subst Ab;refine Zb (S:=Nat×List Int×List Int×List (List D)) (fun q=>q.1<=R.length/\j3 TN q.2.1 ((s:Int) :: q.2.2.1)/\(∀ t∈R.take q.1,jS q.2.1 s t)/\2 * jQ q.2.1+q.2.2.1.length<=M) (fun q=>⟨aZ [(0,.d (.ip [.sl none NN,.sl none RR,.v (.int .i64 N),.v (.int .i64 (cR p)),.sl none NX,.sl none PT,.sl none IN])),(4,.own 601 0 N),(5,.own 20 q.2.2.2.length (q.2.2.1.length+1)),(6,int s),(35,.d (.sl none (R.map fun n=>[.v (.int .i64 n)]))),(36,int R.length),(37,int q.1)],YH [(601,.sl 3 1 (q.2.1.map fun n=>[.v (.int .i64 n)])),(20,.sl 3 1 (q.2.2.2 ++ [.v (.int .i64 s)] :: q.2.2.1.map fun n=>[.v (.int .i64 n)]))]⟩) (fun q=>R.length - q.1) (0,O,T,pr) ?_ ⟨by simp,hb,by simp,by dsimp only;omega⟩ ?_
   .refine bz fw
   .rintro⟨k,O2,T2,uQ⟩ ⟨hk,c6,bp,oK⟩;dsimp only at hk c6 bp oK ⊢;have AG:=c6.zE;simp only[List.length_cons]at AG
    have Xw:T2.length+1<=4096:=by omega
    have Xs:(O2.map fun n=>[D.v (.int .i64 n)]).length=N:=by rw[List.length_map,c6.len,hN]
    refine ab fw [0,4,5,6,35,36,37,38] [601,20] ?_;refine ae fun K5 b8=>?_;refine eM (b:=k < R.length) (by simp[D.le,D.le.go,aQ,YG]) (fun hc=>?_) (fun hc=>?_)
    .refine ao (b8 _ ?_);refine ae fun K6 dD=>?_;refine YR ?_;obtain⟨v0,v1⟩:=dw R[k] (List.getElem_mem hc);obtain⟨u,hu⟩:=Int.eq_ofNat_of_zero_le v0
     have xj:u < N:=by omega
     have qj:u < O2.length:=by rw[c6.len,hN];exact xj
     have GK:s < O2.length:=by rw[c6.len,hN];exact Bm
     have ax:(u:Int)∈TN[s]:=by rw[hR,<- hu];exact List.getElem_mem hc
     have fU:R.take (k+1)=R.take k ++ [(u:Int)]:=by rw[List.take_succ_eq_append_getElem hc,hu]
     have Zm:=(c6.mem (s:Int) (by simp)).2.2;simp only[Int.toNat_natCast]at Zm;have nH:=c6.hi s lT;have Qs:=c6.top _ rfl u (by omega);simp only[Int.toNat_natCast]at Qs
     have oB:0<=((O2.countP fun x=>decide (x < 0):Nat):Int):=by omega
     have qf:=(Aq fw (Aq @hc @hu));refine aB [0,4,5,6,8,35,36,37] [601,20] ?_;by_cases aaM:O2.getD u 0 < 0
     .have GG:=DZ c6 lT (by omega) ax aaM;have Ba:=Ch (x:=O2.getD s 0+1) qj aaM (by omega)
      have Bq:u≠s:=fun e=>by subst e;omega
      have acW:∀ t∈R.take (k+1),jS (O2.set u (O2.getD s 0+1)) s t:=fun t h=>by
       rw[fU]at h
       rcases List.mem_append.1 h with h | h
       .exact Ct (bp t h) Zm aaM
       .obtain rfl:=List.mem_singleton.1 h;unfold jS;rw[Int.toNat_natCast,gU qj,ek Bq];omega
      rw[cr qj]at aaM;rw[cr GK]at GG Ba acW Zm nH;generalize Bf:O2[u]=ov at aaM;generalize gl:O2[s]=sv at *
      have F5:List.take (T2.length+1) (List.drop uQ.length (uQ ++ [D.v (.int .i64 s)] :: T2.map fun n=>[D.v (.int .i64 n)]))=[D.v (.int .i64 s)] :: T2.map fun n=>[D.v (.int .i64 n)]:=by
       rw[List.drop_left,List.take_of_length_le (by simp)]
      have qf:=(Aq fw (Aq @qj (Aq @xj (Aq @Bf @aaM))));refine aB [0,4,5,6,8,35,36,37,45] [601,20] ?_;refine YL (by simp<;>omega) ?_;have qf:=(Aq fw (Aq @qj (Aq @GK (Aq @xj (Aq @Bm @gl)))));refine aB [0,4,5,6,8,35,36,37] [601,20] ?_;refine Kv (aw _) fun K' ah=>?_;(repeat (refine Wg fun K2 aa=>?_;simp[YG,F5];(repeat (refine⟨by omega,?_⟩));(first | refine aa _ ?_ | (intro pre;refine aa _ ?_));clear aa K2));refine Wh (ah _ ?_);clear ah K';refine dD _ (AW.norm [0,4,5,6,35,36,37] [601,20] (fun _ _=>trivial) (AW.st (by simp[YG,F5];rfl) ?_));refine cf fw ?_;(try simp only[YO,bd]);refine bn.mk (k+1,O2.set u (sv+1),T2 ++ [(u:Int)],pre) ⟨by dsimp only;omega,GG,acW,by dsimp only;rw[List.length_append];simp only[List.length_cons,List.length_nil];omega⟩ (by dsimp only;omega) ?_;refine aC.cO (fun _ _=>trivial) (by simp[YG,List.map_set,List.take_of_length_le]) (by simp[YG,List.map_set,List.take_of_length_le])
     .have acW:∀ t∈R.take (k+1),jS O2 s t:=fun t h=>by
       rw[fU]at h
       rcases List.mem_append.1 h with h | h
       .exact bp t h
       .obtain rfl:=List.mem_singleton.1 h;unfold jS;rw[Int.toNat_natCast];omega
      rw[cr qj]at aaM;generalize Bf:O2[u]=ov at aaM;have qf:=(Aq fw (Aq @qj (Aq @xj (Aq @Bf @aaM))));refine aB [0,4,5,6,8,35,36,37,45] [601,20] ?_;refine af (by simp<;>omega) ?_;refine ao (dD _ ?_);refine cf fw ?_;(try simp only[YO,bd]);refine bn.mk (k+1,O2,T2,uQ) ⟨by dsimp only;omega,c6,acW,oK⟩ (by dsimp only;omega) ?_;refine bz fw
    .obtain rfl:k=R.length:=by omega
     rw[List.take_of_length_le (Nat.le_refl _)]at bp;have GC:=adg c6 lT (by rw[hR];exact bp)
     cases T2 with
     | nil=>
      refine bY (Y4 _ ?_);refine cf fw ?_;(try simp only[YO,bd]);refine bn.mk (O2,[],uQ ++ [[D.v (.int .i64 s)]]) GC (by dsimp only;omega) ?_;refine aC.cO (fun _ _=>trivial) (by simp[YG,tdA]) (by simp[YG,tdA])
     | cons u T3=>
      have aG:¬ (1:Int)=(T3.length:Int)+1+1:=by omega
      refine bY (Y4 _ ?_);have qf:=(Aq fw @aG);refine x4 ?_;(try simp only[YO,bd]);refine bn.mk (O2,u :: T3,uQ ++ [[D.v (.int .i64 s)]]) GC (by dsimp only;omega) ?_;refine aC.cO (fun _ _=>trivial) (by simp[YG,tdA]) (by simp[YG,tdA])
structure abW (C:List AV) (n kk N:Nat) (L:List Bool):Prop where
 len:C.length=n
 lt:kk < n
 at':∀ h:kk < C.length,C[kk] = .d (.sl none (L.map fun b=>[.v (.bool b)]))
 tr:∀ o f:Nat->Nat->Nat->AV,o 73 0 N = .own 73 0 N->C.map (AV.tr o f)=C
 kill:∀ r,r≠73->C.map (AV.kill r)=C
theorem UC (G:YI) {n kk N:Nat} {C:List AV} {L:List Bool} (hC:abW C n kk N L) (r:List (List D)) (hn:n<=2^20) (x:Nat) (hx:x < L.length):MC prog G [8,9,46,73] 89 [.d (.v (.int .i64 x)),.ref 8 0 0,.ref 9 0 0] (YH [(8,.box 117 [.own 46 0 n]),(9,.box 3 [.d (.v (.int .i64 ((kk:Int)+1)))]),(46,.box 55 C),(73,.sl 4 1 r)]) (.d (.v (.bool L[x]))) (YH [(8,.box 117 [.own 46 0 n]),(9,.box 3 [.d (.v (.int .i64 ((kk:Int)+1)))]),(46,.box 55 C),(73,.sl 4 1 r)]):=by
 have hl:=hC.len;have YJ:=hC.lt
 have bZ:kk < C.length:=by omega
 have ha:=hC.at' bZ;have eA:=hC.tr;generalize hb:L[x]=b;refine MC.aI (aw _) func89 rfl rfl (rs:=[.tmp 4]) results89 (by simp[ntmps89]) rfl fun X=>?_;simp only[ntmps89];have fw:=@eA;refine ab fw [0,1,2] [8,9,46,73] ?_;have qf:=(Aq fw (Aq @hl (Aq @YJ (Aq @bZ (Aq @ha (Aq @hx @hb))))));refine aB [4] [8,9,46,73] ?_;exact aV (Aq fw @eA)
theorem UD (G:YI) {n kk N:Nat} {C:List AV} {L:List Bool} (hC:abW C n kk N L) (hD:∀ o f:Nat->Nat->Nat->AV,C.map (AV.tr o f)=C) (hn:n<=2^20) (x:Nat) (hx:x < L.length):MC prog G [8,14,46] 91 [.d (.v (.int .i64 x)),.ref 8 0 0,.ref 14 0 0] (YH [(8,.box 117 [.own 46 0 n]),(14,.box 3 [.d (.v (.int .i64 ((kk:Int)+1)))]),(46,.box 55 C)]) (.d (.v (.bool L[x]))) (YH [(8,.box 117 [.own 46 0 n]),(14,.box 3 [.d (.v (.int .i64 ((kk:Int)+1)))]),(46,.box 55 C)]):=by
 have hl:=hC.len;have YJ:=hC.lt
 have bZ:kk < C.length:=by omega
 have ha:=hC.at' bZ;have eA:=hD;generalize hb:L[x]=b;refine MC.aI (aw _) func91 rfl rfl (rs:=[.tmp 4]) results91 (by simp[ntmps91]) rfl fun X=>?_;simp only[ntmps91];have fw:=@eA;refine ab fw [0,1,2] [8,14,46] ?_;have qf:=(Aq fw (Aq @hl (Aq @YJ (Aq @bZ (Aq @ha (Aq @hx @hb))))));refine aB [4] [8,14,46] ?_;exact aV (Aq fw @eA)
theorem QY (G:YI) {n kk N:Nat} {C:List AV} {L:List Bool} (hC:abW C n kk N L) (r:List (List D)) (hn:n<=2^20) (xs:List Int) (hx:∀ x∈xs,0<=x/\x < L.length) (hl:xs.length < 2^40):MC prog G [8,9,46,73] 90 [.d (.sl none (xs.map fun n=>[.v (.int .i64 n)])),.fn (.func 89) [.ref 8 0 0,.ref 9 0 0]] (YH [(8,.box 117 [.own 46 0 n]),(9,.box 3 [.d (.v (.int .i64 ((kk:Int)+1)))]),(46,.box 55 C),(73,.sl 4 1 r)]) (.d (.v (.int .i64 (idx (fun x:Int=>L.getD x.toNat false) xs)))) (YH [(8,.box 117 [.own 46 0 n]),(9,.box 3 [.d (.v (.int .i64 ((kk:Int)+1)))]),(46,.box 55 C),(73,.sl 4 1 r)]):=by
 have hp:=fun (x:Int) (h:x∈xs)=>(show MC prog G [8,9,46,73] 89 [.d (.v (.int .i64 x)),.ref 8 0 0,.ref 9 0 0] (YH [(8,.box 117 [.own 46 0 n]),(9,.box 3 [.d (.v (.int .i64 ((kk:Int)+1)))]),(46,.box 55 C),(73,.sl 4 1 r)]) (.d (.v (.bool (L.getD x.toNat false)))) (YH [(8,.box 117 [.own 46 0 n]),(9,.box 3 [.d (.v (.int .i64 ((kk:Int)+1)))]),(46,.box 55 C),(73,.sl 4 1 r)]) by
  obtain⟨h0,h1⟩:=hx x h;obtain⟨u,rfl⟩:=Int.eq_ofNat_of_zero_le h0;rw[Int.toNat_natCast,cr (by omega)]
  exact UC G hC r hn u (by omega))
 have eA:=hC.tr;refine MC.aI (aw _) func90 rfl rfl (rs:=[.tmp 4]) results90 (by simp[ntmps90]) rfl fun X=>?_;simp only[ntmps90];have fw:=@eA;refine ab fw [0,1] [8,9,46,73] ?_;refine ae fun K1 ay=>?_;refine ab fw [0,1,7,8] [8,9,46,73] ?_;refine Zb (S:=Nat) (fun n=>n<=xs.length/\∀ i (hi:i < xs.length),i < n->(L.getD xs[i].toNat false)=false) (fun n_1=>⟨aZ [(0,.d (.sl none (xs.map fun n=>[.v (.int .i64 n)]))),(1,.fn (.func 89) [.ref 8 0 0,.ref 9 0 0]),(7,int xs.length),(8,int n_1)],YH [(8,.box 117 [.own 46 0 n]),(9,.box 3 [.d (.v (.int .i64 ((kk:Int)+1)))]),(46,.box 55 C),(73,.sl 4 1 r)]⟩) (fun n=>xs.length - n) 0 ?_ (by simp) ?_
 .refine bz (Aq fw @eA)
 .rintro j ⟨hj,jg⟩;refine ab fw [0,1,7,8,9] [8,9,46,73] ?_;refine ae fun K2 aa=>?_;refine eM (b:=j < xs.length) (by simp[D.le,D.le.go,aQ,eA]) (fun hc=>?_) (fun hc=>?_)
  .refine ao (aa _ ?_);refine ae fun K3 YS=>?_;refine YR ?_;have ez:=hp _ (List.getElem_mem hc);have hit:=fun ZA=>oV (p:=fun x:Int=>L.getD x.toNat false) hc ZA fun i hi=>jg i (by omega) hi;generalize jI:L.getD xs[j].toNat false=bv at ez hit;refine ab fw [0,1,5,7,8] [8,9,46,73] ?_;have qf:=(Aq fw @hc);refine ld ez [0,1,5,7,8,16] [8,9,46,73] ?_
   cases bv with
   | true=>
    refine YL rfl ?_;rw[hit rfl];refine ab fw [4] [8,9,46,73] ?_;exact aV (Aq fw @eA)
   | false=>
    refine af rfl ?_;refine ao (YS _ ?_);refine cf fw ?_;(try simp only[YO,bd]);refine bn.mk (j+1) ⟨by omega,fun i hi ax=>?_⟩ (by omega) ?_
    .by_cases h:i=j
     .subst h;exact jI
     .exact jg i hi (by omega)
    refine bz (Aq fw @eA)
  .refine bY (ay _ ?_);have A2:=oW (p:=fun x:Int=>L.getD x.toNat false) (l:=xs) fun i hi=>jg i hi (by omega);rw[A2];refine ab fw [4] [8,9,46,73] ?_;exact aV (Aq fw @eA)
theorem Mb (G:YI) {n kk N:Nat} {C:List AV} {L:List Bool} (hC:abW C n kk N L) (r:List (List D)) (hn:n<=2^20) (xs:List Int) (hx:∀ x∈xs,0<=x/\x < L.length) (hl:xs.length < 2^40):MC prog G [8,9,46,73] 78 [.d (.sl none (xs.map fun n=>[.v (.int .i64 n)])),.fn (.func 89) [.ref 8 0 0,.ref 9 0 0]] (YH [(8,.box 117 [.own 46 0 n]),(9,.box 3 [.d (.v (.int .i64 ((kk:Int)+1)))]),(46,.box 55 C),(73,.sl 4 1 r)]) (.d (.v (.bool (qW xs L)))) (YH [(8,.box 117 [.own 46 0 n]),(9,.box 3 [.d (.v (.int .i64 ((kk:Int)+1)))]),(46,.box 55 C),(73,.sl 4 1 r)]):=by
 have hi:=QY G hC r hn xs hx hl;have eA:=hC.tr;have he:decide (0<=idx (fun x:Int=>L.getD x.toNat false) xs)=qW xs L:=ui _ _;rw[<- he];generalize idx (fun x:Int=>L.getD x.toNat false) xs=ix at hi ⊢;generalize (xs.map fun n=>[D.v (.int .i64 n)])=XS at *;refine MC.aI (aw _) func78 rfl rfl (rs:=[.tmp 4]) results78 (by simp[ntmps78]) rfl fun X=>?_;simp only[ntmps78];have fw:=@eA;refine ab fw [0,1] [8,9,46,73] ?_;refine YT fw hi [4] [8,9,46,73] ?_;exact aV (Aq fw @eA)
theorem QZ (G:YI) {n kk N:Nat} {C:List AV} {L:List Bool} (hC:abW C n kk N L) (hD:∀ o f:Nat->Nat->Nat->AV,C.map (AV.tr o f)=C) (hn:n<=2^20) (xs:List Int) (hx:∀ x∈xs,0<=x/\x < L.length) (hl:xs.length < 2^40):MC prog G [8,14,46] 90 [.d (.sl none (xs.map fun n=>[.v (.int .i64 n)])),.fn (.func 91) [.ref 8 0 0,.ref 14 0 0]] (YH [(8,.box 117 [.own 46 0 n]),(14,.box 3 [.d (.v (.int .i64 ((kk:Int)+1)))]),(46,.box 55 C)]) (.d (.v (.int .i64 (idx (fun x:Int=>L.getD x.toNat false) xs)))) (YH [(8,.box 117 [.own 46 0 n]),(14,.box 3 [.d (.v (.int .i64 ((kk:Int)+1)))]),(46,.box 55 C)]):=by
 have hp:=fun (x:Int) (h:x∈xs)=>(show MC prog G [8,14,46] 91 [.d (.v (.int .i64 x)),.ref 8 0 0,.ref 14 0 0] (YH [(8,.box 117 [.own 46 0 n]),(14,.box 3 [.d (.v (.int .i64 ((kk:Int)+1)))]),(46,.box 55 C)]) (.d (.v (.bool (L.getD x.toNat false)))) (YH [(8,.box 117 [.own 46 0 n]),(14,.box 3 [.d (.v (.int .i64 ((kk:Int)+1)))]),(46,.box 55 C)]) by
  obtain⟨h0,h1⟩:=hx x h;obtain⟨u,rfl⟩:=Int.eq_ofNat_of_zero_le h0;rw[Int.toNat_natCast,cr (by omega)]
  exact UD G hC hD hn u (by omega))
 have eA:=hD;refine MC.aI (aw _) func90 rfl rfl (rs:=[.tmp 4]) results90 (by simp[ntmps90]) rfl fun X=>?_;simp only[ntmps90];have fw:=@eA;refine ab fw [0,1] [8,14,46] ?_;refine ae fun K1 ay=>?_;refine ab fw [0,1,7,8] [8,14,46] ?_;refine Zb (S:=Nat) (fun n=>n<=xs.length/\∀ i (hi:i < xs.length),i < n->(L.getD xs[i].toNat false)=false) (fun n_1=>⟨aZ [(0,.d (.sl none (xs.map fun n=>[.v (.int .i64 n)]))),(1,.fn (.func 91) [.ref 8 0 0,.ref 14 0 0]),(7,int xs.length),(8,int n_1)],YH [(8,.box 117 [.own 46 0 n]),(14,.box 3 [.d (.v (.int .i64 ((kk:Int)+1)))]),(46,.box 55 C)]⟩) (fun n=>xs.length - n) 0 ?_ (by simp) ?_
 .refine bz (Aq fw @eA)
 .rintro j ⟨hj,jg⟩;refine ab fw [0,1,7,8,9] [8,14,46] ?_;refine ae fun K2 aa=>?_;refine eM (b:=j < xs.length) (by simp[D.le,D.le.go,aQ,eA]) (fun hc=>?_) (fun hc=>?_)
  .refine ao (aa _ ?_);refine ae fun K3 YS=>?_;refine YR ?_;have ez:=hp _ (List.getElem_mem hc);have hit:=fun ZA=>oV (p:=fun x:Int=>L.getD x.toNat false) hc ZA fun i hi=>jg i (by omega) hi;generalize jI:L.getD xs[j].toNat false=bv at ez hit;refine ab fw [0,1,5,7,8] [8,14,46] ?_;have qf:=(Aq fw @hc);refine ld ez [0,1,5,7,8,16] [8,14,46] ?_
   cases bv with
   | true=>
    refine YL rfl ?_;rw[hit rfl];refine ab fw [4] [8,14,46] ?_;exact aV (Aq fw @eA)
   | false=>
    refine af rfl ?_;refine ao (YS _ ?_);refine cf fw ?_;(try simp only[YO,bd]);refine bn.mk (j+1) ⟨by omega,fun i hi ax=>?_⟩ (by omega) ?_
    .by_cases h:i=j
     .subst h;exact jI
     .exact jg i hi (by omega)
    refine bz (Aq fw @eA)
  .refine bY (ay _ ?_);have A2:=oW (p:=fun x:Int=>L.getD x.toNat false) (l:=xs) fun i hi=>jg i hi (by omega);rw[A2];refine ab fw [4] [8,14,46] ?_;exact aV (Aq fw @eA)
theorem MX:iV (aO fP)=[0,1]:=by
 have ht:=abE zP;refine zD (mZ ht) ?_;rw[EW];refine⟨rfl,rfl,fun t ht e=>?_,fun s hs=>?_,fun s hs h0 t dw=>?_,fun t ht h0=>?_⟩
 .match t,ht with
  | 0,_=>rfl
  | 1,_=>exact absurd e (by decide)
 .match s,hs with
  | 0,_=>decide
  | 1,_=>decide
 .match s,hs with
  | 0,_=>
   have:t=0\/t=1:=by simpa using dw
   rcases this with rfl | rfl<;>decide
  | 1,_=>
   have:t=1:=by simpa using dw
   subst this;decide
 .match t,ht with
  | 0,_=>exact absurd h0 (by decide)
  | 1,_=>exact⟨0,by decide,by decide,by decide⟩
def ZV (L:List Bool) (s:Nat):List Bool:=L.take s ++ List.replicate (L.length - s) false
theorem abN {L:List Bool} {s:Nat} (h:s<=L.length):(ZV L s).length=L.length:=by simp[ZV];omega
theorem zH (L:List Bool):ZV L 0=List.replicate L.length false:=by simp[ZV]
theorem zF (L:List Bool):ZV L L.length=L:=by simp[ZV]
theorem zG {L:List Bool} {s:Nat} (h:s < L.length):(ZV L s).set s L[s]=ZV L (s+1):=by
 refine zC (d:=false) (by rw[List.length_set,abN (by omega),abN (by omega)]) fun i hi=>?_;rw[List.length_set,abN (by omega)]at hi
 have at':∀ k,k<=L.length->(ZV L k).getD i false=if i < k then L[i] else false:=fun k hk=>by
  rw[cr (by rw[abN hk];exact hi)];unfold ZV;by_cases h:i < k
  .rw[List.getElem_append_left (by rw[List.length_take];omega),if_pos h];simp
  .rw[List.getElem_append_right (by rw[List.length_take];omega),if_neg h];simp
 by_cases e:s=i
 .subst e;rw[gU (by rw[abN (by omega)];exact h),at' _ (by omega),if_pos (by omega)]
 .rw[ek e,at' _ (by omega),at' _ (by omega)];by_cases h2:i < s
  .rw[if_pos h2,if_pos (by omega)]
  .rw[if_neg h2,if_neg (by omega)]
def fq (TN:List (List Int)) (z k:Nat):List AV:=(List.range k).map fun i=>.d (.sl none ((ZC TN z i).map fun b=>[.v (.bool b)]))
theorem dt (TN:List (List Int)) (z k:Nat):(fq TN z k).length=k:=by simp[fq]
theorem cJ (TN:List (List Int)) (z k:Nat) (o f:Nat->Nat->Nat->AV):(fq TN z k).map (AV.tr o f)=fq TN z k:=by
 unfold fq;rw[List.map_map];rfl
theorem dr (TN:List (List Int)) (z k r:Nat):(fq TN z k).map (AV.kill r)=fq TN z k:=by
 unfold fq;rw[List.map_map];rfl
theorem LJ (TN:List (List Int)) (z k:Nat):fq TN z (k+1)=fq TN z k ++ [.d (.sl none ((ZC TN z k).map fun b=>[.v (.bool b)]))]:=by
 unfold fq;rw[List.range_succ,List.map_append];rfl
theorem D6 {TN:List (List Int)} {z k i:Nat} (h:i < k):∀ h2:i < (fq TN z k).length,(fq TN z k)[i] = .d (.sl none ((ZC TN z i).map fun b=>[.v (.bool b)])):=fun h2=>by simp[fq]
def gm:AV:=.d (.sl (some false) [])
theorem cN (o f:Nat->Nat->Nat->AV):AV.tr o f gm=gm:=rfl
theorem ZI (r:Nat):AV.kill r gm=gm:=rfl
theorem TL (m:Nat) (o f:Nat->Nat->Nat->AV):(List.replicate m gm).map (AV.tr o f)=List.replicate m gm:=by rw[List.map_replicate];rfl
theorem TK (m r:Nat):(List.replicate m gm).map (AV.kill r)=List.replicate m gm:=by rw[List.map_replicate];rfl
theorem Ul {TN:List (List Int)} {z kk m N:Nat}:abW (fq TN z (kk+1) ++ .own 73 0 N :: List.replicate m gm) (kk+1+1+m) kk N (ZC TN z kk):=by
 refine⟨by simp[dt];omega,by omega,fun h=>?_,fun o f ho=>?_,fun r hr=>?_⟩
 .rw[List.getElem_append_left (by rw[dt];omega)];exact D6 (by omega) _
 .rw[List.map_append,List.map_cons,cJ,TL];show _ ++ o 73 0 N :: _=_;rw[ho]
 .rw[List.map_append,List.map_cons,dr,TK];show _ ++ (if 73=r then AV.dead else .own 73 0 N) :: _=_;rw[if_neg (fun e=>hr e.symm)]
theorem Um {TN:List (List Int)} {z d kk N:Nat} (h:kk < d+1):abW (fq TN z (d+1)) (d+1) kk N (ZC TN z kk):=
 ⟨dt _ _ _,h,fun h2=>D6 h h2,fun o f _=>cJ _ _ _ o f,fun r _=>dr _ _ _ r⟩
theorem Un (G:YI) (p:YM) (aS:Y3 p=none) (jc:(YQ p).length<=6) (hP:YU (bl p)<=4096) (z:Nat) (hz:z < (aO p).length) (d:Nat) (hd:(iV (aO p)).getD z 0=(d:Int)) (OO:d < 2^19):MC prog G [] 40 [.d (fN p),.d (YG z)] (YH []) (.aT [.own 905 0 d,.d (.v .nilIface)]) (YH [(905,.sl 3 1 ((fe (aO p) z d 0).map fun n=>[.v (.int .i64 n)]))]):=by
 have p3:=ER G p aS jc hP;have ht:=abE aS;have rC:=ht.pos;have Fu:=(mZ ht).len;have hgo:=sS (mZ ht) d z hz hd;have hlen:=nP p;have nE:0 < YU (bl p):=k9 fun x hx=>(jT (ZU aS) hx).m2
 have rL:z < (iV (aO p)).length:=by omega
 rw[cr rL]at hd;generalize iV (aO p)=F at *
 have w9:∀ s (h:s < (aO p).length),(aO p)[s].length<=64:=fun s h=>by
  rw[uI h,r5];have:=Nat.pow_le_pow_right (n:=2) (by decide) jc;omega
 have me:=xR (aO p)
 have iY:∀ s (h:s < (aO p).length),(eD (aO p))[s]? = some [eG (aO p)[s]]:=fun s h=>by simp[eD,h]
 have hcast:((aO p).length:Int)=YU (bl p):=by rw[hlen];omega
 have oM:(aO p).length<=4096:=by omega
 have OL:=fun (kk m N:Nat) (r:List (List D)) (xs:List Int) (h1:kk+1+1+m<=2^20) (h2:∀ x∈xs,0<=x/\x < (ZC (aO p) z kk).length) (h3:xs.length < 2^40)=>Mb G (Ul (TN:=aO p) (z:=z) (kk:=kk) (m:=m) (N:=N)) r h1 xs h2 h3;have Pj:=fun (kk N:Nat) (h:kk < d+1) (xs:List Int) (h2:∀ x∈xs,0<=x/\x < (ZC (aO p) z kk).length) (h3:xs.length < 2^40)=>QZ G (Um (TN:=aO p) (z:=z) (d:=d) (kk:=kk) (N:=N) h) (fun o f=>cJ _ _ _ o f) (by omega) xs h2 h3;have pP:=Hz (aO p) z;have NV:=fun k s (h:s < (aO p).length)=>HA (z:=z) (k:=k) h
 have nh:∀ s (h:s < (aO p).length),(aO p)[s].length < 2^40:=fun s h=>by have:=w9 s h;omega
 have dw:=ht.mem;have hstep:=fun k s (hs:s < (aO p).length) (hg:abe (aO p) (k+1) s z)=>JE ht hz hs hg
 have QE:∀ k s (hs:s < (aO p).length),fe (aO p) z (k+1) s=(iN (aO p) z k s:Int) :: fe (aO p) z k ((aO p)[s].getD (iN (aO p) z k s) 0).toNat:=fun k s hs=>by rw[fe,jV hs]
 have QF:∀ s,fe (aO p) z 0 s=[]:=fun _=>rfl;simp only[fN,jz,lv,cz,cu,iA,eG,YG,<- hcast]at p3 iY ⊢;clear hlen hcast nE ht w9;generalize eD (aO p)=NX at *;generalize aO p=TN at *;obtain⟨N,hN⟩:∃ N:Nat,TN.length=N:=⟨_,rfl⟩;rw[hN]at p3 me oM rC Fu ⊢
 have QJ:z < N:=by omega
 generalize ((YQ p).map fun n=>[D.v (.int .i64 n)])=IN at *;generalize (bl p).map ZE=PT at *;generalize p.names.map bk=NN at *;generalize p.ar.map bF=RR at *
 have h0:¬ (z:Int) < 0:=by omega
 have h1:¬ N<=z:=by omega
 have wX:ZC TN z 0=(List.replicate N false).set z true:=by rw[ZC,hN]
 have ZL:fq TN z 1=[.d (.sl none ((ZC TN z 0).map fun b=>[.v (.bool b)]))]:=rfl
 have eH:¬ (d:Int) < 0:=by omega
 refine MC.aI (aw _) func40 rfl rfl (rs:=[.tmp 4,.tmp 5]) results40 (by simp[ntmps40]) rfl fun X=>?_;simp only[ntmps40];have fw:=(Aq @cN (Aq @ZI (Aq @cJ (Aq @dr @dt))));refine ab fw [0,1] [] ?_;refine aP fw p3 [0,1,6,7] [] ?_;refine ae fun K1 ay=>?_;refine ab fw [0,1,6,7,22] [] ?_;refine af rfl ?_;refine ao (ay _ ?_);refine ae fun K2 aa=>?_;have qf:=(Aq fw (Aq @h0 @h1));refine aB [0,1,6,33] [] ?_;refine af (by simp<;>omega) ?_;refine ao (aa _ ?_);refine ae fun K3 YS=>?_;have qf:=(Aq fw (Aq @rL (Aq @hd @eH)));refine aB [0,1,6,39] [] ?_;refine af (by simp<;>omega) ?_;refine ao (YS _ ?_);have qf:=(Aq fw (Aq @aeM.eq_1 (Aq @cM.eq_1 (Aq @cM.eq_2 (Aq @rL @hd)))));refine aB [0,1,6,8] [46,8] ?_;refine AW.imp (aC.Wu 46 rfl (by simp)) ?_
 refine AW.st (τ:=⟨aZ [(0,.d (.ip [.sl none NN,.sl none RR,.v (.int .i64 N),.v (.int .i64 (cR p)),.sl none NX,.sl none PT,.sl none IN])),(1,int z),(6,.d (.sl none (F.map fun n=>[.v (.int .i64 n)]))),(8,.ref 8 0 0)],YH [(46,.box 55 (gm :: List.replicate d gm)),(8,.box 117 [.own 46 0 (d+1)])]⟩) (by
  have e:List.replicate (d+1) gm=gm :: List.replicate d gm:=rfl;rw[<- e];congr 1;simp only[GV,List.map_replicate]
  exact Gq (by simp[gm]) (by simp[gm])) ?_
 refine adb (aw _) (by kernel_rfl) ([]) ([]) (List.range 8) [0,1,6,8] [46,8,52] (cH rfl) (by kernel_rfl) fun K' ah=>?_;(repeat (refine kF rfl fun K2 aa=>?_;simp[cN,ZI,cJ,dr,dt,aeM,cM];(repeat (refine⟨by omega,?_⟩));refine aa _ ?_;clear aa K2));refine qH (ah _ ?_);refine AW.st (by simp[cN,ZI,cJ,dr,dt,aeM,cM];rfl) ?_;clear ah K';have qf:=(Aq fw @QJ);refine aB [0,1,6,8] [46,8,52] ?_;refine AW.imp (aC.freeze 52 (by decide)) ?_;refine AW.st (by simp[cN,ZI,cJ,dr,dt];rfl) ?_;refine ae fun K4 Y4=>?_;refine ab fw [0,1,6,8,9] [46,8,9] ?_;refine Zb (S:=Nat) (fun k=>1<=k/\k<=d+1) (fun k=>⟨aZ [(0,.d (.ip [.sl none NN,.sl none RR,.v (.int .i64 N),.v (.int .i64 (cR p)),.sl none NX,.sl none PT,.sl none IN])),(1,int z),(6,.d (.sl none (F.map fun n=>[.v (.int .i64 n)]))),(8,.ref 8 0 0),(9,.ref 9 0 0)],YH [(46,.box 55 (fq TN z k ++ List.replicate (d+1 - k) gm)),(8,.box 117 [.own 46 0 (d+1)]),(9,.box 3 [int k])]⟩) (fun k=>d+1 - k) 1 ?_ ⟨by omega,by omega⟩ ?_
 .refine aC.cO (cH rfl) (by simp[cN,ZI,cJ,dr,dt,ZL,wX,List.map_set,List.map_replicate,cN]) (by simp[cN,ZI,cJ,dr,dt,ZL,wX,List.map_set,List.map_replicate,cN])
 .rintro k ⟨cQ,jd⟩;refine ae fun K5 b8=>?_;by_cases jO:k<=d
  .obtain⟨kk,rfl⟩:∃ kk,k=kk+1:=⟨k - 1,by omega⟩;obtain⟨m,hm⟩:∃ m,d+1 - (kk+1)=m+1:=⟨d - (kk+1),by omega⟩
   have AP:(kk:Int)+1<=(d:Int):=by omega
   have kU:kk+1 < d+1:=by omega
   have w7:List.replicate (m+1) gm=gm :: List.replicate m gm:=rfl;rw[hm,w7]
   have kV:∀ x,(fq TN z (kk+1) ++ x :: List.replicate m gm).length=d+1:=fun x=>by simp[dt];omega
   have hT:∀ R,List.take (kk+1) (fq TN z (kk+1) ++ R)=fq TN z (kk+1):=fun R=>List.take_left' (dt _ _ _);have kf:∀ R,List.drop (kk+1) (fq TN z (kk+1) ++ R)=R:=fun R=>List.drop_left' (dt _ _ _)
   have Fo:∀ x R,List.drop (kk+1+1) (fq TN z (kk+1) ++ x :: R)=R:=fun x R=>by
    rw[<- List.drop_drop,kf];rfl
   have qf:=(Aq fw (Aq @rL (Aq @hd @AP)));refine aa9 [0,1,6,8,9,64] [46,8,9] ?_;refine YL (by simp<;>omega) ?_;refine ao (b8 _ ?_);refine ae fun K6 dD=>?_;refine YR ?_;refine adb (aw _) (by kernel_rfl) ([]) ([]) (List.range 9) [0,1,6,8,9] [46,8,9,73] (cH rfl) (by kernel_rfl) fun K' ah=>?_;(repeat (refine kF rfl fun K2 aa=>?_;simp[cN,ZI,cJ,dr,dt,aeM,cM,hT,kf,Fo,kV,kU];(repeat (refine⟨by omega,?_⟩));refine aa _ ?_;clear aa K2));refine qH (ah _ ?_);refine AW.st (by simp[cN,ZI,cJ,dr,dt,aeM,cM,hT,kf,Fo,kV,kU];rfl) ?_;clear ah K';refine ab fw [0,1,6,8,9,78,79,80] [46,8,9,73] ?_;refine Zb (S:=Nat) (fun s=>s<=N) (fun s=>⟨aZ [(0,.d (.ip [.sl none NN,.sl none RR,.v (.int .i64 N),.v (.int .i64 (cR p)),.sl none NX,.sl none PT,.sl none IN])),(1,int z),(6,.d (.sl none (F.map fun n=>[.v (.int .i64 n)]))),(8,.ref 8 0 0),(9,.ref 9 0 0),(78,.d (.sl none NX)),(79,int NX.length),(80,int s)],YH [(46,.box 55 (fq TN z (kk+1) ++ .own 73 0 N :: List.replicate m gm)),(8,.box 117 [.own 46 0 (d+1)]),(9,.box 3 [int ((kk:Int)+1)]),(73,.sl 4 1 ((ZV (ZC TN z (kk+1)) s).map fun b=>[.v (.bool b)]))]⟩) (fun s=>N - s) 0 ?_ (by omega) ?_
   .rw[zH,pP,hN];refine aC.cO (cH rfl) (by simp[cN,ZI,cJ,dr,dt,List.map_replicate,cN,cJ]) (by simp[cN,ZI,cJ,dr,dt,List.map_replicate,cN,cJ])
   .intro s hs;refine ab fw [0,1,6,8,9,78,79,80,81] [46,8,9,73] ?_;refine ae fun K7 dY=>?_;by_cases YJ:s < N
    .have bZ:s < NX.length:=by omega
     have fA:(s:Int) < (NX.length:Int):=by omega
     have acC:s < TN.length:=by omega
     refine YL (by simp<;>omega) ?_;refine ao (dY _ ?_);refine ae fun K8 Zl=>?_;refine YR ?_
     have mf:NX[s]=[.sl none (TN[s].map fun n=>[.v (.int .i64 n)])]:=by
      have lF:=iY s acC;rw[List.getElem?_eq_getElem bZ]at lF;exact Option.some.inj lF
     have Fx:s < (ZC TN z (kk+1)).length:=by rw[pP];exact acC
     have kT:=zG Fx;have gl:=NV kk s acC;rw[cr Fx]at gl;rw[gl]at kT;have dM:=abN (L:=ZC TN z (kk+1)) (s:=s) (by omega);rw[pP,hN]at dM
     have hsF:s < (ZV (ZC TN z (kk+1)) s).length:=by omega
     have wE:=OL kk m N ((ZV (ZC TN z (kk+1)) s).map fun b=>[.v (.bool b)]) TN[s] (by omega) (fun x hx=>by
      rw[pP];exact dw _ (List.getElem_mem acC) x hx) (nh s acC)
     rw[show kk+1+1+m=d+1 by omega]at wE;generalize TN[s]=R at mf wE kT;generalize qW R (ZC TN z kk)=b at wE kT;have qf:=(Aq fw (Aq @bZ @mf));refine aB [0,1,6,8,9,10,11,78,79,80] [46,8,9,73] ?_;refine Ku (aw _) (by kernel_rfl) ([7]) (List.range 10) (by kernel_rfl) fun K' ah=>?_;(repeat (refine C6 rfl fun K2 aa=>?_;simp[cN,ZI,cJ,dr,dt,kf,kV,kU,hsF,YJ];(repeat (refine⟨by omega,?_⟩));refine aa _ ?_;clear aa K2));refine C6 rfl fun K2 aa=>?_;simp[cN,ZI,cJ,dr,dt,kf,kV,kU,hsF,YJ];refine hqK.mc (wE) (by simp[cN,ZI,cJ,dr,dt,kf,kV,kU,hsF,YJ]) (by simp[cN,ZI,cJ,dr,dt,kf,kV,kU,hsF,YJ]) (by simp[cN,ZI,cJ,dr,dt,kf,kV,kU,hsF,YJ]) (by simp[cN,ZI,cJ,dr,dt,kf,kV,kU,hsF,YJ]) (by simp[cN,ZI,cJ,dr,dt,kf,kV,kU,hsF,YJ];exact Gq (by simp) (by simp)) ?_;simp[cN,ZI,cJ,dr,dt,kf,kV,kU,hsF,YJ];refine aa _ ?_;clear aa K2;(repeat (refine C6 rfl fun K2 aa=>?_;simp[cN,ZI,cJ,dr,dt,kf,kV,kU,hsF,YJ];(repeat (refine⟨by omega,?_⟩));refine aa _ ?_;clear aa K2));refine We (ah _ ?_);clear ah K';refine Zl _ (AW.norm [0,1,6,8,9,78,79,80] [46,8,9,73] (cH rfl) (AW.st (by simp[cN,ZI,cJ,dr,dt,kf,kV,kU,hsF,YJ];rfl) ?_));refine cf fw ?_;(try simp only[YO,bd]);refine bn.mk (s+1) (by omega) (by omega) ?_;rw[<- kT];refine aC.cO (cH rfl) (by simp[cN,ZI,cJ,dr,dt,List.map_set,cN,cJ]) (by simp[cN,ZI,cJ,dr,dt,List.map_set,cN,cJ])
    .obtain rfl:s=N:=by omega
     have fA:¬ (s:Int) < (NX.length:Int):=by omega
     refine af (by simp<;>omega) ?_;refine bY (dD _ ?_)
     have aea:ZV (ZC TN z (kk+1)) s=ZC TN z (kk+1):=by
      have:=zF (ZC TN z (kk+1));rw[pP,hN]at this;exact this
     rw[aea]
     have oF:((ZC TN z (kk+1)).map fun b=>[D.v (.bool b)]).length=s:=by rw[List.length_map,pP,hN]
     refine AW.imp (aC.freeze 73 (by decide)) ?_;refine AW.st (by simp[cN,ZI,cJ,dr,dt,oF,List.take_of_length_le];rfl) ?_;refine ae fun K9 hK9=>?_;refine ab fw [0,1,6,8,95] [46,8] ?_;refine gJ fw hK9 [0,1,6,8,9] [46,8,9] ?_;refine cf fw ?_;(try simp only[YO,bd]);have bR:=LJ TN z (kk+1)
     have hm2:d+1 - (kk+1+1)=m:=by omega
     refine bn.mk (kk+1+1) ⟨by omega,by omega⟩ (by omega) ?_;rw[bR,hm2];refine aC.cO (cH rfl) (by simp[cN,ZI,cJ,dr,dt,List.append_assoc,cN,cJ]) (by simp[cN,ZI,cJ,dr,dt,List.append_assoc,cN,cJ])
  .obtain rfl:k=d+1:=by omega
   have AP:¬ (d:Int)+1<=(d:Int):=by omega
   have ik:d+1 - (d+1)=0:=by omega
   rw[ik];simp only[List.replicate_zero,List.append_nil];have qf:=(Aq fw (Aq @rL (Aq @hd @AP)));refine aa9 [0,1,6,8,9,64] [46,8,9] ?_;refine af (by simp<;>omega) ?_;refine bY (Y4 _ ?_);refine ab fw [0,1,6,8,12] [46,8] ?_;refine ab fw [0,1,6,8,12,13] [46,8] ?_;refine ae fun qT iX=>?_;have qf:=(Aq fw (Aq @rL @hd));refine aB [0,8,12,13,14] [46,8,14] ?_;generalize hW:fe TN z d 0=W;refine Zb (S:=Nat×Nat×List Int) (fun q=>q.1<=d/\q.2.1 < TN.length/\abe TN q.1 q.2.1 z/\q.2.2.length<=d/\q.2.2 ++ fe TN z q.1 q.2.1=W/\q.2.2.length+q.1=d) (fun q=>⟨aZ [(0,.d (.ip [.sl none NN,.sl none RR,.v (.int .i64 N),.v (.int .i64 (cR p)),.sl none NX,.sl none PT,.sl none IN])),(8,.ref 8 0 0),(12,.own 905 0 q.2.2.length),(13,int q.2.1),(14,.ref 14 0 0)],YH [(46,.box 55 (fq TN z (d+1))),(8,.box 117 [.own 46 0 (d+1)]),(14,.box 3 [int q.1]),(905,.sl 3 1 (q.2.2.map fun n=>[.v (.int .i64 n)]))]⟩) (fun q=>q.1) (d,0,[]) ?_ ⟨by simp,by dsimp only;omega,hgo,by simp,hW,by simp⟩ ?_
   .refine (aC.lu 12 905 3 1 rfl rfl).trans ?_;refine aC.cO (cH rfl) (by simp[cN,ZI,cJ,dr,dt,cN,cJ,dr]) (by simp[cN,ZI,cJ,dr,dt,cN,cJ,dr])
   .rintro⟨k,s,out⟩ ⟨hk,hs,hg,Be,how,Qo⟩;dsimp only at hk hs hg Be how Qo ⊢
    have pT:(out.map fun n=>[D.v (.int .i64 n)]).length=out.length:=by simp
    refine ae fun DC sX=>?_
    cases k with
    | zero=>
     rw[QF,List.append_nil]at how;subst how;refine ab fw [0,8,12,13,14,101] [46,8,14,905] ?_;refine af (by simp) ?_;refine bY (iX _ ?_)
     have NY:out.length=d:=by omega
     refine ab fw [4,5] [905] ?_;exact aV (Aq fw (Aq @hW @NY))
    | succ k=>
     have Pu:(k:Int)+1 > 0:=by omega
     have qf:=(Aq fw @Pu);refine aB [0,8,12,13,14,101] [46,8,14,905] ?_;refine YL (by simp<;>omega) ?_;refine ao (sX _ ?_);refine ae fun DD sY=>?_;refine YR ?_
     have Bm:s < N:=by omega
     have rG:s < NX.length:=by omega
     have mf:NX[s]=[.sl none (TN[s].map fun n=>[.v (.int .i64 n)])]:=by
      have lF:=iY s hs;rw[List.getElem?_eq_getElem rG]at lF;exact Option.some.inj lF
     obtain⟨hi,he,v0,v1,wL⟩:=hstep k s hs hg;have GY:=QE k s hs;rw[cr hi]at GY
     have Gg:=Pj k N (by omega) TN[s] (fun x hx=>by
      rw[pP];exact dw _ (List.getElem_mem hs) x hx) (nh s hs)
     rw[he]at Gg;rw[GY]at how;obtain⟨u,hu⟩:=Int.eq_ofNat_of_zero_le v0;rw[hu,Int.toNat_natCast]at v1 wL how
     have b9:(TN[s].map fun n=>[D.v (.int .i64 n)]).length=TN[s].length:=by simp
     generalize iN TN z k s=i at *;generalize TN[s]=R at *;have qf:=(Aq fw (Aq @rG @mf));refine ld Gg [0,8,12,13,14,15] [46,8,14,905] ?_;refine rg [0,8,12,13,14,15] [46,8,14,905] (cH rfl) fun K' ah=>?_;(repeat (refine aJ fun K2 aa=>?_;simp[cN,ZI,cJ,dr,dt,pT,List.take_of_length_le];(repeat (refine⟨by omega,?_⟩));refine aa _ ?_;clear aa K2));refine YZ (ah _ (AW.st (by simp[cN,ZI,cJ,dr,dt,pT,List.take_of_length_le];rfl) ?_));clear ah K';have qf:=(Aq fw (Aq @rG (Aq @mf (Aq @hi @hu))));refine gK sY [0,8,12,13,14] [46,8,14,905] ?_;refine ae fun DE sZ=>?_;refine ab fw [0,8,12,13,127] [46,8,905] ?_;refine gJ fw sZ [0,8,12,13,14] [46,8,14,905] ?_;refine cf fw ?_;(try simp only[YO,bd]);refine bn.mk (k,u,out ++ [(i:Int)]) ⟨by dsimp only;omega,v1,wL,by dsimp only;rw[List.length_append];simp only[List.length_cons,List.length_nil];omega,by rw[List.append_assoc];exact how,by dsimp only;rw[List.length_append];simp only[List.length_cons,List.length_nil];omega⟩ (by dsimp only;omega) ?_;refine aC.cO (cH rfl) (by simp[cN,ZI,cJ,dr,dt,cN,cJ,dr]) (by simp[cN,ZI,cJ,dr,dt,cN,cJ,dr])
def iz (l:List Int):D:=if l=[] then .sl (some false) [] else .sl (some true) (l.map fun n=>[.v (.int .i64 n)])
theorem pF {l:List Int} (h:l=[]):iz l = .sl (some false) []:=if_pos h
theorem mW {l:List Int} (h:l≠[]):iz l = .sl (some true) (l.map fun n=>[.v (.int .i64 n)]):=if_neg h
theorem LL (G:YI) (p:YM) (aS:Y3 p=none) (e:Ex) (hb:bE e<=2^28) (fB:jv p e=true):aq prog G 48 [fN p,dE e] (.aT [.v (.bool false),iz [],.bh 40 (.v (.int .i64 7))]):=by
 have hgd:=E7 G p aS e hb fB;obtain⟨ta,ca,he⟩:=dX e;have mh:iz [] = .sl (some false) []:=rfl;have ZM:∃ c,fN p = .ip c:=⟨_,rfl⟩;obtain⟨c,ZM⟩:=ZM;simp only[he,ZM,mh]at hgd ⊢;refine aq.aI (aw _) func48 rfl rfl (rs:=[.tmp 4,.tmp 5,.tmp 6]) results48 (by simp[ntmps48]) fun X=>?_;simp only[ntmps48,List.map];refine al [0,1] [] ?_;refine aP trivial hgd [0,7,8] [] ?_;refine ae fun K1 ay=>?_;refine al [0,7,8,26] [] ?_;refine YL rfl ?_;refine al [4,5,6] [] ?_;exact dK
theorem D9 (G:YI) (p:YM) (aS:Y3 p=none) (hk:∀ r∈p.ar,j4 r) (jc:(YQ p).length<=6) (hP:YU (bl p)<=4096) (e:Ex) (hw:cD e) (hb:bE e<=2^28) (fB:jv p e=false):aq prog G 48 [fN p,dE e] (.aT [.v (.bool (decide (Y1 p e=[]))),iz (Y1 p e),.v .nilIface]):=by
 have hgd:=E8 G p aS hk jc hP e hw hb fB;have wI:=ER G p aS jc hP;have ht:=abE aS;have Ft:=mZ ht;have wJ:=EO ht;have hlen:=nP p;have nE:0 < YU (bl p):=k9 fun x hx=>(jT (ZU aS) hx).m2
 have hcast:((aO p).length:Int)=YU (bl p):=by rw[hlen];omega
 have oM:(aO p).length<=4096:=by omega
 have Bg:=fun (z:Nat) (hz:z < (aO p).length) (d:Nat) (hd:(iV (aO p)).getD z 0=(d:Int))=>Un G p aS jc hP z hz d hd (by have:=wJ z hz;omega);have hWl:=fun z d=>yn (aO p) z d 0;have Y7:=re p e
 have Z0:∀ s (h:s < (gg p e).length),(gg p e)[s].length<=64:=fun s h=>by
  rw[rb,rf];exact Nat.pow_le_pow_right (n:=2) (by decide) jc
 have Fu:=Ft.len;have fj:=fun l hl=>Hl G false l hl;have fi:=fun l hl=>Hi G false l hl;have Ap:=fun a b ha hb=>LW G (some true) (some true) a b ha hb;unfold Y1 uO;generalize iV (aO p)=F at *;generalize gg p e=GD at *
 have pS:∀ k (h:k < GD.length) (hf:k < F.length),gH F GD (k+1)=if 0<=F[k]/\0<=idx (fun x=>false == x) GD[k]/\(gH F GD k < 0\/F[k] < gH F GD k) then F[k] else gH F GD k:=fun k h hf=>by rw[gH,cr h,cr hf];rfl
 have Fy:gH F GD 0 = -1:=rfl
 have lD:∀ (m:Int) k (h:k < GD.length) (hf:k < F.length),aaa (aO p) F GD m (k+1)=if idx (fun x=>false == x) GD[k] < 0\/m < 0\/F[k]≠m then aaa (aO p) F GD m k else if aaa (aO p) F GD m k=[]\/aam (fe (aO p) k m.toNat 0 ++ [idx (fun x=>false == x) GD[k]]) (aaa (aO p) F GD m k) < 0 then fe (aO p) k m.toNat 0 ++ [idx (fun x=>false == x) GD[k]] else aaa (aO p) F GD m k:=fun m k h hf=>by
  rw[aaa,qL,cr h,cr hf];rfl
 have wk:∀ m,aaa (aO p) F GD m 0=[]:=fun _=>rfl
 have gV:∀ (m:Int) k,k<=GD.length->m.toNat<=4096->(aaa (aO p) F GD m k).length<=4097:=fun m k hk hm=>by
  rcases vy (aO p) F GD m k with⟨h,_⟩ | ⟨_,s,_,_,_,h⟩
  .rw[h];simp
  .rw[h,qL,List.length_append,yn];simp only[List.length_cons,List.length_nil];omega
 have z6:∀ k,k<=GD.length->gH F GD k<=4096:=fun k hk=>by
  rcases uG F GD k with⟨h,_⟩ | ⟨_,⟨s,h1,h2,_⟩,_⟩
  .omega
  .have:=wJ s (by omega);omega
 obtain⟨NR,Fz⟩:∃ NR:Nat->Int,∀ k,gH F GD k=NR k:=⟨_,fun _=>rfl⟩;simp only[Fz]at pS Fy z6 ⊢;rw[<- Y7];have Xr:=z6 GD.length (Nat.le_refl _);generalize aec:NR GD.length=ef at *;have sV:=lD ef;have Fh:=wk ef;have Fk:=fun k hk=>gV ef k hk (by omega);clear lD wk gV;obtain⟨BN,Fj⟩:∃ BN:Nat->List Int,∀ k,aaa (aO p) F GD ef k=BN k:=⟨_,fun _=>rfl⟩;simp only[Fj]at sV Fh Fk ⊢;clear Fz Fj;obtain⟨WG,FP⟩:∃ WG:Nat->Nat->List Int,∀ z d,fe (aO p) z d 0=WG z d:=⟨_,fun _ _=>rfl⟩;simp only[FP]at Bg sV hWl;clear FP;obtain⟨ta,ca,he⟩:=dX e;simp only[he,fN,jz,lv,cz,cu,iA,eG,YG,vN,eW,<- hcast]at hgd wI Bg ⊢;clear hlen hcast nE hP ht Ft;generalize eD (aO p)=NX at *;generalize (aO p).length=N at *;generalize cR p=NI at *;generalize ((YQ p).map fun n=>[D.v (.int .i64 n)])=IN at *;generalize (bl p).map ZE=PT at *;generalize p.names.map bk=NN at *;generalize p.ar.map bF=RR at *;refine aq.aI (aw _) func48 rfl rfl (rs:=[.tmp 4,.tmp 5,.tmp 6]) results48 (by simp[ntmps48]) fun X=>?_;simp only[ntmps48,List.map];refine al [0,1] [] ?_;refine aP trivial hgd [0,7,8] [] ?_;refine ae fun K1 ay=>?_;refine al [0,7,26] [] ?_;refine af rfl ?_;refine ao (ay _ ?_);refine aP trivial wI [0,7,8,9] [] ?_;refine ae fun K2 aa=>?_;refine al [0,7,9,34] [] ?_;refine af rfl ?_;refine ao (aa _ ?_);refine al [0,7,9,10] [] ?_;refine ae fun K3 YS=>?_;refine al [0,7,9,10,36,37,38] [] ?_;refine Zb (S:=Nat) (fun k=>k<=GD.length) (fun k=>⟨aZ [(0,.d (.ip [.sl none NN,.sl none RR,.v (.int .i64 N),.v (.int .i64 NI),.sl none NX,.sl none PT,.sl none IN])),(7,.d (.sl none (GD.map fun x=>[.sl none (x.map fun b=>[.v (.bool b)])]))),(9,.d (.sl none (F.map fun n=>[.v (.int .i64 n)]))),(10,int (NR k)),(36,.d (.sl none (GD.map fun x=>[.sl none (x.map fun b=>[.v (.bool b)])]))),(37,int GD.length),(38,int k)],YH []⟩) (fun k=>GD.length - k) 0 ?_ (by omega) ?_
 .refine bz @Fy
 .intro k ZP;refine al [0,7,9,10,36,37,38,39] [] ?_;refine ae fun K4 Y4=>?_;by_cases YJ:k < GD.length
  .have hkF:k < F.length:=by omega
   have s4:=pS k YJ hkF;have jM:=fi GD[k] (by have:=Z0 k YJ;omega);generalize AJ:GD[k]=g at *;generalize jN:F[k]=f at *;generalize idx (fun x=>false == x) g=ni at *;generalize NR k=nr at *;refine YL (by simp<;>omega) ?_;refine ao (Y4 _ ?_);refine ae fun K5 b8=>?_;refine YR ?_;have qf:=(Aq @YJ @AJ);refine aB [0,7,9,10,11,12,36,37,38] [] ?_;by_cases mi:f >= 0
   .by_cases hni:0<=ni
    .rw[decide_eq_true hni]at jM;by_cases gk:nr < 0
     .have qf:=(Aq @hkF (Aq @jN (Aq @mi @gk)));refine eu jM [0,7,9,10,11,36,37,38,63] [] ?_;refine YL (by simp<;>omega) ?_;have qf:=(Aq @hkF @jN);refine gK b8 [0,7,9,10,36,37,38] [] ?_;refine eL ?_;(try simp only[YO,bd]);refine bn.mk (k+1) (by omega) (by omega) ?_;rw[s4,if_pos (by refine⟨by omega,by omega,by omega⟩)];refine ZH
     .by_cases nu:f < nr
      .have qf:=(Aq @hkF (Aq @jN (Aq @mi (Aq @gk @nu))));refine eu jM [0,7,9,10,11,36,37,38,63] [] ?_;refine YL (by simp<;>omega) ?_;have qf:=(Aq @hkF @jN);refine gK b8 [0,7,9,10,36,37,38] [] ?_;refine eL ?_;(try simp only[YO,bd]);refine bn.mk (k+1) (by omega) (by omega) ?_;rw[s4,if_pos (by refine⟨by omega,by omega,by omega⟩)];refine ZH
      .have qf:=(Aq @hkF (Aq @jN (Aq @mi (Aq @gk @nu))));refine eu jM [0,7,9,10,11,36,37,38,63] [] ?_;refine af (by simp<;>omega) ?_;refine ao (b8 _ ?_);refine eL ?_;(try simp only[YO,bd]);refine bn.mk (k+1) (by omega) (by omega) ?_;rw[s4,if_neg (by rintro⟨h1,h2,h3⟩;omega)];refine ZH
    .rw[decide_eq_false hni]at jM;have qf:=(Aq @hkF (Aq @jN @mi));refine eu jM [0,7,9,10,11,36,37,38,63] [] ?_;refine af (by simp<;>omega) ?_;refine ao (b8 _ ?_);refine eL ?_;(try simp only[YO,bd]);refine bn.mk (k+1) (by omega) (by omega) ?_;rw[s4,if_neg (by rintro⟨h1,h2,h3⟩;omega)];refine ZH
   .have qf:=(Aq @hkF (Aq @jN @mi));refine aB [0,7,9,10,11,36,37,38,63] [] ?_;refine af (by simp<;>omega) ?_;refine ao (b8 _ ?_);refine eL ?_;(try simp only[YO,bd]);refine bn.mk (k+1) (by omega) (by omega) ?_;rw[s4,if_neg (by rintro⟨h1,h2,h3⟩;omega)];refine ZH
  .obtain rfl:k=GD.length:=by omega
   refine af (by simp) ?_;refine bY (YS _ ?_);rw[aec];clear pS z6;refine al [0,7,9,10,13] [] ?_;refine ae fun K6 dD=>?_;refine al [0,9,10,13,69,70,71] [] ?_;refine Zb (S:=Nat) (fun k=>k<=GD.length) (fun k=>⟨aZ [(0,.d (.ip [.sl none NN,.sl none RR,.v (.int .i64 N),.v (.int .i64 NI),.sl none NX,.sl none PT,.sl none IN])),(9,.d (.sl none (F.map fun n=>[.v (.int .i64 n)]))),(10,int ef),(13,.d (iz (BN k))),(69,.d (.sl none (GD.map fun x=>[.sl none (x.map fun b=>[.v (.bool b)])]))),(70,int GD.length),(71,int k)],YH []⟩) (fun k=>GD.length - k) 0 ?_ (by omega) ?_
   .rw[Fh,pF rfl];refine ZH
   .intro k ZP;refine al [0,9,10,13,69,70,71,72] [] ?_;refine ae fun K7 dY=>?_;by_cases YJ:k < GD.length
    .have hkF:k < F.length:=by omega
     have lE:=sV k YJ hkF;have wS:=fj GD[k] (by have:=Z0 k YJ;omega);have ZO:=Fk k (by omega);have GA:=Bg k (by omega);rw[cr hkF]at GA;generalize AJ:GD[k]=g at *;generalize jN:F[k]=f at *;generalize idx (fun x=>false == x) g=ni at *;generalize BN k=B at *;refine YL (by simp<;>omega) ?_;refine ao (dY _ ?_);refine ae fun K8 Zl=>?_;refine YR ?_;have qf:=(Aq @YJ @AJ);refine aB [0,9,10,13,14,15,69,70,71] [] ?_;refine aP trivial wS [0,9,10,13,14,16,69,70,71] [] ?_;refine ae fun K9 hK9=>?_;by_cases hni:ni < 0
     .have qf:=@hni;refine aB [0,9,10,13,14,16,69,70,71,91] [] ?_;refine YL (by simp<;>omega) ?_;refine bY (Zl _ ?_);refine eL ?_;(try simp only[YO,bd]);refine bn.mk (k+1) (by omega) (by omega) ?_;rw[lE,if_pos (by omega)];refine ZH
     .by_cases gk:ef < 0
      .have qf:=(Aq @hni @gk);refine aB [0,9,10,13,14,16,69,70,71,91] [] ?_;refine YL (by simp<;>omega) ?_;refine bY (Zl _ ?_);refine eL ?_;(try simp only[YO,bd]);refine bn.mk (k+1) (by omega) (by omega) ?_;rw[lE,if_pos (by omega)];refine ZH
      .by_cases nu:f=ef
       .subst nu;rw[if_neg (by omega)]at lE;obtain⟨d,rfl⟩:=Int.eq_ofNat_of_zero_le (show 0<=f by omega);rw[Int.toNat_natCast]at lE;have PU:=GA d rfl;have ij:=hWl k d
        have pT:((WG k d).map fun n=>[D.v (.int .i64 n)]).length=d:=by simp[ij]
        have qf:=(Aq @hni (Aq @gk (Aq @hkF @jN)));refine aB [0,9,10,13,14,16,69,70,71,91] [] ?_;refine af (by simp<;>omega) ?_;refine ao (hK9 _ ?_);refine YT trivial PU [0,9,10,13,16,17,18,69,70,71] [905] ?_;refine ae fun qT iX=>?_;refine al [0,9,10,13,16,17,69,70,71,99] [905] ?_;refine af rfl ?_;refine ao (iX _ ?_);refine rg [0,9,10,13,17,69,70,71] [905] (fun _ _=>trivial) fun K' ah=>?_;(repeat (refine aJ fun K2 aa=>?_;simp[pT,List.take_of_length_le];(repeat (refine⟨by omega,?_⟩));refine aa _ ?_;clear aa K2));refine YZ (ah _ (AW.st (by simp[pT,List.take_of_length_le];rfl) ?_));clear ah K'
        have pW:((WG k d).map fun n=>[D.v (.int .i64 n)]) ++ [[D.v (.int .i64 ni)]]=(WG k d ++ [ni]).map fun n=>[D.v (.int .i64 n)]:=by simp
        have Ae:(WG k d ++ [ni]).length=d+1:=by simp[ij]
        simp only[pW];generalize WG k d ++ [ni]=W at *
        have hWn:W≠[]:=fun h=>by rw[h]at Ae;cases Ae
        have Oh:(W.map fun n=>[D.v (.int .i64 n)]).length=d+1:=by simp[Ae]
        refine AW.imp (aC.freeze 905 trivial) ?_;refine AW.st (by simp[Oh,List.take_of_length_le];rfl) ?_;refine AW.Cl 17 rfl ?_ (fun h=>absurd (List.map_eq_nil_iff.1 h) hWn);refine AW.st (by simp;rfl) ?_;have FR:=mW hWn;by_cases mb:B=[]
        .rw[if_pos (.inl mb)]at lE;rw[pF mb];refine al [0,9,10,13,17,69,70,71,112] [] ?_;refine YL (by simp<;>omega) ?_;refine gJ trivial Zl [0,9,10,13,69,70,71] [] ?_;refine eL ?_;(try simp only[YO,bd]);refine bn.mk (k+1) (by omega) (by omega) ?_;rw[lE,FR];refine ZH
        .have adD:=Ap W B (by omega) (by omega);rw[mW mb];by_cases bZ:aam W B < 0
         .rw[if_pos (.inr bZ)]at lE;generalize aam W B=c at *;have qf:=@bZ;refine eu adD [0,9,10,13,17,69,70,71,112] [] ?_;refine YL (by simp<;>omega) ?_;refine gJ trivial Zl [0,9,10,13,69,70,71] [] ?_;refine eL ?_;(try simp only[YO,bd]);refine bn.mk (k+1) (by omega) (by omega) ?_;rw[lE,FR];refine ZH
         .rw[if_neg (by simp[mb,bZ])]at lE;generalize aam W B=c at *;have qf:=@bZ;refine eu adD [0,9,10,13,17,69,70,71,112] [] ?_;refine af (by simp<;>omega) ?_;refine ao (Zl _ ?_);refine eL ?_;(try simp only[YO,bd]);refine bn.mk (k+1) (by omega) (by omega) ?_;rw[lE,mW mb];refine ZH
       .have qf:=(Aq @hni (Aq @gk (Aq @hkF (Aq @jN @nu))));refine aB [0,9,10,13,14,16,69,70,71,91] [] ?_;refine YL (by simp<;>omega) ?_;refine bY (Zl _ ?_);refine eL ?_;(try simp only[YO,bd]);refine bn.mk (k+1) (by omega) (by omega) ?_;rw[lE,if_pos (by omega)];refine ZH
    .obtain rfl:k=GD.length:=by omega
     refine af (by simp) ?_;refine bY (dD _ ?_);generalize BN GD.length=B at *;by_cases mb:B=[]
     .rw[pF mb];refine al [4,5,6] [] ?_;refine b7 ?_;simp[D.le,D.le.go,aQ,mb,pF]
     .rw[mW mb];refine al [4,5,6] [] ?_;exact aV @mb
def pH (v:Nat×Nat×List Int):D:=.agg [.v (.int .i64 v.1),.v (.int .i64 v.2.1),iz v.2.2]
theorem G7 (G:YI) (p:YM) (aS:Y3 p=none) (e:Ex) (hb:bE e<=2^28) (fB:jv p e=true) (most:Int):aq prog G 54 [fN p,dE e,.v (.int .i64 most)] (.aT [pH (0,0,[]),.bh 40 (.v (.int .i64 7))]):=by
 have hgd:=E7 G p aS e hb fB;obtain⟨ta,ca,he⟩:=dX e;have lH:pH (0,0,[]) = .agg [.v (.int .i64 0),.v (.int .i64 0),.sl (some false) []]:=rfl;have ZM:∃ c,fN p = .ip c:=⟨_,rfl⟩;obtain⟨c,ZM⟩:=ZM;simp only[he,ZM,lH]at hgd ⊢;refine aq.aI (aw _) func54 rfl rfl (rs:=[.cell 6 109,.tmp 7]) results54 (by simp[ntmps54]) fun X=>?_;simp only[ntmps54,List.map];refine ab (Aq @cM.eq_1 @cM.eq_2) [0,1,2,6] [6] ?_;refine aP trivial hgd [0,1,2,6,8,9] [6] ?_;refine ae fun K1 ay=>?_;refine al [0,1,2,6,8,9,28] [6] ?_;refine YL rfl ?_;refine ab (Aq @cM.eq_1 @cM.eq_2) [6,7] [6] ?_;exact dK
def l6 (p:YM) (e:Ex) (k s i:Nat):Bool:=(List.range i).any fun j=>jE p e s j && (da p e k).getD ((kA (aO p) s).getD j 0).toNat false
theorem KQ (p:YM) (e:Ex) (k s:Nat):l6 p e k s 0=false:=rfl
theorem KP (p:YM) (e:Ex) (k s i:Nat):l6 p e k s (i+1)=(l6 p e k s i || (jE p e s i && (da p e k).getD ((kA (aO p) s).getD i 0).toNat false)):=by
 unfold l6;rw[List.range_succ,List.any_append];simp
theorem Ls {p:YM} {e:Ex} {k s:Nat} (h:s < (da p e (k+1)).length):(da p e (k+1))[s]=l6 p e k s (cR p):=by simp[da,l6]
theorem KT (l:List Bool):decide (0<=idx (fun x=>true == x) l)=l.any id:=by
 rw[ui];congr 1;funext x;cases x<;>rfl
theorem BL (G:YI) (p:YM) (aS:Y3 p=none) (hk:∀ r∈p.ar,j4 r) (jc:(YQ p).length<=6) (hP:YU (bl p)<=4096) (e:Ex) (hw:cD e) (hb:bE e<=2^28) (fB:jv p e=false) (most:Nat) (oJ:1<=most) (hm2:most<=50):aq prog G 54 [fN p,dE e,.v (.int .i64 most)] (.aT [pH (fE (Y1 p e) (da p e) most most 1),.v .nilIface]):=by
 have hgd:=E8 G p aS hk jc hP e hw hb fB;have Zz:=D9 G p aS hk jc hP e hw hb fB;have ht:=abE aS;have dw:=ht.mem;have hlen:=nP p;have nE:0 < YU (bl p):=k9 fun x hx=>(jT (ZU aS) hx).m2
 have hcast:((aO p).length:Int)=YU (bl p):=by rw[hlen];omega
 have oM:(aO p).length<=4096:=by omega
 have wx:cR p<=64:=Nat.pow_le_pow_right (n:=2) (by decide) jc;have Y7:=re p e;have gh:∀ s (h:s < (gg p e).length),(gg p e)[s]=fQ p e s:=fun s h=>rb h;have Z0:=rf p e;have GI:∀ s i (h:i < (fQ p e s).length),(fQ p e s)[i]=jE p e s i:=fun s i h=>wg h
 have iY:∀ s (h:s < (aO p).length),(eD (aO p))[s]? = some [eG (aO p)[s]]:=fun s h=>by simp[eD,h]
 have me:=xR (aO p)
 have nh:∀ s (h:s < (aO p).length),(aO p)[s].length=cR p:=fun s h=>by rw[uI h,r5];rfl
 have fi:=fun b l hl=>Hi G b l hl
 have wk:∀ s (h:s < (da p e 0).length),(da p e 0)[s]=decide (0<=idx (fun x=>false == x) (fQ p e s)):=fun s h=>by
  simp only[da,List.getElem_map];rw[rb];rfl
 have gV:=vx p e;have lD:∀ k s (h:s < (da p e (k+1)).length),(da p e (k+1))[s]=l6 p e k s (cR p):=fun k s h=>Ls h;have Fg:=KQ p e
 have nc:∀ k s i (h:s < (aO p).length) (hi:i < (aO p)[s].length) (hu:(aO p)[s][i].toNat < (da p e k).length),l6 p e k s (i+1)=(l6 p e k s i || (jE p e s i && (da p e k)[(aO p)[s][i].toNat])):=fun k s i h hi hu=>by
  rw[KP,jV h,cr hi,cr hu]
 have zW:∀ k,fE (Y1 p e) (da p e) most 0 k=(3,most,[]):=fun _=>rfl;have NP:∀ n k,fE (Y1 p e) (da p e) most (n+1) k=if Y1 p e≠[]/\(Y1 p e).length<=k then (2,k,Y1 p e) else if (da p e k).any id=false then (1,k,[]) else fE (Y1 p e) (da p e) most n (k+1):=fun _ _=>rfl
 have Fq:(Y1 p e=[]/\iz (Y1 p e) = .sl (some false) [])\/(Y1 p e≠[]/\iz (Y1 p e) = .sl (some true) ((Y1 p e).map fun n=>[.v (.int .i64 n)])):=by
  by_cases h:Y1 p e=[]
  .exact .inl ⟨h,pF h⟩
  .exact .inr ⟨h,mW h⟩
 generalize hV:fE (Y1 p e) (da p e) most most 1=V;obtain⟨AN,Fb⟩:∃ AN:Nat->Nat->Nat->Bool,∀ k s i,l6 p e k s i=AN k s i:=⟨_,fun _ _ _=>rfl⟩;obtain⟨EV,sW⟩:∃ EV:Nat->Nat->Bool,∀ s i:Nat,jE p e s i=EV s i:=⟨_,fun _ _=>rfl⟩;simp only[Fb,sW]at Fg nc lD GI;clear Fb sW;have lH:∀ v,pH v = .agg [.v (.int .i64 v.1),.v (.int .i64 v.2.1),iz v.2.2]:=fun _=>rfl;have mh:iz [] = .sl (some false) []:=rfl;obtain⟨ta,ca,he⟩:=dX e;simp only[he,fN,jz,lv,cz,cu,iA,eG,YG,vN,eW,<- hcast]at hgd Zz iY ⊢;clear hlen hcast nE hP ht;generalize Xm:fE (Y1 p e) (da p e) most=IK at *;generalize NG:iz (Y1 p e)=DP at *;generalize FE:Y1 p e=gO at *;generalize gg p e=GD at *;generalize fQ p e=GR at *;generalize da p e=kJ at *;clear FE;generalize eD (aO p)=NX at *;generalize aO p=TN at *;obtain⟨N,hN⟩:∃ N:Nat,TN.length=N:=⟨_,rfl⟩;rw[hN]at me Y7 oM;simp only[hN]at gV dw hgd Zz ⊢;generalize cR p=NI at *;generalize ((YQ p).map fun n=>[D.v (.int .i64 n)])=IN at *;generalize (bl p).map ZE=PT at *;generalize p.names.map bk=NN at *;generalize p.ar.map bF=RR at *
 have PD:¬ (most:Int) < 1:=by omega
 have aeb:¬ (most:Int) > 50:=by omega
 refine aq.aI (aw _) func54 rfl rfl (rs:=[.cell 6 109,.tmp 7]) results54 (by simp[ntmps54]) fun X=>?_;simp only[ntmps54,List.map];refine ab (Aq @cM.eq_1 @cM.eq_2) [0,1,2,6] [6] ?_;refine aP trivial hgd [0,1,2,6,8,9] [6] ?_;refine ae fun K1 ay=>?_;refine al [0,1,2,6,8,28] [6] ?_;refine af rfl ?_;refine ao (ay _ ?_);refine ae fun K2 aa=>?_;have qf:=(Aq @PD @aeb);refine aB [0,1,2,6,8,36] [6] ?_;refine af (by simp<;>omega) ?_;refine ao (aa _ ?_);refine aP trivial Zz [0,2,6,8,9,11] [6] ?_;refine ae fun K3 YS=>?_;refine al [0,2,6,8,11,47] [6] ?_;refine af rfl ?_;refine ao (YS _ ?_);refine ab (Aq @aeM.eq_1 (Aq @cM.eq_1 @cM.eq_2)) [0,2,6,8,11,12] [6,54] ?_;refine ae fun K4 Y4=>?_;refine al [0,2,6,8,11,12,55,56,57] [6,54] ?_;refine Zb (S:=Nat) (fun s=>s<=N) (fun s=>⟨aZ [(0,.d (.ip [.sl none NN,.sl none RR,.v (.int .i64 N),.v (.int .i64 NI),.sl none NX,.sl none PT,.sl none IN])),(2,int most),(6,.ref 6 0 0),(8,.d (.sl none (GD.map fun x=>[.sl none (x.map fun b=>[.v (.bool b)])]))),(11,.d DP),(12,.own 54 0 N),(55,.d (.sl none (GD.map fun x=>[.sl none (x.map fun b=>[.v (.bool b)])]))),(56,int GD.length),(57,int s)],YH [(6,.box 109 [int 0,int 0,.d (.sl (some false) [])]),(54,.sl 4 1 ((ZV (kJ 0) s).map fun b=>[.v (.bool b)]))]⟩) (fun s=>N - s) 0 ?_ (by omega) ?_
 .rw[zH,gV];refine aC.cO (fun _ _=>trivial) (by simp[List.map_replicate]) (by simp[List.map_replicate])
 .intro s hs;refine al [0,2,6,8,11,12,55,56,57,58] [6,54] ?_;refine ae fun K5 b8=>?_;by_cases YJ:s < N
  .have rF:s < GD.length:=by omega
   have tU:s < (kJ 0).length:=by rw[gV];exact YJ
   have rj:=gh s rF;have w8:=Z0 s;have wo:=wk s tU;have kT:=zG tU;have dM:=abN (L:=kJ 0) (s:=s) (by omega);rw[wo]at kT
   have hsF:s < (ZV (kJ 0) s).length:=by omega
   have jM:=fi false (GR s) (by omega);generalize GR s=g at *;generalize decide (0<=idx (fun x=>false == x) g)=b at *;refine YL (by simp<;>omega) ?_;refine ao (b8 _ ?_);refine ae fun K6 dD=>?_;refine YR ?_;have qf:=(Aq @rF @rj);refine aB [0,2,6,8,11,12,13,14,55,56,57] [6,54] ?_;refine ff (aw _) fun K' ah=>?_;(repeat (refine aJ fun K2 aa=>?_;simp[hsF,YJ];(repeat (refine⟨by omega,?_⟩));refine aa _ ?_;clear aa K2));refine aJ fun K2 aa=>?_;simp[hsF,YJ];refine bU.data (jM) (by simp;rfl) (by first | exact D.ba _ | simp[aQ,List.map_map,Function.comp_def,D.le,D.le.go,D.le_refl,D.ba,hsF,YJ]) ?_;refine aa _ ?_;clear aa K2;simp only[au,cw];(repeat (refine aJ fun K2 aa=>?_;simp[hsF,YJ];(repeat (refine⟨by omega,?_⟩));refine aa _ ?_;clear aa K2));refine YZ (ah _ ?_);clear ah K';refine dD _ (AW.norm [0,2,6,8,11,12,55,56,57] [6,54] (fun _ _=>trivial) (AW.st (by simp[hsF,YJ];rfl) ?_));refine eL ?_;(try simp only[YO,bd]);refine bn.mk (s+1) (by omega) (by omega) ?_;rw[<- kT];refine aC.cO (fun _ _=>trivial) (by simp[List.map_set]) (by simp[List.map_set])
  .obtain rfl:s=N:=by omega
   have p3:ZV (kJ 0) s=kJ 0:=by
    have:=zF (kJ 0);rw[gV]at this;exact this
   rw[p3];refine af (by simp<;>omega) ?_;refine bY (Y4 _ ?_);refine ae fun K7 dY=>?_;refine al [0,2,6,8,11,12,15] [6,54] ?_;generalize pS:s=N at *;refine AW.imp (aC.cU trivial (r:=54) (r':=700) (by simp)) ?_;refine AW.st (by simp[gr,gq,Go.Av.cU,abl];rfl) ?_;refine Zb (S:=Nat) (fun j=>j<=most/\IK (most - j) (j+1)=V) (fun j=>⟨aZ [(0,.d (.ip [.sl none NN,.sl none RR,.v (.int .i64 N),.v (.int .i64 NI),.sl none NX,.sl none PT,.sl none IN])),(2,int most),(6,.ref 6 0 0),(8,.d (.sl none (GD.map fun x=>[.sl none (x.map fun b=>[.v (.bool b)])]))),(11,.d DP),(12,.own 700 0 N),(15,int ((j:Int)+1))],YH [(6,.box 109 [int 0,int 0,.d (.sl (some false) [])]),(700,.sl 4 1 ((kJ j).map fun b=>[.v (.bool b)]))]⟩) (fun j=>most - j) 0 ?_ ⟨by omega,by simpa using hV⟩ ?_
   .refine ZH
   .rintro j ⟨hj,hIV⟩;refine ae fun K8 Zl=>?_;refine al [0,2,6,8,11,12,15,70] [6,700] ?_;by_cases wU:j < most
    .obtain⟨n,hn⟩:∃ n,most - j=n+1:=⟨most - j - 1,by omega⟩;rw[hn,NP]at hIV;have Xj:=gV j;have Fi:=gV (j+1);have sV:=lD j;have ad4:=Fg j;have Ny:=nc j;generalize wm:kJ (j+1)=B1 at *;generalize kJ j=B at *;refine YL (by simp<;>omega) ?_;refine ao (Zl _ ?_);refine ae fun K9 hK9=>?_;refine YR ?_;refine ae fun qT iX=>?_;by_cases Bj:gO≠[]/\gO.length<=j+1
     .obtain⟨jg,hle⟩:=Bj;rw[if_pos ⟨jg,hle⟩]at hIV
      have hd:DP = .sl (some true) (gO.map fun n=>[.v (.int .i64 n)]):=by
       rcases Fq with⟨h,_⟩ | ⟨_,h⟩
       .exact absurd h jg
       .exact h
      have FF:(gO.map fun n=>[D.v (.int .i64 n)]).length=gO.length:=by simp
      have hV2:V=(2,j+1,gO):=hIV.symm
      have bR:(((j+1:Nat)):Int)=(j:Int)+1:=by omega
      rw[hV2,lH];simp only[NG,hd,bR];generalize (gO.map fun n=>[D.v (.int .i64 n)])=PE at *
      have adn:(PE.length:Int)<=(j:Int)+1:=by omega
      have qf:=@adn;refine aB [0,2,6,8,11,12,15,80] [6,700] ?_;refine YL (by simp<;>omega) ?_;refine al [6,7] [6] ?_;exact dK
     rw[if_neg Bj]at hIV
     refine' xB (fun YV=>?_) ?_
     rotate_left
     .rcases Fq with⟨jg,hd⟩ | ⟨jg,hd⟩
      .have qf:=@hd;refine aB [0,2,6,8,11,12,15,80] [6,700] ?_;refine AW.st (τ:=⟨aZ [(0,.d (.ip [.sl none NN,.sl none RR,.v (.int .i64 N),.v (.int .i64 NI),.sl none NX,.sl none PT,.sl none IN])),(2,int most),(6,.ref 6 0 0),(8,.d (.sl none (GD.map fun x=>[.sl none (x.map fun b=>[.v (.bool b)])]))),(11,.d DP),(12,.own 700 0 N),(15,int ((j:Int)+1)),(80,.d (.v (.bool false)))],YH [(6,.box 109 [int 0,int 0,.d (.sl (some false) [])]),(700,.sl 4 1 (B.map fun b=>[.v (.bool b)]))]⟩) (by rw[hd];rfl) ?_;refine af rfl ?_;refine ao (iX _ ?_);exact YV.out
      .have adn:¬ (gO.length:Int)<=(j:Int)+1:=fun h=>Bj ⟨jg,by omega⟩;have qf:=(Aq @hd @adn);refine aB [0,2,6,8,11,12,15,80] [6,700] ?_;refine AW.st (τ:=⟨aZ [(0,.d (.ip [.sl none NN,.sl none RR,.v (.int .i64 N),.v (.int .i64 NI),.sl none NX,.sl none PT,.sl none IN])),(2,int most),(6,.ref 6 0 0),(8,.d (.sl none (GD.map fun x=>[.sl none (x.map fun b=>[.v (.bool b)])]))),(11,.d DP),(12,.own 700 0 N),(15,int ((j:Int)+1)),(80,.d (.v (.bool false)))],YH [(6,.box 109 [int 0,int 0,.d (.sl (some false) [])]),(700,.sl 4 1 (B.map fun b=>[.v (.bool b)]))]⟩) (by rw[hd];rfl) ?_;refine af rfl ?_;refine ao (iX _ ?_);exact YV.out
     .refine ab (Aq @aeM.eq_1 (Aq @cM.eq_1 @cM.eq_2)) [0,2,6,8,11,12,15,16] [6,88,700] ?_;refine ae fun DC sX=>?_;refine al [0,2,6,8,11,12,15,16,92,93,94] [6,88,700] ?_;refine Zb (S:=Nat) (fun s=>s<=N) (fun s=>⟨aZ [(0,.d (.ip [.sl none NN,.sl none RR,.v (.int .i64 N),.v (.int .i64 NI),.sl none NX,.sl none PT,.sl none IN])),(2,int most),(6,.ref 6 0 0),(8,.d (.sl none (GD.map fun x=>[.sl none (x.map fun b=>[.v (.bool b)])]))),(11,.d DP),(12,.own 700 0 N),(15,int ((j:Int)+1)),(16,.own 88 0 N),(92,.d (.sl none NX)),(93,int NX.length),(94,int s)],YH [(6,.box 109 [int 0,int 0,.d (.sl (some false) [])]),(88,.sl 4 1 ((ZV B1 s).map fun b=>[.v (.bool b)])),(700,.sl 4 1 (B.map fun b=>[.v (.bool b)]))]⟩) (fun s=>N - s) 0 ?_ (by omega) ?_
      .rw[zH,Fi];refine aC.cO (fun _ _=>trivial) (by simp[List.map_replicate]) (by simp[List.map_replicate])
      .intro s hs;refine al [0,2,6,8,11,12,15,16,92,93,94,95] [6,88,700] ?_;refine ae fun DD sY=>?_;by_cases YJ:s < N
       .have rG:s < NX.length:=by omega
        have lT:s < TN.length:=by omega
        have rF:s < GD.length:=by omega
        have tU:s < B1.length:=by omega
        have mf:NX[s]=[.sl none (TN[s].map fun n=>[.v (.int .i64 n)])]:=by
         have lF:=iY s lT;rw[List.getElem?_eq_getElem rG]at lF;exact Option.some.inj lF
        have rj:=gh s rF;have w8:=Z0 s;have P4:=GI s;have Od:=nh s lT;have Qr:=dw _ (List.getElem_mem lT);have NB:=ad4 s;have Nz:=fun i=>Ny s i lT;have kT:=zG tU;rw[sV s tU]at kT;have dM:=abN (L:=B1) (s:=s) (by omega)
        have hsF:s < (ZV B1 s).length:=by omega
        have hf0:(ZV B1 s).set s false=ZV B1 s:=by
         unfold ZV
         have e:B1.length - s=(B1.length - s - 1)+1:=by omega
         rw[List.set_append_right _ _ (by simp;omega),e,List.replicate_succ]
         have e2:s - (B1.take s).length=0:=by simp;omega
         rw[e2];rfl
        generalize AN j s=A at *;generalize GR s=g at *;generalize TN[s]=R at *;generalize EV s=ev at *;generalize ZV B1 s=FB at *;refine YL (by simp<;>omega) ?_;refine ao (sY _ ?_);refine ae fun DE sZ=>?_;refine YR ?_;have qf:=(Aq @rG @mf);refine aB [0,2,6,8,11,12,15,16,17,18,92,93,94] [6,88,700] ?_;refine al [0,2,6,8,11,12,15,16,17,92,93,94,99,100,101] [6,88,700] ?_;refine Zb (S:=Nat) (fun i=>i<=R.length) (fun i=>⟨aZ [(0,.d (.ip [.sl none NN,.sl none RR,.v (.int .i64 N),.v (.int .i64 NI),.sl none NX,.sl none PT,.sl none IN])),(2,int most),(6,.ref 6 0 0),(8,.d (.sl none (GD.map fun x=>[.sl none (x.map fun b=>[.v (.bool b)])]))),(11,.d DP),(12,.own 700 0 N),(15,int ((j:Int)+1)),(16,.own 88 0 N),(17,int s),(92,.d (.sl none NX)),(93,int NX.length),(94,int s),(99,.d (.sl none (R.map fun n=>[.v (.int .i64 n)]))),(100,int R.length),(101,int i)],YH [(6,.box 109 [int 0,int 0,.d (.sl (some false) [])]),(88,.sl 4 1 ((FB.set s (A i)).map fun b=>[.v (.bool b)])),(700,.sl 4 1 (B.map fun b=>[.v (.bool b)]))]⟩) (fun i=>R.length - i) 0 ?_ (by omega) ?_
        .rw[NB,hf0];refine ZH
        .intro i hi
         have xc:FB.set s (A (i+1))=(FB.set s (A i)).set s (A (i+1)):=by rw[List.set_set]
         have tW:s < (FB.set s (A i)).length:=by rw[List.length_set];exact hsF
         have gl:(FB.set s (A i))[s]=A i:=by simp
         have tX:(FB.set s (A i)).length=N:=by rw[List.length_set];omega
         have kS:i=R.length->FB.set s (A i)=ZV B1 (s+1):=fun h=>by rw[h,Od];exact kT
         generalize FB.set s (A i)=F1 at xc tW gl tX kS ⊢;refine al [0,2,6,8,11,12,15,16,17,92,93,94,99,100,101,102] [6,88,700] ?_;refine ae fun KA zZ=>?_;by_cases eI:i < R.length
         .have AL:i < g.length:=by omega
          have oC:=P4 i AL;obtain⟨v0,v1⟩:=Qr R[i] (List.getElem_mem eI);obtain⟨u,hu⟩:=Int.eq_ofNat_of_zero_le v0
          have Qw:u < B.length:=by omega
          have ma:=Nz i eI (by omega);simp only[hu,Int.toNat_natCast]at ma;clear kS;generalize A i=a at ma gl;generalize ev i=ee at ma oC;generalize NC:B[u]=bu at ma;refine YL (by simp<;>omega) ?_;refine ao (zZ _ ?_);refine ae fun KB ack=>?_;refine YR ?_;have qf:=(Aq @eI @hu);refine aB [0,2,6,8,11,12,15,16,17,19,20,92,93,94,99,100,101] [6,88,700] ?_
          cases a with
          | true=>
           simp only[Bool.true_or]at ma;have qf:=(Aq @tW (Aq @gl (Aq @YJ @tX)));refine gK ack [0,2,6,8,11,12,15,16,17,92,93,94,99,100,101] [6,88,700] ?_;refine eL ?_;(try simp only[YO,bd]);refine bn.mk (i+1) (by omega) (by omega) ?_;rw[xc,ma];refine aC.cO (fun _ _=>trivial) (by simp[List.map_set]) (by simp[List.map_set])
          | false=>
           cases ee with
           | true=>
            simp only[Bool.false_or,Bool.true_and]at ma;have qf:=(Aq @tW (Aq @gl (Aq @YJ (Aq @tX (Aq @rF (Aq @rj (Aq @AL (Aq @oC (Aq @Qw @NC)))))))));refine gK ack [0,2,6,8,11,12,15,16,17,92,93,94,99,100,101] [6,88,700] ?_;refine eL ?_;(try simp only[YO,bd]);refine bn.mk (i+1) (by omega) (by omega) ?_;rw[xc,ma];refine aC.cO (fun _ _=>trivial) (by simp[List.map_set]) (by simp[List.map_set])
           | false=>
            simp only[Bool.false_or,Bool.false_and]at ma;have qf:=(Aq @tW (Aq @gl (Aq @YJ (Aq @tX (Aq @rF (Aq @rj (Aq @AL @oC)))))));refine gK ack [0,2,6,8,11,12,15,16,17,92,93,94,99,100,101] [6,88,700] ?_;refine eL ?_;(try simp only[YO,bd]);refine bn.mk (i+1) (by omega) (by omega) ?_;rw[xc,ma];refine aC.cO (fun _ _=>trivial) (by simp[List.map_set]) (by simp[List.map_set])
         .have hF1:=kS (by omega);subst hF1;refine af (by simp<;>omega) ?_;refine bY (sZ _ ?_);refine eL ?_;(try simp only[YO,bd]);refine bn.mk (s+1) (by omega) (by omega) ?_;refine ZH
       .obtain rfl:s=N:=by omega
        have p3:ZV B1 s=B1:=by
         have:=zF B1;rw[Fi]at this;exact this
        rw[p3];have jM:=fi true B1 (by omega);rw[KT]at jM
        have jH:(B1.map fun b=>[D.v (.bool b)]).length=s:=by simp;omega
        refine af (by simp<;>omega) ?_;refine bY (sX _ ?_);refine al [0,2,6,8,11,12,15] [6,88] ?_
        cases nj:B1.any id with
        | false=>
         rw[if_pos nj]at hIV;rw[nj]at jM;have hV2:V=(1,j+1,[]):=hIV.symm
         have bR:(((j+1:Nat)):Int)=(j:Int)+1:=by omega
         rw[hV2,lH];simp only[mh,bR];refine rg [0,2,6,8,11,12,15,133] [6,88] (fun _ _=>trivial) fun K' ah=>?_;(repeat (refine aJ fun K2 aa=>?_;simp[jH,List.take_of_length_le];(repeat (refine⟨by omega,?_⟩));refine aa _ ?_;clear aa K2));refine aJ fun K2 aa=>?_;simp[jH,List.take_of_length_le];refine bU.aa3 (jM) (by simp[jH,List.take_of_length_le];rfl) (by first | exact D.ba _ | simp[aQ,List.map_map,Function.comp_def,D.le,D.le.go,D.le_refl,D.ba,jH,List.take_of_length_le]) (by simp[D.scalar,jH,List.take_of_length_le]) ?_;refine aa _ ?_;clear aa K2;simp only[au,cw];(repeat (refine aJ fun K2 aa=>?_;simp[jH,List.take_of_length_le];(repeat (refine⟨by omega,?_⟩));refine aa _ ?_;clear aa K2));refine YZ (ah _ (AW.st (by simp[jH,List.take_of_length_le];rfl) ?_));clear ah K';refine YL rfl ?_;refine al [6,7] [6] ?_;exact dK
        | true=>
         rw[if_neg (by rw[nj];decide)]at hIV;rw[nj]at jM;refine rg [0,2,6,8,11,12,15,133] [6,88] (fun _ _=>trivial) fun K' ah=>?_;(repeat (refine aJ fun K2 aa=>?_;simp[jH,List.take_of_length_le];(repeat (refine⟨by omega,?_⟩));refine aa _ ?_;clear aa K2));refine aJ fun K2 aa=>?_;simp[jH,List.take_of_length_le];refine bU.aa3 (jM) (by simp[jH,List.take_of_length_le];rfl) (by first | exact D.ba _ | simp[aQ,List.map_map,Function.comp_def,D.le,D.le.go,D.le_refl,D.ba,jH,List.take_of_length_le]) (by simp[D.scalar,jH,List.take_of_length_le]) ?_;refine aa _ ?_;clear aa K2;simp only[au,cw];(repeat (refine aJ fun K2 aa=>?_;simp[jH,List.take_of_length_le];(repeat (refine⟨by omega,?_⟩));refine aa _ ?_;clear aa K2));refine YZ (ah _ (AW.st (by simp[jH,List.take_of_length_le];rfl) ?_));clear ah K';refine af rfl ?_;refine ao (hK9 _ ?_);refine AW.imp (aC.cU trivial (r:=88) (r':=700) (by simp)) ?_;refine AW.st (by simp[gr,gq,Go.Av.cU,abl];rfl) ?_;refine eL ?_;(try simp only[YO,bd]);refine bn.mk (j+1) ⟨by omega,by rw[show most - (j+1)=n from by omega];exact hIV⟩ (by omega) ?_;rw[wm];refine ZH
    .obtain rfl:j=most:=by omega
     rw[Nat.sub_self,zW]at hIV;have hV2:V=(3,j,[]):=hIV.symm;have F6:=lH (3,j,[]);simp only[mh]at F6;have A6:(((3:Nat)):Int)=3:=rfl;refine af (by simp<;>omega) ?_;refine bY (dY _ ?_);rw[hV2,F6];simp only[A6];refine al [6,7] [6] ?_;exact dK
def aaH:Ex:=.or [.not (.bit [97]),.bit [109]]
theorem EN:cD aaH:=by simp only[aaH,cD,pB];exact⟨by simp,by decide +kernel,by decide +kernel,trivial⟩
theorem EM:Zx [33,97,32,124,32,109]=(some aaH,none):=by
 have ht:aX aaH 0=[33,97,32,124,32,109]:=by simp[aaH,aX,wrL,Lib.join,List.intercalate]
 have:=Ud EN (by simp[aaH,dpI,lA,du,l8]) (by rw[ht];simp);rw[ht]at this;exact this
theorem ML:bE aaH<=10000:=uM (t:=[33,97,32,124,32,109]) (by rw[EM])
theorem M0:YW fP [97]=0:=by kernel_rfl
theorem MO:jv fP aaH=false:=by
 unfold jv;rw[List.any_eq_false];intro s hs;have:=qq.1 hs;simp[aaH,Y6,eg,cG,gI]at this
 rcases this with rfl | rfl
 .rw[M0];decide
 .rw[MZ];decide
theorem M9:gg fP aaH=[[true,true],[true,true]]:=by kernel_rfl
theorem MM:Y1 fP aaH=[]:=by
 unfold Y1;rw[MX,M9,EW]
 kernel_rfl
theorem S9:(⟨#[33,97,32,124,32,109]⟩:ByteArray)=bs [33,97,32,124,32,109]:=rfl
theorem Lp:(da fP aaH 1).any id=false:=by
 have h:da fP aaH 1=[false,false]:=by kernel_rfl
 rw[h];rfl
theorem MN:fE (Y1 fP aaH) (da fP aaH) 3 3 1=(1,1,[]):=by
 rw[MM,fE,if_neg (by simp),if_pos Lp]
theorem QW (G:YI) (hM:n9 G) (hP:abH G) (hG:mO G) {es er:Value} (hE:px G es er):aq prog G 53 [] (.v (.bool true)):=by
 have hmd:=HD G hM hP hG hE pM 9 (by decide) (by decide);rw[MY (by decide)]at hmd;have ez:=CA G [33,97,32,124,32,109] (by decide);rw[EM]at ez;have hi:=BL G fP zP MW (by rw[adz];decide) (by rw[EY];decide) aaH EN (by have:=ML;omega) MO 3 (by decide) (by decide);rw[MN]at hi;have lH:pH (1,1,[]) = .agg [.v (.int .i64 1),.v (.int .i64 1),.sl (some false) []]:=rfl;have ZM:∃ c,fN fP = .ip c:=⟨_,rfl⟩;obtain⟨MC,ZM⟩:=ZM;obtain⟨t1,c1,he1⟩:=dX aaH;have h3:(((3:Nat)):Int)=3:=rfl;simp only[aaT,jA,aR,he1,ZM,lH,dS,YG,h3]at hmd ez hi;have wJ:=MV;have iH:=S9;generalize bs pM=FT at *;generalize bs [33,97,32,124,32,109]=T1 at *;refine aq.aI (aw _) func53 rfl rfl (rs:=[.tmp 0]) results53 (by simp[ntmps53]) fun X=>?_;simp only[ntmps53,List.map];refine al [] [] ?_;have qf:=@wJ;refine eu hmd [1,2] [] ?_;refine ae fun K1 ay=>?_;refine al [1,11] [] ?_;refine af rfl ?_;refine ao (ay _ ?_);have qf:=@iH;refine eu ez [1,3,4] [] ?_;refine ae fun K2 aa=>?_;refine al [1,3,17] [] ?_;refine af rfl ?_;refine ao (aa _ ?_);refine aP trivial hi [4,5] [5] ?_;refine al [0] [5] ?_;exact dK
theorem Sd (G:YI) (hM:n9 G) (hP:abH G) (hG:mO G) {es er:Value} (hE:px G es er) (t h:Tx) (mo:Int):aq prog G 10 [dS t,dS h,YG mo] (.v (.bool true)):=by
 have hmd:=HD G hM hP hG hE t 100 (by decide) (by decide);have hpr:=QW G hM hP hG hE
 cases A1:qp t 100 with
 | none=>
  rw[A1]at hmd;simp only[aaT,dS,YG]at hmd ⊢;refine aq.aI (aw _) func10 rfl rfl (rs:=[.tmp 6]) results10 (by simp[ntmps10]) fun X=>?_;simp only[ntmps10,List.map];have fw:=@YG.eq_1;refine ab fw [0,1,2] [] ?_;refine aP fw hmd [1,2,7,8] [] ?_;refine ae fun K1 ay=>?_;refine ab fw [1,2,7,29] [] ?_;refine YL rfl ?_;refine aP fw hpr [6] [] ?_;exact aV fw
 | some p=>
  rw[A1]at hmd;obtain⟨aS,hk,Pc,Xt⟩:=Tf A1;have ZM:∃ c,fN p = .ip c:=⟨_,rfl⟩;by_cases Fa:(h.length:Int) > 300
  .obtain⟨MC,ZM⟩:=ZM;simp only[aaT,dS,YG,ZM]at hmd ⊢;refine aq.aI (aw _) func10 rfl rfl (rs:=[.tmp 6]) results10 (by simp[ntmps10]) fun X=>?_;simp only[ntmps10,List.map];have fw:=@YG.eq_1;refine ab fw [0,1,2] [] ?_;refine aP fw hmd [1,2,7,8] [] ?_;refine ae fun K1 ay=>?_;have qf:=(Aq fw (Aq @bC @Fa));refine aB [1,2,7,29] [] ?_;refine YL (by simp<;>omega) ?_;refine aP fw hpr [6] [] ?_;exact aV fw
  have jG:¬ (h.length:Int) > 300:=Fa;have cF:=CA G h (by omega)
  cases oQ:Zx h with
  | mk ox oe=>
  rw[oQ]at cF
  cases oe with
  | some e=>
   obtain⟨c,q⟩:=e
   have hn:ox=none:=by
    have:=Ug (t:=h) (e:=(c,q)) (by rw[oQ]);rw[oQ]at this;exact this
   subst hn
   have aG:∃ te ce,aR (some (c,q)) = .bh te ce:=by cases q<;>exact⟨_,_,rfl⟩
   obtain⟨te,ce,wH⟩:=aG;obtain⟨MC,ZM⟩:=ZM;simp only[jA]at cF;rw[wH]at cF;simp only[aaT,dS,YG,ZM]at hmd cF ⊢;refine aq.aI (aw _) func10 rfl rfl (rs:=[.tmp 6]) results10 (by simp[ntmps10]) fun X=>?_;simp only[ntmps10,List.map];have fw:=@YG.eq_1;refine ab fw [0,1,2] [] ?_;refine aP fw hmd [1,2,7,8] [] ?_;refine ae fun K1 ay=>?_;have qf:=(Aq fw (Aq @bC @jG));refine aB [1,2,7,29] [] ?_;refine af (by simp<;>omega) ?_;refine ao (ay _ ?_);refine aP fw cF [2,7,9,10] [] ?_;refine ae fun K2 aa=>?_;refine aP fw hpr [2,7,9,41] [] ?_;refine YL rfl ?_;refine aP fw hpr [6] [] ?_;exact aV fw
  | none=>
   obtain⟨e,fC⟩:=xY (t:=h) (by rw[oQ]);have FZ:=uM fC;obtain⟨uc,_⟩:=r0 fC;rw[oQ]at fC;dsimp only at fC;subst fC;have lQ:=Up G mo 20 (by decide) (by decide);obtain⟨_,XL⟩:=adr mo (n:=20) (by decide)
   have acu:(((1+fm mo 20:Nat)):Int)=1+(fm mo 20:Int):=by omega
   have F2:(((1+fm mo 20+1:Nat)):Int)=1+(fm mo 20:Int)+1:=by omega
   have rJ:(((20:Nat)):Int)=20:=rfl
   cases fB:jv p e with
   | true=>
    have jL:=LL G p aS e (by omega) fB;have bO:=G7 G p aS e (by omega) fB ((1+fm mo 20:Nat):Int);have Y8:=G7 G p aS e (by omega) fB ((1+fm mo 20+1:Nat):Int);have e7:=JM G hG (some (7,none));have Ao:codeF (some (7,none))=7:=rfl;rw[Ao]at e7;have OQ:iz [] = .sl (some false) []:=rfl;have lH:pH (0,0,[]) = .agg [.v (.int .i64 0),.v (.int .i64 0),.sl (some false) []]:=rfl;obtain⟨MC,ZM⟩:=ZM;obtain⟨ta,ca,he⟩:=dX e;simp only[aaT,dS,YG,ZM,jA,aR,he,lH,rJ,acu,F2]at hmd cF jL bO Y8 lQ ⊢;simp only[OQ,aR]at jL e7;generalize fm mo 20=k0 at *;refine aq.aI (aw _) func10 rfl rfl (rs:=[.tmp 6]) results10 (by simp[ntmps10]) fun X=>?_;simp only[ntmps10,List.map];have fw:=@YG.eq_1;refine ab fw [0,1,2] [] ?_;refine aP fw hmd [1,2,7,8] [] ?_;refine ae fun K1 ay=>?_;have qf:=(Aq fw (Aq @bC @jG));refine aB [1,2,7,29] [] ?_;refine af (by simp<;>omega) ?_;refine ao (ay _ ?_);refine aP fw cF [2,7,9,10] [] ?_;refine ae fun K2 aa=>?_;refine aP fw hpr [2,7,9,41] [] ?_;refine af rfl ?_;refine ao (aa _ ?_);refine aP fw lQ [2,7,9] [] ?_;refine aP fw bO [2,7,9,11,12] [11] ?_;refine cq fw 11 ?_;refine aP fw Y8 [2,7,9,11,12,13,14] [13] ?_;refine cq fw 13 ?_;refine aP fw jL [2,11,12,13,14,15,16,17] [] ?_;refine ae fun K3 YS=>?_;refine ab fw [2,11,12,13,14,15,16,17,77] [] ?_;refine YL rfl ?_;refine rg [6] [] (fun _ _=>trivial) fun K' ah=>?_;(repeat (refine aJ fun K2 aa=>?_;simp[YG];(repeat (refine⟨by omega,?_⟩));refine aa _ ?_;clear aa K2));refine aJ fun K2 aa=>?_;simp[YG];refine bU.data (e7) (by simp;rfl) (by first | exact D.ba _ | simp[aQ,List.map_map,Function.comp_def,D.le,D.le.go,D.le_refl,D.ba,YG]) ?_;refine aa _ ?_;clear aa K2;simp only[au,cw];(repeat (refine aJ fun K2 aa=>?_;simp[YG];(repeat (refine⟨by omega,?_⟩));refine aa _ ?_;clear aa K2));refine aJ fun K2 aa=>?_;simp[YG];refine bU.data (e7) (by simp;rfl) (by first | exact D.ba _ | simp[aQ,List.map_map,Function.comp_def,D.le,D.le.go,D.le_refl,D.ba,YG]) ?_;refine aa _ ?_;clear aa K2;simp only[au,cw];(repeat (refine aJ fun K2 aa=>?_;simp[YG];(repeat (refine⟨by omega,?_⟩));refine aa _ ?_;clear aa K2));refine aJ fun K2 aa=>?_;simp[YG];refine bU.data (e7) (by simp;rfl) (by first | exact D.ba _ | simp[aQ,List.map_map,Function.comp_def,D.le,D.le.go,D.le_refl,D.ba,YG]) ?_;refine aa _ ?_;clear aa K2;simp only[au,cw];(repeat (refine aJ fun K2 aa=>?_;simp[YG];(repeat (refine⟨by omega,?_⟩));refine aa _ ?_;clear aa K2));refine aJ fun K2 aa=>?_;simp[YG];refine bU.data (e7) (by simp;rfl) (by first | exact D.ba _ | simp[aQ,List.map_map,Function.comp_def,D.le,D.le.go,D.le_refl,D.ba,YG]) ?_
    refine aa _ ?_;clear aa K2;simp only[au,cw];(repeat (refine aJ fun K2 aa=>?_;simp[YG];(repeat (refine⟨by omega,?_⟩));refine aa _ ?_;clear aa K2));refine YZ (ah _ (AW.st (by simp[YG];rfl) ?_));clear ah K';exact aV fw
   | false=>
    have wx:cR p<=64:=by have:=QM Pc;omega
    have jL:=D9 G p aS hk (by omega) (by omega) e uc (by omega) fB;have bO:=BL G p aS hk (by omega) (by omega) e uc (by omega) fB (1+fm mo 20) (by omega) (by omega);have Y8:=BL G p aS hk (by omega) (by omega) e uc (by omega) fB (1+fm mo 20+1) (by omega) (by omega);have Pv:=QO aS wx e (1+fm mo 20) (by omega)
    have oM:(aO p).length<=4096:=by rw[nP];omega
    have bQ:(Y1 p e).length<=4096:=by
     by_cases Zz:Y1 p e=[]
     .rw[Zz];simp
     .have:=(It aS wx Zz).2.2.1;omega
    obtain⟨MC,ZM⟩:=ZM;obtain⟨ta,ca,he⟩:=dX e;have lH:∀ v,pH v = .agg [.v (.int .i64 v.1),.v (.int .i64 v.2.1),iz v.2.2]:=fun _=>rfl;have mh:iz [] = .sl (some false) []:=rfl;simp only[aaT,dS,YG,ZM,jA,aR,he,lH,rJ,acu,F2]at hmd cF jL bO Y8 lQ ⊢;generalize Y1 p e=gO at *;generalize da p e=kJ at *
    rcases Pv with⟨k,cQ,jd,Zz,hv,hw⟩ | ⟨Zz,hv,hw⟩ | ⟨hv,Zz⟩
    .rw[hv]at bO;rw[hw]at Y8;rw[decide_eq_true Zz,Zz]at jL;simp only[mh]at jL bO Y8;generalize fm mo 20=k0 at *
     have g1:(k:Int) >= 1:=by omega
     have g2:(k:Int)<=1+(k0:Int):=by omega
     have jf:(((1:Nat)):Int)=1:=rfl;simp only[jf]at bO Y8;refine aq.aI (aw _) func10 rfl rfl (rs:=[.tmp 6]) results10 (by simp[ntmps10]) fun X=>?_;simp only[ntmps10,List.map];have fw:=@YG.eq_1;refine ab fw [0,1,2] [] ?_;refine aP fw hmd [1,2,7,8] [] ?_;refine ae fun K1 ay=>?_;have qf:=(Aq fw (Aq @bC @jG));refine aB [1,2,7,29] [] ?_;refine af (by simp<;>omega) ?_;refine ao (ay _ ?_);refine aP fw cF [2,7,9,10] [] ?_;refine ae fun K2 aa=>?_;refine aP fw hpr [2,7,9,41] [] ?_;refine af rfl ?_;refine ao (aa _ ?_);refine aP fw lQ [2,7,9] [] ?_;refine aP fw bO [2,7,9,11,12] [11] ?_;refine cq fw 11 ?_;refine aP fw Y8 [2,7,9,11,12,13,14] [13] ?_;refine cq fw 13 ?_;refine aP fw jL [2,11,12,13,14,15,16,17] [] ?_;refine ae fun K3 YS=>?_;refine ab fw [2,11,12,13,14,15,16,17,77] [] ?_;refine af rfl ?_;refine ao (YS _ ?_);refine ae fun K4 Y4=>?_;refine ab fw [2,11,13,15,16,96] [] ?_;refine YR ?_;refine ab fw [2,11,13,15,16,96,97] [] ?_;refine YL rfl ?_;have qf:=(Aq fw (Aq @g1 @g2));refine aB [6] [] ?_;exact aV fw
    .rw[hv]at bO;rw[hw]at Y8;have oS:=VD G (some true) (some true) gO gO (by omega);rw[decide_eq_false Zz,mW Zz]at jL;simp only[mW Zz]at bO Y8;simp only[lz,beq_self_eq_true]at oS
     have kh:(gO.map fun n=>[D.v (.int .i64 n)]).length=gO.length:=by simp
     rw[<- kh]at bO Y8;generalize (gO.map fun n=>[D.v (.int .i64 n)])=PE at *;generalize fm mo 20=k0 at *;have ZZ:(((2:Nat)):Int)=2:=rfl;simp only[ZZ]at bO Y8;refine aq.aI (aw _) func10 rfl rfl (rs:=[.tmp 6]) results10 (by simp[ntmps10]) fun X=>?_;simp only[ntmps10,List.map];have fw:=@YG.eq_1;refine ab fw [0,1,2] [] ?_;refine aP fw hmd [1,2,7,8] [] ?_;refine ae fun K1 ay=>?_;have qf:=(Aq fw (Aq @bC @jG));refine aB [1,2,7,29] [] ?_;refine af (by simp<;>omega) ?_;refine ao (ay _ ?_);refine aP fw cF [2,7,9,10] [] ?_;refine ae fun K2 aa=>?_;refine aP fw hpr [2,7,9,41] [] ?_;refine af rfl ?_;refine ao (aa _ ?_);refine aP fw lQ [2,7,9] [] ?_;refine aP fw bO [2,7,9,11,12] [11] ?_;refine cq fw 11 ?_;refine aP fw Y8 [2,7,9,11,12,13,14] [13] ?_;refine cq fw 13 ?_;refine aP fw jL [2,11,12,13,14,15,16,17] [] ?_;refine ae fun K3 YS=>?_;refine ab fw [2,11,12,13,14,15,16,17,77] [] ?_;refine af rfl ?_;refine ao (YS _ ?_);refine ae fun K4 Y4=>?_;refine ab fw [2,11,13,15,16,96] [] ?_;refine YR ?_;refine ab fw [2,11,13,15,16,96,97] [] ?_;refine af rfl ?_;refine ab fw [2,11,13,15,16,96,125] [] ?_;refine YL rfl ?_;refine rg [6] [] (fun _ _=>trivial) fun K' ah=>?_;(repeat (refine aJ fun K2 aa=>?_;simp[YG];(repeat (refine⟨by omega,?_⟩));refine aa _ ?_;clear aa K2));refine aJ fun K2 aa=>?_;simp[YG];refine bU.data (oS) (by simp;rfl) (by first | exact D.ba _ | simp[aQ,List.map_map,Function.comp_def,D.le,D.le.go,D.le_refl,D.ba,YG]) ?_;refine aa _ ?_;clear aa K2;simp only[au,cw];(repeat (refine aJ fun K2 aa=>?_;simp[YG];(repeat (refine⟨by omega,?_⟩));refine aa _ ?_;clear aa K2));refine aJ fun K2 aa=>?_;simp[YG];refine bU.data (oS) (by simp;rfl) (by first | exact D.ba _ | simp[aQ,List.map_map,Function.comp_def,D.le,D.le.go,D.le_refl,D.ba,YG]) ?_;refine aa _ ?_;clear aa K2;simp only[au,cw];(repeat (refine aJ fun K2 aa=>?_;simp[YG];(repeat (refine⟨by omega,?_⟩));refine aa _ ?_;clear aa K2));refine YZ (ah _ (AW.st (by simp[YG];rfl) ?_));clear ah K';exact aV fw
    .rw[hv]at bO;generalize fE gO kJ (1+fm mo 20+1) (1+fm mo 20+1) 1=W at *;obtain⟨w1,w2,w3⟩:=W
     have ub:∃ kk ew,iz w3 = .sl kk ew:=by
      by_cases h:w3=[]
      .exact⟨_,_,pF h⟩
      .exact⟨_,_,mW h⟩
     obtain⟨kk,ew,ub⟩:=ub;simp only[mh,ub,acu]at bO Y8;have A6:(((3:Nat)):Int)=3:=rfl;simp only[A6]at bO;by_cases acs:gO=[]
     .rw[decide_eq_true acs,pF acs]at jL;generalize fm mo 20=k0 at *;refine aq.aI (aw _) func10 rfl rfl (rs:=[.tmp 6]) results10 (by simp[ntmps10]) fun X=>?_;simp only[ntmps10,List.map];have fw:=@YG.eq_1;refine ab fw [0,1,2] [] ?_;refine aP fw hmd [1,2,7,8] [] ?_;refine ae fun K1 ay=>?_;have qf:=(Aq fw (Aq @bC @jG));refine aB [1,2,7,29] [] ?_;refine af (by simp<;>omega) ?_;refine ao (ay _ ?_);refine aP fw cF [2,7,9,10] [] ?_;refine ae fun K2 aa=>?_;refine aP fw hpr [2,7,9,41] [] ?_;refine af rfl ?_;refine ao (aa _ ?_);refine aP fw lQ [2,7,9] [] ?_;refine aP fw bO [2,7,9,11,12] [11] ?_;refine cq fw 11 ?_;refine aP fw Y8 [2,7,9,11,12,13,14] [13] ?_;refine cq fw 13 ?_;refine aP fw jL [2,11,12,13,14,15,16,17] [] ?_;refine ae fun K3 YS=>?_;refine ab fw [2,11,12,13,14,15,16,17,77] [] ?_;refine af rfl ?_;refine ao (YS _ ?_);refine ae fun K4 Y4=>?_;refine ab fw [2,11,13,15,16,96] [] ?_;refine YR ?_;refine ab fw [2,11,13,15,16,96,97] [] ?_;refine af rfl ?_;refine ab fw [2,11,13,15,16,96,125] [] ?_;refine af rfl ?_;refine ab fw [2,11,15,16,162] [] ?_;refine YL rfl ?_;refine ab fw [6] [] ?_;exact aV fw
     .have YJ:1+fm mo 20 < gO.length:=by
       rcases Zz with h | h
       .exact absurd h acs
       .exact h
      have kh:(gO.map fun n=>[D.v (.int .i64 n)]).length=gO.length:=by simp
      rw[decide_eq_false acs,mW acs]at jL;rw[<- kh]at YJ;generalize (gO.map fun n=>[D.v (.int .i64 n)])=PE at *;generalize fm mo 20=k0 at *
      have g1:(PE.length:Int) > 1+(k0:Int):=by omega
      refine aq.aI (aw _) func10 rfl rfl (rs:=[.tmp 6]) results10 (by simp[ntmps10]) fun X=>?_;simp only[ntmps10,List.map];have fw:=@YG.eq_1;refine ab fw [0,1,2] [] ?_;refine aP fw hmd [1,2,7,8] [] ?_;refine ae fun K1 ay=>?_;have qf:=(Aq fw (Aq @bC @jG));refine aB [1,2,7,29] [] ?_;refine af (by simp<;>omega) ?_;refine ao (ay _ ?_);refine aP fw cF [2,7,9,10] [] ?_;refine ae fun K2 aa=>?_;refine aP fw hpr [2,7,9,41] [] ?_;refine af rfl ?_;refine ao (aa _ ?_);refine aP fw lQ [2,7,9] [] ?_;refine aP fw bO [2,7,9,11,12] [11] ?_;refine cq fw 11 ?_;refine aP fw Y8 [2,7,9,11,12,13,14] [13] ?_;refine cq fw 13 ?_;refine aP fw jL [2,11,12,13,14,15,16,17] [] ?_;refine ae fun K3 YS=>?_;refine ab fw [2,11,12,13,14,15,16,17,77] [] ?_;refine af rfl ?_;refine ao (YS _ ?_);refine ae fun K4 Y4=>?_;refine ab fw [2,11,13,15,16,96] [] ?_;refine YR ?_;refine ab fw [2,11,13,15,16,96,97] [] ?_;refine af rfl ?_;refine ab fw [2,11,13,15,16,96,125] [] ?_;refine af rfl ?_;refine ab fw [2,11,15,16,162] [] ?_;refine YL rfl ?_;have qf:=(Aq fw @g1);refine aB [6] [] ?_;exact aV fw
open Go.ChangeAt Go.ChangeShapes Go.RowKit Go.WideShapes
theorem SL:ownKnob prog.godebug=none:=by kernel_rfl
theorem SK:laidOutB prog=true:=by kernel_rfl
section
variable {H:Type} {enc:TypeId×Value->H} {w:World} {base:Nat} {spare:Nat->Bool} {held:Bool} {X:Nat->Prop}
end
