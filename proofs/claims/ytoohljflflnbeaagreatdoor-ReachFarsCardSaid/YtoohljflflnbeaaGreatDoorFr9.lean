/- Parts. -/
import Derived.Test.YtoohljflflnbeaaGreatDoorFr8
set_option linter.unusedSectionVars false
set_option linter.unusedSimpArgs false
set_option linter.unusedVariables false
namespace Go.Av
section
variable {P:Program} {Mv X:Nat->Prop} {G:ay} {N:Fr} {σ τ:St} {p:Prop}
theorem dN {id:Nat} {ops:Array Oper} {Q:Exit->St->Prop} (k:Q .normal τ)
  (h:∀ K':St->Prop,K' τ->kM P (cJ P) Mv X G N ops K' ops.toList σ:=by
   intro K' ao;repeat (refine aK fun Kq af=>?_;simp;(repeat refine⟨aa,?_⟩);refine af _ ?_)
   exact bJ ao):AW P Mv X G N (.region id ops false) Q σ:=
 fH (aC _) fun K hK=>h K (hK _ k)
theorem cD (q:p) {id:Nat} {ops:Array Oper} {Q:Exit->St->Prop} (k:Q .normal τ)
  (h:p->∀ K':St->Prop,K' τ->kM P (cJ P) Mv X G N ops K' ops.toList σ:=by
   intro q K' ao;repeat (refine aK fun Kq af=>?_;simp[q];(repeat refine⟨aa,?_⟩);refine af _ ?_)
   exact bJ ao):AW P Mv X G N (.region id ops false) Q σ:=
 fH (aC _) fun K hK=>h q K (hK _ k)
theorem Bl {id:Nat} {ops:Array Oper} {Q:Exit->St->Prop} (k:Q .normal τ)
  (h:∀ K':St->Prop,K' τ->kM P (cJ P) Mv X G N ops K' ops.toList σ:=by
   intro K' ao;repeat (refine aK fun Kq af=>?_;simp[qf];(repeat refine⟨aa,?_⟩);refine af _ ?_)
   exact bJ ao):AW P Mv X G N (.region id ops false) Q σ:=
 fH (aC _) fun K hK=>h K (hK _ k)
theorem gv (r:Nat) {c:Code} {Q:Exit->St->Prop} (k:AW P Mv X G N c Q τ) (hM:Mv r:=by first | trivial | decide) (hn:σ.sX r=τ:=by simp;rfl):AW P Mv X G N c Q σ:=
 AW.imp (aM.sX r hM) (hn ▸ k)
theorem dT (q:p) (r:Nat) {c:Code} {Q:Exit->St->Prop} (k:AW P Mv X G N c Q τ) (hM:Mv r:=by first | trivial | decide) (hn:p->σ.sX r=τ:=by intro q;simp[q];rfl):AW P Mv X G N c Q σ:=
 AW.imp (aM.sX r hM) (hn q ▸ k)
theorem gn {Q:Exit->St->Prop} (h:Q .ret σ:=by simp[D.le,D.le.go,aR,D.le_refl,D.bR]):AW P Mv X G N .ret Q σ:=bT h
theorem aU (q:p) {Q:Exit->St->Prop} (h:p->Q .ret σ:=by intro q;simp[D.le,D.le.go,aR,D.le_refl,D.bR,q]):AW P Mv X G N .ret Q σ:=bT (h q)
theorem df {e:Env} {H:Heap} {l:List (Nat×AV)} {rows:List (Nat×Row)} (hm:∀ r,(rows.map (·.1)).contains r=false->Mv r:=by first | exact fun _ _=>trivial | exact ew rfl)
  (he:∀ p∈l,(e p.1).map (AV.tr (fA (rows.map (·.1))) (fy (rows.map (·.1))))=some p.2:=by simp)
  (hH:∀ p∈rows,(H p.1).map (Row.tr (fA (rows.map (·.1))) (fy (rows.map (·.1))))=aq rows p.1:=by simp):aM Mv X G N ⟨e,H⟩ ⟨bp l,aq rows⟩:=aM.dk hm he hH
theorem bt (q:p) {e:Env} {H:Heap} {l:List (Nat×AV)} {rows:List (Nat×Row)} (hm:∀ r,(rows.map (·.1)).contains r=false->Mv r:=by first | exact fun _ _=>trivial | exact ew rfl)
  (he:p->∀ p∈l,(e p.1).map (AV.tr (fA (rows.map (·.1))) (fy (rows.map (·.1))))=some p.2:=by intro q;simp[q])
  (hH:p->∀ p∈rows,(H p.1).map (Row.tr (fA (rows.map (·.1))) (fy (rows.map (·.1))))=aq rows p.1:=by intro q;simp[q]):aM Mv X G N ⟨e,H⟩ ⟨bp l,aq rows⟩:=aM.dk hm (he q) (hH q)
end
end Go.Av
namespace Go.Av
def oP (T:Ty) (G:ay) (e:Env) (o:Oper):Option (Prop×D):=match o.op,o.dst with
 | .box _ x,some _=>match (bC G e x).bind jD with
  | some cs=>match l5 cs with
   | some ds=>some (True,.ip ds)
   | none=>none
  | none=>none
 | .buildSlice t len parts,some _=>match T t with
  | some tt=>match tt.desc with
   | .slice q=>match T q,nw G e parts.toList with
    | some te,some ps=>match vH te.size 0 ps with
     | some els=>some (ps.length=len/\0 < te.size/\len * te.size<=16777216,.sl none els)
     | none=>none
    | _,_=>none
   | _=>none
  | none=>none
 | .makeSlice t l c,some _=>match T t with
  | some tt=>match tt.desc with
   | .slice q=>match T q,bC G e l,bC G e c with
    | some te,some (.d (.v (.int _ n))),some (.d (.v (.int _ m)))=>some (0<=n/\n<=m/\te.bytes * m<=281474976710656/\m<=9223372036854775807/\0 < te.size/\(gg te.zero).length=te.size,.sl none (lZ te n.toNat))
    | _,_,_=>none
   | _=>none
  | none=>none
 | _,_=>none
section
variable {P:Program} {T:Ty} {Mv X:Nat->Prop} {G:ay} {N:Fr} {w:World} {μ:Mu} {a:Act} {σ:St}
theorem nZ {o:Oper} {e e':Env} (h:gq o.op e e'):oP T G e o=oP T G e' o:=by
 obtain⟨dst,op,type,pos,after,guard⟩:=o;unfold gq at h;dsimp only at h;unfold oP
 cases op<;>try rfl
 case box t x=>
  cases dst with
  | none=>rfl
  | some d=>
   dsimp only;rw[e8 (x:=x) fun t ht=>h t (by simp[Op.operands,ht])]
 case buildSlice t n ps=>
  cases dst with
  | none=>rfl
  | some d=>
   dsimp only;rw[E3 (l:=ps.toList) fun t ht=>h t (by simpa[Op.operands]using ht)]
 case makeSlice t x y=>
  cases dst with
  | none=>rfl
  | some d=>
   dsimp only;rw[e8 (x:=x) fun t ht=>h t (by simp[Op.operands,ht]),e8 (x:=y) fun t ht=>h t (by simp[Op.operands,ht])]
theorem L8 (hi:In w X G μ N a σ):¬ XX X μ w.heap.size:=by
 rintro (h | h)
 .exact Nat.lt_irrefl _ (hi.bq.fits _ h)
 .exact Nat.lt_irrefl _ (hi.bq.mF h)
theorem L7 (w:World) (cur:Array Value) (t:TypeId) {o:Nat} {v:Value} (h:cur[o]? = some v):(w.alloc (.cells cur t)).cell? ⟨w.heap.size,o,none⟩=some v:=by
 rw[cell_of_row _ w.heap.size o cur t (0,0) (by simpa using heap_alloc_new w (.cells cur t))];exact h
theorem OL (hg:Good P T) (hi:In w X G μ N a σ) {o:Oper} {c:Prop} {y:D} (h:oP T G σ.env o=some (c,y)) (hc:c) :
  ∃ v w',(execOp a.eval o).run P w = .ok (.value v) w'/\In w' X G μ N a σ/\RV w' X μ v (.d y)/\Ev Mv w μ w' μ:=by
 obtain⟨dst,op,type,pos,after,guard⟩:=o;unfold oP at h;dsimp only at h;split at h
 .rename_i t x d;split at h
  .rename_i cs cO;obtain⟨z,hz,he⟩:=ajY.1 cO;split at h
   .rename_i ds mM;obtain⟨rfl,rfl⟩:=eh h;have hp:=Bz (hi.eval hz) he;rw[re mM]at hp;obtain⟨aO,aW⟩:=hi.qt (Mv:=Mv) (cN.alloc w (.cells (a.eval x).cells t));refine⟨.pointer (some ⟨w.heap.size,0,none⟩),_,by simp[execOp,Instr.box,newVar,newRow],aO,.d (.ip (f:=fun j=>(a.eval x).cells.getD j undef) (L8 hi) ak (fun j hj=>?_) fun j c hj=>?_),aW⟩
    .have aH:j < (a.eval x).cells.size:=by rw[hp.size];simpa using hj
     exact L7 w _ t (by simp[ajF,aH])
    .have aH:j < (a.eval x).cells.size:=by rw[hp.size];simpa using (BY.1 hj).1
     have:=(hp.at_ j _ (.d c) (ajZ aH) (by rw[ajK,hj];rfl)).data;rw[ajF,ajZ aH];exact this.ev aW
   .cases h
  .cases h
 .rename_i t len parts d;split at h
  .rename_i tt du;split at h
   .rename_i q dG;split at h
    .rename_i te ps cQ ff;split at h
     .rename_i els xX;obtain⟨rfl,rfl⟩:=eh h;obtain⟨g2,g3,g4⟩:=hc;obtain⟨hv,hr⟩:=hi.nw ff;have hu:=hg.da (w:=w) du;have bd:=hg.sizeOf (w:=w) cQ;have Di:=hg.zero (w:=w) cQ
      obtain⟨lk,hf,wD,_,hl,dA,lU⟩:=O8 (w:=w) (X:=X) (μ:=μ) (sz:=te.size) ps (parts.toList.map fun p=>(p.1,a.eval p.2)) 0 els ((Array.range (len * te.size)).map ((if len * te.size=0 then #[] else te.zero.cells)[· % (if len * te.size=0 then #[] else te.zero.cells).size]!)) xX hv
       (fun i p v h1 h2=>hr i p v h1 h2) (by simp[g2])
      have hn:¬ len * te.size > 2 ^ 24:=aa
      have e0:∀ f:Nat->Value,(Array.range 0).map f = #[]:=fun f=>by apply Array.ext<;>simp
      have rH:lk.size=len * te.size:=by rw[wD];simp
      have hlen:els.length=len:=aa
      obtain⟨aO,aW⟩:=hi.qt (Mv:=Mv) (cN.alloc w (.cells lk q))
      have dw:(Instr.buildSlice t len (parts.map fun p=>(p.1,a.eval p.2))).run P w = .ok (.slice (some ⟨w.heap.size,0,none⟩) len len) (w.alloc (.cells lk q)):=by
       by_cases h0:len * te.size=0
       .simp only[h0,if_true,e0]at hf;simp only[Instr.buildSlice,Sem.run_bind,hu,dG,Result.andThen_ok,bd,hn,if_false,h0,if_true,Sem.run_pure,e0];simp[hf,newRow]
       .simp only[h0,if_false]at hf;simp only[Instr.buildSlice,Sem.run_bind,hu,dG,Result.andThen_ok,bd,hn,if_false,h0,Sem.run_pure,Di];simp[hf,newRow]
      have kC:len<=maxLen:=by
       have:len<=len * te.size:=Nat.le_mul_of_pos_right _ g3;unfold maxLen;omega
      refine⟨.slice (some ⟨w.heap.size,0,none⟩) len len,_,by simp[execOp,dw],aO,.d ?_,aW⟩;by_cases h0:len=0
      .subst h0;obtain rfl:=aj2 hlen;exact .empty ak kC
      .refine .sl (sz:=te.size) (f:=fun i j=>lk.getD (i * te.size+j) undef) ak hlen (ajJ _) kC (L8 hi) dA g3 aa (fun i j fc hj=>?_) fun i j el c h1 h2=>?_
       .have aH:i * te.size+j < lk.size:=by
         rw[rH];have:(i+1) * te.size<=len * te.size:=aj0 _ fc;rw[aj7]at this;omega
        rw[akg];exact L7 w _ q (by simp[ajF,aH])
       .obtain⟨u,ir,bY⟩:=lU i j el c h1 h2;rw[akg]at ir;rw[ajF,ir];exact bY.ev aW
     .cases h
    .cases h
   .cases h
  .cases h
 .rename_i t l c d;split at h
  .rename_i tt du;split at h
   .rename_i q dG;split at h
    .rename_i te k1 n k2 m cQ hl cK;obtain⟨rfl,rfl⟩:=eh h;obtain⟨h0,h1,h2,h3,hz,rL⟩:=hc;have el:a.eval l = .int k1 n:=(hi.eval hl).scalar;have ec:a.eval c = .int k2 m:=(hi.eval cK).scalar;obtain⟨hu,i0,lz,eH,ke,lY,_⟩:=hg q te cQ;have ht:=(hg t tt du).1;rw[dG]at ht;have dw:=run_make (P:=P) w t q i0 te.zero ht lz lY k1 k2 n m h0 h1 (by rw[ke];exact h2) h3;rw[eH]at dw;have bd:=size_madeCells te.zero.cells (m.toNat * te.size);obtain⟨aO,aW⟩:=hi.qt (Mv:=Mv) (cN.alloc w (.cells (madeCells te.zero.cells (m.toNat * te.size)) q));refine⟨.slice (some ⟨w.heap.size,0,none⟩) n.toNat m.toNat,_,by simp[execOp,el,ec,dw],aO,.d ?_,aW⟩;by_cases u4:n.toNat=0
     .rw[show lZ te n.toNat=[] by rw[u4];rfl,u4];exact .empty ak (by unfold maxLen;omega)
     .have sA:=zo (w:=w) (X:=XX X μ) te.zero
      have cO:te.zero.cells.size=te.size:=by rw[sA.1,rL]
      have Ar:∀ i j,i < n.toNat->j < te.size->i * te.size+j < m.toNat * te.size:=fun i j fc hj=>by
       have:(i+1) * te.size<=m.toNat * te.size:=aj0 _ aa;rw[aj7]at this;omega
      refine .sl (sz:=te.size) (f:=fun i j=>(madeCells te.zero.cells (m.toNat * te.size)).getD (i * te.size+j) undef) ak (by simp[lZ]) aa (by unfold maxLen;omega) (L8 hi) (fun el ba=>by rw[List.eq_of_mem_replicate ba,rL]) hz aa (fun i j fc hj=>?_) fun i j el d ba hd=>?_
      .rw[akg];exact L7 w _ q (by simp[ajF,bd,Ar i j fc hj])
      .unfold lZ at ba;rw[List.getElem?_replicate]at ba;split at ba
       .rename_i aH;obtain rfl:=AI ba
        have hj:j < te.size:=by rw[<- rL];exact (BY.1 hd).1
        have CH:j < te.zero.cells.size:=aa
        have hb:=Ar i j aH hj
        have pP:(i * te.size+j) % te.size=j:=by rw[Nat.mul_comm,Nat.mul_add_mod,Nat.mod_eq_of_lt hj]
        have hv:(madeCells te.zero.cells (m.toNat * te.size)).getD (i * te.size+j) undef=te.zero.cells[j]:=by
         simp[ajF,madeCells,hb,cO,pP];exact getElem!_pos te.zero.cells j CH
        rw[hv];exact (sA.2 j _ d (by simp[CH]) hd).ev aW
       .cases ba
    .cases h
   .cases h
  .cases h
 .cases h
variable {ops:Array Oper} {db:List Nat}
def nR (P:Program) (T:Ty) (Mv:Nat->Prop) (G:ay) (N:Fr) (db:List Nat) (i:Nat) (o:Oper) (σ aG:St):Prop:=
 eI N o/\o.guard=none/\((db.contains i=true/\∃ c y,oP T G σ.env o=some (c,y)/\c/\aG=⟨aL σ.env o.dst (.d y),σ.H⟩)\/
  (db.contains i=false/\kindOf o.op≠9/\∃ x H',Ex P T Mv G o σ.env σ.H x H'/\aG=⟨aL σ.env o.dst x,H'⟩))
theorem nR.ok (hg:Good P T) {o:Oper} {i:Nat} {aG:St} (h:nR P T Mv G N db i o σ aG) (hi:In w X G μ N a σ) (ho:ops[i]? = some o) {Q:Exit->Act->World->Prop} {K:Act->World->Prop}
  (hk:∀ w' aI a',In w' X G aI N a' aG->Ev Mv w μ w' aI->K a' w'):wpOpIn (wd N.ro) 0 P ops Q i K a w:=by
 obtain⟨hd,de,h⟩:=h
 have fm:∀ d,o.dst=some d->d < N.n:=fun d e=>by unfold eI at hd;rw[e]at hd;exact hd
 rcases h with⟨_,c,y,h1,h2,rfl⟩ | ⟨_,h9,x,H',h1,rfl⟩
 .unfold wpOpIn;simp only[ho];rw[tS hi (k7 de),if_pos rfl];refine xf (fun c e=>by simp[oP,e]at h1) ?_;obtain⟨v,w',hr,aO,gM,aW⟩:=OL (Mv:=Mv) hg hi h1 h2;unfold Oper.wp;rw[hr];exact hk _ μ _ (aO.put gM fm) aW
 .exact ze hg ⟨hd,.inl ⟨k7 de,h1.to⟩⟩ hi ho hk
def zC (db:List Nat) (ops:Array Oper) (i j:Nat) (oi oj:Oper):Bool:=oi.apart ops oj && (db.contains i || db.contains j || vk (kindOf oi.op) (kindOf oj.op))
theorem O9 {i j:Nat} {oi oj:Oper} (hc:zC db ops i j oi oj=true) {σ aT gU:St} (h1:nR P T Mv G N db i oi σ aT) (h2:nR P T Mv G N db j oj aT gU) :
  ∃ jl,nR P T Mv G N db j oj σ jl/\nR P T Mv G N db i oi jl gU:=by
 simp only[zC,IT]at hc;obtain⟨eu,jr⟩:=hc;obtain⟨di,gi,h1⟩:=h1;obtain⟨dj,gj,h2⟩:=h2;have eU:∀ v,gq oj.op (aL σ.env oi.dst v) σ.env:=fun v t ht=>(je eu (e:=σ.env) (v:=v)).1 t (kK ht);have fB:∀ v,gq oi.op σ.env (aL σ.env oj.dst v):=fun v t ht=>((je eu (e:=σ.env) (v:=v)).2.1 t (kK ht)).symm;have bf:=(je eu (e:=σ.env) (v:=da)).2.2
 rcases h1 with⟨bi,c,y,e1,c1,rfl⟩ | ⟨bi,k1,x,H',e1,rfl⟩
 .rcases h2 with⟨bj,c',z,e2,c2,rfl⟩ | ⟨bj,k2,z,H2,e2,rfl⟩
  .rw[nZ (eU _)]at e2;refine⟨⟨aL σ.env oj.dst (.d z),σ.H⟩,⟨dj,gj,.inl ⟨bj,c',z,e2,c2,rfl⟩⟩,di,gi,.inl ⟨bi,c,y,?_,c1,?_⟩⟩
   .rw[<- nZ (fB _)];exact e1
   .rw[ig bf]
  .refine⟨⟨aL σ.env oj.dst z,H2⟩,⟨dj,gj,.inr ⟨bj,k2,z,H2,e2.congr k2 (eU _),rfl⟩⟩,di,gi,.inl ⟨bi,c,y,?_,c1,?_⟩⟩
   .rw[<- nZ (fB _)];exact e1
   .rw[ig bf]
 .rcases h2 with⟨bj,c',z,e2,c2,rfl⟩ | ⟨bj,k2,z,H2,e2,rfl⟩
  .rw[nZ (eU _)]at e2;refine⟨⟨aL σ.env oj.dst (.d z),σ.H⟩,⟨dj,gj,.inl ⟨bj,c',z,e2,c2,rfl⟩⟩,di,gi,.inr ⟨bi,k1,x,H',e1.congr k1 (fB _),?_⟩⟩;rw[ig bf]
  .rw[bi,bj]at jr
   have cK:kU ops oi oj=true:=by simp only[kU,IT];exact⟨eu,by simpa using jr⟩
   obtain⟨H3,f1,f2⟩:=zB (N:=N) cK ⟨di,.inl ⟨k7 gi,e1⟩⟩ ⟨dj,.inl ⟨k7 gj,e2⟩⟩ k1 k2
   have un:∀ {o:Oper} {e:Env} {H H':Heap} {x:AV},o.guard=none->Sx P T Mv G N ops o e H x H'->Ex P T Mv G o e H x H':=fun de h=>by
    rcases h.2 with⟨_,h⟩ | ⟨hw,_⟩
    .exact h
    .rw[k7 de]at hw;cases hw
   refine⟨⟨aL σ.env oj.dst z,H3⟩,⟨dj,gj,.inr ⟨bj,k2,z,H3,un gj f1,rfl⟩⟩,di,gi,.inr ⟨bi,k1,x,H2,un gi f2,?_⟩⟩;rw[ig bf]
def T0 (P:Program) (T:Ty) (Mv:Nat->Prop) (G:ay) (N:Fr) (db:List Nat) (ops:Array Oper):List Nat->St->St->Prop:=iJ (nR P T Mv G N db) ops
def Mi (db:List Nat) (ord:List Nat) (ops:Array Oper):Bool:=oH (zC db ops) ord ops
def Hy (P:Program) (T:Ty) (Mv:Nat->Prop) (G:ay) (N:Fr) (db:List Nat) (i:Nat) (o:Oper) (σ:St) (K:St->Prop):Prop:=eI N o/\o.guard=none/\
 if db.contains i=true then (match oP T G σ.env o with
  | some (c,y)=>c/\K ⟨aL σ.env o.dst (.d y),σ.H⟩
  | none=>False)
 else kindOf o.op≠9/\match dP o.op with
  | some c=>sb P G c σ.env o.dst σ.H [] [] K
  | none=>wZ T G Mv o σ [] K
def tP (P:Program) (T:Ty) (Mv:Nat->Prop) (G:ay) (N:Fr) (db:List Nat) (K:St->Prop):List (Nat×Oper)->St->Prop
 | [],σ=>K σ
 | (i,o) :: rest,σ=>Hy P T Mv G N db i o σ (tP P T Mv G N db K rest)
theorem ag8 {K:St->Prop}:∀ (l:List Nat) (σ:St),(∀ i∈l,i < ops.size)->tP P T Mv G N db K (bU ops l) σ->∃ cq,K cq/\T0 P T Mv G N db ops l σ cq:=by
 intro l
 induction l with
 | nil=>intro σ _ h;exact⟨σ,h,rfl⟩
 | cons i l ih=>
  intro σ hl h;have hi:=hl i ak
  have ho:ops[i]? = some ops[i]:=by simp[hi]
  simp only[bU,ho]at h;generalize ops[i]=o at ho h;simp only[tP,Hy]at h;obtain⟨hd,de,h⟩:=h
  have fin:∀ aT,nR P T Mv G N db i o σ aT->tP P T Mv G N db K (bU ops l) aT->∃ cq,K cq/\T0 P T Mv G N db ops (i :: l) σ cq:=fun aT hs h1=>by
   obtain⟨cq,hk,hr⟩:=ih aT (fun j hj=>hl j (by simp[hj])) h1;exact⟨cq,hk,o,ho,aT,hs,hr⟩
  split at h
  .rename_i hb;split at h
   .rename_i c y hw;obtain⟨hc,h⟩:=h;exact fin _ ⟨hd,de,.inl ⟨hb,c,y,hw,hc,rfl⟩⟩ h
   .exact h.elim
  .rename_i hb
   have hb:db.contains i=false:=by simpa using hb
   obtain⟨hk,h⟩:=h;split at h
   .rename_i c hc;obtain⟨y,g,ds,ht,hp,hU,h⟩:=h;refine fin _ ⟨hd,de,.inr ⟨hb,hk,.d y,σ.H,?_,rfl⟩⟩ h;unfold Ex;simp only[hc];exact⟨y,⟨g,_,ht,.inl ⟨ds,rfl,hp⟩⟩,rfl,trivial⟩
   .rename_i hc;unfold wZ at h;split at h
    .rename_i hw;split at h
     .rename_i c x aT h1;obtain⟨cK,hU,h⟩:=h;have he:=BA hk h1;obtain⟨e,H⟩:=σ;obtain⟨e1,H1⟩:=aT;dsimp only at he;subst he;refine fin _ ⟨hd,de,.inr ⟨hb,hk,x,H1,?_,rfl⟩⟩ h;unfold Ex;simp only[hc];rw[if_pos hw];exact⟨c,h1,cK⟩
     .exact h.elim
    .rename_i hw;split at h
     .rename_i c x h1;obtain⟨cK,hU,h⟩:=h;refine fin _ ⟨hd,de,.inr ⟨hb,hk,x,σ.H,?_,rfl⟩⟩ h;unfold Ex;simp only[hc];rw[if_neg hw];exact⟨c,h1,cK,trivial⟩
     .exact h.elim
theorem NJ (hg:Good P T) (hm:P.follows .mixedOrders=true) (db:List Nat) (ord:List Nat) {id:Nat} (bX:Mi db ord ops=true) {Q:Exit->St->Prop} {σ:St} (h:tP P T Mv G N db (fun aG=>Q .normal aG) (bU ops ord) σ):AW P Mv X G N (.region id ops true) Q σ:=vA (Step:=nR P T Mv G N db) (cp:=zC db ops) hm (fun i o ho σ aG h w μ a hi _ _ hk=>nR.ok hg h hi ho hk) (fun i j oi oj _ _ hc σ aT gU h1 h2=>O9 hc h1 h2) ord bX fun aH=>ag8 ord σ aH h
theorem zq (hg:Good P T) (hm:P.follows .mixedOrders=true) (db:List Nat) (ord:List Nat) (l ns:List Nat) (hM:∀ r,ns.contains r=false->Mv r) {id:Nat} (bX:Mi db ord ops=true) {y:Code} {Q:Exit->St->Prop} {σ:St}
  (h:∀ K:St->Prop,(∀ τ:St,AW P Mv X G N y Q (τ.norm l ns)->K τ)->tP P T Mv G N db K (bU ops ord) σ):AW P Mv X G N (.seq (.region id ops true) y) Q σ:=
 sK (NJ hg hm db ord bX (h _ fun _ h=>h.norm l ns hM))
theorem Vp (hg:Good P T) (hm:P.follows .mixedOrders=true) (db:List Nat) (ord:List Nat) {id:Nat} (bX:Mi db ord ops=true) {Q:Exit->St->Prop} {σ:St}
  (h:∀ K:St->Prop,(∀ τ:St,Q .normal τ->K τ)->tP P T Mv G N db K (bU ops ord) σ):AW P Mv X G N (.region id ops true) Q σ:=NJ hg hm db ord bX (h _ fun _ h=>h)
theorem vt {K:St->Prop} {i:Nat} {l:List Nat} {o:Oper} (ho:ops[i]? = some o) (h:∀ K':St->Prop,(∀ τ,tP P T Mv G N db K (bU ops l) τ->K' τ)->Hy P T Mv G N db i o σ K'):tP P T Mv G N db K (bU ops (i :: l)) σ:=by
 have:bU ops (i :: l)=(i,o) :: bU ops l:=by simp[bU,ho]
 rw[this];exact h _ fun _ h=>h
theorem zg {K:St->Prop} (h:K σ):tP P T Mv G N db K (bU ops []) σ:=h
end
attribute [simp] Hy oP
end Go.Av
namespace Go.Av
def Rr:Op->Bool
 | .insert _ _ _ _=>true
 | _=>false
def SK (G:ay) (e:Env) (o:Op) (r:Nat):Prop:=match o with
 | .insert _ m _ _=>bC G e m=some (.mp r)
 | _=>False
def UQ (G:ay) (fp:List (Nat×Nat)) (e:Env) (i:Nat) (o:Op):Prop:=match fp.lookup i with
 | some r=>if Rr o=true then SK G e o r else wW G e o r
 | none=>True
section
variable {P:Program} {T:Ty} {Mv X:Nat->Prop} {G:ay} {N:Fr} {ops:Array Oper} {fp:List (Nat×Nat)} {cn:List Nat}
variable {cl:List (Nat×AV)}
def WM (P:Program) (G:ay) (cl:List (Nat×AV)) (i:Nat) (c:Call) (σ:St) (dst:Option Tmp) (next:St->Prop):Prop:=∃ y,cl.lookup i=some (.d y)/\(∀ H2,BQ P G ⟨σ.env,H2⟩ c y)/\next ⟨aL σ.env dst (.d y),σ.H⟩
def UD (P:Program) (T:Ty) (Mv:Nat->Prop) (G:ay) (N:Fr) (ops:Array Oper) (fp:List (Nat×Nat)) (cn:List Nat) (cl:List (Nat×AV)) (i:Nat) (o:Oper) (σ:St) (K:St->Prop):Prop:=eI N o/\kindOf o.op≠9/\match jb ops σ.env o with
 | some b=>if b=true then UQ G fp σ.env i o.op/\(match dP o.op with
  | some c=>WM P G cl i c σ o.dst K
  | none=>cn.contains i=false/\qT T G Mv o σ K) else K ⟨aL σ.env o.dst da,σ.H⟩
 | none=>False
attribute [simp] UD UQ Rr SK
end
end Go.Av
namespace Go.Av
def VH (P:Program) (t:TypeId) (name:String) (g:FuncId):Prop:=∀ (v:Value) (w:World),(invoke (.fn (.method name) #[]) #[.iface t v]).run P w = .ok (.enter g #[v]) w
def Rq:Op->Option (Operand×String)
 | .call { callee:=.invoke r name,args:=az,argTypes:=_ }=>if az.isEmpty then some (r,name) else none
 | _=>none
def l3 (P:Program) (T:Ty) (Mv X:Nat->Prop) (G:ay) (N:Fr) (ops:Array Oper) (o:Oper) (σ:St) (K:St->Prop):Prop:=eI N o/\match jb ops σ.env o with
 | some b=>if b=true then (match Rq o.op with
  | some (r,name)=>∃ t x g,bC G σ.env r=some (.d (.cf t x))/\VH P t name g/\cX P Mv X G N g [.d x] σ o.dst K
  | none=>mH P T Mv X G N o σ K) else K ⟨aL σ.env o.dst da,σ.H⟩
 | none=>False
section
variable {P:Program} {T:Ty} {Mv X:Nat->Prop} {G:ay} {N:Fr} {w:World} {μ:Mu} {a:Act} {σ:St}
attribute [simp] l3 Rq mH
end
