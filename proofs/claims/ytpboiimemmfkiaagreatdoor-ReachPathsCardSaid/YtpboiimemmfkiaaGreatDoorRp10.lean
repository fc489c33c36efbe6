/-
  Texts that belong together,in one file: Av31,Av32,Av40,Av41,Av42,Av36.
-/
import Derived.Test.YtpboiimemmfkiaaGreatDoorRp9
import Derived.Scope
set_option linter.unusedSectionVars false
set_option linter.unusedSimpArgs false
set_option linter.unusedVariables false
namespace Go.Av
def noG (Q:Exit→St→Prop):Exit→St→Prop
 | .goto _,_=>False
 | e,σ=>Q e σ
section
variable {P:Program} {Mv X:Nat→Prop} {G:Glob} {N:Fr} {σ:St}
end
attribute [simp] noG
end Go.Av
namespace Go.Av
section
variable {P:Program} {T:Ty} {Mv X:Nat→Prop} {G:Glob} {N:Fr} {w:World} {μ:Mu} {a:Act} {σ:St}
def OffE (mvd:List Nat) (e:Env):Prop:=∀ r∈mvd,killE r e=e
def OffV (mvd:List Nat) (x:AV):Prop:=∀ r∈mvd,x.kill r=x
theorem OffE.put {mvd:List Nat} {e:Env} (h:OffE mvd e) {x:AV} (hx:OffV mvd x) (d:Option Tmp):OffE mvd (putd e d x):=fun r hr=>by rw [killE_putd,h r hr,hx r hr]
theorem OffV.d (mvd:List Nat) (y:D):OffV mvd (.d y):=fun _ _=>rfl
theorem RV.off {w':World} {μ':Mu} {mvd:List Nat} (hev:Ev (fun r=>r∈mvd) w μ w' μ'):∀ {v:Value} {x:AV},RV w X μ v x→OffV mvd x→RV w' X μ' v x:=by
 intro v x hr
 have ne:∀ {q:Nat},(∀ r∈mvd,¬ q=r)→∀ m,μ q=some m→μ' q=some m:=fun h m hm=>hev.kept _ m hm fun hmem=>h _ hmem rfl
 have sub:∀ {l:List AV},(∀ r∈mvd,AV.kill.go r l=l)→∀ (j:Nat) (c:AV),l[j]? = some c→OffV mvd c:=fun {l} h j c hc r hr=>by
  have:=h r hr
  rw [AV.go_eq] at this
  have h2:=congrArg (fun l:List AV=>l[j]?) this
  simp only [List.getElem?_map,hc,Option.map_some,Option.some.injEq] at h2;exact h2
 induction hr with
 | d h'=>intro _;exact .d (h'.ev hev)
 | own hm h'=>
  intro ho
  refine .own (ne (fun r hr e=>?_) _ hm) h'
  have:=ho r hr
  simp [AV.kill,e] at this
 | ref hm hb=>
  intro ho
  refine .ref (ne (fun r hr e=>?_) _ hm) hb
  have:=ho r hr
  simp [AV.kill,e] at this
 | agg hn _ ih=>
  intro ho
  exact .agg hn fun j u c hu hc=>ih j u c hu hc (sub (fun r hr=>by have:=ho r hr;simpa [AV.kill] using this) j c hc)
 | tup hn _ ih=>
  intro ho
  exact .tup hn fun j u c hu hc=>ih j u c hu hc (sub (fun r hr=>by have:=ho r hr;simpa [AV.kill] using this) j c hc)
 | ifc _ ih=>intro ho;exact .ifc (ih fun r hr=>by have:=ho r hr;simpa [AV.kill] using this)
 | bm _ ih=>intro ho;exact .bm (ih fun r hr=>by have:=ho r hr;simpa [AV.kill] using this)
 | fn hn _ ih=>
  intro ho
  exact .fn hn fun j u c hu hc=>ih j u c hu hc (sub (fun r hr=>by have:=ho r hr;simpa [AV.kill] using this) j c hc)
 | mp hm hb=>
  intro ho
  refine .mp (ne (fun r hr e=>?_) _ hm) hb
  have:=ho r hr
  simp [AV.kill,e] at this
 | dead u=>intro _;exact .dead u
def HC (P:Program) (G:Glob) (mvd:List Nat) (g:FuncId) (xs:List AV) (H:Heap) (y:AV) (H2:Heap):Prop:=∀ (Mv X:Nat→Prop) (N:Fr) (e:Env),(∀ r∈mvd,Mv r)→OffE mvd e→callS P Mv X G N g xs ⟨e,H⟩ fun x σ'=>x=y∧σ'=⟨e,H2⟩
theorem HC.of {mvd:List Nat} {g:FuncId} {xs:List AV} {H H2:Heap} {y:AV} (h:∀ (X:Nat→Prop) (N:Fr) (e:Env),callS P (fun r=>r∈mvd) X G N g xs ⟨e,H⟩ fun x σ'=>x=y∧σ'.H=H2):HC P G mvd g xs H y H2:=fun Mv X N e hmv hoff=>by
 refine ⟨(h X N e).1,fun w μ a vs hi hn hv=>((h X N e).2 w μ a vs hi hn hv).mono fun e' w' ⟨v,x,σ',μ',he,⟨hxy,hH⟩,hin,hr,hev⟩=>?_⟩;subst hH;refine ⟨v,x,⟨e,σ'.H⟩,μ',he,⟨hxy,rfl⟩,⟨hin.sim,⟨hi.env.defers,hi.env.size,fun i z hz=>?_⟩,hin.glob⟩,hr,hev.weaken fun r _ _ h=>hmv r h⟩
 obtain ⟨u,hu,hru⟩:=hi.env.slot i z hz
 refine ⟨u,hu,RV.off hev hru fun r hr=>?_⟩
 have h1:=congrFun (hoff r hr) i
 replace hz:e i=some z:=hz
 simpa [killE,hz] using h1
theorem HC.mc {mvd:List Nat} {fx:List Nat} {g:FuncId} {xs0 xs:List AV} {H:Heap} {rows1 rows2:List (Nat×Row)} {y:AV} (hc:MC P G fx g xs (hlst rows1) y (hlst rows2)) (hx:xs0.map (AV.tr (onlyO (rows1.map (·.1))) (onlyF (rows1.map (·.1))))=xs)
  (hH:∀ p∈rows1,(H p.1).map (Row.tr (onlyO (rows1.map (·.1))) (onlyF (rows1.map (·.1))))=hlst rows1 p.1) (hd:∀ p∈rows2,(rows1.map (·.1)).contains p.1=true∨H p.1=none) (hm:∀ r∈rows1.map (·.1),fx.contains r=false→r∈mvd) :
  HC P G mvd g xs0 H y (hjoin (hlst rows2) (trH (offL (rows1.map (·.1))) (stayO (rows1.map (·.1)) fx) (stayF (rows1.map (·.1)) fx) H)):=.of fun X N e=>by
 refine callS.lentM hc hx (funext (rowsEq hH)).symm (fun q hq=>?_) (fun r hr=>hm r (List.contains_iff_mem.1 hr)) ⟨rfl,rfl⟩
 have hmem:∀ l:List (Nat×Row),(hlst l q).isSome=true→∃ p∈l,p.1=q:=by
  intro l
  induction l with
  | nil=>intro h;simp [hlst] at h
  | cons p l ih=>
   intro h
   simp only [hlst,List.lookup] at h
   cases hqp:(q == p.1) with
   | true=>exact ⟨p,by simp,by simpa using (beq_iff_eq.1 hqp).symm⟩
   | false=>
    rw [hqp] at h
    obtain ⟨p',h1,h2⟩:=ih h
    exact ⟨p',by simp [h1],h2⟩
 obtain ⟨p,hp,rfl⟩:=hmem rows2 hq
 exact hd p hp
variable {ops:Array Oper} {Step:Nat→Oper→St→St→Prop} {cp:Nat→Nat→Oper→Oper→Bool}
def Swaps (Step:Nat→Oper→St→St→Prop) (cp:Nat→Nat→Oper→Oper→Bool) (ops:Array Oper):Prop:=∀ i j oi oj,ops[i]? = some oi→ops[j]? = some oj→cp i j oi oj=true→∀ σ σ1 σ2,Step i oi σ σ1→Step j oj σ1 σ2→∃ σ3,Step j oj σ σ3∧Step i oi σ3 σ2
def Sound (P:Program) (X:Nat→Prop) (G:Glob) (N:Fr) (Mv:Nat→Prop) (Step:Nat→Oper→St→St→Prop) (ops:Array Oper):Prop:=∀ i o,ops[i]? = some o→∀ σ σ',Step i o σ σ'→∀ w μ a,In w X G μ N a σ→∀ {Q:Exit→Act→World→Prop} {K:Act→World→Prop},(∀ w' μ' a',In w' X G μ' N a' σ'→Ev Mv w μ w' μ'→K a' w')→wpOpIn (wd N.ro) 0 P ops Q i K a w
def runS (Step:Nat→Oper→St→St→Prop) (ops:Array Oper):List Nat→St→St→Prop
 | [],σ,σ'=>σ=σ'
 | i :: l,σ,σ'=>∃ o,ops[i]? = some o∧∃ σ1,Step i o σ σ1∧runS Step ops l σ1 σ'
theorem runS_front (hsw:Swaps Step cp ops) {p:Nat} {op:Oper} (hp:ops[p]? = some op):∀ (l1:List Nat) {l2:List Nat} {σ σ':St},(∀ q∈l1,∀ oq,ops[q]? = some oq→cp q p oq op=true)→runS Step ops (l1 ++ p :: l2) σ σ'→runS Step ops (p :: (l1 ++ l2)) σ σ':=by
 intro l1
 induction l1 with
 | nil=>intro l2 σ σ' _ h;exact h
 | cons q l1 ih=>
  intro l2 σ σ' hall h
  obtain ⟨oq,hq,σ1,s1,rest⟩:=h
  obtain ⟨o',ho',σ2,s2,rest2⟩:=ih (fun q' hq'=>hall q' (by simp [hq'])) rest
  rw [hp] at ho'
  obtain rfl:=Option.some.inj ho'
  obtain ⟨σ3,f1,f2⟩:=hsw q p oq op hq hp (hall q (by simp) oq hq) σ σ1 σ2 s1 s2
  exact ⟨op,hp,σ3,f1,oq,hq,σ2,f2,rest2⟩
def okDrawS (cp:Nat→Nat→Oper→Oper→Bool) (ord:List Nat) (ops:Array Oper):Bool:=
 let t:=tb ops
 ord.length == ops.size && (ord.all fun i=>decide (i < ops.size)) && ((List.range ops.size).all fun i=>ord.contains i) && decide ord.Nodup &&
 ((List.range ops.size).all fun j=>match ops[j]? with
  | some oj=>oj.after.all fun e=>!Region.binds .any e || e.on < j
  | none=>true) &&
 go t ord
where
 go (t:List Nat):List Nat→Bool
 | []=>true
 | a :: l=>(l.all fun b=>match ops[a]?,ops[b]? with
  | some oa,some ob=>(oa.after.all fun e=>!Region.binds .any e || !(e.on == b)) && ((t.getD b 0).testBit a || cp a b oa ob)
  | _,_=>true) && go t l
def PairS (cp:Nat→Nat→Oper→Oper→Bool) (ops:Array Oper) (a b:Nat):Prop:=∀ oa ob,ops[a]? = some oa→ops[b]? = some ob→
 (∀ e∈oa.after,Region.binds .any e=true→e.on≠b)∧(((tb ops).getD b 0).testBit a=true∨cp a b oa ob=true)
theorem pairsS_of:∀ {l:List Nat},okDrawS.go cp ops (tb ops) l=true→l.Pairwise (PairS cp ops)
 | [],_=>.nil
 | a :: l,h=>by
  simp only [okDrawS.go,Bool.and_eq_true] at h;refine .cons (fun b hb oa ob hoa hob=>?_) (pairsS_of h.2)
  have:=List.all_eq_true.1 h.1 b hb
  simp only [hoa,hob,Bool.and_eq_true,Bool.or_eq_true] at this;refine ⟨fun e he hbi heq=>?_,this.2⟩
  have h1:=Array.all_eq_true_iff_forall_mem.1 this.1 e he
  simp [hbi,heq] at h1
theorem anyS_ok (hst:Sound P X G N Mv Step ops) (hsw:Swaps Step cp ops) (hlt:∀ j oj,ops[j]? = some oj→∀ e∈oj.after,Region.binds .any e=true→e.on < j) {Q:Exit→St→Prop} {w0:World} {μ0:Mu} {σn:St} (hQ:Q .normal σn):∀ (n:Nat) (R:List Nat) (listed:Array Bool) (w:World) (μ:Mu) (a:Act) (σ:St),R.length=n→R.Nodup→
  (∀ j,j∈R↔j < ops.size∧listed.getD j true=false)→listed.size=ops.size→R.Pairwise (PairS cp ops)→
  (∀ j oj,ops[j]? = some oj→listed.getD j false=true→∀ e∈oj.after,Region.binds .any e=true→listed.getD e.on false=true)→runS Step ops R σ σn→In w X G μ N a σ→Ev Mv w0 μ0 w μ→
  wpAnyIn (wd N.ro) 0 P .any ops (After Mv X G N w0 μ0 Q) n listed a w:=by
 intro n
 induction n with
 | zero=>
  intro R listed w μ a σ hl _ hR hsz _ _ hrun hi hev
  have:R=[]:=List.eq_nil_of_length_eq_zero hl
  subst this
  have hr:Region.ready .any ops listed=[]:=by
   apply List.eq_nil_iff_forall_not_mem.2
   intro j hj
   obtain ⟨h1,o,ho,_⟩:=mem_ready.1 hj
   exact absurd ((hR j).2 ⟨(Array.getElem?_eq_some_iff.1 ho).1,h1⟩) (by simp)
  have:σ=σn:=hrun
  subst this;exact ⟨hr,μ,σ,hQ,hi,hev⟩
 | succ n ih=>
  intro R listed w μ a σ hl hnd hR hsz hpw hdown hrun hi hev
  refine ⟨fun hr=>?_,fun i hir=>?_⟩
  ·cases R with
   | nil=>simp at hl
   | cons j R=>
    obtain ⟨hj1,hj2⟩:=(hR j).1 (by simp)
    have hoj:ops[j]? = some ops[j]:=by simp [hj1]
    have hjr:j∈Region.ready .any ops listed:=by
     refine mem_ready.2 ⟨hj2,ops[j],hoj,fun e he hb=>?_⟩
     have hlt':=hlt j ops[j] hoj e he hb
     have hlt2:e.on < ops.size:=by omega
     have hne:e.on ∉ (j :: R):=by
      intro hm
      rcases List.mem_cons.1 hm with h | h
      ·omega
      ·exact ((List.pairwise_cons.1 hpw).1 _ h ops[j] ops[e.on] hoj (by simp [hlt2])).1 e he hb rfl
     have:=mt (hR e.on).2 hne
     have hls:e.on < listed.size:=by omega
     simp only [hlt2,true_and,Array.getD_eq_getD_getElem?] at this ⊢;simp [hls] at this ⊢;exact this
    rw [hr] at hjr
    cases hjr
  ·obtain ⟨hi1,oi,hoi,hall⟩:=mem_ready.1 hir
   have hiR:i∈R:=(hR i).2 ⟨(Array.getElem?_eq_some_iff.1 hoi).1,hi1⟩
   obtain ⟨R1,R2,rfl⟩:=List.append_of_mem hiR
   have hfront:=runS_front hsw hoi R1 (fun q hq oq hoq=>by
    have hpq:PairS cp ops q i:=(List.pairwise_append.1 hpw).2.2 q hq i (by simp)
    rcases (hpq oq oi hoq hoi).2 with h | h
    ·exfalso
     have hlq:=behindL hlt hdown i i oi (Nat.le_refl _) hoi hall q h
     have hq2:=((hR q).1 (by simp [hq])).2
     have hqs:q < listed.size:=by have:=(Array.getElem?_eq_some_iff.1 hoq).1;omega
     simp [Array.getD_eq_getD_getElem?,hqs] at hlq hq2;rw [hlq] at hq2;cases hq2
    ·exact h) hrun
   obtain ⟨o',ho',σ1,hstep,hrest⟩:=hfront
   rw [hoi] at ho'
   obtain rfl:=Option.some.inj ho'
   refine hst i oi hoi _ _ hstep _ _ _ hi fun w' μ' a' hin hev'=>?_
   have hnd':(R1 ++ R2).Nodup:=by
    have:=hnd
    rw [List.nodup_append] at this ⊢
    obtain ⟨g1,g2,g3⟩:=this
    exact ⟨g1,(List.nodup_cons.1 g2).2,fun x hx y hy=>g3 x hx y (by simp [hy])⟩
   have hi_not:i ∉ R1 ++ R2:=by
    have:=hnd
    rw [List.nodup_append] at this
    obtain ⟨g1,g2,g3⟩:=this
    intro hm
    rcases List.mem_append.1 hm with h | h
    ·exact g3 i h i (by simp) rfl
    ·exact (List.nodup_cons.1 g2).1 h
   refine ih (R1 ++ R2) _ w' μ' a' σ1 (by simp at hl ⊢;omega) hnd' (fun j=>?_) (by simpa using hsz) ?_ ?_ hrest hin (hev.trans hev')
   ·by_cases hji:j=i
    ·subst hji
     have hls:j < listed.size:=by rw [hsz];exact (Array.getElem?_eq_some_iff.1 hoi).1
     simp [hls];simpa using hi_not
    ·rw [getD_set_ne true (Ne.symm hji)];rw [← hR j];simp [hji]
   ·rw [List.pairwise_append] at hpw ⊢
    obtain ⟨g1,g2,g3⟩:=hpw
    exact ⟨g1,(List.pairwise_cons.1 g2).2,fun x hx y hy=>g3 x hx y (by simp [hy])⟩
   ·intro j oj hoj hlj e he hb
    by_cases hji:j=i
    ·subst hji;rw [hoi] at hoj
     obtain rfl:=Option.some.inj hoj
     exact getD_set_true (hall e he hb)
    ·rw [getD_set_ne false (Ne.symm hji)] at hlj;exact getD_set_true (hdown j oj hoj hlj e he hb)
theorem AW_regionS (hm:P.follows .mixedOrders=true) (hst:Sound P X G N Mv Step ops) (hsw:Swaps Step cp ops) (ord:List Nat) {id:Nat} (hok:okDrawS cp ord ops=true) {Q:Exit→St→Prop} {σ:St} (h:(∀ i∈ord,i < ops.size)→∃ σn,Q .normal σn∧runS Step ops ord σ σn):AW P Mv X G N (.region id ops true) Q σ:=fun w μ a hi=>by
 unfold okDrawS at hok;simp only [Bool.and_eq_true] at hok
 obtain ⟨⟨⟨⟨⟨h1,h2⟩,h3⟩,h4⟩,h5⟩,h6⟩:=hok
 have hlen:ord.length=ops.size:=by simpa using h1
 have hlt:∀ i∈ord,i < ops.size:=fun i hi=>by simpa using List.all_eq_true.1 h2 i hi
 have hall:∀ i,i < ops.size→i∈ord:=fun i hi=>by simpa using List.all_eq_true.1 h3 i (List.mem_range.2 hi)
 have hnd:ord.Nodup:=by simpa using h4
 have hedge:∀ j oj,ops[j]? = some oj→∀ e∈oj.after,Region.binds .any e=true→e.on < j:=fun j oj hoj e he hb=>by
  have:=List.all_eq_true.1 h5 j (List.mem_range.2 (Array.getElem?_eq_some_iff.1 hoj).1)
  simp only [hoj] at this
  have:=Array.all_eq_true_iff_forall_mem.1 this e he
  simpa [hb] using this
 obtain ⟨σn,hQ,hrun⟩:=h hlt
 refine wpIn_region_any hm ?_
 obtain ⟨hin,hev⟩:=hi.grew (Mv:=Mv) (Grew.drew w)
 refine anyS_ok hst hsw hedge hQ ops.size ord _ w.drew μ a σ hlen hnd (fun j=>?_) (by simp) (pairsS_of h6) ?_ hrun hin hev
 ·constructor
  ·intro hj
   have:=hlt j hj
   simp [Array.getD_eq_getD_getElem?,this]
  ·intro hj
   exact hall j hj.1
 ·intro j oj hoj hlj
  have hj:=(Array.getElem?_eq_some_iff.1 hoj).1
  simp [Array.getD_eq_getD_getElem?,hj] at hlj
def LdSame (T:Ty) (ops:Array Oper) (H H2:Heap) (p:Nat×AV):Prop:=match ops[p.1]? with
 | some o=>match o.op with
  | .load t _=>loadA T H t p.2=loadA T H2 t p.2
  | _=>False
 | none=>False
def ldAt (G:Glob) (ex:List (Nat×AV)) (i:Nat) (o:Oper) (e:Env):Prop:=match ex.lookup i with
 | some pv=>match o.op with
  | .load _ x=>aeval G e x=some pv
  | _=>False
 | none=>True
def HStep (P:Program) (T:Ty) (Mv:Nat→Prop) (G:Glob) (mvd:List Nat) (ops:Array Oper) (ex:List (Nat×AV)) (o:Oper) (σ σ':St):Prop:=∃ c g xs y H2,isCall o.op=some c∧tgt G σ.env c=some (g,xs)∧(∀ r∈mvd,Mv r)∧HC P G mvd g xs σ.H y H2∧(∀ p∈ex,LdSame T ops σ.H H2 p)∧OffV mvd y∧σ'=⟨putd σ.env o.dst y,H2⟩
def MStep (P:Program) (T:Ty) (Mv:Nat→Prop) (G:Glob) (N:Fr) (mvd db hv:List Nat) (ex:List (Nat×AV)) (ops:Array Oper) (i:Nat) (o:Oper) (σ σ':St):Prop:=
 okDst N o∧o.guard=none∧OffE mvd σ.env∧((db.contains i=true∧∃ c y,dataW T G σ.env o=some (c,y)∧c∧σ'=⟨putd σ.env o.dst (.d y),σ.H⟩)∨
  (db.contains i=false∧hv.contains i=true∧HStep P T Mv G mvd ops ex o σ σ')∨
  (db.contains i=false∧hv.contains i=false∧kindOf o.op≠9∧ldAt G ex i o σ.env∧∃ x H',Ex P T Mv G o σ.env σ.H x H'∧OffV mvd x∧σ'=⟨putd σ.env o.dst x,H'⟩))
theorem mstep_sound (hg:Good P T) (mvd db hv:List Nat) (ex:List (Nat×AV)):Sound P X G N Mv (MStep P T Mv G N mvd db hv ex ops) ops:=fun i o ho σ σ' h w μ a hi Q K hk=>by
 obtain ⟨hd,hgu,hoE,h⟩:=h
 have hd':∀ d,o.dst=some d→d < N.n:=fun d e=>by unfold okDst at hd;rw [e] at hd;exact hd
 rcases h with ⟨_,c,y,h1,h2,rfl⟩ | ⟨_,_,c,g,xs,y,H2,hc,ht,hmv,hcall,_,_,rfl⟩ | ⟨_,_,h9,_,x,H',h1,_,rfl⟩
 ·unfold wpOpIn;simp only [ho];rw [wantedS_ok hi (wantedS_free hgu),if_pos rfl];refine wpR (fun c e=>by simp [dataW,e] at h1) ?_
  obtain ⟨v,w',hr,hin,hrv,hev⟩:=dataW_ok (Mv:=Mv) hg hi h1 h2
  unfold Oper.wp;rw [hr];exact hk _ μ _ (hin.put hrv hd') hev
 ·unfold wpOpIn;simp only [ho];rw [wantedS_ok hi (wantedS_free hgu),if_pos rfl];refine (ex1_ok (Mv:=Mv) (K:=fun σ1=>σ1=⟨putd σ.env o.dst y,H2⟩) hg hi hd' ?_ fun w' μ' a' σ1 e hin hev=>hk w' μ' a' (e ▸ hin) hev);unfold ex1;simp only [hc,ht]
  exact (hcall Mv X N σ.env hmv hoE).mono fun x σ' ⟨e1,e2⟩=>by rw [e1,e2]
 ·exact stepTo_ok hg ⟨hd,.inl ⟨wantedS_free hgu,h1.to⟩⟩ hi ho hk
def compatM (db hv:List Nat) (ex:List (Nat×AV)) (ops:Array Oper) (i j:Nat) (oi oj:Oper):Bool:=oi.apart ops oj && (db.contains i || db.contains j ||
 (if hv.contains i then !hv.contains j && (kindOf oj.op == 0 || (ex.lookup j).isSome) else if hv.contains j then kindOf oi.op == 0 || (ex.lookup i).isSome else mayPass (kindOf oi.op) (kindOf oj.op)))
theorem lookup_mem {ex:List (Nat×AV)} {i:Nat} {pv:AV} (h:ex.lookup i=some pv):(i,pv)∈ex:=by
 induction ex with
 | nil=>cases h
 | cons p ex ih=>
  rw [List.lookup_cons] at h
  split at h
  ·rename_i he
   obtain rfl:=Option.some.inj h
   have:i=p.1:=by simpa using he
   rw [this];simp
  ·exact List.mem_cons_of_mem _ (ih h)
theorem ld_moves {i:Nat} {o:Oper} (ho:ops[i]? = some o) {ex:List (Nat×AV)} {pv:AV} (hl:ex.lookup i=some pv) {e:Env} {H H2 H':Heap} {x:AV} (hat:ldAt G ex i o e) (hs:LdSame T ops H H2 (i,pv)) (h:Ex P T Mv G o e H x H'):H'=H∧Ex P T Mv G o e H2 x H2:=by
 unfold ldAt at hat
 rw [hl] at hat
 unfold LdSame at hs;simp only [ho] at hs
 obtain ⟨dst,op,type,pos,after,guard⟩:=o
 dsimp only at hat hs
 cases op<;>dsimp only at hat hs<;>try exact hat.elim
 unfold Ex at h ⊢;simp only [isCall,isWr,rd,Bool.false_eq_true,if_false,hat,Option.bind_some] at h ⊢
 obtain ⟨c,h1,h2,rfl⟩:=h
 exact ⟨rfl,c,by rw [← hs];exact h1,h2,trivial⟩
theorem mstep_swaps (mvd db hv:List Nat) (ex:List (Nat×AV)):Swaps (MStep P T Mv G N mvd db hv ex ops) (compatM db hv ex ops) ops:=fun i j oi oj hoi hoj hc σ σ1 σ2 h1 h2=>by
 simp only [compatM,Bool.and_eq_true] at hc
 obtain ⟨hap,hpass⟩:=hc
 obtain ⟨di,gi,oE,h1⟩:=h1
 obtain ⟨dj,gj,_,h2⟩:=h2
 have agj:∀ v,Agree oj.op (putd σ.env oi.dst v) σ.env:=fun v t ht=>(agree_put hap (e:=σ.env) (v:=v)).1 t (looks_of_op ht)
 have agi:∀ v,Agree oi.op σ.env (putd σ.env oj.dst v):=fun v t ht=>((agree_put hap (e:=σ.env) (v:=v)).2.1 t (looks_of_op ht)).symm
 have hne:=(agree_put hap (e:=σ.env) (v:=und)).2.2
 have tg:∀ {o:Oper} {c:Call} {e e':Env},isCall o.op=some c→Agree o.op e e'→tgt G e c=tgt G e' c:=fun {o c e e'} hc ha=>tgt_congr fun t ht=>ha t (by rw [(isCall_op hc).1];exact ht)
 have lda:∀ {k:Nat} {o:Oper} {e e':Env},Agree o.op e e'→ldAt G ex k o e→ldAt G ex k o e':=fun {k o e e'} ha h=>by
  unfold ldAt at h ⊢
  split
  ·rename_i pv hl
   simp only [hl] at h
   split
   ·rename_i t x hop
    simp only [hop] at h;rw [← aeval_congr (x:=x) fun t' ht'=>ha t' (by rw [hop,ht'];simp [Op.operands])];exact h
   ·rename_i hno
    split at h
    ·rename_i t x hop
     exact absurd hop (hno t x)
    ·exact h
  ·trivial
 rcases h1 with ⟨bi,c,y,e1,c1,rfl⟩ | ⟨bi,vi,c,g,xs,y,H2,hci,ti,hmv,hcl,hld,oy,rfl⟩ | ⟨bi,vi,k1,l1,x,H',e1,ox,rfl⟩
 ·-- data first
  rcases h2 with ⟨bj,c',z,e2,c2,rfl⟩ | ⟨bj,vj,c',g,xs,z,H2,hcj,tj,hmv,hcl,hld,oz,rfl⟩ | ⟨bj,vj,k2,l2,z,H2,e2,oz,rfl⟩
  ·rw [dataW_congr (agj _)] at e2;refine ⟨⟨putd σ.env oj.dst (.d z),σ.H⟩,⟨dj,gj,oE,.inl ⟨bj,c',z,e2,c2,rfl⟩⟩,di,gi,oE.put (OffV.d _ _) _,.inl ⟨bi,c,y,?_,c1,?_⟩⟩
   ·rw [← dataW_congr (agi _)];exact e1
   ·rw [putd_comm hne]
  ·rw [tg hcj (agj _)] at tj;refine ⟨⟨putd σ.env oj.dst z,H2⟩,⟨dj,gj,oE,.inr (.inl ⟨bj,vj,c',g,xs,z,H2,hcj,tj,hmv,hcl,hld,oz,rfl⟩)⟩,di,gi,oE.put oz _,.inl ⟨bi,c,y,?_,c1,?_⟩⟩
   ·rw [← dataW_congr (agi _)];exact e1
   ·rw [putd_comm hne]
  ·refine ⟨⟨putd σ.env oj.dst z,H2⟩,⟨dj,gj,oE,.inr (.inr ⟨bj,vj,k2,lda (agj _) l2,z,H2,e2.congr k2 (agj _),oz,rfl⟩)⟩,di,gi,oE.put oz _,.inl ⟨bi,c,y,?_,c1,?_⟩⟩
   ·rw [← dataW_congr (agi _)];exact e1
   ·rw [putd_comm hne]
 ·-- a call first
  rcases h2 with ⟨bj,c',z,e2,c2,rfl⟩ | ⟨bj,vj,_⟩ | ⟨bj,vj,k2,l2,z,H3,e2,oz,rfl⟩
  ·rw [dataW_congr (agj _)] at e2;refine ⟨⟨putd σ.env oj.dst (.d z),σ.H⟩,⟨dj,gj,oE,.inl ⟨bj,c',z,e2,c2,rfl⟩⟩,di,gi,oE.put (OffV.d _ _) _,.inr (.inl ⟨bi,vi,c,g,xs,y,H2,hci,?_,hmv,hcl,hld,oy,?_⟩)⟩
   ·rw [← tg hci (agi _)];exact ti
   ·rw [putd_comm hne]
  ·rw [bi,bj,vi] at hpass;simp [vj] at hpass;simp_all
  ·rw [bi,bj] at hpass
   have e2':=e2.congr k2 (agj _)
   have l2':=lda (agj _) l2
   have hq:H3=H2∧Ex P T Mv G oj σ.env σ.H z σ.H:=by
    have hp:kindOf oj.op=0∨(ex.lookup j).isSome=true:=by
     simp only [Bool.false_or,vi,vj,if_true,Bool.not_false,Bool.true_and] at hpass;simpa using hpass
    rcases hp with hp | hp
    ·exact ⟨e2'.keeps (by omega),e2'.free hp σ.H⟩
    ·obtain ⟨pv,hpv⟩:=Option.isSome_iff_exists.1 hp
     have hs:=hld _ (lookup_mem hpv)
     refine ld_moves hoj hpv l2' ?_ e2';unfold LdSame at hs ⊢;simp only [hoj] at hs ⊢
     split<;>simp_all
   obtain ⟨rfl,e3⟩:=hq
   refine ⟨⟨putd σ.env oj.dst z,σ.H⟩,⟨dj,gj,oE,.inr (.inr ⟨bj,vj,k2,l2',z,σ.H,e3,oz,rfl⟩)⟩,di,gi,oE.put oz _,.inr (.inl ⟨bi,vi,c,g,xs,y,H3,hci,?_,hmv,hcl,hld,oy,?_⟩)⟩
   ·rw [← tg hci (agi _)];exact ti
   ·rw [putd_comm hne]
 ·rcases h2 with ⟨bj,c',z,e2,c2,rfl⟩ | ⟨bj,vj,c',g,xs,z,H2,hcj,tj,hmv,hcl,hld,oz,rfl⟩ | ⟨bj,vj,k2,l2,z,H2,e2,oz,rfl⟩
  ·rw [dataW_congr (agj _)] at e2;refine ⟨⟨putd σ.env oj.dst (.d z),σ.H⟩,⟨dj,gj,oE,.inl ⟨bj,c',z,e2,c2,rfl⟩⟩,di,gi,oE.put (OffV.d _ _) _,.inr (.inr ⟨bi,vi,k1,lda (agi _) l1,x,H',e1.congr k1 (agi _),ox,?_⟩)⟩;rw [putd_comm hne]
  ·rw [tg hcj (agj _)] at tj;rw [bi,bj] at hpass
   have hp:kindOf oi.op=0∨(ex.lookup i).isSome=true:=by
    simp only [Bool.false_or,vi,vj,if_true,Bool.false_eq_true,if_false] at hpass;simpa using hpass
   have e1':=e1.congr k1 (agi z)
   have l1':=lda (agi z) l1
   rcases hp with hp | hp
   ·obtain rfl:=e1.keeps (by omega)
    refine ⟨⟨putd σ.env oj.dst z,H2⟩,⟨dj,gj,oE,.inr (.inl ⟨bj,vj,c',g,xs,z,H2,hcj,tj,hmv,hcl,hld,oz,rfl⟩)⟩,di,gi,oE.put oz _,.inr (.inr ⟨bi,vi,k1,l1',x,H2,e1'.free hp H2,ox,?_⟩)⟩;rw [putd_comm hne]
   ·obtain ⟨pv,hpv⟩:=Option.isSome_iff_exists.1 hp
    have hs:=hld _ (lookup_mem hpv)
    have hH:H'=σ.H:=(ld_moves (H2:=σ.H) hoi hpv l1 (by unfold LdSame;simp only [hoi];unfold LdSame at hs;simp only [hoi] at hs;split<;>simp_all) e1).1
    subst hH
    obtain ⟨_,e3⟩:=ld_moves hoi hpv l1' hs e1'
    refine ⟨⟨putd σ.env oj.dst z,H2⟩,⟨dj,gj,oE,.inr (.inl ⟨bj,vj,c',g,xs,z,H2,hcj,tj,hmv,hcl,hld,oz,rfl⟩)⟩,di,gi,oE.put oz _,.inr (.inr ⟨bi,vi,k1,l1',x,H2,e3,ox,?_⟩)⟩;rw [putd_comm hne]
  ·rw [bi,bj] at hpass
   have hcc:compat ops oi oj=true:=by simp only [compat,Bool.and_eq_true];simp only [Bool.false_or,vi,vj,Bool.false_eq_true,if_false] at hpass;exact ⟨hap,hpass⟩
   obtain ⟨H3,f1,f2⟩:=commute (N:=N) hcc ⟨di,.inl ⟨wantedS_free gi,e1⟩⟩ ⟨dj,.inl ⟨wantedS_free gj,e2⟩⟩ k1 k2
   have un:∀ {o:Oper} {e:Env} {H H':Heap} {x:AV},o.guard=none→Sx P T Mv G N ops o e H x H'→Ex P T Mv G o e H x H':=fun hgu h=>by
    rcases h.2 with ⟨_,h⟩ | ⟨hw,_⟩
    ·exact h
    ·rw [wantedS_free hgu] at hw;cases hw
   refine ⟨⟨putd σ.env oj.dst z,H3⟩,⟨dj,gj,oE,.inr (.inr ⟨bj,vj,k2,lda (agj _) l2,z,H3,un gj f1,oz,rfl⟩)⟩,di,gi,oE.put oz _,.inr (.inr ⟨bi,vi,k1,lda (agi _) l1,x,H2,un gi f2,ox,?_⟩)⟩;rw [putd_comm hne]
def hcK (P:Program) (T:Ty) (Mv:Nat→Prop) (G:Glob) (mvd:List Nat) (ops:Array Oper) (ex:List (Nat×AV)) (g:FuncId) (xs:List AV) (σ:St) (dst:Option Tmp) (K:St→Prop):Prop:=∃ y H2,(∀ r∈mvd,Mv r)∧HC P G mvd g xs σ.H y H2∧(∀ p∈ex,LdSame T ops σ.H H2 p)∧OffV mvd y∧K ⟨putd σ.env dst y,H2⟩
theorem hcK.mc {mvd:List Nat} {ex:List (Nat×AV)} {dst:Option Tmp} {K:St→Prop} {fx:List Nat} {g:FuncId} {xs0 xs:List AV} {rows1 rows2:List (Nat×Row)} {y:AV} (hc:MC P G fx g xs (hlst rows1) y (hlst rows2)) (hx:xs0.map (AV.tr (onlyO (rows1.map (·.1))) (onlyF (rows1.map (·.1))))=xs)
  (hH:∀ p∈rows1,(σ.H p.1).map (Row.tr (onlyO (rows1.map (·.1))) (onlyF (rows1.map (·.1))))=hlst rows1 p.1) (hd:∀ p∈rows2,(rows1.map (·.1)).contains p.1=true∨σ.H p.1=none) (hm:∀ r∈rows1.map (·.1),fx.contains r=false→r∈mvd) (hmv:∀ r∈mvd,Mv r) (ho:∀ r∈mvd,y.kill r=y)
  (hl:∀ p∈ex,LdSame T ops σ.H (hjoin (hlst rows2) (trH (offL (rows1.map (·.1))) (stayO (rows1.map (·.1)) fx) (stayF (rows1.map (·.1)) fx) σ.H)) p)
  (h:K ⟨putd σ.env dst y,hjoin (hlst rows2) (trH (offL (rows1.map (·.1))) (stayO (rows1.map (·.1)) fx) (stayF (rows1.map (·.1)) fx) σ.H)⟩):hcK P T Mv G mvd ops ex g xs0 σ dst K:=⟨y,_,hmv,.mc hc hx hH hd hm,hl,ho,h⟩
def plainM (T:Ty) (G:Glob) (Mv:Nat→Prop) (mvd:List Nat) (o:Oper) (σ:St) (next:St→Prop):Prop:=
 if isWr o.op then match wr T G Mv σ o with
  | some (c,x,σ')=>c∧(∀ r∈mvd,x.kill r=x)∧next ⟨putd σ'.env o.dst x,σ'.H⟩
  | none=>False
 else match rd T G σ o.op with
  | some (c,x)=>c∧(∀ r∈mvd,x.kill r=x)∧next ⟨putd σ.env o.dst x,σ.H⟩
  | none=>False
def stepM (P:Program) (T:Ty) (Mv:Nat→Prop) (G:Glob) (N:Fr) (mvd db hv:List Nat) (ex:List (Nat×AV)) (ops:Array Oper) (i:Nat) (o:Oper) (σ:St) (K:St→Prop):Prop:=okDst N o∧o.guard=none∧
 if db.contains i=true then (match dataW T G σ.env o with
  | some (c,y)=>c∧K ⟨putd σ.env o.dst (.d y),σ.H⟩
  | none=>False)
 else if hv.contains i=true then (match isCall o.op with
  | some c=>match tgt G σ.env c with
   | some (g,xs)=>hcK P T Mv G mvd ops ex g xs σ o.dst K
   | none=>False
  | none=>False)
 else kindOf o.op≠9∧ldAt G ex i o σ.env∧match isCall o.op with
  | some c=>callD P G c σ.env o.dst σ.H [] [] K
  | none=>plainM T G Mv mvd o σ K
def sxm (P:Program) (T:Ty) (Mv:Nat→Prop) (G:Glob) (N:Fr) (mvd db hv:List Nat) (ex:List (Nat×AV)) (ops:Array Oper) (K:St→Prop):List (Nat×Oper)→St→Prop
 | [],σ=>K σ
 | (i,o) :: rest,σ=>stepM P T Mv G N mvd db hv ex ops i o σ (sxm P T Mv G N mvd db hv ex ops K rest)
theorem sxm_run {mvd db hv:List Nat} {ex:List (Nat×AV)} {K:St→Prop}:∀ (l:List Nat) (σ:St),(∀ i∈l,i < ops.size)→OffE mvd σ.env→sxm P T Mv G N mvd db hv ex ops K (inOrder ops l) σ→∃ σn,K σn∧runS (MStep P T Mv G N mvd db hv ex ops) ops l σ σn:=by
 intro l
 induction l with
 | nil=>intro σ _ _ h;exact ⟨σ,h,rfl⟩
 | cons i l ih=>
  intro σ hl hoE h
  have hi:=hl i (by simp)
  have ho:ops[i]? = some ops[i]:=by simp [hi]
  simp only [inOrder,ho] at h;generalize ops[i]=o at ho h;simp only [sxm,stepM] at h
  obtain ⟨hd,hgu,h⟩:=h
  have fin:∀ σ1,MStep P T Mv G N mvd db hv ex ops i o σ σ1→OffE mvd σ1.env→sxm P T Mv G N mvd db hv ex ops K (inOrder ops l) σ1→∃ σn,K σn∧runS (MStep P T Mv G N mvd db hv ex ops) ops (i :: l) σ σn:=fun σ1 hs hE h1=>by
   obtain ⟨σn,hk,hr⟩:=ih σ1 (fun j hj=>hl j (by simp [hj])) hE h1
   exact ⟨σn,hk,o,ho,σ1,hs,hr⟩
  split at h
  ·rename_i hb
   split at h
   ·rename_i c y hw
    obtain ⟨hc,h⟩:=h
    exact fin _ ⟨hd,hgu,hoE,.inl ⟨hb,c,y,hw,hc,rfl⟩⟩ (hoE.put (OffV.d _ _) _) h
   ·exact h.elim
  ·rename_i hb
   have hb:db.contains i=false:=by simpa using hb
   split at h
   ·rename_i hv1
    split at h
    ·rename_i c hc
     split at h
     ·rename_i g xs ht
      obtain ⟨y,H2,h0,h1,h2,h3,h⟩:=h
      exact fin _ ⟨hd,hgu,hoE,.inr (.inl ⟨hb,hv1,c,g,xs,y,H2,hc,ht,h0,h1,h2,h3,rfl⟩)⟩ (hoE.put h3 _) h
     ·exact h.elim
    ·exact h.elim
   ·rename_i hv1
    have hv1:hv.contains i=false:=by simpa using hv1
    obtain ⟨hk,hla,h⟩:=h
    split at h
    ·rename_i c hc
     obtain ⟨y,g,ds,ht,hp,hoff,h⟩:=h
     refine fin _ ⟨hd,hgu,hoE,.inr (.inr ⟨hb,hv1,hk,hla,.d y,σ.H,?_,OffV.d _ _,rfl⟩)⟩ (hoE.put (OffV.d _ _) _) h;unfold Ex;simp only [hc];exact ⟨y,⟨g,_,ht,.inl ⟨ds,rfl,hp⟩⟩,rfl,trivial⟩
    ·rename_i hc
     unfold plainM at h
     split at h
     ·rename_i hw
      split at h
      ·rename_i c x σ1 h1
       obtain ⟨hcc,hoff,h⟩:=h
       have he:=wr_env hk h1
       obtain ⟨e,H⟩:=σ
       obtain ⟨e1,H1⟩:=σ1
       dsimp only at he
       subst he;refine fin _ ⟨hd,hgu,hoE,.inr (.inr ⟨hb,hv1,hk,hla,x,H1,?_,hoff,rfl⟩)⟩ (hoE.put hoff _) h;unfold Ex;simp only [hc];rw [if_pos hw];exact ⟨c,h1,hcc⟩
      ·exact h.elim
     ·rename_i hw
      split at h
      ·rename_i c x h1
       obtain ⟨hcc,hoff,h⟩:=h
       refine fin _ ⟨hd,hgu,hoE,.inr (.inr ⟨hb,hv1,hk,hla,x,σ.H,?_,hoff,rfl⟩)⟩ (hoE.put hoff _) h;unfold Ex;simp only [hc];rw [if_neg hw];exact ⟨c,h1,hcc,trivial⟩
      ·exact h.elim
end
attribute [simp] stepM ldAt plainM
end Go.Av
namespace Go.Av
section
variable {P:Program} {T:Ty} {Mv X:Nat→Prop} {G:Glob} {N:Fr} {ops:Array Oper} {σ:St}
def NStep (P:Program) (T:Ty) (Mv:Nat→Prop) (G:Glob) (N:Fr) (ap db hv:List Nat) (ex:List (Nat×AV)) (ops:Array Oper) (i:Nat) (o:Oper) (σ σ':St):Prop:=
 (ap.contains i=true∧okDst N o∧o.guard=none∧isCall o.op=none∧isWr o.op=true∧∃ c x σ1,wr T G Mv σ o=some (c,x,σ1)∧c∧σ'=⟨putd σ1.env o.dst x,σ1.H⟩)∨
 (ap.contains i=false∧MStep P T Mv G N [] db hv ex ops i o σ σ')
def compatN (ap db hv:List Nat) (ex:List (Nat×AV)) (ops:Array Oper) (i j:Nat) (oi oj:Oper):Bool:=!ap.contains i && !ap.contains j && compatM db hv ex ops i j oi oj
theorem nstep_sound (hg:Good P T) (ap db hv:List Nat) (ex:List (Nat×AV)):Sound P X G N Mv (NStep P T Mv G N ap db hv ex ops) ops:=fun i o ho σ σ' h w μ a hi Q K hk=>by
 rcases h with ⟨_,hd,hgu,hc,hw,c,x,σ1,h1,h2,rfl⟩ | ⟨_,h⟩
 ·refine stepTo_ok hg ⟨hd,.inl ⟨wantedS_free hgu,?_⟩⟩ hi ho hk;unfold exTo;simp only [hc];rw [if_pos hw];exact ⟨c,x,σ1,h1,h2,rfl⟩
 ·exact mstep_sound hg [] db hv ex i o ho _ _ h w μ a hi hk
theorem nstep_swaps (ap db hv:List Nat) (ex:List (Nat×AV)):Swaps (NStep P T Mv G N ap db hv ex ops) (compatN ap db hv ex ops) ops:=fun i j oi oj hoi hoj hc σ σ1 σ2 h1 h2=>by
 simp only [compatN,Bool.and_eq_true,Bool.not_eq_true'] at hc
 obtain ⟨⟨ai,aj⟩,hc⟩:=hc
 rcases h1 with ⟨bi,_⟩ | ⟨_,h1⟩
 ·rw [ai] at bi;cases bi
 rcases h2 with ⟨bj,_⟩ | ⟨_,h2⟩
 ·rw [aj] at bj;cases bj
 obtain ⟨σ3,f1,f2⟩:=mstep_swaps [] db hv ex i j oi oj hoi hoj hc σ σ1 σ2 h1 h2
 exact ⟨σ3,.inr ⟨aj,f1⟩,.inr ⟨ai,f2⟩⟩
def stepN (P:Program) (T:Ty) (Mv:Nat→Prop) (G:Glob) (N:Fr) (ap db hv:List Nat) (ex:List (Nat×AV)) (ops:Array Oper) (i:Nat) (o:Oper) (σ:St) (K:St→Prop):Prop:=
 if ap.contains i=true then okDst N o∧o.guard=none∧isCall o.op=none∧isWr o.op=true∧match wr T G Mv σ o with
  | some (c,x,σ1)=>c∧K ⟨putd σ1.env o.dst x,σ1.H⟩
  | none=>False
 else stepM P T Mv G N [] db hv ex ops i o σ K
def sxap (P:Program) (T:Ty) (Mv:Nat→Prop) (G:Glob) (N:Fr) (ap db hv:List Nat) (ex:List (Nat×AV)) (ops:Array Oper) (K:St→Prop):List (Nat×Oper)→St→Prop
 | [],σ=>K σ
 | (i,o) :: rest,σ=>stepN P T Mv G N ap db hv ex ops i o σ (sxap P T Mv G N ap db hv ex ops K rest)
theorem sxap_run {ap db hv:List Nat} {ex:List (Nat×AV)} {K:St→Prop}:∀ (l:List Nat) (σ:St),(∀ i∈l,i < ops.size)→sxap P T Mv G N ap db hv ex ops K (inOrder ops l) σ→∃ σn,K σn∧runS (NStep P T Mv G N ap db hv ex ops) ops l σ σn:=by
 intro l
 induction l with
 | nil=>intro σ _ h;exact ⟨σ,h,rfl⟩
 | cons i l ih=>
  intro σ hl h
  have hi:=hl i (by simp)
  have ho:ops[i]? = some ops[i]:=by simp [hi]
  have hin:inOrder ops (i :: l)=(i,ops[i]) :: inOrder ops l:=by simp [inOrder,hi]
  rw [hin] at h
  have h:stepN P T Mv G N ap db hv ex ops i ops[i] σ (sxap P T Mv G N ap db hv ex ops K (inOrder ops l)):=h
  unfold stepN at h
  split at h
  ·rename_i ha
   obtain ⟨hd,hgu,hc,hw,h⟩:=h
   split at h
   ·rename_i c x σ1 h1
    obtain ⟨hcc,h⟩:=h
    obtain ⟨σn,hk,hr⟩:=ih _ (fun j hj=>hl j (by simp [hj])) h
    exact ⟨σn,hk,_,ho,_,.inl ⟨ha,hd,hgu,hc,hw,c,x,σ1,h1,hcc,rfl⟩,hr⟩
   ·exact h.elim
  ·rename_i ha
   have hin1:inOrder ops [i]=[(i,ops[i])]:=by simp [inOrder,hi]
   have hm:sxm P T Mv G N [] db hv ex ops (sxap P T Mv G N ap db hv ex ops K (inOrder ops l)) (inOrder ops [i]) σ:=by rw [hin1];exact h
   obtain ⟨σ1,hk1,o',ho',σ1',hs,hr1⟩:=sxm_run [i] σ (by simpa using hi) (fun r hr=>by cases hr) hm
   have hr1:σ1'=σ1:=hr1
   subst hr1
   obtain ⟨σn,hk,hr⟩:=ih _ (fun j hj=>hl j (by simp [hj])) hk1
   exact ⟨σn,hk,o',ho',_,.inr ⟨by simpa using ha,hs⟩,hr⟩
theorem AW_regionN (hg:Good P T) (hm:P.follows .mixedOrders=true) (ap db hv:List Nat) (ex:List (Nat×AV)) (ord:List Nat) {id:Nat} (hok:okDrawS (compatN ap db hv ex ops) ord ops=true) {Q:Exit→St→Prop} (h:sxap P T Mv G N ap db hv ex ops (fun σ'=>Q .normal σ') (inOrder ops ord) σ):AW P Mv X G N (.region id ops true) Q σ:=
 AW_regionS hm (nstep_sound hg ap db hv ex) (nstep_swaps ap db hv ex) ord hok fun hlt=>sxap_run ord σ hlt h
theorem AW_rne (hg:Good P T) (hm:P.follows .mixedOrders=true) (ap db hv:List Nat) (ex:List (Nat×AV)) (ord:List Nat) {id:Nat} (hok:okDrawS (compatN ap db hv ex ops) ord ops=true) {Q:Exit→St→Prop}
  (h:∀ K:St→Prop,(∀ τ:St,Q .normal τ→K τ)→sxap P T Mv G N ap db hv ex ops K (inOrder ops ord) σ):AW P Mv X G N (.region id ops true) Q σ:=AW_regionN hg hm ap db hv ex ord hok (h _ fun _ h=>h)
theorem sxap_nextO {ap db hv:List Nat} {ex:List (Nat×AV)} {K:St→Prop} {i:Nat} {l:List Nat} {o:Oper} (ho:ops[i]? = some o) (h:∀ K':St→Prop,(∀ τ,sxap P T Mv G N ap db hv ex ops K (inOrder ops l) τ→K' τ)→stepN P T Mv G N ap db hv ex ops i o σ K'):sxap P T Mv G N ap db hv ex ops K (inOrder ops (i :: l)) σ:=by
 have:inOrder ops (i :: l)=(i,o) :: inOrder ops l:=by simp [inOrder,ho]
 rw [this];exact h _ fun _ h=>h
theorem sxap_nilO {ap db hv:List Nat} {ex:List (Nat×AV)} {K:St→Prop} (h:K σ):sxap P T Mv G N ap db hv ex ops K (inOrder ops []) σ:=h
end
attribute [simp] stepN
end Go.Av
namespace Go.Av
section
variable {P:Program} {T:Ty} {Mv X:Nat→Prop} {G:Glob} {N:Fr} {ops:Array Oper} {σ:St}
def isCopy:Op→Bool
 | .call { callee:=.builtin .copy,.. }=>true
 | _=>false
theorem copy_congr {o:Oper} (ho:isCopy o.op=true) {e e':Env} {H:Heap} {c:Prop} {x:AV} {σ1:St} (ha:Agree o.op e e') (h:wr T G Mv ⟨e,H⟩ o=some (c,x,σ1)):σ1.env=e∧wr T G Mv ⟨e',H⟩ o=some (c,x,⟨e',σ1.H⟩):=by
 obtain ⟨dst,op,type,pos,after,guard⟩:=o
 dsimp only at ho ha
 unfold isCopy at ho
 split at ho
 ·rename_i args argTypes
  unfold wr at h ⊢
  dsimp only at h ⊢
  cases dst with
  | none=>cases h
  | some d=>
   dsimp only at h ⊢
   split at h
   ·rename_i x0 y0 t t' ha1 ha2
    have e1:args = #[x0,y0]:=Array.toList_inj.1 ha1
    subst e1
    have hx:aeval G e x0=aeval G e' x0:=aeval_congr fun t ht=>ha t (by simp [Op.operands,Call.operands,ht])
    have hy:aeval G e y0=aeval G e' y0:=aeval_congr fun t ht=>ha t (by simp [Op.operands,Call.operands,ht])
    rw [hx,hy] at h
    split at h
    ·rename_i tt htt
     try rw [htt]
     try dsimp only
     split at h
     ·rename_i el hd
      try rw [hd]
      try dsimp only
      split at h
      ·rename_i te r off n v h1 h2 h3
       try rw [h1,h2,h3]
       try dsimp only
       split at h
       ·rename_i ty sz els news g1 g2
        try rw [g1,g2]
        simp only [Option.some.injEq,Prod.mk.injEq] at h
        obtain ⟨rfl,rfl,rfl⟩:=h
        exact ⟨rfl,rfl⟩
       ·cases h
      ·rename_i te k v h1 h2 h3
       try rw [h1,h2,h3]
       try dsimp only
       split at h
       ·rename_i news g1
        try rw [g1]
        simp only [Option.some.injEq,Prod.mk.injEq] at h
        obtain ⟨rfl,rfl,rfl⟩:=h
        exact ⟨rfl,rfl⟩
       ·cases h
      ·cases h
     ·cases h
    ·cases h
   ·cases h
 ·cases ho
def CStep (P:Program) (T:Ty) (Mv:Nat→Prop) (G:Glob) (N:Fr) (cp:List Nat) (ops:Array Oper) (i:Nat) (o:Oper) (σ σ':St):Prop:=
 (cp.contains i=true∧okDst N o∧o.guard=none∧isCall o.op=none∧isWr o.op=true∧isCopy o.op=true∧∃ c x σ1,wr T G Mv σ o=some (c,x,σ1)∧c∧σ'=⟨putd σ1.env o.dst x,σ1.H⟩)∨
 (cp.contains i=false∧MStep P T Mv G N [] [] [] [] ops i o σ σ')
def compatC (cp:List Nat) (ops:Array Oper) (i j:Nat) (oi oj:Oper):Bool:=
 if cp.contains i then !cp.contains j && kindOf oj.op == 0 && oi.apart ops oj else if cp.contains j then kindOf oi.op == 0 && oi.apart ops oj else compatM [] [] [] ops i j oi oj
theorem cstep_sound (hg:Good P T) (cp:List Nat):Sound P X G N Mv (CStep P T Mv G N cp ops) ops:=fun i o ho σ σ' h w μ a hi Q K hk=>by
 rcases h with ⟨_,hd,hgu,hc,hw,_,c,x,σ1,h1,h2,rfl⟩ | ⟨_,h⟩
 ·refine stepTo_ok hg ⟨hd,.inl ⟨wantedS_free hgu,?_⟩⟩ hi ho hk;unfold exTo;simp only [hc];rw [if_pos hw];exact ⟨c,x,σ1,h1,h2,rfl⟩
 ·exact mstep_sound hg [] [] [] [] i o ho _ _ h w μ a hi hk
theorem mstep_free {i:Nat} {o:Oper} {σ σ':St} (hk:kindOf o.op=0) (h:MStep P T Mv G N [] [] [] [] ops i o σ σ'):okDst N o∧o.guard=none∧∃ x,Ex P T Mv G o σ.env σ.H x σ.H∧σ'=⟨putd σ.env o.dst x,σ.H⟩:=by
 obtain ⟨hd,hgu,_,h⟩:=h
 rcases h with ⟨b,_⟩ | ⟨_,b,_⟩ | ⟨_,_,k1,_,x,H',e1,_,rfl⟩
 ·cases b
 ·cases b
 ·obtain rfl:=e1.keeps (by omega)
  exact ⟨hd,hgu,x,e1,rfl⟩
theorem mstep_of {i:Nat} {o:Oper} {e:Env} {H:Heap} {x:AV} (hk:kindOf o.op=0) (hd:okDst N o) (hgu:o.guard=none) (h:Ex P T Mv G o e H x H):MStep P T Mv G N [] [] [] [] ops i o ⟨e,H⟩ ⟨putd e o.dst x,H⟩:=
 ⟨hd,hgu,(fun r hr=>by cases hr),.inr (.inr ⟨rfl,rfl,by omega,(by simp [ldAt,List.lookup]),x,H,h,(fun r hr=>by cases hr),rfl⟩)⟩
theorem cstep_swaps (cp:List Nat):Swaps (CStep P T Mv G N cp ops) (compatC cp ops) ops:=fun i j oi oj hoi hoj hc σ σ1 σ2 h1 h2=>by
 unfold compatC at hc
 have fact:∀ (hap:oi.apart ops oj=true),(∀ v,Agree oj.op (putd σ.env oi.dst v) σ.env)∧(∀ v,Agree oi.op σ.env (putd σ.env oj.dst v))∧_:=fun hap=>
  ⟨fun v t ht=>(agree_put hap (e:=σ.env) (v:=v)).1 t (looks_of_op ht),fun v t ht=>((agree_put hap (e:=σ.env) (v:=v)).2.1 t (looks_of_op ht)).symm,(agree_put hap (e:=σ.env) (v:=und)).2.2⟩
 rcases h1 with ⟨ai,di,gi,ci,wi,yi,c,x,τ,w1,cc,rfl⟩ | ⟨ai,h1⟩
 ·rw [if_pos ai] at hc;simp only [Bool.and_eq_true,Bool.not_eq_true',beq_iff_eq] at hc
  obtain ⟨⟨aj,kj⟩,hap⟩:=hc
  obtain ⟨agj,agi,hne⟩:=fact hap
  rcases h2 with ⟨bj,_⟩ | ⟨_,h2⟩
  ·rw [aj] at bj;cases bj
  obtain ⟨dj,gj,z,e2,rfl⟩:=mstep_free kj h2
  have hσ:wr T G Mv ⟨σ.env,σ.H⟩ oi=some (c,x,τ):=w1
  obtain ⟨he,_⟩:=copy_congr (e':=σ.env) yi (fun t ht=>rfl) hσ
  rw [he] at e2 ⊢
  have e3:Ex P T Mv G oj σ.env σ.H z σ.H:=(e2.congr (by omega) (agj _)).free kj σ.H
  refine ⟨⟨putd σ.env oj.dst z,σ.H⟩,.inr ⟨aj,mstep_of kj dj gj e3⟩,.inl ⟨ai,di,gi,ci,wi,yi,c,x,_,(copy_congr yi (agi z) hσ).2,cc,?_⟩⟩
  dsimp only
  rw [putd_comm hne]
 ·rw [if_neg (by rw [ai];decide)] at hc
  rcases h2 with ⟨bj,dj,gj,cj,wj,yj,c,x,τ,w1,cc,rfl⟩ | ⟨bj,h2⟩
  ·rw [if_pos bj] at hc;simp only [Bool.and_eq_true,beq_iff_eq] at hc
   obtain ⟨ki,hap⟩:=hc
   obtain ⟨agj,agi,hne⟩:=fact hap
   obtain ⟨di,gi,z,e1,rfl⟩:=mstep_free ki h1
   obtain ⟨he,w2⟩:=copy_congr yj (agj z) w1
   refine ⟨⟨putd σ.env oj.dst x,τ.H⟩,.inl ⟨bj,dj,gj,cj,wj,yj,c,x,_,w2,cc,rfl⟩,.inr ⟨ai,?_⟩⟩
   have e3:Ex P T Mv G oi (putd σ.env oj.dst x) τ.H z τ.H:=(e1.congr (by omega) (agi x)).free ki τ.H
   rw [he,putd_comm hne];exact mstep_of ki di gi e3
  ·rw [if_neg (by rw [bj];decide)] at hc
   obtain ⟨σ3,f1,f2⟩:=mstep_swaps [] [] [] [] i j oi oj hoi hoj hc σ σ1 σ2 h1 h2
   exact ⟨σ3,.inr ⟨bj,f1⟩,.inr ⟨ai,f2⟩⟩
def stepC (P:Program) (T:Ty) (Mv:Nat→Prop) (G:Glob) (N:Fr) (cp:List Nat) (ops:Array Oper) (i:Nat) (o:Oper) (σ:St) (K:St→Prop):Prop:=
 if cp.contains i=true then okDst N o∧o.guard=none∧isCall o.op=none∧isWr o.op=true∧isCopy o.op=true∧match wr T G Mv σ o with
  | some (c,x,σ1)=>c∧K ⟨putd σ1.env o.dst x,σ1.H⟩
  | none=>False
 else stepM P T Mv G N [] [] [] [] ops i o σ K
def sxc (P:Program) (T:Ty) (Mv:Nat→Prop) (G:Glob) (N:Fr) (cp:List Nat) (ops:Array Oper) (K:St→Prop):List (Nat×Oper)→St→Prop
 | [],σ=>K σ
 | (i,o) :: rest,σ=>stepC P T Mv G N cp ops i o σ (sxc P T Mv G N cp ops K rest)
theorem sxc_run {cp:List Nat} {K:St→Prop}:∀ (l:List Nat) (σ:St),(∀ i∈l,i < ops.size)→sxc P T Mv G N cp ops K (inOrder ops l) σ→∃ σn,K σn∧runS (CStep P T Mv G N cp ops) ops l σ σn:=by
 intro l
 induction l with
 | nil=>intro σ _ h;exact ⟨σ,h,rfl⟩
 | cons i l ih=>
  intro σ hl h
  have hi:=hl i (by simp)
  have ho:ops[i]? = some ops[i]:=by simp [hi]
  have hin:inOrder ops (i :: l)=(i,ops[i]) :: inOrder ops l:=by simp [inOrder,hi]
  rw [hin] at h
  have h:stepC P T Mv G N cp ops i ops[i] σ (sxc P T Mv G N cp ops K (inOrder ops l)):=h
  unfold stepC at h
  split at h
  ·rename_i ha
   obtain ⟨hd,hgu,hc,hw,hy,h⟩:=h
   split at h
   ·rename_i c x σ1 h1
    obtain ⟨hcc,h⟩:=h
    obtain ⟨σn,hk,hr⟩:=ih _ (fun j hj=>hl j (by simp [hj])) h
    exact ⟨σn,hk,_,ho,_,.inl ⟨ha,hd,hgu,hc,hw,hy,c,x,σ1,h1,hcc,rfl⟩,hr⟩
   ·exact h.elim
  ·rename_i ha
   have hin1:inOrder ops [i]=[(i,ops[i])]:=by simp [inOrder,hi]
   have hm:sxm P T Mv G N [] [] [] [] ops (sxc P T Mv G N cp ops K (inOrder ops l)) (inOrder ops [i]) σ:=by rw [hin1];exact h
   obtain ⟨σ1,hk1,o',ho',σ1',hs,hr1⟩:=sxm_run [i] σ (by simpa using hi) (fun r hr=>by cases hr) hm
   have hr1:σ1'=σ1:=hr1
   subst hr1
   obtain ⟨σn,hk,hr⟩:=ih _ (fun j hj=>hl j (by simp [hj])) hk1
   exact ⟨σn,hk,o',ho',_,.inr ⟨by simpa using ha,hs⟩,hr⟩
theorem AW_regionC (hg:Good P T) (hm:P.follows .mixedOrders=true) (cp:List Nat) (ord:List Nat) {id:Nat} (hok:okDrawS (compatC cp ops) ord ops=true) {Q:Exit→St→Prop} (h:sxc P T Mv G N cp ops (fun σ'=>Q .normal σ') (inOrder ops ord) σ):AW P Mv X G N (.region id ops true) Q σ:=
 AW_regionS hm (cstep_sound hg cp) (cstep_swaps cp) ord hok fun hlt=>sxc_run ord σ hlt h
theorem AW_rce (hg:Good P T) (hm:P.follows .mixedOrders=true) (cp:List Nat) (ord:List Nat) {id:Nat} (hok:okDrawS (compatC cp ops) ord ops=true) {Q:Exit→St→Prop}
  (h:∀ K:St→Prop,(∀ τ:St,Q .normal τ→K τ)→sxc P T Mv G N cp ops K (inOrder ops ord) σ):AW P Mv X G N (.region id ops true) Q σ:=AW_regionC hg hm cp ord hok (h _ fun _ h=>h)
theorem sxc_nextO {cp:List Nat} {K:St→Prop} {i:Nat} {l:List Nat} {o:Oper} (ho:ops[i]? = some o) (h:∀ K':St→Prop,(∀ τ,sxc P T Mv G N cp ops K (inOrder ops l) τ→K' τ)→stepC P T Mv G N cp ops i o σ K'):sxc P T Mv G N cp ops K (inOrder ops (i :: l)) σ:=by
 have:inOrder ops (i :: l)=(i,o) :: inOrder ops l:=by simp [inOrder,ho]
 rw [this];exact h _ fun _ h=>h
theorem sxc_nilO {cp:List Nat} {K:St→Prop} (h:K σ):sxc P T Mv G N cp ops K (inOrder ops []) σ:=h
end
attribute [simp] stepC isCopy
end Go.Av
namespace Go.Av
section
variable {P:Program} {T:Ty} {Mv X:Nat→Prop} {G:Glob} {N:Fr} {ops:Array Oper} {σ:St}
def QcStep (P:Program) (T:Ty) (Mv:Nat→Prop) (G:Glob) (N:Fr) (qc:List Nat) (ops:Array Oper) (i:Nat) (o:Oper) (σ σ':St):Prop:=
 (qc.contains i=true∧okDst N o∧o.guard=none∧∃ c g xs y,isCall o.op=some c∧tgt G σ.env c=some (g,xs)∧HC P G [] g xs σ.H (.d y) σ.H∧σ'=⟨putd σ.env o.dst (.d y),σ.H⟩)∨
 (qc.contains i=false∧MStep P T Mv G N [] [] [] [] ops i o σ σ')
def compatQc (qc:List Nat) (ops:Array Oper) (i j:Nat) (oi oj:Oper):Bool:=
 if qc.contains i then !qc.contains j && decide (kindOf oj.op≤1) && oi.apart ops oj else if qc.contains j then decide (kindOf oi.op≤1) && oi.apart ops oj else compatM [] [] [] ops i j oi oj
theorem qcstep_sound (hg:Good P T) (qc:List Nat):Sound P X G N Mv (QcStep P T Mv G N qc ops) ops:=fun i o ho σ σ' h w μ a hi Q K hk=>by
 rcases h with ⟨_,hd,hgu,c,g,xs,y,hc,ht,hcall,rfl⟩ | ⟨_,h⟩
 ·have hd':∀ d,o.dst=some d→d < N.n:=fun d e=>by unfold okDst at hd;rw [e] at hd;exact hd
  unfold wpOpIn;simp only [ho];rw [wantedS_ok hi (wantedS_free hgu),if_pos rfl];refine (ex1_ok (Mv:=Mv) (K:=fun σ1=>σ1=⟨putd σ.env o.dst (.d y),σ.H⟩) hg hi hd' ?_ fun w' μ' a' σ1 e hin hev=>hk w' μ' a' (e ▸ hin) hev);unfold ex1;simp only [hc,ht]
  exact (hcall Mv X N σ.env (fun r hr=>by cases hr) (fun r hr=>by cases hr)).mono fun x σ' ⟨e1,e2⟩=>by rw [e1,e2]
 ·exact mstep_sound hg [] [] [] [] i o ho _ _ h w μ a hi hk
theorem mstep_read {i:Nat} {o:Oper} {σ σ':St} (hk:kindOf o.op≤1) (h:MStep P T Mv G N [] [] [] [] ops i o σ σ'):okDst N o∧o.guard=none∧∃ x,Ex P T Mv G o σ.env σ.H x σ.H∧σ'=⟨putd σ.env o.dst x,σ.H⟩:=by
 obtain ⟨hd,hgu,_,h⟩:=h
 rcases h with ⟨b,_⟩ | ⟨_,b,_⟩ | ⟨_,_,k1,_,x,H',e1,_,rfl⟩
 ·cases b
 ·cases b
 ·obtain rfl:=e1.keeps (by omega)
  exact ⟨hd,hgu,x,e1,rfl⟩
theorem mstep_ofR {i:Nat} {o:Oper} {e:Env} {H:Heap} {x:AV} (hk:kindOf o.op≤1) (hd:okDst N o) (hgu:o.guard=none) (h:Ex P T Mv G o e H x H):MStep P T Mv G N [] [] [] [] ops i o ⟨e,H⟩ ⟨putd e o.dst x,H⟩:=
 ⟨hd,hgu,(fun r hr=>by cases hr),.inr (.inr ⟨rfl,rfl,by omega,(by simp [ldAt,List.lookup]),x,H,h,(fun r hr=>by cases hr),rfl⟩)⟩
theorem qcstep_swaps (qc:List Nat):Swaps (QcStep P T Mv G N qc ops) (compatQc qc ops) ops:=fun i j oi oj hoi hoj hc σ σ1 σ2 h1 h2=>by
 unfold compatQc at hc
 have tg:∀ {o:Oper} {c:Call} {e e':Env},isCall o.op=some c→Agree o.op e e'→tgt G e c=tgt G e' c:=fun {o c e e'} hc ha=>tgt_congr fun t ht=>ha t (by rw [(isCall_op hc).1];exact ht)
 have fact:∀ (hap:oi.apart ops oj=true),(∀ v,Agree oj.op (putd σ.env oi.dst v) σ.env)∧(∀ v,Agree oi.op σ.env (putd σ.env oj.dst v))∧_:=fun hap=>
  ⟨fun v t ht=>(agree_put hap (e:=σ.env) (v:=v)).1 t (looks_of_op ht),fun v t ht=>((agree_put hap (e:=σ.env) (v:=v)).2.1 t (looks_of_op ht)).symm,(agree_put hap (e:=σ.env) (v:=und)).2.2⟩
 rcases h1 with ⟨ai,di,gi,c,g,xs,y,ci,ti,hcl,rfl⟩ | ⟨ai,h1⟩
 ·rw [if_pos ai] at hc;simp only [Bool.and_eq_true,Bool.not_eq_true',decide_eq_true_eq] at hc
  obtain ⟨⟨aj,kj⟩,hap⟩:=hc
  obtain ⟨agj,agi,hne⟩:=fact hap
  rcases h2 with ⟨bj,_⟩ | ⟨_,h2⟩
  ·rw [aj] at bj;cases bj
  obtain ⟨dj,gj,z,e2,rfl⟩:=mstep_read kj h2
  have e3:Ex P T Mv G oj σ.env σ.H z σ.H:=e2.congr (by omega) (agj _)
  refine ⟨⟨putd σ.env oj.dst z,σ.H⟩,.inr ⟨aj,mstep_ofR kj dj gj e3⟩,.inl ⟨ai,di,gi,c,g,xs,y,ci,?_,hcl,?_⟩⟩
  ·rw [← tg ci (agi z)];exact ti
  ·dsimp only
   rw [putd_comm hne]
 ·rw [if_neg (by rw [ai];decide)] at hc
  rcases h2 with ⟨bj,dj,gj,c,g,xs,y,cj,tj,hcl,rfl⟩ | ⟨bj,h2⟩
  ·rw [if_pos bj] at hc;simp only [Bool.and_eq_true,decide_eq_true_eq] at hc
   obtain ⟨ki,hap⟩:=hc
   obtain ⟨agj,agi,hne⟩:=fact hap
   obtain ⟨di,gi,z,e1,rfl⟩:=mstep_read ki h1
   have e3:Ex P T Mv G oi (putd σ.env oj.dst (.d y)) σ.H z σ.H:=e1.congr (by omega) (agi _)
   refine ⟨⟨putd σ.env oj.dst (.d y),σ.H⟩,.inl ⟨bj,dj,gj,c,g,xs,y,cj,?_,hcl,rfl⟩,.inr ⟨ai,?_⟩⟩
   ·rw [← tg cj (agj z)];exact tj
   ·dsimp only
    rw [putd_comm hne];exact mstep_ofR ki di gi e3
  ·rw [if_neg (by rw [bj];decide)] at hc
   obtain ⟨σ3,f1,f2⟩:=mstep_swaps [] [] [] [] i j oi oj hoi hoj hc σ σ1 σ2 h1 h2
   exact ⟨σ3,.inr ⟨bj,f1⟩,.inr ⟨ai,f2⟩⟩
theorem hlst_same {a b:List (Nat×Row)} (h1:∀ p∈a,List.lookup p.1 a=List.lookup p.1 b) (h2:∀ p∈b,List.lookup p.1 a=List.lookup p.1 b):hlst a=hlst b:=by
 funext q
 unfold hlst
 have none_of:∀ (l:List (Nat×Row)),(∀ p∈l,p.1≠q)→List.lookup q l=none:=by
  intro l
  induction l with
  | nil=>intro _;rfl
  | cons p l ih=>
   intro h
   rw [List.lookup_cons]
   have:(q == p.1)=false:=by
    rw [beq_eq_false_iff_ne];exact fun e=>h p (by simp) e.symm
   rw [this];exact ih fun p hp=>h p (by simp [hp])
 by_cases ha:∃ p∈a,p.1=q
 ·obtain ⟨p,hp,rfl⟩:=ha
  exact h1 p hp
 ·by_cases hb:∃ p∈b,p.1=q
  ·obtain ⟨p,hp,rfl⟩:=hb
   exact h2 p hp
  ·rw [none_of a fun p hp e=>ha ⟨p,hp,e⟩,none_of b fun p hp e=>hb ⟨p,hp,e⟩]
def hqK (P:Program) (G:Glob) (g:FuncId) (xs:List AV) (σ:St) (dst:Option Tmp) (K:St→Prop):Prop:=∃ y,HC P G [] g xs σ.H (.d y) σ.H∧K ⟨putd σ.env dst (.d y),σ.H⟩
theorem hqK.mc {dst:Option Tmp} {K:St→Prop} {fx:List Nat} {g:FuncId} {xs0 xs:List AV} {rows1:List (Nat×Row)} {y:D} (hc:MC P G fx g xs (hlst rows1) (.d y) (hlst rows1)) (hx:xs0.map (AV.tr (onlyO (rows1.map (·.1))) (onlyF (rows1.map (·.1))))=xs)
  (hH:∀ p∈rows1,(σ.H p.1).map (Row.tr (onlyO (rows1.map (·.1))) (onlyF (rows1.map (·.1))))=hlst rows1 p.1) (hd:∀ p∈rows1,(rows1.map (·.1)).contains p.1=true∨σ.H p.1=none) (hm:∀ r∈rows1.map (·.1),fx.contains r=false→r∈([]:List Nat))
  (hj:hjoin (hlst rows1) (trH (offL (rows1.map (·.1))) (stayO (rows1.map (·.1)) fx) (stayF (rows1.map (·.1)) fx) σ.H)=σ.H)
  (h:K ⟨putd σ.env dst (.d y),σ.H⟩):hqK P G g xs0 σ dst K:=by
 refine ⟨y,?_,h⟩
 have:=HC.mc (mvd:=[]) (H:=σ.H) hc hx hH hd hm
 rw [hj] at this;exact this
def stepQc (P:Program) (T:Ty) (Mv:Nat→Prop) (G:Glob) (N:Fr) (qc:List Nat) (ops:Array Oper) (i:Nat) (o:Oper) (σ:St) (K:St→Prop):Prop:=
 if qc.contains i=true then okDst N o∧o.guard=none∧match isCall o.op with
  | some c=>match tgt G σ.env c with
   | some (g,xs)=>hqK P G g xs σ o.dst K
   | none=>False
  | none=>False
 else stepM P T Mv G N [] [] [] [] ops i o σ K
def sxqc (P:Program) (T:Ty) (Mv:Nat→Prop) (G:Glob) (N:Fr) (qc:List Nat) (ops:Array Oper) (K:St→Prop):List (Nat×Oper)→St→Prop
 | [],σ=>K σ
 | (i,o) :: rest,σ=>stepQc P T Mv G N qc ops i o σ (sxqc P T Mv G N qc ops K rest)
theorem sxqc_run {qc:List Nat} {K:St→Prop}:∀ (l:List Nat) (σ:St),(∀ i∈l,i < ops.size)→sxqc P T Mv G N qc ops K (inOrder ops l) σ→∃ σn,K σn∧runS (QcStep P T Mv G N qc ops) ops l σ σn:=by
 intro l
 induction l with
 | nil=>intro σ _ h;exact ⟨σ,h,rfl⟩
 | cons i l ih=>
  intro σ hl h
  have hi:=hl i (by simp)
  have ho:ops[i]? = some ops[i]:=by simp [hi]
  have hin:inOrder ops (i :: l)=(i,ops[i]) :: inOrder ops l:=by simp [inOrder,hi]
  rw [hin] at h
  have h:stepQc P T Mv G N qc ops i ops[i] σ (sxqc P T Mv G N qc ops K (inOrder ops l)):=h
  unfold stepQc at h
  split at h
  ·rename_i ha
   obtain ⟨hd,hgu,h⟩:=h
   split at h
   ·rename_i c hc
    split at h
    ·rename_i g xs ht
     obtain ⟨y,hcl,h⟩:=h
     obtain ⟨σn,hk,hr⟩:=ih _ (fun j hj=>hl j (by simp [hj])) h
     exact ⟨σn,hk,_,ho,_,.inl ⟨ha,hd,hgu,c,g,xs,y,hc,ht,hcl,rfl⟩,hr⟩
    ·exact h.elim
   ·exact h.elim
  ·rename_i ha
   have hin1:inOrder ops [i]=[(i,ops[i])]:=by simp [inOrder,hi]
   have hm:sxm P T Mv G N [] [] [] [] ops (sxqc P T Mv G N qc ops K (inOrder ops l)) (inOrder ops [i]) σ:=by rw [hin1];exact h
   obtain ⟨σ1,hk1,o',ho',σ1',hs,hr1⟩:=sxm_run [i] σ (by simpa using hi) (fun r hr=>by cases hr) hm
   have hr1:σ1'=σ1:=hr1
   subst hr1
   obtain ⟨σn,hk,hr⟩:=ih _ (fun j hj=>hl j (by simp [hj])) hk1
   exact ⟨σn,hk,o',ho',_,.inr ⟨by simpa using ha,hs⟩,hr⟩
theorem AW_regionQc (hg:Good P T) (hm:P.follows .mixedOrders=true) (qc:List Nat) (ord:List Nat) {id:Nat} (hok:okDrawS (compatQc qc ops) ord ops=true) {Q:Exit→St→Prop} (h:sxqc P T Mv G N qc ops (fun σ'=>Q .normal σ') (inOrder ops ord) σ):AW P Mv X G N (.region id ops true) Q σ:=
 AW_regionS hm (qcstep_sound hg qc) (qcstep_swaps qc) ord hok fun hlt=>sxqc_run ord σ hlt h
theorem AW_rqce (hg:Good P T) (hm:P.follows .mixedOrders=true) (qc:List Nat) (ord:List Nat) {id:Nat} (hok:okDrawS (compatQc qc ops) ord ops=true) {Q:Exit→St→Prop}
  (h:∀ K:St→Prop,(∀ τ:St,Q .normal τ→K τ)→sxqc P T Mv G N qc ops K (inOrder ops ord) σ):AW P Mv X G N (.region id ops true) Q σ:=AW_regionQc hg hm qc ord hok (h _ fun _ h=>h)
theorem sxqc_nextO {qc:List Nat} {K:St→Prop} {i:Nat} {l:List Nat} {o:Oper} (ho:ops[i]? = some o) (h:∀ K':St→Prop,(∀ τ,sxqc P T Mv G N qc ops K (inOrder ops l) τ→K' τ)→stepQc P T Mv G N qc ops i o σ K'):sxqc P T Mv G N qc ops K (inOrder ops (i :: l)) σ:=by
 have:inOrder ops (i :: l)=(i,o) :: inOrder ops l:=by simp [inOrder,ho]
 rw [this];exact h _ fun _ h=>h
theorem sxqc_nilO {qc:List Nat} {K:St→Prop} (h:K σ):sxqc P T Mv G N qc ops K (inOrder ops []) σ:=h
end
attribute [simp] stepQc
end Go.Av
namespace Go.Av
section
variable {P:Program} {T:Ty} {Mv X:Nat→Prop} {G:Glob} {N:Fr} {w w':World} {μ:Mu} {a:Act} {σ:St} {ops:Array Oper} {db:List Nat} {fp:List (Nat×Nat)}
def QStep (P:Program) (T:Ty) (Mv:Nat→Prop) (G:Glob) (N:Fr) (db:List Nat) (fp:List (Nat×Nat)) (i:Nat) (o:Oper) (σ σ':St):Prop:=
 FStep P T Mv G N db i o σ σ'∧(db.contains i=false→touchC G fp σ.env i o.op)
theorem FStep.env {i:Nat} {o:Oper} {σ σ':St} (h:FStep P T Mv G N db i o σ σ'):∃ v,σ'.env=putd σ.env o.dst v:=by
 rcases h.2.2 with ⟨_,c,y,_,_,rfl⟩ | ⟨_,_,x,H',_,rfl⟩
 ·exact ⟨_,rfl⟩
 ·exact ⟨_,rfl⟩
def compatQ (db:List Nat) (fp:List (Nat×Nat)) (ops:Array Oper) (i j:Nat) (oi oj:Oper):Bool:=compatB db ops i j oi oj || (!db.contains i && !db.contains j && oi.apart ops oj && isLS oi.op && isLS oj.op && match fp.lookup i,fp.lookup j with
 | some r,some r'=>!(r == r')
 | _,_=>false)
theorem qswap {i j:Nat} {oi oj:Oper} (hc:compatQ db fp ops i j oi oj=true) {σ σ1 σ2:St} (h1:QStep P T Mv G N db fp i oi σ σ1) (h2:QStep P T Mv G N db fp j oj σ1 σ2) :
  ∃ σ3,QStep P T Mv G N db fp j oj σ σ3∧QStep P T Mv G N db fp i oi σ3 σ2:=by
 obtain ⟨s1,t1⟩:=h1
 obtain ⟨s2,t2⟩:=h2
 have hap:oi.apart ops oj=true:=by
  simp only [compatQ,compatB,Bool.or_eq_true,Bool.and_eq_true] at hc
  rcases hc with hc | hc
  ·exact hc.1
  ·exact hc.1.1.1.2
 have agj:∀ v,Agree oj.op (putd σ.env oi.dst v) σ.env:=fun v t ht=>(agree_put hap (e:=σ.env) (v:=v)).1 t (looks_of_op ht)
 have agi:∀ v,Agree oi.op σ.env (putd σ.env oj.dst v):=fun v t ht=>((agree_put hap (e:=σ.env) (v:=v)).2.1 t (looks_of_op ht)).symm
 have hne:=(agree_put hap (e:=σ.env) (v:=und)).2.2
 obtain ⟨v1,ev1⟩:=s1.env
 have main:∃ σ3,FStep P T Mv G N db j oj σ σ3∧FStep P T Mv G N db i oi σ3 σ2:=by
  simp only [compatQ,Bool.or_eq_true] at hc
  rcases hc with hc | hc
  ·exact fswap hc s1 s2
  ·simp only [Bool.and_eq_true,Bool.not_eq_true'] at hc
   obtain ⟨⟨⟨⟨⟨bi,bj⟩,_⟩,li⟩,lj⟩,hfp⟩:=hc
   have t1':=t1 bi
   have t2':=t2 bj
   cases hfi:fp.lookup i with
   | none=>simp [hfi] at hfp
   | some r=>
    cases hfj:fp.lookup j with
    | none=>simp [hfi,hfj] at hfp
    | some r'=>
     have hr:r≠r':=by simpa [hfi,hfj] using hfp
     obtain ⟨di,gi,s1⟩:=s1
     obtain ⟨dj,gj,s2⟩:=s2
     rcases s1 with ⟨b,_⟩ | ⟨_,k1,x,H',e1,rfl⟩
     ·rw [bi] at b;cases b
     rcases s2 with ⟨b,_⟩ | ⟨_,k2,z,H2,e2,rfl⟩
     ·rw [bj] at b;cases b
     dsimp only at e2 t2' ev1
     simp only [touchC,hfi] at t1';simp only [touchC,hfj] at t2'
     obtain ⟨u,rfl,loc1⟩:=e1.touch t1'
     have e2:=e2.congr k2 (agj _)
     obtain ⟨u',rfl,loc2⟩:=e2.touch (onRow_congr (agj _) t2')
     refine ⟨⟨putd σ.env oj.dst z,pset σ.H r' u'⟩,⟨dj,gj,.inr ⟨bj,k2,z,pset σ.H r' u',loc2 σ.H (pset_ne (H:=σ.H) (u:=u) (Ne.symm hr)).symm,rfl⟩⟩,di,gi,.inr ⟨bi,k1,x,pset (pset σ.H r' u') r u,(loc1 (pset σ.H r' u') (pset_ne hr)).congr k1 (agi _),?_⟩⟩;rw [pset_comm hr,putd_comm hne]
 obtain ⟨σ3,f1,f2⟩:=main
 obtain ⟨v3,ev3⟩:=f1.env
 refine ⟨σ3,⟨f1,fun hb=>?_⟩,f2,fun hb=>?_⟩
 ·have h:=t2 hb
  rw [ev1] at h;exact touchC_congr (agj _) h
 ·rw [ev3];exact touchC_congr (agi _) (t1 hb)
def runQ (P:Program) (T:Ty) (Mv:Nat→Prop) (G:Glob) (N:Fr) (db:List Nat) (fp:List (Nat×Nat)) (ops:Array Oper):List Nat→St→St→Prop
 | [],σ,σ'=>σ=σ'
 | i :: l,σ,σ'=>∃ o,ops[i]? = some o∧∃ σ1,QStep P T Mv G N db fp i o σ σ1∧runQ P T Mv G N db fp ops l σ1 σ'
theorem runQ_front {p:Nat} {op:Oper} (hp:ops[p]? = some op):∀ (l1:List Nat) {l2:List Nat} {σ σ':St},(∀ q∈l1,∀ oq,ops[q]? = some oq→compatQ db fp ops q p oq op=true)→runQ P T Mv G N db fp ops (l1 ++ p :: l2) σ σ'→runQ P T Mv G N db fp ops (p :: (l1 ++ l2)) σ σ':=by
 intro l1
 induction l1 with
 | nil=>intro l2 σ σ' _ h;exact h
 | cons q l1 ih=>
  intro l2 σ σ' hall h
  obtain ⟨oq,hq,σ1,s1,rest⟩:=h
  obtain ⟨o',ho',σ2,s2,rest2⟩:=ih (fun q' hq'=>hall q' (by simp [hq'])) rest
  rw [hp] at ho'
  obtain rfl:=Option.some.inj ho'
  obtain ⟨σ3,f1,f2⟩:=qswap (hall q (by simp) oq hq) s1 s2
  exact ⟨op,hp,σ3,f1,oq,hq,σ2,f2,rest2⟩
def okDrawQ (db:List Nat) (fp:List (Nat×Nat)) (ord:List Nat) (ops:Array Oper):Bool:=
 let t:=tb ops
 ord.length == ops.size && (ord.all fun i=>decide (i < ops.size)) && ((List.range ops.size).all fun i=>ord.contains i) && decide ord.Nodup &&
 ((List.range ops.size).all fun j=>match ops[j]? with
  | some oj=>oj.after.all fun e=>!Region.binds .any e || e.on < j
  | none=>true) &&
 go t ord
where
 go (t:List Nat):List Nat→Bool
 | []=>true
 | a :: l=>(l.all fun b=>match ops[a]?,ops[b]? with
  | some oa,some ob=>(oa.after.all fun e=>!Region.binds .any e || !(e.on == b)) && ((t.getD b 0).testBit a || compatQ db fp ops a b oa ob)
  | _,_=>true) && go t l
def PairQ (db:List Nat) (fp:List (Nat×Nat)) (ops:Array Oper) (a b:Nat):Prop:=∀ oa ob,ops[a]? = some oa→ops[b]? = some ob→
 (∀ e∈oa.after,Region.binds .any e=true→e.on≠b)∧(((tb ops).getD b 0).testBit a=true∨compatQ db fp ops a b oa ob=true)
theorem pairsQ_of:∀ {l:List Nat},okDrawQ.go db fp ops (tb ops) l=true→l.Pairwise (PairQ db fp ops)
 | [],_=>.nil
 | a :: l,h=>by
  simp only [okDrawQ.go,Bool.and_eq_true] at h;refine .cons (fun b hb oa ob hoa hob=>?_) (pairsQ_of h.2)
  have:=List.all_eq_true.1 h.1 b hb
  simp only [hoa,hob,Bool.and_eq_true,Bool.or_eq_true] at this;refine ⟨fun e he hbi heq=>?_,this.2⟩
  have h1:=Array.all_eq_true_iff_forall_mem.1 this.1 e he
  simp [hbi,heq] at h1
theorem anyQ_ok (hg:Good P T) (hlt:∀ j oj,ops[j]? = some oj→∀ e∈oj.after,Region.binds .any e=true→e.on < j) {Q:Exit→St→Prop} {w0:World} {μ0:Mu} {σn:St} (hQ:Q .normal σn):∀ (n:Nat) (R:List Nat) (listed:Array Bool) (w:World) (μ:Mu) (a:Act) (σ:St),R.length=n→R.Nodup→
  (∀ j,j∈R↔j < ops.size∧listed.getD j true=false)→listed.size=ops.size→R.Pairwise (PairQ db fp ops)→
  (∀ j oj,ops[j]? = some oj→listed.getD j false=true→∀ e∈oj.after,Region.binds .any e=true→listed.getD e.on false=true)→runQ P T Mv G N db fp ops R σ σn→In w X G μ N a σ→Ev Mv w0 μ0 w μ→
  wpAnyIn (wd N.ro) 0 P .any ops (After Mv X G N w0 μ0 Q) n listed a w:=by
 intro n
 induction n with
 | zero=>
  intro R listed w μ a σ hl _ hR hsz _ _ hrun hi hev
  have:R=[]:=List.eq_nil_of_length_eq_zero hl
  subst this
  have hr:Region.ready .any ops listed=[]:=by
   apply List.eq_nil_iff_forall_not_mem.2
   intro j hj
   obtain ⟨h1,o,ho,_⟩:=mem_ready.1 hj
   exact absurd ((hR j).2 ⟨(Array.getElem?_eq_some_iff.1 ho).1,h1⟩) (by simp)
  have:σ=σn:=hrun
  subst this;exact ⟨hr,μ,σ,hQ,hi,hev⟩
 | succ n ih=>
  intro R listed w μ a σ hl hnd hR hsz hpw hdown hrun hi hev
  refine ⟨fun hr=>?_,fun i hir=>?_⟩
  ·cases R with
   | nil=>simp at hl
   | cons j R=>
    obtain ⟨hj1,hj2⟩:=(hR j).1 (by simp)
    have hoj:ops[j]? = some ops[j]:=by simp [hj1]
    have hjr:j∈Region.ready .any ops listed:=by
     refine mem_ready.2 ⟨hj2,ops[j],hoj,fun e he hb=>?_⟩
     have hlt':=hlt j ops[j] hoj e he hb
     have hlt2:e.on < ops.size:=by omega
     have hne:e.on ∉ (j :: R):=by
      intro hm
      rcases List.mem_cons.1 hm with h | h
      ·omega
      ·exact ((List.pairwise_cons.1 hpw).1 _ h ops[j] ops[e.on] hoj (by simp [hlt2])).1 e he hb rfl
     have:=mt (hR e.on).2 hne
     have hls:e.on < listed.size:=by omega
     simp only [hlt2,true_and,Array.getD_eq_getD_getElem?] at this ⊢;simp [hls] at this ⊢;exact this
    rw [hr] at hjr
    cases hjr
  ·obtain ⟨hi1,oi,hoi,hall⟩:=mem_ready.1 hir
   have hiR:i∈R:=(hR i).2 ⟨(Array.getElem?_eq_some_iff.1 hoi).1,hi1⟩
   obtain ⟨R1,R2,rfl⟩:=List.append_of_mem hiR
   have hfront:=runQ_front (P:=P) (T:=T) (Mv:=Mv) (G:=G) (N:=N) (db:=db) (fp:=fp) hoi R1 (fun q hq oq hoq=>by
    have hpq:PairQ db fp ops q i:=(List.pairwise_append.1 hpw).2.2 q hq i (by simp)
    rcases (hpq oq oi hoq hoi).2 with h | h
    ·exfalso
     have hlq:=behindL hlt hdown i i oi (Nat.le_refl _) hoi hall q h
     have hq2:=((hR q).1 (by simp [hq])).2
     have hqs:q < listed.size:=by have:=(Array.getElem?_eq_some_iff.1 hoq).1;omega
     simp [Array.getD_eq_getD_getElem?,hqs] at hlq hq2;rw [hlq] at hq2;cases hq2
    ·exact h) hrun
   obtain ⟨o',ho',σ1,hstep,hrest⟩:=hfront
   rw [hoi] at ho'
   obtain rfl:=Option.some.inj ho'
   refine hstep.1.ok hg hi hoi fun w' μ' a' hin hev'=>?_
   have hnd':(R1 ++ R2).Nodup:=by
    have:=hnd
    rw [List.nodup_append] at this ⊢
    obtain ⟨g1,g2,g3⟩:=this
    exact ⟨g1,(List.nodup_cons.1 g2).2,fun x hx y hy=>g3 x hx y (by simp [hy])⟩
   have hi_not:i ∉ R1 ++ R2:=by
    have:=hnd
    rw [List.nodup_append] at this
    obtain ⟨g1,g2,g3⟩:=this
    intro hm
    rcases List.mem_append.1 hm with h | h
    ·exact g3 i h i (by simp) rfl
    ·exact (List.nodup_cons.1 g2).1 h
   refine ih (R1 ++ R2) _ w' μ' a' σ1 (by simp at hl ⊢;omega) hnd' (fun j=>?_) (by simpa using hsz) ?_ ?_ hrest hin (hev.trans hev')
   ·by_cases hji:j=i
    ·subst hji
     have hls:j < listed.size:=by rw [hsz];exact (Array.getElem?_eq_some_iff.1 hoi).1
     simp [hls];simpa using hi_not
    ·rw [getD_set_ne true (Ne.symm hji)];rw [← hR j];simp [hji]
   ·rw [List.pairwise_append] at hpw ⊢
    obtain ⟨g1,g2,g3⟩:=hpw
    exact ⟨g1,(List.pairwise_cons.1 g2).2,fun x hx y hy=>g3 x hx y (by simp [hy])⟩
   ·intro j oj hoj hlj e he hb
    by_cases hji:j=i
    ·subst hji;rw [hoi] at hoj
     obtain rfl:=Option.some.inj hoj
     exact getD_set_true (hall e he hb)
    ·rw [getD_set_ne false (Ne.symm hji)] at hlj;exact getD_set_true (hdown j oj hoj hlj e he hb)
def stepQ (P:Program) (T:Ty) (Mv:Nat→Prop) (G:Glob) (N:Fr) (db:List Nat) (fp:List (Nat×Nat)) (i:Nat) (o:Oper) (σ:St) (K:St→Prop):Prop:=okDst N o∧o.guard=none∧
 if db.contains i=true then (match dataW T G σ.env o with
  | some (c,y)=>c∧K ⟨putd σ.env o.dst (.d y),σ.H⟩
  | none=>False)
 else touchC G fp σ.env i o.op∧kindOf o.op≠9∧match isCall o.op with
  | some c=>callD P G c σ.env o.dst σ.H [] [] K
  | none=>plainL T G Mv o σ [] K
def sxQ (P:Program) (T:Ty) (Mv:Nat→Prop) (G:Glob) (N:Fr) (db:List Nat) (fp:List (Nat×Nat)) (K:St→Prop):List (Nat×Oper)→St→Prop
 | [],σ=>K σ
 | (i,o) :: rest,σ=>stepQ P T Mv G N db fp i o σ (sxQ P T Mv G N db fp K rest)
theorem sxQ_run {K:St→Prop}:∀ (l:List Nat) (σ:St),(∀ i∈l,i < ops.size)→sxQ P T Mv G N db fp K (inOrder ops l) σ→∃ σn,K σn∧runQ P T Mv G N db fp ops l σ σn:=by
 intro l
 induction l with
 | nil=>intro σ _ h;exact ⟨σ,h,rfl⟩
 | cons i l ih=>
  intro σ hl h
  have hi:=hl i (by simp)
  have ho:ops[i]? = some ops[i]:=by simp [hi]
  simp only [inOrder,ho] at h;generalize ops[i]=o at ho h;simp only [sxQ,stepQ] at h
  obtain ⟨hd,hgu,h⟩:=h
  have fin:∀ σ1,QStep P T Mv G N db fp i o σ σ1→sxQ P T Mv G N db fp K (inOrder ops l) σ1→∃ σn,K σn∧runQ P T Mv G N db fp ops (i :: l) σ σn:=fun σ1 hs h1=>by
   obtain ⟨σn,hk,hr⟩:=ih σ1 (fun j hj=>hl j (by simp [hj])) h1
   exact ⟨σn,hk,o,ho,σ1,hs,hr⟩
  split at h
  ·rename_i hb
   split at h
   ·rename_i c y hw
    obtain ⟨hc,h⟩:=h
    exact fin _ ⟨⟨hd,hgu,.inl ⟨hb,c,y,hw,hc,rfl⟩⟩,fun e=>by rw [hb] at e;cases e⟩ h
   ·exact h.elim
  ·rename_i hb
   have hb:db.contains i=false:=by simpa using hb
   obtain ⟨htc,hk,h⟩:=h
   split at h
   ·rename_i c hc
    obtain ⟨y,g,ds,ht,hp,hoff,h⟩:=h
    refine fin _ ⟨⟨hd,hgu,.inr ⟨hb,hk,.d y,σ.H,?_,rfl⟩⟩,fun _=>htc⟩ h;unfold Ex;simp only [hc];exact ⟨y,⟨g,_,ht,.inl ⟨ds,rfl,hp⟩⟩,rfl,trivial⟩
   ·rename_i hc
    unfold plainL at h
    split at h
    ·rename_i hw
     split at h
     ·rename_i c x σ1 h1
      obtain ⟨hcc,hoff,h⟩:=h
      have he:=wr_env hk h1
      obtain ⟨e,H⟩:=σ
      obtain ⟨e1,H1⟩:=σ1
      dsimp only at he
      subst he;refine fin _ ⟨⟨hd,hgu,.inr ⟨hb,hk,x,H1,?_,rfl⟩⟩,fun _=>htc⟩ h;unfold Ex;simp only [hc];rw [if_pos hw];exact ⟨c,h1,hcc⟩
     ·exact h.elim
    ·rename_i hw
     split at h
     ·rename_i c x h1
      obtain ⟨hcc,hoff,h⟩:=h
      refine fin _ ⟨⟨hd,hgu,.inr ⟨hb,hk,x,σ.H,?_,rfl⟩⟩,fun _=>htc⟩ h;unfold Ex;simp only [hc];rw [if_neg hw];exact ⟨c,h1,hcc,trivial⟩
     ·exact h.elim
theorem AW_regionQ (hg:Good P T) (hm:P.follows .mixedOrders=true) (db:List Nat) (fp:List (Nat×Nat)) (ord:List Nat) {id:Nat} (hok:okDrawQ db fp ord ops=true) {Q:Exit→St→Prop} {σ:St} (h:sxQ P T Mv G N db fp (fun σ'=>Q .normal σ') (inOrder ops ord) σ):AW P Mv X G N (.region id ops true) Q σ:=fun w μ a hi=>by
 unfold okDrawQ at hok;simp only [Bool.and_eq_true] at hok
 obtain ⟨⟨⟨⟨⟨h1,h2⟩,h3⟩,h4⟩,h5⟩,h6⟩:=hok
 have hlen:ord.length=ops.size:=by simpa using h1
 have hlt:∀ i∈ord,i < ops.size:=fun i hi=>by simpa using List.all_eq_true.1 h2 i hi
 have hall:∀ i,i < ops.size→i∈ord:=fun i hi=>by simpa using List.all_eq_true.1 h3 i (List.mem_range.2 hi)
 have hnd:ord.Nodup:=by simpa using h4
 have hedge:∀ j oj,ops[j]? = some oj→∀ e∈oj.after,Region.binds .any e=true→e.on < j:=fun j oj hoj e he hb=>by
  have:=List.all_eq_true.1 h5 j (List.mem_range.2 (Array.getElem?_eq_some_iff.1 hoj).1)
  simp only [hoj] at this
  have:=Array.all_eq_true_iff_forall_mem.1 this e he
  simpa [hb] using this
 obtain ⟨σn,hQ,hrun⟩:=sxQ_run ord σ hlt h
 refine wpIn_region_any hm ?_
 obtain ⟨hin,hev⟩:=hi.grew (Mv:=Mv) (Grew.drew w)
 refine anyQ_ok hg hedge hQ ops.size ord _ w.drew μ a σ hlen hnd (fun j=>?_) (by simp) (pairsQ_of h6) ?_ hrun hin hev
 ·constructor
  ·intro hj
   have:=hlt j hj
   simp [Array.getD_eq_getD_getElem?,this]
  ·intro hj
   exact hall j hj.1
 ·intro j oj hoj hlj
  have hj:=(Array.getElem?_eq_some_iff.1 hoj).1
  simp [Array.getD_eq_getD_getElem?,hj] at hlj
theorem AW_rQ (hg:Good P T) (hm:P.follows .mixedOrders=true) (db:List Nat) (fp:List (Nat×Nat)) (ord:List Nat) (l ns:List Nat) (hM:∀ r,ns.contains r=false→Mv r) {id:Nat} (hok:okDrawQ db fp ord ops=true) {y:Code} {Q:Exit→St→Prop} {σ:St}
  (h:∀ K:St→Prop,(∀ τ:St,AW P Mv X G N y Q (τ.norm l ns)→K τ)→sxQ P T Mv G N db fp K (inOrder ops ord) σ):AW P Mv X G N (.seq (.region id ops true) y) Q σ:=
 AW_seq (AW_regionQ hg hm db fp ord hok (h _ fun _ h=>h.norm l ns hM))
theorem sxQ_nextO {K:St→Prop} {i:Nat} {l:List Nat} {o:Oper} (ho:ops[i]? = some o) (h:∀ K':St→Prop,(∀ τ,sxQ P T Mv G N db fp K (inOrder ops l) τ→K' τ)→stepQ P T Mv G N db fp i o σ K'):sxQ P T Mv G N db fp K (inOrder ops (i :: l)) σ:=by
 have:inOrder ops (i :: l)=(i,o) :: inOrder ops l:=by simp [inOrder,ho]
 rw [this];exact h _ fun _ h=>h
theorem sxQ_nilO {K:St→Prop} (h:K σ):sxQ P T Mv G N db fp K (inOrder ops []) σ:=h
end
attribute [simp] stepQ
end Go.Av
