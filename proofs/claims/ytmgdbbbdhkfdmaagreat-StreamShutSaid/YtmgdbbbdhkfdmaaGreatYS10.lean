import Derived.Test.YtmgdbbbdhkfdmaaGreatYS0
import Derived.Deep.DeepCutAuto
import Derived.Test.YtmgdbbbdhkfdmaaGreatYS9
import Derived.Test.YtmgdbbbdhkfdmaaGreatYS3
import Derived.Test.YtmgdbbbdhkfdmaaGreatYS4
set_option linter.unusedSimpArgs false
set_option linter.unusedVariables false
namespace Go.Proofs.YtmgdbbbdhkfdmaaGreat.Lay
set_option maxRecDepth 100000
open Go.RowKit Go.Deep
inductive Src where
 | fix (r:Nat)
 | new (i:Nat)
structure En where
 src:Src
 t:TypeId
 V:Array Value
 j:Option Nat
def En.idx(e:En):List Nat:=(match e.src with | .fix _=>[] | .new i=>[i])++(match e.j with|none=>[]|some j=>[j])
def En.loc(β:Nat→Nat)(e:En):Nat:=match e.src with | .fix r=>r | .new i=>β i
def En.live(s:Array Bool)(e:En):Prop:=match e.src with | .fix _=>True | .new i=>s.getD i false=true
def En.done(s:Array Bool)(e:En):Prop:=match e.j with|none=>True|some j=>s.getD j false=true
def En.far(n:Nat)(β:Nat→Nat)(e:En):Prop:=match e.src with | .fix r=>r<n | .new i=>n≤β i
structure En.Ok(P:Program)(ops:Array Oper)(A:(Nat→Nat)→Act)(e:En):Prop where
 made:∀ i,e.src = .new i→∃ o c0,ops[i]?=some o∧eff o=true∧c0.size=e.V.size∧(e.j=none→c0=e.V) ∧
  ∀(a:Act) (w:World),(∀ t,Operand.tmp t∈o.op.operands→∃ β,a.tmps.getD t undef=(A β).tmps.getD t undef)→(execOp a.eval o).run P w = .ok (.value (layV w.heap.size o)) (w.alloc (.cells c0 e.t))
 stored:∀ j,e.j=some j→∃ o ty p v,ops[j]?=some o∧o.dst=none∧o.op = .store ty (.tmp p) (.tmp v)∧(P.info? ty).map (·.size)=some e.V.size∧e.V.all (·.oneCell')=true ∧
  (∀ β,(A β).tmps.getD p undef = .pointer (some ⟨e.loc β,0,none⟩))∧(∀ β,(A β).tmps.getD v undef = .agg e.V)∧∀ i,e.src = .new i→∃ ed∈o.after,Region.binds .any ed=true∧ed.on=i
def backB(ops:Array Oper):Bool:=(List.range ops.size).all fun i=>match ops[i]? with
 | some o=>o.after.all fun e=>!Region.binds .any e || decide (e.on<i)
 | none=>true
theorem all_listed{ops:Array Oper}(h:backB ops=true){s:Array Bool}(hs:s.size=ops.size)(hr:Region.ready .any ops s=[]):∀ n i,i<n→i<ops.size→s.getD i false=true
 | 0,_,h,_=>by omega
 | n+1,i,_,hi=>by
  cases hv:s.getD i false with
  | true=>rfl
  | false=>
   exfalso
   have hm:i∈Region.ready .any ops s:=by
    refine mem_ready.2 ⟨?_,ops[i],Array.getElem?_eq_getElem hi,fun e he hb=>?_⟩
    ·have:i<s.size:=by omega
     simp [this] at hv ⊢
     exact hv
    ·have h1:=List.all_eq_true.1 h i (List.mem_range.2 hi)
     rw [Array.getElem?_eq_getElem hi] at h1
     have h2:=Array.all_eq_true_iff_forall_mem.1 h1 e he
     simp only [hb,Bool.not_true,Bool.false_or,decide_eq_true_eq] at h2
     exact all_listed h hs hr n e.on (by omega) (by omega)
   rw [hr] at hm
   cases hm
def effIn(ops:Array Oper)(ix:List Nat):Bool:=(List.range ops.size).all fun i=>match ops[i]? with
 | some o=>!eff o || ix.contains i
 | none=>true
theorem effIn_spec{ops:Array Oper}{ix:List Nat}(h:effIn ops ix=true){i:Nat}{o:Oper}(hi:ops[i]?=some o)(he:eff o=true):i∈ix:=by
 have h1:i<ops.size:=(Array.getElem?_eq_some_iff.1 hi).1
 have h3:=List.all_eq_true.1 h i (List.mem_range.2 h1)
 simp only [hi,he,Bool.not_true,Bool.false_or] at h3
 simpa using h3
structure Tab(T:List En)(n0 n:Nat)(β:Nat→Nat)(s:Array Bool)(w:World):Prop where
 sz:s.size=n
 far:∀ e∈T,e.live s→e.far n0 β
 blk:∀ e∈T,e.live s→∃ cs,Blk w (e.loc β) e.t cs∧cs.size=e.V.size∧(e.done s→cs=e.V)
 ne:∀ e∈T,∀ e'∈T,e≠e'→e.live s→e'.live s→e.loc β≠e'.loc β
 dl:∀ e∈T,∀ j,e.j=some j→s.getD j false=true→e.live s
theorem live_set{s:Array Bool}{e:En}{k:Nat}(h:e.src ≠ .new k):e.live (s.setIfInBounds k true)↔e.live s:=by
 unfold En.live
 cases hs:e.src with
 | fix r=>exact Iff.rfl
 | new i=>
  have:k≠i:=fun e'=>h (by rw [hs,e'])
  simp [Array.getElem?_setIfInBounds_ne this]
theorem done_set{s:Array Bool}{e:En}{k:Nat}(h:e.j≠some k):e.done (s.setIfInBounds k true)↔e.done s:=by
 unfold En.done
 cases hs:e.j with
 | none=>exact Iff.rfl
 | some i=>
  have:k≠i:=fun e'=>h (by rw [hs,e'])
  simp [Array.getElem?_setIfInBounds_ne this]
theorem loc_upd{β:Nat→Nat}{e:En}{k m:Nat}(h:e.src ≠ .new k):e.loc (upd β k m)=e.loc β:=by
 unfold En.loc
 cases hs:e.src with
 | fix r=>rfl
 | new i=>exact upd_ne β m (fun e'=>h (by rw [hs,e']))
theorem far_upd{β:Nat→Nat}{e:En}{k m n0:Nat}(h:e.src ≠ .new k):e.far n0 (upd β k m)↔e.far n0 β:=by
 unfold En.far
 cases hs:e.src with
 | fix r=>exact Iff.rfl
 | new i=>simp only [upd_ne β m (fun e':i=k=>h (by rw [hs,e']))]
theorem idx_src{e:En}{k:Nat}(h:e.src = .new k):k∈e.idx:=by unfold En.idx;rw [h];simp
theorem idx_j{e:En}{k:Nat}(h:e.j=some k):k∈e.idx:=by unfold En.idx;rw [h];simp
theorem idx_cases{e:En}{k:Nat}(h:k∈e.idx):e.src = .new k∨e.j=some k:=by
 unfold En.idx at h
 rcases List.mem_append.1 h with h|h
 ·cases hs:e.src with
  | fix r=>rw [hs] at h;cases h
  | new i=>rw [hs] at h;simp at h;exact .inl (by rw [h])
 ·cases hs:e.j with
  | none=>rw [hs] at h;cases h
  | some i=>rw [hs] at h;simp at h;exact .inr (by rw [h])
section
variable {P:Program} {l:List Oper} {Q:Exit→Act→World→Prop} {A:(Nat→Nat)→Act} {T:List En} {R:List Nat} {w0:World}
set_option maxHeartbeats 1000000 in
theorem wp_region_tab{id:Nat}{a:Act}(hm:P.follows .mixedOrders=true)(T:List En)(R:List Nat)(A:(Nat→Nat)→Act)
  (hd:dstB l.toArray=true) (he:effB .any l.toArray=true) (hb:backB l.toArray=true) (hx:effIn l.toArray (T.flatMap En.idx)=true)
  (hB:∀ β,Region.lexB .any (opsB β l)=true)
  (hU:∀ e∈T,∀ e'∈T,∀ k,k∈e.idx→k∈e'.idx→e=e') (hN:∀ e∈T,∀ i,e.src = .new i→e.j≠some i) (hL:∀ e∈T,∀ i∈e.idx,i<l.length)
  (hF:∀ e∈T,∀ r,e.src = .fix r→r∈R∧r<w0.heap.size∧∃ cs,Blk w0 r e.t cs∧cs.size=e.V.size∧e.j≠none)
  (hFF:∀ e∈T,∀ e'∈T,e≠e'→∀ r r',e.src = .fix r→e'.src = .fix r'→r≠r')
  (hQ:∀ β W,Fr R w0 W→(∀ e∈T,Blk W (e.loc β) e.t e.V∧e.far w0.heap.size β)→Q .normal (A β) W)
  (hO:∀ e∈T,e.Ok P l.toArray A)
  (hI:∀(i:Nat) (o:Oper) (d:Nat),l.toArray[i]?=some o→eff o=false→mayCall o=true→o.dst=some d→∀ β β',(A β).tmps.getD d undef=(A β').tmps.getD d undef)
  (h:∀ β X,Cl X→wpQuiet P (opsB β l) (fun W=>Fr R w0 W∧X W) (fun a'=>a'=A β) (lays β l 0) a):(Code.region id l.toArray true).wp P Q a w0:=by
 refine wp_region_any hm ?_
 have hsz:(Array.replicate l.toArray.size false).size=l.toArray.size:=by simp
 have hf0:∀ i,(Array.replicate l.toArray.size false).getD i false=false:=fun i=>by
  rw [Array.getD_eq_getD_getElem?,Array.getElem?_replicate]
  split <;> rfl
 refine wpAny_laid (md := .any) (C:=fun W=>Fr R w0 W) (A:=A) (J:=fun β s W=>Tab T w0.heap.size l.toArray.size β s W) hd he hI ?_ ?_ ?_ ?_ l.toArray.size _ a _ (fun _=>0) (Fr.refl R w0).drew ?_ ?_
 ·intro β s w w' hc hj f
  refine⟨hj.sz,hj.far,fun e hT hl=>?_,hj.ne,hj.dl⟩
  obtain⟨cs,h1,h2,h3⟩:=hj.blk e hT hl
  exact⟨cs,h1.fr f (by simp),h2,h3⟩
 ·intro β s w i o ho hef hj
  have hni:∀ e∈T,i∉e.idx→(e.src ≠ .new i∧e.j≠some i):=fun e _ hn=>⟨fun h=>hn (idx_src h),fun h=>hn (idx_j h)⟩
  have hno:∀ e∈T,i∉e.idx:=fun e hT hmm=>by
   have hk:=hO e hT
   rcases idx_cases hmm with h|h
   ·obtain⟨o',c0,ho',hef',_⟩:=hk.made i h
    have:o'=o:=by
     have e1:some o'=some o:=ho'.symm.trans ho
     injection e1
    subst this
    rw [hef'] at hef
    cases hef
   ·obtain⟨o',ty,p,v,ho',_,hop,_⟩:=hk.stored i h
    have:o'=o:=by
     have e1:some o'=some o:=ho'.symm.trans ho
     injection e1
    subst this
    unfold eff at hef
    rw [hop] at hef
    cases hef
  refine⟨by simp [hj.sz],fun e hT hl=>?_,fun e hT hl=>?_,fun e hT e' hT' hne hl hl'=>?_,fun e hT j hjj hl=>?_⟩
  rotate_left 3
  ·refine (live_set (hni e hT (hno e hT)).1).2 (hj.dl e hT j hjj ?_)
   rwa [getD_set_ne false (fun e'=>(hni e hT (hno e hT)).2 (by rw [hjj,e']))] at hl
  ·exact hj.far e hT ((live_set (hni e hT (hno e hT)).1).1 hl)
  ·obtain⟨cs,h1,h2,h3⟩:=hj.blk e hT ((live_set (hni e hT (hno e hT)).1).1 hl)
   exact⟨cs,h1,h2,fun hdn=>h3 ((done_set (hni e hT (hno e hT)).2).1 hdn)⟩
  ·exact hj.ne e hT e' hT' hne ((live_set (hni e hT (hno e hT)).1).1 hl) ((live_set (hni e' hT' (hno e' hT')).1).1 hl')
 ·intro β s w a i o ho hef hi hc hj hsl
  obtain⟨hun,o2,ho2,hall⟩:=mem_ready.1 hi
  have:o2=o:=by
   have e1:some o2=some o:=ho2.symm.trans ho
   injection e1
  subst this
  have hmem:=effIn_spec hx ho hef
  obtain⟨e,hT,hei⟩:=List.mem_flatMap.1 hmem
  have hoth:∀ e'∈T,e'≠e→e'.src ≠ .new i∧e'.j≠some i:=fun e' hT' hne=>⟨fun h=>hne (hU e' hT' e hT i (idx_src h) hei),fun h=>hne (hU e' hT' e hT i (idx_j h) hei)⟩
  have hk:=hO e hT
  have hn0:w0.heap.size≤w.heap.size:=hc.size
  have htr:(s.setIfInBounds i true).getD i false=true:=by
   have h1:i<l.toArray.size:=(Array.getElem?_eq_some_iff.1 ho).1
   have:i<s.size:=by rw [hj.sz];exact h1
   simp [this]
  rcases idx_cases hei with hs|hs
  ·obtain⟨o',c0,ho',_,hc0,hc1,hr⟩:=hk.made i hs
   have:o'=o2:=by
    have e1:some o'=some o2:=ho'.symm.trans ho
    injection e1
   subst this
   have hrun:=hr a w (fun t ht=>⟨β,hsl β (Agree.rfl' s β) t ht⟩)
   have fal:Fr [] w (w.alloc (.cells c0 e.t)):=(Fr.refl [] w).alloc _
   have hji:=hN e hT i hs
   have hdn:e.done (s.setIfInBounds i true)↔e.done s:=done_set hji
   have hnd:e.j≠none→¬ e.done s:=fun hne hdd=>by
    unfold En.done at hdd
    cases hjj:e.j with
    | none=>exact hne hjj
    | some j=>
     rw [hjj] at hdd
     have:=hj.dl e hT j hjj hdd
     unfold En.live at this
     rw [hs] at this
     dsimp only at this
     rw [getD_ft hun] at this
     cases this
   refine⟨_,_,hrun, .inl rfl,hc.trans fal (by simp),by simp [hj.sz],fun e' hT' hl=>?_,fun e' hT' hl=>?_,fun e1 hT1 e2 hT2 hne hl1 hl2=>?_,fun e' hT' j hjj hl=>?_⟩
   rotate_left 3
   ·by_cases hee:e'=e
    ·subst hee
     unfold En.live
     rw [hs]
     exact htr
    ·refine (live_set (hoth e' hT' hee).1).2 (hj.dl e' hT' j hjj ?_)
     rwa [getD_set_ne false (fun e''=>(hoth e' hT' hee).2 (by rw [hjj,e'']))] at hl
   ·by_cases hee:e'=e
    ·subst hee
     unfold En.far
     rw [hs]
     simp only [upd_same]
     exact hn0
    ·exact (far_upd (hoth e' hT' hee).1).2 (hj.far e' hT' ((live_set (hoth e' hT' hee).1).1 hl))
   ·by_cases hee:e'=e
    ·subst hee
     refine⟨c0,?_,hc0,fun hdd=>?_⟩
     ·unfold En.loc
      rw [hs]
      simp only [upd_same]
      exact Blk.new w e'.t c0
     ·by_cases hjn:e'.j=none
      ·exact hc1 hjn
      ·exact absurd (hdn.1 hdd) (hnd hjn)
    ·obtain⟨cs,h1,h2,h3⟩:=hj.blk e' hT' ((live_set (hoth e' hT' hee).1).1 hl)
     rw [loc_upd (hoth e' hT' hee).1]
     exact⟨cs,h1.fr fal (by simp),h2,fun hdd=>h3 ((done_set (hoth e' hT' hee).2).1 hdd)⟩
   ·have hlt:∀ e'∈T,e'≠e→e'.live (s.setIfInBounds i true)→e'.loc (upd β i w.heap.size)<w.heap.size:=fun e' hT' hee hl=>by
     obtain⟨cs,h1,_⟩:=hj.blk e' hT' ((live_set (hoth e' hT' hee).1).1 hl)
     rw [loc_upd (hoth e' hT' hee).1]
     exact h1.lt
    have hme:e.loc (upd β i w.heap.size)=w.heap.size:=by unfold En.loc;rw [hs];simp only [upd_same]
    by_cases h1:e1=e
    ·subst h1
     have:=hlt e2 hT2 (Ne.symm hne) hl2
     omega
    ·by_cases h2:e2=e
     ·subst h2
      have:=hlt e1 hT1 hne hl1
      omega
     ·rw [loc_upd (hoth e1 hT1 h1).1,loc_upd (hoth e2 hT2 h2).1]
      exact hj.ne e1 hT1 e2 hT2 hne ((live_set (hoth e1 hT1 h1).1).1 hl1) ((live_set (hoth e2 hT2 h2).1).1 hl2)
  ·obtain⟨o',ty,p,v,ho',hdst,hop,hinf,hone,hp,hv,hed⟩:=hk.stored i hs
   have:o'=o2:=by
    have e1:some o'=some o2:=ho'.symm.trans ho
    injection e1
   subst this
   have hsi:∀ e'∈T,e'.src ≠ .new i:=fun e' hT' h=>by
    by_cases hee:e'=e
    ·subst hee;exact hN e' hT' i h hs
    ·exact (hoth e' hT' hee).1 h
   have hlv:e.live s:=by
    unfold En.live
    cases hsr:e.src with
    | fix r=>trivial
    | new k=>
     obtain⟨ed,hed1,hed2,hed3⟩:=hed k hsr
     have:=hall ed hed1 hed2
     rw [hed3] at this
     exact this
   obtain⟨cs,hb1,hb2,hb3⟩:=hj.blk e hT hlv
   have hep:a.eval (.tmp p) = .pointer (some ⟨e.loc β,0,none⟩):=by
    have:=hsl β (Agree.rfl' s β) p (by rw [hop];simp [Op.operands])
    rw [hp β] at this
    exact this
   have hev:a.eval (.tmp v) = .agg e.V:=by
    have:=hsl β (Agree.rfl' s β) v (by rw [hop];simp [Op.operands])
    rw [hv β] at this
    exact this
   have hth:w.there (e.loc β) 0 e.V.size:=fun j hj'=>by
    have hcc:=Blk.cell hb1 j
    refine⟨?_,?_⟩
    ·rw [Nat.zero_add,hcc]
     simp [show j<cs.size from by omega]
    ·rw [Nat.zero_add]
     exact Blk.frozen hb1 j
   have hrun:(execOp a.eval o').run P w = .ok .skip (w.setCells (e.loc β) 0 e.V.toList):=by
    unfold execOp
    simp only [hop,hep,hev,run_storeAt_mid w (e.loc β) 0 ty e.V hth hinf hone,Sem.run_bind,Sem.run_pure,Result.andThen_ok]
   have hfs:Fr [e.loc β] w (w.setCells (e.loc β) 0 e.V.toList):=setCells_fr _ _ _ _
   have hbs:Blk (w.setCells (e.loc β) 0 e.V.toList) (e.loc β) e.t e.V:=by
    have:=setCells_blk (e.loc β) e.t e.V.toList 0 w cs.toList (by simpa using hb1) (by simp;omega)
    have e2:cs.toList.take 0++e.V.toList++cs.toList.drop (0+e.V.toList.length)=e.V.toList:=by
     rw [List.drop_of_length_le (by simp;omega)];simp
    rw [e2] at this
    simpa using this
   refine⟨_,_,hrun, .inr ⟨rfl,hdst⟩,?_,by simp [hj.sz],fun e' hT' hl=>?_,fun e' hT' hl=>?_,fun e1 hT1 e2 hT2 hne hl1 hl2=>?_,fun e' hT' j hjj hl=>?_⟩
   rotate_left 4
   ·refine (live_set (hsi e' hT')).2 ?_
    by_cases hee:e'=e
    ·subst hee;exact hlv
    ·refine hj.dl e' hT' j hjj ?_
     rwa [getD_set_ne false (fun e''=>(hoth e' hT' hee).2 (by rw [hjj,e'']))] at hl
   ·refine hc.trans hfs (fun y hy=>?_)
    simp at hy
    subst hy
    have hfar:=hj.far e hT hlv
    unfold En.far at hfar
    cases hsr:e.src with
    | fix r=>exact .inl (by have:=(hF e hT r hsr).1;unfold En.loc;rw [hsr];exact this)
    | new k=>rw [hsr] at hfar;exact .inr (by unfold En.loc;rw [hsr];exact hfar)
   ·exact (far_upd (hsi e' hT')).2 (hj.far e' hT' ((live_set (hsi e' hT')).1 hl))
   ·rw [loc_upd (hsi e' hT')]
    by_cases hee:e'=e
    ·subst hee
     exact⟨e'.V,hbs,rfl,fun _=>rfl⟩
    ·obtain⟨cs',h1,h2,h3⟩:=hj.blk e' hT' ((live_set (hsi e' hT')).1 hl)
     refine⟨cs',h1.fr hfs ?_,h2,fun hdd=>h3 ((done_set (hoth e' hT' hee).2).1 hdd)⟩
     simp
     exact hj.ne e' hT' e hT hee ((live_set (hsi e' hT')).1 hl) hlv
   ·rw [loc_upd (hsi e1 hT1),loc_upd (hsi e2 hT2)]
    exact hj.ne e1 hT1 e2 hT2 hne ((live_set (hsi e1 hT1)).1 hl1) ((live_set (hsi e2 hT2)).1 hl2)
 ·intro β s w hc hj hr
  have hal:=all_listed hb (by rw [hj.sz]) hr l.toArray.size
  refine hQ β w hc (fun e hT=>?_)
  have hix:∀ k∈e.idx,s.getD k false=true:=fun k hk=>by
   have h1:=hL e hT k hk
   have h2:k<l.toArray.size:=by simpa using h1
   exact hal k h2 h2
  have hlv:e.live s:=by
   unfold En.live
   cases hsr:e.src with
   | fix r=>trivial
   | new k=>exact hix k (idx_src hsr)
  have hdn:e.done s:=by
   unfold En.done
   cases hsr:e.j with
   | none=>trivial
   | some k=>exact hix k (idx_j hsr)
  obtain⟨cs,h1,_,h3⟩:=hj.blk e hT hlv
  rw [h3 hdn] at h1
  exact⟨h1,hj.far e hT hlv⟩
 ·refine⟨hsz,fun e hT hl=>?_,fun e hT hl=>?_,fun e hT e' hT' hne hl hl'=>?_,fun e hT j hjj hl=>by rw [hf0] at hl;cases hl⟩
  ·unfold En.live at hl
   unfold En.far
   cases hsr:e.src with
   | fix r=>exact (hF e hT r hsr).2.1
   | new k=>rw [hsr] at hl;dsimp only at hl;rw [hf0] at hl;cases hl
  ·unfold En.live at hl
   cases hsr:e.src with
   | fix r=>
    obtain⟨_,_,cs,h1,h2,h3⟩:=hF e hT r hsr
    refine⟨cs,by unfold En.loc;rw [hsr];exact h1,h2,fun hdd=>?_⟩
    unfold En.done at hdd
    cases hjj:e.j with
    | none=>exact absurd hjj h3
    | some j=>rw [hjj] at hdd;dsimp only at hdd;rw [hf0] at hdd;cases hdd
   | new k=>rw [hsr] at hl;dsimp only at hl;rw [hf0] at hl;cases hl
  ·unfold En.live at hl hl'
   cases hsr:e.src with
   | fix r=>
    cases hsr':e'.src with
    | fix r'=>unfold En.loc;rw [hsr,hsr'];exact hFF e hT e' hT' hne r r' hsr hsr'
    | new k=>rw [hsr'] at hl';dsimp only at hl';rw [hf0] at hl';cases hl'
   | new k=>rw [hsr] at hl;dsimp only at hl;rw [hf0] at hl;cases hl
 ·intro β' _ X hX
  have:=hB β'
  simp only [Region.lexB,Bool.and_eq_true] at this
  have h1:=wpAnyQ_lex (md := .any) (C:=fun W=>Fr R w0 W∧X W) this.1 (lays β' l 0) 0 (Array.replicate (opsB β' l).size false) a (by simp [opsB]) (by have h2:=this.2;rw [opsB_size] at h2 ⊢;simpa [lays_len] using h2) (h β' X hX)
  rw [opsB_size,lays_len] at h1
  simpa using h1
end
end Go.Proofs.YtmgdbbbdhkfdmaaGreat.Lay
namespace Go.Proofs.YtmgdbbbdhkfdmaaGreat.Lay
set_option maxRecDepth 100000
open Go.RowKit Go.Deep
structure GX(R:List Nat)(w:World)(X:World→Prop) where
 W:World
 fr:Fr R w W
 hx:X W
section
variable {R:List Nat} {w:World} {X:World→Prop}
theorem GX.cell{a:Addr}{v:Value}(h:w.cell? a=some v)(hn:a.block∉R)(p:GX R w X):p.W.cell? a=some v:=
 (p.fr.cell (World.block_lt_of_cell? w a h) hn).trans h
theorem GX.call(hX:Cl X){P:Program}{f:FuncId}{args:Array Value}{p:GX R w X}{v:Value}
  (h:Calls P f args p.W fun e w'=>e = .returned v∧Fr [] p.W w'):Calls P f args p.W fun e w''=>e = .returned v∧∃ q:GX R w X,w''=q.W:=
 h.mono fun _ _ ⟨he,hf⟩=>⟨he,⟨_,p.fr.trans hf (by simp),hX _ _ p.hx hf⟩,rfl⟩
theorem GX.same{P:Program}{f:FuncId}{args:Array Value}{p:GX R w X}{v:Value}
  (h:Calls P f args p.W fun e w'=>e = .returned v∧p.W=w'):Calls P f args p.W fun e w''=>e = .returned v∧∃ q:GX R w X,w''=q.W:=
 h.mono fun _ _ ⟨he,hf⟩=>⟨he,p,hf.symm⟩
end
section
variable {P:Program} {ops:Array Oper} {A:(Nat→Nat)→Act}
theorem ok_fix{r j p v:Nat}{t ty:TypeId}{V:Array Value}{o:Oper}(ho:ops[j]?=some o)(hd:o.dst=none)(hop:o.op = .store ty (.tmp p) (.tmp v))(hi:(P.info? ty).map (·.size)=some V.size)(h1:V.all (·.oneCell')=true)
  (hp:∀ β,(A β).tmps.getD p undef = .pointer (some ⟨r,0,none⟩)) (hv:∀ β,(A β).tmps.getD v undef = .agg V):En.Ok P ops A ⟨.fix r,t,V,some j⟩:=
 ⟨fun i h=>(by cases h),fun j' h=>by
  injection h with h
  subst h
  exact⟨o,ty,p,v,ho,hd,hop,hi,h1,hp,hv,fun i h=>(by cases h)⟩⟩
theorem ok_new{i j p v:Nat}{t ty:TypeId}{V c0:Array Value}{o oi:Oper}(hoi:ops[i]?=some oi)(hopi:oi.op = .alloc t)(hz:∀ w,(Instr.alloc t true (.tuple #[])).run P w = .ok (.pointer (some ⟨w.heap.size,0,none⟩)) (w.alloc (.cells c0 t)))(hc:c0.size=V.size)
  (ho:ops[j]?=some o) (hd:o.dst=none) (hop:o.op = .store ty (.tmp p) (.tmp v)) (hi:(P.info? ty).map (·.size)=some V.size) (h1:V.all (·.oneCell')=true)
  (hp:∀ β,(A β).tmps.getD p undef = .pointer (some ⟨β i,0,none⟩)) (hv:∀ β,(A β).tmps.getD v undef = .agg V) (hw:o.after.any (fun ed=>Region.binds .any ed && ed.on == i)=true):En.Ok P ops A ⟨.new i,t,V,some j⟩:=
 ⟨fun i' h=>by
  injection h with h
  subst h
  refine⟨oi,c0,hoi,by unfold eff;rw [hopi],hc,fun h=>(by cases h),fun a w _=>?_⟩
  unfold execOp layV
  simp only [hopi,hz,Sem.run_bind,Sem.run_pure,Result.andThen_ok],fun j' h=>by
  injection h with h
  subst h
  refine⟨o,ty,p,v,ho,hd,hop,hi,h1,hp,hv,fun i' h=>?_⟩
  injection h with h
  subst h
  obtain⟨e,he,hb⟩:=Array.any_eq_true'.1 hw
  simp only [Bool.and_eq_true,beq_iff_eq] at hb
  exact⟨e,he,hb.1,hb.2⟩⟩
theorem ok_build{i s:Nat}{t ts:TypeId}{V:Array Value}{oi:Oper}(hoi:ops[i]?=some oi)(hopi:oi.op = .buildSlice ts 1 #[(0, .tmp s)])
  (hz:∀ w,(Instr.buildSlice ts 1 #[(0, .agg V)]).run P w = .ok (.slice (some ⟨w.heap.size,0,none⟩) 1 1) (w.alloc (.cells V t))) (hv:∀ β,(A β).tmps.getD s undef = .agg V):En.Ok P ops A ⟨.new i,t,V,none⟩:=
 ⟨fun i' h=>by
  injection h with h
  subst h
  refine⟨oi,V,hoi,by unfold eff;rw [hopi],rfl,fun _=>rfl,fun a w hs=>?_⟩
  obtain⟨β,hb⟩:=hs s (by rw [hopi];simp [Op.operands])
  rw [hv β] at hb
  have he:a.eval (.tmp s) = .agg V:=hb
  unfold execOp layV
  simp [hopi,he,hz,Sem.run_bind,Sem.run_pure,Result.andThen_ok],fun j' h=>(by cases h)⟩
end
def callDs(l:List Oper):List Nat:=l.filterMap fun o=>if !eff o && mayCall o then o.dst else none
def SameAt(A:(Nat→Nat)→Act):List Nat→Prop
 | []=>True
 | d::r=>(∀ β β',(A β).tmps.getD d undef=(A β').tmps.getD d undef)∧SameAt A r
theorem sameAt_mem{A:(Nat→Nat)→Act}:∀ {ds:List Nat},SameAt A ds→∀ d∈ds,∀ β β',(A β).tmps.getD d undef=(A β').tmps.getD d undef
 | [],_,d,h=>by cases h
 | x::r,hs,d,h=>by
  rcases List.mem_cons.1 h with rfl|h
  ·exact hs.1
  ·exact sameAt_mem hs.2 d h
def AllOk(P:Program)(ops:Array Oper)(A:(Nat→Nat)→Act):List En→Prop
 | []=>True
 | e::r=>e.Ok P ops A∧AllOk P ops A r
theorem allOk_mem{P:Program}{ops:Array Oper}{A:(Nat→Nat)→Act}:∀ {T:List En},AllOk P ops A T→∀ e∈T,e.Ok P ops A
 | [],_,e,h=>by cases h
 | x::r,hs,e,h=>by
  rcases List.mem_cons.1 h with rfl|h
  ·exact hs.1
  ·exact allOk_mem hs.2 e h
def idxB(T:List En):Bool:=decide (T.flatMap En.idx).Nodup
theorem nodup_flat:∀ {T:List En},(T.flatMap En.idx).Nodup→(∀ e∈T,∀ e'∈T,∀ k,k∈e.idx→k∈e'.idx→e=e')∧∀ e∈T,e.idx.Nodup
 | [],_=>⟨fun e h=>(by cases h),fun e h=>(by cases h)⟩
 | x::r,h=>by
  rw [List.flatMap_cons,List.nodup_append] at h
  obtain⟨h1,h2,h3⟩:=h
  obtain⟨g1,g2⟩:=nodup_flat h2
  have hmem:∀ e∈r,∀ k,k∈e.idx→k∈r.flatMap En.idx:=fun e he k hk=>List.mem_flatMap.2 ⟨e,he,hk⟩
  refine⟨fun e he e' he' k hk hk'=>?_,fun e he=>?_⟩
  ·rcases List.mem_cons.1 he with rfl|he
   ·rcases List.mem_cons.1 he' with rfl|he'
    ·rfl
    ·exact absurd rfl (h3 k hk k (hmem e' he' k hk'))
   ·rcases List.mem_cons.1 he' with he''|he'
    ·rw [he''] at hk'
     exact absurd rfl (h3 k hk' k (hmem e he k hk))
    ·exact g1 e he e' he' k hk hk'
  ·rcases List.mem_cons.1 he with rfl|he
   ·exact h1
   ·exact g2 e he
def fixOk(R:List Nat)(w:World):List En→Prop
 | []=>True
 | e::r=>(match e.src with | .fix b=>b∈R∧∃ cs,Blk w b e.t cs∧cs.size=e.V.size∧e.j≠none∧(∀ e'∈r,e'.src ≠ .fix b) | .new _=>True)∧fixOk R w r
theorem fixOk_mem{R:List Nat}{w:World}:∀ {T:List En},fixOk R w T→(∀ e∈T,∀ b,e.src = .fix b→b∈R∧b<w.heap.size∧∃ cs,Blk w b e.t cs∧cs.size=e.V.size∧e.j≠none)∧∀ e∈T,∀ e'∈T,e≠e'→∀ b b',e.src = .fix b→e'.src = .fix b'→b≠b'
 | [],_=>⟨fun e h=>(by cases h),fun e h=>(by cases h)⟩
 | x::r,h=>by
  obtain⟨h1,h2⟩:=h
  obtain⟨g1,g2⟩:=fixOk_mem h2
  refine⟨fun e he b hb=>?_,fun e he e' he' hne b b' hb hb'=>?_⟩
  ·rcases List.mem_cons.1 he with rfl|he
   ·rw [hb] at h1
    obtain⟨q1,cs,q2,q3,q4,_⟩:=h1
    exact⟨q1,q2.lt,cs,q2,q3,q4⟩
   ·exact g1 e he b hb
  ·rcases List.mem_cons.1 he with rfl|he
   ·rcases List.mem_cons.1 he' with rfl|he'
    ·exact absurd rfl hne
    ·rw [hb] at h1
     obtain⟨_,cs,_,_,_,q5⟩:=h1
     rintro rfl
     exact q5 e' he' hb'
   ·rcases List.mem_cons.1 he' with he''|he'
    ·rw [he''] at hb'
     rw [hb'] at h1
     obtain⟨_,cs,_,_,_,q5⟩:=h1
     rintro rfl
     exact q5 e he hb
    ·exact g2 e he e' he' hne b b' hb hb'
def Laid(n:Nat)(β:Nat→Nat)(W:World):List En→Prop
 | []=>True
 | e::r=>(Blk W (e.loc β) e.t e.V∧e.far n β)∧Laid n β W r
theorem laid_of{n:Nat}{β:Nat→Nat}{W:World}:∀ {T:List En},(∀ e∈T,Blk W (e.loc β) e.t e.V∧e.far n β)→Laid n β W T
 | [],_=>trivial
 | e::r,h=>⟨h e (by simp),laid_of (fun e' he=>h e' (by simp [he]))⟩
def lenB(l:List Oper)(T:List En):Bool:=(T.flatMap En.idx).all fun i=>decide (i<l.length)
def allB(l:List Oper)(T:List En):Bool:=dstB l.toArray && effB .any l.toArray && backB l.toArray && effIn l.toArray (T.flatMap En.idx) && idxB T && lenB l T
theorem quiet_empty{P:Program}{ops:Array Oper}{C C':World→Prop}{Q:Act→Prop}(h0:∀ w,¬ C' w):∀(l:List Oper) (a:Act),wpQuiet P ops C Q l a→wpQuiet P ops C' Q l a
 | [],_,h=>h
 | o::r,a,h=>by
  unfold wpQuiet at h ⊢
  split at h
  ·rename_i hw
   rw [if_pos hw]
   obtain⟨v,_,h2⟩:=h
   exact⟨v,fun w hw=>absurd hw (h0 w),quiet_empty h0 r _ h2⟩
  ·rename_i hw
   rw [if_neg hw]
   exact quiet_empty h0 r _ h
theorem wp_region_lay{P:Program}{l:List Oper}{Q:Exit→Act→World→Prop}{w:World}{id:Nat}{a:Act}(T:List En)(R:List Nat)(ds:List Nat)(hm:P.follows .mixedOrders=true)
  (ha:allB l T=true) (hB:∀ β,Region.lexB .any (opsB β l)=true) (hds:callDs l=ds) (hF:fixOk R w T)
  (hh:∃ A:(Nat→Nat)→Act,(∀ β X,Cl X→Inhabited (GX R w X)→wpQuiet P (opsB β l) (fun W=>∃ p:GX R w X,W=p.W) (fun a'=>a'=A β) (lays β l 0) a) ∧
   AllOk P l.toArray A T∧SameAt A ds∧∀ β W,Fr R w W→Laid w.heap.size β W T→Q .normal (A β) W):(Code.region id l.toArray true).wp P Q a w:=by
 obtain⟨A,h,hO,hI,hQ⟩:=hh
 unfold allB idxB at ha
 simp only [Bool.and_eq_true,decide_eq_true_eq] at ha
 obtain⟨⟨⟨⟨⟨a1,a2⟩,a3⟩,a4⟩,a5⟩,a6⟩:=ha
 obtain⟨u1,u2⟩:=nodup_flat a5
 obtain⟨f1,f2⟩:=fixOk_mem hF
 refine wp_region_tab hm T R A a1 a2 a3 a4 hB u1 (fun e he i hi hj=>?_) (fun e he i hi=>?_) f1 f2 (fun β W f hl=>hQ β W f (laid_of hl)) (allOk_mem hO) (fun i o d ho hef hmc hd=>?_) (fun β X hX=>?_)
 ·have:=u2 e he
  unfold En.idx at this
  rw [hi,hj] at this
  simp at this
 ·have:=List.all_eq_true.1 a6 i (List.mem_flatMap.2 ⟨e,he,hi⟩)
  simpa using this
 ·refine sameAt_mem hI d ?_
  rw [← hds]
  unfold callDs
  refine List.mem_filterMap.2 ⟨o,?_,by simp [hef,hmc,hd]⟩
  have h1:l[i]?=some o:=by simpa using ho
  exact List.mem_of_getElem? h1
 ·have:=show wpQuiet P (opsB β l) (fun W=>∃ p:GX R w X,W=p.W) (fun a'=>a'=A β) (lays β l 0) a by
   by_cases hne:∃ W,Fr R w W∧X W
   ·obtain⟨W,h1,h2⟩:=hne
    exact h β X hX ⟨⟨W,h1,h2⟩⟩
   ·exact quiet_empty (fun W ⟨p,_⟩=>hne ⟨p.W,p.fr,p.hx⟩) _ _ (h β (fun _=>True) (fun _ _ _ _=>trivial) ⟨⟨w,Fr.refl _ _,trivial⟩⟩)
  have e:(fun W=>∃ p:GX R w X,W=p.W)=(fun W=>Fr R w W∧X W):=by
   funext W
   apply propext
   constructor
   ·rintro⟨p,rfl⟩
    exact⟨p.fr,p.hx⟩
   ·rintro⟨h1,h2⟩
    exact⟨⟨W,h1,h2⟩,rfl⟩
  rw [e] at this
  exact this
end Go.Proofs.YtmgdbbbdhkfdmaaGreat.Lay
namespace Go.Proofs.YtmgdbbbdhkfdmaaGreat
set_option maxRecDepth 100000
open Go.RowKit Go.Deep
theorem part_load{w:World}{b:Nat}{p:Prt}{dv:Value}(B:Blk w b 49 #[.int .i64 p.flags, .int .u32 p.seq, .int .u32 p.ack, .int .u16 p.win,dv]):(loadVar 49 ⟨b,0,none⟩).run Tryz.prog w = .ok (agP p dv) w:=blk_load 49 b 49 _ _ B Tryz.underlying49 rfl (by kernel_rfl)
theorem OkS.shows_{x:St}(ok:OkS x):OkS (shows x):=⟨ok.hi,ok.hu,ok.hw,ok.hc,ok.hm,ok.hl,ok.n0,ok.n1,ok.s0,ok.s1⟩
set_option maxHeartbeats 8000000 in
theorem epart{S:Nat→Prop}{w:World}{x:St}{av uv kv:Value}(m:RE S w x av uv kv)(ok:OkS x)(ou:OkU x)(f a:Int)(h0:0≤a)(h1:a≤4611686018427387904)(DA:Option Addr)(dn dc:Nat)(d:List Int) :
  Calls Tryz.prog 81 #[agE x av uv kv, .int .i64 f, .int .i64 a, .slice DA dn dc] w fun e w'=>e = .returned (.tuple #[agE (shows x) av uv kv,agP (partV x f a d) (.slice DA dn dc)])∧Fr [] w w':=by
 obtain⟨⟨aA,ac,rfl,_,_⟩,⟨uA,uc,rfl,_,_⟩,⟨kA,kn,kc,rfl⟩⟩:=m.forms
 have hr:=fun W (g:Fr [] w W)=>eroom (m.fr g) ok
 have l0:=(Lo.start w (arE x (.slice aA x.all.length ac) (.slice uA x.unread.length uc) (.slice kA kn kc))).grow ((Fr.refl [] _).alloc (.cells prt0 49))
 have b0:=Blk.new ((w.alloc (.cells (arE x (.slice aA x.all.length ac) (.slice uA x.unread.length uc) (.slice kA kn kc)) 41)).alloc (.cells endZ 41)) 49 prt0
 rw [World.size_alloc,World.size_alloc] at b0
 have haw:=fun W (g:Fr [] w W)=>eawaited ((m.to_ (y:=shows x) rfl rfl rfl).fr g) ok.shows_ ⟨ou.i0,ou.i1,ou.p0,ou.p1⟩
 have hadd:=fun W=>eadd_any x.isn (1+a) W ou.i0 ou.i1 (by omega) (by omega)
 have hpv:partV x f a d=⟨f,add32 x.isn (1+a),awaitedV x,roomV x,d⟩:=rfl
 have hsv:shows x={ x with shown:=roomV x }:=rfl
 have haa:awaitedV (shows x)=awaitedV x:=rfl
 have hrb:=room_bd x
 have hwr:IntKind.i64.wrap (1+a)=1+a:=IntWalk.i64_in _ (by omega)
 have hw16:IntKind.u16.wrap (roomV x)=roomV x:=by rw [wrap16];omega
 rw [haa] at haw
 rw [hpv]
 clear hpv
 rw [hsv] at haw ⊢
 clear hsv haa
 generalize add32 x.isn (1+a)=sq at *
 generalize awaitedV x=aw at *
 generalize roomV x=rv at *
 have HRm:=hI hr
 have HAw:=hI haw
 have HAd:=hI hadd
 have L0:=hI l0
 have B0:=hI b0
 clear hr haw hadd l0 b0 m ok ou h0 h1
 go_enter Tryz.func81,Tryz.ntmps81
 go_upto_region 1 with fail
 generalize ((w.alloc (.cells (arE x (.slice aA x.all.length ac) (.slice uA x.unread.length uc) (.slice kA kn kc)) 41)).alloc (.cells endZ 41)).alloc (.cells prt0 49)=w1 at *
 have LB:Hid (∀ W,Fr [] w1 W→Lo w W w.heap.size (w.heap.size+1) (arE x (.slice aA x.all.length ac) (.slice uA x.unread.length uc) (.slice kA kn kc))):=hI (fun W f=>L0.out.grow f)
 go_upto_region 2 with (first
   | ((with_reducible refine gate_load 41 (.tmp 4) ?_);refine wpList_load_blk rfl 41 (.tmp 4) rfl w.heap.size 41 (arE x (.slice aA x.all.length ac) (.slice uA x.unread.length uc) (.slice kA kn kc)) _ rfl (LB.out _ (by first|exact Fr.refl _ _|assumption)).s Tryz.underlying41 rfl (by kernel_rfl) ?_)
   | (go_at_call 65;refine (HRm.out _ (LB.out _ (Fr.refl _ _)).f).mono ?_;rintro e w5 ⟨rfl,f5⟩;have c5:w5.cell? ⟨w.heap.size,32,none⟩=some (.int .i64 x.shown):=(LB.out _ f5).s.cell 32;have z5:=(LB.out _ f5).s.frozen 32;have hl5:=(LB.out _ f5).s.lt))
 have l2:Lo w (w5.setCell ⟨w.heap.size,32,none⟩ (.int .i64 rv)) w.heap.size (w.heap.size+1) (arE { x with shown:=rv } (.slice aA x.all.length ac) (.slice uA x.unread.length uc) (.slice kA kn kc)):=(LB.out _ f5).cell 32 (.int .i64 rv)
 have b2:Blk (w5.setCell ⟨w.heap.size,32,none⟩ (.int .i64 rv)) (w.heap.size+1+1) 49 prt0:=(B0.out.fr f5 (by simp)).far (by simp;omega) _
 generalize w5.setCell ⟨w.heap.size,32,none⟩ (.int .i64 rv)=w2 at *
 clear c5 z5 hl5
 have c:=ecells l2.s
 have hb1:=l2.s.lt
 have hR:∀ i,(⟨w.heap.size,i,none⟩:Addr).block∉[w.heap.size+1,w.heap.size+1+1]:=fun i=>by simp;omega
 refine Lay.wp_region_lay [⟨.fix (w.heap.size+1),41,arE { x with shown:=rv } (.slice aA x.all.length ac) (.slice uA x.unread.length uc) (.slice kA kn kc),some 14⟩,⟨.fix (w.heap.size+1+1),49,#[.int .i64 f, .int .u32 sq, .int .u32 aw, .int .u16 rv, .slice DA dn dc],some 15⟩] [w.heap.size+1,w.heap.size+1+1] [19,21] (by kernel_rfl) (by kernel_rfl) (fun β=>by kernel_rfl) rfl ⟨⟨by simp,_,l2.r,rfl,by simp,by simp⟩,⟨by simp,_,b2,rfl,by simp,by simp⟩,trivial⟩ ?hh
 apply Exists.intro
 refine⟨?h,?hO,?hI,?hQ⟩
 case h=>
  intro β X hX hN
  have g0:∀ p:Lay.GX [w.heap.size+1,w.heap.size+1+1] w2 X,p.W.cell? ⟨w.heap.size,0,none⟩=some (.int .u32 x.isn):=Lay.GX.cell c.c0 (hR _)
  have g32:∀ p:Lay.GX [w.heap.size+1,w.heap.size+1+1] w2 X,p.W.cell? ⟨w.heap.size,32,none⟩=some (.int .i64 rv):=Lay.GX.cell c.c32 (hR _)
  have gb:Hid (∀ p:Lay.GX [w.heap.size+1,w.heap.size+1+1] w2 X,Blk p.W w.heap.size 41 (arE { x with shown:=rv } (.slice aA x.all.length ac) (.slice uA x.unread.length uc) (.slice kA kn kc))):=hI (fun p=>l2.s.fr p.fr (hR 0))
  have gf:Hid (∀ p:Lay.GX [w.heap.size+1,w.heap.size+1+1] w2 X,Fr [] w p.W):=hI (fun p=>l2.f.trans p.fr (fun y hy=>by simp at hy;rcases hy with rfl|rfl <;> right <;> omega))
  have hA':Hid (∀ p:Lay.GX [w.heap.size+1,w.heap.size+1+1] w2 X,Calls Tryz.prog 103 #[.int .u32 x.isn, .int .i64 (1+a)] p.W fun e w'=>e = .returned (.int .u32 sq)∧∃ q:Lay.GX [w.heap.size+1,w.heap.size+1+1] w2 X,w'=q.W):=hI (fun p=>Lay.GX.same (HAd.out p.W))
  have hW':Hid (∀ p:Lay.GX [w.heap.size+1,w.heap.size+1+1] w2 X,Calls Tryz.prog 66 #[agE { x with shown:=rv } (.slice aA x.all.length ac) (.slice uA x.unread.length uc) (.slice kA kn kc)] p.W fun e w'=>e = .returned (.int .u32 aw)∧∃ q:Lay.GX [w.heap.size+1,w.heap.size+1+1] w2 X,w'=q.W):=hI (fun p=>Lay.GX.call hX (HAw.out p.W (gf.out p)))
  simp only [Lay.opsB,Lay.lays,Lay.lay,Lay.eff,Lay.layV,if_true,if_false,Bool.false_eq_true,reduceIte]
  repeat (first
   | ((with_reducible refine gateQ_load 41 (.tmp 4) ?_);refine wpQuiet_load_blk rfl 41 (.tmp 4) rfl w.heap.size 41 (arE { x with shown:=rv } (.slice aA x.all.length ac) (.slice uA x.unread.length uc) (.slice kA kn kc)) _ rfl (fun W hW=>by obtain⟨p,rfl⟩:=hW;exact gb.out p) Tryz.underlying41 rfl (by kernel_rfl) ?_;simp only [Act.put,zqA,zqB,zqC])
   | go_big_quiet_step (first|(go_at_call 103;exact hA'.out _)|(go_at_call 66;exact hW'.out _)))
  exact wpQuiet_nil rfl
 case hO=>exact⟨Lay.ok_fix rfl rfl rfl (by kernel_rfl) (by simp [Value.oneCell']) (fun β=>rfl) (fun β=>rfl),Lay.ok_fix rfl rfl rfl (by kernel_rfl) (by simp [Value.oneCell']) (fun β=>rfl) (fun β=>rfl),trivial⟩
 case hI=>exact⟨fun _ _=>rfl,fun _ _=>rfl,trivial⟩
 case hQ=>
  intro β W hf hl
  obtain⟨⟨B1,_⟩,⟨B2,_⟩,_⟩:=hl
  have F1:Fr [] w W:=l2.f.trans hf (fun y hy=>by simp at hy;rcases hy with rfl|rfl <;> right <;> omega)
  go_wp2_with fail
  refine bodyPost_ret (results_cc 8 41 ⟨w.heap.size+1,0,none⟩ _ 9 49 ⟨w.heap.size+1+1,0,none⟩ _ (by rfl) (by rfl) (end_load B1) (by rfl) (part_load (p:=⟨f,sq,aw,rv,d⟩) B2)) (by rfl) ?_
  exact⟨rfl,F1⟩
set_option maxHeartbeats 2000000 in
theorem alloc_end(w:World):(Instr.alloc 41 true (.tuple #[])).run Tryz.prog w = .ok (.pointer (some ⟨w.heap.size,0,none⟩)) (w.alloc (.cells endZ 41)):=by
 unfold Instr.alloc
 go_simp
theorem alloc_part(w:World):(Instr.alloc 49 true (.tuple #[])).run Tryz.prog w = .ok (.pointer (some ⟨w.heap.size,0,none⟩)) (w.alloc (.cells prt0 49)):=by
 unfold Instr.alloc
 go_simp
theorem build_part(p:Prt)(A:Option Addr)(n c:Nat)(w:World):(Instr.buildSlice 27 1 #[(0, .agg (arP p (.slice A n c)))]).run Tryz.prog w = .ok (.slice (some ⟨w.heap.size,0,none⟩) 1 1) (w.alloc (.cells (arP p (.slice A n c)) 49)):=by
 unfold Instr.buildSlice
 go_simp
theorem pr_blk{S:Nat→Prop}{w:World}{b:Nat}{p:Prt}{dv:Value}(B:Blk w b 49 (arP p dv))(h:Byt S w dv p.d):Pr S w (.slice (some ⟨b,0,none⟩) 1 1) [(p,dv)]:=
 ⟨⟨by simp [prs], .inr ⟨b,1,arP p dv,rfl,Nat.zero_le _,B,by simp,by simp [maxLen],by simp [prs]⟩⟩,fun x hx=>by
  simp at hx
  subst hx
  exact h⟩
theorem RE.cells1{S:Nat→Prop}{w:World}{x:St}{av uv kv:Value}(m:RE S w x av uv kv):Hid (∀ y,(arE y av uv kv).all (·.oneCell')=true):=by
 obtain⟨⟨_,_,rfl,_,_⟩,⟨_,_,rfl,_,_⟩,⟨_,_,_,rfl⟩⟩:=m.forms
 exact hI (fun y=>by simp [Value.oneCell'])
theorem RE.cells2{S:Nat→Prop}{w:World}{x:St}{av uv kv:Value}(m:RE S w x av uv kv):Hid (∀ h:Hp,(arH h kv).all (·.oneCell')=true):=by
 obtain⟨_,_,⟨_,_,_,rfl⟩⟩:=m.forms
 exact hI (fun h=>by simp [Value.oneCell'])
def EPart(S:Nat→Prop)(w:World)(r:St × List Prt)(av uv kv:Value)(e:Ending)(w':World):Prop:=
 ∃ v L,e = .returned (.tuple #[agE r.1 av uv kv,v])∧L.map (·.1)=r.2∧Pr S w' v L∧Fr [] w w'
theorem Lo.start2(w:World)(cs ps:Array Value):Lo w (((w.alloc (.cells cs 41)).alloc (.cells ps 49)).alloc (.cells endZ 41)) w.heap.size (w.heap.size+1+1) cs∧Blk (((w.alloc (.cells cs 41)).alloc (.cells ps 49)).alloc (.cells endZ 41)) (w.heap.size+1) 49 ps:=by
 have b2:=Blk.new ((w.alloc (.cells cs 41)).alloc (.cells ps 49)) 41 endZ
 have b1:=Blk.new (w.alloc (.cells cs 41)) 49 ps
 rw [World.size_alloc,World.size_alloc] at b2
 rw [World.size_alloc] at b1
 exact⟨⟨(((Fr.refl [] w).alloc _).alloc _).alloc _,(Blk.new w 41 cs).fr (((Fr.refl [] _).alloc _).alloc _) (by simp),b2,Nat.le_refl _,by omega,by omega⟩,b1.fr ((Fr.refl [] _).alloc _) (by simp)⟩
theorem clk_in(y:St)(av uv kv:Value)(c:Rto.Ck):((arE y av uv kv).toList.take 10++(arC c).toList++(arE y av uv kv).toList.drop (10+(arC c).size)).toArray=arE { y with clk:=c } av uv kv:=rfl
theorem win_in(y:St)(av uv kv:Value)(c:Win.Wn):((arE y av uv kv).toList.take 6++(arW c).toList++(arE y av uv kv).toList.drop (6+(arW c).size)).toArray=arE { y with win:=c } av uv kv:=rfl
theorem heap_in(y:St)(av uv kv kv':Value)(h:Hp):((arE y av uv kv).toList.take 21++(arH h kv').toList++(arE y av uv kv).toList.drop (21+(arH h kv').size)).toArray=arE { y with heap:=h } av uv kv':=rfl
set_option maxHeartbeats 8000000 in
theorem eanswer{S:Nat→Prop}{w:World}{x:St}{av uv kv:Value}(m:RE S w x av uv kv)(ok:OkS x)(ou:OkU x):Calls Tryz.prog 83 #[agE x av uv kv] w (EPart S w (shows x,[answerV x]) av uv kv):=by
 have o1:=m.cells1
 have hwb:=Win.Inv.bd ok.hw
 have hml:=ok.hm
 have hal:=ok.hl
 have hob:=one_bd x.fin
 have hwr:IntKind.i64.wrap (x.win.m+one x.fin)=x.win.m+one x.fin:=IntWalk.i64_in _ (by omega)
 have hp:=fun W (g:Fr [] w W)=>epart (m.fr g) ok ou 2 (x.win.m+one x.fin) (by omega) (by omega) none 0 0 []
 have hone:=fun W=>eone_any x.fin W
 have l0:=Lo.start w (arE x av uv kv)
 have hav:partV x 2 (x.win.m+one x.fin) []=answerV x:=rfl
 have hd:(answerV x).d=[]:=rfl
 rw [hav] at hp
 clear hav
 generalize answerV x=pt at *
 obtain⟨pf,ps,pk,pw,pd⟩:=pt
 dsimp only at hd
 subst hd
 have HP:=hI hp
 have HO:=hI hone
 have L0:=hI l0
 clear hp hone l0 m ok ou hwb hml hal hob
 go_enter Tryz.func83,Tryz.ntmps83
 go_upto_region 1 with fail
 generalize (w.alloc (.cells (arE x av uv kv) 41)).alloc (.cells endZ 41)=w1 at *
 have c:=ecells L0.out.s
 have hR:∀ i,(⟨w.heap.size,i,none⟩:Addr).block∉([]:List Nat):=fun i=>by simp
 refine Lay.wp_region_lay [⟨.new 12,41,arE (shows x) av uv kv,some 14⟩,⟨.new 13,49,arP ⟨pf,ps,pk,pw,[]⟩ (.slice none 0 0),some 15⟩] [] [13,15] (by kernel_rfl) (by kernel_rfl) (fun β=>by kernel_rfl) rfl ⟨trivial,trivial,trivial⟩ ?hh1
 apply Exists.intro
 refine⟨?h1,?hO1,?hI1,?hQ1⟩
 case h1=>
  intro β X hX hN
  have g8:∀ p:Lay.GX [] w1 X,p.W.cell? ⟨w.heap.size,8,none⟩=some (.int .i64 x.win.m):=Lay.GX.cell c.c8 (hR _)
  have g26:∀ p:Lay.GX [] w1 X,p.W.cell? ⟨w.heap.size,26,none⟩=some (.bool x.fin):=Lay.GX.cell c.c26 (hR _)
  have gb:Hid (∀ p:Lay.GX [] w1 X,Blk p.W w.heap.size 41 (arE x av uv kv)):=hI (fun p=>L0.out.s.fr p.fr (by simp))
  have gf:Hid (∀ p:Lay.GX [] w1 X,Fr [] w p.W):=hI (fun p=>L0.out.f.trans p.fr (by simp))
  have h1':Hid (∀ p:Lay.GX [] w1 X,Calls Tryz.prog 82 #[.bool x.fin] p.W fun e w'=>e = .returned (.int .i64 (one x.fin))∧∃ q:Lay.GX [] w1 X,w'=q.W):=hI (fun p=>Lay.GX.same (HO.out p.W))
  have h2':Hid (∀ p:Lay.GX [] w1 X,Calls Tryz.prog 81 #[agE x av uv kv, .int .i64 2, .int .i64 (x.win.m+one x.fin), .slice none 0 0] p.W fun e w'=>e = .returned (.tuple #[agE (shows x) av uv kv,agP ⟨pf,ps,pk,pw,[]⟩ (.slice none 0 0)])∧∃ q:Lay.GX [] w1 X,w'=q.W):=hI (fun p=>Lay.GX.call hX (HP.out p.W (gf.out p)))
  simp only [Lay.opsB,Lay.lays,Lay.lay,Lay.eff,Lay.layV,if_true,if_false,Bool.false_eq_true,reduceIte]
  repeat (first
   | ((with_reducible refine gateQ_load 41 (.tmp 1) ?_);refine wpQuiet_load_blk rfl 41 (.tmp 1) rfl w.heap.size 41 (arE x av uv kv) _ rfl (fun W hW=>by obtain⟨p,rfl⟩:=hW;exact gb.out p) Tryz.underlying41 rfl (by kernel_rfl) ?_;simp only [Act.put,zqA,zqB,zqC])
   | go_big_quiet_step (first|(go_at_call 82;exact h1'.out _)|(go_at_call 81;exact h2'.out _)))
  exact wpQuiet_nil rfl
 case hO1=>exact⟨Lay.ok_new rfl rfl alloc_end rfl rfl rfl rfl (by kernel_rfl) (by first|exact o1.out _|exact o2.out _|simp [Value.oneCell']) (fun β=>rfl) (fun β=>rfl) (by kernel_rfl),Lay.ok_new rfl rfl alloc_part rfl rfl rfl rfl (by kernel_rfl) (by first|exact o1.out _|exact o2.out _|simp [Value.oneCell']) (fun β=>rfl) (fun β=>rfl) (by kernel_rfl),trivial⟩
 case hI1=>exact⟨fun _ _=>rfl,fun _ _=>rfl,trivial⟩
 case hQ1=>
  intro β W hf hl
  obtain⟨⟨B1,N1⟩,⟨B2,N2⟩,_⟩:=hl
  have L1:=L0.out.grow hf
  change Blk W (β 12) 41 (arE (shows x) av uv kv) at B1
  change Blk W (β 13) 49 (arP ⟨pf,ps,pk,pw,[]⟩ (.slice none 0 0)) at B2
  change w1.heap.size≤β 12 at N1
  change w1.heap.size≤β 13 at N2
  have hs1:=L0.out.s.lt
  have hs2:=L0.out.r.lt
  generalize β 12=b4 at *
  generalize β 13=b5 at *
  clear c hR
  go_upto_region 2 with fail
  refine Lay.wp_region_lay [⟨.new 2,49,arP ⟨pf,ps,pk,pw,[]⟩ (.slice none 0 0),none⟩,⟨.fix (w.heap.size+1),41,arE (shows x) av uv kv,some 3⟩] [w.heap.size+1] [] (by kernel_rfl) (by kernel_rfl) (fun β=>by kernel_rfl) rfl ⟨trivial,⟨by simp,_,L1.r,rfl,by simp,by simp⟩,trivial⟩ ?hh2
  apply Exists.intro
  refine⟨?h2,?hO2,?hI2,?hQ2⟩
  case h2=>
   intro β X hX hN
   have gb:Hid (∀ p:Lay.GX [w.heap.size+1] W X,Blk p.W b4 41 (arE (shows x) av uv kv)):=hI (fun p=>(B1).fr p.fr (by simp <;> omega))
   have gp:Hid (∀ p:Lay.GX [w.heap.size+1] W X,Blk p.W b5 49 (arP ⟨pf,ps,pk,pw,[]⟩ (.slice none 0 0))):=hI (fun p=>(B2).fr p.fr (by simp <;> omega))
   simp only [Lay.opsB,Lay.lays,Lay.lay,Lay.eff,Lay.layV,if_true,if_false,Bool.false_eq_true,reduceIte]
   repeat (first
    | ((with_reducible refine gateQ_load 41 (.tmp 4) ?_);refine wpQuiet_load_blk rfl 41 (.tmp 4) rfl b4 41 (arE (shows x) av uv kv) _ rfl (fun W hW=>by obtain⟨p,rfl⟩:=hW;exact gb.out p) Tryz.underlying41 rfl (by kernel_rfl) ?_;simp only [Act.put,zqA,zqB,zqC])
    | ((with_reducible refine gateQ_load 49 (.tmp 5) ?_);refine wpQuiet_load_blk rfl 49 (.tmp 5) rfl b5 49 (arP ⟨pf,ps,pk,pw,[]⟩ (.slice none 0 0)) _ rfl (fun W hW=>by obtain⟨p,rfl⟩:=hW;exact gp.out p) Tryz.underlying49 rfl (by kernel_rfl) ?_;simp only [Act.put,zqA,zqB,zqC])
    | go_big_quiet_step (fail))
   exact wpQuiet_nil rfl
  case hO2=>exact⟨Lay.ok_build rfl rfl (build_part _ _ _ _) (fun β=>rfl),Lay.ok_fix rfl rfl rfl (by kernel_rfl) (by first|exact o1.out _|exact o2.out _|simp [Value.oneCell']) (fun β=>rfl) (fun β=>rfl),trivial⟩
  case hI2=>exact trivial
  case hQ2=>
   intro β2 W2 hf2 hl2
   obtain⟨⟨B3,_⟩,⟨B4,_⟩,_⟩:=hl2
   change Blk W2 (β2 2) 49 (arP ⟨pf,ps,pk,pw,[]⟩ (.slice none 0 0)) at B3
   have F2:=L1.res hf2
   go_wp2_with fail
   refine bodyPost_ret (results_ct 2 41 ⟨w.heap.size+1,0,none⟩ _ 3 (.slice (some ⟨β2 2,0,none⟩) 1 1) (by rfl) (by rfl) (end_load B4) (by rfl)) (by rfl) ?_
   exact⟨_,_,rfl,rfl,pr_blk B3 Byt.nil,F2⟩
set_option maxHeartbeats 8000000 in
theorem ebegins3{S:Nat→Prop}{w:World}{x:St}{av uv kv:Value}(m:RE S w x av uv kv)(ok:OkS x)(ou:OkU x)(h3:x.at_=3):Calls Tryz.prog 26 #[agE x av uv kv] w (EPart S w (shows x,[beginsV x]) av uv kv):=by
 have o1:=m.cells1
 have hr:=fun W (g:Fr [] w W)=>eroom (m.fr g) ok
 have l0:=Lo.start w (arE x av uv kv)
 have haw:=fun W (g:Fr [] w W)=>eawaited ((m.to_ (y:=shows x) rfl rfl rfl).fr g) ok.shows_ ⟨ou.i0,ou.i1,ou.p0,ou.p1⟩
 have hrb:=room_bd x
 have hw16:IntKind.u16.wrap (roomV x)=roomV x:=by rw [wrap16];omega
 have haa:awaitedV (shows x)=awaitedV x:=rfl
 have hsv:shows x={ x with shown:=roomV x }:=rfl
 have hbv:beginsV x=if x.at_=3 then ⟨3,x.isn,awaitedV x,roomV x,[]⟩ else ⟨1,x.isn,0,roomV x,[]⟩:=rfl
 rw [haa] at haw
 rw [hbv]
 rw [hsv] at haw ⊢
 clear hbv hsv haa
 generalize awaitedV x=aw at *
 generalize roomV x=rv at *
 have HRm:=hI hr
 have HAw:=hI haw
 have L0:=hI l0
 clear hr haw l0 m ok ou
 rw [if_pos h3]
 have H3:=hI h3
 clear h3
 go_enter Tryz.func26,Tryz.ntmps26
 go_upto_region 1 with fail
 generalize (w.alloc (.cells (arE x av uv kv) 41)).alloc (.cells endZ 41)=w1 at *
 have LB:Hid (∀ W,Fr [] w1 W→Lo w W w.heap.size (w.heap.size+1) (arE x av uv kv)):=hI (fun W f=>L0.out.grow f)
 go_upto_region 2 with (first
   | ((with_reducible refine gate_load 41 (.tmp 1) ?_);refine wpList_load_blk rfl 41 (.tmp 1) rfl w.heap.size 41 (arE x av uv kv) _ rfl (LB.out _ (by first|exact Fr.refl _ _|assumption)).s Tryz.underlying41 rfl (by kernel_rfl) ?_)
   | (go_at_call 65;refine (HRm.out _ (LB.out _ (Fr.refl _ _)).f).mono ?_;rintro e w5 ⟨rfl,f5⟩;have c5:w5.cell? ⟨w.heap.size,32,none⟩=some (.int .i64 x.shown):=(LB.out _ f5).s.cell 32;have z5:=(LB.out _ f5).s.frozen 32;have hl5:=(LB.out _ f5).s.lt))
 have l2:Lo w (w5.setCell ⟨w.heap.size,32,none⟩ (.int .i64 rv)) w.heap.size (w.heap.size+1) (arE { x with shown:=rv } av uv kv):=(LB.out _ f5).cell 32 (.int .i64 rv)
 generalize w5.setCell ⟨w.heap.size,32,none⟩ (.int .i64 rv)=w2 at *
 clear c5 z5 hl5
 have c:=ecells l2.s
 have c0:=c.c0
 have c2:=c.c2
 have c32:=c.c32
 have L2:=hI l2
 clear c l2
 go_upto_region 3 with (first
   | ((with_reducible refine gate_store 49 (.tmp 4) ?_);refine wpList_store_blk rfl 49 (.tmp 4) (.tmp 13) rfl w2.heap.size 49 prt0 (arP ⟨1,x.isn,0,rv,[]⟩ (.slice none 0 0)) rfl rfl (Blk.new w2 49 prt0) rfl (by kernel_rfl) (by first|exact o1.out _|exact o2.out _|simp [Value.oneCell']) ?_;intro w3 B3 F3))
 have L3:Lo w w3 w.heap.size (w.heap.size+1) (arE { x with shown:=rv } av uv kv):=(L2.out.grow ((Fr.refl [] w2).alloc (.cells prt0 49))).far F3 (by have:=L2.out.f.size;omega) (by have:=L2.out.s.lt;omega) (by have:=L2.out.r.lt;omega)
 have N3:w.heap.size+1<w2.heap.size:=L2.out.r.lt
 generalize w2.heap.size=b4 at *
 clear F3 L2 c0 c32 c2
 have c2:w3.cell? ⟨w.heap.size,2,none⟩=some (.int .i64 3):=by rw [← H3.out];exact L3.s.cell 2
 have LC:Hid (∀ W,Fr [] w3 W→Lo w W w.heap.size (w.heap.size+1) (arE { x with shown:=rv } av uv kv)):=hI (fun W f=>L3.grow f)
 have B3':=hI B3
 clear L3 B3
 go_upto_region 5 with (first
   | ((with_reducible refine gate_load 41 (.tmp 1) ?_);refine wpList_load_blk rfl 41 (.tmp 1) rfl w.heap.size 41 (arE { x with shown:=rv } av uv kv) _ rfl (LC.out _ (by first|exact Fr.refl _ _|assumption)).s Tryz.underlying41 rfl (by kernel_rfl) ?_)
   | (go_at_call 66;refine (HAw.out _ (LC.out _ (Fr.refl _ _)).f).mono ?_;rintro e w6 ⟨rfl,f6⟩;have b6:=B3'.out.fr f6 (by simp);have q0:=b6.cell 0;have q2:=b6.cell 2;have z0:=b6.frozen 0;have z2:=b6.frozen 2;have hl6:=b6.lt;simp at q0 q2))
 have L4:Lo w ((w6.setCell ⟨b4,0,none⟩ (.int .i64 3)).setCell ⟨b4,2,none⟩ (.int .u32 aw)) w.heap.size (w.heap.size+1) (arE { x with shown:=rv } av uv kv):=(LC.out _ f6).far (b:=b4) (((Fr.refl [b4] w6).setCell (p:=⟨b4,0,none⟩) (.inl (by simp)) _).setCell (p:=⟨b4,2,none⟩) (.inl (by simp)) _) (by omega) (by omega) (by omega)
 have B4:Blk ((w6.setCell ⟨b4,0,none⟩ (.int .i64 3)).setCell ⟨b4,2,none⟩ (.int .u32 aw)) b4 49 (arP ⟨3,x.isn,aw,rv,[]⟩ (.slice none 0 0)):=by simpa using (b6.set_ 0 (.int .i64 3)).set_ 2 (.int .u32 aw)
 generalize (w6.setCell ⟨b4,0,none⟩ (.int .i64 3)).setCell ⟨b4,2,none⟩ (.int .u32 aw)=w7 at *
 clear b6 q0 q2 z0 z2 hl6
 refine Lay.wp_region_lay [⟨.new 2,49,arP ⟨3,x.isn,aw,rv,[]⟩ (.slice none 0 0),none⟩,⟨.fix (w.heap.size+1),41,arE { x with shown:=rv } av uv kv,some 3⟩] [w.heap.size+1] [] (by kernel_rfl) (by kernel_rfl) (fun β=>by kernel_rfl) rfl ⟨trivial,⟨by simp,_,L4.r,rfl,by simp,by simp⟩,trivial⟩ ?hh3
 apply Exists.intro
 refine⟨?h3,?hO3,?hI3,?hQ3⟩
 case h3=>
  intro β X hX hN
  have gb:Hid (∀ p:Lay.GX [w.heap.size+1] w7 X,Blk p.W w.heap.size 41 (arE { x with shown:=rv } av uv kv)):=hI (fun p=>(L4.s).fr p.fr (by simp <;> omega))
  have gp:Hid (∀ p:Lay.GX [w.heap.size+1] w7 X,Blk p.W b4 49 (arP ⟨3,x.isn,aw,rv,[]⟩ (.slice none 0 0))):=hI (fun p=>(B4).fr p.fr (by simp <;> omega))
  simp only [Lay.opsB,Lay.lays,Lay.lay,Lay.eff,Lay.layV,if_true,if_false,Bool.false_eq_true,reduceIte]
  repeat (first
   | ((with_reducible refine gateQ_load 41 (.tmp 1) ?_);refine wpQuiet_load_blk rfl 41 (.tmp 1) rfl w.heap.size 41 (arE { x with shown:=rv } av uv kv) _ rfl (fun W hW=>by obtain⟨p,rfl⟩:=hW;exact gb.out p) Tryz.underlying41 rfl (by kernel_rfl) ?_;simp only [Act.put,zqA,zqB,zqC])
   | ((with_reducible refine gateQ_load 49 (.tmp 4) ?_);refine wpQuiet_load_blk rfl 49 (.tmp 4) rfl b4 49 (arP ⟨3,x.isn,aw,rv,[]⟩ (.slice none 0 0)) _ rfl (fun W hW=>by obtain⟨p,rfl⟩:=hW;exact gp.out p) Tryz.underlying49 rfl (by kernel_rfl) ?_;simp only [Act.put,zqA,zqB,zqC])
   | go_big_quiet_step (fail))
  exact wpQuiet_nil rfl
 case hO3=>exact⟨Lay.ok_build rfl rfl (build_part _ _ _ _) (fun β=>rfl),Lay.ok_fix rfl rfl rfl (by kernel_rfl) (by first|exact o1.out _|exact o2.out _|simp [Value.oneCell']) (fun β=>rfl) (fun β=>rfl),trivial⟩
 case hI3=>exact trivial
 case hQ3=>
  intro β2 W2 hf2 hl2
  obtain⟨⟨B5,_⟩,⟨B6,_⟩,_⟩:=hl2
  change Blk W2 (β2 2) 49 (arP ⟨3,x.isn,aw,rv,[]⟩ (.slice none 0 0)) at B5
  have F2:=(L4).res hf2
  go_wp2_with fail
  refine bodyPost_ret (results_ct 2 41 ⟨w.heap.size+1,0,none⟩ _ 3 (.slice (some ⟨β2 2,0,none⟩) 1 1) (by rfl) (by rfl) (end_load B6) (by rfl)) (by rfl) ?_
  exact⟨_,_,rfl,rfl,pr_blk B5 Byt.nil,F2⟩
set_option maxHeartbeats 8000000 in
theorem ebegins1{S:Nat→Prop}{w:World}{x:St}{av uv kv:Value}(m:RE S w x av uv kv)(ok:OkS x)(ou:OkU x)(h3:x.at_≠3):Calls Tryz.prog 26 #[agE x av uv kv] w (EPart S w (shows x,[beginsV x]) av uv kv):=by
 have o1:=m.cells1
 have hr:=fun W (g:Fr [] w W)=>eroom (m.fr g) ok
 have l0:=Lo.start w (arE x av uv kv)
 have haw:=fun W (g:Fr [] w W)=>eawaited ((m.to_ (y:=shows x) rfl rfl rfl).fr g) ok.shows_ ⟨ou.i0,ou.i1,ou.p0,ou.p1⟩
 have hrb:=room_bd x
 have hw16:IntKind.u16.wrap (roomV x)=roomV x:=by rw [wrap16];omega
 have haa:awaitedV (shows x)=awaitedV x:=rfl
 have hsv:shows x={ x with shown:=roomV x }:=rfl
 have hbv:beginsV x=if x.at_=3 then ⟨3,x.isn,awaitedV x,roomV x,[]⟩ else ⟨1,x.isn,0,roomV x,[]⟩:=rfl
 rw [haa] at haw
 rw [hbv]
 rw [hsv] at haw ⊢
 clear hbv hsv haa
 generalize awaitedV x=aw at *
 generalize roomV x=rv at *
 have HRm:=hI hr
 have HAw:=hI haw
 have L0:=hI l0
 clear hr haw l0 m ok ou
 rw [if_neg h3]
 have h3d:decide (x.at_=3)=false:=by simpa using h3
 have h3q:(x.at_ == 3)=false:=by simpa using h3
 go_enter Tryz.func26,Tryz.ntmps26
 go_upto_region 1 with fail
 generalize (w.alloc (.cells (arE x av uv kv) 41)).alloc (.cells endZ 41)=w1 at *
 have LB:Hid (∀ W,Fr [] w1 W→Lo w W w.heap.size (w.heap.size+1) (arE x av uv kv)):=hI (fun W f=>L0.out.grow f)
 go_upto_region 2 with (first
   | ((with_reducible refine gate_load 41 (.tmp 1) ?_);refine wpList_load_blk rfl 41 (.tmp 1) rfl w.heap.size 41 (arE x av uv kv) _ rfl (LB.out _ (by first|exact Fr.refl _ _|assumption)).s Tryz.underlying41 rfl (by kernel_rfl) ?_)
   | (go_at_call 65;refine (HRm.out _ (LB.out _ (Fr.refl _ _)).f).mono ?_;rintro e w5 ⟨rfl,f5⟩;have c5:w5.cell? ⟨w.heap.size,32,none⟩=some (.int .i64 x.shown):=(LB.out _ f5).s.cell 32;have z5:=(LB.out _ f5).s.frozen 32;have hl5:=(LB.out _ f5).s.lt))
 have l2:Lo w (w5.setCell ⟨w.heap.size,32,none⟩ (.int .i64 rv)) w.heap.size (w.heap.size+1) (arE { x with shown:=rv } av uv kv):=(LB.out _ f5).cell 32 (.int .i64 rv)
 generalize w5.setCell ⟨w.heap.size,32,none⟩ (.int .i64 rv)=w2 at *
 clear c5 z5 hl5
 have c:=ecells l2.s
 have c0:=c.c0
 have c2:=c.c2
 have c32:=c.c32
 have L2:=hI l2
 clear c l2
 go_upto_region 3 with (first
   | ((with_reducible refine gate_store 49 (.tmp 4) ?_);refine wpList_store_blk rfl 49 (.tmp 4) (.tmp 13) rfl w2.heap.size 49 prt0 (arP ⟨1,x.isn,0,rv,[]⟩ (.slice none 0 0)) rfl rfl (Blk.new w2 49 prt0) rfl (by kernel_rfl) (by first|exact o1.out _|exact o2.out _|simp [Value.oneCell']) ?_;intro w3 B3 F3))
 have L3:Lo w w3 w.heap.size (w.heap.size+1) (arE { x with shown:=rv } av uv kv):=(L2.out.grow ((Fr.refl [] w2).alloc (.cells prt0 49))).far F3 (by have:=L2.out.f.size;omega) (by have:=L2.out.s.lt;omega) (by have:=L2.out.r.lt;omega)
 have N3:w.heap.size+1<w2.heap.size:=L2.out.r.lt
 generalize w2.heap.size=b4 at *
 clear F3 L2 c0 c32 c2
 have c2:w3.cell? ⟨w.heap.size,2,none⟩=some (.int .i64 x.at_):=L3.s.cell 2
 have L3':=hI L3
 have B3':=hI B3
 clear L3 B3
 go_upto_region 5 with fail
 refine Lay.wp_region_lay [⟨.new 2,49,arP ⟨1,x.isn,0,rv,[]⟩ (.slice none 0 0),none⟩,⟨.fix (w.heap.size+1),41,arE { x with shown:=rv } av uv kv,some 3⟩] [w.heap.size+1] [] (by kernel_rfl) (by kernel_rfl) (fun β=>by kernel_rfl) rfl ⟨trivial,⟨by simp,_,L3'.out.r,rfl,by simp,by simp⟩,trivial⟩ ?hh4
 apply Exists.intro
 refine⟨?h4,?hO4,?hI4,?hQ4⟩
 case h4=>
  intro β X hX hN
  have gb:Hid (∀ p:Lay.GX [w.heap.size+1] w3 X,Blk p.W w.heap.size 41 (arE { x with shown:=rv } av uv kv)):=hI (fun p=>(L3'.out.s).fr p.fr (by simp <;> omega))
  have gp:Hid (∀ p:Lay.GX [w.heap.size+1] w3 X,Blk p.W b4 49 (arP ⟨1,x.isn,0,rv,[]⟩ (.slice none 0 0))):=hI (fun p=>(B3'.out).fr p.fr (by simp <;> omega))
  simp only [Lay.opsB,Lay.lays,Lay.lay,Lay.eff,Lay.layV,if_true,if_false,Bool.false_eq_true,reduceIte]
  repeat (first
   | ((with_reducible refine gateQ_load 41 (.tmp 1) ?_);refine wpQuiet_load_blk rfl 41 (.tmp 1) rfl w.heap.size 41 (arE { x with shown:=rv } av uv kv) _ rfl (fun W hW=>by obtain⟨p,rfl⟩:=hW;exact gb.out p) Tryz.underlying41 rfl (by kernel_rfl) ?_;simp only [Act.put,zqA,zqB,zqC])
   | ((with_reducible refine gateQ_load 49 (.tmp 4) ?_);refine wpQuiet_load_blk rfl 49 (.tmp 4) rfl b4 49 (arP ⟨1,x.isn,0,rv,[]⟩ (.slice none 0 0)) _ rfl (fun W hW=>by obtain⟨p,rfl⟩:=hW;exact gp.out p) Tryz.underlying49 rfl (by kernel_rfl) ?_;simp only [Act.put,zqA,zqB,zqC])
   | go_big_quiet_step (fail))
  exact wpQuiet_nil rfl
 case hO4=>exact⟨Lay.ok_build rfl rfl (build_part _ _ _ _) (fun β=>rfl),Lay.ok_fix rfl rfl rfl (by kernel_rfl) (by first|exact o1.out _|exact o2.out _|simp [Value.oneCell']) (fun β=>rfl) (fun β=>rfl),trivial⟩
 case hI4=>exact trivial
 case hQ4=>
  intro β2 W2 hf2 hl2
  obtain⟨⟨B5,_⟩,⟨B6,_⟩,_⟩:=hl2
  change Blk W2 (β2 2) 49 (arP ⟨1,x.isn,0,rv,[]⟩ (.slice none 0 0)) at B5
  have F2:=(L3'.out).res hf2
  go_wp2_with fail
  refine bodyPost_ret (results_ct 2 41 ⟨w.heap.size+1,0,none⟩ _ 3 (.slice (some ⟨β2 2,0,none⟩) 1 1) (by rfl) (by rfl) (end_load B6) (by rfl)) (by rfl) ?_
  exact⟨_,_,rfl,rfl,pr_blk B5 Byt.nil,F2⟩
theorem ebegins{S:Nat→Prop}{w:World}{x:St}{av uv kv:Value}(m:RE S w x av uv kv)(ok:OkS x)(ou:OkU x):Calls Tryz.prog 26 #[agE x av uv kv] w (EPart S w (shows x,[beginsV x]) av uv kv):=by
 by_cases h:x.at_=3
 ·exact ebegins3 m ok ou h
 ·exact ebegins1 m ok ou h
set_option maxHeartbeats 8000000 in
theorem eopens{S:Nat→Prop}{w:World}{x:St}{av uv kv:Value}(m:RE S w x av uv kv)(ok:OkS x)(r:Int)(r0:0≤r)(r1:r<65536):Calls Tryz.prog 107 #[agE x av uv kv, .int .u16 r] w fun e w'=>e = .returned (agE (opensV x r) av uv kv)∧Fr [] w w':=by
 have o1:=m.cells1
 have hA:=fun W=>Win.rack x.win 0 r W 1000000000 (Int.le_refl _) ok.hw
 have hS:=fun W=>Rto.rstop x.clk W ok.hc
 have l0:=Lo.start w (arE x av uv kv)
 have hov:opensV x r={ x with at_:=4,win:=(Win.ackV x.win 0 r).1,clk:=Rto.stopV x.clk }:=rfl
 have hcv:IntKind.i64.wrap r=r:=IntWalk.i64_in _ (by omega)
 rw [hov]
 clear hov
 generalize Win.ackV x.win 0 r=ak at *
 generalize Rto.stopV x.clk=ck at *
 obtain⟨⟨ka,ks,km,kl⟩,mo,er⟩:=ak
 obtain⟨f0,l0',m0,t0,is0,tm0,sp0,wt0,si0,tr0,rn0⟩:=ck
 dsimp only at *
 have HA:=hI hA
 have HS:=hI hS
 have L0:=hI l0
 clear hA hS l0 m ok
 go_enter Tryz.func107,Tryz.ntmps107
 go_upto_region 1 with fail
 generalize (w.alloc (.cells (arE x av uv kv) 41)).alloc (.cells endZ 41)=w1 at *
 have c2:w1.cell? ⟨w.heap.size,2,none⟩=some (.int .i64 x.at_):=L0.out.s.cell 2
 have z2:=L0.out.s.frozen 2
 have hl1:=L0.out.s.lt
 go_upto_region 2 with fail
 have l1:Lo w (w1.setCell ⟨w.heap.size,2,none⟩ (.int .i64 4)) w.heap.size (w.heap.size+1) (arE { x with at_:=4 } av uv kv):=L0.out.cell 2 (.int .i64 4)
 generalize w1.setCell ⟨w.heap.size,2,none⟩ (.int .i64 4)=w2 at *
 have LB:Hid (∀ W,Fr [] w2 W→Lo w W w.heap.size (w.heap.size+1) (arE { x with at_:=4 } av uv kv)):=hI (fun W f=>l1.grow f)
 clear c2 z2 hl1 l1
 go_upto_region 3 with (first
   | ((with_reducible refine gate_load 32 (.tmp 10) ?_);refine wpList_load_in rfl 32 (.tmp 10) rfl w.heap.size 6 41 (arE { x with at_:=4 } av uv kv) (arW x.win) _ rfl (LB.out _ (by first|exact Fr.refl _ _|assumption)).s rfl Tryz.underlying32 rfl (by kernel_rfl) ?_)
   | (go_at_call 121;refine (HA.out _).mono ?_;rintro e w5 ⟨rfl,f5⟩)
   | ((with_reducible refine gate_store 32 (.tmp 5) ?_);refine wpList_store_blk rfl 32 (.tmp 5) (.tmp 15) rfl w5.heap.size 32 #[.int .i64 0, .int .i64 0, .int .i64 0, .int .i64 0] #[.int .i64 ka, .int .i64 ks, .int .i64 km, .int .i64 kl] rfl rfl (Blk.new w5 32 #[.int .i64 0, .int .i64 0, .int .i64 0, .int .i64 0]) rfl (by kernel_rfl) (by first|exact o1.out _|exact o2.out _|simp [Value.oneCell']) ?_;intro w6 B6 F6))
 have l6:Lo w w6 w.heap.size (w.heap.size+1) (arE { x with at_:=4 } av uv kv):=(LB.out _ (f5.alloc (.cells #[.int .i64 0, .int .i64 0, .int .i64 0, .int .i64 0] 32))).far F6 (by have:=(LB.out _ f5).f.size;omega) (by have:=(LB.out _ f5).s.lt;omega) (by have:=(LB.out _ f5).r.lt;omega)
 have n6:w.heap.size+1<w5.heap.size:=(LB.out _ f5).r.lt
 generalize w5.heap.size=b5 at *
 clear F6
 have LC:Hid (∀ W,Fr [] w6 W→Lo w W w.heap.size (w.heap.size+1) (arE { x with at_:=4 } av uv kv)):=hI (fun W f=>l6.grow f)
 have BC:Hid (∀ W,Fr [] w6 W→Blk W b5 32 #[.int .i64 ka, .int .i64 ks, .int .i64 km, .int .i64 kl]):=hI (fun W f=>B6.fr f (by simp))
 clear l6 B6
 go_cut [] (fun wx=>Lo w wx w.heap.size (w.heap.size+1) (arE { x with at_:=4,win:=⟨ka,ks,km,kl⟩,clk:=⟨f0,l0',m0,t0,is0,tm0,sp0,wt0,si0,tr0,rn0⟩ } av uv kv))
 case first=>
  have c:=ecells (LC.out _ (Fr.refl [] w6)).s
  have b:=BC.out _ (Fr.refl [] w6)
  have k10:=c.c10
  have k11:=c.c11
  have k12:=c.c12
  have k13:=c.c13
  have k14:=c.c14
  have k15:=c.c15
  have k16:=c.c16
  have k17:=c.c17
  have k18:=c.c18
  have k19:=c.c19
  have k20:=c.c20
  have j0:=b.cell 0
  have j1:=b.cell 1
  have j2:=b.cell 2
  have j3:=b.cell 3
  simp at j0 j1 j2 j3
  clear c b
  go_region_law (first|(go_simp;go_at_call 69;refine (HS.out _).mono ?_;rintro e w7 ⟨rfl,f7⟩;have f7':Fr [] w6 w7:=(Fr.refl [] w6).drew.trans f7 (by simp);have l7:=LC.out _ f7';have c:=ecells l7.s;have k6:=c.c6;have k7:=c.c7;have k8:=c.c8;have k9:=c.c9;have k10:=c.c10;have k11:=c.c11;have k12:=c.c12;have k13:=c.c13;have k14:=c.c14;have k15:=c.c15;have k16:=c.c16;have k17:=c.c17;have k18:=c.c18;have k19:=c.c19;have k20:=c.c20;have zz:=l7.s.frozen;have hl:=l7.s.lt;have b:=BC.out _ f7';have j0:=b.cell 0;have j1:=b.cell 1;have j2:=b.cell 2;have j3:=b.cell 3;simp at j0 j1 j2 j3;have L7:=hI l7;clear c b l7 f7))
  all_goals
   go_wp2_with fail
   go_meet
   have hh:=(((((((((((((((L7.out.cell 6 (.int .i64 ka)).cell 7 (.int .i64 ks)).cell 8 (.int .i64 km)).cell 9 (.int .i64 kl)).cell 10 (.int .i64 f0)).cell 11 (.int .i64 l0')).cell 12 (.int .i64 m0)).cell 13 (.int .i64 t0)).cell 14 (.bool is0)).cell 15 (.int .i64 tm0)).cell 16 (.int .i64 sp0)).cell 17 (.int .i64 wt0)).cell 18 (.int .i64 si0)).cell 19 (.int .i64 tr0)).cell 20 (.bool rn0))
   simp only [arE,zqA,zqB,zqC] at hh ⊢
   exact hh
 case rest=>
  have LD:Hid (∀ W,Fr [] wc W→Lo w W w.heap.size (w.heap.size+1) (arE { x with at_:=4,win:=⟨ka,ks,km,kl⟩,clk:=⟨f0,l0',m0,t0,is0,tm0,sp0,wt0,si0,tr0,rn0⟩ } av uv kv)):=hI (fun W f=>hcut.grow f)
  clear hcut LB LC BC
  go_wp2_with (first
   | ((with_reducible refine gate_load 41 (.tmp 2) ?_);refine wpList_load_blk rfl 41 (.tmp 2) rfl w.heap.size 41 (arE { x with at_:=4,win:=⟨ka,ks,km,kl⟩,clk:=⟨f0,l0',m0,t0,is0,tm0,sp0,wt0,si0,tr0,rn0⟩ } av uv kv) _ rfl (LD.out _ (by first|exact Fr.refl _ _|assumption)).s Tryz.underlying41 rfl (by kernel_rfl) ?_)
   | ((with_reducible refine gate_store 41 (.tmp 4) ?_);refine wpList_store_blk rfl 41 (.tmp 4) (.tmp 24) rfl (w.heap.size+1) 41 endZ (arE { x with at_:=4,win:=⟨ka,ks,km,kl⟩,clk:=⟨f0,l0',m0,t0,is0,tm0,sp0,wt0,si0,tr0,rn0⟩ } av uv kv) rfl rfl (LD.out _ (by first|exact Fr.refl _ _|assumption)).r rfl (by kernel_rfl) (by first|exact o1.out _|exact o2.out _|simp [Value.oneCell']) ?_;intro w9 B9 F9))
  refine bodyPost_ret (results_c 4 41 ⟨w.heap.size+1,0,none⟩ _ (by rfl) (by rfl) (end_load B9)) (by rfl) ?_
  exact⟨rfl,(LD.out _ (Fr.refl _ _)).res F9⟩
end Go.Proofs.YtmgdbbbdhkfdmaaGreat
