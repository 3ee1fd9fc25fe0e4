import Derived.Test.YtmgdbbbdhkfdmaaGreatYS7
import Derived.Test.YtmgdbbbdhkfdmaaGreatYS6
import Derived.Deep.DeepCutAuto
import Derived.Deep.RegionLaw
import Derived.Test.YtmgdbbbdhkfdmaaGreatYS4
import Derived.Test.YtmgdbbbdhkfdmaaGreatYS2
set_option linter.unusedSimpArgs false
set_option linter.unusedVariables false
namespace Go.Proofs.YtmgdbbbdhkfdmaaGreat
set_option maxRecDepth 100000
open Go.RowKit Go.Shelf
def endM(P:Program)(fn:Func)(R:Ending→World→Prop):Exit→Act→World→Prop:=bodyPostM Fence.wide 5 P fn R
theorem calls_of_marks{P:Program}{f:FuncId}{fn:Func}{c:Code}{args:Array Value}{w:World}{R:Ending→World→Prop}(hf:P.funcs[f]?=some fn)(hb:fn.body=some c)
  (h:c.wp P (endM P fn R) { tmps:=args++Array.replicate (fn.ntmps - args.size) undef,defers:=[] } w):Calls P f args w R:=
 callsIn_wide.1 (callsIn_of_wp_marks hf hb trivial (wpIn_wide.2 h) rfl)
theorem endM_ret{P:Program}{fn:Func}{R:Ending→World→Prop}{a:Act}{w:World}{D:Nat}{v:Value}(hd:a.defers=[{ target := .collected D,args:=#[] }])(hK:w.heap[D]?=some (.deferred (some [])))
  (hr:(results fn a.tmps).run P (w.putObj D (.deferred none)) = .ok v (w.putObj D (.deferred none))) (hR:R (.returned v) (w.putObj D (.deferred none))):endM P fn R .ret a w:=by
 unfold endM bodyPostM
 dsimp only
 rw [hd]
 refine⟨by simp, .inl ⟨_,_,rfl,run_takeDeferred hK,?_⟩⟩
 exact⟨_,hr,hR⟩
def rndPost(R:World→Prop):Exit→Act→World→Prop
 | .normal,_,w=>R w
 | _,_,_=>False
theorem wp_range_iter{P:Program}{σ:Type}{g:Operand}{ps:Array Tmp}{assign body:Code}{Q:Exit→Act→World→Prop}{a:Act}{w:World}(gf:Nat)(lb:Array Value)
  (hg:a.eval g = .func (.func gf) #[] lb) (eg:∀ args w,(callFunc gf args).run P w = .ok (.enter gf args) w) (hps:ps.size=1)
  (J:Loop→σ→World→Prop) (s0:σ) (Rnd:σ→σ→Value→World→Prop) (Fin:σ→Prop)
  (hput:∀ r r' s W,J r s W→J r' s (W.putObj (w.heap.size+1) (.loop r')))
  (hrcd:∀ r s W,J r s W→W.heap[w.heap.size+1]?=some (.loop r)∧W.heap[w.heap.size]?=some (.deferred (some [])))
  (hstart:∀ r,J r s0 ((w.alloc (.deferred (some []))).alloc (.loop r)))
  (hround:∀ s s' v W r r',J r s W→Rnd s s' v W→assign.wpIn (Fence.wide.inRound (w.heap.size+1)) 3 P (Exit.then (fun a₁ w₁=>J r s w₁∧body.wpIn (Fence.wide.inRound (w.heap.size+1)) 3 P (rndPost (J r' s')) a₁ (w₁.putObj (w.heap.size+1) (.loop r'))) (fun _ _ _=>False))
   { tmps:=(ps.zip #[v]).foldl (fun t (p,x)=>t.setIfInBounds p x) a.tmps,defers:=[] } W)
  (hseq:∀ r,(∀ s s' v W,J r s W→Rnd s s' v W→YieldAt Fence.wide 3 P (w.heap.size+1) #[v] W fun e W'=>e = .returned (.bool true)∧J r s' W') →
   ∀ W1,J r s0 W1→Calls P gf (#[.func (.yield (w.heap.size+1)) #[] #[]]++lb) W1 fun e W'=>(∃ v,e = .returned v)∧∃ s,Fin s∧J r s W')
  (hdone:∀ r s W,Fin s→J r s W→Q .normal { a with defers:={ target := .collected w.heap.size,args:=#[] }::a.defers } W) :
  (Code.rangeFunc g ps assign body).wp P Q a w:=by
 refine (wpIn_wide (n:=5)).1 ?_
 refine wpIn_rangeFunc ?_
 intro fn hfn
 obtain⟨rec,hrec⟩:∃ rec:LoopState→Option Code→Loop,rec=fun st pe=>{ state:=st,pending:=pe,fn,tmps:=a.tmps,params:=ps,assign,body,defers:=w.heap.size }:=⟨_,rfl⟩
 obtain⟨W1,hW1⟩:∃ W1,(w.alloc (.deferred (some []))).alloc (.loop (rec .ready none))=W1:=⟨_,rfl⟩
 refine⟨w.heap.size+1,[{ target := .collected w.heap.size,args:=#[] }],W1,{ target := .fn (.func gf) lb,args:=#[.func (.yield (w.heap.size+1)) #[] #[]] },W1,gf,
  #[.func (.yield (w.heap.size+1)) #[] #[]]++lb,W1,?_,?_,?_,?_,fun h=>by simp [Fence.wide] at h,?_⟩
 ·rw [← hW1,hrec];exact run_enterLoop_outer _ _ _ _ _
 ·simp only [resolve,hg]
  simp [go_sem]
 ·intro f' hf';trivial
 ·simp [invoke,go_sem,eg]
 ·refine callsIn_wide.2 ((hseq (rec .ready none) ?_ W1 (by rw [← hW1];exact hstart _)).mono ?_)
  ·intro s s' v W hj hp
   obtain⟨hl,_⟩:=hrcd _ _ _ hj
   have hy:=run_yield (P:=P) (args:=#[v]) hl (by rw [hrec];simpa using hps.symm)
   rw [hrec] at hy
   refine⟨fn,_,assign,body,hy,roundIn_of_wpIn hfn (wpIn_mono (hround s s' v W (rec .ready none) { rec .ready none with state := .busy } hj hp) ?_)⟩
   rintro e a1 w1 hp1
   cases e with
   | normal=>
    obtain⟨hj1,hb⟩:=hp1
    obtain⟨hl1,_⟩:=hrcd _ _ _ hj1
    refine⟨_,run_beginRound hl1 (by rw [hrec]),wpIn_mono hb ?_⟩
    rintro e2 a2 w2 hp2
    cases e2 with
    | normal=>
     have hj2:J _ s' w2:=hp2
     obtain⟨hl2,_⟩:=hrcd _ _ _ hj2
     refine⟨_,_,run_endRound none hl2,rfl,?_⟩
     have:=hput _ (rec .ready none) _ _ hj2
     rw [hrec] at this ⊢
     exact this
    | _=>exact hp2.elim
   | _=>exact hp1.elim
  ·rintro e W2 ⟨⟨v,rfl⟩,s,hf,hj⟩
   obtain⟨hl,_⟩:=hrcd _ _ _ hj
   exact⟨none,_,by have:=run_endLoop (P:=P) hl (by rw [hrec];simp);rw [hrec] at this;exact this,hdone _ s _ hf (hput _ _ s _ hj)⟩
theorem tell_post{S S':Nat→Prop}{w W Wz:World}{g hx hb ob' l D:Nat}{kv kv' ev:Value}{h:Hp}{L L':List (Pc × Value)}{n':Int}{r:Loop}{out':List Int}{oA:Option Addr}{oc:Nat}(m:HPx S w g kv ev h L)(hS1:∀ b,S b→S' b)(hS2:∀ b,S' b→S b∨w.heap.size≤b)
  (j:DJ S' w g hx hb ob' l D h.most kv ev r n' kv' L' out' W) (o1:Blk W ob' 30 #[.slice oA out'.length oc]) (o2:W.ownsRow 0 5 1 (.slice oA out'.length oc) out'.length (byts out')) (o3:∀ b,(Value.slice oA out'.length oc).ownBlock=some b→w.heap.size≤b∧¬ S' b)
  (f:Fr [ob',D] W Wz) (hD:w.heap.size≤D) (hSD:¬ S' D):PutPost S w g kv { h with next:=n',kept:=L'.map (·.1) } out' 0 (.returned (.tuple #[.slice oA out'.length oc, .int .i64 0])) Wz:=by
 have hO:∀ x∈[ob',D],¬ S' x:=by
  intro x hx
  simp at hx
  rcases hx with rfl|rfl
  ·exact j.off.2
  ·exact hSD
 have hg:g∉[ob',D]:=by
  simp
  exact⟨fun e=>blk_ne o1 j.seen.blk (by decide) e.symm,fun e=>blk_def j.dfr j.seen.blk e⟩
 have hk:∀ b,kv'.ownBlock=some b→b∉[ob',D]:=fun b hb'=>by
  simp
  refine⟨fun e=>own_ne j.seen.kp.own o1 (by decide) (e▸hb'),fun e=>own_def j.dfr j.seen.kp.own hb' e⟩
 have ho:∀ b,(Value.slice oA out'.length oc).ownBlock=some b→b∉[ob',D]:=fun b hb'=>by
  simp
  refine⟨fun e=>own_ne o2 o1 (by decide) (e▸hb'),fun e=>own_def j.dfr o2 hb' e⟩
 have F:Fr [g] w Wz:=j.fr.trans f (by
  intro x hx
  simp at hx
  rcases hx with rfl|rfl
  ·exact .inr j.old.1
  ·exact .inr hD)
 have own':=own_fr o2 f ho
 have hsz:=j.fr.size
 refine⟨fun b=>S' b∨(Value.slice oA out'.length oc).ownBlock=some b,kv',oA,oc,rfl,⟨fun b h => .inl (hS1 b h),fun b h=>?_⟩,Sl.of_own own' (fun b h => .inr h),⟨ev,L',j.seen.blk.fr f hg,(j.seen.kp.fr f hO hk).mono (fun b h => .inl h),rfl,?_,?_,?_,?_⟩,F.mono (by simp),fun b h=>(j.offk b h).2⟩
 ·rcases h with h|h
  ·exact hS2 b h
  ·exact .inr (o3 b h).1
 ·rcases m.fin with h1|⟨fa,fb,h1,h2,h3,h4⟩
  ·exact .inl h1
  ·exact .inr ⟨fa,fb,h1,h2, .inl (hS1 fb h3),(F.cell (p:=⟨fb,0,none⟩) (m.pub fb h3) (by simp;rintro rfl;exact m.offg h3)).trans h4⟩
 ·intro b h
  rcases h with h|h
  ·exact Nat.lt_of_lt_of_le (j.seen.pub b h) f.size
  ·exact own_lt own' h
 ·rintro (h|h)
  ·exact j.seen.offg h
  ·exact own_ne o2 j.seen.blk (by decide) h
 ·rintro b hb' (h|h)
  ·exact (j.offk b hb').1 h
  ·exact own_ne2 j.seen.kp.own o2 (by decide) hb' h
end Go.Proofs.YtmgdbbbdhkfdmaaGreat
namespace Go.Proofs.YtmgdbbbdhkfdmaaGreat
set_option maxRecDepth 100000
open Go.RowKit Go.Deep Go.Shelf
attribute [local go_sem] Oper.semAt_some
def TellRnd(S:Nat→Prop)(s s':Int × Value × List (Pc × Value) × List Int)(v:Value)(W:World):Prop:=
 ∃(p:Pc) (A:Option Addr) (c:Nat),v=agp p.at_ (.slice A p.d.length c)∧Byt S W (.slice A p.d.length c) p.d∧0≤p.at_∧p.at_≤s.1∧p.at_≤4611686018427387904∧p.d.length≤64∧s.2.2.2.length+64≤64 * (65 - s.2.2.1.length) ∧
  s'=((takeV s.1 p).2,s.2.1,s.2.2.1,s.2.2.2++(takeV s.1 p).1)
def TellFin(k:Nat)(n:Int)(L:List Pc)(l:List Int)(s:Int × Value × List (Pc × Value) × List Int):Prop:=
 s.1=(drainV k n L).1∧s.2.2.1.map (·.1)=(drainV k n L).2.1∧s.2.2.2=l++(drainV k n L).2.2
theorem ready_any(g:Nat)(w:World):Calls Tryz.prog 129 #[ptr g] w fun e w'=>e = .returned (.func (.func 140) #[] #[.pointer (some ⟨w.heap.size,0,none⟩)])∧w.alloc (.cells #[ptr g] 72)=w':=by
 go_enter Tryz.func129,Tryz.ntmps129
 go_wp2
 go_ret
 exact⟨rfl,rfl⟩
structure TellRel(S S':Nat→Prop)(w:World)(g hx ob' pb:Nat)(kv ev:Value)(h:Hp)(L:List (Pc × Value))(l:List Int)(wx:World):Prop where
 fr:Fr [] w wx
 hbx:Blk wx hx 72 #[ptr g]
 obx:Blk wx ob' 30 #[.slice none 0 0]
 hp:HPx S wx g kv ev h L
 pc:∃ A c,Blk wx pb 134 #[.int .i64 h.next, .slice A l.length c]∧Byt S' wx (.slice A l.length c) l
 pub:∀ b,S' b→b<wx.heap.size
set_option maxRecDepth 100000 in
set_option maxHeartbeats 2000000 in
theorem put_tell{S:Nat→Prop}{w:World}{g:Nat}{kv:Value}{h:Hp}(m:HP S w g kv h)(a:Int)(dv:Value)(d:List Int)(T:Nat→Prop)(hd:Byt T w dv d)(hl:d.length≤1000000)(h0:0≤a)(h1:a≤4611686018427387904)(h2:1≤d.length)(h3:d.length≤64)(h4:past h.fin (a+d.length)=false)(h5:a≤h.next)(h6:h.next<a+d.length)(hi:Inv h) :
  Calls Tryz.prog 117 #[ptr g, .int .i64 a,dv] w (PutPost S w g kv { h with next:=(drainV h.kept.length (a+d.length) h.kept).1,kept:=(drainV h.kept.length (a+d.length) h.kept).2.1 } (d.drop (h.next - a).toNat++(drainV h.kept.length (a+d.length) h.kept).2.2) 0):=by
 have M:=hI m
 obtain⟨ev,L,m⟩:=m
 obtain⟨A,c,rfl,hn,hcm⟩:=hd.form
 have c4:=m.cells.2.2.2.2
 have hg:=m.blk.lt
 have hcl:∀ W,Fr [] w W→Calls Tryz.prog 40 #[.slice A d.length c] W _:=fun W f=>cloneB_any W (hd.fr f (by simp)) hl
 have Hcl:=hI hcl
 have f0:Fr [] w ((w.alloc (.cells #[ptr g] 72)).alloc (.cells #[.slice none 0 0] 30)):=((Fr.refl _ _).alloc _).alloc _
 have bo:=Blk.new (w.alloc (.cells #[ptr g] 72)) 30 #[.slice none 0 0]
 have bh:=(Blk.new w 72 #[ptr g]).alloc (.cells #[.slice none 0 0] 30)
 have BO:=hI bo
 have BH:=hI bh
 have M0:=hI m
 clear hcl m hd bo bh
 have HP:=hI h4
 have HI:=hI hi
 clear h4 hi
 let tok:Exit→Act→World→Prop:=bodyPost Tryz.prog Tryz.f117 (fun _ _=>True)
 refine calls_of_marks Tryz.func117 rfl ?_
 simp only [Tryz.ntmps117,List.size_toArray,List.length_cons,List.length_nil,Nat.reduceAdd,Nat.reduceSub,Array.replicate_succ,Array.replicate_zero,List.push_toArray,List.append_toArray,List.nil_append,List.cons_append]
 go_wp2_with fail
 refine wp_scope_fwd 0 rfl ?_
 go_wp2_with fail
 refine (Hcl.out _ f0).mono ?_
 rintro e w1 ⟨A1,c1,rfl,own1,f1,fb1⟩
 have F1:Fr [] w w1:=f0.trans f1 (by simp)
 have b4:=fr_cell F1 c4
 have bh1:=BH.out.fr f1 (by simp)
 have bo1:Blk w1 (w.heap.size+1) 30 #[.slice none 0 0]:=by simpa using BO.out.fr f1 (by simp)
 have bh0:w1.cell? ⟨w.heap.size,0,none⟩=some (ptr g):=bh1.cell 0
 have bo0:w1.cell? ⟨w.heap.size+1,0,none⟩=some (.slice none 0 0):=by simpa using bo1.cell 0
 have bof:w1.frozen? ⟨w.heap.size+1,0,none⟩=false:=by simpa using bo1.frozen 0
 have sz1:w.heap.size+1<w1.heap.size:=by have:=f1.size;simp at this;omega
 have sz2:w.heap.size<w1.heap.size:=by omega
 have hg1:g<w1.heap.size:=by omega
 have HF1:=hI F1
 have HO1:=hI own1
 have HB1:=hI fb1
 have Bh1:=hI bh1
 have Bo1:=hI bo1
 clear f0 f1 F1 own1 fb1 c4 bh1 bo1
 go_upto_region 7 with (go_at_call 86;refine (none_hp ?_).mono ?_;(first|exact b4|exact cell_al b4 _|assumption);rintro e w' ⟨rfl,rfl⟩)
 have fp:Fr [] w1 (w1.alloc (bxp a (.slice A1 d.length c1))):=(Fr.refl _ _).alloc _
 have pb:=Blk.new w1 134 #[.int .i64 a, .slice A1 d.length c1]
 have szp:w1.heap.size<(w1.alloc (bxp a (.slice A1 d.length c1))).heap.size:=by simp
 generalize w1.alloc (bxp a (.slice A1 d.length c1))=W1 at *
 have FP:=hI fp
 have PB:=hI pb
 clear fp pb bh0 bo0 bof b4 hn
 go_cut [47] (fun s47 wx=>s47 = .bool (past h.fin (a+d.length))∧Fr [] W1 wx)
 case first=>
  have qh:=fr_cell FP.out (show w1.cell? ⟨w.heap.size,0,none⟩=some (ptr g) from Bh1.out.cell 0)
  have q3:=fr_cell (HF1.out.trans FP.out (by simp)) M0.out.cells.2.2.2.1
  have p0:=PB.out.cell 0
  have p1:=PB.out.cell 1
  have x0:=Grew.cell qh
  have x1:=Grew.cell q3
  have x2:=Grew.cell p0
  have x3:=Grew.cell p1
  have hbeh:∀ p:Grew W1,Calls Tryz.prog 127 #[agp a (.slice A1 d.length c1)] p.W fun e w''=>e = .returned (.int .i64 (a+d.length))∧∃ q:Grew W1,w''=q.W:=fun p=>grew_call (behind_fr a A1 d.length c1 _ h0 (by omega) (by omega))
  have HBH:=hI hbeh
  have hfin:=M0.out.fin
  clear qh q3 p0 p1 hbeh
  rcases hfin with ⟨e1,rfl⟩|⟨fa,fb,e1,rfl,e3,e4⟩
  ·have e5:past h.fin (a+d.length)=false:=by unfold past;rw [e1]
   have E5:=hI e5
   clear e1 e5
   refine wp_region_grew (by kernel_rfl) (by kernel_rfl) ?_
   repeat (go_big_quiet_step ((go_at_call 127;exact HBH.out _)))
   refine wpQuiet_nil ?_
   intro W2 f2
   go_wp2_with fail
   go_meet
   exact⟨by rw [E5.out],f2⟩
  ·have e5:past h.fin (a+d.length)=decide (fa<a+d.length):=by unfold past;rw [e1]
   have E5:=hI e5
   have x4:=Grew.cell (fr_cell (HF1.out.trans FP.out (by simp)) e4)
   clear e1 e5 e4
   refine wp_region_grew (by kernel_rfl) (by kernel_rfl) ?_
   repeat (go_big_quiet_step ((go_at_call 127;exact HBH.out _)))
   refine wpQuiet_nil ?_
   intro W2 f2
   go_wp2_with fail
   go_meet
   exact⟨by rw [E5.out],f2⟩
 case rest=>
  obtain⟨rfl,f2⟩:=hcut
  generalize wc=W2 at *
  have F2:=hI ((HF1.out.trans FP.out (by simp)).trans f2 (by simp))
  have Bh2:=hI (Bh1.out.fr (FP.out.trans f2 (by simp)) (by simp))
  have Bo2:=hI (Bo1.out.fr (FP.out.trans f2 (by simp)) (by simp))
  have Pb2:=hI (PB.out.fr f2 (by simp))
  have M2:=hI (M0.out.fr F2.out (by simp) (by simp) (by simp))
  have D2:=hI (own_fr HO1.out (FP.out.trans f2 (by simp)) (by simp))
  clear f2
  have xbh:W2.cell? ⟨w.heap.size,0,none⟩=some (ptr g):=Bh2.out.cell 0
  have xbo:W2.cell? ⟨w.heap.size+1,0,none⟩=some (.slice none 0 0):=Bo2.out.cell 0
  have xbof:=Bo2.out.frozen 0
  have xp0:W2.cell? ⟨w1.heap.size,0,none⟩=some (.int .i64 a):=Pb2.out.cell 0
  have xp1:W2.cell? ⟨w1.heap.size,1,none⟩=some (.slice A1 d.length c1):=Pb2.out.cell 1
  obtain⟨xc0,xc1,xc2,xc3,xc4⟩:=M2.out.cells
  have xsp:=Pb2.out.lt
  have xsh:=Bh2.out.lt
  have xso:=Bo2.out.lt
  have xsg:=M2.out.blk.lt
  rw [HP.out]
  go_upto_region 8 with fail
  go_cut [63] (fun s63 wx=>s63 = .bool (decide (a<h.next))∧Fr [] W2 wx)
  case first=>
   have y0:=Grew.cell xbh
   have y1:=Grew.cell xc1
   have y2:=Grew.cell xp0
   have y3:=Grew.cell xp1
   have hbeh:∀ p:Grew W2,Calls Tryz.prog 127 #[agp a (.slice A1 d.length c1)] p.W fun e w''=>e = .returned (.int .i64 (a+d.length))∧∃ q:Grew W2,w''=q.W:=fun p=>grew_call (behind_fr a A1 d.length c1 _ h0 (by omega) (by omega))
   have HBH:=hI hbeh
   clear hbeh
   by_cases hlt:a<h.next
   ·refine wp_region_grew (by kernel_rfl) (by kernel_rfl) ?_
    repeat (go_big_quiet_step ((go_at_call 127;exact HBH.out _)))
    refine wpQuiet_nil ?_
    intro W3 f3
    go_wp2_with fail
    go_meet
    exact⟨by simp [hlt],f3⟩
   ·have hlf:decide (a<h.next)=false:=by simpa using hlt
    refine wp_region_grew (by kernel_rfl) (by kernel_rfl) ?_
    repeat (go_big_quiet_step ((go_at_call 127;exact HBH.out _)))
    refine wpQuiet_nil ?_
    intro W3 f3
    go_wp2_with fail
    go_meet
    exact⟨by simp [hlt],f3⟩
  case rest=>
   obtain⟨rfl,f3⟩:=hcut
   generalize wc=W3 at *
   have F3:=hI (F2.out.trans f3 (by simp))
   have Bh3:=hI (Bh2.out.fr f3 (by simp))
   have Bo3:=hI (Bo2.out.fr f3 (by simp))
   have Pb3:=hI (Pb2.out.fr f3 (by simp))
   have M3:=hI (M2.out.fr f3 (by simp) (by simp) (by simp))
   have D3:=hI (own_fr D2.out f3 (by simp))
   clear xbh xbo xbof xp0 xp1 xc0 xc1 xc2 xc3 xc4 xsp xsh xso xsg f3
   have xbh:W3.cell? ⟨w.heap.size,0,none⟩=some (ptr g):=Bh3.out.cell 0
   have xbo:W3.cell? ⟨w.heap.size+1,0,none⟩=some (.slice none 0 0):=Bo3.out.cell 0
   have xbof:=Bo3.out.frozen 0
   have xp0:W3.cell? ⟨w1.heap.size,0,none⟩=some (.int .i64 a):=Pb3.out.cell 0
   have xp1:W3.cell? ⟨w1.heap.size,1,none⟩=some (.slice A1 d.length c1):=Pb3.out.cell 1
   obtain⟨xc0,xc1,xc2,xc3,xc4⟩:=M3.out.cells
   have xsp:=Pb3.out.lt
   have xsh:=Bh3.out.lt
   have xso:=Bo3.out.lt
   have xsg:=M3.out.blk.lt
   go_upto_if 63 with fail
   go_cut [64] (fun _ wx=>TellRel S (fun b=>S b∨(Value.slice A1 d.length c1).ownBlock=some b) w g w.heap.size (w.heap.size+1) w1.heap.size kv ev h L (d.drop (h.next - a).toNat) wx)
   case first=>
    have hby:Byt (fun b=>S b∨(Value.slice A1 d.length c1).ownBlock=some b) W3 (.slice A1 d.length c1) d:=Sl.of_own D3.out (fun b h => .inr h)
    have HBY:=hI hby
    clear hby
    by_cases hlt:a<h.next
    ·obtain⟨k,hk⟩:∃ k:Nat,h.next - a=(k:Int):=⟨(h.next - a).toNat,by omega⟩
     have hkn:k<d.length:=by omega
     obtain⟨b1,o1,rfl,_,_⟩:=HBY.out.at_ (k:=0) (by omega)
     have hcc:d.length≤c1:=by
      obtain⟨_,_,hv,h1,_⟩:=HBY.out.form
      injection hv with _ _ hc
      omega
     have hw:IntKind.i64.wrap (k:Int)=(k:Int):=IntWalk.i64_in _ (by omega)
     have hk0:(0:Int)≤(k:Int):=by omega
     have hk1:(k:Int)≤(d.length:Int):=by omega
     have hk2:(d.length:Int)≤(c1:Int):=by omega
     have hck:¬ c1=k:=by omega
     go_wp2_with fail
     have hcut:=HBY.out.cut (k:=k) (by omega)
     rw [if_neg hck] at hcut
     simp only [Option.map_some,add_lit'] at hcut
     have Hcut:=hI hcut
     clear hcut
     go_still_tail 15,(by kernel_rfl)
     change wpList Tryz.prog _ _ _ _ W3.drew
     refine wpList_store_blk rfl 134 (.tmp 8) (.tmp 78) rfl w1.heap.size 134 #[.int .i64 a, .slice (some ⟨b1,o1,none⟩) d.length c1] #[.int .i64 h.next, .slice (some ⟨b1,o1+k,none⟩) (d.length - k) (c1 - k)] rfl rfl Pb3.out rfl (by kernel_rfl) (by simp [Value.oneCell']) ?_
     intro W4 B4 F4
     have f4:Fr [w1.heap.size] W3 W4:=(Fr.refl [w1.heap.size] W3).drew.trans F4 (by simp)
     clear F4
     go_wp2_with fail
     go_meet
     have hkk:(h.next - a).toNat=k:=by omega
     have hlk:(d.drop k).length=d.length - k:=List.length_drop
     have nS:∀ x∈[w1.heap.size],¬ (S x∨(Value.slice (some ⟨b1,o1,none⟩) d.length c1).ownBlock=some x):=by
      intro x hx
      simp only [List.mem_singleton] at hx
      subst hx
      rintro (hs|hs)
      ·have:=M0.out.pub _ hs;omega
      ·have:=own_lt HO1.out hs;omega
     rw [hkk]
     refine⟨F3.out.trans f4 (by intro x hx;simp only [List.mem_singleton] at hx;subst hx;exact .inr (by omega)),Bh3.out.fr f4 (by simpa using blk_ne Bh3.out Pb3.out (by decide)),Bo3.out.fr f4 (by simpa using blk_ne Bo3.out Pb3.out (by decide)),M3.out.fr f4 (fun x hx hs=>nS x hx (.inl hs)) (by simpa using blk_ne M3.out.blk Pb3.out (by decide)) (fun b hb=>?_),⟨_,_,by rw [hlk];exact B4,by rw [hlk];exact Hcut.out.fr f4 nS⟩,fun b hb=>Nat.lt_of_lt_of_le (hb.elim (M3.out.pub b) (own_lt D3.out)) f4.size⟩
     simp only [List.mem_singleton]
     have:=own_lt M0.out.kp.own hb
     omega
    ·go_wp2_with fail
     go_meet
     have hk:(h.next - a).toNat=0:=by omega
     have hn:h.next=a:=by omega
     exact⟨F3.out,Bh3.out,Bo3.out,M3.out,⟨A1,c1,by rw [hk,hn,List.drop_zero];exact Pb3.out,by rw [hk,List.drop_zero];exact HBY.out⟩,fun b hb=>hb.elim (M3.out.pub b) (own_lt D3.out)⟩
   case rest=>
    obtain⟨gf,ghb,gob,ghp,⟨A2,c2,gpc,gby⟩,gpub⟩:=hcut
    generalize wc=W4 at *
    clear xbh xbo xbof xp0 xp1 xc0 xc1 xc2 xc3 xc4 xsp xsh xso xsg
    have hll:(d.drop (h.next - a).toNat).length=d.length - (h.next - a).toNat:=List.length_drop
    have hlk:(h.next - a).toNat<d.length:=by omega
    have hbeh:h.next+((d.drop (h.next - a).toNat).length:Int)=a+d.length:=by omega
    have hll2:(d.drop (h.next - a).toNat).length≤64:=by omega
    have hll1:1≤(d.drop (h.next - a).toNat).length:=by omega
    have Hbeh:=hI hbeh
    clear hll hlk hbeh
    generalize hlq:d.drop (h.next - a).toNat=l at *
    have Hlq:=hI hlq
    clear hlq
    have z0:=Grew.cell (show W4.cell? ⟨w.heap.size,0,none⟩=some (ptr g) from ghb.cell 0)
    have z1:=Grew.cell ghp.cells.2.1
    have z2:=Grew.cell (show W4.cell? ⟨w1.heap.size,0,none⟩=some (.int .i64 h.next) from gpc.cell 0)
    have Ggf:=hI gf
    have Ghb:=hI ghb
    have Gob:=hI gob
    have Ghp:=hI ghp
    have Gpc:=hI gpc
    have Gby:=hI gby
    have Gpub:=hI gpub
    clear gf ghb gob ghp gpc gby gpub
    go_wp2_with fail
    refine wp_region_grew (by kernel_rfl) (by kernel_rfl) ?_
    repeat (go_big_quiet_step (fail))
    refine wpQuiet_nil ?_
    intro W5 f5
    have z3:=Grew.cell (fr_cell f5 (show W4.cell? ⟨w.heap.size,0,none⟩=some (ptr g) from Ghb.out.cell 0))
    have z4:=Grew.cell (fr_cell f5 Ghp.out.cells.2.1)
    have z5:=Grew.cell (fr_cell f5 (show W4.cell? ⟨w1.heap.size,0,none⟩=some (.int .i64 h.next) from Gpc.out.cell 0))
    clear z0 z1 z2
    have F5:=hI f5
    clear f5
    go_wp2_with fail
    refine wp_region_grew (by kernel_rfl) (by kernel_rfl) ?_
    repeat (go_big_quiet_step (fail))
    refine wpQuiet_nil ?_
    intro W6 f6
    clear z3 z4 z5
    have f46:Fr [] W4 W6:=F5.out.trans f6 (by simp)
    have ghb6:=Ghb.out.fr f46 (by simp)
    have gob6:=Gob.out.fr f46 (by simp)
    have gpc6:=Gpc.out.fr f46 (by simp)
    have ghp6:=Ghp.out.fr f46 (by simp) (by simp) (by simp)
    have z0:W6.cell? ⟨w.heap.size,0,none⟩=some (ptr g):=ghb6.cell 0
    have z1:W6.cell? ⟨w.heap.size+1,0,none⟩=some (.slice none 0 0):=gob6.cell 0
    have z2:W6.cell? ⟨w1.heap.size,0,none⟩=some (.int .i64 h.next):=gpc6.cell 0
    have z3:W6.cell? ⟨w1.heap.size,1,none⟩=some (.slice A2 l.length c2):=gpc6.cell 1
    have htk:Calls Tryz.prog 128 #[ptr g, .slice none 0 0,agp h.next (.slice A2 l.length c2)] W6 (fun e w'=>∃ A c,e = .returned (.slice A l.length c)∧w'.ownsRow 0 5 1 (.slice A l.length c) l.length (byts l)∧Fr [g] W6 w'∧Blk w' g 115 (hpa h.most (a+d.length) kv ev)∧(∀ b,(Value.slice A l.length c).ownBlock=some b→W6.heap.size≤b∧b<w'.heap.size)):=by
     have e:takeV h.next ⟨h.next,l⟩=(l,a+d.length):=by
      unfold takeV Pc.beh
      dsimp only
      rw [Hbeh.out,if_neg (by omega),Int.sub_self]
      rfl
     refine (take_any _ W6 g h.most h.next kv ev [] none 0 ⟨h.next,l⟩ (.slice A2 l.length c2) ghp6.blk (World.ownsRow_nil _ _ _ _) (Gby.out.fr f46 (by simp)) (fun b hb=>Nat.lt_of_lt_of_le (Gpub.out b hb) f46.size) HI.out.n0 (Int.le_refl _) HI.out.n1 hll2 (by simp)).mono ?_
     rintro e' w' ⟨A,c,he,h1,h2,h3,h4⟩
     rw [e] at he h1 h3 h4
     refine⟨A,c,he,h1,h2,h3,fun b hb=>?_⟩
     rcases h4 b hb with h5|h5
     ·simp [Value.ownBlock] at h5
     ·exact h5
    have Htk:=hI htk
    have Gpc6:=hI gpc6
    have Gob6:=hI gob6
    have Ghb6:=hI ghb6
    have Ghp6:=hI ghp6
    have F46:=hI f46
    have zso:=gob6.lt
    clear htk gpc6 gob6 ghb6 ghp6 f46 f6
    go_wp2_with fail
    refine Htk.out.mono ?_
    rintro e W7 ⟨A3,c3,rfl,own7,f7,blk7,fr7⟩
    have n1:=blk_ne Gob6.out Ghp6.out.blk (by decide)
    have n2:=blk_ne Ghb6.out Ghp6.out.blk (by decide)
    have bo7:=Gob6.out.fr f7 (by simpa using n1)
    have bh7:=Ghb6.out.fr f7 (by simpa using n2)
    have y0:W7.cell? ⟨w.heap.size,0,none⟩=some (ptr g):=bh7.cell 0
    have y1:W7.cell? ⟨w.heap.size+1,0,none⟩=some (.slice none 0 0):=bo7.cell 0
    have y2:=bo7.frozen 0
    have y3:=bo7.lt
    have y4:=bh7.lt
    have Own7:=hI own7
    have F7:=hI f7
    have Blk7:=hI blk7
    have Fr7:=hI fr7
    have Bo7:=hI bo7
    have Bh7:=hI bh7
    clear own7 f7 blk7 fr7 bo7 bh7 z0 z1 z2 z3
    go_wp2_with fail
    refine (ready_any g _).mono ?_
    rintro e w' ⟨rfl,rfl⟩
    have start:=fun rec=>tell_start (S':=fun b=>S b∨(Value.slice A1 d.length c1).ownBlock=some b) rec M0.out HI.out (fun b hb => .inl hb) (fun b hb=>hb.imp id (fun h=>by have:=HB1.out _ h;simp at this;omega)) (Ggf.out.trans F46.out (by simp)) Ghp6.out (fun b hb=>Nat.lt_of_lt_of_le (Gpub.out b hb) F46.out.size) Ghb6.out Gob6.out F7.out Blk7.out Own7.out Fr7.out (by omega) (by omega) hll2
    have Start:=hI start
    have hsz8:(W7.setCell ⟨w.heap.size+1,0,none⟩ (.slice A3 l.length c3)).heap.size=W7.heap.size:=by simp [World.setCell]
    clear start
    go_wp2_with fail
    have z9:W7.heap.size<((W7.setCell ⟨w.heap.size+1,0,none⟩ (.slice A3 l.length c3)).alloc (.cells #[ptr g] 72)).heap.size:=by simp [World.setCell]
    generalize (W7.setCell ⟨w.heap.size+1,0,none⟩ (.slice A3 l.length c3)).alloc (.cells #[ptr g] 72)=W9 at *
    have hev:(∀ W,Fr [g] w W→(h.fin=none∧ev = .pointer none)∨∃ fa fb,h.fin=some fa∧ev=ptr fb∧S fb∧W.cell? ⟨fb,0,none⟩=some (.int .i64 fa)):=fun W f=>by
     rcases M0.out.fin with h1|⟨fa,fb,h1,h2,h3,h4⟩
     ·exact .inl h1
     ·exact .inr ⟨fa,fb,h1,h2,h3,(f.cell (p:=⟨fb,0,none⟩) (M0.out.pub fb h3) (by simp;rintro rfl;exact M0.out.offg h3)).trans h4⟩
    refine wp_range_iter (σ:=Int × Value × List (Pc × Value) × List Int) 140 #[.pointer (some ⟨W7.heap.size,0,none⟩)] (by rfl) (enters_of Tryz.func140 (by kernel_rfl) rfl) rfl
     (fun r s W=>DJ (fun b=>S b∨(Value.slice A1 d.length c1).ownBlock=some b) w g w.heap.size W7.heap.size (w.heap.size+1) (W9.heap.size+1) W9.heap.size h.most kv ev r s.1 s.2.1 s.2.2.1 s.2.2.2 W)
     (a+d.length,kv,L,l)
     (TellRnd (fun b=>S b∨(Value.slice A1 d.length c1).ownBlock=some b))
     (fun s=>TellFin L.length (a+d.length) (L.map (·.1)) l s)
     (fun r r' s W j=>j.put r') (fun r s W j=>⟨j.rcd,j.dfr⟩) Start.out ?round ?seq ?done
    case seq=>
     intro r hy W1 hj
     refine (ready1_any (fun b=>S b∨(Value.slice A1 d.length c1).ownBlock=some b) (W9.heap.size+1) g W7.heap.size h.most ev (fun n kv' L' out W=>DJ (fun b=>S b∨(Value.slice A1 d.length c1).ownBlock=some b) w g w.heap.size W7.heap.size (w.heap.size+1) (W9.heap.size+1) W9.heap.size h.most kv ev r n kv' L' out W)
      (fun n kv' L' out W j=>j.seen) (fun n kv' L' out W W3 kv3 i j f k3 hn=>j.iter f k3 hn) (fun n kv' L' out W W' j f=>j.fr0 f) (fun n kv' L' out W p A' c' kv1 L1 W1 j1 hl1 j hb q0 q1 q2 q3=>?_) (a+d.length) kv L l W1 hj).mono ?_
     ·exact hy (n,kv',L',out) _ _ W j ⟨p,A',c',rfl,hb,q0,q1,q2,q3,by have:=j1.olen;have:=j1.seen.len;dsimp only;omega,rfl⟩
     ·rintro e W' ⟨hv,kv',L',j,hL⟩
      exact⟨hv,(_,kv',L',_),⟨rfl,hL,rfl⟩,j⟩
    case done=>
     rintro r ⟨n',kv',L',out'⟩ W ⟨hn,hL,hout⟩ j
     dsimp only at hn hL hout j
     obtain⟨oA,oc,o1,o2,o3⟩:=j.orow
     have o1c:W.cell? ⟨w.heap.size+1,0,none⟩=some (.slice oA out'.length oc):=o1.cell 0
     have o1f:=o1.frozen 0
     have o1l:=o1.lt
     have J:=hI j
     have O1:=hI o1
     have O2:=hI o2
     have O3:=hI o3
     have Hn:=hI hn
     have HL:=hI hL
     have Hout:=hI hout
     clear o1 o2 o3 hn hL hout j
     go_wp2_with fail
     have z67:W6.heap.size≤W7.heap.size:=F7.out.size
     have z06:w.heap.size≤W6.heap.size:=(Ggf.out.trans F46.out (by simp)).size
     have fs:=(Fr.refl [w.heap.size+1] W).setCell (p:=⟨w.heap.size+1,0,none⟩) (.inl (by simp)) (.slice oA out'.length oc)
     have n1:=blk_def J.out.dfr O1.out
     have dfr:=fr_at J.out.dfr fs (by simpa using fun e=>n1 e.symm)
     have fp:=fr_put (W.setCell ⟨w.heap.size+1,0,none⟩ (.slice oA out'.length oc)) W9.heap.size (.deferred none)
     have b8:Blk (W.setCell ⟨w.heap.size+1,0,none⟩ (.slice oA out'.length oc)) (w.heap.size+1) 30 #[.slice oA out'.length oc]:=by simpa using O1.out.set_ 0 (.slice oA out'.length oc)
     have b9:=b8.fr fp (by simpa using n1)
     have hres:World.cell? _ ⟨w.heap.size+1,0,none⟩=some (.slice oA out'.length oc):=b9.cell 0
     have fz:Fr [w.heap.size+1,W9.heap.size] W _:=(fs.mono (by simp)).trans fp (by intro x hx;simp at hx;subst hx;exact .inl (by simp))
     have hn:=Hn.out
     have hL:=HL.out
     have hout:=Hout.out
     rw [← M0.out.len,← M0.out.kept] at hn hL hout
     rw [← hn,← hL,← hout]
     have hpost:=tell_post (S':=fun b=>S b∨(Value.slice A1 d.length c1).ownBlock=some b) M0.out (fun b h => .inl h) (fun b hb=>hb.imp id (fun h=>by have:=HB1.out _ h;simp at this;omega)) J.out O1.out O2.out O3.out fz (by omega) (fun hs=>by have:=Gpub.out _ hs;have h8:=F46.out.size;omega)
     clear hn hL hout
     refine endM_ret (D:=W9.heap.size) rfl dfr ?_ hpost
     clear hpost fz b9 b8 fs n1
     generalize (W.setCell ⟨w.heap.size+1,0,none⟩ (.slice oA out'.length oc)).putObj W9.heap.size (.deferred none)=Wz at *
     simp [results,Tryz.results117,go_sem,hres]
    case round=>
     rintro⟨n,kv',L',out⟩ s' v W r r' j ⟨p,A',c',rfl,hb,q0,q1,q2,q3,q4,rfl⟩
     dsimp only at j q1 q4 ⊢
     generalize hO:out++(takeV n p).1=out'
     have HO:=hI hO
     have J:=hI j
     have HB:=hI hb
     clear hO j hb
     gi_wp2
     have fA:Fr [] W (W.alloc (bxp p.at_ (.slice A' p.d.length c'))):=(Fr.refl _ _).alloc _
     have bA:=Blk.new W 134 #[.int .i64 p.at_, .slice A' p.d.length c']
     have j1:=J.out.fr0 fA
     refine⟨j1,?_⟩
     have fP:=fr_put (W.alloc (bxp p.at_ (.slice A' p.d.length c'))) (W9.heap.size+1) (.loop r')
     have j2:=j1.put r'
     have nl:=blk_loop j1.rcd bA
     have b2:=bA.fr fP (by simpa using nl)
     have hb2:=(HB.out.fr fA (by simp)).fr fP (by intro x hx;simp only [List.mem_singleton] at hx;subst hx;exact j1.off.1)
     clear fA fP bA j1 nl
     generalize (W.alloc (bxp p.at_ (.slice A' p.d.length c'))).putObj (W9.heap.size+1) (.loop r')=W2' at *
     obtain⟨oA,oc,o1,o2,o3⟩:=j2.orow
     have e0:W2'.cell? ⟨w.heap.size,0,none⟩=some (ptr g):=j2.hbx.cell 0
     have e1:W2'.cell? ⟨w.heap.size+1,0,none⟩=some (.slice oA out.length oc):=o1.cell 0
     have e2:W2'.cell? ⟨W.heap.size,0,none⟩=some (.int .i64 p.at_):=b2.cell 0
     have e3:W2'.cell? ⟨W.heap.size,1,none⟩=some (.slice A' p.d.length c'):=b2.cell 1
     have htk:=take_any _ W2' g h.most n kv' ev out oA oc p (.slice A' p.d.length c') j2.seen.blk o2 hb2 j2.seen.pub q0 q1 j2.seen.n1 q3 (by omega)
     rw [HO.out] at htk
     have tb:=take_bd n p j2.seen.n0 j2.seen.n1 ⟨q2,q3⟩
     have tl:(takeV n p).1.length≤64:=by unfold takeV;split <;> simp;omega
     have hol:out'.length≤64 * (65 - L'.length):=by rw [← HO.out,List.length_append];omega
     have hbo:(fun W3=>Fr (g::ob (.slice oA out.length oc)) W2' W3→Blk W3 (w.heap.size+1) 30 #[.slice oA out.length oc])=(fun W3=>Fr (g::ob (.slice oA out.length oc)) W2' W3→Blk W3 (w.heap.size+1) 30 #[.slice oA out.length oc]):=rfl
     have nob:w.heap.size+1∉g::ob (.slice oA out.length oc):=by
      intro hm
      rcases List.mem_cons.1 hm with hm|hm
      ·exact blk_ne o1 j2.seen.blk (by decide) hm
      ·exact own_ne o2 o1 (by decide) (mem_ob.1 hm)
     have Htk:=hI htk
     have J2:=hI j2
     have O1:=hI o1
     have O2:=hI o2
     have O3:=hI o3
     have TB:=hI tb
     have HOL:=hI hol
     have NOB:=hI nob
     clear htk j2 o1 o2 o3 tb hol hb2 b2 hbo tl nob
     gi_wp2_with fail
     refine⟨trivial,?_⟩
     refine (CallsIn.inRound _ (callsIn_wide.2 Htk.out)).mono ?_
     rintro e W3' ⟨A4,c4,rfl,own4,f4,blk4,new4⟩
     have b4:=O1.out.fr f4 NOB.out
     have e5:W3'.cell? ⟨w.heap.size+1,0,none⟩=some (.slice oA out.length oc):=b4.cell 0
     have e6:=b4.frozen 0
     have e7:=b4.lt
     have J4:=hI (J2.out.took oA oc O1.out O2.out O3.out f4 blk4 own4 new4 TB.out.1 TB.out.2.1 HOL.out)
     clear own4 f4 blk4 new4 b4
     gi_wp2_with fail
     exact J4.out
end Go.Proofs.YtmgdbbbdhkfdmaaGreat
namespace Go.Proofs.YtmgdbbbdhkfdmaaGreat
set_option maxRecDepth 100000
open Go.RowKit
theorem put_any{S:Nat→Prop}{w:World}{g:Nat}{kv:Value}{h:Hp}(m:HP S w g kv h)(hi:Inv h)(a:Int)(dv:Value)(d:List Int)(T:Nat→Prop)(hd:Byt T w dv d)(hl:d.length≤1000000) :
  Calls Tryz.prog 117 #[ptr g, .int .i64 a,dv] w (PutPost S w g kv (putV h a d).1 (putV h a d).2.1 (putV h a d).2.2):=by
 have hlen:h.kept.length≤64:=by have:=hi.len;have:=hi.m1;omega
 unfold putV
 by_cases h0:a<0
 ·rw [if_pos (.inl h0)]
  exact put_arg0 m a dv d T hd hl h0
 by_cases h1:4611686018427387904<a
 ·rw [if_pos (.inr (.inl h1))]
  exact put_arg1 m a dv d T hd hl h1
 by_cases h2:d.length<1
 ·rw [if_pos (.inr (.inr (.inl h2)))]
  exact put_arg2 m a dv d T hd hl (by omega) (by omega) h2
 by_cases h3:64<d.length
 ·rw [if_pos (.inr (.inr (.inr h3)))]
  exact put_arg3 m a dv d T hd hl (by omega) (by omega) (by omega) h3
 rw [if_neg (by omega)]
 by_cases h4:past h.fin (a+d.length)=true
 ·rw [if_pos h4]
  exact put_past m a dv d T hd hl (by omega) (by omega) (by omega) (by omega) h4
 rw [if_neg h4]
 have h4':past h.fin (a+d.length)=false:=by simpa using h4
 by_cases h5:a+d.length≤h.next
 ·rw [if_pos h5]
  exact put_low m a dv d T hd hl (by omega) (by omega) (by omega) (by omega) h4' h5
 rw [if_neg h5]
 by_cases h6:a≤h.next
 ·rw [if_pos h6]
  exact put_tell m a dv d T hd hl (by omega) (by omega) (by omega) (by omega) h4' h6 (by omega) hi
 rw [if_neg h6]
 by_cases h7:h.kept.any (longer a d.length)=true
 ·rw [if_pos h7]
  exact put_longer m a dv d T hd hl (by omega) (by omega) (by omega) (by omega) h4' (by omega) h7 hlen
 rw [if_neg h7]
 have h7':h.kept.any (longer a d.length)=false:=by simpa using h7
 by_cases h8:h.most≤h.kept.length
 ·rw [if_pos h8]
  exact put_full m a dv d T hd hl (by omega) (by omega) (by omega) (by omega) h4' (by omega) h7' hlen h8
 rw [if_neg h8]
 exact put_app m a dv d T hd hl (by omega) (by omega) (by omega) (by omega) h4' (by omega) h7' hlen (by omega)
end Go.Proofs.YtmgdbbbdhkfdmaaGreat
namespace Go.Proofs.YtmgdbbbdhkfdmaaGreat
set_option maxRecDepth 100000
open Go.RowKit Go.Deep
theorem has_bits(f n:Int)(h0:0≤f)(h1:f≤15)(hn:n=1∨n=2∨n=4∨n=8):decide (bits BinOp.and IntKind.i64 f n=0)=!has f n:=by
 have hf:f=0∨f=1∨f=2∨f=3∨f=4∨f=5∨f=6∨f=7∨f=8∨f=9∨f=10∨f=11∨f=12∨f=13∨f=14∨f=15:=by omega
 rcases hn with rfl|rfl|rfl|rfl <;> rcases hf with rfl|rfl|rfl|rfl|rfl|rfl|rfl|rfl|rfl|rfl|rfl|rfl|rfl|rfl|rfl|rfl <;> decide
theorem open1_any(f n:Int)(b:Nat)(w:World)(c:w.cell? ⟨b,0,none⟩=some (.int .i64 f))(h0:0≤f)(h1:f≤15)(hn:n=1∨n=2∨n=4∨n=8):Calls Tryz.prog 91 #[.int .i64 n,ptr b] w fun e w'=>e = .returned (.bool (has f n))∧w=w':=by
 have hb:=has_bits f n h0 h1 hn
 have hr:has f n=!decide (bits BinOp.and IntKind.i64 f n=0):=by rw [hb];simp
 rw [hr]
 clear hr hb
 go_enter Tryz.func91,Tryz.ntmps91
 go_wp2_with fail
 go_ret
 first|exact⟨rfl,rfl⟩|exact⟨by simp,rfl⟩
section
variable {S S':Nat→Prop} {w w':World} {H:Hd} {x:St}
theorem SI.seth(m:SI S w H x){h':Hp}{kv':Value}(e:Ext w S S')(n:HP S' w' H.gh kv' h')(f:Fr (H.gh::ob H.kv) w w')(n5:∀ b,kv'.ownBlock=some b→H.kv.ownBlock=some b∨w.heap.size≤b) :
  SI S' w' ⟨H.g,H.gw,H.gc,H.gh,H.bv,H.uv,kv'⟩ { x with heap:=h' }∧Hd.like w H ⟨H.g,H.gw,H.gc,H.gh,H.bv,H.uv,kv'⟩:=by
 have ng:H.g∉H.gh::ob H.kv:=fun hm=>m.ne_h _ hm rfl
 have hb:∀ {b:Nat} {t:TypeId} {cs:Array Value},Blk w b t cs→t≠115→134≠t→b∉H.gh::ob H.kv:=fun B h1 h2 hm=>by
  obtain⟨ev,L,n⟩:=m.hp
  rcases List.mem_cons.1 hm with h|h
  ·exact blk_ne B n.blk h1 h
  ·exact own_ne n.kp.own B h2 (mem_ob.1 h)
 have ho:∀ {v:Value} {k:Nat} {xs:List Value},w.ownsRow 0 5 1 v k xs→∀ b,v.ownBlock=some b→b∉H.gh::ob H.kv:=fun o b hb hm=>by
  obtain⟨ev,L,n⟩:=m.hp
  rcases List.mem_cons.1 hm with rfl|h
  ·exact own_ne o n.blk (by decide) hb
  ·exact own_ne2 o n.kp.own (by decide) hb (mem_ob.1 h)
 refine⟨⟨m.blk.fr f ng,Blk.fr m.win f (hb m.win (by decide) (by decide)),Blk.fr m.clk f (hb m.clk (by decide) (by decide)),n,own_fr m.buf f (ho m.buf),own_fr m.unr f (ho m.unr),fun y hy hs=>?_,m.bu⟩,⟨rfl,rfl,rfl,rfl,fun b hb=>?_⟩⟩
 ·rcases e.2 y hs with h|h
  ·exact m.nS y hy h
  ·have:y<w.heap.size:=m.lt y (by
    simp only [Hd.own,List.mem_cons,List.mem_append]
    rcases hy with h|h|h|h|h <;> simp [h])
   omega
 ·simp only [Hd.own,List.mem_cons,List.mem_append] at hb ⊢
  rcases hb with h|h|h|h|h|h|h
  ·exact .inl (.inl h)
  ·exact .inl (.inr (.inl h))
  ·exact .inl (.inr (.inr (.inl h)))
  ·exact .inl (.inr (.inr (.inr (.inl h))))
  ·rcases n5 b (mem_ob.1 h) with h1|h1
   ·exact .inl (.inr (.inr (.inr (.inr (.inl (mem_ob.2 h1))))))
   ·exact .inr h1
  ·exact .inl (.inr (.inr (.inr (.inr (.inr (.inl h))))))
  ·exact .inl (.inr (.inr (.inr (.inr (.inr (.inr h))))))
theorem SI.setu(m:SI S w H x){b:List Int}{uv':Value}(own:w'.ownsRow 0 5 1 uv' (x.unread++b).length (byts (x.unread++b)))(f:Fr (ob H.uv) w w')(n:∀ y,uv'.ownBlock=some y→H.uv.ownBlock=some y∨(w.heap.size≤y∧y<w'.heap.size)) :
  SI S (w'.setCell ⟨H.g,15,none⟩ uv') ⟨H.g,H.gw,H.gc,H.gh,H.bv,uv',H.kv⟩ { x with unread:=x.unread++b }∧Hd.like w H ⟨H.g,H.gw,H.gc,H.gh,H.bv,uv',H.kv⟩∧Fr H.own w (w'.setCell ⟨H.g,15,none⟩ uv'):=by
 have hO:∀ y∈ob H.uv,¬ S y:=fun y hy=>m.nS y (.inr (.inr (.inr (.inr hy))))
 have ng:H.g∉ob H.uv:=fun hm=>m.ne_u _ hm rfl
 have hb:∀ {b:Nat} {t:TypeId} {cs:Array Value},Blk w b t cs→5≠t→b∉ob H.uv:=fun B h1 hm=>own_ne m.unr B h1 (mem_ob.1 hm)
 have hk:∀ y∈H.gh::ob H.kv,y∉ob H.uv:=fun y hy hm=>by
  obtain⟨ev,L,n⟩:=m.hp
  rcases List.mem_cons.1 hy with rfl|h
  ·exact own_ne m.unr n.blk (by decide) (mem_ob.1 hm)
  ·exact own_ne2 m.unr n.kp.own (by decide) (mem_ob.1 hm) (mem_ob.1 h)
 have hp1:=m.hp.ext' f (Ext.refl w S) hO hk (fun b hb=>Nat.lt_of_lt_of_le (HP.pub' m.hp b hb) f.size)
 have B1:=m.blk.fr f ng
 have f3:Fr [H.g] w' (w'.setCell ⟨H.g,15,none⟩ uv'):=(Fr.refl [H.g] w').setCell (p:=⟨H.g,15,none⟩) (.inl (by simp)) _
 have hO3:∀ y∈[H.g],¬ S y:=fun y hy=>by simp at hy;subst hy;exact m.nS _ (.inl rfl)
 have hbu:own_fr m.buf f (fun b hb hm=>m.bu b (mem_ob.2 hb) hm)=own_fr m.buf f (fun b hb hm=>m.bu b (mem_ob.2 hb) hm):=rfl
 refine⟨⟨by simpa using B1.set_ 15 uv',Blk.fr (Blk.fr m.win f (hb m.win (by decide))) f3 (by simpa using m.ne_w),Blk.fr (Blk.fr m.clk f (hb m.clk (by decide))) f3 (by simpa using m.ne_c),hp1.ext' f3 (Ext.refl w' S) hO3 (fun y hy=>by simpa using m.ne_h y hy) (fun b hb=>Nat.lt_of_lt_of_le (HP.pub' hp1 b hb) f3.size),
  own_fr (own_fr m.buf f (fun b hb hm=>m.bu b (mem_ob.2 hb) hm)) f3 (fun b hb=>by simpa using m.ne_b b (mem_ob.2 hb)),own_fr own f3 (fun b hb=>by simp;rintro rfl;exact own_ne own B1 (by decide) hb),fun y hy=>?_,fun y hy hu=>?_⟩,⟨rfl,rfl,rfl,rfl,fun b hb=>?_⟩,?_⟩
 ·rcases hy with h|h|h|h|h
  ·exact m.nS y (.inl h)
  ·exact m.nS y (.inr (.inl h))
  ·exact m.nS y (.inr (.inr (.inl h)))
  ·exact m.nS y (.inr (.inr (.inr (.inl h))))
  ·rcases n y (mem_ob.1 h) with h1|h1
   ·exact hO y (mem_ob.2 h1)
   ·intro hs;have:=HP.pub' m.hp y hs;omega
 ·rcases n y (mem_ob.1 hu) with h1|h1
  ·exact m.bu y hy (mem_ob.2 h1)
  ·have:=own_lt m.buf (mem_ob.1 hy);omega
 ·simp only [Hd.own,List.mem_cons,List.mem_append] at hb ⊢
  rcases hb with h|h|h|h|h|h|h
  ·exact .inl (.inl h)
  ·exact .inl (.inr (.inl h))
  ·exact .inl (.inr (.inr (.inl h)))
  ·exact .inl (.inr (.inr (.inr (.inl h))))
  ·exact .inl (.inr (.inr (.inr (.inr (.inl h)))))
  ·exact .inl (.inr (.inr (.inr (.inr (.inr (.inl h))))))
  ·rcases n b (mem_ob.1 h) with h1|h1
   ·exact .inl (.inr (.inr (.inr (.inr (.inr (.inr (mem_ob.2 h1)))))))
   ·exact .inr h1.1
 ·exact (f.mono (fun y hy=>by simp only [Hd.own,List.mem_cons,List.mem_append];exact .inr (.inr (.inr (.inr (.inr (.inr hy))))))).trans (f3.mono (O':=H.own) (by simp [Hd.own])) (fun y hy => .inl hy)
end
theorem Hd.like.trans{w w1:World}{H H1 H2:Hd}(h:Hd.like w H H1)(hz:w.heap.size≤w1.heap.size)(k:Hd.like w1 H1 H2):Hd.like w H H2:=
 ⟨k.g.trans h.g,k.gw.trans h.gw,k.gc.trans h.gc,k.gh.trans h.gh,fun b hb=>by
  rcases k.own b hb with h1|h1
  ·exact h.own b h1
  ·exact .inr (by omega)⟩
theorem place_bd(a b near:Int)(h0:0≤near):0≤placeV a b near∧placeV a b near≤4611686018427387904:=by
 unfold placeV Sne.nearV
 have h1:0≤(a - b - 1) % 4294967296:=by omega
 have h2:(a - b - 1) % 4294967296<4294967296:=by omega
 generalize (a - b - 1) % 4294967296=s at *
 simp only []
 (repeat' split) <;> simp <;> omega
def DataPost(S:Nat→Prop)(w:World)(H:Hd)(y:St)(e:Ending)(w':World):Prop:=
 ∃ S' H',e = .returned (.tuple #[])∧Ext w S S'∧Hd.like w H H'∧SI S' w' H' y∧Fr H.own w w'
def data1V(x:St)(p:Prt):Hp:=if has p.flags 4 then (endV x.heap (placeV p.seq x.peer x.heap.next+p.d.length)).1 else x.heap
theorem isFin_eq(h:Hp):dataV.isFinV h=isFin h:=rfl
theorem dataV_eq(x:St)(p:Prt):dataV x p =
  (if 0<p.d.length∧placeV p.seq x.peer x.heap.next+p.d.length - (data1V x p).next≤1024 - x.unread.length then
   { x with heap:=(putV (data1V x p) (placeV p.seq x.peer x.heap.next) p.d).1,unread:=x.unread++(putV (data1V x p) (placeV p.seq x.peer x.heap.next) p.d).2.1,ended:=isFin (putV (data1V x p) (placeV p.seq x.peer x.heap.next) p.d).1 }
  else { x with heap:=data1V x p,ended:=isFin (data1V x p) }):=by
 unfold dataV data1V
 simp only [isFin_eq]
 split <;> split <;> simp_all
theorem SI.setended{S:Nat→Prop}{w:World}{H:Hd}{x:St}(m:SI S w H x)(b:Bool):SI S (w.setCell ⟨H.g,12,none⟩ (.bool b)) H { x with ended:=b }:=
 m.set ((Fr.refl [H.g] w).setCell (p:=⟨H.g,12,none⟩) (.inl (by simp)) _) (by simpa using m.blk.set_ 12 (.bool b)) rfl rfl rfl rfl rfl
end Go.Proofs.YtmgdbbbdhkfdmaaGreat
namespace Go.Proofs.YtmgdbbbdhkfdmaaGreat
set_option maxRecDepth 100000
theorem sum_erase:∀(l:List Pc) (i:Nat),i<l.length→sumV (l.eraseIdx i)+((l.getD i default).d.length:Int)=sumV l
 | [],i,h=>by simp at h
 | p::l,0,h=>by simp [sumV];omega
 | p::l,i+1,h=>by
  have:=sum_erase l i (by simpa using h)
  simp only [List.eraseIdx_cons_succ,sumV,List.getD_cons_succ]
  omega
theorem sum_nn:∀ l:List Pc,0≤sumV l
 | []=>by simp [sumV]
 | p::l=>by have:=sum_nn l;simp only [sumV];omega
theorem take_len_out(next:Int)(p:Pc):(takeV next p).1.length≤p.d.length:=by
 unfold takeV
 split
 ·simp
 ·simp
theorem drain_out:∀(n:Nat) (next:Int) (l:List Pc),((drainV n next l).2.2.length:Int)≤sumV l
 | 0,next,l=>by simpa [drainV] using sum_nn l
 | n+1,next,l=>by
  unfold drainV
  by_cases hr:readyV next l<0
  ·rw [if_pos hr]
   simpa using sum_nn l
  ·rw [if_neg hr]
   have hb:=ready_bd next l
   have hlt:(readyV next l).toNat<l.length:=by omega
   have h1:=sum_erase l _ hlt
   have h2:=take_len_out next (l.getD (readyV next l).toNat default)
   have h3:=drain_out n (takeV next (l.getD (readyV next l).toNat default)).2 (l.eraseIdx (readyV next l).toNat)
   simp only [List.length_append]
   omega
theorem put_out(h:Hp)(a:Int)(d:List Int):((putV h a d).2.1.length:Int)≤d.length+sumV h.kept:=by
 have hs:=sum_nn h.kept
 have hd:=drain_out h.kept.length (a+d.length) h.kept
 unfold putV
 (repeat' split) <;> simp <;> omega
end Go.Proofs.YtmgdbbbdhkfdmaaGreat
