import Derived.Test.YtmgdbbbdhkfdmaaGreatYS23
import Derived.Test.YtmgdbbbdhkfdmaaGreatYS22
import Derived.Deep.DeepCutAuto
import Derived.Test.YtmgdbbbdhkfdmaaGreatYS0
import Derived.Still
set_option linter.unusedSimpArgs false
set_option linter.unusedVariables false
namespace Go.Proofs.YtmgdbbbdhkfdmaaGreat
set_option maxRecDepth 100000
open Go.RowKit Go.Deep
abbrev stA(x:St):Array Value:=#[.int .i64 x.at_, .bool x.broken, .int .u32 x.peer, .int .i64 x.win.a, .int .i64 x.win.s, .int .i64 x.win.m, .int .i64 x.win.l, .int .i64 x.all.length, .int .i64 x.heap.next, .int .i64 x.unread.length, .int .i64 x.clk.wt, .bool x.closing, .bool x.ended]
abbrev stF(x:St):Array Value:=#[.int .i64 x.at_, .bool x.broken, .int .u32 x.peer, .int .i64 0, .int .i64 0, .int .i64 0, .int .i64 0, .int .i64 x.all.length, .int .i64 0, .int .i64 0, .int .i64 0, .bool x.closing, .bool x.ended]
theorem keepS{w:World}{g b:Nat}{v15 v16 v17 v18:Value}(h:w.cell? ⟨g,15,none⟩=some v15∧w.cell? ⟨g,16,none⟩=some v16∧w.cell? ⟨g,17,none⟩=some v17∧w.cell? ⟨g,18,none⟩=some v18)(n:g≠b)(j:Nat)(u:Value) :
  (w.setCell ⟨b,j,none⟩ u).cell? ⟨g,15,none⟩=some v15∧(w.setCell ⟨b,j,none⟩ u).cell? ⟨g,16,none⟩=some v16∧(w.setCell ⟨b,j,none⟩ u).cell? ⟨g,17,none⟩=some v17∧(w.setCell ⟨b,j,none⟩ u).cell? ⟨g,18,none⟩=some v18:=by
 have f:Fr [b] w (w.setCell ⟨b,j,none⟩ u):=(Fr.refl [b] w).setCell (p:=⟨b,j,none⟩) (.inl (by simp)) u
 have k:∀ {i:Nat} {v:Value},w.cell? ⟨g,i,none⟩=some v→(w.setCell ⟨b,j,none⟩ u).cell? ⟨g,i,none⟩=some v:=fun {i v} h=>(f.cell (p:=⟨g,i,none⟩) (World.block_lt_of_cell? w _ h) (by simpa using n)).trans h
 exact⟨k h.1,k h.2.1,k h.2.2.1,k h.2.2.2⟩
set_option maxHeartbeats 8000000 in
theorem state_si{S:Nat→Prop}{w:World}{H:Hd}{x:St}(m:SI S w H x)(ok:OkS x):Calls Tryz.prog 13 #[ptr H.g] w fun e w'=>e = .returned (.agg (stA x))∧Fr [] w w':=by
 have hgl:=m.blk.lt
 have f0:Fr [] w (w.alloc (.cells formZ 56)):=(Fr.refl [] w).alloc _
 have b0:Blk (w.alloc (.cells formZ 56)) w.heap.size 56 formZ:=Blk.new w _ _
 have m0:=m.fr f0
 have c16:=(scells m0.blk).c16
 have HS:=hI (snone_si H.g H.gw (w.alloc (.cells formZ 56)) c16)
 have OK:=hI ok
 clear m ok
 go_enter Tryz.func13,Tryz.ntmps13
 go_wp2_with fail
 refine HS.out.mono ?_
 rintro e w' ⟨rfl,rfl⟩
 have hs0:w.heap.size<(w.alloc (.cells formZ 56)).heap.size:=by simp
 generalize w.alloc (.cells formZ 56)=w0 at *
 have B:=m0.blk
 have q:∀ j v,(arS x H)[j]?=some v→w0.cell? ⟨H.g,j,none⟩=some v:=fun j v h=>(B.cell j).trans h
 have q0:=q 0 _ rfl
 have q1:=q 1 _ rfl
 have q2:=q 2 _ rfl
 have q3:=q 3 _ rfl
 have q4:=q 4 _ rfl
 have q5:=q 5 _ rfl
 have q6:=q 6 _ rfl
 have q7:=q 7 _ rfl
 have q8:=q 8 _ rfl
 have q9:=q 9 _ rfl
 have q10:=q 10 _ rfl
 have q11:=q 11 _ rfl
 have q12:=q 12 _ rfl
 have M0:=hI m0
 have F0:=hI f0
 have B0:=hI b0
 clear q B m0 f0 b0 HS
 go_upto_region 4 with fail
 have f1:Fr [] w0 (w0.alloc (.cells (stF x) 56)):=(Fr.refl [] w0).alloc _
 have b1:Blk (w0.alloc (.cells (stF x) 56)) w0.heap.size 56 (stF x):=Blk.new w0 _ _
 have m1:=M0.out.fr f1
 have hlt:=M0.out.lt
 have hbr:=B0.out.fr f1 (by simp)
 generalize w0.alloc (.cells (stF x) 56)=w1 at *
 have n1:H.g≠w0.heap.size:=by have:=hlt H.g (by simp [Hd.own]);omega
 have n2:w.heap.size≠w0.heap.size:=by omega
 have hbs:w.heap.size<w0.heap.size:=hs0
 generalize w0.heap.size=b3 at *
 have cs:=scells m1.blk
 have c15:=cs.c15
 have c16:=cs.c16
 have c17:=cs.c17
 have c18:=cs.c18
 obtain⟨uA,uc,huv,_,_⟩:=own_form m1.unr
 rw [huv] at c15
 have HSt:Hid (∀ W,Fr [] w1 W→Calls Tryz.prog 48 #[ptr H.gw] W _):=hI (fun W fW=>Win.state_win H.gw x.win W (Blk.fr m1.win fW (by simp)))
 have HNx:Hid (∀ W,Fr [] w1 W→Calls Tryz.prog 49 #[ptr H.gh] W _):=hI (fun W fW=>next_hp (m1.hp.ext' fW (Ext.refl w1 S) (by simp) (by simp) (fun b hb=>Nat.lt_of_lt_of_le (HP.pub' m1.hp b hb) fW.size)))
 have HWa:Hid (∀ W,Fr [] w1 W→Calls Tryz.prog 50 #[ptr H.gc] W _):=hI (fun W fW=>Rto.wait_clk H.gc x.clk W (Blk.fr m1.clk fW (by simp)) OK.out.hc)
 have SEE:Hid (∀ W,Fr [] w1 W→W.cell? ⟨H.g,15,none⟩=some (.slice uA x.unread.length uc)∧W.cell? ⟨H.g,16,none⟩=some (ptr H.gw)∧W.cell? ⟨H.g,17,none⟩=some (ptr H.gc)∧W.cell? ⟨H.g,18,none⟩=some (ptr H.gh)):=hI (fun W fW=>⟨fr_cell fW c15,fr_cell fW c16,fr_cell fW c17,fr_cell fW c18⟩)
 have BLK:Hid (∀ W,Fr [] w1 W→Blk W b3 56 (stF x)):=hI (fun W fW=>b1.fr fW (by simp))
 have F1:=hI (F0.out.trans f1 (by simp))
 have HBR:=hI hbr
 clear m1 cs hbr f1 b1 hlt
 clear q0 q1 q2 q3 q4 q5 q6 q7 q8 q9 q10 q11 q12
 have NB:Hid (H.g≠b3):=hI n1
 go_cut [] (fun wx=>Blk wx b3 56 (stA x)∧Fr [b3] w1 wx)
 case first=>
  go_region_held3 (fun w'=>w'.cell? ⟨H.g,15,none⟩=some (.slice uA x.unread.length uc)∧w'.cell? ⟨H.g,16,none⟩=some (ptr H.gw)∧w'.cell? ⟨H.g,17,none⟩=some (ptr H.gc)∧w'.cell? ⟨H.g,18,none⟩=some (ptr H.gh))
   (first
    | (with_reducible exact SEE.out _ f5)
    | (with_reducible exact SEE.out _ (Fr.refl [] w1).drew)
    | (with_reducible exact keepS (by assumption) NB.out _ _)
    | (with_reducible exact keepS (keepS (keepS (keepS (SEE.out _ f5) NB.out _ _) NB.out _ _) NB.out _ _) NB.out _ _)
    | (with_reducible exact keepS (keepS (keepS (keepS (keepS (SEE.out _ f5) NB.out _ _) NB.out _ _) NB.out _ _) NB.out _ _) NB.out _ _)
    | (with_reducible exact keepS (keepS (keepS (keepS (keepS (keepS (SEE.out _ f5) NB.out _ _) NB.out _ _) NB.out _ _) NB.out _ _) NB.out _ _) NB.out _ _)
    | (with_reducible exact keepS (keepS (keepS (keepS (keepS (keepS (keepS (SEE.out _ f5) NB.out _ _) NB.out _ _) NB.out _ _) NB.out _ _) NB.out _ _) NB.out _ _) NB.out _ _)
    | go_keep)
   (first
    | (go_at_call 48;refine (HSt.out _ (Fr.refl [] w1).drew).mono ?_;rintro e w5 ⟨rfl,f5'⟩;have f5:Fr [] w1 w5:=(Fr.refl [] w1).drew.trans f5' (by simp);have b5:=BLK.out _ f5;have k3:=b5.cell 3;have k4:=b5.cell 4;have k5:=b5.cell 5;have k6:=b5.cell 6;have k8:=b5.cell 8;have k9:=b5.cell 9;have k10:=b5.cell 10;have hl5:=b5.lt;have z3:=b5.frozen 3;have z4:=b5.frozen 4;have z5:=b5.frozen 5;have z6:=b5.frozen 6;have z8:=b5.frozen 8;have z9:=b5.frozen 9;have z10:=b5.frozen 10;simp at k3 k4 k5 k6 k8 k9 k10;clear f5' b5)
    | (go_at_call 49;refine (HNx.out _ f5).mono ?_;rintro e w' ⟨rfl,rfl⟩)
    | (go_at_call 49;refine (HNx.out _ (Fr.refl [] w1).drew).mono ?_;rintro e w' ⟨rfl,rfl⟩)
    | (go_at_call 50;refine (HWa.out _ f5).mono ?_;rintro e w' ⟨rfl,rfl⟩)
    | (go_at_call 50;refine (HWa.out _ (Fr.refl [] w1).drew).mono ?_;rintro e w' ⟨rfl,rfl⟩))
  all_goals
   go_wp2_with fail
   go_meet
   exact⟨((((((((BLK.out _ f5).set_ 3 (.int .i64 x.win.a)).set_ 4 (.int .i64 x.win.s)).set_ 5 (.int .i64 x.win.m)).set_ 6 (.int .i64 x.win.l)).set_ 8 (.int .i64 x.heap.next)).set_ 9 (.int .i64 x.unread.length)).set_ 10 (.int .i64 x.clk.wt)),
    (((((((f5.mono (O':=[b3]) (by simp)).setCell (p:=⟨b3,3,none⟩) (.inl (by simp)) _).setCell (p:=⟨b3,4,none⟩) (.inl (by simp)) _).setCell (p:=⟨b3,5,none⟩) (.inl (by simp)) _).setCell (p:=⟨b3,6,none⟩) (.inl (by simp)) _).setCell (p:=⟨b3,8,none⟩) (.inl (by simp)) _).setCell (p:=⟨b3,9,none⟩) (.inl (by simp)) _).setCell (p:=⟨b3,10,none⟩) (.inl (by simp)) _⟩
 case rest=>
  obtain⟨bx,fx⟩:=hcut
  have q:∀ j v,(stA x)[j]?=some v→wc.cell? ⟨b3,j,none⟩=some v:=fun j v h=>(bx.cell j).trans h
  have q0:=q 0 _ rfl
  have q1:=q 1 _ rfl
  have q2:=q 2 _ rfl
  have q3:=q 3 _ rfl
  have q4:=q 4 _ rfl
  have q5:=q 5 _ rfl
  have q6:=q 6 _ rfl
  have q7:=q 7 _ rfl
  have q8:=q 8 _ rfl
  have q9:=q 9 _ rfl
  have q10:=q 10 _ rfl
  have q11:=q 11 _ rfl
  have q12:=q 12 _ rfl
  have BR:=hI (HBR.out.fr fx (by simpa using n2))
  have FX:=hI (F1.out.trans fx (fun y hy => .inr (by simp at hy;omega)))
  clear q bx fx
  go_wp2_with ((with_reducible refine gate_store 56 (.tmp 2) ?_);refine wpList_store_blk rfl 56 (.tmp 2) (.tmp 35) rfl w.heap.size 56 formZ (stA x) rfl rfl BR.out rfl (by kernel_rfl) (by simp [Value.oneCell']) ?_;intro w3 B3 F3)
  have r:∀ j v,(stA x)[j]?=some v→w3.cell? ⟨w.heap.size,j,none⟩=some v:=fun j v h=>(B3.cell j).trans h
  have r0:=r 0 _ rfl
  have r1:=r 1 _ rfl
  have r2:=r 2 _ rfl
  have r3:=r 3 _ rfl
  have r4:=r 4 _ rfl
  have r5:=r 5 _ rfl
  have r6:=r 6 _ rfl
  have r7:=r 7 _ rfl
  have r8:=r 8 _ rfl
  have r9:=r 9 _ rfl
  have r10:=r 10 _ rfl
  have r11:=r 11 _ rfl
  have r12:=r 12 _ rfl
  refine bodyPost_ret (v := .agg (stA x)) (by simp [results,Tryz.results13,go_sem,r0,r1,r2,r3,r4,r5,r6,r7,r8,r9,r10,r11,r12]) rfl ?_
  exact⟨rfl,FX.out.trans F3 (by intro y hy;simp at hy;subst hy;exact .inr (Nat.le_refl _))⟩
end Go.Proofs.YtmgdbbbdhkfdmaaGreat
namespace Go.Proofs.YtmgdbbbdhkfdmaaGreat.Lex
set_option maxRecDepth 100000
open Go.RowKit Go.Deep
def back(md:Region.Mode)(o:Oper)(k:Nat):Bool:=o.after.all fun e=>!Region.binds md e || decide (e.on<k)
def pairs(md:Region.Mode)(ops:Array Oper):List Oper→Nat→Bool
 | [],_=>true
 | o::r,k=>back md o k && (r.all fun q=>q.after.any (fun e=>Region.binds md e && e.on == k) || o.apart ops q) && pairs md ops r (k+1)
structure Upto(n k:Nat)(s:Array Bool):Prop where
 sz:s.size=n
 yes:∀ i,i<k→i<n→s.getD i true=true∧s.getD i false=true
 no:∀ i,k≤i→i<n→s.getD i true=false
theorem Upto.next{n k:Nat}{s:Array Bool}(h:Upto n k s)(hk:k<n):Upto n (k+1) (s.setIfInBounds k true):=by
 refine⟨by simp [h.sz],fun i hi hn=>?_,fun i hi hn=>?_⟩
 ·by_cases e:k=i
  ·subst e
   have:k<s.size:=by rw [h.sz];exact hk
   simp [this]
  ·have h1:=h.yes i (by omega) hn
   exact⟨by rw [getD_set_ne true e];exact h1.1,by rw [getD_set_ne false e];exact h1.2⟩
 ·rw [getD_set_ne true (by omega)]
  exact h.no i (by omega) hn
theorem from_(md:Region.Mode)(l:List Oper):∀(r pre:List Oper) (s:Array Bool),l=pre++r→Upto l.length pre.length s→pairs md l.toArray r pre.length=true→Region.lexFrom md l.toArray r.length pre.length s=true
 | [],pre,s,hl,hs,_=>by
  simp only [List.append_nil] at hl
  show (Region.ready md l.toArray s).isEmpty=true
  rw [List.isEmpty_iff]
  apply List.eq_nil_iff_forall_not_mem.2
  intro j hj
  obtain⟨h1,o,ho,_⟩:=mem_ready.1 hj
  have hlt:j<l.length:=by
   have:=(Array.getElem?_eq_some_iff.1 ho).1
   simpa using this
  rw [(hs.yes j (by rw [← hl];exact hlt) hlt).1] at h1
  cases h1
 | o::r,pre,s,hl,hs,hp=>by
  unfold pairs at hp
  simp only [Bool.and_eq_true] at hp
  obtain⟨⟨hb,ha⟩,hr⟩:=hp
  have hn:l.length=pre.length+(r.length+1):=by rw [hl];simp
  have hk:pre.length<l.length:=by omega
  have hop:l.toArray[pre.length]?=some o:=by rw [hl];simp
  simp only [List.length_cons,Region.lexFrom,Bool.and_eq_true]
  refine⟨⟨?_,?_⟩,?_⟩
  ·rw [List.contains_iff_mem]
   refine mem_ready.2 ⟨hs.no _ (Nat.le_refl _) hk,o,hop,fun e he hbi=>?_⟩
   have h1:=Array.all_eq_true_iff_forall_mem.1 hb e he
   simp only [hbi,Bool.not_true,Bool.false_or,decide_eq_true_eq] at h1
   exact (hs.yes e.on h1 (by omega)).2
  ·unfold Region.free
   rw [hop]
   dsimp only
   rw [List.all_eq_true]
   intro j hj
   have hjn:j<l.length:=by simpa using hj
   rcases Nat.lt_trichotomy j pre.length with h|h|h
   ·rw [(hs.yes j h hjn).1];simp
   ·subst h;simp
   ·have hq:∃ q,l.toArray[j]?=some q∧q∈r:=by
     have e1:l.toArray[j]?=r[j - (pre.length+1)]?:=by
      rw [hl]
      simp only [List.getElem?_toArray]
      rw [List.getElem?_append_right (by omega)]
      rw [show j - pre.length=(j - (pre.length+1))+1 from by omega]
      simp
     have h2:j - (pre.length+1)<r.length:=by omega
     exact⟨r[j - (pre.length+1)],by rw [e1];exact List.getElem?_eq_getElem h2,List.getElem_mem h2⟩
    obtain⟨q,hq1,hq2⟩:=hq
    have h3:=List.all_eq_true.1 ha q hq2
    rw [hq1]
    dsimp only
    rw [h3]
    simp
  ·have:=from_ md l r (pre++[o]) (s.setIfInBounds pre.length true) (by rw [hl];simp) (by simpa using hs.next hk) (by simpa using hr)
   simpa using this
theorem lexB{md:Region.Mode}{l:List Oper}(h0:Region.noSelect l.toArray=true)(h:pairs md l.toArray l 0=true):Region.lexB md l.toArray=true:=by
 unfold Region.lexB
 rw [h0,Bool.true_and]
 have:=from_ md l l [] (Array.replicate l.toArray.size false) (by simp) ⟨by simp,fun i hi=>by simp at hi,fun i _ hi=>by simp [hi]⟩ h
 simpa using this
end Go.Proofs.YtmgdbbbdhkfdmaaGreat.Lex
namespace Go.Proofs.YtmgdbbbdhkfdmaaGreat
set_option maxRecDepth 100000
open Go.RowKit Go.Deep
theorem eqF13(a1 a3 a4 a5 a6 a7 a8 a9 a10 a11:Int)(b1 b2 b3:Bool)(w:World):(Op.equalIn 10000 56 (.agg #[.int .i64 a1, .bool b1, .int .u32 a3, .int .i64 a4, .int .i64 a5, .int .i64 a6, .int .i64 a7, .int .i64 a8, .int .i64 a9, .int .i64 a10, .int .i64 a11, .bool b2, .bool b3]) (.agg #[.int .i64 a1, .bool b1, .int .u32 a3, .int .i64 a4, .int .i64 a5, .int .i64 a6, .int .i64 a7, .int .i64 a8, .int .i64 a9, .int .i64 a10, .int .i64 a11, .bool b2, .bool b3])).run Tryz.prog w = .ok true w:=by
 have h1:Tryz.prog.stoodInHeld 56=false:=by kernel_rfl
 have h2:Tryz.prog.stoodInHeld 32=false:=by kernel_rfl
 simp [go_sem,h1,h2]
theorem eqgForm(op:BinOp)(x y:Operand)(xs ys:Array Value)(w:World):(eqGuard op 56 x y (.agg xs) (.agg ys)).run Tryz.prog w = .ok () w:=run_eqGuard_agg w op 56 x y xs ys (by kernel_rfl)
theorem neq_stA(x:St)(w:World):(binOp .neq 56 (.agg (stA x)) (.agg (stA x))).run Tryz.prog w = .ok (.bool false) w:=by
 rw [run_neq_struct,eqF13];rfl
set_option maxHeartbeats 8000000 in
theorem eagain_beg{S:Nat→Prop}{w:World}{x:St}{av uv kv:Value}(m:RE S w x av uv kv)(ok:Ok x)(ou:OkU x)(h4:x.at_≠4):Calls Tryz.prog 78 #[agE x av uv kv] w (EPart S w (shows x,[beginsV x]) av uv kv):=by
 have o1:=m.cells1
 have hb:=fun W (g:Fr [] w W)=>ebegins (m.fr g) ok.s ou
 have hd:decide (x.at_=4)=false:=by simpa using h4
 have hq:(x.at_ == 4)=false:=by simpa using h4
 have HB:=hI hb
 have L0:=hI (Lo.start w (arE x av uv kv))
 have M:=hI m
 have NSR:Hid (¬ S (w.heap.size+1)):=hI (fun hs=>by have:=m.pub _ hs;omega)
 clear m hb ok ou
 go_enter Tryz.func78,Tryz.ntmps78
 go_upto_region 1 with fail
 generalize (w.alloc (.cells (arE x av uv kv) 41)).alloc (.cells endZ 41)=w1 at *
 have L1:Hid (∀ W,Fr [] w1 W→Lo w W w.heap.size (w.heap.size+1) (arE x av uv kv)):=hI (fun W f=>L0.out.grow f)
 have c2:w1.cell? ⟨w.heap.size,2,none⟩=some (.int .i64 x.at_):=L0.out.s.cell 2
 clear L0
 go_upto_region 2 with fail
 clear c2
 try dsimp only [Act.put]
 go_cut [3] (fun sl wx=>∃ L,L.map (·.1)=[beginsV x]∧Pr S wx sl L∧Blk wx (w.heap.size+1) 41 (arE (shows x) av uv kv)∧Fr [(w.heap.size+1)] w1 wx)
 case first=>
  go_wp2_with (first
    | ((with_reducible refine gate_load 41 (.tmp 1) ?_);refine wpList_load_blk rfl 41 (.tmp 1) rfl w.heap.size 41 (arE x av uv kv) _ rfl (L1.out _ (by first|exact Fr.refl _ _|assumption)).s Tryz.underlying41 rfl (by kernel_rfl) ?_)
    | (go_at_call 26;refine (HB.out _ (L1.out _ (by first|exact Fr.refl _ _|assumption)).f).mono ?_;rintro e wq ⟨vq,Lq,rfl,hLq,pq,fq⟩;have fq':Fr [] w1 wq:=Fr.trans (show Fr [] w1 _ by first|exact Fr.refl _ _|assumption) fq (by simp);have LQ:=hI (L1.out _ fq');have PQ:Hid (∀ W,Fr [(w.heap.size+1)] wq W→Pr S W vq Lq):=hI (fun W f=>pq.fr f (fun y hy hs=>by simp at hy;subst hy;exact NSR.out hs) (fun b hb hm=>by simp at hm;subst hm;exact own_ne pq.own (L1.out _ fq').r (by decide) (mem_ob.1 hb)) (fun _ h=>h));clear pq fq)
    | ((with_reducible refine gate_store 41 (.tmp 2) ?_);refine wpList_store_blk rfl 41 (.tmp 2) (.tmp 19) rfl (w.heap.size+1) 41 endZ (arE (shows x) av uv kv) rfl rfl LQ.out.r rfl (by kernel_rfl) (by first|exact o1.out _|exact o2.out _|simp [Value.oneCell']) ?_;intro wz Bz Fz))
  go_meet
  exact⟨_,hLq,PQ.out _ Fz,Bz,(fq'.mono (by simp)).trans Fz (fun y hy => .inl hy)⟩
 case rest=>
  obtain⟨Ll,hLl,Pl,Bz,Fz⟩:=hcut
  have FW:=(L1.out _ (Fr.refl [] w1)).res Fz
  refine ‹∀(a:Act) (w:World),Code.wp Tryz.prog Code.ret _ a w→_› _ _ (wp_ret ?_)
  try simp only [Exit.then]
  change bodyPost Tryz.prog _ _ .ret _ _
  refine bodyPost_ret (results_ct 2 41 ⟨(w.heap.size+1),0,none⟩ _ 3 u3 (by rfl) (by rfl) (end_load Bz) (by rfl)) (by rfl) ?_
  exact⟨_,Ll,rfl,hLl,Pl,FW⟩
set_option maxHeartbeats 8000000 in
theorem eagain_data{S:Nat→Prop}{w:World}{x:St}{av uv kv:Value}(m:RE S w x av uv kv)(ok:Ok x)(ou:OkU x)(h4:x.at_=4)(hp:0<min 64 (x.win.m - x.win.a)):Calls Tryz.prog 78 #[agE x av uv kv] w (EPart S w (shows x,[partV x 2 x.win.a ((x.all.drop x.win.a.toNat).take (min 64 (x.win.m - x.win.a)).toNat)]) av uv kv):=by
 have hwb:=Win.Inv.bd ok.s.hw
 have hml:=ok.s.hm
 have hal:=ok.s.hl
 have o1:=m.cells1
 obtain⟨ab,ao,ac,rfl,hac1,hac2⟩:∃ ab ao ac,av = .slice (some ⟨ab,ao,none⟩) x.all.length ac∧x.all.length≤ac∧ac≤maxLen:=by
  obtain⟨⟨aA,ac,rfl,h1,h2⟩,_,_⟩:=m.forms
  obtain⟨b,o,rfl,_,_⟩:=m.ba.at_ (show 0<x.all.length by omega)
  exact⟨b,o,ac,rfl,h1,h2⟩
 obtain⟨nn,hn⟩:∃ nn:Nat,min 64 (x.win.m - x.win.a)=nn:=⟨(min 64 (x.win.m - x.win.a)).toNat,by omega⟩
 obtain⟨k',hk⟩:∃ k':Nat,x.win.a=k':=⟨x.win.a.toNat,by omega⟩
 have hk2:x.win.a.toNat=k':=by omega
 have hnb:(k':Int)+nn≤x.all.length:=by omega
 have hn0:0<nn:=by omega
 have hq1:IntKind.i64.wrap (x.win.m - x.win.a)=x.win.m - x.win.a:=IntWalk.i64_in _ (by omega)
 have hby:∀ W,Fr [] w W→Byt S W (.slice (some ⟨ab,ao+k',none⟩) nn (ac - k')) ((x.all.drop k').take nn):=fun W g=>by
  have h5:=(m.ba.fr g (by simp)).cut (k:=k') (by omega)
  rw [if_neg (by omega)] at h5
  have h6:=h5.take (k:=nn) (by rw [List.length_drop];omega)
  simp only [Option.map_some] at h6
  rw [add_lit'] at h6
  exact h6
 have hpt:=fun W (g:Fr [] w W)=>epart (m.fr g) ok.s ou 2 x.win.a (by omega) (by omega) (some ⟨ab,ao+k',none⟩) nn (ac - k') ((x.all.drop k').take nn)
 rw [hk2,hn,Int.toNat_natCast]
 have hpd:(partV x 2 x.win.a ((x.all.drop k').take nn)).d=(x.all.drop k').take nn:=rfl
 have hsv:shows x={ x with shown:=roomV x }:=rfl
 rw [hsv] at hpt ⊢
 have hN:x.all.length=x.all.length:=rfl
 generalize roomV x=rv at *
 generalize partV x 2 x.win.a ((x.all.drop k').take nn)=pt at *
 obtain⟨pf,ps,pk,pw,pd⟩:=pt
 dsimp only at hpd
 rw [← hpd] at hby
 clear hpd
 have L0:=hI (Lo.start w (arE x (.slice (some ⟨ab,ao,none⟩) x.all.length ac) uv kv))
 have M:=hI m
 have NSR:Hid (¬ S (w.heap.size+1)):=hI (fun hs=>by have:=m.pub _ hs;omega)
 have H4:=hI h4
 have HPT:=hI hpt
 have HBY:=hI hby
 have s1:(0:Int)≤x.win.a:=by omega
 have s2:x.win.a≤x.win.a+(nn:Int):=by omega
 have s3:x.win.a+(nn:Int)≤(ac:Int):=by omega
 have s4:(x.win.a+(nn:Int)).toNat=k'+nn:=by omega
 have s6:IntKind.i64.wrap (x.win.a+(nn:Int))=x.win.a+nn:=IntWalk.i64_in _ (by omega)
 have s8:¬ ac=k':=by omega
 have s9:k'+nn - k'=nn:=by omega
 have s0:decide ((nn:Int) > 0)=true:=by simp;omega
 have s00:decide (0<(nn:Int))=true:=by simp;omega
 have HNE:=hI hn
 generalize x.all.length=N at *
 clear m ok ou h4 hp hn hk hpt hby hwb hml hal hnb hsv hN hac2 hac1
 go_enter Tryz.func78,Tryz.ntmps78
 go_upto_region 1 with fail
 generalize (w.alloc (.cells (arE x (.slice (some ⟨ab,ao,none⟩) N ac) uv kv) 41)).alloc (.cells endZ 41)=w1 at *
 have L1:Hid (∀ W,Fr [] w1 W→Lo w W w.heap.size (w.heap.size+1) (arE x (.slice (some ⟨ab,ao,none⟩) N ac) uv kv)):=hI (fun W f=>L0.out.grow f)
 have c2:w1.cell? ⟨w.heap.size,2,none⟩=some (.int .i64 x.at_):=L0.out.s.cell 2
 clear L0
 rw [H4.out] at c2
 go_upto_region 3 with fail
 clear c2
 go_upto_region 4 with (first
   | ((with_reducible refine gate_load 32 (.tmp 21) ?_);refine wpList_load_in rfl 32 (.tmp 21) rfl w.heap.size 6 41 (arE x (.slice (some ⟨ab,ao,none⟩) N ac) uv kv) (arW x.win) _ rfl (L1.out _ (by first|exact Fr.refl _ _|assumption)).s rfl Tryz.underlying32 rfl (by kernel_rfl) ?_)
   | ((with_reducible refine gate_store 32 (.tmp 4) ?_);refine wpList_store_blk rfl 32 (.tmp 4) (.tmp 22) rfl w1.heap.size 32 #[.int .i64 0, .int .i64 0, .int .i64 0, .int .i64 0] (arW x.win) rfl rfl (Blk.new w1 32 #[.int .i64 0, .int .i64 0, .int .i64 0, .int .i64 0]) rfl (by kernel_rfl) (by first|exact o1.out _|exact o2.out _|simp [Value.oneCell']) ?_;intro w3 B3 F3))
 have l1:=L1.out _ (Fr.refl [] w1)
 have nb3:Hid (w.heap.size+1<w1.heap.size):=hI l1.r.lt
 have l3:Lo w w3 w.heap.size (w.heap.size+1) (arE x (.slice (some ⟨ab,ao,none⟩) N ac) uv kv):=(l1.grow ((Fr.refl [] w1).alloc (.cells #[.int .i64 0, .int .i64 0, .int .i64 0, .int .i64 0] 32))).far F3 (by have:=l1.f.size;omega) (by have:=l1.s.lt;omega) (by have:=l1.r.lt;omega)
 generalize w1.heap.size=b3 at *
 have L3:Hid (∀ W,Fr [] w3 W→Lo w W w.heap.size (w.heap.size+1) (arE x (.slice (some ⟨ab,ao,none⟩) N ac) uv kv)):=hI (fun W f=>l3.grow f)
 have V3:Hid (∀ W,Fr [] w3 W→Blk W b3 32 (arW x.win)):=hI (fun W f=>B3.fr f (by simp))
 clear l1 l3 B3 F3 L1
 have e0:w3.cell? ⟨b3,0,none⟩=some (.int .i64 x.win.a):=(V3.out _ (Fr.refl [] w3)).cell 0
 have e2:w3.cell? ⟨b3,2,none⟩=some (.int .i64 x.win.m):=(V3.out _ (Fr.refl [] w3)).cell 2
 go_upto_region 5 with fail
 generalize hnn:min 64 (x.win.m - x.win.a)=n at *
 have HNN:=hI hnn
 obtain rfl:(nn:Int)=n:=HNE.out.symm
 clear hnn
 go_upto_region 6 with fail
 have c4:w3.cell? ⟨w.heap.size,4,none⟩=some (.slice (some ⟨ab,ao,none⟩) N ac):=(L3.out _ (Fr.refl [] w3)).s.cell 4
 clear e2 hq1
 refine Lay.wp_region_lay [⟨.new 16,41,arE { x with shown:=rv } (.slice (some ⟨ab,ao,none⟩) N ac) uv kv,some 18⟩,⟨.new 17,49,arP ⟨pf,ps,pk,pw,pd⟩ (.slice (some ⟨ab,ao+k',none⟩) nn (ac - k')),some 19⟩] [] [44] (by kernel_rfl) (by kernel_rfl) (fun β=>by kernel_rfl) rfl ⟨trivial,trivial,trivial⟩ ?hh6
 apply Exists.intro
 refine⟨?h6,?hO6,?hI6,?hQ6⟩
 case h6=>
  intro β X hX hN
  have gb:Hid (∀ p:Lay.GX [] w3 X,Blk p.W w.heap.size 41 (arE x (.slice (some ⟨ab,ao,none⟩) N ac) uv kv)):=hI (fun p=>(L3.out _ p.fr).s)
  have gf:Hid (∀ p:Lay.GX [] w3 X,Fr [] w p.W):=hI (fun p=>(L3.out _ p.fr).f)
  have g4:∀ p:Lay.GX [] w3 X,p.W.cell? ⟨w.heap.size,4,none⟩=some (.slice (some ⟨ab,ao,none⟩) N ac):=Lay.GX.cell c4 (by simp)
  have g0:∀ p:Lay.GX [] w3 X,p.W.cell? ⟨b3,0,none⟩=some (.int .i64 x.win.a):=Lay.GX.cell e0 (by simp)
  have h2':Hid (∀ p:Lay.GX [] w3 X,Calls Tryz.prog 81 #[agE x (.slice (some ⟨ab,ao,none⟩) N ac) uv kv, .int .i64 2, .int .i64 x.win.a,(.slice (some ⟨ab,ao+k',none⟩) nn (ac - k'))] p.W fun e w'=>e = .returned (.tuple #[agE { x with shown:=rv } (.slice (some ⟨ab,ao,none⟩) N ac) uv kv,agP ⟨pf,ps,pk,pw,pd⟩ (.slice (some ⟨ab,ao+k',none⟩) nn (ac - k'))])∧∃ q:Lay.GX [] w3 X,w'=q.W):=hI (fun p=>Lay.GX.call hX (HPT.out p.W (gf.out p)))
  simp only [Lay.opsB,Lay.lays,Lay.lay,Lay.eff,Lay.layV,if_true,if_false,Bool.false_eq_true,reduceIte]
  repeat (first
   | ((with_reducible refine gateQ_load 41 (.tmp 1) ?_);refine wpQuiet_load_blk rfl 41 (.tmp 1) rfl w.heap.size 41 (arE x (.slice (some ⟨ab,ao,none⟩) N ac) uv kv) _ rfl (fun W hW=>by obtain⟨p,rfl⟩:=hW;exact gb.out p) Tryz.underlying41 rfl (by kernel_rfl) ?_;simp only [Act.put,zqA,zqB,zqC])
   | go_big_quiet_step (first|(go_at_call 81;exact h2'.out _)))
  exact wpQuiet_nil rfl
 case hO6=>exact⟨Lay.ok_new rfl rfl alloc_end rfl rfl rfl rfl (by kernel_rfl) (by first|exact o1.out _|exact o2.out _|simp [Value.oneCell']) (fun β=>rfl) (fun β=>rfl) (by kernel_rfl),Lay.ok_new rfl rfl alloc_part rfl rfl rfl rfl (by kernel_rfl) (by first|exact o1.out _|exact o2.out _|simp [Value.oneCell']) (fun β=>rfl) (fun β=>rfl) (by kernel_rfl),trivial⟩
 case hI6=>exact⟨fun _ _=>rfl,trivial⟩
 case hQ6=>
  intro β W8 hf8 hl8
  obtain⟨⟨B10,N10⟩,⟨B11,N11⟩,_⟩:=hl8
  have L8:=L3.out _ hf8
  change Blk W8 (β 16) 41 (arE { x with shown:=rv } (.slice (some ⟨ab,ao,none⟩) N ac) uv kv) at B10
  change Blk W8 (β 17) 49 (arP ⟨pf,ps,pk,pw,pd⟩ (.slice (some ⟨ab,ao+k',none⟩) nn (ac - k'))) at B11
  change w3.heap.size≤β 16 at N10
  change w3.heap.size≤β 17 at N11
  have hs1:=(L3.out _ (Fr.refl [] w3)).s.lt
  have hs2:=(L3.out _ (Fr.refl [] w3)).r.lt
  generalize β 16=b10 at *
  generalize β 17=b11 at *
  clear c4 e0
  go_upto_region 7 with fail
  refine Lay.wp_region_lay [⟨.new 2,49,arP ⟨pf,ps,pk,pw,pd⟩ (.slice (some ⟨ab,ao+k',none⟩) nn (ac - k')),none⟩,⟨.fix (w.heap.size+1),41,arE { x with shown:=rv } (.slice (some ⟨ab,ao,none⟩) N ac) uv kv,some 3⟩] [w.heap.size+1] [] (by kernel_rfl) (by kernel_rfl) (fun β=>by kernel_rfl) rfl ⟨trivial,⟨by simp,_,L8.r,rfl,by simp,by simp⟩,trivial⟩ ?hhr6
  apply Exists.intro
  refine⟨?hr6,?hOr6,?hIr6,?hQr6⟩
  case hr6=>
   intro β X hX hN
   have gb:Hid (∀ p:Lay.GX [w.heap.size+1] W8 X,Blk p.W b10 41 (arE { x with shown:=rv } (.slice (some ⟨ab,ao,none⟩) N ac) uv kv)):=hI (fun p=>(B10).fr p.fr (by simp <;> omega))
   have gp:Hid (∀ p:Lay.GX [w.heap.size+1] W8 X,Blk p.W b11 49 (arP ⟨pf,ps,pk,pw,pd⟩ (.slice (some ⟨ab,ao+k',none⟩) nn (ac - k')))):=hI (fun p=>(B11).fr p.fr (by simp <;> omega))
   simp only [Lay.opsB,Lay.lays,Lay.lay,Lay.eff,Lay.layV,if_true,if_false,Bool.false_eq_true,reduceIte]
   repeat (first
    | ((with_reducible refine gateQ_load 41 (.tmp 6) ?_);refine wpQuiet_load_blk rfl 41 (.tmp 6) rfl b10 41 (arE { x with shown:=rv } (.slice (some ⟨ab,ao,none⟩) N ac) uv kv) _ rfl (fun W hW=>by obtain⟨p,rfl⟩:=hW;exact gb.out p) Tryz.underlying41 rfl (by kernel_rfl) ?_;simp only [Act.put,zqA,zqB,zqC])
    | ((with_reducible refine gateQ_load 49 (.tmp 7) ?_);refine wpQuiet_load_blk rfl 49 (.tmp 7) rfl b11 49 (arP ⟨pf,ps,pk,pw,pd⟩ (.slice (some ⟨ab,ao+k',none⟩) nn (ac - k'))) _ rfl (fun W hW=>by obtain⟨p,rfl⟩:=hW;exact gp.out p) Tryz.underlying49 rfl (by kernel_rfl) ?_;simp only [Act.put,zqA,zqB,zqC])
    | go_big_quiet_step (fail))
   exact wpQuiet_nil rfl
  case hOr6=>exact⟨Lay.ok_build rfl rfl (build_part _ _ _ _) (fun β=>rfl),Lay.ok_fix rfl rfl rfl (by kernel_rfl) (by first|exact o1.out _|exact o2.out _|simp [Value.oneCell']) (fun β=>rfl) (fun β=>rfl),trivial⟩
  case hIr6=>exact trivial
  case hQr6=>
   intro β2 W2 hf2 hl2
   obtain⟨⟨B3,_⟩,⟨B4,_⟩,_⟩:=hl2
   change Blk W2 (β2 2) 49 (arP ⟨pf,ps,pk,pw,pd⟩ (.slice (some ⟨ab,ao+k',none⟩) nn (ac - k'))) at B3
   have F2:=L8.res hf2
   go_wp2_with fail
   refine bodyPost_ret (results_ct 2 41 ⟨w.heap.size+1,0,none⟩ _ 3 (.slice (some ⟨β2 2,0,none⟩) 1 1) (by rfl) (by rfl) (end_load B4) (by rfl)) (by rfl) ?_
   exact⟨_,_,rfl,rfl,pr_blk B3 (HBY.out _ F2),F2⟩
set_option maxHeartbeats 8000000 in
theorem eagain_fin{S:Nat→Prop}{w:World}{x:St}{av uv kv:Value}(m:RE S w x av uv kv)(ok:Ok x)(ou:OkU x)(h4:x.at_=4)(hp:¬ 0<min 64 (x.win.m - x.win.a))(hf:x.fin=true):Calls Tryz.prog 78 #[agE x av uv kv] w (EPart S w (shows x,[partV x 6 x.all.length []]) av uv kv):=by
 have hwb:=Win.Inv.bd ok.s.hw
 have hml:=ok.s.hm
 have hal:=ok.s.hl
 have o1:=m.cells1
 obtain⟨⟨aA,ac,rfl,_,_⟩,_,_⟩:=m.forms
 have hq1:IntKind.i64.wrap (x.win.m - x.win.a)=x.win.m - x.win.a:=IntWalk.i64_in _ (by omega)
 have hpt:=fun W (g:Fr [] w W)=>epart (m.fr g) ok.s ou 6 (x.all.length:Int) (by omega) (by omega) none 0 0 []
 have hsv:shows x={ x with shown:=roomV x }:=rfl
 rw [hsv] at hpt ⊢
 have hpd:(partV x 6 x.all.length []).d=[]:=rfl
 generalize roomV x=rv at *
 generalize partV x 6 x.all.length []=pt at *
 obtain⟨pf,ps,pk,pw,pd⟩:=pt
 dsimp only at hpd
 subst hpd
 have L0:=hI (Lo.start w (arE x (.slice aA x.all.length ac) uv kv))
 have M:=hI m
 have NSR:Hid (¬ S (w.heap.size+1)):=hI (fun hs=>by have:=m.pub _ hs;omega)
 have H4:=hI h4
 have HF:=hI hf
 have HPT:=hI hpt
 have HNP:=hI hp
 clear m ok ou h4 hp hf hpt hwb hml hal hsv
 go_enter Tryz.func78,Tryz.ntmps78
 go_upto_region 1 with fail
 generalize (w.alloc (.cells (arE x (.slice aA x.all.length ac) uv kv) 41)).alloc (.cells endZ 41)=w1 at *
 have L1:Hid (∀ W,Fr [] w1 W→Lo w W w.heap.size (w.heap.size+1) (arE x (.slice aA x.all.length ac) uv kv)):=hI (fun W f=>L0.out.grow f)
 have c2:w1.cell? ⟨w.heap.size,2,none⟩=some (.int .i64 x.at_):=L0.out.s.cell 2
 clear L0
 rw [H4.out] at c2
 go_upto_region 3 with fail
 clear c2
 go_upto_region 4 with (first
   | ((with_reducible refine gate_load 32 (.tmp 21) ?_);refine wpList_load_in rfl 32 (.tmp 21) rfl w.heap.size 6 41 (arE x (.slice aA x.all.length ac) uv kv) (arW x.win) _ rfl (L1.out _ (by first|exact Fr.refl _ _|assumption)).s rfl Tryz.underlying32 rfl (by kernel_rfl) ?_)
   | ((with_reducible refine gate_store 32 (.tmp 4) ?_);refine wpList_store_blk rfl 32 (.tmp 4) (.tmp 22) rfl w1.heap.size 32 #[.int .i64 0, .int .i64 0, .int .i64 0, .int .i64 0] (arW x.win) rfl rfl (Blk.new w1 32 #[.int .i64 0, .int .i64 0, .int .i64 0, .int .i64 0]) rfl (by kernel_rfl) (by first|exact o1.out _|exact o2.out _|simp [Value.oneCell']) ?_;intro w3 B3 F3))
 have l1:=L1.out _ (Fr.refl [] w1)
 have nb3:Hid (w.heap.size+1<w1.heap.size):=hI l1.r.lt
 have l3:Lo w w3 w.heap.size (w.heap.size+1) (arE x (.slice aA x.all.length ac) uv kv):=(l1.grow ((Fr.refl [] w1).alloc (.cells #[.int .i64 0, .int .i64 0, .int .i64 0, .int .i64 0] 32))).far F3 (by have:=l1.f.size;omega) (by have:=l1.s.lt;omega) (by have:=l1.r.lt;omega)
 generalize w1.heap.size=b3 at *
 have L3:Hid (∀ W,Fr [] w3 W→Lo w W w.heap.size (w.heap.size+1) (arE x (.slice aA x.all.length ac) uv kv)):=hI (fun W f=>l3.grow f)
 have V3:Hid (∀ W,Fr [] w3 W→Blk W b3 32 (arW x.win)):=hI (fun W f=>B3.fr f (by simp))
 clear l1 l3 B3 F3 L1
 have e0:w3.cell? ⟨b3,0,none⟩=some (.int .i64 x.win.a):=(V3.out _ (Fr.refl [] w3)).cell 0
 have e2:w3.cell? ⟨b3,2,none⟩=some (.int .i64 x.win.m):=(V3.out _ (Fr.refl [] w3)).cell 2
 go_upto_region 5 with fail
 generalize hnn:min 64 (x.win.m - x.win.a)=n at *
 have HNN:=hI hnn
 have hnp:¬ 0<n:=HNP.out
 have s0:decide (n > 0)=false:=by simp;omega
 have s00:decide (0<n)=false:=by simp;omega
 clear hnn hnp
 have c26:w3.cell? ⟨w.heap.size,26,none⟩=some (.bool true):=by rw [← HF.out];exact (L3.out _ (Fr.refl [] w3)).s.cell 26
 clear e0 e2 hq1
 go_upto_region 9 with fail
 have c4:w3.cell? ⟨w.heap.size,4,none⟩=some (.slice aA x.all.length ac):=(L3.out _ (Fr.refl [] w3)).s.cell 4
 clear c26
 go_upto_region 10 with (first
   | ((with_reducible refine gate_load 41 (.tmp 1) ?_);refine wpList_load_blk rfl 41 (.tmp 1) rfl w.heap.size 41 (arE x (.slice aA x.all.length ac) uv kv) _ rfl (L3.out _ (by first|exact Fr.refl _ _|assumption)).s Tryz.underlying41 rfl (by kernel_rfl) ?_)
   | (go_at_call 81;refine (HPT.out _ (L3.out _ (Fr.refl _ _)).f).mono ?_;rintro e w5 ⟨rfl,f5⟩;have BP:Blk ((w5.alloc (.cells endZ 41)).alloc (.cells prt0 49)) (w5.heap.size+1) 49 prt0:=by have hh:=Blk.new (w5.alloc (.cells endZ 41)) 49 prt0;rw [World.size_alloc] at hh;exact hh)
   | ((with_reducible refine gate_store 41 (.tmp 8) ?_);refine wpList_store_blk rfl 41 (.tmp 8) (.tmp 58) rfl w5.heap.size 41 endZ (arE { x with shown:=rv } (.slice aA x.all.length ac) uv kv) rfl rfl ((Blk.new w5 41 endZ).fr ((Fr.refl [] _).alloc _) (by simp)) rfl (by kernel_rfl) (by first|exact o1.out _|exact o2.out _|simp [Value.oneCell']) ?_;intro w6 B6 F6)
   | ((with_reducible refine gate_store 49 (.tmp 9) ?_);refine wpList_store_blk rfl 49 (.tmp 9) (.tmp 59) rfl (w5.heap.size+1) 49 prt0 (arP ⟨pf,ps,pk,pw,[]⟩ (.slice none 0 0)) rfl rfl (BP.fr F6 (by simp)) rfl (by kernel_rfl) (by first|exact o1.out _|exact o2.out _|simp [Value.oneCell']) ?_;intro w7 B7 F7))
 have l5:=L3.out _ f5
 have L7:Lo w w7 w.heap.size (w.heap.size+1) (arE x (.slice aA x.all.length ac) uv kv):=((l5.grow (((Fr.refl [] w5).alloc (.cells endZ 41)).alloc (.cells prt0 49))).far F6 (by have:=l5.f.size;omega) (by have:=l5.s.lt;omega) (by have:=l5.r.lt;omega)).far F7 (by have:=l5.f.size;omega) (by have:=l5.s.lt;omega) (by have:=l5.r.lt;omega)
 have V6:Blk w7 w5.heap.size 41 (arE { x with shown:=rv } (.slice aA x.all.length ac) uv kv):=B6.fr F7 (by simp)
 have hs2:=l5.r.lt
 generalize w5.heap.size=b10 at *
 clear F6 B6 F7 f5 BP c4 l5
 refine Lay.wp_region_lay [⟨.new 2,49,arP ⟨pf,ps,pk,pw,[]⟩ (.slice none 0 0),none⟩,⟨.fix (w.heap.size+1),41,arE { x with shown:=rv } (.slice aA x.all.length ac) uv kv,some 3⟩] [w.heap.size+1] [] (by kernel_rfl) (by kernel_rfl) (fun β=>by kernel_rfl) rfl ⟨trivial,⟨by simp,_,L7.r,rfl,by simp,by simp⟩,trivial⟩ ?hhf
 apply Exists.intro
 refine⟨?hf,?hOf,?hIf,?hQf⟩
 case hf=>
  intro β X hX hN
  have gb:Hid (∀ p:Lay.GX [w.heap.size+1] w7 X,Blk p.W b10 41 (arE { x with shown:=rv } (.slice aA x.all.length ac) uv kv)):=hI (fun p=>(V6).fr p.fr (by simp <;> omega))
  have gp:Hid (∀ p:Lay.GX [w.heap.size+1] w7 X,Blk p.W (b10+1) 49 (arP ⟨pf,ps,pk,pw,[]⟩ (.slice none 0 0))):=hI (fun p=>(B7).fr p.fr (by simp <;> omega))
  simp only [Lay.opsB,Lay.lays,Lay.lay,Lay.eff,Lay.layV,if_true,if_false,Bool.false_eq_true,reduceIte]
  repeat (first
   | ((with_reducible refine gateQ_load 41 (.tmp 8) ?_);refine wpQuiet_load_blk rfl 41 (.tmp 8) rfl b10 41 (arE { x with shown:=rv } (.slice aA x.all.length ac) uv kv) _ rfl (fun W hW=>by obtain⟨p,rfl⟩:=hW;exact gb.out p) Tryz.underlying41 rfl (by kernel_rfl) ?_;simp only [Act.put,zqA,zqB,zqC])
   | ((with_reducible refine gateQ_load 49 (.tmp 9) ?_);refine wpQuiet_load_blk rfl 49 (.tmp 9) rfl (b10+1) 49 (arP ⟨pf,ps,pk,pw,[]⟩ (.slice none 0 0)) _ rfl (fun W hW=>by obtain⟨p,rfl⟩:=hW;exact gp.out p) Tryz.underlying49 rfl (by kernel_rfl) ?_;simp only [Act.put,zqA,zqB,zqC])
   | go_big_quiet_step (fail))
  exact wpQuiet_nil rfl
 case hOf=>exact⟨Lay.ok_build rfl rfl (build_part _ _ _ _) (fun β=>rfl),Lay.ok_fix rfl rfl rfl (by kernel_rfl) (by first|exact o1.out _|exact o2.out _|simp [Value.oneCell']) (fun β=>rfl) (fun β=>rfl),trivial⟩
 case hIf=>exact trivial
 case hQf=>
  intro β2 W2 hf2 hl2
  obtain⟨⟨B3,_⟩,⟨B4,_⟩,_⟩:=hl2
  change Blk W2 (β2 2) 49 (arP ⟨pf,ps,pk,pw,[]⟩ (.slice none 0 0)) at B3
  have F2:=L7.res hf2
  go_wp2_with fail
  refine bodyPost_ret (results_ct 2 41 ⟨w.heap.size+1,0,none⟩ _ 3 (.slice (some ⟨β2 2,0,none⟩) 1 1) (by rfl) (by rfl) (end_load B4) (by rfl)) (by rfl) ?_
  exact⟨_,_,rfl,rfl,pr_blk B3 Byt.nil,F2⟩
set_option maxHeartbeats 8000000 in
theorem eagain_probe{S:Nat→Prop}{w:World}{x:St}{av uv kv:Value}(m:RE S w x av uv kv)(ok:Ok x)(ou:OkU x)(h4:x.at_=4)(hp:¬ 0<min 64 (x.win.m - x.win.a))(hf:x.fin=false)(hz:Win.zeroV x.win=true)(hl:x.win.a<x.all.length):Calls Tryz.prog 78 #[agE x av uv kv] w (EPart S w (shows { x with win:=(Win.probeV x.win).1 },[partV { x with win:=(Win.probeV x.win).1 } 2 (Win.probeV x.win).2.1 ((x.all.drop x.win.a.toNat).take 1)]) av uv kv):=by
 have hwb:=Win.Inv.bd ok.s.hw
 have hml:=ok.s.hm
 have hal:=ok.s.hl
 have o1:=m.cells1
 obtain⟨ab,ao,ac,rfl,hac1,hac2⟩:∃ ab ao ac,av = .slice (some ⟨ab,ao,none⟩) x.all.length ac∧x.all.length≤ac∧ac≤maxLen:=by
  obtain⟨⟨aA,ac,rfl,h1,h2⟩,_,_⟩:=m.forms
  obtain⟨b,o,rfl,_,_⟩:=m.ba.at_ (show 0<x.all.length by omega)
  exact⟨b,o,ac,rfl,h1,h2⟩
 obtain⟨k',hk⟩:∃ k':Nat,x.win.a=k':=⟨x.win.a.toNat,by omega⟩
 have hk2:x.win.a.toNat=k':=by omega
 have hpv:Win.probeV x.win=(⟨x.win.a,x.win.s,max x.win.m (x.win.a+1),x.win.l⟩,x.win.a,0):=by unfold Win.probeV;rw [if_pos hz]
 have hq1:IntKind.i64.wrap (x.win.m - x.win.a)=x.win.m - x.win.a:=IntWalk.i64_in _ (by omega)
 have hz2:x.win.l=x.win.a∧x.win.m=x.win.a:=by unfold Win.zeroV at hz;simpa using hz
 have hpr:=fun W=>Win.rprobe x.win W 1000000000 (Int.le_refl _) ok.s.hw
 have okp:OkS { x with win:=(Win.probeV x.win).1 }:=okS_win ok.s (by rw [hpv];refine⟨?_,?_,?_,?_,?_⟩ <;> simp only [] <;> omega) (by rw [hpv];simp only [];omega)
 have hby:∀ W,Fr [] w W→Byt S W (.slice (some ⟨ab,ao+k',none⟩) 1 (ac - k')) ((x.all.drop k').take 1):=fun W g=>by
  have h5:=(m.ba.fr g (by simp)).cut (k:=k') (by omega)
  rw [if_neg (by omega)] at h5
  have h6:=h5.take (k:=1) (by rw [List.length_drop];omega)
  simp only [Option.map_some] at h6
  rw [add_lit'] at h6
  exact h6
 have hpt:=fun W (g:Fr [] w W)=>epart ((m.to_ (y:={ x with win:=(Win.probeV x.win).1 }) rfl rfl rfl).fr g) okp ⟨ou.i0,ou.i1,ou.p0,ou.p1⟩ 2 x.win.a (by omega) (by omega) (some ⟨ab,ao+k',none⟩) 1 (ac - k') ((x.all.drop k').take 1)
 have hpa:(Win.probeV x.win).2.1=x.win.a:=by rw [hpv]
 rw [hpa] at hpr ⊢
 rw [hk2]
 have hpd:(partV { x with win:=(Win.probeV x.win).1 } 2 x.win.a ((x.all.drop k').take 1)).d=(x.all.drop k').take 1:=rfl
 have hsv:shows { x with win:=(Win.probeV x.win).1 }={ x with win:=(Win.probeV x.win).1,shown:=roomV { x with win:=(Win.probeV x.win).1 } }:=rfl
 rw [hsv] at hpt ⊢
 generalize roomV { x with win:=(Win.probeV x.win).1 }=rv at *
 generalize partV { x with win:=(Win.probeV x.win).1 } 2 x.win.a ((x.all.drop k').take 1)=pt at *
 obtain⟨pf,ps,pk,pw,pd⟩:=pt
 dsimp only at hpd
 rw [← hpd] at hby
 clear hpd hpv hpa okp hsv hz
 generalize (Win.probeV x.win).2.2=pe at *
 generalize (Win.probeV x.win).1=pv at *
 obtain⟨ka,ks,km,kl⟩:=pv
 have L0:=hI (Lo.start w (arE x (.slice (some ⟨ab,ao,none⟩) x.all.length ac) uv kv))
 have M:=hI m
 have NSR:Hid (¬ S (w.heap.size+1)):=hI (fun hs=>by have:=m.pub _ hs;omega)
 have H4:=hI h4
 have HF:=hI hf
 have HPT:=hI hpt
 have HPR:=hI hpr
 have HBY:=hI hby
 have HNP:=hI hp
 have s1:(0:Int)≤x.win.a:=by omega
 have s2:x.win.a≤x.win.a+1:=by omega
 have s3:x.win.a+1≤(ac:Int):=by omega
 have s4:(x.win.a+1).toNat=k'+1:=by omega
 have s6:IntKind.i64.wrap (x.win.a+1)=x.win.a+1:=IntWalk.i64_in _ (by omega)
 have s8:¬ ac=k':=by omega
 have s9:k'+1 - k'=1:=by omega
 generalize x.all.length=N at *
 clear m ok ou h4 hp hf hpt hpr hby hwb hml hal hk hl hz2 hac1 hac2
 go_enter Tryz.func78,Tryz.ntmps78
 go_upto_region 1 with fail
 generalize (w.alloc (.cells (arE x (.slice (some ⟨ab,ao,none⟩) N ac) uv kv) 41)).alloc (.cells endZ 41)=w1 at *
 have L1:Hid (∀ W,Fr [] w1 W→Lo w W w.heap.size (w.heap.size+1) (arE x (.slice (some ⟨ab,ao,none⟩) N ac) uv kv)):=hI (fun W f=>L0.out.grow f)
 have c2:w1.cell? ⟨w.heap.size,2,none⟩=some (.int .i64 x.at_):=L0.out.s.cell 2
 clear L0
 rw [H4.out] at c2
 go_upto_region 3 with fail
 clear c2
 go_upto_region 4 with (first
   | ((with_reducible refine gate_load 32 (.tmp 21) ?_);refine wpList_load_in rfl 32 (.tmp 21) rfl w.heap.size 6 41 (arE x (.slice (some ⟨ab,ao,none⟩) N ac) uv kv) (arW x.win) _ rfl (L1.out _ (by first|exact Fr.refl _ _|assumption)).s rfl Tryz.underlying32 rfl (by kernel_rfl) ?_)
   | ((with_reducible refine gate_store 32 (.tmp 4) ?_);refine wpList_store_blk rfl 32 (.tmp 4) (.tmp 22) rfl w1.heap.size 32 #[.int .i64 0, .int .i64 0, .int .i64 0, .int .i64 0] (arW x.win) rfl rfl (Blk.new w1 32 #[.int .i64 0, .int .i64 0, .int .i64 0, .int .i64 0]) rfl (by kernel_rfl) (by first|exact o1.out _|exact o2.out _|simp [Value.oneCell']) ?_;intro w3 B3 F3))
 have l1:=L1.out _ (Fr.refl [] w1)
 have nb3:Hid (w.heap.size+1<w1.heap.size):=hI l1.r.lt
 have l3:Lo w w3 w.heap.size (w.heap.size+1) (arE x (.slice (some ⟨ab,ao,none⟩) N ac) uv kv):=(l1.grow ((Fr.refl [] w1).alloc (.cells #[.int .i64 0, .int .i64 0, .int .i64 0, .int .i64 0] 32))).far F3 (by have:=l1.f.size;omega) (by have:=l1.s.lt;omega) (by have:=l1.r.lt;omega)
 generalize w1.heap.size=b3 at *
 have L3:Hid (∀ W,Fr [] w3 W→Lo w W w.heap.size (w.heap.size+1) (arE x (.slice (some ⟨ab,ao,none⟩) N ac) uv kv)):=hI (fun W f=>l3.grow f)
 have V3:Hid (∀ W,Fr [] w3 W→Blk W b3 32 (arW x.win)):=hI (fun W f=>B3.fr f (by simp))
 clear l1 l3 B3 F3 L1
 have e0:w3.cell? ⟨b3,0,none⟩=some (.int .i64 x.win.a):=(V3.out _ (Fr.refl [] w3)).cell 0
 have e2:w3.cell? ⟨b3,2,none⟩=some (.int .i64 x.win.m):=(V3.out _ (Fr.refl [] w3)).cell 2
 go_upto_region 5 with fail
 generalize hnn:min 64 (x.win.m - x.win.a)=n at *
 have HNN:=hI hnn
 have hnp:¬ 0<n:=HNP.out
 have s0:decide (n > 0)=false:=by simp;omega
 have s00:decide (0<n)=false:=by simp;omega
 clear hnn hnp
 have c26:w3.cell? ⟨w.heap.size,26,none⟩=some (.bool false):=by rw [← HF.out];exact (L3.out _ (Fr.refl [] w3)).s.cell 26
 clear e0 e2 hq1
 go_upto_region 11 with fail
 clear c26
 go_upto_region 12 with (first
   | ((with_reducible refine gate_load 32 (.tmp 4) ?_);refine wpList_load_blk rfl 32 (.tmp 4) rfl b3 32 (arW x.win) _ rfl (V3.out _ (Fr.refl _ _)) Tryz.underlying32 rfl (by kernel_rfl) ?_)
   | (go_at_call 112;refine (HPR.out _).mono ?_;rintro e w5 ⟨rfl,f5⟩)
   | ((with_reducible refine gate_store 32 (.tmp 4) ?_);refine wpList_store_blk rfl 32 (.tmp 4) (.tmp 66) rfl b3 32 (arW x.win) #[.int .i64 ka, .int .i64 ks, .int .i64 km, .int .i64 kl] rfl rfl (V3.out _ f5) rfl (by kernel_rfl) (by first|exact o1.out _|exact o2.out _|simp [Value.oneCell']) ?_;intro w6 B6 F6))
 have l6:Lo w w6 w.heap.size (w.heap.size+1) (arE x (.slice (some ⟨ab,ao,none⟩) N ac) uv kv):=(L3.out _ f5).far F6 (by have:=nb3.out;omega) (by have:=nb3.out;omega) (by have:=nb3.out;omega)
 have L6:=hI l6
 have V6:=hI B6
 clear l6 B6 F6 f5 L3 V3
 go_upto_region 13 with (first
   | ((with_reducible refine gate_load 32 (.tmp 4) ?_);refine wpList_load_blk rfl 32 (.tmp 4) rfl b3 32 #[.int .i64 ka, .int .i64 ks, .int .i64 km, .int .i64 kl] _ rfl V6.out Tryz.underlying32 rfl (by kernel_rfl) ?_)
   | ((with_reducible refine gate_store 32 (.tmp 70) ?_);refine wpList_store_in rfl 32 (.tmp 70) (.tmp 69) rfl w.heap.size 6 41 (arE x (.slice (some ⟨ab,ao,none⟩) N ac) uv kv) #[.int .i64 ka, .int .i64 ks, .int .i64 km, .int .i64 kl] (arE { x with win:=⟨ka,ks,km,kl⟩ } (.slice (some ⟨ab,ao,none⟩) N ac) uv kv) rfl rfl L6.out.s (by simp) (by kernel_rfl) (by first|exact o1.out _|exact o2.out _|simp [Value.oneCell']) (win_in _ _ _ _ ⟨ka,ks,km,kl⟩) ?_;intro w7 B7 F7))
 have L7:Hid (∀ W,Fr [] w7 W→Lo w W w.heap.size (w.heap.size+1) (arE { x with win:=⟨ka,ks,km,kl⟩ } (.slice (some ⟨ab,ao,none⟩) N ac) uv kv)):=hI (fun W f=>(L6.out.set F7 B7).grow f)
 clear F7 B7 L6 V6
 have c4:w7.cell? ⟨w.heap.size,4,none⟩=some (.slice (some ⟨ab,ao,none⟩) N ac):=(L7.out _ (Fr.refl [] w7)).s.cell 4
 refine Lay.wp_region_lay [⟨.new 12,41,arE { x with win:=⟨ka,ks,km,kl⟩,shown:=rv } (.slice (some ⟨ab,ao,none⟩) N ac) uv kv,some 14⟩,⟨.new 13,49,arP ⟨pf,ps,pk,pw,pd⟩ (.slice (some ⟨ab,ao+k',none⟩) 1 (ac - k')),some 15⟩] [] [80] (by kernel_rfl) (by kernel_rfl) (fun β=>by kernel_rfl) rfl ⟨trivial,trivial,trivial⟩ ?hh13
 apply Exists.intro
 refine⟨?h13,?hO13,?hI13,?hQ13⟩
 case h13=>
  intro β X hX hN
  have gb:Hid (∀ p:Lay.GX [] w7 X,Blk p.W w.heap.size 41 (arE { x with win:=⟨ka,ks,km,kl⟩ } (.slice (some ⟨ab,ao,none⟩) N ac) uv kv)):=hI (fun p=>(L7.out _ p.fr).s)
  have gf:Hid (∀ p:Lay.GX [] w7 X,Fr [] w p.W):=hI (fun p=>(L7.out _ p.fr).f)
  have g4:∀ p:Lay.GX [] w7 X,p.W.cell? ⟨w.heap.size,4,none⟩=some (.slice (some ⟨ab,ao,none⟩) N ac):=Lay.GX.cell c4 (by simp)
  have h2':Hid (∀ p:Lay.GX [] w7 X,Calls Tryz.prog 81 #[agE { x with win:=⟨ka,ks,km,kl⟩ } (.slice (some ⟨ab,ao,none⟩) N ac) uv kv, .int .i64 2, .int .i64 x.win.a,(.slice (some ⟨ab,ao+k',none⟩) 1 (ac - k'))] p.W fun e w'=>e = .returned (.tuple #[agE { x with win:=⟨ka,ks,km,kl⟩,shown:=rv } (.slice (some ⟨ab,ao,none⟩) N ac) uv kv,agP ⟨pf,ps,pk,pw,pd⟩ (.slice (some ⟨ab,ao+k',none⟩) 1 (ac - k'))])∧∃ q:Lay.GX [] w7 X,w'=q.W):=hI (fun p=>Lay.GX.call hX (HPT.out p.W (gf.out p)))
  simp only [Lay.opsB,Lay.lays,Lay.lay,Lay.eff,Lay.layV,if_true,if_false,Bool.false_eq_true,reduceIte]
  repeat (first
   | ((with_reducible refine gateQ_load 41 (.tmp 1) ?_);refine wpQuiet_load_blk rfl 41 (.tmp 1) rfl w.heap.size 41 (arE { x with win:=⟨ka,ks,km,kl⟩ } (.slice (some ⟨ab,ao,none⟩) N ac) uv kv) _ rfl (fun W hW=>by obtain⟨p,rfl⟩:=hW;exact gb.out p) Tryz.underlying41 rfl (by kernel_rfl) ?_;simp only [Act.put,zqA,zqB,zqC])
   | go_big_quiet_step (first|(go_at_call 81;exact h2'.out _)))
  exact wpQuiet_nil rfl
 case hO13=>exact⟨Lay.ok_new rfl rfl alloc_end rfl rfl rfl rfl (by kernel_rfl) (by first|exact o1.out _|exact o2.out _|simp [Value.oneCell']) (fun β=>rfl) (fun β=>rfl) (by kernel_rfl),Lay.ok_new rfl rfl alloc_part rfl rfl rfl rfl (by kernel_rfl) (by first|exact o1.out _|exact o2.out _|simp [Value.oneCell']) (fun β=>rfl) (fun β=>rfl) (by kernel_rfl),trivial⟩
 case hI13=>exact⟨fun _ _=>rfl,trivial⟩
 case hQ13=>
  intro β W8 hf8 hl8
  obtain⟨⟨B10,N10⟩,⟨B11,N11⟩,_⟩:=hl8
  have L8:=L7.out _ hf8
  change Blk W8 (β 12) 41 (arE { x with win:=⟨ka,ks,km,kl⟩,shown:=rv } (.slice (some ⟨ab,ao,none⟩) N ac) uv kv) at B10
  change Blk W8 (β 13) 49 (arP ⟨pf,ps,pk,pw,pd⟩ (.slice (some ⟨ab,ao+k',none⟩) 1 (ac - k'))) at B11
  change w7.heap.size≤β 12 at N10
  change w7.heap.size≤β 13 at N11
  have hs1:=(L7.out _ (Fr.refl [] w7)).s.lt
  have hs2:=(L7.out _ (Fr.refl [] w7)).r.lt
  generalize β 12=b10 at *
  generalize β 13=b11 at *
  clear c4
  go_upto_region 14 with fail
  refine Lay.wp_region_lay [⟨.new 2,49,arP ⟨pf,ps,pk,pw,pd⟩ (.slice (some ⟨ab,ao+k',none⟩) 1 (ac - k')),none⟩,⟨.fix (w.heap.size+1),41,arE { x with win:=⟨ka,ks,km,kl⟩,shown:=rv } (.slice (some ⟨ab,ao,none⟩) N ac) uv kv,some 3⟩] [w.heap.size+1] [] (by kernel_rfl) (by kernel_rfl) (fun β=>by kernel_rfl) rfl ⟨trivial,⟨by simp,_,L8.r,rfl,by simp,by simp⟩,trivial⟩ ?hhr13
  apply Exists.intro
  refine⟨?hr13,?hOr13,?hIr13,?hQr13⟩
  case hr13=>
   intro β X hX hN
   have gb:Hid (∀ p:Lay.GX [w.heap.size+1] W8 X,Blk p.W b10 41 (arE { x with win:=⟨ka,ks,km,kl⟩,shown:=rv } (.slice (some ⟨ab,ao,none⟩) N ac) uv kv)):=hI (fun p=>(B10).fr p.fr (by simp <;> omega))
   have gp:Hid (∀ p:Lay.GX [w.heap.size+1] W8 X,Blk p.W b11 49 (arP ⟨pf,ps,pk,pw,pd⟩ (.slice (some ⟨ab,ao+k',none⟩) 1 (ac - k')))):=hI (fun p=>(B11).fr p.fr (by simp <;> omega))
   simp only [Lay.opsB,Lay.lays,Lay.lay,Lay.eff,Lay.layV,if_true,if_false,Bool.false_eq_true,reduceIte]
   repeat (first
    | ((with_reducible refine gateQ_load 41 (.tmp 12) ?_);refine wpQuiet_load_blk rfl 41 (.tmp 12) rfl b10 41 (arE { x with win:=⟨ka,ks,km,kl⟩,shown:=rv } (.slice (some ⟨ab,ao,none⟩) N ac) uv kv) _ rfl (fun W hW=>by obtain⟨p,rfl⟩:=hW;exact gb.out p) Tryz.underlying41 rfl (by kernel_rfl) ?_;simp only [Act.put,zqA,zqB,zqC])
    | ((with_reducible refine gateQ_load 49 (.tmp 13) ?_);refine wpQuiet_load_blk rfl 49 (.tmp 13) rfl b11 49 (arP ⟨pf,ps,pk,pw,pd⟩ (.slice (some ⟨ab,ao+k',none⟩) 1 (ac - k'))) _ rfl (fun W hW=>by obtain⟨p,rfl⟩:=hW;exact gp.out p) Tryz.underlying49 rfl (by kernel_rfl) ?_;simp only [Act.put,zqA,zqB,zqC])
    | go_big_quiet_step (fail))
   exact wpQuiet_nil rfl
  case hOr13=>exact⟨Lay.ok_build rfl rfl (build_part _ _ _ _) (fun β=>rfl),Lay.ok_fix rfl rfl rfl (by kernel_rfl) (by first|exact o1.out _|exact o2.out _|simp [Value.oneCell']) (fun β=>rfl) (fun β=>rfl),trivial⟩
  case hIr13=>exact trivial
  case hQr13=>
   intro β2 W2 hf2 hl2
   obtain⟨⟨B3,_⟩,⟨B4,_⟩,_⟩:=hl2
   change Blk W2 (β2 2) 49 (arP ⟨pf,ps,pk,pw,pd⟩ (.slice (some ⟨ab,ao+k',none⟩) 1 (ac - k'))) at B3
   have F2:=L8.res hf2
   go_wp2_with fail
   refine bodyPost_ret (results_ct 2 41 ⟨w.heap.size+1,0,none⟩ _ 3 (.slice (some ⟨β2 2,0,none⟩) 1 1) (by rfl) (by rfl) (end_load B4) (by rfl)) (by rfl) ?_
   exact⟨_,_,rfl,rfl,pr_blk B3 (HBY.out _ F2),F2⟩
theorem eagain{S:Nat→Prop}{w:World}{x:St}{av uv kv:Value}(m:RE S w x av uv kv)(ok:Ok x)(ou:OkU x)(hw:waitsV x=true):Calls Tryz.prog 78 #[agE x av uv kv] w (EPart S w ((againV x).1,[(againV x).2]) av uv kv):=by
 by_cases h4:x.at_=4
 ·by_cases hp:0<min 64 (x.win.m - x.win.a)
  ·rw [againV_data x h4 _ rfl hp]
   exact eagain_data m ok ou h4 hp
  ·cases hf:x.fin
   ·obtain⟨z1,z2⟩:=again_probe ok hw h4 hp hf
    rw [againV_probe x h4 _ rfl hp hf]
    exact eagain_probe m ok ou h4 hp hf z1 z2
   ·rw [againV_fin x h4 _ rfl hp hf]
    exact eagain_fin m ok ou h4 hp hf
 ·rw [againV_beg x h4]
  exact eagain_beg m ok ou h4
end Go.Proofs.YtmgdbbbdhkfdmaaGreat
