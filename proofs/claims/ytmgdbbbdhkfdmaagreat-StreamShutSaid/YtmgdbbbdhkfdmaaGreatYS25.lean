import Derived.Test.YtmgdbbbdhkfdmaaGreatYS24
import Derived.Test.YtmgdbbbdhkfdmaaGreatYS23
import Derived.Deep.DeepCutAuto
set_option linter.unusedSimpArgs false
set_option linter.unusedVariables false
namespace Go.Proofs.YtmgdbbbdhkfdmaaGreat
set_option maxRecDepth 100000
open Go.RowKit Go.Deep
theorem dueW_fr(c:Rto.Ck)(w:World):Fr [] w (Rto.dueW c w):=by
 unfold Rto.dueW
 split
 ·exact ((Fr.refl [] w).alloc _).alloc _
 ·exact (Fr.refl [] w).alloc _
theorem again_num(x:St):(againV x).1.all=x.all∧(againV x).1.unread=x.unread∧(againV x).1.heap=x.heap:=by
 unfold againV
 (repeat' split) <;> exact⟨rfl,rfl,rfl⟩
theorem rests_num(x:St):(restsV x).all=x.all∧(restsV x).unread=x.unread∧(restsV x).heap=x.heap:=by
 unfold restsV
 (repeat' split) <;> exact⟨rfl,rfl,rfl⟩
set_option maxHeartbeats 16000000 in
theorem etick{S:Nat→Prop}{w:World}{x:St}{av uv kv:Value}(m:RE S w x av uv kv)(ok:Ok x)(ou:OkU x)(rs:Rest x)(hn:x.now+1≤1000000):Calls Tryz.prog 35 #[agE x av uv kv] w (EPart S w (tickV x) av uv kv):=by
 have o1:=m.cells1
 have v0:=tickV_not x
 have v1:=tickV_more x
 have v2:=tickV_end x
 have lo:=late_ok ok hn
 have n0:=ok.s.n0
 have hq1:IntKind.i64.wrap (x.now+1)=x.now+1:=IntWalk.i64_in _ (by omega)
 have hdu:∀ W,Calls Tryz.prog 76 #[Rto.agC x.clk, .int .i64 (x.now+1)] W fun e w'=>e = .returned (.bool (Rto.dueV x.clk (x.now+1)))∧Fr [] W w':=fun W=>(Rto.rdue x.clk (x.now+1) W ok.s.hc).mono fun _ _ h=>⟨h.1,by rw [← h.2];exact dueW_fr _ _⟩
 have hla:=fun W=>Rto.rlate x.clk (x.now+1) W ok.s.hc
 have hwt:Rto.dueV x.clk (x.now+1)=true→∀ y:St,y.at_=x.at_→y.win=x.win→y.fin=x.fin→y.acked=x.acked→y.all=x.all→waitsV y=true:=fun hd y h1 h2 h3 h4 h5=>by
  have:waitsV y=waitsV x:=by unfold waitsV;rw [h1,h2,h3,h4,h5]
  rw [this]
  exact rs.symm.trans (due_rn hd)
 generalize tickV x=r at *
 generalize Rto.lateV x.clk (x.now+1)=la at *
 obtain⟨⟨f1,l1,m1,t1,is1,tm1,sp1,wt1,si1,tr1,rn1⟩,more,er1⟩:=la
 dsimp only at v1 v2 lo hla
 have hag:=fun (hd:Rto.dueV x.clk (x.now+1)=true) W (g:Fr [] w W)=>eagain ((m.to_ (y:={ x with now:=x.now+1,clk:=⟨f1,l1,m1,t1,is1,tm1,sp1,wt1,si1,tr1,rn1⟩,timed:=0 }) rfl rfl rfl).fr g) lo.2 ⟨ou.i0,ou.i1,ou.p0,ou.p1⟩ (hwt hd { x with now:=x.now+1,clk:=⟨f1,l1,m1,t1,is1,tm1,sp1,wt1,si1,tr1,rn1⟩,timed:=0 } rfl rfl rfl rfl rfl)
 have oka:=fun (hd:Rto.dueV x.clk (x.now+1)=true)=>Ok.again lo.2 (hwt hd { x with now:=x.now+1,clk:=⟨f1,l1,m1,t1,is1,tm1,sp1,wt1,si1,tr1,rn1⟩,timed:=0 } rfl rfl rfl rfl rfl)
 have han:=again_num { x with now:=x.now+1,clk:=⟨f1,l1,m1,t1,is1,tm1,sp1,wt1,si1,tr1,rn1⟩,timed:=0 }
 generalize againV { x with now:=x.now+1,clk:=⟨f1,l1,m1,t1,is1,tm1,sp1,wt1,si1,tr1,rn1⟩,timed:=0 }=ag at *
 obtain⟨z,q⟩:=ag
 dsimp only at v1 hag oka han
 have hrz:=fun (hd:Rto.dueV x.clk (x.now+1)=true) W (g:Fr [] w W)=>erests ((m.to_ (y:=z) han.1 han.2.1 han.2.2).fr g) (oka hd).s.hc
 have hrd:=fun W (g:Fr [] w W)=>erests ((m.to_ (y:={ x with now:=x.now+1,clk:=⟨f1,l1,m1,t1,is1,tm1,sp1,wt1,si1,tr1,rn1⟩,at_:=5,broken:=true }) rfl rfl rfl).fr g) lo.1.s.hc
 have hdn:doneV { x with now:=x.now+1,clk:=⟨f1,l1,m1,t1,is1,tm1,sp1,wt1,si1,tr1,rn1⟩ } true={ x with now:=x.now+1,clk:=⟨f1,l1,m1,t1,is1,tm1,sp1,wt1,si1,tr1,rn1⟩,at_:=5,broken:=true }:=rfl
 rw [hdn] at v2
 generalize restsV z=rz at *
 generalize restsV { x with now:=x.now+1,clk:=⟨f1,l1,m1,t1,is1,tm1,sp1,wt1,si1,tr1,rn1⟩,at_:=5,broken:=true }=rd at *
 generalize hdd:Rto.dueV x.clk (x.now+1)=due at *
 have L0:=hI (Lo.start w (arE x av uv kv))
 have M:=hI m
 have NSR:Hid (¬ S (w.heap.size+1)):=hI (fun hs=>by have:=m.pub _ hs;omega)
 have V0:=hI v0
 have V1:=hI v1
 have V2:=hI v2
 have HDU:=hI hdu
 have HLA:=hI hla
 have HAG:=hI hag
 have HRZ:=hI hrz
 have HRD:=hI hrd
 clear m ok ou rs hn v0 v1 v2 lo n0 hdu hla hwt hag oka han hrz hrd hdn hdd
 go_enter Tryz.func35,Tryz.ntmps35
 go_upto_region 1 with fail
 generalize (w.alloc (.cells (arE x av uv kv) 41)).alloc (.cells endZ 41)=w1 at *
 have L1:Hid (∀ W,Fr [] w1 W→Lo w W w.heap.size (w.heap.size+1) (arE x av uv kv)):=hI (fun W f=>L0.out.grow f)
 clear L0
 have c29:w1.cell? ⟨w.heap.size,29,none⟩=some (.int .i64 x.now):=(L1.out _ (Fr.refl [] w1)).s.cell 29
 have z29:=(L1.out _ (Fr.refl [] w1)).s.frozen 29
 have hlb:=(L1.out _ (Fr.refl [] w1)).s.lt
 go_upto_region 2 with fail
 have hset:Lo w (w1.setCell ⟨w.heap.size,29,none⟩ (.int .i64 (x.now+1))) w.heap.size (w.heap.size+1) (arE { x with now:=x.now+1 } av uv kv):=by
  have hh:=((L1.out _ (Fr.refl [] w1)).cell 29 (.int .i64 (x.now+1)))
  simp only [arE,zqA,zqB,zqC] at hh ⊢
  exact hh
 generalize w1.setCell ⟨w.heap.size,29,none⟩ (.int .i64 (x.now+1))=w2 at *
 have L2:Hid (∀ W,Fr [] w2 W→Lo w W w.heap.size (w.heap.size+1) (arE { x with now:=x.now+1 } av uv kv)):=hI (fun W f=>hset.grow f)
 clear hset
 clear c29 z29 hlb hq1 L1
 have c29:w2.cell? ⟨w.heap.size,29,none⟩=some (.int .i64 (x.now+1)):=(L2.out _ (Fr.refl [] w2)).s.cell 29
 rcases Bool.eq_false_or_eq_true due with rfl|rfl
 ·go_upto_region 4 with (first
   | ((with_reducible refine gate_load 36 (.tmp 13) ?_);refine wpList_load_in rfl 36 (.tmp 13) rfl w.heap.size 10 41 (arE { x with now:=x.now+1 } av uv kv) (arC x.clk) _ rfl (L2.out _ (by first|exact Fr.refl _ _|assumption)).s rfl Tryz.underlying36 rfl (by kernel_rfl) ?_)
   | (go_at_call 76;refine (HDU.out _).mono ?_;rintro e wd ⟨rfl,fd⟩))
  have L3:Hid (∀ W,Fr [] wd W→Lo w W w.heap.size (w.heap.size+1) (arE { x with now:=x.now+1 } av uv kv)):=hI (fun W f=>(L2.out _ fd).grow f)
  clear c29 L2 fd
  have c29:wd.cell? ⟨w.heap.size,29,none⟩=some (.int .i64 (x.now+1)):=(L3.out _ (Fr.refl [] wd)).s.cell 29
  go_upto_region 5 with (first
   | ((with_reducible refine gate_load 36 (.tmp 21) ?_);refine wpList_load_in rfl 36 (.tmp 21) rfl w.heap.size 10 41 (arE { x with now:=x.now+1 } av uv kv) (arC x.clk) _ rfl (L3.out _ (by first|exact Fr.refl _ _|assumption)).s rfl Tryz.underlying36 rfl (by kernel_rfl) ?_)
   | (go_at_call 77;refine (HLA.out _).mono ?_;rintro e we ⟨rfl,fe⟩)
   | ((with_reducible refine gate_store 36 (.tmp 4) ?_);refine wpList_store_blk rfl 36 (.tmp 4) (.tmp 26) rfl we.heap.size 36 ckZ #[.int .i64 f1, .int .i64 l1, .int .i64 m1, .int .i64 t1, .bool is1, .int .i64 tm1, .int .i64 sp1, .int .i64 wt1, .int .i64 si1, .int .i64 tr1, .bool rn1] rfl rfl (Blk.new we 36 ckZ) rfl (by kernel_rfl) (by first|exact o1.out _|exact o2.out _|simp [Value.oneCell']) ?_;intro w4 B4 F4))
  have le:=L3.out _ fe
  have l4:Lo w w4 w.heap.size (w.heap.size+1) (arE { x with now:=x.now+1 } av uv kv):=(le.grow ((Fr.refl [] we).alloc (.cells ckZ 36))).far F4 (by have:=le.f.size;omega) (by have:=le.s.lt;omega) (by have:=le.r.lt;omega)
  generalize we.heap.size=bc at *
  have L4:=hI l4
  have V4:=hI B4
  clear le l4 B4 F4 fe c29 L3
  go_upto_region 6 with (first
   | ((with_reducible refine gate_load 36 (.tmp 4) ?_);refine wpList_load_blk rfl 36 (.tmp 4) rfl bc 36 #[.int .i64 f1, .int .i64 l1, .int .i64 m1, .int .i64 t1, .bool is1, .int .i64 tm1, .int .i64 sp1, .int .i64 wt1, .int .i64 si1, .int .i64 tr1, .bool rn1] _ rfl V4.out Tryz.underlying36 rfl (by kernel_rfl) ?_)
   | ((with_reducible refine gate_store 36 (.tmp 30) ?_);refine wpList_store_in rfl 36 (.tmp 30) (.tmp 29) rfl w.heap.size 10 41 (arE { x with now:=x.now+1 } av uv kv) #[.int .i64 f1, .int .i64 l1, .int .i64 m1, .int .i64 t1, .bool is1, .int .i64 tm1, .int .i64 sp1, .int .i64 wt1, .int .i64 si1, .int .i64 tr1, .bool rn1] (arE { x with now:=x.now+1,clk:=⟨f1,l1,m1,t1,is1,tm1,sp1,wt1,si1,tr1,rn1⟩ } av uv kv) rfl rfl L4.out.s (by simp) (by kernel_rfl) (by first|exact o1.out _|exact o2.out _|simp [Value.oneCell']) (clk_in _ _ _ _ ⟨f1,l1,m1,t1,is1,tm1,sp1,wt1,si1,tr1,rn1⟩) ?_;intro w5 B5 F5))
  have L5:Hid (∀ W,Fr [] w5 W→Lo w W w.heap.size (w.heap.size+1) (arE { x with now:=x.now+1,clk:=⟨f1,l1,m1,t1,is1,tm1,sp1,wt1,si1,tr1,rn1⟩ } av uv kv)):=hI (fun W f=>(L4.out.set F5 B5).grow f)
  clear B5 F5 L4 V4
  rcases Bool.eq_false_or_eq_true more with rfl|rfl
  ·go_upto_region 9 with fail
   have c31:w5.cell? ⟨w.heap.size,31,none⟩=some (.int .i64 x.timed):=(L5.out _ (Fr.refl [] w5)).s.cell 31
   have z31:=(L5.out _ (Fr.refl [] w5)).s.frozen 31
   have hlb:=(L5.out _ (Fr.refl [] w5)).s.lt
   go_upto_region 10 with fail
   have hset:Lo w (w5.setCell ⟨w.heap.size,31,none⟩ (.int .i64 0)) w.heap.size (w.heap.size+1) (arE { x with now:=x.now+1,clk:=⟨f1,l1,m1,t1,is1,tm1,sp1,wt1,si1,tr1,rn1⟩,timed:=0 } av uv kv):=by
    have hh:=((L5.out _ (Fr.refl [] w5)).cell 31 (.int .i64 0))
    simp only [arE,zqA,zqB,zqC] at hh ⊢
    exact hh
   generalize w5.setCell ⟨w.heap.size,31,none⟩ (.int .i64 0)=w6 at *
   have L6:Hid (∀ W,Fr [] w6 W→Lo w W w.heap.size (w.heap.size+1) (arE { x with now:=x.now+1,clk:=⟨f1,l1,m1,t1,is1,tm1,sp1,wt1,si1,tr1,rn1⟩,timed:=0 } av uv kv)):=hI (fun W f=>hset.grow f)
   clear hset
   clear c31 z31 hlb L5
   go_upto_region 11 with (first
      | ((with_reducible refine gate_load 41 (.tmp 1) ?_);refine wpList_load_blk rfl 41 (.tmp 1) rfl w.heap.size 41 (arE { x with now:=x.now+1,clk:=⟨f1,l1,m1,t1,is1,tm1,sp1,wt1,si1,tr1,rn1⟩,timed:=0 } av uv kv) _ rfl (L6.out _ (by first|exact Fr.refl _ _|assumption)).s Tryz.underlying41 rfl (by kernel_rfl) ?_)
      | (go_at_call 78;refine (HAG.out (by trivial) _ (L6.out _ (Fr.refl _ _)).f).mono ?_;rintro e w7 ⟨v7,Lq,rfl,hLq,p7,f7⟩)
      | ((with_reducible refine gate_store 41 (.tmp 7) ?_);refine wpList_store_blk rfl 41 (.tmp 7) (.tmp 41) rfl w7.heap.size 41 endZ (arE z av uv kv) rfl rfl (Blk.new w7 41 endZ) rfl (by kernel_rfl) (by first|exact o1.out _|exact o2.out _|simp [Value.oneCell']) ?_;intro w9 B9 F9))
   have fa7:Fr [] w7 (w7.alloc (.cells endZ 41)):=(Fr.refl [] w7).alloc _
   have l7:=L6.out _ f7
   have nsb:¬ S w7.heap.size:=fun hs=>by have h1:=M.out.pub _ hs;have h2:=l7.f.size;omega
   have nob:∀ b∈ob v7,b≠w7.heap.size:=fun b hb=>by have:=own_lt p7.own (mem_ob.1 hb);omega
   have NOB:Hid (∀ b∈ob v7,b≠w.heap.size+1):=hI (fun b hb=>by rintro rfl;exact own_ne p7.own l7.r (by decide) (mem_ob.1 hb))
   have l9:=(l7.grow fa7).far F9 (by have:=l7.f.size;omega) (by have:=l7.s.lt;omega) (by have:=l7.r.lt;omega)
   have L9:Hid (∀ W,Fr [] w9 W→Lo w W w.heap.size (w.heap.size+1) (arE { x with now:=x.now+1,clk:=⟨f1,l1,m1,t1,is1,tm1,sp1,wt1,si1,tr1,rn1⟩,timed:=0 } av uv kv)):=hI (fun W f=>l9.grow f)
   have P9:=hI ((p7.fr fa7 (by simp) (by simp) (fun _ h=>h)).fr F9 (fun z hz hs=>by simp at hz;subst hz;exact nsb hs) (fun b hb hm=>by simp at hm;exact nob b hb hm) (fun _ h=>h))
   have V9:Hid (∀ W,Fr [] w9 W→Blk W w7.heap.size 41 (arE z av uv kv)):=hI (fun W f=>B9.fr f (by simp))
   have HLq:=hI hLq
   obtain⟨A7,c7,rfl,_,_⟩:=own_form p7.own
   generalize w7.heap.size=b9 at *
   clear fa7 l7 nsb nob l9 p7 f7 B9 F9 L6 hLq
   have HRE:Hid (∀ W,Fr [] w W→Calls Tryz.prog 27 #[agE z av uv kv] W fun e w'=>e = .returned (agE rz av uv kv)∧Fr [] W w'):=hI (HRZ.out (by trivial))
   go_cut [3] (fun sa wx=>sa=(.slice A7 Lq.length c7)∧Blk wx (w.heap.size+1) 41 (arE rz av uv kv)∧Fr [] w wx∧Pr S wx (.slice A7 Lq.length c7) Lq)
   case first=>
    go_wp2_with (first
      | ((with_reducible refine gate_load 41 (.tmp 7) ?_);refine wpList_load_blk rfl 41 (.tmp 7) rfl b9 41 (arE z av uv kv) _ rfl (V9.out _ (by first|exact Fr.refl _ _|assumption)) Tryz.underlying41 rfl (by kernel_rfl) ?_)
      | (go_at_call 27;refine (HRE.out _ (L9.out _ (Fr.refl _ _)).f).mono ?_;rintro e w6 ⟨rfl,f6⟩)
      | ((with_reducible refine gate_store 41 (.tmp 2) ?_);refine wpList_store_blk rfl 41 (.tmp 2) (.tmp 44) rfl (w.heap.size+1) 41 endZ (arE rz av uv kv) rfl rfl (L9.out _ f6).r rfl (by kernel_rfl) (by first|exact o1.out _|exact o2.out _|simp [Value.oneCell']) ?_;intro w8 B8 F8))
    go_meet
    exact⟨rfl,B8,(L9.out _ f6).res F8,(P9.out.fr f6 (by simp) (by simp) (fun _ h=>h)).fr F8 (fun z hz hs=>by simp at hz;subst hz;exact NSR.out hs) (fun b hb hm=>by simp at hm;exact NOB.out b hb hm) (fun _ h=>h)⟩
   case rest=>
    obtain⟨rfl,Bz,Fz,Pz⟩:=hcut
    refine ‹∀(a:Act) (w:World),Code.wp Tryz.prog Code.ret _ a w→_› _ _ (wp_ret ?_)
    try simp only [Exit.then]
    change bodyPost Tryz.prog _ _ .ret _ _
    refine bodyPost_ret (results_ct 2 41 ⟨w.heap.size+1,0,none⟩ _ 3 (.slice A7 Lq.length c7) (by rfl) (by rfl) (end_load Bz) (by rfl)) (by rfl) ?_
    rw [V1.out (by trivial) (by trivial)]
    exact⟨_,Lq,rfl,HLq.out,Pz,Fz⟩
  ·go_upto_region 7 with fail
   have c2:w5.cell? ⟨w.heap.size,2,none⟩=some (.int .i64 x.at_):=(L5.out _ (Fr.refl [] w5)).s.cell 2
   have z2:=(L5.out _ (Fr.refl [] w5)).s.frozen 2
   have c3:w5.cell? ⟨w.heap.size,3,none⟩=some (.bool x.broken):=(L5.out _ (Fr.refl [] w5)).s.cell 3
   have z3:=(L5.out _ (Fr.refl [] w5)).s.frozen 3
   have hlb:=(L5.out _ (Fr.refl [] w5)).s.lt
   go_upto_region 8 with fail
   have hset:Lo w ((w5.setCell ⟨w.heap.size,2,none⟩ (.int .i64 5)).setCell ⟨w.heap.size,3,none⟩ (.bool true)) w.heap.size (w.heap.size+1) (arE { x with now:=x.now+1,clk:=⟨f1,l1,m1,t1,is1,tm1,sp1,wt1,si1,tr1,rn1⟩,at_:=5,broken:=true } av uv kv):=by
    have hh:=(((L5.out _ (Fr.refl [] w5)).cell 2 (.int .i64 5)).cell 3 (.bool true))
    simp only [arE,zqA,zqB,zqC] at hh ⊢
    exact hh
   generalize (w5.setCell ⟨w.heap.size,2,none⟩ (.int .i64 5)).setCell ⟨w.heap.size,3,none⟩ (.bool true)=w6 at *
   have L6:Hid (∀ W,Fr [] w6 W→Lo w W w.heap.size (w.heap.size+1) (arE { x with now:=x.now+1,clk:=⟨f1,l1,m1,t1,is1,tm1,sp1,wt1,si1,tr1,rn1⟩,at_:=5,broken:=true } av uv kv)):=hI (fun W f=>hset.grow f)
   clear hset
   clear c2 z2 c3 z3 hlb L5
   have HRE:=HRD
   go_cut [3] (fun sa wx=>sa=(.slice none 0 0)∧Blk wx (w.heap.size+1) 41 (arE rd av uv kv)∧Fr [] w wx∧Pr S wx (.slice none 0 0) ([]:List (Prt × Value)))
   case first=>
    go_wp2_with (first
      | ((with_reducible refine gate_load 41 (.tmp 1) ?_);refine wpList_load_blk rfl 41 (.tmp 1) rfl w.heap.size 41 (arE { x with now:=x.now+1,clk:=⟨f1,l1,m1,t1,is1,tm1,sp1,wt1,si1,tr1,rn1⟩,at_:=5,broken:=true } av uv kv) _ rfl (L6.out _ (by first|exact Fr.refl _ _|assumption)).s Tryz.underlying41 rfl (by kernel_rfl) ?_)
      | (go_at_call 27;refine (HRE.out _ (L6.out _ (Fr.refl _ _)).f).mono ?_;rintro e w6 ⟨rfl,f6⟩)
      | ((with_reducible refine gate_store 41 (.tmp 2) ?_);refine wpList_store_blk rfl 41 (.tmp 2) (.tmp 36) rfl (w.heap.size+1) 41 endZ (arE rd av uv kv) rfl rfl (L6.out _ f6).r rfl (by kernel_rfl) (by first|exact o1.out _|exact o2.out _|simp [Value.oneCell']) ?_;intro w8 B8 F8))
    go_meet
    exact⟨rfl,B8,(L6.out _ f6).res F8,(Pr.nil.fr f6 (by simp) (by simp) (fun _ h=>h)).fr F8 (fun z hz hs=>by simp at hz;subst hz;exact NSR.out hs) (fun b hb hm=>by simp at hm;simp [ob,Value.ownBlock] at hb) (fun _ h=>h)⟩
   case rest=>
    obtain⟨rfl,Bz,Fz,Pz⟩:=hcut
    refine ‹∀(a:Act) (w:World),Code.wp Tryz.prog Code.ret _ a w→_› _ _ (wp_ret ?_)
    try simp only [Exit.then]
    change bodyPost Tryz.prog _ _ .ret _ _
    refine bodyPost_ret (results_ct 2 41 ⟨w.heap.size+1,0,none⟩ _ 3 (.slice none 0 0) (by rfl) (by rfl) (end_load Bz) (by rfl)) (by rfl) ?_
    rw [V2.out (by trivial) (by trivial)]
    exact⟨_,[],rfl,rfl,Pz,Fz⟩
 ·go_upto_region 3 with (first
   | ((with_reducible refine gate_load 36 (.tmp 13) ?_);refine wpList_load_in rfl 36 (.tmp 13) rfl w.heap.size 10 41 (arE { x with now:=x.now+1 } av uv kv) (arC x.clk) _ rfl (L2.out _ (by first|exact Fr.refl _ _|assumption)).s rfl Tryz.underlying36 rfl (by kernel_rfl) ?_)
   | (go_at_call 76;refine (HDU.out _).mono ?_;rintro e wd ⟨rfl,fd⟩))
  have L3:Hid (∀ W,Fr [] wd W→Lo w W w.heap.size (w.heap.size+1) (arE { x with now:=x.now+1 } av uv kv)):=hI (fun W f=>(L2.out _ fd).grow f)
  clear c29 L2 fd
  try dsimp only [Act.put]
  go_cut [3] (fun sl wx=>sl = .slice none 0 0∧Blk wx (w.heap.size+1) 41 (arE { x with now:=x.now+1 } av uv kv)∧Fr [(w.heap.size+1)] wd wx)
  case first=>
   go_wp2_with (first
     | ((with_reducible refine gate_load 41 (.tmp 1) ?_);refine wpList_load_blk rfl 41 (.tmp 1) rfl w.heap.size 41 (arE { x with now:=x.now+1 } av uv kv) _ rfl (L3.out _ (by first|exact Fr.refl _ _|assumption)).s Tryz.underlying41 rfl (by kernel_rfl) ?_)
     | ((with_reducible refine gate_store 41 (.tmp 2) ?_);refine wpList_store_blk rfl 41 (.tmp 2) (.tmp 19) rfl (w.heap.size+1) 41 endZ (arE { x with now:=x.now+1 } av uv kv) rfl rfl (L3.out _ (by first|exact Fr.refl _ _|assumption)).r rfl (by kernel_rfl) (by first|exact o1.out _|exact o2.out _|simp [Value.oneCell']) ?_;intro wz Bz Fz))
   go_meet
   exact⟨rfl,Bz,Fz⟩
  case rest=>
   obtain⟨rfl,Bz,Fz⟩:=hcut
   have FW:=(L3.out _ (Fr.refl [] wd)).res Fz
   refine ‹∀(a:Act) (w:World),Code.wp Tryz.prog Code.ret _ a w→_› _ _ (wp_ret ?_)
   try simp only [Exit.then]
   change bodyPost Tryz.prog _ _ .ret _ _
   refine bodyPost_ret (results_ct 2 41 ⟨(w.heap.size+1),0,none⟩ _ 3 (.slice none 0 0) (by rfl) (by rfl) (end_load Bz) (by rfl)) (by rfl) ?_
   rw [V0.out (by trivial)]
   exact⟨_,[],rfl,rfl,Pr.nil,FW⟩
theorem form_load{w:World}{b:Nat}{x:St}(B:Blk w b 56 (stA x)):(loadVar 56 ⟨b,0,none⟩).run Tryz.prog w = .ok (.agg (stA x)) w:=blk_load 56 b 56 _ _ B Tryz.underlying56 rfl (by kernel_rfl)
section
variable {P:Program} {ops:Array Oper} {rest:List Oper} {op:Oper} {a:Act} {w:World} {Q:Exit→Act→World→Prop}
end
set_option maxHeartbeats 8000000 in
theorem estate{S:Nat→Prop}{w:World}{x:St}{av uv kv:Value}(m:RE S w x av uv kv):Calls Tryz.prog 14 #[agE x av uv kv] w fun e w'=>e = .returned (.agg (stA x))∧Fr [] w w':=by
 obtain⟨⟨aA,ac,rfl,_,_⟩,⟨uA,uc,rfl,_,_⟩,_⟩:=m.forms
 have f0:Fr [] w ((w.alloc (.cells (arE x (.slice aA x.all.length ac) (.slice uA x.unread.length uc) kv) 41)).alloc (.cells formZ 56)):=((Fr.refl [] w).alloc _).alloc _
 have b0:Blk ((w.alloc (.cells (arE x (.slice aA x.all.length ac) (.slice uA x.unread.length uc) kv) 41)).alloc (.cells formZ 56)) w.heap.size 41 (arE x (.slice aA x.all.length ac) (.slice uA x.unread.length uc) kv):=(Blk.new w 41 _).fr ((Fr.refl [] _).alloc _) (by simp)
 have b1:=Blk.new (w.alloc (.cells (arE x (.slice aA x.all.length ac) (.slice uA x.unread.length uc) kv) 41)) 56 formZ
 rw [World.size_alloc] at b1
 clear m
 go_enter Tryz.func14,Tryz.ntmps14
 go_upto_region 1 with fail
 generalize (w.alloc (.cells (arE x (.slice aA x.all.length ac) (.slice uA x.unread.length uc) kv) 41)).alloc (.cells formZ 56)=w1 at *
 have c:=ecells b0
 have c2:=c.c2
 have c3:=c.c3
 have c1:=c.c1
 have c4:=c.c4
 have c5:=c.c5
 have c22:=c.c22
 have c17:=c.c17
 have c25:=c.c25
 have c28:=c.c28
 have B0:=hI b0
 have B1:=hI b1
 clear c b0 b1
 go_wp2_with (first
   | ((with_reducible refine gate_load 32 (.tmp 9) ?_);refine wpList_load_in rfl 32 (.tmp 9) rfl w.heap.size 6 41 (arE x (.slice aA x.all.length ac) (.slice uA x.unread.length uc) kv) (arW x.win) _ rfl B0.out rfl Tryz.underlying32 rfl (by kernel_rfl) ?_)
   | ((with_reducible refine gate_store 56 (.tmp 2) ?_);refine wpList_store_blk rfl 56 (.tmp 2) (.tmp 27) rfl (w.heap.size+1) 56 formZ (stA x) rfl rfl B1.out rfl (by kernel_rfl) (by simp [Value.oneCell']) ?_;intro w3 B3 F3))
 refine bodyPost_ret (results_c 2 56 ⟨w.heap.size+1,0,none⟩ _ (by rfl) (by rfl) (form_load B3)) (by rfl) ?_
 exact⟨rfl,f0.trans F3 (fun y hy=>by simp at hy;subst hy;exact .inr (Nat.le_succ _))⟩
theorem newS_re(S:Nat→Prop)(w:World)(hp:∀ b,S b→b<w.heap.size)(isn a:Int):RE S w (newS isn a) (.slice none 0 0) (.slice none 0 0) (.slice none 0 0):=
 ⟨Byt.nil,Byt.nil,[],⟨⟨World.ownsRow_nil _ 0 162 2,by simp⟩,rfl,by simp [Value.ownBlock],hp⟩⟩
set_option maxHeartbeats 16000000 in
theorem enew(S:Nat→Prop)(isn:Int)(i0:0≤isn)(i1:isn<4294967296)(calls:Bool)(w:World)(hp:∀ b,S b→b<w.heap.size):Calls Tryz.prog 9 #[.int .u32 isn, .bool calls] w (EL S w (newSV isn calls)):=by
 have hv:newSV isn calls=if calls then (restsV (shows (newS isn 2)),[beginsV (newS isn 2)]) else (newS isn 1,[]):=rfl
 have hrc:=fun W=>Rto.rnew 2 1 32 8 W
 have hrh:=fun W=>rnew 8 W
 have ok2:=(Ok.new isn 2 (by decide) (by decide)).s
 have okc:=(Ok.new isn 2 (by decide) (by decide)).shows.s.hc
 have hb:=fun W (f:Fr [] w W)=>ebegins (newS_re S W (fun b h=>Nat.lt_of_lt_of_le (hp b h) f.size) isn 2) ok2 ⟨i0,i1,by show (0:Int)≤0;decide,by show (0:Int)<4294967296;decide⟩
 have hr:=fun W (f:Fr [] w W)=>erests (x:=shows (newS isn 2)) ((newS_re S W (fun b h=>Nat.lt_of_lt_of_le (hp b h) f.size) isn 2).to_ rfl rfl rfl) okc
 have mrz:∀ W,Fr [] w W→RE S W (restsV (shows (newS isn 2))) (.slice none 0 0) (.slice none 0 0) (.slice none 0 0):=fun W f=>(newS_re S W (fun b h=>Nat.lt_of_lt_of_le (hp b h) f.size) isn 2).to_ (rests_num _).1 (rests_num _).2.1 (rests_num _).2.2
 have m1:∀ W,Fr [] w W→RE S W (newS isn 1) (.slice none 0 0) (.slice none 0 0) (.slice none 0 0):=fun W f=>newS_re S W (fun b h=>Nat.lt_of_lt_of_le (hp b h) f.size) isn 1
 clear ok2 okc
 generalize hr2:restsV (shows (newS isn 2))=rz at *
 have HV:=hI hv
 have HRC:=hI hrc
 have HRH:=hI hrh
 have HB:=hI hb
 have HR:=hI hr
 have MRZ:=hI mrz
 have M1:=hI m1
 have NSR:Hid (∀ b,w.heap.size≤b→¬ S b):=hI (fun b h hs=>by have:=hp b hs;omega)
 have br0:Blk (w.alloc (.cells endZ 41)) w.heap.size 41 endZ:=Blk.new w _ _
 have f0:Fr [] w (w.alloc (.cells endZ 41)):=(Fr.refl [] w).alloc _
 clear hv hrc hrh hb hr mrz m1 hp hr2
 generalize newSV isn calls=r at *
 go_enter Tryz.func9,Tryz.ntmps9
 go_upto_region 1 with fail
 generalize w.alloc (.cells endZ 41)=w1 at *
 have BR0:=hI br0
 have F0:=hI f0
 clear br0 f0
 go_upto_region 2 with (first
   | (go_at_call 24;refine (HRC.out _).mono ?_;rintro e wa ⟨rfl,fa⟩)
   | (go_at_call 25;refine (HRH.out _).mono ?_;rintro e wb ⟨rfl,fb⟩)
   | ((with_reducible refine gate_store 41 (.tmp 6) ?_);refine wpList_store_blk rfl 41 (.tmp 6) (.tmp 13) rfl wb.heap.size 41 endZ (arE (newS isn 1) (.slice none 0 0) (.slice none 0 0) (.slice none 0 0)) rfl rfl (Blk.new wb 41 endZ) rfl (by kernel_rfl) (by simp [Value.oneCell']) ?_;intro w3 B3 F3))
 have f1:Fr [] w1 wb:=fa.trans fb (by simp)
 have hz:=BR0.out.lt
 have hz2:=f1.size
 have fx:Fr [] w w3:=((F0.out.trans f1 (by simp)).alloc (.cells endZ 41)).trans F3 (fun y hy => .inr (by simp at hy;have:=F0.out.size;omega))
 have br3:Blk w3 w.heap.size 41 endZ:=((BR0.out.fr f1 (by simp)).fr ((Fr.refl [] wb).alloc (.cells endZ 41)) (by simp)).fr F3 (by simp;omega)
 have l3:Lo w w3 wb.heap.size w.heap.size (arE (newS isn 1) (.slice none 0 0) (.slice none 0 0) (.slice none 0 0)):=⟨fx,B3,br3,by omega,Nat.le_refl _,by omega⟩
 generalize wb.heap.size=b6 at *
 have L3:Hid (∀ W,Fr [] w3 W→Lo w W b6 w.heap.size (arE (newS isn 1) (.slice none 0 0) (.slice none 0 0) (.slice none 0 0))):=hI (fun W f=>l3.grow f)
 clear f1 hz hz2 fx br3 l3 fa fb B3 F3
 cases calls
 ·go_upto_region 3 with fail
  go_cut [5] (fun sa wx=>sa = .slice none 0 0∧Blk wx w.heap.size 41 (arE (newS isn 1) (.slice none 0 0) (.slice none 0 0) (.slice none 0 0))∧Fr [] w wx)
  case first=>
   go_wp2_with (first
   | ((with_reducible refine gate_load 41 (.tmp 6) ?_);refine wpList_load_blk rfl 41 (.tmp 6) rfl b6 41 (arE (newS isn 1) (.slice none 0 0) (.slice none 0 0) (.slice none 0 0)) _ rfl (L3.out _ (by first|exact Fr.refl _ _|assumption)).s Tryz.underlying41 rfl (by kernel_rfl) ?_)
   | ((with_reducible refine gate_store 41 (.tmp 4) ?_);refine wpList_store_blk rfl 41 (.tmp 4) (.tmp 16) rfl w.heap.size 41 endZ (arE (newS isn 1) (.slice none 0 0) (.slice none 0 0) (.slice none 0 0)) rfl rfl (L3.out _ (by first|exact Fr.refl _ _|assumption)).r rfl (by kernel_rfl) (by simp [Value.oneCell']) ?_;intro wz Bz Fz))
   go_meet
   exact⟨rfl,Bz,(L3.out _ (Fr.refl _ _)).res Fz⟩
  case rest=>
   obtain⟨rfl,Bz,Fz⟩:=hcut
   refine ‹∀(a:Act) (w:World),Code.wp Tryz.prog Code.ret _ a w→_› _ _ (wp_ret ?_)
   try simp only [Exit.then]
   change bodyPost Tryz.prog _ _ .ret _ _
   refine bodyPost_ret (results_ct 4 41 ⟨w.heap.size,0,none⟩ _ 5 (.slice none 0 0) (by rfl) (by rfl) (end_load Bz) (by rfl)) (by rfl) ?_
   rw [HV.out]
   exact⟨S,_,_,_,_,[],rfl,rfl,Ext.refl w S,M1.out _ Fz,Pr.nil,Fz⟩
 ·have c2:w3.cell? ⟨b6,2,none⟩=some (.int .i64 1):=(L3.out _ (Fr.refl [] w3)).s.cell 2
  have z2:=(L3.out _ (Fr.refl [] w3)).s.frozen 2
  have hlb:=(L3.out _ (Fr.refl [] w3)).s.lt
  go_upto_region 5 with fail
  have hset:Lo w (w3.setCell ⟨b6,2,none⟩ (.int .i64 2)) b6 w.heap.size (arE (newS isn 2) (.slice none 0 0) (.slice none 0 0) (.slice none 0 0)):=by
   have hh:=(L3.out _ (Fr.refl [] w3)).cell 2 (.int .i64 2)
   simp only [arE,zqA,zqB,zqC] at hh ⊢
   exact hh
  generalize w3.setCell ⟨b6,2,none⟩ (.int .i64 2)=w4 at *
  have L4:Hid (∀ W,Fr [] w4 W→Lo w W b6 w.heap.size (arE (newS isn 2) (.slice none 0 0) (.slice none 0 0) (.slice none 0 0))):=hI (fun W f=>hset.grow f)
  clear hset c2 z2 hlb L3
  go_upto_region 6 with (first
   | ((with_reducible refine gate_load 41 (.tmp 6) ?_);refine wpList_load_blk rfl 41 (.tmp 6) rfl b6 41 (arE (newS isn 2) (.slice none 0 0) (.slice none 0 0) (.slice none 0 0)) _ rfl (L4.out _ (by first|exact Fr.refl _ _|assumption)).s Tryz.underlying41 rfl (by kernel_rfl) ?_)
   | (go_at_call 26;refine (HB.out _ (L4.out _ (Fr.refl _ _)).f).mono ?_;rintro e w5 ⟨v5,L5,rfl,hL5,p5,f5⟩)
   | ((with_reducible refine gate_store 41 (.tmp 7) ?_);refine wpList_store_blk rfl 41 (.tmp 7) (.tmp 21) rfl w5.heap.size 41 endZ (arE (shows (newS isn 2)) (.slice none 0 0) (.slice none 0 0) (.slice none 0 0)) rfl rfl (Blk.new w5 41 endZ) rfl (by kernel_rfl) (by simp [Value.oneCell']) ?_;intro w6 B6 F6))
  have fa5:Fr [] w5 (w5.alloc (.cells endZ 41)):=(Fr.refl [] w5).alloc _
  have l5:=L4.out _ f5
  have nob:∀ b∈ob v5,b≠w5.heap.size:=fun b hb=>by have:=own_lt p5.own (mem_ob.1 hb);omega
  have NOB:Hid (∀ b∈ob v5,b≠w.heap.size):=hI (fun b hb=>by rintro rfl;exact own_ne p5.own l5.r (by decide) (mem_ob.1 hb))
  have l6:=(l5.grow fa5).far F6 (by have:=l5.f.size;omega) (by have:=l5.s.lt;omega) (by have:=l5.r.lt;omega)
  have L6:Hid (∀ W,Fr [] w6 W→Lo w W b6 w.heap.size (arE (newS isn 2) (.slice none 0 0) (.slice none 0 0) (.slice none 0 0))):=hI (fun W f=>l6.grow f)
  have P6:=hI ((p5.fr fa5 (by simp) (by simp) (fun _ h=>h)).fr F6 (fun z hz hs=>by simp at hz;subst hz;exact NSR.out _ l5.f.size hs) (fun b hb hm=>by simp at hm;exact nob b hb hm) (fun _ h=>h))
  have V6:Hid (∀ W,Fr [] w6 W→Blk W w5.heap.size 41 (arE (shows (newS isn 2)) (.slice none 0 0) (.slice none 0 0) (.slice none 0 0))):=hI (fun W f=>B6.fr f (by simp))
  have HL5:=hI hL5
  obtain⟨A5,c5,rfl,_,_⟩:=own_form p5.own
  generalize w5.heap.size=b7 at *
  clear fa5 l5 nob l6 p5 f5 B6 F6 hL5 L4
  go_cut [5] (fun sa wx=>sa = .slice A5 L5.length c5∧Blk wx w.heap.size 41 (arE rz (.slice none 0 0) (.slice none 0 0) (.slice none 0 0))∧Fr [] w wx∧Pr S wx (.slice A5 L5.length c5) L5)
  case first=>
   go_wp2_with (first
   | ((with_reducible refine gate_load 41 (.tmp 7) ?_);refine wpList_load_blk rfl 41 (.tmp 7) rfl b7 41 (arE (shows (newS isn 2)) (.slice none 0 0) (.slice none 0 0) (.slice none 0 0)) _ rfl (V6.out _ (by first|exact Fr.refl _ _|assumption)) Tryz.underlying41 rfl (by kernel_rfl) ?_)
   | (go_at_call 27;refine (HR.out _ (L6.out _ (Fr.refl _ _)).f).mono ?_;rintro e w7 ⟨rfl,f7⟩)
   | ((with_reducible refine gate_store 41 (.tmp 4) ?_);refine wpList_store_blk rfl 41 (.tmp 4) (.tmp 24) rfl w.heap.size 41 endZ (arE rz (.slice none 0 0) (.slice none 0 0) (.slice none 0 0)) rfl rfl (L6.out _ f7).r rfl (by kernel_rfl) (by simp [Value.oneCell']) ?_;intro w8 B8 F8))
   go_meet
   exact⟨rfl,B8,(L6.out _ f7).res F8,(P6.out.fr f7 (by simp) (by simp) (fun _ h=>h)).fr F8 (fun z hz hs=>by simp at hz;subst hz;exact NSR.out _ (Nat.le_refl _) hs) (fun b hb hm=>by simp at hm;exact NOB.out b hb hm) (fun _ h=>h)⟩
  case rest=>
   obtain⟨rfl,Bz,Fz,Pz⟩:=hcut
   refine ‹∀(a:Act) (w:World),Code.wp Tryz.prog Code.ret _ a w→_› _ _ (wp_ret ?_)
   try simp only [Exit.then]
   change bodyPost Tryz.prog _ _ .ret _ _
   refine bodyPost_ret (results_ct 4 41 ⟨w.heap.size,0,none⟩ _ 5 (.slice A5 L5.length c5) (by rfl) (by rfl) (end_load Bz) (by rfl)) (by rfl) ?_
   rw [HV.out]
   exact⟨S,_,_,_,_,L5,rfl,HL5.out,Ext.refl w S,MRZ.out _ Fz,Pz,Fz⟩
end Go.Proofs.YtmgdbbbdhkfdmaaGreat
namespace Go.Proofs.YtmgdbbbdhkfdmaaGreat
set_option maxRecDepth 100000
open Go.RowKit
structure AC where
 kind:Int
 p:Prt
 near:Bool
 d:List Int
def nearP(x:St)(a:AC):Prt:=
 if a.near then ⟨a.p.flags,(a.p.seq+x.peer+1+x.heap.next) % 4294967296,(a.p.ack+x.isn+1+x.win.a) % 4294967296,a.p.win,a.p.d⟩ else a.p
def doesV(x:St)(a:AC):St:=
 if a.kind=1 then (comeV x (nearP x a)).1 else if a.kind=2 then (writeV x a.d).1 else if a.kind=3 then (closeV x).1 else if a.kind=4 then (tickV x).1
 else if a.kind=6 then (resetV x).1 else if a.kind=5 then (readV x).1 else x
structure AOk(a:AC):Prop where
 s0:0≤a.p.seq
 s1:a.p.seq<4294967296
 k0:0≤a.p.ack
 k1:a.p.ack<4294967296
 w0:0≤a.p.win
 w1:a.p.win<65536
 pl:a.p.d.length≤100
 dl:a.d.length≤5000
theorem nearP_ok{a:AC}(h:AOk a)(x:St):0≤(nearP x a).seq∧(nearP x a).seq<4294967296∧0≤(nearP x a).ack∧(nearP x a).ack<4294967296∧0≤(nearP x a).win∧(nearP x a).win<65536∧(nearP x a).d=a.p.d:=by
 have h0:=h.s0
 have h1:=h.s1
 have h2:=h.k0
 have h3:=h.k1
 have h4:=h.w0
 have h5:=h.w1
 unfold nearP
 split
 ·refine⟨?_,?_,?_,?_,h4,h5,rfl⟩ <;> dsimp only <;> omega
 ·exact⟨h0,h1,h2,h3,h4,h5,rfl⟩
structure Grows(x y:St)(n t:Nat):Prop where
 all:y.all.length≤x.all.length+n
 now:y.now≤x.now+t
theorem Grows.of{x y:St}(h1:y.all=x.all)(h2:y.now=x.now)(n t:Nat):Grows x y n t:=⟨by rw [h1];omega,by rw [h2];omega⟩
theorem rests_all(x:St):(restsV x).all=x.all∧(restsV x).now=x.now:=by
 unfold restsV
 (repeat' split) <;> exact⟨rfl,rfl⟩
theorem loop_now:∀(k:Nat) (x:St),(loopV k x).1.now=x.now
 | 0,x=>rfl
 | k+1,x=>by
  by_cases h:0<nextV x
  ·rw [loop_go k x h,loop_now k _]
   rw [sendV_eq]
   unfold timesV
   dsimp only
   split <;> rfl
  ·rw [loop_stop _ x h]
theorem sends_all(x:St):(sendsV x).1.all=x.all∧(sendsV x).1.now=x.now:=by
 refine⟨(sends_num x).1,?_⟩
 by_cases h:x.at_=4
 ·rw [sendsV_open x h,(rests_all _).2]
  have h1:∀ y,(lastV y).now=y.now:=fun y=>by unfold lastV;split <;> rfl
  have h2:∀ y,(closesV y).1.now=y.now:=fun y=>by unfold closesV;split <;> rfl
  rw [h1,h2,loop_now]
 ·rw [sendsV_else x h]
  exact (rests_all x).2
theorem comes_all(x:St)(p:Prt):(comesV x p).1.all=x.all∧(comesV x p).1.now=x.now:=by
 have ha:∀ y:St,(acksV y p).all=y.all∧(acksV y p).now=y.now:=fun y=>by
  unfold acksV acks2V
  (repeat' split) <;> exact⟨rfl,rfl⟩
 have hd:∀ y:St,(dataV y p).all=y.all∧(dataV y p).now=y.now:=fun y=>by
  rw [dataV_eq]
  split <;> exact⟨rfl,rfl⟩
 have ho:∀ y:St,(openV y p).1.all=y.all∧(openV y p).1.now=y.now:=fun y=>by
  unfold openV
  split
  ·split <;> exact⟨rfl,rfl⟩
  split
  ·exact⟨rfl,rfl⟩
  split
  ·exact⟨rfl,rfl⟩
  dsimp only
  split
  ·split
   ·exact ha y
   ·exact⟨(hd _).1.trans (ha y).1,(hd _).2.trans (ha y).2⟩
  ·split
   ·exact ha y
   ·exact⟨(hd _).1.trans (ha y).1,(hd _).2.trans (ha y).2⟩
 have hl:(listenV x p).1.all=x.all∧(listenV x p).1.now=x.now:=by unfold listenV;split <;> exact⟨rfl,rfl⟩
 unfold comesV
 split
 ·exact hl
 split
 ·unfold callsV
  split
  ·exact hl
  split
  ·exact⟨rfl,rfl⟩
  split
  ·exact⟨rfl,rfl⟩
  split <;> exact⟨rfl,rfl⟩
 split
 ·unfold heardV
  split
  ·exact hl
  split
  ·exact⟨rfl,rfl⟩
  split
  ·exact ho x
  split
  ·exact⟨rfl,rfl⟩
  ·exact ho _
 split
 ·exact ho x
 ·unfold endedV
  split <;> exact⟨rfl,rfl⟩
theorem does_grows(x:St)(a:AC):Grows x (doesV x a) a.d.length 1:=by
 unfold doesV
 split
 ·unfold comeV
  split
  ·exact .of rfl rfl _ _
  ·exact .of ((sends_all _).1.trans (comes_all x _).1) ((sends_all _).2.trans (comes_all x _).2) _ _
 split
 ·unfold writeV
  split
  ·exact .of rfl rfl _ _
  split
  ·exact .of rfl rfl _ _
  ·refine⟨?_,?_⟩
   ·rw [(sends_all _).1];simp
   ·rw [(sends_all _).2];dsimp only;omega
 split
 ·unfold closeV
  split
  ·exact .of rfl rfl _ _
  ·exact⟨by rw [(sends_all _).1];show x.all.length≤_;omega,by rw [(sends_all _).2];show x.now≤_;omega⟩
 split
 ·unfold tickV
  dsimp only
  have hag:∀ y,(againV y).1.now=y.now:=fun y=>by unfold againV;(repeat' split) <;> rfl
  split
  ·split
   ·refine⟨?_,?_⟩
    ·rw [(rests_all _).1,(again_num _).1];dsimp only;omega
    ·rw [(rests_all _).2,hag];dsimp only;omega
   ·refine⟨?_,?_⟩
    ·rw [(rests_all _).1];show x.all.length≤_;omega
    ·rw [(rests_all _).2];show x.now+1≤_;omega
  ·refine⟨?_,?_⟩
   ·dsimp only;omega
   ·dsimp only;omega
 split
 ·unfold resetV
  split
  ·exact .of rfl rfl _ _
  split
  ·exact⟨by rw [(rests_all _).1];show x.all.length≤_;omega,by rw [(rests_all _).2];show x.now≤_;omega⟩
  ·exact⟨by rw [(rests_all _).1];show x.all.length≤_;omega,by rw [(rests_all _).2];show x.now≤_;omega⟩
 split
 ·unfold readV
  dsimp only
  split <;> exact⟨by show x.all.length≤_;omega,by show x.now≤_;omega⟩
 ·exact .of rfl rfl _ _
theorem does_fine{x:St}(h:Fine x){a:AC}(ha:AOk a)(hl:x.all.length≤990000)(hn:x.now+1≤1000000):Fine (doesV x a):=by
 have hp:=nearP_ok ha x
 have hd:=ha.dl
 unfold doesV
 split
 ·exact h.come _ hp.1 hp.2.1
 split
 ·exact h.write _ (by omega)
 split
 ·exact h.close
 split
 ·exact h.tick hn
 split
 ·exact h.reset
 split
 ·exact h.read
 ·exact h
end Go.Proofs.YtmgdbbbdhkfdmaaGreat
namespace Go.Proofs.YtmgdbbbdhkfdmaaGreat
set_option maxRecDepth 100000
open Go.RowKit Go.Deep
abbrev arA(a:AC)(pA:Option Addr)(pc:Nat)(dA:Option Addr)(dc:Nat):Array Value:=#[.int .i64 a.kind, .int .i64 a.p.flags, .int .u32 a.p.seq, .int .u32 a.p.ack, .int .u16 a.p.win, .slice pA a.p.d.length pc, .bool a.near, .slice dA a.d.length dc]
def DoPost(S:Nat→Prop)(w:World)(H:Hd)(y:St)(e:Ending)(w':World):Prop:=
 ∃ S' H' av uv kv,e = .returned (.tuple #[agE y av uv kv, .bool true])∧Ext w S S'∧Hd.like w H H'∧SI S' w' H' y∧RE S' w' y av uv kv∧Fr H.own w w'
structure DL(w W:World)(cs A:Array Value):Prop where
 e:Blk W w.heap.size 41 cs
 a:Blk W (w.heap.size+1) 51 A
 r:Blk W (w.heap.size+1+1) 41 endZ
theorem DL.fr{w W W':World}{cs A:Array Value}{O:List Nat}(d:DL w W cs A)(f:Fr O W W')(h:∀ b∈O,b<w.heap.size∨w.heap.size+1+1<b):DL w W' cs A:=
 ⟨d.e.fr f (fun hm=>by have:=h _ hm;omega),d.a.fr f (fun hm=>by have:=h _ hm;omega),d.r.fr f (fun hm=>by have:=h _ hm;omega)⟩
theorem DL.start(w:World)(cs A:Array Value):DL w (((w.alloc (.cells cs 41)).alloc (.cells A 51)).alloc (.cells endZ 41)) cs A:=by
 have b2:=Blk.new ((w.alloc (.cells cs 41)).alloc (.cells A 51)) 41 endZ
 have b1:=Blk.new (w.alloc (.cells cs 41)) 51 A
 rw [World.size_alloc,World.size_alloc] at b2
 rw [World.size_alloc] at b1
 exact⟨(Blk.new w 41 cs).fr (((Fr.refl [] _).alloc _).alloc _) (by simp),b1.fr ((Fr.refl [] _).alloc _) (by simp),b2⟩
def CP2(S:Nat→Prop)(w:World)(H:Hd)(r:St × List Prt × Int)(e:Ending)(w':World):Prop:=
 ∃ S' H' A c L,e = .returned (.tuple #[.slice A L.length c, .int .i64 r.2.2])∧L.map (·.1)=r.2.1∧Ext w S S'∧Hd.like w H H'∧SI S' w' H' r.1∧Pr S' w' (.slice A L.length c) L∧Fr H.own w w'
theorem CPost.to2{S:Nat→Prop}{w w':World}{H:Hd}{r:St × List Prt × Int}{e:Ending}(h:CPost S w H r e w'):CP2 S w H r e w':=by
 obtain⟨v,rfl,S',H',v',L,hv,hL,x,lk,m,p,_,f⟩:=h
 injection hv with hv
 subst hv
 obtain⟨A,c,rfl,_,_⟩:=own_form p.own
 exact⟨S',H',A,c,L,rfl,hL,x,lk,m,p,f⟩
theorem RE.behind{S S1:Nat→Prop}{w w1:World}{H:Hd}{x y:St}{av uv kv:Value}{H1:Hd}(r:RE S w x av uv kv)(m:SI S w H x)(f:Fr H.own w w1)(e:Ext w S S1)(m1:SI S1 w1 H1 y):RE S1 w1 x av uv kv:=r.ext f m.off e.1 (HP.pub' m1.hp)
theorem do_post{S S1 S2:Nat→Prop}{w w1 w2 w3 w4:World}{H H1:Hd}{y:St}{a2 u2 k2:Value}{br:Nat}(f1:Fr [] w w1)(e1:Ext w1 S S1)(lk:Hd.like w1 H H1)(m1:SI S1 w2 H1 y)(f2:Fr H.own w1 w2)(f3:Fr [] w2 w3)(e2:Ext w2 S1 S2)(r:RE S2 w3 y a2 u2 k2)(f4:Fr [br] w3 w4)
  (hbr:w.heap.size≤br) (nb:br<w1.heap.size) (ho:∀ b∈H.own,b<w.heap.size) (hS:∀ b,S b→b<w.heap.size):DoPost S w H y (.returned (.tuple #[agE y a2 u2 k2, .bool true])) w4:=by
 have hz:=f1.size
 have hz2:=f2.size
 have n1:¬ S1 br:=fun hs=>(e1.2 _ hs).elim (fun h=>by have:=hS _ h;omega) (fun h=>by omega)
 have n2:¬ S2 br:=fun hs=>(e2.2 _ hs).elim n1 (fun h=>by omega)
 refine⟨S2,H1,a2,u2,k2,rfl,?_,⟨lk.g,lk.gw,lk.gc,lk.gh,fun b hb=>(lk.own b hb).imp id (fun h=>by omega)⟩,?_,r.far f4 n2,?_⟩
 ·exact (ext_up e1 hz).trans (w1:=w2) (Nat.le_trans hz hz2) e2
 ·have m3:=m1.ext f3 e2 (r.pub)
  have hne:∀ b∈H1.own,b≠br:=fun b hb=>(lk.own b hb).elim (fun h=>by have:=ho b h;omega) (fun h=>by omega)
  exact m3.far f4 n2 hne
 ·exact (((f1.mono (O':=H.own) (by simp)).trans f2 (fun b hb => .inl hb)).trans (f3.mono (by simp)) (fun b hb => .inl hb)).trans f4 (fun b hb => .inr (by simp at hb;omega))
theorem EL.of_part{S:Nat→Prop}{w:World}{x:St}{r:St × List Prt}{av uv kv:Value}{e:Ending}{w':World}(m:RE S w x av uv kv)(h:EPart S w r av uv kv e w')(n:r.1.all=x.all∧r.1.unread=x.unread∧r.1.heap=x.heap):EL S w r e w':=by
 obtain⟨v,L,rfl,hL,p,f⟩:=h
 exact⟨S,av,uv,kv,v,L,rfl,hL,Ext.refl w S,(m.to_ n.1 n.2.1 n.2.2).fr f,p,f⟩
theorem tick_num(x:St):(tickV x).1.all=x.all∧(tickV x).1.unread=x.unread∧(tickV x).1.heap=x.heap:=by
 unfold tickV
 dsimp only
 split
 ·split
  ·exact⟨(rests_num _).1.trans (again_num _).1,(rests_num _).2.1.trans (again_num _).2.1,(rests_num _).2.2.trans (again_num _).2.2⟩
  ·exact⟨(rests_num _).1,(rests_num _).2.1,(rests_num _).2.2⟩
 ·exact⟨rfl,rfl,rfl⟩
set_option maxHeartbeats 16000000 in
theorem does2{S:Nat→Prop}{w:World}{H:Hd}{x:St}{av uv kv:Value}(m:SI S w H x)(r:RE S w x av uv kv)(fx:Fine x)(a:AC)(ha:AOk a)(hk:a.kind=2)(hal:x.all.length≤990000)(hn:x.now+1≤1000000)(pA:Option Addr)(pc:Nat)(dA:Option Addr)(dc:Nat)(hpd:Byt S w (.slice pA a.p.d.length pc) a.p.d)(hdd:Byt S w (.slice dA a.d.length dc) a.d) :
  Calls Tryz.prog 10 #[ptr H.g,agE x av uv kv, .agg (arA a pA pc dA dc)] w (DoPost S w H (doesV x a)):=by
 have o1:=r.cells1
 have hown:=m.lt
 have hpub:∀ b,S b→b<w.heap.size:=HP.pub' m.hp
 have him:=fun W (f:Fr [] w W)=>(write_si (m.fr f) fx.ok.s a.d hal dA dc S (hdd.fr f (by simp))).mono fun e w' h=>CPost.to2 h
 have href:=fun (S1:Nat→Prop) W (r1:RE S1 W x av uv kv) (h:Byt S W (.slice dA a.d.length dc) a.d)=>ewrite r1 fx.ok.s fx.ou fx.bk a.d (by have:=ha.dl;omega) dA dc S h
 obtain⟨ak,⟨pf,ps,pk,pw,pd⟩,an,ad⟩:=a
 dsimp only at hk hpd hdd ⊢
 subst hk
 have hdv:doesV x ⟨2,⟨pf,ps,pk,pw,pd⟩,an,ad⟩=(writeV x ad).1:=rfl
 rw [hdv]
 clear hdv
 generalize writeV x ad=R at *
 have HIMW:=hI him
 have HREF:=hI href
 clear him href
 have d0:=DL.start w (arE x av uv kv) #[.int .i64 2, .int .i64 pf, .int .u32 ps, .int .u32 pk, .int .u16 pw, .slice pA pd.length pc, .bool an, .slice dA ad.length dc]
 have f0:Fr [] w (((w.alloc (.cells (arE x av uv kv) 41)).alloc (.cells #[.int .i64 2, .int .i64 pf, .int .u32 ps, .int .u32 pk, .int .u16 pw, .slice pA pd.length pc, .bool an, .slice dA ad.length dc] 51)).alloc (.cells endZ 41)):=(((Fr.refl [] w).alloc _).alloc _).alloc _
 have DL0:=hI d0
 have F0:=hI f0
 have M:=hI m
 have RR:=hI r
 have HOWN:=hI hown
 have HPUB:=hI hpub
 have HPD:=hI hpd
 have HDD:=hI hdd
 clear m r fx ha hal hn hown hpub hpd hdd d0 f0
 go_enter Tryz.func10,Tryz.ntmps10
 go_upto_region 1 with fail
 generalize ((w.alloc (.cells (arE x av uv kv) 41)).alloc (.cells #[.int .i64 2, .int .i64 pf, .int .u32 ps, .int .u32 pk, .int .u16 pw, .slice pA pd.length pc, .bool an, .slice dA ad.length dc] 51)).alloc (.cells endZ 41)=w1 at *
 have c0:w1.cell? ⟨w.heap.size+1,0,none⟩=some (.int .i64 2):=DL0.out.a.cell 0
 have DL1:Hid (∀ W,Fr [] w1 W→DL w W (arE x av uv kv) #[.int .i64 2, .int .i64 pf, .int .u32 ps, .int .u32 pk, .int .u16 pw, .slice pA pd.length pc, .bool an, .slice dA ad.length dc]):=hI (fun W f=>DL0.out.fr f (by simp))
 have HB:Hid (w.heap.size+1+1<w1.heap.size):=hI DL0.out.r.lt
 have HIM:=hI (HIMW.out _ F0.out)
 clear DL0
 have d7:w1.cell? ⟨w.heap.size+1,7,none⟩=some (.slice dA ad.length dc):=(DL1.out _ (Fr.refl [] w1)).a.cell 7
 go_upto_region 14 with (first
    | (go_at_call 17;refine (HIM.out).mono ?_;rintro e w5 h5;obtain⟨S1,H1,A1,c1,L1,rfl,hL1,e1,lk1,m1,p1,f5⟩:=h5))
 have D2:Hid (∀ W,Fr [] w5 W→DL w W (arE x av uv kv) #[.int .i64 2, .int .i64 pf, .int .u32 ps, .int .u32 pk, .int .u16 pw, .slice pA pd.length pc, .bool an, .slice dA ad.length dc]):=hI (fun W f=>((DL1.out _ (Fr.refl _ _)).fr f5 (fun b hb => .inl (HOWN.out b hb))).fr f (by simp))
 have R2:Hid (RE S1 w5 x av uv kv):=hI ((RR.out.fr F0.out).behind (M.out.fr F0.out) f5 e1 m1)
 have P1:=hI p1
 have M1:=hI m1
 have E1:=hI e1
 have LK1:=hI lk1
 have F5:=hI f5
 have HL1:=hI hL1
 clear p1 m1 e1 lk1 f5 hL1
 have HD5:Hid (Byt S w5 (.slice dA ad.length dc) ad):=hI ((HDD.out.fr F0.out (by simp)).fr F5.out (fun y hy=>M.out.off y hy))
 clear d7
 have HRF:=hI (show ∀ W,Fr [] w5 W→Calls Tryz.prog 31 #[agE x av uv kv, .slice dA ad.length dc] W (EL3 S1 W R) from fun W f=>HREF.out S1 W (R2.out.fr f) (HD5.out.fr f (by simp)))
 clear c0 DL1
 have d7:w5.cell? ⟨w.heap.size+1,7,none⟩=some (.slice dA ad.length dc):=(D2.out _ (Fr.refl [] w5)).a.cell 7
 go_upto_region 15 with (first
    | ((with_reducible refine gate_load 41 (.tmp 4) ?_);refine wpList_load_blk rfl 41 (.tmp 4) rfl w.heap.size 41 (arE x av uv kv) _ rfl (D2.out _ (by first|exact Fr.refl _ _|assumption)).e Tryz.underlying41 rfl (by kernel_rfl) ?_)
    | (go_at_call 31;refine (HRF.out _ (by first|exact Fr.refl _ _|assumption)).mono ?_;rintro e w8 ⟨S2,a2,u2,k2,v2,L2,rfl,hL2,e2,r2,p2,f8⟩;have o2:=r2.cells1)
    | ((with_reducible refine gate_store 41 (.tmp 15) ?_);refine wpList_store_blk rfl 41 (.tmp 15) (.tmp 120) rfl w8.heap.size 41 endZ (arE R.1 a2 u2 k2) rfl rfl (Blk.new w8 41 endZ) rfl (by kernel_rfl) (o2.out _) ?_;intro w9 B9 F9))
 have fa8:Fr [] w8 (w8.alloc (.cells endZ 41)):=(Fr.refl [] w8).alloc _
 have f8':Fr [] w5 w8:=f8
 have hz8:=f8'.size
 have nsb:¬ S2 w8.heap.size:=fun hs=>by have:=r2.pub _ hs;omega
 have nob:∀ b∈ob v2,b≠w8.heap.size:=fun b hb=>by have:=own_lt p2.own (mem_ob.1 hb);omega
 have hb5:w1.heap.size≤w5.heap.size:=F5.out.size
 have NB9:Hid (w.heap.size+1+1<w8.heap.size):=hI (by have:=HB.out;omega)
 have DL9:=hI (((D2.out _ f8').fr fa8 (by simp)).fr F9 (fun b hb => .inr (by simp at hb;have:=NB9.out;omega)))
 have F29:Hid (Fr [] w5 w9):=hI ((f8'.trans fa8 (by simp)).trans F9 (fun b hb => .inr (by simp at hb;omega)))
 have P29:=hI ((p2.fr fa8 (by simp) (by simp) (fun _ h=>h)).fr F9 (fun z hz hs=>by simp at hz;subst hz;exact nsb hs) (fun b hb hm=>by simp at hm;exact nob b hb hm) (fun _ h=>h))
 have P19:=hI (P1.out.fr F29.out (by simp) (by simp) (fun _ h=>h))
 have R9:=hI ((r2.fr fa8).far F9 nsb)
 have V9:=hI B9
 have E2:=hI e2
 have HLL:Hid (L1.map (·.1)=L2.map (·.1)):=hI (by rw [HL1.out,hL2])
 generalize w8.heap.size=b9 at *
 clear fa8 f8' hz8 nsb nob hb5 r2 p2 f8 B9 F9 hL2 e2 D2
 refine wp_region_held_drew (S:=fun W=>Fr [(w.heap.size+1+1)] w9 W) (by kernel_rfl) (Fr.refl _ w9).drew (fun hH=>?_)
 have fd:Fr [] w9 w9.drew:=(Fr.refl [] w9).drew
 generalize w9.drew=wd at *
 refine Held.take 0 rfl (by kernel_rfl) (by kernel_rfl) (by kernel_rfl) (fun _ _ _ h=>h) (Held.y_blk rfl 41 (.tmp 15) rfl b9 41 (arE R.1 a2 u2 k2) _ rfl (fun _ hs=>V9.out.fr hs (by have:=NB9.out;simp;omega)) Tryz.underlying41 rfl (by kernel_rfl)) hH ?_
 try simp only [Act.put,zqA,zqB,zqC]
 refine Held.take 1 (v := .slice A1 L1.length c1) rfl (by kernel_rfl) (by kernel_rfl) (by kernel_rfl) (fun _ _ _ h=>h) (Or.inl ⟨rfl,fun (W:World) hs=>by go_simp⟩) hH ?_
 try simp only [Act.put,zqA,zqB,zqC]
 refine Held.take 2 (v:=v2) rfl (by kernel_rfl) (by kernel_rfl) (by kernel_rfl) (fun _ _ _ h=>h) (Or.inl ⟨rfl,fun (W:World) hs=>by go_simp⟩) hH ?_
 try simp only [Act.put,zqA,zqB,zqC]
 refine Held.one (i:=3) (by kernel_rfl) rfl (fun K hK=>?_)
 go_simp
 go_at_call 30
 refine (esame (P19.out.fr fd (by simp) (by simp) (fun _ h=>h)) (P29.out.fr fd (by simp) (by simp) (fun _ h=>h)) HLL.out).mono ?_
 rintro e ws ⟨rfl,fs⟩
 try go_wp2_with fail
 refine hK.out _ _ (hH.trans fs (by simp)) (fun h3=>?_)
 clear hK K
 try simp only [Act.put,zqA,zqB,zqC]
 have fds:Fr [] w9 ws:=fd.trans fs (by simp)
 clear hH
 refine Held.take 4 (v := .bool true) rfl (by kernel_rfl) (by kernel_rfl) (by kernel_rfl) (fun _ _ _ h=>h) (Or.inl ⟨rfl,fun (W:World) hs=>by go_simp⟩) h3 ?_
 try simp only [Act.put,zqA,zqB,zqC]
 refine Held.take 5 (v := .int .i64 R.2.2) rfl (by kernel_rfl) (by kernel_rfl) (by kernel_rfl) (fun _ _ _ h=>h) (Or.inl ⟨rfl,fun (W:World) hs=>by go_simp⟩) h3 ?_
 try simp only [Act.put,zqA,zqB,zqC]
 refine Held.take 6 (v := .int .i64 R.2.2) rfl (by kernel_rfl) (by kernel_rfl) (by kernel_rfl) (fun _ _ _ h=>h) (Or.inl ⟨rfl,fun (W:World) hs=>by go_simp⟩) h3 ?_
 try simp only [Act.put,zqA,zqB,zqC]
 refine Held.take 7 (v := .bool true) rfl (by kernel_rfl) (by kernel_rfl) (by kernel_rfl) (fun _ _ _ h=>h) (Or.inl ⟨rfl,fun (W:World) hs=>by go_simp⟩) h3 ?_
 try simp only [Act.put,zqA,zqB,zqC]
 refine Held.take 8 (v := .bool true) rfl (by kernel_rfl) (by kernel_rfl) (by kernel_rfl) (fun _ _ _ h=>h) (Or.inl ⟨rfl,fun (W:World) hs=>by go_simp⟩) h3 ?_
 try simp only [Act.put,zqA,zqB,zqC]
 refine Held.one (i:=9) (by kernel_rfl) rfl (fun K hK=>?_)
 refine Held.st_blk rfl 41 (.tmp 6) (.tmp 123) rfl (w.heap.size+1+1) 41 endZ (arE R.1 a2 u2 k2) rfl rfl (DL9.out.r.fr fds (by simp)) rfl (by kernel_rfl) (o2.out _) ?_
 intro wz Bz Fz
 refine hK.out _ _ (h3.trans Fz (fun z hz => .inl hz)) (fun hC=>?_)
 clear hK K
 try simp only [Act.put,zqA,zqB,zqC]
 refine Held.take 10 (v := .bool true) rfl (by kernel_rfl) (by kernel_rfl) (by kernel_rfl) (fun _ _ _ h=>h) (Or.inl ⟨rfl,fun (W:World) hs=>by go_simp⟩) hC ?_
 try simp only [Act.put,zqA,zqB,zqC]
 refine Held.done (by kernel_rfl) ?_
 refine ‹∀(a:Act) (w:World),Code.wp Tryz.prog Code.ret _ a w→_› _ _ (wp_ret ?_)
 try simp only [Exit.then]
 change bodyPost Tryz.prog _ _ .ret _ _
 refine bodyPost_ret (results_ct 6 41 ⟨(w.heap.size+1+1),0,none⟩ _ 7 (.bool true) (by rfl) (by rfl) (end_load Bz) (by rfl)) (by rfl) ?_
 show DoPost S w H R.1 _ _
 exact do_post F0.out E1.out LK1.out M1.out F5.out (F29.out.trans fds (by simp)) E2.out (R9.out.fr fds) Fz (by omega) HB.out HOWN.out HPUB.out
set_option maxHeartbeats 16000000 in
theorem does4{S:Nat→Prop}{w:World}{H:Hd}{x:St}{av uv kv:Value}(m:SI S w H x)(r:RE S w x av uv kv)(fx:Fine x)(a:AC)(ha:AOk a)(hk:a.kind=4)(hal:x.all.length≤990000)(hn:x.now+1≤1000000)(pA:Option Addr)(pc:Nat)(dA:Option Addr)(dc:Nat)(hpd:Byt S w (.slice pA a.p.d.length pc) a.p.d)(hdd:Byt S w (.slice dA a.d.length dc) a.d) :
  Calls Tryz.prog 10 #[ptr H.g,agE x av uv kv, .agg (arA a pA pc dA dc)] w (DoPost S w H (doesV x a)):=by
 have o1:=r.cells1
 have hown:=m.lt
 have hpub:∀ b,S b→b<w.heap.size:=HP.pub' m.hp
 have him:=fun W (f:Fr [] w W)=>(tick_si (m.fr f) fx.ok fx.rs hn).mono fun e w' h=>CPost.to2 h
 have href:=fun (S1:Nat→Prop) W (r1:RE S1 W x av uv kv)=>(etick r1 fx.ok fx.ou fx.rs hn).mono fun e w' h=>EL.of_part r1 h (tick_num x)
 obtain⟨ak,⟨pf,ps,pk,pw,pd⟩,an,ad⟩:=a
 dsimp only at hk hpd hdd ⊢
 subst hk
 have hdv:doesV x ⟨4,⟨pf,ps,pk,pw,pd⟩,an,ad⟩=(tickV x).1:=rfl
 rw [hdv]
 clear hdv
 generalize tickV x=R at *
 have HIMW:=hI him
 have HREF:=hI href
 clear him href
 have d0:=DL.start w (arE x av uv kv) #[.int .i64 4, .int .i64 pf, .int .u32 ps, .int .u32 pk, .int .u16 pw, .slice pA pd.length pc, .bool an, .slice dA ad.length dc]
 have f0:Fr [] w (((w.alloc (.cells (arE x av uv kv) 41)).alloc (.cells #[.int .i64 4, .int .i64 pf, .int .u32 ps, .int .u32 pk, .int .u16 pw, .slice pA pd.length pc, .bool an, .slice dA ad.length dc] 51)).alloc (.cells endZ 41)):=(((Fr.refl [] w).alloc _).alloc _).alloc _
 have DL0:=hI d0
 have F0:=hI f0
 have M:=hI m
 have RR:=hI r
 have HOWN:=hI hown
 have HPUB:=hI hpub
 have HPD:=hI hpd
 have HDD:=hI hdd
 clear m r fx ha hal hn hown hpub hpd hdd d0 f0
 go_enter Tryz.func10,Tryz.ntmps10
 go_upto_region 1 with fail
 generalize ((w.alloc (.cells (arE x av uv kv) 41)).alloc (.cells #[.int .i64 4, .int .i64 pf, .int .u32 ps, .int .u32 pk, .int .u16 pw, .slice pA pd.length pc, .bool an, .slice dA ad.length dc] 51)).alloc (.cells endZ 41)=w1 at *
 have c0:w1.cell? ⟨w.heap.size+1,0,none⟩=some (.int .i64 4):=DL0.out.a.cell 0
 have DL1:Hid (∀ W,Fr [] w1 W→DL w W (arE x av uv kv) #[.int .i64 4, .int .i64 pf, .int .u32 ps, .int .u32 pk, .int .u16 pw, .slice pA pd.length pc, .bool an, .slice dA ad.length dc]):=hI (fun W f=>DL0.out.fr f (by simp))
 have HB:Hid (w.heap.size+1+1<w1.heap.size):=hI DL0.out.r.lt
 have HIM:=hI (HIMW.out _ F0.out)
 clear DL0
 go_upto_region 22 with (first
    | (go_at_call 34;refine (HIM.out).mono ?_;rintro e w5 h5;obtain⟨S1,H1,A1,c1,L1,rfl,hL1,e1,lk1,m1,p1,f5⟩:=h5))
 have D2:Hid (∀ W,Fr [] w5 W→DL w W (arE x av uv kv) #[.int .i64 4, .int .i64 pf, .int .u32 ps, .int .u32 pk, .int .u16 pw, .slice pA pd.length pc, .bool an, .slice dA ad.length dc]):=hI (fun W f=>((DL1.out _ (Fr.refl _ _)).fr f5 (fun b hb => .inl (HOWN.out b hb))).fr f (by simp))
 have R2:Hid (RE S1 w5 x av uv kv):=hI ((RR.out.fr F0.out).behind (M.out.fr F0.out) f5 e1 m1)
 have P1:=hI p1
 have M1:=hI m1
 have E1:=hI e1
 have LK1:=hI lk1
 have F5:=hI f5
 have HL1:=hI hL1
 clear p1 m1 e1 lk1 f5 hL1
 have HRF:=hI (show ∀ W,Fr [] w5 W→Calls Tryz.prog 35 #[agE x av uv kv] W (EL S1 W R) from fun W f=>HREF.out S1 W (R2.out.fr f))
 clear c0 DL1
 go_upto_region 23 with (first
    | ((with_reducible refine gate_load 41 (.tmp 4) ?_);refine wpList_load_blk rfl 41 (.tmp 4) rfl w.heap.size 41 (arE x av uv kv) _ rfl (D2.out _ (by first|exact Fr.refl _ _|assumption)).e Tryz.underlying41 rfl (by kernel_rfl) ?_)
    | (go_at_call 35;refine (HRF.out _ (by first|exact Fr.refl _ _|assumption)).mono ?_;rintro e w8 ⟨S2,a2,u2,k2,v2,L2,rfl,hL2,e2,r2,p2,f8⟩;have o2:=r2.cells1)
    | ((with_reducible refine gate_store 41 (.tmp 25) ?_);refine wpList_store_blk rfl 41 (.tmp 25) (.tmp 164) rfl w8.heap.size 41 endZ (arE R.1 a2 u2 k2) rfl rfl (Blk.new w8 41 endZ) rfl (by kernel_rfl) (o2.out _) ?_;intro w9 B9 F9))
 have fa8:Fr [] w8 (w8.alloc (.cells endZ 41)):=(Fr.refl [] w8).alloc _
 have f8':Fr [] w5 w8:=f8
 have hz8:=f8'.size
 have nsb:¬ S2 w8.heap.size:=fun hs=>by have:=r2.pub _ hs;omega
 have nob:∀ b∈ob v2,b≠w8.heap.size:=fun b hb=>by have:=own_lt p2.own (mem_ob.1 hb);omega
 have hb5:w1.heap.size≤w5.heap.size:=F5.out.size
 have NB9:Hid (w.heap.size+1+1<w8.heap.size):=hI (by have:=HB.out;omega)
 have DL9:=hI (((D2.out _ f8').fr fa8 (by simp)).fr F9 (fun b hb => .inr (by simp at hb;have:=NB9.out;omega)))
 have F29:Hid (Fr [] w5 w9):=hI ((f8'.trans fa8 (by simp)).trans F9 (fun b hb => .inr (by simp at hb;omega)))
 have P29:=hI ((p2.fr fa8 (by simp) (by simp) (fun _ h=>h)).fr F9 (fun z hz hs=>by simp at hz;subst hz;exact nsb hs) (fun b hb hm=>by simp at hm;exact nob b hb hm) (fun _ h=>h))
 have P19:=hI (P1.out.fr F29.out (by simp) (by simp) (fun _ h=>h))
 have R9:=hI ((r2.fr fa8).far F9 nsb)
 have V9:=hI B9
 have E2:=hI e2
 have HLL:Hid (L1.map (·.1)=L2.map (·.1)):=hI (by rw [HL1.out,hL2])
 generalize w8.heap.size=b9 at *
 clear fa8 f8' hz8 nsb nob hb5 r2 p2 f8 B9 F9 hL2 e2 D2
 refine wp_region_held_drew (S:=fun W=>Fr [(w.heap.size+1+1)] w9 W) (by kernel_rfl) (Fr.refl _ w9).drew (fun hH=>?_)
 have fd:Fr [] w9 w9.drew:=(Fr.refl [] w9).drew
 generalize w9.drew=wd at *
 refine Held.take 0 rfl (by kernel_rfl) (by kernel_rfl) (by kernel_rfl) (fun _ _ _ h=>h) (Held.y_blk rfl 41 (.tmp 25) rfl b9 41 (arE R.1 a2 u2 k2) _ rfl (fun _ hs=>V9.out.fr hs (by have:=NB9.out;simp;omega)) Tryz.underlying41 rfl (by kernel_rfl)) hH ?_
 try simp only [Act.put,zqA,zqB,zqC]
 refine Held.take 1 (v := .slice A1 L1.length c1) rfl (by kernel_rfl) (by kernel_rfl) (by kernel_rfl) (fun _ _ _ h=>h) (Or.inl ⟨rfl,fun (W:World) hs=>by go_simp⟩) hH ?_
 try simp only [Act.put,zqA,zqB,zqC]
 refine Held.take 2 (v:=v2) rfl (by kernel_rfl) (by kernel_rfl) (by kernel_rfl) (fun _ _ _ h=>h) (Or.inl ⟨rfl,fun (W:World) hs=>by go_simp⟩) hH ?_
 try simp only [Act.put,zqA,zqB,zqC]
 refine Held.one (i:=3) (by kernel_rfl) rfl (fun K hK=>?_)
 go_simp
 go_at_call 30
 refine (esame (P19.out.fr fd (by simp) (by simp) (fun _ h=>h)) (P29.out.fr fd (by simp) (by simp) (fun _ h=>h)) HLL.out).mono ?_
 rintro e ws ⟨rfl,fs⟩
 try go_wp2_with fail
 refine hK.out _ _ (hH.trans fs (by simp)) (fun h3=>?_)
 clear hK K
 try simp only [Act.put,zqA,zqB,zqC]
 have fds:Fr [] w9 ws:=fd.trans fs (by simp)
 clear hH
 refine Held.take 4 (v := .bool true) rfl (by kernel_rfl) (by kernel_rfl) (by kernel_rfl) (fun _ _ _ h=>h) (Or.inl ⟨rfl,fun (W:World) hs=>by go_simp⟩) h3 ?_
 try simp only [Act.put,zqA,zqB,zqC]
 refine Held.take 5 (v := .int .i64 0) rfl (by kernel_rfl) (by kernel_rfl) (by kernel_rfl) (fun _ _ _ h=>h) (Or.inl ⟨rfl,fun (W:World) hs=>by go_simp⟩) h3 ?_
 try simp only [Act.put,zqA,zqB,zqC]
 refine Held.take 6 (v := .bool true) rfl (by kernel_rfl) (by kernel_rfl) (by kernel_rfl) (fun _ _ _ h=>h) (Or.inl ⟨rfl,fun (W:World) hs=>by go_simp⟩) h3 ?_
 try simp only [Act.put,zqA,zqB,zqC]
 refine Held.take 7 (v := .bool true) rfl (by kernel_rfl) (by kernel_rfl) (by kernel_rfl) (fun _ _ _ h=>h) (Or.inl ⟨rfl,fun (W:World) hs=>by go_simp⟩) h3 ?_
 try simp only [Act.put,zqA,zqB,zqC]
 refine Held.one (i:=8) (by kernel_rfl) rfl (fun K hK=>?_)
 refine Held.st_blk rfl 41 (.tmp 6) (.tmp 166) rfl (w.heap.size+1+1) 41 endZ (arE R.1 a2 u2 k2) rfl rfl (DL9.out.r.fr fds (by simp)) rfl (by kernel_rfl) (o2.out _) ?_
 intro wz Bz Fz
 refine hK.out _ _ (h3.trans Fz (fun z hz => .inl hz)) (fun hC=>?_)
 clear hK K
 try simp only [Act.put,zqA,zqB,zqC]
 refine Held.take 9 (v := .bool true) rfl (by kernel_rfl) (by kernel_rfl) (by kernel_rfl) (fun _ _ _ h=>h) (Or.inl ⟨rfl,fun (W:World) hs=>by go_simp⟩) hC ?_
 try simp only [Act.put,zqA,zqB,zqC]
 refine Held.done (by kernel_rfl) ?_
 refine ‹∀(a:Act) (w:World),Code.wp Tryz.prog Code.ret _ a w→_› _ _ (wp_ret ?_)
 try simp only [Exit.then]
 change bodyPost Tryz.prog _ _ .ret _ _
 refine bodyPost_ret (results_ct 6 41 ⟨(w.heap.size+1+1),0,none⟩ _ 7 (.bool true) (by rfl) (by rfl) (end_load Bz) (by rfl)) (by rfl) ?_
 show DoPost S w H R.1 _ _
 exact do_post F0.out E1.out LK1.out M1.out F5.out (F29.out.trans fds (by simp)) E2.out (R9.out.fr fds) Fz (by omega) HB.out HOWN.out HPUB.out
def RP2(S:Nat→Prop)(w:World)(H:Hd)(r:St × List Int × List Prt)(e:Ending)(w':World):Prop:=
 ∃ S' H' A c L,e = .returned (.tuple #[H.uv, .slice A L.length c])∧L.map (·.1)=r.2.2∧Ext w S S'∧Hd.like w H H'∧SI S' w' H' r.1∧Pr S' w' (.slice A L.length c) L∧Fr H.own w w'∧Byt (fun b=>b∈ob H.uv) w' H.uv r.2.1
theorem ReadPost.to2{S:Nat→Prop}{w w':World}{H:Hd}{r:St × List Int × List Prt}{e:Ending}(h:ReadPost S w H r e w'):RP2 S w H r e w':=by
 obtain⟨S',H',v,L,rfl,hL,x,lk,m,p,_,f,b,_⟩:=h
 obtain⟨A,c,rfl,_,_⟩:=own_form p.own
 exact⟨S',H',A,c,L,rfl,hL,x,lk,m,p,f.mono (by simp [Hd.own]),b⟩
end Go.Proofs.YtmgdbbbdhkfdmaaGreat
