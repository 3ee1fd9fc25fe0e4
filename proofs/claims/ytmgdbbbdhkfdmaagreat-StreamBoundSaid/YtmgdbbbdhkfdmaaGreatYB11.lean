import Derived.Test.YtmgdbbbdhkfdmaaGreatYB10
import Derived.Deep.DeepCutAuto
set_option linter.unusedSimpArgs false
set_option linter.unusedVariables false
namespace Go.Proofs.YtmgdbbbdhkfdmaaGreat
set_option maxRecDepth 100000
open Go.RowKit Go.Deep
set_option maxHeartbeats 8000000 in
theorem eopens{S:Nat→Prop}{w:World}{x:St}{av uv kv:Value}(m:RE S w x av uv kv)(ok:OkS x)(r:Int)(r0:0≤r)(r1:r<65536):Calls Tryz.prog 107 #[agE x av uv kv, .int .u16 r] w fun e w'=>e = .returned (agE (opensV x r) av uv kv)∧Fr [] w w':=by
 have o1:=m.cells1
 have hA:=fun W=>Win.rack x.win 0 r W 1000000000 (Int.le_refl _) ok.hw
 have hS:=fun W=>Rto.rstop x.clk W ok.hc
 have l0:=Lo.start w (arE x av uv kv)
 have hov:opensV x r={ x with at_:=4,win:=(Win.ackV x.win 0 r).1,clk:=Rto.stopV x.clk }:=rfl
 have hcv:IntKind.i64.wrap r=r:=IntWalk.i64_in _ (by omega)
 rw [hov]
 clear hov
 generalize Win.ackV x.win 0 r=ak at *
 generalize Rto.stopV x.clk=ck at *
 obtain⟨⟨ka,ks,km,kl⟩,mo,er⟩:=ak
 obtain⟨f0,l0',m0,t0,is0,tm0,sp0,wt0,si0,tr0,rn0⟩:=ck
 dsimp only at *
 have HA:=Lib.hid hA
 have HS:=Lib.hid hS
 have L0:=Lib.hid l0
 clear hA hS l0 m ok
 go_enter Tryz.func107,Tryz.ntmps107
 go_upto_region 1 with fail
 generalize (w.alloc (.cells (arE x av uv kv) 41)).alloc (.cells endZ 41)=w1 at *
 have c2:w1.cell? ⟨w.heap.size,2,none⟩=some (.int .i64 x.at_):=L0.out.s.cell 2
 have z2:=L0.out.s.frozen 2
 have hl1:=L0.out.s.lt
 go_upto_region 2 with fail
 have l1:Lo w (w1.setCell ⟨w.heap.size,2,none⟩ (.int .i64 4)) w.heap.size (w.heap.size+1) (arE { x with at_:=4 } av uv kv):=L0.out.cell 2 (.int .i64 4)
 generalize w1.setCell ⟨w.heap.size,2,none⟩ (.int .i64 4)=w2 at *
 have LB:Hid (∀ W,Fr [] w2 W→Lo w W w.heap.size (w.heap.size+1) (arE { x with at_:=4 } av uv kv)):=Lib.hid (fun W f=>l1.grow f)
 clear c2 z2 hl1 l1
 go_upto_region 3 with (first
   | ((with_reducible refine gate_load 32 (.tmp 10) ?_);refine wpList_load_in rfl 32 (.tmp 10) rfl w.heap.size 6 41 (arE { x with at_:=4 } av uv kv) (arW x.win) _ rfl (LB.out _ (by first|exact Fr.refl _ _|assumption)).s rfl Tryz.underlying32 rfl (by kernel_rfl) ?_)
   | (go_at_call 121;refine (HA.out _).mono ?_;rintro e w5 ⟨rfl,f5⟩)
   | ((with_reducible refine gate_store 32 (.tmp 5) ?_);refine wpList_store_blk rfl 32 (.tmp 5) (.tmp 15) rfl w5.heap.size 32 #[.int .i64 0, .int .i64 0, .int .i64 0, .int .i64 0] #[.int .i64 ka, .int .i64 ks, .int .i64 km, .int .i64 kl] rfl rfl (Blk.new w5 32 #[.int .i64 0, .int .i64 0, .int .i64 0, .int .i64 0]) rfl (by kernel_rfl) (by first|exact o1.out _|exact o2.out _|simp [Value.oneCell']) ?_;intro w6 B6 F6))
 have l6:Lo w w6 w.heap.size (w.heap.size+1) (arE { x with at_:=4 } av uv kv):=(LB.out _ (f5.alloc (.cells #[.int .i64 0, .int .i64 0, .int .i64 0, .int .i64 0] 32))).far F6 (by have:=(LB.out _ f5).f.size;omega) (by have:=(LB.out _ f5).s.lt;omega) (by have:=(LB.out _ f5).r.lt;omega)
 have n6:w.heap.size+1<w5.heap.size:=(LB.out _ f5).r.lt
 generalize w5.heap.size=b5 at *
 clear F6
 have LC:Hid (∀ W,Fr [] w6 W→Lo w W w.heap.size (w.heap.size+1) (arE { x with at_:=4 } av uv kv)):=Lib.hid (fun W f=>l6.grow f)
 have BC:Hid (∀ W,Fr [] w6 W→Blk W b5 32 #[.int .i64 ka, .int .i64 ks, .int .i64 km, .int .i64 kl]):=Lib.hid (fun W f=>B6.fr f (by simp))
 clear l6 B6
 go_cut [] (fun wx=>Lo w wx w.heap.size (w.heap.size+1) (arE { x with at_:=4,win:=⟨ka,ks,km,kl⟩,clk:=⟨f0,l0',m0,t0,is0,tm0,sp0,wt0,si0,tr0,rn0⟩ } av uv kv))
 case first=>
  have c:=ecells (LC.out _ (Fr.refl [] w6)).s
  have b:=BC.out _ (Fr.refl [] w6)
  have k10:=c.c10
  have k11:=c.c11
  have k12:=c.c12
  have k13:=c.c13
  have k14:=c.c14
  have k15:=c.c15
  have k16:=c.c16
  have k17:=c.c17
  have k18:=c.c18
  have k19:=c.c19
  have k20:=c.c20
  have j0:=b.cell 0
  have j1:=b.cell 1
  have j2:=b.cell 2
  have j3:=b.cell 3
  simp at j0 j1 j2 j3
  clear c b
  go_region_law (first|(go_simp;go_at_call 69;refine (HS.out _).mono ?_;rintro e w7 ⟨rfl,f7⟩;have f7':Fr [] w6 w7:=(Fr.refl [] w6).drew.trans f7 (by simp);have l7:=LC.out _ f7';have c:=ecells l7.s;have k6:=c.c6;have k7:=c.c7;have k8:=c.c8;have k9:=c.c9;have k10:=c.c10;have k11:=c.c11;have k12:=c.c12;have k13:=c.c13;have k14:=c.c14;have k15:=c.c15;have k16:=c.c16;have k17:=c.c17;have k18:=c.c18;have k19:=c.c19;have k20:=c.c20;have zz:=l7.s.frozen;have hl:=l7.s.lt;have b:=BC.out _ f7';have j0:=b.cell 0;have j1:=b.cell 1;have j2:=b.cell 2;have j3:=b.cell 3;simp at j0 j1 j2 j3;have L7:=Lib.hid l7;clear c b l7 f7))
  all_goals
   go_wp2_with fail
   go_meet
   have hh:=(((((((((((((((L7.out.cell 6 (.int .i64 ka)).cell 7 (.int .i64 ks)).cell 8 (.int .i64 km)).cell 9 (.int .i64 kl)).cell 10 (.int .i64 f0)).cell 11 (.int .i64 l0')).cell 12 (.int .i64 m0)).cell 13 (.int .i64 t0)).cell 14 (.bool is0)).cell 15 (.int .i64 tm0)).cell 16 (.int .i64 sp0)).cell 17 (.int .i64 wt0)).cell 18 (.int .i64 si0)).cell 19 (.int .i64 tr0)).cell 20 (.bool rn0))
   simp only [arE,List.setIfInBounds_toArray,List.set_cons_zero,List.set_cons_succ] at hh ⊢
   exact hh
 case rest=>
  have LD:Hid (∀ W,Fr [] wc W→Lo w W w.heap.size (w.heap.size+1) (arE { x with at_:=4,win:=⟨ka,ks,km,kl⟩,clk:=⟨f0,l0',m0,t0,is0,tm0,sp0,wt0,si0,tr0,rn0⟩ } av uv kv)):=Lib.hid (fun W f=>hcut.grow f)
  clear hcut LB LC BC
  go_wp2_with (first
   | ((with_reducible refine gate_load 41 (.tmp 2) ?_);refine wpList_load_blk rfl 41 (.tmp 2) rfl w.heap.size 41 (arE { x with at_:=4,win:=⟨ka,ks,km,kl⟩,clk:=⟨f0,l0',m0,t0,is0,tm0,sp0,wt0,si0,tr0,rn0⟩ } av uv kv) _ rfl (LD.out _ (by first|exact Fr.refl _ _|assumption)).s Tryz.underlying41 rfl (by kernel_rfl) ?_)
   | ((with_reducible refine gate_store 41 (.tmp 4) ?_);refine wpList_store_blk rfl 41 (.tmp 4) (.tmp 24) rfl (w.heap.size+1) 41 endZ (arE { x with at_:=4,win:=⟨ka,ks,km,kl⟩,clk:=⟨f0,l0',m0,t0,is0,tm0,sp0,wt0,si0,tr0,rn0⟩ } av uv kv) rfl rfl (LD.out _ (by first|exact Fr.refl _ _|assumption)).r rfl (by kernel_rfl) (by first|exact o1.out _|exact o2.out _|simp [Value.oneCell']) ?_;intro w9 B9 F9))
  refine bodyPost_ret (results_c 4 41 ⟨w.heap.size+1,0,none⟩ _ (by rfl) (by rfl) (end_load B9)) (by rfl) ?_
  exact⟨rfl,(LD.out _ (Fr.refl _ _)).res F9⟩
end Go.Proofs.YtmgdbbbdhkfdmaaGreat
