import Derived.Test.YtmgdbbbdhkfdmaaGreatYS3
import Derived.Deep.DeepCutAuto
set_option linter.unusedSimpArgs false
set_option linter.unusedVariables false
namespace Go.Proofs.YtmgdbbbdhkfdmaaGreat
set_option maxRecDepth 100000
open Go.RowKit Go.Deep
section
variable {S:Nat→Prop} {w w':World} {H:Hd} {x:St}
theorem SI.setc(m:SI S w H x){c:Rto.Ck}(f:Fr [H.gc] w w')(C:Rto.Clk w' H.gc c):SI S w' H { x with clk:=c }:=by
 have hO:∀ y∈[H.gc],¬ S y:=fun y hy=>by simp at hy;subst hy;exact m.nS _ (.inr (.inr (.inl rfl)))
 have nk:∀ y∈H.gh::ob H.kv,y≠H.gc:=by
  obtain⟨ev,L,n⟩:=m.hp
  intro y hy
  rcases List.mem_cons.1 hy with rfl|hy
  ·exact blk_ne n.blk m.clk (by decide)
  ·rintro rfl;exact own_ne n.kp.own m.clk (by decide) (mem_ob.1 hy)
 exact⟨m.blk.fr f (by simpa using fun e=>m.ne_c e.symm),Blk.fr m.win f (by simpa using blk_ne m.win m.clk (by decide)),C,m.hp.ext' f (Ext.refl w S) hO (fun y hy=>by simpa using nk y hy) (fun b hb=>Nat.lt_of_lt_of_le (HP.pub' m.hp b hb) f.size),
  own_fr m.buf f (fun b hb=>by simp;rintro rfl;exact own_ne m.buf m.clk (by decide) hb),own_fr m.unr f (fun b hb=>by simp;rintro rfl;exact own_ne m.unr m.clk (by decide) hb),m.nS,m.bu⟩
theorem SI.setw(m:SI S w H x){v:Win.Wn}(f:Fr [H.gw] w w')(C:Win.Win w' H.gw v true)(ha:v.a=x.win.a):SI S w' H { x with win:=v }:=by
 have hO:∀ y∈[H.gw],¬ S y:=fun y hy=>by simp at hy;subst hy;exact m.nS _ (.inr (.inl rfl))
 have nk:∀ y∈H.gh::ob H.kv,y≠H.gw:=by
  obtain⟨ev,L,n⟩:=m.hp
  intro y hy
  rcases List.mem_cons.1 hy with rfl|hy
  ·exact blk_ne n.blk m.win (by decide)
  ·rintro rfl;exact own_ne n.kp.own m.win (by decide) (mem_ob.1 hy)
 have hb:bufV { x with win:=v }=bufV x:=by unfold bufV;rw [ha]
 exact⟨m.blk.fr f (by simpa using fun e=>m.ne_w e.symm),C,Blk.fr m.clk f (by simpa using blk_ne m.clk m.win (by decide)),m.hp.ext' f (Ext.refl w S) hO (fun y hy=>by simpa using nk y hy) (fun b hb=>Nat.lt_of_lt_of_le (HP.pub' m.hp b hb) f.size),
  by rw [hb];exact own_fr m.buf f (fun b hb=>by simp;rintro rfl;exact own_ne m.buf m.win (by decide) hb),own_fr m.unr f (fun b hb=>by simp;rintro rfl;exact own_ne m.unr m.win (by decide) hb),m.nS,m.bu⟩
end
set_option maxHeartbeats 4000000 in
theorem waits_si{S:Nat→Prop}{w:World}{H:Hd}{x:St}(m:SI S w H x):Calls Tryz.prog 60 #[ptr H.g] w fun e w'=>e = .returned (.bool (waitsV x))∧Fr [] w w':=by
 have c:=scells m.blk
 have c0:=c.c0
 have c7:=c.c7
 have c16:=c.c16
 have c19:=c.c19
 have c20:=c.c20
 have hst:=fun W (f:Fr [] w W)=>Win.state_win H.gw x.win W (Blk.fr m.win f (by simp))
 have hz:=fun W (f:Fr [] w W)=>Win.zero_fr H.gw x.win W (Blk.fr m.win f (by simp))
 have hv:waitsV x=(x.at_ == 2 || (x.at_ == 3 || (x.at_ == 4 && (decide (x.win.a<x.win.m) || (x.fin && !x.acked || Win.zeroV x.win && decide (x.win.a<x.all.length)))))):=rfl
 generalize waitsV x=r at *
 generalize x.fin=fi at *
 generalize x.acked=ac at *
 generalize Win.zeroV x.win=zv at *
 generalize x.at_=at_ at *
 have HSt:=hI hst
 have HZ:=hI hz
 clear hst hz c m
 by_cases h2:at_=2
 ·subst h2
  obtain rfl:r=true:=by rw [hv];rfl
  clear hv
  go_enter Tryz.func60,Tryz.ntmps60
  go_wp2_with fail
  refine (HSt.out _ (Fr.refl [] w)).mono ?_
  rintro e w1 ⟨rfl,f1⟩
  have d0:=fr_cell f1 c0
  have hl:=World.block_lt_of_cell? w1 _ d0
  go_wp2_with fail
  go_ret
  exact⟨rfl,f1.alloc _⟩
 by_cases h3:at_=3
 ·subst h3
  obtain rfl:r=true:=by rw [hv];rfl
  clear hv
  go_enter Tryz.func60,Tryz.ntmps60
  go_wp2_with fail
  refine (HSt.out _ (Fr.refl [] w)).mono ?_
  rintro e w1 ⟨rfl,f1⟩
  have d0:=fr_cell f1 c0
  have hl:=World.block_lt_of_cell? w1 _ d0
  go_wp2_with fail
  go_ret
  exact⟨rfl,f1.alloc _⟩
 by_cases h4:at_=4
 ·subst h4
  have hv':r=(decide (x.win.a<x.win.m) || (fi && !ac || zv && decide (x.win.a<x.all.length))):=by rw [hv];rfl
  have HV:=hI hv'
  clear hv hv'
  go_enter Tryz.func60,Tryz.ntmps60
  go_wp2_with fail
  refine (HSt.out _ (Fr.refl [] w)).mono ?_
  rintro e w1 ⟨rfl,f1⟩
  have d0:=fr_cell f1 c0
  have hl:=World.block_lt_of_cell? w1 _ d0
  go_upto_region 7 with fail
  have f2:Fr [] w (w1.alloc (.cells #[.int .i64 x.win.a, .int .i64 x.win.s, .int .i64 x.win.m, .int .i64 x.win.l] 32)):=f1.alloc _
  have b2:=Blk.new w1 32 #[.int .i64 x.win.a, .int .i64 x.win.s, .int .i64 x.win.m, .int .i64 x.win.l]
  generalize w1.alloc (.cells #[.int .i64 x.win.a, .int .i64 x.win.s, .int .i64 x.win.m, .int .i64 x.win.l] 32)=w2 at *
  obtain⟨p0,p1,p2,p3⟩:w2.cell? ⟨w1.heap.size,0,none⟩=some (.int .i64 x.win.a)∧w2.cell? ⟨w1.heap.size,1,none⟩=some (.int .i64 x.win.s)∧w2.cell? ⟨w1.heap.size,2,none⟩=some (.int .i64 x.win.m)∧w2.cell? ⟨w1.heap.size,3,none⟩=some (.int .i64 x.win.l):=⟨by simpa using b2.cell 0,by simpa using b2.cell 1,by simpa using b2.cell 2,by simpa using b2.cell 3⟩
  have y0:=Grew.cell p0
  have y2:=Grew.cell p2
  have y7:=Grew.cell (fr_cell f2 c7)
  have y16:=Grew.cell (fr_cell f2 c16)
  have y19:=Grew.cell (fr_cell f2 c19)
  have y20:=Grew.cell (fr_cell f2 c20)
  have hzg:∀ p:Grew w2,Calls Tryz.prog 98 #[ptr H.gw] p.W fun e w'=>e = .returned (.bool zv)∧∃ q:Grew w2,w'=q.W:=fun p=>grew_call (HZ.out _ (f2.trans p.fr (by simp)))
  have HZG:=hI hzg
  have F2:=hI f2
  clear b2 p0 p1 p2 p3 hzg f1 f2 c0 c7 c16 c19 c20 d0 hl HZ HSt h2 h3
  by_cases hA:x.win.a<x.win.m
  ·obtain rfl:r=true:=by rw [HV.out];simp [hA]
   refine wp_region_grew (by kernel_rfl) (by kernel_rfl) ?_
   repeat (go_big_quiet_step ((go_at_call 98;exact HZG.out _)))
   refine wpQuiet_nil ?_
   intro W1 f1
   go_wp2_with fail
   go_ret
   exact⟨rfl,F2.out.trans f1 (by simp)⟩
  ·have hA':decide (x.win.a<x.win.m)=false:=by simpa using hA
   rcases Bool.eq_false_or_eq_true fi with rfl|rfl <;> rcases Bool.eq_false_or_eq_true ac with rfl|rfl <;> rcases Bool.eq_false_or_eq_true zv with rfl|rfl
   all_goals
    have hr:=HV.out
    rw [hA'] at hr
    simp only [Bool.not_true,Bool.not_false,Bool.and_true,Bool.true_and,Bool.and_false,Bool.false_and,Bool.or_false,Bool.false_or,Bool.true_or,Bool.or_true] at hr
    subst hr
    refine wp_region_grew (by kernel_rfl) (by kernel_rfl) ?_
    repeat (go_big_quiet_step ((go_at_call 98;exact HZG.out _)))
    refine wpQuiet_nil ?_
    intro W1 f1
    go_wp2_with fail
    go_ret
    exact⟨rfl,F2.out.trans f1 (by simp)⟩
 ·obtain rfl:r=false:=by rw [hv];simp [h2,h3,h4]
  clear hv
  go_enter Tryz.func60,Tryz.ntmps60
  go_wp2_with fail
  refine (HSt.out _ (Fr.refl [] w)).mono ?_
  rintro e w1 ⟨rfl,f1⟩
  have d0:=fr_cell f1 c0
  have hl:=World.block_lt_of_cell? w1 _ d0
  go_wp2_with fail
  go_ret
  exact⟨rfl,f1.alloc _⟩
theorem done_si{S:Nat→Prop}{w:World}{H:Hd}{x:St}(m:SI S w H x)(b:Bool):Calls Tryz.prog 74 #[ptr H.g, .bool b] w fun e w'=>e = .returned (.tuple #[])∧SI S w' H (doneV x b)∧Fr [H.g] w w':=by
 have c:=scells m.blk
 have c0:=c.c0
 have c1:=c.c1
 have z0:=m.blk.frozen 0
 have z1:=m.blk.frozen 1
 have M:=hI m
 clear m c
 go_enter Tryz.func74,Tryz.ntmps74
 go_wp2_with fail
 have f:Fr [H.g] w ((w.setCell ⟨H.g,0,none⟩ (.int .i64 5)).setCell ⟨H.g,1,none⟩ (.bool b)):=((Fr.refl [H.g] w).setCell (p:=⟨H.g,0,none⟩) (.inl (by simp)) _).setCell (p:=⟨H.g,1,none⟩) (.inl (by simp)) _
 have B:Blk ((w.setCell ⟨H.g,0,none⟩ (.int .i64 5)).setCell ⟨H.g,1,none⟩ (.bool b)) H.g 74 (arS (doneV x b) H):=by simpa [doneV] using (M.out.blk.set_ 0 (.int .i64 5)).set_ 1 (.bool b)
 go_end0
 exact⟨rfl,M.out.set f B rfl rfl rfl rfl rfl,f⟩
theorem ack0(v:Win.Wn)(h:0≤v.a)(r:Int):(Win.ackV v 0 r).1.a=v.a:=by
 unfold Win.ackV
 (repeat' split) <;> first|rfl|(simp;omega)
set_option maxHeartbeats 2000000 in
theorem opens_si{S:Nat→Prop}{w:World}{H:Hd}{x:St}(m:SI S w H x)(r B:Int)(hB:B≤1000000000)(hw:Win.Inv B x.win)(hc:Rto.Inv x.clk)(r0:0≤r)(r1:r<65536) :
  Calls Tryz.prog 90 #[ptr H.g, .int .u16 r] w fun e w'=>e = .returned (.tuple #[])∧SI S w' H (opensV x r)∧Fr [H.g,H.gw,H.gc] w w':=by
 have c:=scells m.blk
 have c0:=c.c0
 have c16:=c.c16
 have c17:=c.c17
 have z0:=m.blk.frozen 0
 have M:=hI m
 have hw':=hw
 have HW:=hI hw'
 have HC:=hI hc
 obtain⟨i0,_⟩:=hw
 have NW:=hI m.ne_w
 have NC:=hI m.ne_c
 have NWC:=hI (blk_ne m.win m.clk (by decide))
 have hcv:IntKind.i64.wrap r=r:=IntWalk.i64_in _ (by omega)
 clear m c hw' hc
 go_enter Tryz.func90,Tryz.ntmps90
 go_wp2_with fail
 have f1:Fr [H.g] w (w.setCell ⟨H.g,0,none⟩ (.int .i64 4)):=(Fr.refl [H.g] w).setCell (p:=⟨H.g,0,none⟩) (.inl (by simp)) _
 have B1:Blk (w.setCell ⟨H.g,0,none⟩ (.int .i64 4)) H.g 74 (arS { x with at_:=4 } H):=by simpa using M.out.blk.set_ 0 (.int .i64 4)
 have m1:=M.out.set (x':={ x with at_:=4 }) f1 B1 rfl rfl rfl rfl rfl
 generalize w.setCell ⟨H.g,0,none⟩ (.int .i64 4)=w1 at *
 refine (Win.ack_win H.gw x.win 0 r w1 B hB HW.out m1.win).mono ?_
 rintro e w2 ⟨rfl,f2,W2⟩
 have m2:=m1.setw f2 W2 (ack0 _ i0 r)
 have d:=scells m2.blk
 have d17:=d.c17
 have M2:=hI m2
 have F12:=hI ((f1.mono (O':=[H.g,H.gw,H.gc]) (by simp)).trans (f2.mono (O':=[H.g,H.gw,H.gc]) (by simp)) (fun y hy => .inl hy))
 clear m1 f1 B1 f2 W2 m2 d c0 c16 c17
 go_wp2_with fail
 refine (Rto.stop_clk H.gc x.clk w2 M2.out.clk HC.out).mono ?_
 rintro e w3 ⟨rfl,f3,C3⟩
 have m3:=M2.out.setc f3 C3
 have F3:=F12.out.trans (f3.mono (O':=[H.g,H.gw,H.gc]) (by simp)) (fun y hy => .inl hy)
 have M3:=hI m3
 clear m3 f3 C3 d17
 go_wp2_with fail
 go_end0
 exact⟨rfl,M3.out,F3⟩
set_option maxHeartbeats 2000000 in
theorem rests_si{S:Nat→Prop}{w:World}{H:Hd}{x:St}(m:SI S w H x)(hc:Rto.Inv x.clk)(A:Option Addr)(n k:Nat) :
  Calls Tryz.prog 22 #[ptr H.g, .slice A n k] w fun e w'=>e = .returned (.slice A n k)∧SI S w' H (restsV x)∧Fr [H.gc] w w':=by
 have hwt:=waits_si m
 have M:=hI m
 have HWt:=hI hwt
 have HC:=hI hc
 have hv:restsV x=if waitsV x && !x.clk.rn then { x with clk:=(Rto.startV x.clk x.now).1 } else if !waitsV x && x.clk.rn then { x with clk:=Rto.stopV x.clk } else x:=rfl
 generalize restsV x=y at *
 generalize waitsV x=wv at *
 clear m hwt hc
 have HV:=hI hv
 clear hv
 go_enter Tryz.func22,Tryz.ntmps22
 go_wp2_with fail
 refine HWt.out.mono ?_
 rintro e w1 ⟨rfl,f1⟩
 have m1:=M.out.fr f1
 have d:=scells m1.blk
 have d17:=d.c17
 have d21:=d.c21
 have M1:=hI m1
 have F1:=hI f1
 clear m1 d f1
 go_wp2_with fail
 refine (Rto.runs_clk H.gc x.clk w1 M1.out.clk HC.out).mono ?_
 rintro e w2 ⟨rfl,rfl⟩
 rcases Bool.eq_false_or_eq_true wv with rfl|rfl <;> rcases Bool.eq_false_or_eq_true x.clk.rn with hr|hr
 all_goals
  have hv:=HV.out
  rw [hr] at hv ⊢
  simp only [Bool.not_true,Bool.not_false,Bool.and_true,Bool.true_and,Bool.and_false,Bool.false_and,if_true,if_false,Bool.false_eq_true,reduceIte] at hv
  subst hv
 ·go_wp2_with fail
  go_ret
  exact⟨rfl,M1.out,F1.out.mono (by simp)⟩
 ·go_upto_region 4 with fail
  go_region_held3 (fun w'=>w'.cell? ⟨H.g,17,none⟩=some (ptr H.gc)∧w'.cell? ⟨H.g,21,none⟩=some (.int .i64 x.now))
   (first
    | (with_reducible exact⟨s0,s1⟩)
    | go_keep)
   (first
    | (go_at_call 62;refine (Rto.start_clk H.gc x.clk x.now _ (Blk.fr M1.out.clk (Fr.refl [] w1).drew (by simp)) HC.out).mono ?_;rintro e w3 ⟨rfl,f3,C3⟩;have f3':Fr [H.gc] w1 w3:=(Fr.refl [H.gc] w1).drew.trans f3 (fun y hy => .inl hy);have m3:=M1.out.setc f3' C3;have d3:=scells m3.blk;have s0:w3.cell? ⟨H.g,17,none⟩=some (ptr H.gc):=d3.c17;have s1:w3.cell? ⟨H.g,21,none⟩=some (.int .i64 x.now):=d3.c21;have M3:=hI m3;have F3:=hI f3';clear m3 d3 f3 f3' C3))
  go_wp2_with fail
  go_ret
  exact⟨rfl,M3.out,(F1.out.mono (by simp)).trans F3.out (fun y hy => .inl hy)⟩
 ·go_wp2_with fail
  refine (Rto.stop_clk H.gc x.clk w1 M1.out.clk HC.out).mono ?_
  rintro e w3 ⟨rfl,f3,C3⟩
  have M3:=hI (M1.out.setc f3 C3)
  have F3:=hI f3
  clear f3 C3
  go_wp2_with fail
  go_ret
  exact⟨rfl,M3.out,(F1.out.mono (by simp)).trans F3.out (fun y hy => .inl hy)⟩
 ·go_wp2_with fail
  go_ret
  exact⟨rfl,M1.out,F1.out.mono (by simp)⟩
def prs:List (Prt × Value)→List Value
 | []=>[]
 | x::L => .int .i64 x.1.flags :: .int .u32 x.1.seq :: .int .u32 x.1.ack :: .int .u16 x.1.win::x.2::prs L
theorem prs_app:∀ L M,prs L++prs M=prs (L++M)
 | [],_=>rfl
 | x::L,M=>by simp only [prs,List.cons_append,prs_app L M]
structure Pr(S:Nat→Prop)(w:World)(v:Value)(L:List (Prt × Value)):Prop where
 own:w.ownsRow 0 49 5 v L.length (prs L)
 byt:∀ x∈L,Byt S w x.2 x.1.d
theorem Pr.nil{S:Nat→Prop}{w:World}:Pr S w (.slice none 0 0) []:=⟨World.ownsRow_nil _ 0 49 5,by simp⟩
theorem Pr.one{S:Nat→Prop}{w:World}{v:Value}{L:List (Prt × Value)}(h:Pr S w v L):∀ u∈prs L,u.oneCell'=true:=by
 have hb:=h.byt
 clear h
 induction L with
 | nil=>simp [prs]
 | cons x L ih=>
  intro u hu
  simp only [prs,List.mem_cons] at hu
  rcases hu with rfl|rfl|rfl|rfl|rfl|hu
  ·rfl
  ·rfl
  ·rfl
  ·rfl
  ·exact (hb x (by simp)).one
  ·exact ih (fun y hy=>hb y (List.mem_cons_of_mem _ hy)) u hu
theorem Pr.fr{S S':Nat→Prop}{w w':World}{v:Value}{L:List (Prt × Value)}{O:List Nat}(h:Pr S w v L)(f:Fr O w w')(hO:∀ x∈O,¬ S x)(hn:∀ b∈ob v,b∉O)(hS:∀ b,S b→S' b):Pr S' w' v L:=
 ⟨own_fr h.own f (fun b hb=>hn b (mem_ob.2 hb)),fun x hx=>((h.byt x hx).fr f hO).mono hS⟩
theorem pr_one{S:Nat→Prop}{w:World}{p:Prt}{dv:Value}(h:Byt S w dv p.d) :
  Pr S (w.alloc (.cells #[.int .i64 p.flags, .int .u32 p.seq, .int .u32 p.ack, .int .u16 p.win,dv] 49)) (.slice (some ⟨w.heap.size,0,none⟩) 1 1) [(p,dv)]:=
 ⟨⟨by simp [prs], .inr ⟨w.heap.size,1,#[.int .i64 p.flags, .int .u32 p.seq, .int .u32 p.ack, .int .u16 p.win,dv],rfl,Nat.zero_le _,Blk.new w 49 _,by simp,by simp [maxLen],by simp [prs]⟩⟩,fun x hx=>by
  simp at hx
  subst hx
  exact h.fr ((Fr.refl [] w).alloc _) (by simp)⟩
structure Hd.like(w:World)(H H':Hd):Prop where
 g:H'.g=H.g
 gw:H'.gw=H.gw
 gc:H'.gc=H.gc
 gh:H'.gh=H.gh
 own:∀ b∈H'.own,b∈H.own∨w.heap.size≤b
theorem Hd.like.rfl'(w:World)(H:Hd):Hd.like w H H:=⟨rfl,rfl,rfl,rfl,fun b h => .inl h⟩
def LPost(S:Nat→Prop)(w:World)(H:Hd)(r:St × List Prt)(e:Ending)(w':World):Prop:=
 ∃ S' H' v L,e = .returned v∧L.map (·.1)=r.2∧Ext w S S'∧Hd.like w H H'∧SI S' w' H' r.1∧Pr S' w' v L∧(∀ b∈ob v,w.heap.size≤b∧¬ S' b)∧Fr H.own w w'
theorem lpost_nil{S:Nat→Prop}{w w':World}{H:Hd}{x':St}(m:SI S w' H x')(f:Fr H.own w w'):LPost S w H (x',[]) (.returned (.slice none 0 0)) w':=
 ⟨S,H,_,[],rfl,rfl,Ext.refl w S,Hd.like.rfl' w H,m,Pr.nil,by simp [ob,Value.ownBlock],f⟩
theorem lpost_one{S S0:Nat→Prop}{w w0 w1:World}{H H0:Hd}{x':St}{p:Prt}{A:Option Addr}{c:Nat}{v:Value}(e0:Ext w S S0)(hl:Hd.like w H H0)(f0:Fr H.own w w0)(h:PartPost S0 w0 H0 x' p (.returned v) w1)(hv:v=agP p (.slice A p.d.length c)) :
  LPost S w H (x',[p]) (.returned (.slice (some ⟨w1.heap.size,0,none⟩) 1 1)) (w1.alloc (.cells #[.int .i64 p.flags, .int .u32 p.seq, .int .u32 p.ack, .int .u16 p.win, .slice A p.d.length c] 49)):=by
 obtain⟨S1,A1,c1,e,x1,by1,m1,f1⟩:=h
 subst hv
 injection e with e
 injection e with e
 have ea:(Value.slice A p.d.length c) = .slice A1 p.d.length c1:=by simpa using congrArg (fun a=>a.toList.getD 4 undef) e
 rw [ea]
 have hg:H.g∈H.own:=by simp [Hd.own]
 have hz0:=f0.size
 have hz1:=f1.size
 have hp:∀ b,S1 b→b<w1.heap.size:=HP.pub' m1.hp
 refine⟨S1,H0,_,[(p, .slice A1 p.d.length c1)],rfl,rfl,e0.trans hz0 x1,hl,m1.fr ((Fr.refl [] w1).alloc _),pr_one by1,?_,(f0.trans (f1.mono (O':=H.own) (fun y hy=>by simp at hy;subst hy;rw [hl.g];exact hg)) (fun y hy => .inl hy)).alloc _⟩
 intro b hb
 simp [ob,Value.ownBlock] at hb
 subst hb
 exact⟨by omega,fun hs=>by have:=hp _ hs;omega⟩
abbrev arP(p:Prt)(dv:Value):Array Value:=#[.int .i64 p.flags, .int .u32 p.seq, .int .u32 p.ack, .int .u16 p.win,dv]
set_option maxHeartbeats 4000000 in
theorem listen_si{S:Nat→Prop}{w:World}{H:Hd}{x:St}(m:SI S w H x)(hi:Inv x.heap)(hu:x.unread.length≤100000)(p:Prt)(A:Option Addr)(c:Nat) :
  Calls Tryz.prog 51 #[ptr H.g,agP p (.slice A p.d.length c)] w (LPost S w H (listenV x p)):=by
 obtain⟨fl,sq,ak,wi,d⟩:=p
 dsimp only
 have hgl:=m.blk.lt
 have f0:Fr [] w (w.alloc (.cells (arP ⟨fl,sq,ak,wi,d⟩ (.slice A d.length c)) 49)):=(Fr.refl [] w).alloc _
 have b0:Blk (w.alloc (.cells (arP ⟨fl,sq,ak,wi,d⟩ (.slice A d.length c)) 49)) w.heap.size 49 (arP ⟨fl,sq,ak,wi,d⟩ (.slice A d.length c)):=Blk.new w _ _
 have m0:=m.fr f0
 have M:=hI m
 by_cases hfl:fl=1
 ·have hv:listenV x ⟨fl,sq,ak,wi,d⟩=(shows { x with peer:=sq,at_:=3 },[beginsV { x with peer:=sq,at_:=3 }]):=by unfold listenV;rw [if_pos hfl]
  rw [hv]
  clear hv
  subst hfl
  go_enter Tryz.func51,Tryz.ntmps51
  go_upto_region 1 with fail
  generalize w.alloc (.cells (arP ⟨1,sq,ak,wi,d⟩ (.slice A d.length c)) 49)=w0 at *
  obtain⟨y0,y1,y2,y3,y4⟩:=cells5 b0
  have cs:=scells m0.blk
  have c0:=cs.c0
  have c2:=cs.c2
  have z0:=m0.blk.frozen 0
  have z2:=m0.blk.frozen 2
  have ng:H.g≠w.heap.size:=by omega
  have M0:=hI m0
  have F0:=hI f0
  clear m m0 f0 b0 cs
  go_wp2_with fail
  have f1:Fr [H.g] w0 ((w0.setCell ⟨H.g,2,none⟩ (.int .u32 sq)).setCell ⟨H.g,0,none⟩ (.int .i64 3)):=((Fr.refl [H.g] w0).setCell (p:=⟨H.g,2,none⟩) (.inl (by simp)) _).setCell (p:=⟨H.g,0,none⟩) (.inl (by simp)) _
  have B1:Blk ((w0.setCell ⟨H.g,2,none⟩ (.int .u32 sq)).setCell ⟨H.g,0,none⟩ (.int .i64 3)) H.g 74 (arS { x with peer:=sq,at_:=3 } H):=by simpa using (M0.out.blk.set_ 2 (.int .u32 sq)).set_ 0 (.int .i64 3)
  have m1:=M0.out.set (x':={ x with peer:=sq,at_:=3 }) f1 B1 rfl rfl rfl rfl rfl
  generalize (w0.setCell ⟨H.g,2,none⟩ (.int .u32 sq)).setCell ⟨H.g,0,none⟩ (.int .i64 3)=w1 at *
  refine (begins_si m1 hi hu).mono ?_
  rintro e w2 ⟨S2,A2,c2',rfl,x2,by2,m2,f2⟩
  have hp:=lpost_one (Ext.refl w S) (Hd.like.rfl' w H) ((F0.out.mono (by simp)).trans (f1.mono (O':=H.own) (by simp [Hd.own])) (fun y hy => .inl hy)) (⟨S2,A2,c2',rfl,x2,by2,m2,f2⟩:PartPost S w1 H _ _ (.returned (agP (beginsV { x with peer:=sq,at_:=3 }) (.slice A2 _ c2'))) w2) rfl
  have HP:=hI hp
  clear hp x2 by2 m2 f2 m1 f1 B1 c0 c2 z0 z2 y0 y1 y2 y3 y4
  go_wp2_with fail
  go_ret
  exact HP.out
 ·have hv:listenV x ⟨fl,sq,ak,wi,d⟩=(x,[]):=by unfold listenV;rw [if_neg hfl]
  rw [hv]
  clear hv
  go_enter Tryz.func51,Tryz.ntmps51
  go_wp2_with fail
  go_ret
  exact lpost_nil (M.out.fr f0) (f0.mono (by simp))
theorem place_any(a b near:Int)(w:World)(h2:-9223372036854775808≤near)(h3:near≤9223372036854775807):Calls Tryz.prog 114 #[.int .u32 a, .int .u32 b, .int .i64 near] w fun e w'=>e = .returned (.int .i64 (placeV a b near))∧Fr [] w w':=by
 have hn:=Sne.near_walk ((a - b - 1) % 4294967296) near w (by omega) (by omega) h2 h3
 have he:placeV a b near=(Sne.nearV ((a - b - 1) % 4294967296) near).1:=rfl
 rw [he]
 have hq:((a - b) % 4294967296 - 1) % 4294967296=(a - b - 1) % 4294967296:=by omega
 generalize (Sne.nearV ((a - b - 1) % 4294967296) near).1=v at *
 generalize (Sne.nearV ((a - b - 1) % 4294967296) near).2=v2 at *
 generalize (a - b - 1) % 4294967296=q at *
 have HN:=hI hn
 clear hn
 go_enter Tryz.func114,Tryz.ntmps114
 go_wp2_with fail
 refine HN.out.mono ?_
 rintro e w1 ⟨rfl,f1⟩
 go_wp2_with fail
 go_ret
 exact⟨rfl,f1⟩
theorem ack_facts{B:Int}{v:Win.Wn}(h:Win.Inv B v)(u r:Int):v.a≤(Win.ackV v u r).1.a∧(Win.ackV v u r).1.a=v.a+(Win.ackV v u r).2.1∧(Win.ackV v u r).1.a≤v.m∨((Win.ackV v u r).1=v∧(Win.ackV v u r).2.1=0):=by
 have hb:=Win.Inv.bd h
 unfold Win.ackV
 (repeat' split)
 ·exact .inr ⟨rfl,rfl⟩
 ·exact .inr ⟨rfl,rfl⟩
 ·exact .inr ⟨rfl,rfl⟩
 ·left
  simp only []
  omega
theorem SI.acked{S:Nat→Prop}{w w1 w2:World}{H:Hd}{x:St}{v:Win.Wn}{A:Option Addr}{c k:Nat}(m:SI S w H x)(f:Fr [H.gw] w w1)(C:Win.Win w1 H.gw v true)(hk:v.a.toNat=x.win.a.toNat+k)
  (f2:Fr [] w1 w2) (own:w2.ownsRow 0 5 1 (.slice A ((bufV x).drop k).length c) ((bufV x).drop k).length (byts ((bufV x).drop k))) (fb:∀ b,(Value.slice A ((bufV x).drop k).length c).ownBlock=some b→w1.heap.size≤b) :
  SI S (w2.setCell ⟨H.g,14,none⟩ (.slice A ((bufV x).drop k).length c)) ⟨H.g,H.gw,H.gc,H.gh, .slice A ((bufV x).drop k).length c,H.uv,H.kv⟩ { x with win:=v }∧Fr [H.g,H.gw] w (w2.setCell ⟨H.g,14,none⟩ (.slice A ((bufV x).drop k).length c)):=by
 have hO:∀ y∈[H.gw],¬ S y:=fun y hy=>by simp at hy;subst hy;exact m.nS _ (.inr (.inl rfl))
 have nk:∀ y∈H.gh::ob H.kv,y≠H.gw:=by
  obtain⟨ev,L,n⟩:=m.hp
  intro y hy
  rcases List.mem_cons.1 hy with rfl|hy
  ·exact blk_ne n.blk m.win (by decide)
  ·rintro rfl;exact own_ne n.kp.own m.win (by decide) (mem_ob.1 hy)
 have hz:=f.size
 have f3:Fr [H.g] w2 (w2.setCell ⟨H.g,14,none⟩ (.slice A ((bufV x).drop k).length c)):=(Fr.refl [H.g] w2).setCell (p:=⟨H.g,14,none⟩) (.inl (by simp)) _
 have F:Fr [H.g,H.gw] w (w2.setCell ⟨H.g,14,none⟩ (.slice A ((bufV x).drop k).length c)):=((f.mono (by simp)).trans (f2.mono (O':=[H.g,H.gw]) (by simp)) (fun y hy => .inl hy)).trans (f3.mono (O':=[H.g,H.gw]) (by simp)) (fun y hy => .inl hy)
 have hO3:∀ y∈[H.g],¬ S y:=fun y hy=>by simp at hy;subst hy;exact m.nS _ (.inl rfl)
 have B2:Blk w2 H.g 74 (arS x H):=(m.blk.fr f (by simpa using fun e=>m.ne_w e.symm)).fr f2 (by simp)
 have hbuf:bufV { x with win:=v }=(bufV x).drop k:=by unfold bufV;rw [List.drop_drop,hk]
 have hun:=own_fr (own_fr m.unr f (fun b hb=>by simp;rintro rfl;exact own_ne m.unr m.win (by decide) hb)) f2 (by simp)
 have hp1:=m.hp.ext' f (Ext.refl w S) hO (fun y hy=>by simpa using nk y hy) (fun b hb=>Nat.lt_of_lt_of_le (HP.pub' m.hp b hb) f.size)
 have hp2:=hp1.ext' f2 (Ext.refl w1 S) (by simp) (by simp) (fun b hb=>Nat.lt_of_lt_of_le (HP.pub' hp1 b hb) f2.size)
 have hgx:∀ y∈H.gh::ob H.kv,y∉[H.g]:=fun y hy=>by simpa using m.ne_h y hy
 have hpub:∀ b,S b→b<w.heap.size:=HP.pub' m.hp
 refine⟨⟨by simpa using B2.set_ 14 (.slice A ((bufV x).drop k).length c),Blk.fr (Blk.fr C f2 (by simp)) f3 (by simpa using m.ne_w),Blk.fr (Blk.fr (Blk.fr m.clk f (by simpa using blk_ne m.clk m.win (by decide))) f2 (by simp)) f3 (by simpa using m.ne_c),
  hp2.ext' f3 (Ext.refl w2 S) hO3 hgx (fun b hb=>Nat.lt_of_lt_of_le (HP.pub' hp2 b hb) f3.size),by rw [hbuf];exact own_fr own f3 (fun b hb=>by simp;rintro rfl;exact own_ne own B2 (by decide) hb),own_fr hun f3 (fun b hb=>by simpa using m.ne_u b (mem_ob.2 hb)),fun y hy=>?_,fun y hy hu=>?_⟩,F⟩
 ·rcases hy with h|h|h|h|h
  ·exact m.nS y (.inl h)
  ·exact m.nS y (.inr (.inl h))
  ·exact m.nS y (.inr (.inr (.inl h)))
  ·have h1:=fb y (mem_ob.1 h)
   intro hs
   have:=hpub y hs
   omega
  ·exact m.nS y (.inr (.inr (.inr (.inr h))))
 ·have h1:=fb y (mem_ob.1 hy)
  have h2:=own_lt m.unr (mem_ob.1 hu)
  omega
end Go.Proofs.YtmgdbbbdhkfdmaaGreat
