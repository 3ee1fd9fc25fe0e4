import Derived.Test.YtmgdbbbdhkfdmaaGreatYS8
import Derived.Deep.DeepCutAuto
import Derived.Test.YtmgdbbbdhkfdmaaGreatYS5
import Derived.Test.YtmgdbbbdhkfdmaaGreatYS3
import Derived.Test.YtmgdbbbdhkfdmaaGreatYS0
set_option linter.unusedSimpArgs false
set_option linter.unusedVariables false
namespace Go.Proofs.YtmgdbbbdhkfdmaaGreat
set_option maxRecDepth 100000
open Go.RowKit Go.Deep
set_option maxHeartbeats 8000000 in
theorem data_si{S:Nat→Prop}{w:World}{H:Hd}{x:St}(m:SI S w H x)(hi:Inv x.heap)(p:Prt)(dv:Value)(T:Nat→Prop)(hd:Byt T w dv p.d)(hT:∀ b,T b→b∉H.own)(hl:p.d.length≤100)(hu:x.unread.length≤1024)(hf0:0≤p.flags)(hf1:p.flags≤15) :
  Calls Tryz.prog 93 #[ptr H.g,agP p dv] w (DataPost S w H (dataV x p)):=by
 have hy:=dataV_eq x p
 generalize dataV x p=y at *
 have hi1:Inv (data1V x p):=by unfold data1V;split;exact end_inv hi _;exact hi
 have hd1:data1V x p=if has p.flags 4 then (endV x.heap (placeV p.seq x.peer x.heap.next+p.d.length)).1 else x.heap:=rfl
 obtain⟨fl,sq,ak,wi,d⟩:=p
 dsimp only at *
 obtain⟨A,c,rfl,_,_⟩:=hd.form
 have hn0:=hi.n0
 have hn1:=hi.n1
 have hpb:=place_bd sq x.peer x.heap.next hn0
 have hgl:=m.blk.lt
 have f0:Fr [] w (w.alloc (.cells (arP ⟨fl,sq,ak,wi,d⟩ (.slice A d.length c)) 49)):=(Fr.refl [] w).alloc _
 have b0:Blk (w.alloc (.cells (arP ⟨fl,sq,ak,wi,d⟩ (.slice A d.length c)) 49)) w.heap.size 49 (arP ⟨fl,sq,ak,wi,d⟩ (.slice A d.length c)):=Blk.new w _ _
 have M:=hI m
 have HD:=hI hd
 have HT:=hI hT
 have HI:=hI hi
 have HI1:=hI hi1
 have HD1:=hI hd1
 have hpl0:=fun W=>place_any sq x.peer x.heap.next W (by omega) (by omega)
 have HPl0:=hI hpl0
 have hbit:=has_bits fl 4 hf0 hf1 (by simp)
 clear m hd hT hi hi1 hd1 hpl0
 generalize data1V x ⟨fl,sq,ak,wi,d⟩=h1 at *
 generalize placeV sq x.peer x.heap.next=at_ at *
 have HY:=hI hy
 clear hy
 have hat:IntKind.i64.wrap (at_+(d.length:Int))=at_+(d.length:Int):=IntWalk.i64_in _ (by omega)
 go_enter Tryz.func93,Tryz.ntmps93
 go_upto_region 1 with fail
 generalize w.alloc (.cells (arP ⟨fl,sq,ak,wi,d⟩ (.slice A d.length c)) 49)=w0 at *
 have m0:=M.out.fr f0
 have cs:=scells m0.blk
 obtain⟨y0,y1,y2,y3,y4⟩:=cells5 b0
 have g0:=Grew.cell y1
 have g1:=Grew.cell cs.c2
 have g2:=Grew.cell cs.c18
 have hN:∀ q:Grew w0,Calls Tryz.prog 49 #[ptr H.gh] q.W fun e w'=>e = .returned (.int .i64 x.heap.next)∧∃ q':Grew w0,w'=q'.W:=fun q=>grew_same (next_hp (m0.hp.ext' q.fr (Ext.refl w0 S) (by simp) (by simp) (fun b hb=>Nat.lt_of_lt_of_le (HP.pub' m0.hp b hb) q.fr.size)))
 have hP:∀ q:Grew w0,Calls Tryz.prog 114 #[.int .u32 sq, .int .u32 x.peer, .int .i64 x.heap.next] q.W fun e w'=>e = .returned (.int .i64 at_)∧∃ q':Grew w0,w'=q'.W:=fun q=>grew_call (HPl0.out q.W)
 have HN:=hI hN
 have HPl:=hI hP
 have F0:=hI f0
 have B0:=hI b0
 clear hN hP m0 cs y0 y1 y2 y3 y4 f0 b0
 refine wp_region_grew (by kernel_rfl) (by kernel_rfl) ?_
 repeat (go_big_quiet_step (first|(go_at_call 49;exact HN.out _)|(go_at_call 114;exact HPl.out _)))
 refine wpQuiet_nil ?_
 intro w2 f2
 have F2:=hI (F0.out.trans f2 (by simp))
 have B2:=hI (B0.out.fr f2 (by simp))
 have m2:=M.out.fr F2.out
 have cs:=scells m2.blk
 have c18:=cs.c18
 obtain⟨y0,y1,y2,y3,y4⟩:=cells5 B2.out
 have M2:=hI m2
 have hgh2:∀ y∈H.gh::ob H.kv,y≠H.g:=m2.ne_h
 have NG:=hI hgh2
 clear f2 g0 g1 g2 HN HPl F0 B0 m2 cs hgh2
 rcases Bool.eq_false_or_eq_true (has fl 4) with hf|hf
 ·rw [hf] at hbit
  have hbq:(bits BinOp.and IntKind.i64 fl 4 != 0)=true:=by simpa using hbit
  have hh1:h1=(endV x.heap (at_+d.length)).1:=by rw [HD1.out,hf];rfl
  have HH1:=hI hh1
  clear hbit hh1
  go_wp2_with fail
  refine (end_any M2.out.hp HI.out (at_+d.length)).mono ?_
  rintro e w3 ⟨S1,rfl,e3,m3,f3⟩
  rw [← HH1.out] at m3
  have E3:=hI e3
  have F3:=hI f3
  have M3:=hI (M2.out.seth e3 m3 (f3.mono (by simp)) (fun b hb => .inl hb)).1
  clear e3 m3 f3 c18 hbq
  have c15:w3.cell? ⟨H.g,15,none⟩=some H.uv:=(scells M3.out.blk).c15
  have c18':w3.cell? ⟨H.g,18,none⟩=some (ptr H.gh):=(scells M3.out.blk).c18
  obtain⟨uA,uc,huv,_,_⟩:=own_form M3.out.unr
  have UN:=hI M3.out.unr
  rw [huv] at c15
  have HUV:=hI huv
  have g15:=Grew.cell c15
  have g18:=Grew.cell c18'
  have hN:∀ q:Grew w3,Calls Tryz.prog 49 #[ptr H.gh] q.W fun e w'=>e = .returned (.int .i64 h1.next)∧∃ q':Grew w3,w'=q'.W:=fun q=>grew_same (next_hp (M3.out.hp.ext' q.fr (Ext.refl w3 S1) (by simp) (by simp) (fun b hb=>Nat.lt_of_lt_of_le (HP.pub' M3.out.hp b hb) q.fr.size)))
  have HN:=hI hN
  have hb0:=HI1.out.n0
  have hb1:=HI1.out.n1
  have hs1:IntKind.i64.wrap (at_+(d.length:Int) - h1.next)=at_+(d.length:Int) - h1.next:=IntWalk.i64_in _ (by omega)
  have hs2:IntKind.i64.wrap (1024 - (x.unread.length:Int))=1024 - (x.unread.length:Int):=IntWalk.i64_in _ (by omega)
  have W3F:Hid (Fr H.own w w3):=hI ((F2.out.mono (by simp)).trans (F3.out.mono (O':=H.own) (by simp [Hd.own])) (fun y hy => .inl hy))
  clear hN huv y0 y1 y2 y3 y4
  have B3:=hI (B2.out.fr F3.out (by simp;have:=M.out.lt H.gh (by simp [Hd.own]);omega))
  by_cases hc:0<d.length∧at_+d.length - h1.next≤1024 - x.unread.length
  ·have hY:=HY.out
   rw [if_pos hc] at hY
   have HYY:=hI hY
   clear hY
   obtain⟨hc1,hc2⟩:=hc
   have hq1:(0:Int)<(d.length:Int):=by omega
   go_upto_region 5 with fail
   refine wp_region_grew (by kernel_rfl) (by kernel_rfl) ?_
   repeat (go_big_quiet_step ((go_at_call 49;exact HN.out _)))
   refine wpQuiet_nil ?_
   intro w4 f4
   have m4:=M3.out.fr f4
   have F4:=hI f4
   have hby:Byt T w4 (.slice A d.length c) d:=(HD.out.fr W3F.out (fun y hy hs=>HT.out y hs hy)).fr f4 (by simp)
   have hput:∀ W,Fr [] w4 W→Calls Tryz.prog 117 #[ptr H.gh, .int .i64 at_, .slice A d.length c] W (PutPost S1 W H.gh H.kv (putV h1 at_ d).1 (putV h1 at_ d).2.1 (putV h1 at_ d).2.2):=fun W fW=>put_any (m4.fr fW).hp HI1.out at_ _ d T (hby.fr fW (by simp)) (by omega)
   have hpo:=put_out h1 at_ d
   have hsm:=sum_le h1 HI1.out
   have hYY:=HYY.out
   have M4:=hI m4
   have e18:w4.cell? ⟨H.g,18,none⟩=some (ptr H.gh):=fr_cell f4 c18'
   have e4:w4.cell? ⟨w.heap.size,4,none⟩=some (.slice A d.length c):=by have:=(B3.out.fr f4 (by simp));exact (cells5 this).2.2.2.2
   have SEE:Hid (∀ W,Fr [] w4 W→W.cell? ⟨H.g,18,none⟩=some (ptr H.gh)∧W.cell? ⟨w.heap.size,4,none⟩=some (.slice A d.length c)):=hI (fun W fW=>⟨fr_cell fW e18,fr_cell fW e4⟩)
   have NR:Hid (w.heap.size∉H.gh::ob H.kv):=hI (fun hm=>by have:=M.out.lt w.heap.size (by rcases List.mem_cons.1 hm with h|h <;> simp [Hd.own,h]);omega)
   have NGG:Hid (H.g∉H.gh::ob H.kv):=hI (fun hm=>NG.out _ hm rfl)
   generalize putV h1 at_ d=Q at *
   have HPut:=hI hput
   have HYQ:=hI hYY
   clear hput hby m4 f4 hYY g15 g18 c15 hc1 hc2 HYY
   go_upto_region 6 with fail
   go_region_held3 (fun w'=>w'.cell? ⟨H.g,18,none⟩=some (ptr H.gh)∧w'.cell? ⟨w.heap.size,4,none⟩=some (.slice A d.length c))
    (first
     | (with_reducible exact⟨s0,s1⟩)
     | (with_reducible exact SEE.out _ (Fr.refl [] w4).drew)
     | go_keep)
    (first
     | (go_at_call 117;refine (HPut.out _ (Fr.refl [] w4).drew).mono ?_;rintro e w5 ⟨S5,kv5,A5,c5,rfl,x5,by5,m5,f5,n5⟩;have f5':Fr (H.gh::ob H.kv) w4 w5:=(Fr.refl (H.gh::ob H.kv) w4).drew.trans f5 (fun y hy => .inl hy);have s0:w5.cell? ⟨H.g,18,none⟩=some (ptr H.gh):=(f5'.cell (p:=⟨H.g,18,none⟩) (World.block_lt_of_cell? w4 _ e18) NGG.out).trans e18;have s1:w5.cell? ⟨w.heap.size,4,none⟩=some (.slice A d.length c):=(f5'.cell (p:=⟨w.heap.size,4,none⟩) (World.block_lt_of_cell? w4 _ e4) NR.out).trans e4;have X5:Hid (Ext w4 S1 S5):=hI x5;have BY5:=hI by5;have SH:=hI (M4.out.seth (h':=Q.1) x5 m5 f5' n5);have F5:=hI f5';clear x5 by5 m5 f5 n5 f5'))
   obtain⟨m5,lk5⟩:=SH.out
   generalize Q.1=q1 at *
   generalize Q.2.1=o5 at *
   generalize Q.2.2=er at *
   have d15:w5.cell? ⟨H.g,15,none⟩=some (.slice uA x.unread.length uc):=by rw [← HUV.out];exact (scells m5.blk).c15
   have z15:w5.frozen? ⟨H.g,15,none⟩=false:=m5.blk.frozen 15
   have UN5:Hid (w5.ownsRow 0 5 1 (.slice uA x.unread.length uc) x.unread.length (byts x.unread)):=hI (by rw [← HUV.out];exact m5.unr)
   have M5:=hI m5
   have LK5:=hI lk5
   have HLM:Hid (x.unread.length+o5.length≤maxLen):=hI (by unfold maxLen;omega)
   have HLB:Hid ((x.unread.length+o5.length) * 1≤140737488355328):=hI (by omega)
   have NU:Hid (H.g∉ob H.uv):=hI (fun hm=>m5.ne_u _ hm rfl)
   have hgl5:=m5.blk.lt
   clear m5 lk5 SH hpo hsm e18 e4
   obtain⟨i0,hi0,hz0,hz1,hz2⟩:=info_parts info_u8
   go_upto_region 8 with (at_builtin;refine wpList_append_sl _ rfl (.tmp 71) (.tmp 72) 30 rfl 5 i0 (.int .u8 0) 1 1 Tryz.underlying30 hi0 hz0 hz1 hz2 rfl (by decide) (.slice uA x.unread.length uc) x.unread.length (byts x.unread) (by rfl) UN5.out S5 (.slice A5 o5.length c5) o5.length (byts o5) (by rfl) BY5.out (byts_one _) HLM.out HLB.out (x.unread.length+o5.length) rfl ?_;intro A7 c7 W7 h10 h11 h12;have H10:=hI h10;have h11':Fr (ob H.uv) w5 W7:=(by rw [HUV.out];exact h11);have H11:=hI h11';have H12:=hI h12;have co7:=M5.out.blk.fr h11' NU.out;have y0:W7.cell? ⟨H.g,15,none⟩=some (.slice uA x.unread.length uc):=(by rw [← HUV.out];exact (scells co7).c15);have y1:=co7.frozen 15;have y2:=co7.lt;have y3:=(scells co7).c18;clear h10 h11 h11' h12 co7)
   have su:=M5.out.setu (b:=o5) (uv' := .slice A7 (x.unread.length+o5.length) c7) (by have:=H10.out;rw [byts_app] at this;rw [List.length_append];exact this) H11.out (fun y hy=>by rw [HUV.out];exact H12.out y hy)
   clear d15 z15 y0 y1 y2 y3 H10 H11 H12 UN5
   obtain⟨m8,lk8,f8⟩:=su
   generalize W7.setCell ⟨H.g,15,none⟩ (.slice A7 (x.unread.length+o5.length) c7)=w8 at *
   have M8:=hI m8
   have LK8:=hI lk8
   have F8:=hI f8
   have b18:w8.cell? ⟨H.g,18,none⟩=some (ptr H.gh):=(scells m8.blk).c18
   clear m8 lk8 f8 hi0 hz0 hz1 hz2 s0 s1
   go_wp2_with fail
   refine (done_hp M8.out.hp).mono ?_
   rintro e w9 ⟨rfl,f9⟩
   have m9:=M8.out.fr f9
   have z12:w9.frozen? ⟨H.g,12,none⟩=false:=m9.blk.frozen 12
   have d12:w9.cell? ⟨H.g,12,none⟩=some (.bool x.ended):=(scells m9.blk).c12
   have hl9:=m9.blk.lt
   have M9:=hI m9
   have F9:=hI f9
   clear m9 f9 b18
   go_wp2_with fail
   have m10:=M9.out.setended (isFin q1)
   go_end0
   rw [HYQ.out]
   have hz4:=F4.out.size
   have hz5:=F5.out.size
   have hzw:=W3F.out.size
   refine⟨S5,_,rfl,ext_up (E3.out.trans F3.out.size (ext_up X5.out hz4)) F2.out.size,Hd.like.trans (w1:=w4) (Hd.like.rfl' w H) (by omega) (Hd.like.trans LK5.out hz5 LK8.out),m10,?_⟩
   have G1:Fr H.own w w5:=(W3F.out.trans (F4.out.mono (by simp)) (fun y hy => .inl hy)).trans (F5.out.mono (O':=H.own) (fun y hy=>by rcases List.mem_cons.1 hy with h|h <;> simp [Hd.own,h])) (fun y hy => .inl hy)
   have G2:Fr H.own w w8:=G1.trans F8.out (fun y hy=>by
    rcases LK5.out.own y hy with h|h
    ·exact .inl h
    ·exact .inr (by omega))
   exact (G2.trans (F9.out.mono (by simp)) (fun y hy => .inl hy)).trans ((Fr.refl [H.g] w9).setCell (p:=⟨H.g,12,none⟩) (.inl (by simp)) (.bool (isFin q1))) (fun y hy => .inl (by simp at hy;simp [Hd.own,hy]))
  ·have hY:=HY.out
   rw [if_neg hc] at hY
   have HYY:=hI hY
   clear hY
   have hdone:∀ W,Fr [] w3 W→Calls Tryz.prog 118 #[ptr H.gh] W fun e w'=>e = .returned (.bool (isFin h1))∧Fr [] W w':=fun W fW=>done_hp (M3.out.fr fW).hp
   have HDn:=hI hdone
   clear hdone
   by_cases hq:0<(d.length:Int)
   ·have hq2:¬ (at_+(d.length:Int) - h1.next≤1024 - (x.unread.length:Int)):=fun h=>hc ⟨by omega,h⟩
    have hq':0<d.length:=by omega
    clear hc hq
    go_upto_region 5 with fail
    refine wp_region_grew (by kernel_rfl) (by kernel_rfl) ?_
    repeat (go_big_quiet_step ((go_at_call 49;exact HN.out _)))
    refine wpQuiet_nil ?_
    intro w4 f4
    have M4:=hI (M3.out.fr f4)
    have e18:w4.cell? ⟨H.g,18,none⟩=some (ptr H.gh):=fr_cell f4 c18'
    have F4:=hI f4
    clear f4 g15 g18 c15
    go_wp2_with fail
    refine (HDn.out _ F4.out).mono ?_
    rintro e w5 ⟨rfl,f5⟩
    have M5:=hI (M4.out.fr f5)
    have z12:w5.frozen? ⟨H.g,12,none⟩=false:=M5.out.blk.frozen 12
    have d12:w5.cell? ⟨H.g,12,none⟩=some (.bool x.ended):=(scells M5.out.blk).c12
    have F5:=hI (F4.out.trans f5 (by simp))
    have hl5:=M5.out.blk.lt
    clear f5 e18
    go_wp2_with fail
    have m6:=M5.out.setended (isFin h1)
    go_end0
    rw [HYY.out]
    exact⟨S1,H,rfl,ext_up E3.out F2.out.size,Hd.like.rfl' w H,m6,(W3F.out.trans (F5.out.mono (by simp)) (fun y hy => .inl hy)).trans ((Fr.refl [H.g] w5).setCell (p:=⟨H.g,12,none⟩) (.inl (by simp)) (.bool (isFin h1))) (fun y hy => .inl (by simp at hy;simp [Hd.own,hy]))⟩
   ·have hq':¬ 0<d.length:=by omega
    clear hc hq
    go_upto_region 5 with fail
    refine wp_region_grew (by kernel_rfl) (by kernel_rfl) ?_
    repeat (go_big_quiet_step ((go_at_call 49;exact HN.out _)))
    refine wpQuiet_nil ?_
    intro w4 f4
    have M4:=hI (M3.out.fr f4)
    have e18:w4.cell? ⟨H.g,18,none⟩=some (ptr H.gh):=fr_cell f4 c18'
    have F4:=hI f4
    clear f4 g15 g18 c15
    go_wp2_with fail
    refine (HDn.out _ F4.out).mono ?_
    rintro e w5 ⟨rfl,f5⟩
    have M5:=hI (M4.out.fr f5)
    have z12:w5.frozen? ⟨H.g,12,none⟩=false:=M5.out.blk.frozen 12
    have d12:w5.cell? ⟨H.g,12,none⟩=some (.bool x.ended):=(scells M5.out.blk).c12
    have F5:=hI (F4.out.trans f5 (by simp))
    have hl5:=M5.out.blk.lt
    clear f5 e18
    go_wp2_with fail
    have m6:=M5.out.setended (isFin h1)
    go_end0
    rw [HYY.out]
    exact⟨S1,H,rfl,ext_up E3.out F2.out.size,Hd.like.rfl' w H,m6,(W3F.out.trans (F5.out.mono (by simp)) (fun y hy => .inl hy)).trans ((Fr.refl [H.g] w5).setCell (p:=⟨H.g,12,none⟩) (.inl (by simp)) (.bool (isFin h1))) (fun y hy => .inl (by simp at hy;simp [Hd.own,hy]))⟩
 ·rw [hf] at hbit
  have hbq:(bits BinOp.and IntKind.i64 fl 4 != 0)=false:=by simpa using hbit
  have hh1:h1=x.heap:=by rw [HD1.out,hf];rfl
  subst hh1
  clear hbit
  go_upto_region 5 with fail
  have E3:Hid (Ext w2 S S):=hI (Ext.refl w2 S)
  have F3:Hid (Fr [H.gh] w2 w2):=hI (Fr.refl _ _)
  have M3:Hid (SI S w2 H { x with heap:=x.heap }):=M2
  have c15:w2.cell? ⟨H.g,15,none⟩=some H.uv:=(scells M3.out.blk).c15
  have c18':w2.cell? ⟨H.g,18,none⟩=some (ptr H.gh):=(scells M3.out.blk).c18
  obtain⟨uA,uc,huv,_,_⟩:=own_form M3.out.unr
  have UN:=hI M3.out.unr
  rw [huv] at c15
  have HUV:=hI huv
  have g15:=Grew.cell c15
  have g18:=Grew.cell c18'
  have hN:∀ q:Grew w2,Calls Tryz.prog 49 #[ptr H.gh] q.W fun e w'=>e = .returned (.int .i64 x.heap.next)∧∃ q':Grew w2,w'=q'.W:=fun q=>grew_same (next_hp (M3.out.hp.ext' q.fr (Ext.refl w2 S) (by simp) (by simp) (fun b hb=>Nat.lt_of_lt_of_le (HP.pub' M3.out.hp b hb) q.fr.size)))
  have HN:=hI hN
  have hb0:=HI1.out.n0
  have hb1:=HI1.out.n1
  have hs1:IntKind.i64.wrap (at_+(d.length:Int) - x.heap.next)=at_+(d.length:Int) - x.heap.next:=IntWalk.i64_in _ (by omega)
  have hs2:IntKind.i64.wrap (1024 - (x.unread.length:Int))=1024 - (x.unread.length:Int):=IntWalk.i64_in _ (by omega)
  have W3F:Hid (Fr H.own w w2):=hI ((F2.out.mono (by simp)).trans (F3.out.mono (O':=H.own) (by simp [Hd.own])) (fun y hy => .inl hy))
  clear hN huv y0 y1 y2 y3 y4
  have B3:=hI (B2.out.fr F3.out (by simp;have:=M.out.lt H.gh (by simp [Hd.own]);omega))
  by_cases hc:0<d.length∧at_+d.length - x.heap.next≤1024 - x.unread.length
  ·have hY:=HY.out
   rw [if_pos hc] at hY
   have HYY:=hI hY
   clear hY
   obtain⟨hc1,hc2⟩:=hc
   have hq1:(0:Int)<(d.length:Int):=by omega
   refine wp_region_grew (by kernel_rfl) (by kernel_rfl) ?_
   repeat (go_big_quiet_step ((go_at_call 49;exact HN.out _)))
   refine wpQuiet_nil ?_
   intro w4 f4
   have m4:=M3.out.fr f4
   have F4:=hI f4
   have hby:Byt T w4 (.slice A d.length c) d:=(HD.out.fr W3F.out (fun y hy hs=>HT.out y hs hy)).fr f4 (by simp)
   have hput:∀ W,Fr [] w4 W→Calls Tryz.prog 117 #[ptr H.gh, .int .i64 at_, .slice A d.length c] W (PutPost S W H.gh H.kv (putV x.heap at_ d).1 (putV x.heap at_ d).2.1 (putV x.heap at_ d).2.2):=fun W fW=>put_any (m4.fr fW).hp HI1.out at_ _ d T (hby.fr fW (by simp)) (by omega)
   have hpo:=put_out x.heap at_ d
   have hsm:=sum_le x.heap HI1.out
   have hYY:=HYY.out
   have M4:=hI m4
   have e18:w4.cell? ⟨H.g,18,none⟩=some (ptr H.gh):=fr_cell f4 c18'
   have e4:w4.cell? ⟨w.heap.size,4,none⟩=some (.slice A d.length c):=by have:=(B3.out.fr f4 (by simp));exact (cells5 this).2.2.2.2
   have SEE:Hid (∀ W,Fr [] w4 W→W.cell? ⟨H.g,18,none⟩=some (ptr H.gh)∧W.cell? ⟨w.heap.size,4,none⟩=some (.slice A d.length c)):=hI (fun W fW=>⟨fr_cell fW e18,fr_cell fW e4⟩)
   have NR:Hid (w.heap.size∉H.gh::ob H.kv):=hI (fun hm=>by have:=M.out.lt w.heap.size (by rcases List.mem_cons.1 hm with h|h <;> simp [Hd.own,h]);omega)
   have NGG:Hid (H.g∉H.gh::ob H.kv):=hI (fun hm=>NG.out _ hm rfl)
   generalize putV x.heap at_ d=Q at *
   have HPut:=hI hput
   have HYQ:=hI hYY
   clear hput hby m4 f4 hYY g15 g18 c15 hc1 hc2 HYY
   go_upto_region 6 with fail
   go_region_held3 (fun w'=>w'.cell? ⟨H.g,18,none⟩=some (ptr H.gh)∧w'.cell? ⟨w.heap.size,4,none⟩=some (.slice A d.length c))
    (first
     | (with_reducible exact⟨s0,s1⟩)
     | (with_reducible exact SEE.out _ (Fr.refl [] w4).drew)
     | go_keep)
    (first
     | (go_at_call 117;refine (HPut.out _ (Fr.refl [] w4).drew).mono ?_;rintro e w5 ⟨S5,kv5,A5,c5,rfl,x5,by5,m5,f5,n5⟩;have f5':Fr (H.gh::ob H.kv) w4 w5:=(Fr.refl (H.gh::ob H.kv) w4).drew.trans f5 (fun y hy => .inl hy);have s0:w5.cell? ⟨H.g,18,none⟩=some (ptr H.gh):=(f5'.cell (p:=⟨H.g,18,none⟩) (World.block_lt_of_cell? w4 _ e18) NGG.out).trans e18;have s1:w5.cell? ⟨w.heap.size,4,none⟩=some (.slice A d.length c):=(f5'.cell (p:=⟨w.heap.size,4,none⟩) (World.block_lt_of_cell? w4 _ e4) NR.out).trans e4;have X5:Hid (Ext w4 S S5):=hI x5;have BY5:=hI by5;have SH:=hI (M4.out.seth (h':=Q.1) x5 m5 f5' n5);have F5:=hI f5';clear x5 by5 m5 f5 n5 f5'))
   obtain⟨m5,lk5⟩:=SH.out
   generalize Q.1=q1 at *
   generalize Q.2.1=o5 at *
   generalize Q.2.2=er at *
   have d15:w5.cell? ⟨H.g,15,none⟩=some (.slice uA x.unread.length uc):=by rw [← HUV.out];exact (scells m5.blk).c15
   have z15:w5.frozen? ⟨H.g,15,none⟩=false:=m5.blk.frozen 15
   have UN5:Hid (w5.ownsRow 0 5 1 (.slice uA x.unread.length uc) x.unread.length (byts x.unread)):=hI (by rw [← HUV.out];exact m5.unr)
   have M5:=hI m5
   have LK5:=hI lk5
   have HLM:Hid (x.unread.length+o5.length≤maxLen):=hI (by unfold maxLen;omega)
   have HLB:Hid ((x.unread.length+o5.length) * 1≤140737488355328):=hI (by omega)
   have NU:Hid (H.g∉ob H.uv):=hI (fun hm=>m5.ne_u _ hm rfl)
   have hgl5:=m5.blk.lt
   clear m5 lk5 SH hpo hsm e18 e4
   obtain⟨i0,hi0,hz0,hz1,hz2⟩:=info_parts info_u8
   go_upto_region 8 with (at_builtin;refine wpList_append_sl _ rfl (.tmp 71) (.tmp 72) 30 rfl 5 i0 (.int .u8 0) 1 1 Tryz.underlying30 hi0 hz0 hz1 hz2 rfl (by decide) (.slice uA x.unread.length uc) x.unread.length (byts x.unread) (by rfl) UN5.out S5 (.slice A5 o5.length c5) o5.length (byts o5) (by rfl) BY5.out (byts_one _) HLM.out HLB.out (x.unread.length+o5.length) rfl ?_;intro A7 c7 W7 h10 h11 h12;have H10:=hI h10;have h11':Fr (ob H.uv) w5 W7:=(by rw [HUV.out];exact h11);have H11:=hI h11';have H12:=hI h12;have co7:=M5.out.blk.fr h11' NU.out;have y0:W7.cell? ⟨H.g,15,none⟩=some (.slice uA x.unread.length uc):=(by rw [← HUV.out];exact (scells co7).c15);have y1:=co7.frozen 15;have y2:=co7.lt;have y3:=(scells co7).c18;clear h10 h11 h11' h12 co7)
   have su:=M5.out.setu (b:=o5) (uv' := .slice A7 (x.unread.length+o5.length) c7) (by have:=H10.out;rw [byts_app] at this;rw [List.length_append];exact this) H11.out (fun y hy=>by rw [HUV.out];exact H12.out y hy)
   clear d15 z15 y0 y1 y2 y3 H10 H11 H12 UN5
   obtain⟨m8,lk8,f8⟩:=su
   generalize W7.setCell ⟨H.g,15,none⟩ (.slice A7 (x.unread.length+o5.length) c7)=w8 at *
   have M8:=hI m8
   have LK8:=hI lk8
   have F8:=hI f8
   have b18:w8.cell? ⟨H.g,18,none⟩=some (ptr H.gh):=(scells m8.blk).c18
   clear m8 lk8 f8 hi0 hz0 hz1 hz2 s0 s1
   go_wp2_with fail
   refine (done_hp M8.out.hp).mono ?_
   rintro e w9 ⟨rfl,f9⟩
   have m9:=M8.out.fr f9
   have z12:w9.frozen? ⟨H.g,12,none⟩=false:=m9.blk.frozen 12
   have d12:w9.cell? ⟨H.g,12,none⟩=some (.bool x.ended):=(scells m9.blk).c12
   have hl9:=m9.blk.lt
   have M9:=hI m9
   have F9:=hI f9
   clear m9 f9 b18
   go_wp2_with fail
   have m10:=M9.out.setended (isFin q1)
   go_end0
   rw [HYQ.out]
   have hz4:=F4.out.size
   have hz5:=F5.out.size
   have hzw:=W3F.out.size
   refine⟨S5,_,rfl,ext_up (ext_up X5.out hz4) F2.out.size,Hd.like.trans (w1:=w4) (Hd.like.rfl' w H) (by omega) (Hd.like.trans LK5.out hz5 LK8.out),m10,?_⟩
   have G1:Fr H.own w w5:=(W3F.out.trans (F4.out.mono (by simp)) (fun y hy => .inl hy)).trans (F5.out.mono (O':=H.own) (fun y hy=>by rcases List.mem_cons.1 hy with h|h <;> simp [Hd.own,h])) (fun y hy => .inl hy)
   have G2:Fr H.own w w8:=G1.trans F8.out (fun y hy=>by
    rcases LK5.out.own y hy with h|h
    ·exact .inl h
    ·exact .inr (by omega))
   exact (G2.trans (F9.out.mono (by simp)) (fun y hy => .inl hy)).trans ((Fr.refl [H.g] w9).setCell (p:=⟨H.g,12,none⟩) (.inl (by simp)) (.bool (isFin q1))) (fun y hy => .inl (by simp at hy;simp [Hd.own,hy]))
  ·have hY:=HY.out
   rw [if_neg hc] at hY
   have HYY:=hI hY
   clear hY
   have hdone:∀ W,Fr [] w2 W→Calls Tryz.prog 118 #[ptr H.gh] W fun e w'=>e = .returned (.bool (isFin x.heap))∧Fr [] W w':=fun W fW=>done_hp (M3.out.fr fW).hp
   have HDn:=hI hdone
   clear hdone
   by_cases hq:0<(d.length:Int)
   ·have hq2:¬ (at_+(d.length:Int) - x.heap.next≤1024 - (x.unread.length:Int)):=fun h=>hc ⟨by omega,h⟩
    have hq':0<d.length:=by omega
    clear hc hq
    refine wp_region_grew (by kernel_rfl) (by kernel_rfl) ?_
    repeat (go_big_quiet_step ((go_at_call 49;exact HN.out _)))
    refine wpQuiet_nil ?_
    intro w4 f4
    have M4:=hI (M3.out.fr f4)
    have e18:w4.cell? ⟨H.g,18,none⟩=some (ptr H.gh):=fr_cell f4 c18'
    have F4:=hI f4
    clear f4 g15 g18 c15
    go_wp2_with fail
    refine (HDn.out _ F4.out).mono ?_
    rintro e w5 ⟨rfl,f5⟩
    have M5:=hI (M4.out.fr f5)
    have z12:w5.frozen? ⟨H.g,12,none⟩=false:=M5.out.blk.frozen 12
    have d12:w5.cell? ⟨H.g,12,none⟩=some (.bool x.ended):=(scells M5.out.blk).c12
    have F5:=hI (F4.out.trans f5 (by simp))
    have hl5:=M5.out.blk.lt
    clear f5 e18
    go_wp2_with fail
    have m6:=M5.out.setended (isFin x.heap)
    go_end0
    rw [HYY.out]
    exact⟨S,H,rfl,ext_up E3.out F2.out.size,Hd.like.rfl' w H,m6,(W3F.out.trans (F5.out.mono (by simp)) (fun y hy => .inl hy)).trans ((Fr.refl [H.g] w5).setCell (p:=⟨H.g,12,none⟩) (.inl (by simp)) (.bool (isFin x.heap))) (fun y hy => .inl (by simp at hy;simp [Hd.own,hy]))⟩
   ·have hq':¬ 0<d.length:=by omega
    clear hc hq
    refine wp_region_grew (by kernel_rfl) (by kernel_rfl) ?_
    repeat (go_big_quiet_step ((go_at_call 49;exact HN.out _)))
    refine wpQuiet_nil ?_
    intro w4 f4
    have M4:=hI (M3.out.fr f4)
    have e18:w4.cell? ⟨H.g,18,none⟩=some (ptr H.gh):=fr_cell f4 c18'
    have F4:=hI f4
    clear f4 g15 g18 c15
    go_wp2_with fail
    refine (HDn.out _ F4.out).mono ?_
    rintro e w5 ⟨rfl,f5⟩
    have M5:=hI (M4.out.fr f5)
    have z12:w5.frozen? ⟨H.g,12,none⟩=false:=M5.out.blk.frozen 12
    have d12:w5.cell? ⟨H.g,12,none⟩=some (.bool x.ended):=(scells M5.out.blk).c12
    have F5:=hI (F4.out.trans f5 (by simp))
    have hl5:=M5.out.blk.lt
    clear f5 e18
    go_wp2_with fail
    have m6:=M5.out.setended (isFin x.heap)
    go_end0
    rw [HYY.out]
    exact⟨S,H,rfl,ext_up E3.out F2.out.size,Hd.like.rfl' w H,m6,(W3F.out.trans (F5.out.mono (by simp)) (fun y hy => .inl hy)).trans ((Fr.refl [H.g] w5).setCell (p:=⟨H.g,12,none⟩) (.inl (by simp)) (.bool (isFin x.heap))) (fun y hy => .inl (by simp at hy;simp [Hd.own,hy]))⟩
structure OkS(x:St):Prop where
 hi:Inv x.heap
 hu:x.unread.length≤1024
 hw:Win.Inv 1000000000 x.win
 hc:Rto.Inv x.clk
 hm:x.win.m≤x.all.length
 hl:x.all.length≤1000000
 n0:0≤x.now
 n1:x.now≤4611686018427387904
 s0:0≤x.since
 s1:x.since≤4611686018427387904
structure OkP(p:Prt):Prop where
 f0:0≤p.flags
 f1:p.flags≤15
 d1:p.d.length≤100
 w0:0≤p.win
 w1:p.win<65536
theorem ack_m(v:Win.Wn)(u r:Int):(Win.ackV v u r).1.m=v.m:=by
 unfold Win.ackV
 (repeat' split) <;> rfl
theorem acks_same(x:St)(p:Prt):(acksV x p).heap=x.heap∧(acksV x p).unread=x.unread∧(acksV x p).ended=x.ended∧(acksV x p).win.m=x.win.m∧(acksV x p).fin=x.fin:=by
 unfold acksV acks2V
 (repeat' split) <;> exact⟨rfl,rfl,rfl,ack_m _ _ _,rfl⟩
theorem data_ok(x:St)(p:Prt)(hi:Inv x.heap)(hu:x.unread.length≤1024)(hd:p.d.length≤100):Inv (dataV x p).heap∧(dataV x p).unread.length≤100000∧(dataV x p).win=x.win:=by
 rw [dataV_eq]
 have h1:Inv (data1V x p):=by unfold data1V;split;exact end_inv hi _;exact hi
 split
 ·refine⟨put_inv h1 _ _,?_,rfl⟩
  have h2:=put_out (data1V x p) (placeV p.seq x.peer x.heap.next) p.d
  have h3:=sum_le _ h1
  simp only [List.length_append]
  omega
 ·exact⟨h1,by simp only [];omega,rfl⟩
theorem LPost.of{S S0:Nat→Prop}{w w0:World}{H H0:Hd}{r:St × List Prt}{e:Ending}{w':World}(e0:Ext w S S0)(hl:Hd.like w H H0)(f0:Fr H.own w w0)(h:LPost S0 w0 H0 r e w'):LPost S w H r e w':=by
 obtain⟨S1,H1,v,L,he,hr,x1,l1,m1,p1,n1,f1⟩:=h
 have hz:=f0.size
 exact⟨S1,H1,v,L,he,hr,e0.trans hz x1,hl.trans hz l1,m1,p1,fun b hb=>⟨by have:=(n1 b hb).1;omega,(n1 b hb).2⟩,f0.trans f1 (fun y hy=>hl.own y hy)⟩
structure OkU(x:St):Prop where
 i0:0≤x.isn
 i1:x.isn<4294967296
 p0:0≤x.peer
 p1:x.peer<4294967296
structure EC(w:World)(b:Nat)(x:St)(av uv kv:Value):Prop where
 c0:w.cell? ⟨b,0,none⟩=some (.int .u32 x.isn)
 c1:w.cell? ⟨b,1,none⟩=some (.int .u32 x.peer)
 c2:w.cell? ⟨b,2,none⟩=some (.int .i64 x.at_)
 c3:w.cell? ⟨b,3,none⟩=some (.bool x.broken)
 c4:w.cell? ⟨b,4,none⟩=some av
 c5:w.cell? ⟨b,5,none⟩=some uv
 c6:w.cell? ⟨b,6,none⟩=some (.int .i64 x.win.a)
 c7:w.cell? ⟨b,7,none⟩=some (.int .i64 x.win.s)
 c8:w.cell? ⟨b,8,none⟩=some (.int .i64 x.win.m)
 c9:w.cell? ⟨b,9,none⟩=some (.int .i64 x.win.l)
 c10:w.cell? ⟨b,10,none⟩=some (.int .i64 x.clk.f)
 c11:w.cell? ⟨b,11,none⟩=some (.int .i64 x.clk.l)
 c12:w.cell? ⟨b,12,none⟩=some (.int .i64 x.clk.m)
 c13:w.cell? ⟨b,13,none⟩=some (.int .i64 x.clk.t)
 c14:w.cell? ⟨b,14,none⟩=some (.bool x.clk.is)
 c15:w.cell? ⟨b,15,none⟩=some (.int .i64 x.clk.tm)
 c16:w.cell? ⟨b,16,none⟩=some (.int .i64 x.clk.sp)
 c17:w.cell? ⟨b,17,none⟩=some (.int .i64 x.clk.wt)
 c18:w.cell? ⟨b,18,none⟩=some (.int .i64 x.clk.si)
 c19:w.cell? ⟨b,19,none⟩=some (.int .i64 x.clk.tr)
 c20:w.cell? ⟨b,20,none⟩=some (.bool x.clk.rn)
 c21:w.cell? ⟨b,21,none⟩=some (.int .i64 x.heap.most)
 c22:w.cell? ⟨b,22,none⟩=some (.int .i64 x.heap.next)
 c23:w.cell? ⟨b,23,none⟩=some kv
 c24:w.cell? ⟨b,24,none⟩=some (.int .i64 (finI x.heap.fin))
 c25:w.cell? ⟨b,25,none⟩=some (.bool x.closing)
 c26:w.cell? ⟨b,26,none⟩=some (.bool x.fin)
 c27:w.cell? ⟨b,27,none⟩=some (.bool x.acked)
 c28:w.cell? ⟨b,28,none⟩=some (.bool x.ended)
 c29:w.cell? ⟨b,29,none⟩=some (.int .i64 x.now)
 c30:w.cell? ⟨b,30,none⟩=some (.int .i64 x.since)
 c31:w.cell? ⟨b,31,none⟩=some (.int .i64 x.timed)
 c32:w.cell? ⟨b,32,none⟩=some (.int .i64 x.shown)
theorem ecells{w:World}{b:Nat}{t:TypeId}{x:St}{av uv kv:Value}(h:Blk w b t (arE x av uv kv)):EC w b x av uv kv:=
 ⟨h.cell 0,h.cell 1,h.cell 2,h.cell 3,h.cell 4,h.cell 5,h.cell 6,h.cell 7,h.cell 8,h.cell 9,h.cell 10,h.cell 11,h.cell 12,h.cell 13,h.cell 14,h.cell 15,h.cell 16,h.cell 17,h.cell 18,h.cell 19,h.cell 20,h.cell 21,h.cell 22,h.cell 23,h.cell 24,h.cell 25,h.cell 26,h.cell 27,h.cell 28,h.cell 29,h.cell 30,h.cell 31,h.cell 32⟩
set_option maxHeartbeats 2000000 in
theorem eawaited{S:Nat→Prop}{w:World}{x:St}{av uv kv:Value}(_m:RE S w x av uv kv)(ok:OkS x)(ou:OkU x):Calls Tryz.prog 66 #[agE x av uv kv] w fun e w'=>e = .returned (.int .u32 (awaitedV x))∧Fr [] w w':=by
 have f0:Fr [] w (w.alloc (.cells (arE x av uv kv) 41)):=(Fr.refl [] w).alloc _
 have b0:=Blk.new w 41 (arE x av uv kv)
 have hn0:=ok.hi.n0
 have hn1:=ok.hi.n1
 have ho:=one_bd x.ended
 have hA:∀ W,Calls Tryz.prog 103 #[.int .u32 x.peer, .int .i64 (1+x.heap.next+one x.ended)] W _:=fun W=>eadd_any x.peer (1+x.heap.next+one x.ended) W ou.p0 ou.p1 (by omega) (by omega)
 have h1:IntKind.i64.wrap (1+x.heap.next)=1+x.heap.next:=IntWalk.i64_in _ (by omega)
 have h2:IntKind.i64.wrap (1+x.heap.next+one x.ended)=1+x.heap.next+one x.ended:=IntWalk.i64_in _ (by omega)
 have HA:=hI hA
 clear hA ok ou _m
 go_enter Tryz.func66,Tryz.ntmps66
 go_wp2_with fail
 generalize w.alloc (.cells (arE x av uv kv) 41)=w1 at *
 have c:=ecells b0
 have y0:=Grew.cell c.c1
 have y1:=Grew.cell c.c22
 have y2:=Grew.cell c.c28
 have hA':∀ p:Grew w1,Calls Tryz.prog 103 #[.int .u32 x.peer, .int .i64 (1+x.heap.next+one x.ended)] p.W fun e w'=>e = .returned (.int .u32 (add32 x.peer (1+x.heap.next+one x.ended)))∧∃ q:Grew w1,w'=q.W:=fun p=>grew_same (HA.out p.W)
 have hF:∀ p:Grew w1,Calls Tryz.prog 82 #[.bool x.ended] p.W fun e w'=>e = .returned (.int .i64 (one x.ended))∧∃ q:Grew w1,w'=q.W:=fun p=>grew_same (eone_any _ _)
 have HA':=hI hA'
 have HF:=hI hF
 clear hF hA' c b0 hn0 hn1 ho
 refine wp_region_grew (by kernel_rfl) (by kernel_rfl) ?_
 repeat (go_big_quiet_step (first|(go_at_call 103;exact HA'.out _)|(go_at_call 82;exact HF.out _)))
 refine wpQuiet_nil ?_
 intro W1 f1
 go_wp2_with fail
 go_ret
 exact⟨rfl,f0.trans f1 (by simp)⟩
set_option maxHeartbeats 2000000 in
theorem eroom{S:Nat→Prop}{w:World}{x:St}{av uv kv:Value}(m:RE S w x av uv kv)(ok:OkS x):Calls Tryz.prog 65 #[agE x av uv kv] w fun e w'=>e = .returned (.int .i64 (roomV x))∧Fr [] w w':=by
 have f0:Fr [] w (w.alloc (.cells (arE x av uv kv) 41)):=(Fr.refl [] w).alloc _
 have b0:=Blk.new w 41 (arE x av uv kv)
 have hs:=sum_le x.heap ok.hi
 have hu:=ok.hu
 have hR:(Win.offerV 1024 (min 1024 ((x.unread.length:Int)+sumV x.heap.kept))).1=roomV x:=rfl
 have h1:IntKind.i64.wrap ((x.unread.length:Int)+sumV x.heap.kept)=(x.unread.length:Int)+sumV x.heap.kept:=IntWalk.i64_in _ (by omega)
 obtain⟨uA,uc,rfl,_,_⟩:=m.bu.form
 have m1:=m.fr f0
 obtain⟨L,r⟩:=m1.hp
 have hl:=ok.hi.len
 have hpc:∀ x∈L,x.1.d.length≤64:=fun q hq=>(ok.hi.pc q.1 (by rw [r.kept];exact List.mem_map_of_mem hq)).2.2.2
 have hL:L.length≤64:=by
  have:=ok.hi.m1
  have e:x.heap.kept.length=L.length:=by rw [r.kept,List.length_map]
  omega
 have hk:sumV (L.map (·.1))=sumV x.heap.kept:=by rw [r.kept]
 have hH:∀ W,Fr [] (w.alloc (.cells (arE x av (.slice uA x.unread.length uc) kv) 41)) W→Calls Tryz.prog 102 #[agR x.heap.most x.heap.next kv (finI x.heap.fin)] W fun e w'=>e = .returned (.int .i64 (sumV x.heap.kept))∧Fr [] W w':=fun W f=>by
  have:=rheld S W x.heap.most x.heap.next (finI x.heap.fin) kv L (r.kp.fr f (by simp) (by simp)) hL hpc
  rw [hk] at this
  exact this
 have hO:∀ W,Calls Tryz.prog 101 #[.int .i64 1024, .int .i64 (min 1024 ((x.unread.length:Int)+sumV x.heap.kept))] W _:=fun W=>Win.roffer_any _ _ W
 generalize (Win.offerV 1024 (min 1024 ((x.unread.length:Int)+sumV x.heap.kept))).2=o2 at *
 rw [hR] at hO
 generalize roomV x=rv at *
 have HH:=hI hH
 have HO:=hI hO
 clear hH hO hR hs hu ok hl hpc hL hk r m m1
 go_enter Tryz.func65,Tryz.ntmps65
 go_wp2_with fail
 generalize w.alloc (.cells (arE x av (.slice uA x.unread.length uc) kv) 41)=w1 at *
 have c:=ecells b0
 have y5:=Grew.cell c.c5
 have y21:=Grew.cell c.c21
 have y22:=Grew.cell c.c22
 have y23:=Grew.cell c.c23
 have y24:=Grew.cell c.c24
 have hH':∀ p:Grew w1,Calls Tryz.prog 102 #[agR x.heap.most x.heap.next kv (finI x.heap.fin)] p.W fun e w'=>e = .returned (.int .i64 (sumV x.heap.kept))∧∃ q:Grew w1,w'=q.W:=fun p=>grew_call (HH.out p.W p.fr)
 have hO':∀ p:Grew w1,Calls Tryz.prog 101 #[.int .i64 1024, .int .i64 (min 1024 ((x.unread.length:Int)+sumV x.heap.kept))] p.W fun e w'=>e = .returned (.tuple #[.int .i64 rv, .int .i64 o2])∧∃ q:Grew w1,w'=q.W:=fun p=>grew_same (HO.out p.W)
 have HH':=hI hH'
 have HO':=hI hO'
 clear hH' hO' c b0
 refine wp_region_grew (by kernel_rfl) (by kernel_rfl) ?_
 repeat (go_big_quiet_step (first|(go_at_call 102;exact HH'.out _)|(go_at_call 101;exact HO'.out _)))
 refine wpQuiet_nil ?_
 intro W1 f1
 go_wp2_with fail
 go_ret
 exact⟨rfl,f0.trans f1 (by simp)⟩
set_option maxHeartbeats 4000000 in
theorem ewaits{S:Nat→Prop}{w:World}{x:St}{av uv kv:Value}(m:RE S w x av uv kv):Calls Tryz.prog 67 #[agE x av uv kv] w fun e w'=>e = .returned (.bool (waitsV x))∧Fr [] w w':=by
 have f0:Fr [] w (w.alloc (.cells (arE x av uv kv) 41)):=(Fr.refl [] w).alloc _
 have b0:=Blk.new w 41 (arE x av uv kv)
 obtain⟨aA,ac,rfl,_,_⟩:=m.ba.form
 have hz0:∀ W,Calls Tryz.prog 104 #[Win.agW x.win] W fun e w'=>e = .returned (.bool (Win.zeroV x.win))∧Fr [] W w':=fun W=>Win.rzero x.win W
 by_cases h4:x.at_=4
 ·cases hA:decide (x.win.a<x.win.m) <;> cases hfi:x.fin <;> cases hac:x.acked <;> cases hz:Win.zeroV x.win <;> cases hl:decide (x.win.a<(x.all.length:Int))
  all_goals
   rw [hz] at hz0
   have HZ:=hI hz0
   have H4:=hI h4
   have HA:=hI hA
   have HFI:=hI hfi
   have HAC:=hI hac
   have HZZ:=hI hz
   have HL:=hI hl
   clear hz0 m
   go_enter Tryz.func67,Tryz.ntmps67
   go_wp2_with (go_at_call 104;refine (HZ.out _).mono ?_;rintro e w5 ⟨rfl,f5⟩;have B5:=(b0.fr ((Fr.refl [] _).alloc (.cells #[.int .i64 x.win.a, .int .i64 x.win.s, .int .i64 x.win.m, .int .i64 x.win.l] 32)) (by simp)).fr f5 (by simp);have u4:w5.cell? ⟨w.heap.size,4,none⟩=some (.slice aA x.all.length ac):=B5.cell 4;have C5:=(Blk.new (w.alloc (.cells (arE x (.slice aA x.all.length ac) uv kv) 41)) 32 #[.int .i64 x.win.a, .int .i64 x.win.s, .int .i64 x.win.m, .int .i64 x.win.l]).fr f5 (by simp);rw [World.size_alloc] at C5;have u0:w5.cell? ⟨w.heap.size+1,0,none⟩=some (.int .i64 x.win.a):=C5.cell 0;clear B5 C5)
   go_ret
   have hv:waitsV x=(4 == 2 || (4 == 3 || (4 == 4 && (decide (x.win.a<x.win.m) || (x.fin && !x.acked || Win.zeroV x.win && decide (x.win.a<(x.all.length:Int))))))):=by unfold waitsV;rw [H4.out];rfl
   rw [HA.out,HFI.out,HAC.out,HZZ.out,HL.out] at hv
   rw [hv]
   first|exact⟨rfl,(f0.alloc _).trans f5 (by simp)⟩|exact⟨rfl,f0.alloc _⟩
 ·by_cases h2:x.at_=2
  ·have H2:=hI h2
   clear hz0 m
   go_enter Tryz.func67,Tryz.ntmps67
   go_wp2_with fail
   go_ret
   exact⟨by unfold waitsV;rw [H2.out];rfl,f0.alloc _⟩
  ·by_cases h3:x.at_=3
   ·have H3:=hI h3
    clear hz0 m
    go_enter Tryz.func67,Tryz.ntmps67
    go_wp2_with fail
    go_ret
    exact⟨by unfold waitsV;rw [H3.out];rfl,f0.alloc _⟩
   ·clear hz0 m
    go_enter Tryz.func67,Tryz.ntmps67
    go_wp2_with fail
    go_ret
    exact⟨by unfold waitsV;rw [show (x.at_ == 4)=false by simpa using h4];simp,f0.alloc _⟩
section
variable {P:Program} {fn:Func} {tmps:Array Value} {w:World}
theorem results_c(r:Tmp)(t:TypeId)(a:Addr)(v:Value)(hf:fn.results=#[.cell r t])(hp:tmps.getD r undef = .pointer (some a))(hl:(loadVar t a).run P w = .ok v w):(results fn tmps).run P w = .ok v w:=by
 have hp':tmps[r]?.getD undef = .pointer (some a):=by simpa using hp
 unfold results
 rw [hf]
 simp [hp',hl,Sem.run_bind,Sem.run_pure,Result.andThen_ok,asAddr]
theorem results_ct(r:Tmp)(t:TypeId)(a:Addr)(v:Value)(k:Tmp)(u:Value)(hf:fn.results=#[.cell r t, .tmp k])(hp:tmps.getD r undef = .pointer (some a))(hl:(loadVar t a).run P w = .ok v w)(hk:tmps.getD k undef=u):(results fn tmps).run P w = .ok (.tuple #[v,u]) w:=by
 subst hk
 have hp':tmps[r]?.getD undef = .pointer (some a):=by simpa using hp
 unfold results
 rw [hf]
 simp [hp',hl,Sem.run_bind,Sem.run_pure,Result.andThen_ok,asAddr]
theorem results_ctt(r:Tmp)(t:TypeId)(a:Addr)(v:Value)(k k2:Tmp)(u u2:Value)(hf:fn.results=#[.cell r t, .tmp k, .tmp k2])(hp:tmps.getD r undef = .pointer (some a))(hl:(loadVar t a).run P w = .ok v w)(hk:tmps.getD k undef=u)(hk2:tmps.getD k2 undef=u2):(results fn tmps).run P w = .ok (.tuple #[v,u,u2]) w:=by
 subst hk hk2
 have hp':tmps[r]?.getD undef = .pointer (some a):=by simpa using hp
 unfold results
 rw [hf]
 simp [hp',hl,Sem.run_bind,Sem.run_pure,Result.andThen_ok,asAddr]
theorem results_cc(r:Tmp)(t:TypeId)(a:Addr)(v:Value)(r2:Tmp)(t2:TypeId)(a2:Addr)(v2:Value)(hf:fn.results=#[.cell r t, .cell r2 t2])(hp:tmps.getD r undef = .pointer (some a))(hl:(loadVar t a).run P w = .ok v w)
  (hp2:tmps.getD r2 undef = .pointer (some a2)) (hl2:(loadVar t2 a2).run P w = .ok v2 w):(results fn tmps).run P w = .ok (.tuple #[v,v2]) w:=by
 have hp':tmps[r]?.getD undef = .pointer (some a):=by simpa using hp
 have hp2':tmps[r2]?.getD undef = .pointer (some a2):=by simpa using hp2
 unfold results
 rw [hf]
 simp [hp',hl,hp2',hl2,Sem.run_bind,Sem.run_pure,Result.andThen_ok,asAddr]
theorem blk_load(ty:TypeId)(b:Nat)(t:TypeId)(cs:Array Value)(d:TypeDesc)(hB:Blk w b t cs)(hu:P.underlying ty=some d)(hd:d.isRow=true)(hi:(P.info? ty).map (·.size)=some cs.size):(loadVar ty ⟨b,0,none⟩).run P w = .ok (.agg cs) w:=by
 have:=run_loadVar_mid (P:=P) w b 0 ty cs.toList d (fun j v hj=>by rw [Nat.zero_add,Blk.cell hB j];simpa using hj) hu hd (by simpa using hi)
 simpa using this
end
theorem end_load{w:World}{b:Nat}{x:St}{av uv kv:Value}(B:Blk w b 41 (arE x av uv kv)):(loadVar 41 ⟨b,0,none⟩).run Tryz.prog w = .ok (agE x av uv kv) w:=blk_load 41 b 41 _ _ B Tryz.underlying41 rfl (by kernel_rfl)
section
variable {P:Program} {ops:Array Oper} {rest:List Oper} {op:Oper} {a:Act} {w:World} {Q:Exit→Act→World→Prop}
theorem wpList_store_in(hgd:op.guard=none)(ty:TypeId)(x y:Operand)(ho:op.op = .store ty x y)(b o:Nat)(t:TypeId)(cs cells cs':Array Value)
  (hx:a.eval x = .pointer (some ⟨b,o,none⟩)) (hy:a.eval y = .agg cells) (hB:Blk w b t cs) (hs:o+cells.size≤cs.size) (hi:(P.info? ty).map (·.size)=some cells.size) (h1:cells.all (·.oneCell')=true)
  (he:(cs.toList.take o++cells.toList++cs.toList.drop (o+cells.size)).toArray=cs')
  (h:∀ w',Blk w' b t cs'→Fr [b] w w'→wpList P ops Q rest (a.put op.dst undef) w'):wpList P ops Q (op::rest) a w:=by
 refine wpList_store_mid hgd ty x y ho b o cells hx hy (fun j hj=>?_) hi h1 (h _ ?_ (setCells_fr b _ o w))
 ·have hc:=Blk.cell hB (o+j)
  refine⟨?_,?_⟩
  ·rw [hc]
   simp [show o+j<cs.size from by omega]
  ·exact Blk.frozen hB (o+j)
 ·have:=setCells_blk b t cells.toList o w cs.toList (by simpa using hB) (by simp;omega)
  subst he
  simpa using this
theorem wpList_load_in(hgd:op.guard=none)(ty:TypeId)(x:Operand)(ho:op.op = .load ty x)(b o:Nat)(t:TypeId)(cs cells:Array Value)(d:TypeDesc)
  (hx:a.eval x = .pointer (some ⟨b,o,none⟩)) (hB:Blk w b t cs) (hc:(cs.toList.drop o).take cells.size=cells.toList) (hu:P.underlying ty=some d) (hd:d.isRow=true) (hi:(P.info? ty).map (·.size)=some cells.size)
  (h:wpList P ops Q rest (a.put op.dst (.agg cells)) w):wpList P ops Q (op::rest) a w:=by
 refine wpList_load_mid hgd ty x ho b o hx cells.toList d (fun j v hj=>?_) hu hd (by simpa using hi) (by simpa using h)
 rw [Blk.cell hB (o+j)]
 have h1:(cells.toList)[j]?=some v:=hj
 rw [← hc] at h1
 have h2:j<cells.size:=by
  have:=(List.getElem?_eq_some_iff.1 hj).1
  simpa using this
 rw [List.getElem?_take_of_lt h2,List.getElem?_drop] at h1
 simpa using h1
end
section
variable {P:Program} {ops:Array Oper} {rest:List Oper} {o:Oper} {a:Act} {C:World→Prop} {Q:Act→Prop}
theorem gateQ_load{d:Option Tmp}{t:TypeId}{pos:String}{af:Array Edge}{gd:Option (Nat × Bool)}(ty:TypeId)(x:Operand)(h:wpQuiet P ops C Q (⟨d, .load ty x,t,pos,af,gd⟩::rest) a):wpQuiet P ops C Q (⟨d, .load ty x,t,pos,af,gd⟩::rest) a:=h
theorem wpQuiet_load_blk{op:Oper}(hgd:op.guard=none)(ty:TypeId)(x:Operand)(ho:op.op = .load ty x)(b:Nat)(t:TypeId)(cs:Array Value)(d:TypeDesc)
  (hx:a.eval x = .pointer (some ⟨b,0,none⟩)) (hB:∀ w,C w→Blk w b t cs) (hu:P.underlying ty=some d) (hd:d.isRow=true) (hi:(P.info? ty).map (·.size)=some cs.size)
  (h:wpQuiet P ops C Q rest (a.put op.dst (.agg cs))):wpQuiet P ops C Q (op::rest) a:=by
 refine BigFrame.wpQuiet_want (by simp [Region.wanted,hgd]) (fun K hK=>⟨.agg cs,fun w hw=>?_,hK _ h⟩)
 unfold Oper.quietAt execOp
 have hl:(Instr.loadAt ty (.pointer (some ⟨b,0,none⟩))).run P w = .ok (.agg cs) w:=by
  simp only [Instr.loadAt,Instr.sureAddr,Sem.run_bind,Sem.run_pure,Result.andThen_ok,blk_load ty b t cs d (hB w hw) hu hd hi]
 simp only [ho,hx,hl,Sem.run_bind,Sem.run_pure,Result.andThen_ok]
 exact⟨rfl,rfl⟩
end
abbrev endZ:Array Value:=#[.int .u32 0, .int .u32 0, .int .i64 0, .bool false, .slice none 0 0, .slice none 0 0, .int .i64 0, .int .i64 0, .int .i64 0, .int .i64 0, .int .i64 0, .int .i64 0, .int .i64 0, .int .i64 0, .bool false, .int .i64 0, .int .i64 0, .int .i64 0, .int .i64 0, .int .i64 0, .bool false, .int .i64 0, .int .i64 0, .slice none 0 0, .int .i64 0, .bool false, .bool false, .bool false, .bool false, .int .i64 0, .int .i64 0, .int .i64 0, .int .i64 0]
abbrev ckZ:Array Value:=#[.int .i64 0, .int .i64 0, .int .i64 0, .int .i64 0, .bool false, .int .i64 0, .int .i64 0, .int .i64 0, .int .i64 0, .int .i64 0, .bool false]
abbrev arC(c:Rto.Ck):Array Value:=#[.int .i64 c.f, .int .i64 c.l, .int .i64 c.m, .int .i64 c.t, .bool c.is, .int .i64 c.tm, .int .i64 c.sp, .int .i64 c.wt, .int .i64 c.si, .int .i64 c.tr, .bool c.rn]
abbrev arW(x:Win.Wn):Array Value:=#[.int .i64 x.a, .int .i64 x.s, .int .i64 x.m, .int .i64 x.l]
theorem RE.forms{S:Nat→Prop}{w:World}{x:St}{av uv kv:Value}(m:RE S w x av uv kv):(∃ A c,av = .slice A x.all.length c∧x.all.length≤c∧c≤maxLen)∧(∃ A c,uv = .slice A x.unread.length c∧x.unread.length≤c∧c≤maxLen)∧(∃ A n c,kv = .slice A n c):=by
 obtain⟨A0,c0,h0,h1,h2⟩:=m.ba.form
 obtain⟨A1,c1,g0,g1,g2⟩:=m.bu.form
 obtain⟨L,r⟩:=m.hp
 obtain⟨A2,c2,e2,_⟩:=r.kp.form
 exact⟨⟨_,_,h0,h1,h2⟩,⟨_,_,g0,g1,g2⟩,⟨_,_,_,e2⟩⟩
structure Lo(w W:World)(bs br:Nat)(cs:Array Value):Prop where
 f:Fr [] w W
 s:Blk W bs 41 cs
 r:Blk W br 41 endZ
 n1:w.heap.size≤bs
 n2:w.heap.size≤br
 n3:bs≠br
section
variable {w W W':World} {bs br:Nat} {cs cs':Array Value}
theorem Lo.grow(l:Lo w W bs br cs)(g:Fr [] W W'):Lo w W' bs br cs:=⟨l.f.trans g (by simp),l.s.fr g (by simp),l.r.fr g (by simp),l.n1,l.n2,l.n3⟩
theorem Lo.set(l:Lo w W bs br cs)(g:Fr [bs] W W')(B:Blk W' bs 41 cs'):Lo w W' bs br cs':=⟨l.f.trans g (fun y hy => .inr (by simp at hy;subst hy;exact l.n1)),B,l.r.fr g (by simpa using l.n3.symm),l.n1,l.n2,l.n3⟩
theorem Lo.cell(l:Lo w W bs br cs)(i:Nat)(u:Value):Lo w (W.setCell ⟨bs,i,none⟩ u) bs br (cs.setIfInBounds i u):=l.set ((Fr.refl [bs] W).setCell (p:=⟨bs,i,none⟩) (.inl (by simp)) u) (l.s.set_ i u)
theorem Lo.far(l:Lo w W bs br cs){b:Nat}(g:Fr [b] W W')(h:w.heap.size≤b)(h1:b≠bs)(h2:b≠br):Lo w W' bs br cs:=⟨l.f.trans g (fun y hy => .inr (by simp at hy;subst hy;exact h)),l.s.fr g (by simpa using Ne.symm h1),l.r.fr g (by simpa using Ne.symm h2),l.n1,l.n2,l.n3⟩
theorem Lo.res(l:Lo w W bs br cs){W':World}(g:Fr [br] W W'):Fr [] w W':=l.f.trans g (fun y hy => .inr (by simp at hy;subst hy;exact l.n2))
theorem Lo.start(w:World)(cs:Array Value):Lo w ((w.alloc (.cells cs 41)).alloc (.cells endZ 41)) w.heap.size (w.heap.size+1) cs:=by
 have b2:=Blk.new (w.alloc (.cells cs 41)) 41 endZ
 rw [World.size_alloc] at b2
 exact⟨((Fr.refl [] w).alloc _).alloc _,(Blk.new w 41 cs).fr ((Fr.refl [] _).alloc _) (by simp),b2,Nat.le_refl _,Nat.le_succ _,by omega⟩
end
theorem waits_clk(x:St)(c:Rto.Ck):waitsV { x with clk:=c }=waitsV x:=rfl
set_option maxHeartbeats 8000000 in
theorem erests_same{S:Nat→Prop}{w:World}{x:St}{av uv kv:Value}(m:RE S w x av uv kv)(h:waitsV x=x.clk.rn):Calls Tryz.prog 27 #[agE x av uv kv] w fun e w'=>e = .returned (agE x av uv kv)∧Fr [] w w':=by
 obtain⟨⟨aA,ac,rfl,_,_⟩,⟨uA,uc,rfl,_,_⟩,⟨kA,kn,kc,rfl⟩⟩:=m.forms
 have hw:=fun W (f:Fr [] w W)=>ewaits (m.fr f)
 have l1:=Lo.start w (arE x (.slice aA x.all.length ac) (.slice uA x.unread.length uc) (.slice kA kn kc))
 clear m
 cases hr:x.clk.rn
 all_goals
  rw [h,hr] at hw
  have HW:=hI hw
  have HR:=hI hr
  have L1:=hI l1
  clear h hw l1
  go_enter Tryz.func27,Tryz.ntmps27
  go_upto_region 1 with fail
  generalize (w.alloc (.cells (arE x (.slice aA x.all.length ac) (.slice uA x.unread.length uc) (.slice kA kn kc)) 41)).alloc (.cells endZ 41)=w1 at *
  have LB:Hid (∀ W,Fr [] w1 W→Lo w W w.heap.size (w.heap.size+1) (arE x (.slice aA x.all.length ac) (.slice uA x.unread.length uc) (.slice kA kn kc))):=hI (fun W f=>L1.out.grow f)
  go_wp2_with (first
   | ((with_reducible refine gate_load 41 (.tmp 1) ?_);refine wpList_load_blk rfl 41 (.tmp 1) rfl w.heap.size 41 (arE x (.slice aA x.all.length ac) (.slice uA x.unread.length uc) (.slice kA kn kc)) _ rfl (LB.out _ (by first|exact Fr.refl _ _|assumption)).s Tryz.underlying41 rfl (by kernel_rfl) ?_)
   | ((with_reducible refine gate_store 41 (.tmp 2) ?_);refine wpList_store_blk rfl 41 (.tmp 2) (.tmp 35) rfl (w.heap.size+1) 41 endZ (arE x (.slice aA x.all.length ac) (.slice uA x.unread.length uc) (.slice kA kn kc)) rfl rfl (LB.out _ (by first|exact Fr.refl _ _|assumption)).r rfl (by kernel_rfl) (by simp [Value.oneCell']) ?_;intro w7 B7 F7)
   | (go_at_call 67;refine (HW.out _ (LB.out _ (by first|exact Fr.refl _ _|assumption)).f).mono ?_;rintro e w5 ⟨rfl,f5'⟩;have f5:Fr [] w1 w5:=Fr.trans (show Fr [] w1 _ by first|exact Fr.refl _ _|assumption) f5' (by simp);clear f5';have r5:w5.cell? ⟨w.heap.size,20,none⟩=some (.bool x.clk.rn):=(LB.out _ f5).s.cell 20))
  refine bodyPost_ret (results_c 2 41 ⟨w.heap.size+1,0,none⟩ _ (by rfl) (by rfl) (end_load B7)) (by rfl) ?_
  exact⟨rfl,(LB.out _ f5).res F7⟩
set_option maxHeartbeats 8000000 in
theorem erests_start{S:Nat→Prop}{w:World}{x:St}{av uv kv:Value}(m:RE S w x av uv kv)(h:waitsV x=true)(hr:x.clk.rn=false):Calls Tryz.prog 27 #[agE x av uv kv] w fun e w'=>e = .returned (agE { x with clk:=(Rto.startV x.clk x.now).1 } av uv kv)∧Fr [] w w':=by
 obtain⟨⟨aA,ac,rfl,_,_⟩,⟨uA,uc,rfl,_,_⟩,⟨kA,kn,kc,rfl⟩⟩:=m.forms
 have hw:=fun W (f:Fr [] w W)=>ewaits (m.fr f)
 have l1:=Lo.start w (arE x (.slice aA x.all.length ac) (.slice uA x.unread.length uc) (.slice kA kn kc))
 have hS:=fun W=>Rto.rstart x.clk x.now W
 have hw2:=fun W (f:Fr [] w W)=>ewaits ((m.to_ (y:={ x with clk:=(Rto.startV x.clk x.now).1 }) rfl rfl rfl).fr f)
 generalize Rto.startV x.clk x.now=sv at *
 obtain⟨ck,er⟩:=sv
 obtain⟨f0,l0,m0,t0,is0,tm0,sp0,wt0,si0,tr0,rn0⟩:=ck
 dsimp only at *
 rw [waits_clk,h] at hw2
 rw [h] at hw
 have HW:=hI hw
 have HW2:=hI hw2
 have HS:=hI hS
 have L1:=hI l1
 have HR:=hI hr
 clear m hw hw2 hS l1 h
 go_enter Tryz.func27,Tryz.ntmps27
 go_upto_region 1 with fail
 generalize (w.alloc (.cells (arE x (.slice aA x.all.length ac) (.slice uA x.unread.length uc) (.slice kA kn kc)) 41)).alloc (.cells endZ 41)=w1 at *
 have LB:Hid (∀ W,Fr [] w1 W→Lo w W w.heap.size (w.heap.size+1) (arE x (.slice aA x.all.length ac) (.slice uA x.unread.length uc) (.slice kA kn kc))):=hI (fun W f=>L1.out.grow f)
 go_upto_region 2 with (first
   | ((with_reducible refine gate_load 41 (.tmp 1) ?_);refine wpList_load_blk rfl 41 (.tmp 1) rfl w.heap.size 41 (arE x (.slice aA x.all.length ac) (.slice uA x.unread.length uc) (.slice kA kn kc)) _ rfl (LB.out _ (by first|exact Fr.refl _ _|assumption)).s Tryz.underlying41 rfl (by kernel_rfl) ?_)
   | (go_at_call 67;refine (HW.out _ (LB.out _ (by first|exact Fr.refl _ _|assumption)).f).mono ?_;rintro e w5 ⟨rfl,f5⟩;have r5:w5.cell? ⟨w.heap.size,20,none⟩=some (.bool x.clk.rn):=(LB.out _ f5).s.cell 20;have n5:w5.cell? ⟨w.heap.size,29,none⟩=some (.int .i64 x.now):=(LB.out _ f5).s.cell 29))
 have LC:Hid (∀ W,Fr [] w5 W→Lo w W w.heap.size (w.heap.size+1) (arE x (.slice aA x.all.length ac) (.slice uA x.unread.length uc) (.slice kA kn kc))):=hI (fun W f=>(LB.out _ f5).grow f)
 go_upto_region 3 with (first
   | ((with_reducible refine gate_load 36 (.tmp 14) ?_);refine wpList_load_in rfl 36 (.tmp 14) rfl w.heap.size 10 41 (arE x (.slice aA x.all.length ac) (.slice uA x.unread.length uc) (.slice kA kn kc)) (arC x.clk) _ rfl (LC.out _ (by first|exact Fr.refl _ _|assumption)).s rfl Tryz.underlying36 rfl (by kernel_rfl) ?_)
   | (go_at_call 68;refine (HS.out _).mono ?_;rintro e w6 ⟨rfl,f6⟩)
   | ((with_reducible refine gate_store 36 (.tmp 3) ?_);refine wpList_store_blk rfl 36 (.tmp 3) (.tmp 19) rfl w6.heap.size 36 ckZ #[.int .i64 f0, .int .i64 l0, .int .i64 m0, .int .i64 t0, .bool is0, .int .i64 tm0, .int .i64 sp0, .int .i64 wt0, .int .i64 si0, .int .i64 tr0, .bool rn0] rfl rfl (Blk.new w6 36 ckZ) rfl (by kernel_rfl) (by simp [Value.oneCell']) ?_;intro w7 B7 F7))
 have L7:Lo w w7 w.heap.size (w.heap.size+1) (arE x (.slice aA x.all.length ac) (.slice uA x.unread.length uc) (.slice kA kn kc)):=(LC.out _ (f6.alloc (.cells ckZ 36))).far F7 (by have:=(LC.out _ f6).f.size;omega) (by have:=(LC.out _ f6).s.lt;omega) (by have:=(LC.out _ f6).r.lt;omega)
 have L7':=hI L7
 have B7':=hI B7
 clear L7 B7 F7 r5 n5
 go_upto_region 4 with (first
   | ((with_reducible refine gate_load 36 (.tmp 3) ?_);refine wpList_load_blk rfl 36 (.tmp 3) rfl w6.heap.size 36 #[.int .i64 f0, .int .i64 l0, .int .i64 m0, .int .i64 t0, .bool is0, .int .i64 tm0, .int .i64 sp0, .int .i64 wt0, .int .i64 si0, .int .i64 tr0, .bool rn0] _ rfl B7'.out Tryz.underlying36 rfl (by kernel_rfl) ?_)
   | ((with_reducible refine gate_store 36 (.tmp 22) ?_);refine wpList_store_in rfl 36 (.tmp 22) (.tmp 21) rfl w.heap.size 10 41 (arE x (.slice aA x.all.length ac) (.slice uA x.unread.length uc) (.slice kA kn kc)) #[.int .i64 f0, .int .i64 l0, .int .i64 m0, .int .i64 t0, .bool is0, .int .i64 tm0, .int .i64 sp0, .int .i64 wt0, .int .i64 si0, .int .i64 tr0, .bool rn0] (arE { x with clk:=⟨f0,l0,m0,t0,is0,tm0,sp0,wt0,si0,tr0,rn0⟩ } (.slice aA x.all.length ac) (.slice uA x.unread.length uc) (.slice kA kn kc)) rfl rfl L7'.out.s (by simp) (by kernel_rfl) (by simp [Value.oneCell']) rfl ?_;intro w8 B8 F8))
 have L8:Hid (∀ W,Fr [] w8 W→Lo w W w.heap.size (w.heap.size+1) (arE { x with clk:=⟨f0,l0,m0,t0,is0,tm0,sp0,wt0,si0,tr0,rn0⟩ } (.slice aA x.all.length ac) (.slice uA x.unread.length uc) (.slice kA kn kc))):=hI (fun W f=>(L7'.out.set F8 B8).grow f)
 clear B8 F8
 go_wp2_with (first
   | ((with_reducible refine gate_load 41 (.tmp 1) ?_);refine wpList_load_blk rfl 41 (.tmp 1) rfl w.heap.size 41 (arE { x with clk:=⟨f0,l0,m0,t0,is0,tm0,sp0,wt0,si0,tr0,rn0⟩ } (.slice aA x.all.length ac) (.slice uA x.unread.length uc) (.slice kA kn kc)) _ rfl (L8.out _ (by first|exact Fr.refl _ _|assumption)).s Tryz.underlying41 rfl (by kernel_rfl) ?_)
   | ((with_reducible refine gate_store 41 (.tmp 2) ?_);refine wpList_store_blk rfl 41 (.tmp 2) (.tmp 35) rfl (w.heap.size+1) 41 endZ (arE { x with clk:=⟨f0,l0,m0,t0,is0,tm0,sp0,wt0,si0,tr0,rn0⟩ } (.slice aA x.all.length ac) (.slice uA x.unread.length uc) (.slice kA kn kc)) rfl rfl (L8.out _ (by first|exact Fr.refl _ _|assumption)).r rfl (by kernel_rfl) (by simp [Value.oneCell']) ?_;intro w9 B9 F9)
   | (go_at_call 67;refine (HW2.out _ (L8.out _ (by first|exact Fr.refl _ _|assumption)).f).mono ?_;rintro e wa ⟨rfl,fa⟩))
 refine bodyPost_ret (results_c 2 41 ⟨w.heap.size+1,0,none⟩ _ (by rfl) (by rfl) (end_load B9)) (by rfl) ?_
 exact⟨rfl,(L8.out _ fa).res F9⟩
set_option maxHeartbeats 8000000 in
theorem erests_stop{S:Nat→Prop}{w:World}{x:St}{av uv kv:Value}(m:RE S w x av uv kv)(h:waitsV x=false)(hr:x.clk.rn=true)(hc:Rto.Inv x.clk):Calls Tryz.prog 27 #[agE x av uv kv] w fun e w'=>e = .returned (agE { x with clk:=Rto.stopV x.clk } av uv kv)∧Fr [] w w':=by
 obtain⟨⟨aA,ac,rfl,_,_⟩,⟨uA,uc,rfl,_,_⟩,⟨kA,kn,kc,rfl⟩⟩:=m.forms
 have hw:=fun W (f:Fr [] w W)=>ewaits (m.fr f)
 have l1:=Lo.start w (arE x (.slice aA x.all.length ac) (.slice uA x.unread.length uc) (.slice kA kn kc))
 have hS:=fun W=>Rto.rstop x.clk W hc
 generalize Rto.stopV x.clk=ck at *
 obtain⟨f0,l0,m0,t0,is0,tm0,sp0,wt0,si0,tr0,rn0⟩:=ck
 rw [h] at hw
 have HW:=hI hw
 have HS:=hI hS
 have L1:=hI l1
 have HR:=hI hr
 clear m hw hS l1 h hc
 go_enter Tryz.func27,Tryz.ntmps27
 go_upto_region 1 with fail
 generalize (w.alloc (.cells (arE x (.slice aA x.all.length ac) (.slice uA x.unread.length uc) (.slice kA kn kc)) 41)).alloc (.cells endZ 41)=w1 at *
 have LB:Hid (∀ W,Fr [] w1 W→Lo w W w.heap.size (w.heap.size+1) (arE x (.slice aA x.all.length ac) (.slice uA x.unread.length uc) (.slice kA kn kc))):=hI (fun W f=>L1.out.grow f)
 go_upto_region 4 with (first
   | ((with_reducible refine gate_load 41 (.tmp 1) ?_);refine wpList_load_blk rfl 41 (.tmp 1) rfl w.heap.size 41 (arE x (.slice aA x.all.length ac) (.slice uA x.unread.length uc) (.slice kA kn kc)) _ rfl (LB.out _ (by first|exact Fr.refl _ _|assumption)).s Tryz.underlying41 rfl (by kernel_rfl) ?_)
   | (go_at_call 67;refine (HW.out _ (LB.out _ (by first|exact Fr.refl _ _|assumption)).f).mono ?_;rintro e w5 ⟨rfl,f5⟩))
 have LC:Hid (∀ W,Fr [] w5 W→Lo w W w.heap.size (w.heap.size+1) (arE x (.slice aA x.all.length ac) (.slice uA x.unread.length uc) (.slice kA kn kc))):=hI (fun W f=>(LB.out _ f5).grow f)
 go_upto_region 5 with (first
   | ((with_reducible refine gate_load 41 (.tmp 1) ?_);refine wpList_load_blk rfl 41 (.tmp 1) rfl w.heap.size 41 (arE x (.slice aA x.all.length ac) (.slice uA x.unread.length uc) (.slice kA kn kc)) _ rfl (LC.out _ (by first|exact Fr.refl _ _|assumption)).s Tryz.underlying41 rfl (by kernel_rfl) ?_)
   | (go_at_call 67;refine (HW.out _ (LC.out _ (by first|exact Fr.refl _ _|assumption)).f).mono ?_;rintro e w6 ⟨rfl,f6⟩;have r6:w6.cell? ⟨w.heap.size,20,none⟩=some (.bool x.clk.rn):=(LC.out _ f6).s.cell 20))
 have LD:Hid (∀ W,Fr [] w6 W→Lo w W w.heap.size (w.heap.size+1) (arE x (.slice aA x.all.length ac) (.slice uA x.unread.length uc) (.slice kA kn kc))):=hI (fun W f=>(LC.out _ f6).grow f)
 clear r6
 go_upto_region 6 with (first
   | ((with_reducible refine gate_load 36 (.tmp 31) ?_);refine wpList_load_in rfl 36 (.tmp 31) rfl w.heap.size 10 41 (arE x (.slice aA x.all.length ac) (.slice uA x.unread.length uc) (.slice kA kn kc)) (arC x.clk) _ rfl (LD.out _ (by first|exact Fr.refl _ _|assumption)).s rfl Tryz.underlying36 rfl (by kernel_rfl) ?_)
   | (go_at_call 69;refine (HS.out _).mono ?_;rintro e w7 ⟨rfl,f7⟩)
   | ((with_reducible refine gate_store 36 (.tmp 34) ?_);refine wpList_store_in rfl 36 (.tmp 34) (.tmp 33) rfl w.heap.size 10 41 (arE x (.slice aA x.all.length ac) (.slice uA x.unread.length uc) (.slice kA kn kc)) #[.int .i64 f0, .int .i64 l0, .int .i64 m0, .int .i64 t0, .bool is0, .int .i64 tm0, .int .i64 sp0, .int .i64 wt0, .int .i64 si0, .int .i64 tr0, .bool rn0] (arE { x with clk:=⟨f0,l0,m0,t0,is0,tm0,sp0,wt0,si0,tr0,rn0⟩ } (.slice aA x.all.length ac) (.slice uA x.unread.length uc) (.slice kA kn kc)) rfl rfl (LD.out _ f7).s (by simp) (by kernel_rfl) (by simp [Value.oneCell']) rfl ?_;intro w8 B8 F8))
 have L8:Hid (∀ W,Fr [] w8 W→Lo w W w.heap.size (w.heap.size+1) (arE { x with clk:=⟨f0,l0,m0,t0,is0,tm0,sp0,wt0,si0,tr0,rn0⟩ } (.slice aA x.all.length ac) (.slice uA x.unread.length uc) (.slice kA kn kc))):=hI (fun W f=>((LD.out _ f7).set F8 B8).grow f)
 clear B8 F8
 go_wp2_with (first
   | ((with_reducible refine gate_load 41 (.tmp 1) ?_);refine wpList_load_blk rfl 41 (.tmp 1) rfl w.heap.size 41 (arE { x with clk:=⟨f0,l0,m0,t0,is0,tm0,sp0,wt0,si0,tr0,rn0⟩ } (.slice aA x.all.length ac) (.slice uA x.unread.length uc) (.slice kA kn kc)) _ rfl (L8.out _ (by first|exact Fr.refl _ _|assumption)).s Tryz.underlying41 rfl (by kernel_rfl) ?_)
   | ((with_reducible refine gate_store 41 (.tmp 2) ?_);refine wpList_store_blk rfl 41 (.tmp 2) (.tmp 35) rfl (w.heap.size+1) 41 endZ (arE { x with clk:=⟨f0,l0,m0,t0,is0,tm0,sp0,wt0,si0,tr0,rn0⟩ } (.slice aA x.all.length ac) (.slice uA x.unread.length uc) (.slice kA kn kc)) rfl rfl (L8.out _ (by first|exact Fr.refl _ _|assumption)).r rfl (by kernel_rfl) (by simp [Value.oneCell']) ?_;intro w9 B9 F9))
 refine bodyPost_ret (results_c 2 41 ⟨w.heap.size+1,0,none⟩ _ (by rfl) (by rfl) (end_load B9)) (by rfl) ?_
 exact⟨rfl,(L8.out _ (Fr.refl _ _)).res F9⟩
theorem erests{S:Nat→Prop}{w:World}{x:St}{av uv kv:Value}(m:RE S w x av uv kv)(hc:Rto.Inv x.clk):Calls Tryz.prog 27 #[agE x av uv kv] w fun e w'=>e = .returned (agE (restsV x) av uv kv)∧Fr [] w w':=by
 unfold restsV
 rcases Bool.eq_false_or_eq_true (waitsV x) with h|h <;> rcases Bool.eq_false_or_eq_true x.clk.rn with hr|hr
 ·rw [h,hr];exact erests_same m (by rw [h,hr])
 ·rw [h,hr];exact erests_start m h hr
 ·rw [h,hr];exact erests_stop m h hr hc
 ·rw [h,hr];exact erests_same m (by rw [h,hr])
end Go.Proofs.YtmgdbbbdhkfdmaaGreat
