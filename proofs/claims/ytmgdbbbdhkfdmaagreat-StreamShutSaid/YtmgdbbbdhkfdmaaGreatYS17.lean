import Derived.Test.YtmgdbbbdhkfdmaaGreatYS16
import Derived.Deep.DeepCutAuto
import Derived.Deep.RegionHeldLaw
set_option linter.unusedSimpArgs false
set_option linter.unusedVariables false
namespace Go.Proofs.YtmgdbbbdhkfdmaaGreat
set_option maxRecDepth 100000
open Go.RowKit Go.Deep
theorem alk{w:World}{b j:Nat}{v:Value}(h:w.cell? ⟨b,j,none⟩=some v)(o:Obj):(w.alloc o).cell? ⟨b,j,none⟩=some v:=fr_cell ((Fr.refl [] w).alloc o) h
theorem one5(p:Prt)(A:Option Addr)(n c:Nat):∀ u∈([.int .i64 p.flags, .int .u32 p.seq, .int .u32 p.ack, .int .u16 p.win, .slice A n c]:List Value),u.oneCell'=true:=by
 intro u hu
 simp at hu
 rcases hu with rfl|rfl|rfl|rfl|rfl <;> rfl
theorem lies_part{S1 S6:Nat→Prop}{w5 w6:World}{g:Nat}{p:Prt}{L1:List (Prt × Value)}{v dv:Value}(pr:Pr S1 w5 v L1)(f:Fr [g] w5 w6)(hn:∀ z∈ob v,z≠g)(by6:Byt S6 w6 dv p.d) :
  (w6.alloc (.cells #[.int .i64 p.flags, .int .u32 p.seq, .int .u32 p.ack, .int .u16 p.win,dv] 49)).ownsRow 0 49 5 v L1.length (prs L1) ∧
  Sl (fun _=>True) (w6.alloc (.cells #[.int .i64 p.flags, .int .u32 p.seq, .int .u32 p.ack, .int .u16 p.win,dv] 49)) 5 (.slice (some ⟨w6.heap.size,0,none⟩) 1 1) 1 [.int .i64 p.flags, .int .u32 p.seq, .int .u32 p.ack, .int .u16 p.win,dv]:=
 ⟨own_fr (own_fr pr.own f (fun b hb=>by simpa using hn b (mem_ob.2 hb))) ((Fr.refl [] w6).alloc _) (by simp),Sl.of_own (pr_one by6).own (fun _ _=>trivial)⟩
theorem send_round{S S1 S6:Nat→Prop}{w wr w5 W7 w8:World}{H:Hd}{v v1 v7:Value}{L L1:List (Prt × Value)}{R:St × List Prt}{N:Nat}{y:St}{k:Nat}{n:Int}{p:Prt}{dv:Value}
  (hs:y.all.length=N∧y.at_=4∧(N:Int) - y.win.s≤(k:Nat)∧(L1.length:Int)+(N - y.win.s)≤2000000∧(loopV k y).1=R.1∧L1.map (·.1)++(loopV k y).2=L.map (·.1)++R.2) (ok:OkS y) (hn:n=nextV y) (hpos:0<n)
  (hv1:∀ b∈ob v1,(b∈ob v∨w.heap.size≤b)∧¬ S1 b) (x1:Ext w S S1) (f1:Fr (ob v++H.own) w wr) (f5:Fr [H.gw] wr w5) (x6:Ext w5.drew S1 S6) (f7:Fr (ob v1++H.own) w5 W7) (pr:Pr S6 W7 v7 (L1++[(p,dv)]))
  (hn7:∀ b∈ob v7,(b∈ob v1∨w5.heap.size≤b)∧¬ S6 b) {x7:St} (m7:SI S6 W7 H x7) (f8:Fr [H.g] W7 w8) (m8:SI S6 w8 H (sendV y).1) (hp:(sendV y).2=p):SendRel S w H v L R N v7 w8:=by
 obtain⟨h1,h2,h3,h4,h5,h6⟩:=hs
 rw [hn] at hpos
 obtain⟨o1,o2,o3⟩:=send_ok ok hpos
 have hz1:=f1.size
 have hz5:=f5.size
 have hm:=ok.hm
 have hw:=Win.Inv.bd ok.hw
 obtain⟨b1,b2,b3⟩:=next_bd hpos
 have hx:Ext w S S6:=x1.trans (by show w.heap.size≤w5.heap.size;omega) (show Ext w5 S1 S6 from x6)
 have hat:(sendV y).1.at_=4:=by rw [sendV_eq];unfold timesV;dsimp only;split <;> exact h2
 obtain⟨j,rfl⟩:∃ j,k=j+1:=⟨k - 1,by omega⟩
 rw [loop_go j y hpos] at h5 h6
 rw [hp] at h6
 refine⟨S6,L1++[(p,dv)],(sendV y).1,j,m8,o1,pr.fr f8 (fun z hz=>by simp at hz;subst hz;exact m8.nS _ (.inl rfl)) (fun z hz=>?_) (fun _ h=>h),fun b hb=>?_,hx,?_,by rw [o3];exact h1,hat,by rw [o2];omega,by rw [o2];simp;omega,h5,?_⟩
 ·simp
  rintro rfl
  exact Pr.apart m7 pr _ hz (by simp [Hd.own])
 ·obtain⟨q1,q2⟩:=hn7 b hb
  refine⟨?_,q2⟩
  rcases q1 with q|q
  ·exact (hv1 b q).1
  ·exact .inr (by omega)
 ·refine ((f1.trans (f5.mono (O':=ob v++H.own) (by simp [Hd.own])) (fun y hy => .inl hy)).trans f7 (fun z hz=>?_)).trans f8 (fun z hz => .inl (by simp at hz;subst hz;simp [Hd.own]))
  rcases List.mem_append.1 hz with hz|hz
  ·rcases (hv1 z hz).1 with h|h
   ·exact .inl (List.mem_append_left _ h)
   ·exact .inr h
  ·exact .inl (List.mem_append_right _ hz)
 ·rw [List.map_append,List.append_assoc]
  exact h6
theorem Pr.own_fr'{S:Nat→Prop}{w w':World}{H:Hd}{x:St}{v:Value}{L:List (Prt × Value)}{O:List Nat}(pr:Pr S w v L)(m:SI S w H x)(f:Fr O w w')(hO:∀ y∈O,y∈H.own):Pr S w' v L:=
 pr.fr f (fun y hy=>m.off y (hO y hy)) (fun b hb hm=>Pr.apart m pr b hb (hO b hm)) (fun _ h=>h)
theorem tail_post{S S5:Nat→Prop}{w w8 w9:World}{H:Hd}{v v5:Value}{L L5:List (Prt × Value)}{R:St × List Prt}{y3:St}(hL:L5.map (·.1)=L.map (·.1)++R.2)(hR:R.1=restsV y3)(x5:Ext w S S5)(m8:SI S5 w8 H y3)(pr:Pr S5 w8 v5 L5)
  (hv5:∀ b∈ob v5,(b∈ob v∨w.heap.size≤b)∧¬ S5 b) (F:Fr (ob v++H.own) w w8) (m9:SI S5 w9 H (restsV y3)) (f9:Fr [H.gc] w8 w9):SPost S w H v L R (.returned v5) w9:=
 ⟨S5,v5,L5,rfl,hL,x5,by rw [hR];exact m9,pr.own_fr' m8 f9 (by simp [Hd.own]),hv5,F.trans f9 (fun y hy => .inl (by simp at hy;subst hy;simp [Hd.own]))⟩
set_option maxHeartbeats 8000000 in
theorem sends_si{S:Nat→Prop}{w:World}{H:Hd}{x:St}(m:SI S w H x)(ok:OkS x){v:Value}{L:List (Prt × Value)}(pr:Pr S w v L)(hv:∀ b∈ob v,¬ S b)(hL:L.length≤1000000) :
  Calls Tryz.prog 56 #[ptr H.g,v] w (SPost S w H v L (sendsV x)):=by
 obtain⟨A,c,rfl,_,_⟩:=own_form pr.own
 by_cases h4:x.at_=4
 ·have hR:=sendsV_open x h4
  generalize sendsV x=R at *
  have hlo:=loop_ok x.all.length x ok
  have hla:=loop_all x.all.length x
  have hrel:SendRel S w H (.slice A L.length c) L (loopV x.all.length x) x.all.length (.slice A L.length c) w:=
   ⟨S,L,x,x.all.length,m,ok,pr,fun b hb=>⟨.inl hb,hv b hb⟩,Ext.refl w S,Fr.refl _ w,rfl,h4,by have:=Win.Inv.bd ok.hw;omega,by have:=Win.Inv.bd ok.hw;have:=ok.hl;omega,rfl,rfl⟩
  have c0:=(scells m.blk).c0
  rw [h4] at c0
  generalize loopV x.all.length x=Y at *
  generalize hN:x.all.length=N at *
  have HR:=hI hR
  have HLO:=hI hlo
  have HLA:=hI hla
  have HRel:=hI hrel
  have HLt:=hI m.lt
  have HNl:Hid (N≤1000000):=hI (by have:=ok.hl;omega)
  clear m pr hv hR hlo hla hrel ok
  go_enter Tryz.func56,Tryz.ntmps56
  go_wp2_with fail
  go_loopw [1] (fun s1 wr=>SendRel S w H (.slice A L.length c) L Y N s1 wr) (fun _ wr=>sentAt H.gw N wr)
  case atStart=>exact HRel.out
  case round=>
   obtain⟨S1,L1,y,k,m1,ok1,pr1,hv1,x1,f1,hN1,ha1,hk1,hl1,hy1,hy2⟩:=hrel
   obtain⟨A1,c1,rfl,_,_⟩:=own_form pr1.own
   have cs:=scells m1.blk
   have c7:=cs.c7
   have c16:=cs.c16
   rw [hN1] at c7
   have hrm:=fun W (fW:Fr [] wr W)=>Win.room_fr H.gw y.win W 1000000000 (Int.le_refl _) ok1.hw (Blk.fr m1.win fW (by simp))
   have hnx:min 64 (min ((N:Int) - y.win.s) (Win.roomV y.win))=nextV y:=by unfold nextV;rw [hN1]
   have hwb:=Win.Inv.bd ok1.hw
   have hsw:IntKind.i64.wrap ((N:Int) - y.win.s)=(N:Int) - y.win.s:=IntWalk.i64_in _ (by have:=HNl.out;have:=ok1.hm;omega)
   have hsm:=sentAt_eq m1 N
   have HS1:=hI (And.intro hN1 (And.intro ha1 (And.intro hk1 (And.intro hl1 (And.intro hy1 hy2)))))
   have M1:=hI m1
   have OK1:=hI ok1
   have PR1:=hI pr1
   have HV1:=hI hv1
   have X1:=hI x1
   have F1:=hI f1
   have HRM:=hI hrm
   have HNX:=hI hnx
   have HSM:=hI hsm
   have HWB:=hI hwb
   have HF1s:=hI f1.size
   clear m1 ok1 pr1 hv1 x1 f1 hN1 ha1 hk1 hl1 hy1 hy2 cs hrm hnx hsm hwb
   go_wp2_with fail
   refine (Win.state_win H.gw y.win wr M1.out.win).mono ?_
   rintro e w2 ⟨rfl,f2⟩
   have d7:=fr_cell f2 c7
   have d16:=fr_cell f2 c16
   go_upto_region 4 with fail
   have f3:Fr [] wr (w2.alloc (.cells #[.int .i64 y.win.a, .int .i64 y.win.s, .int .i64 y.win.m, .int .i64 y.win.l] 32)):=f2.alloc _
   have b3:=Blk.new w2 32 #[.int .i64 y.win.a, .int .i64 y.win.s, .int .i64 y.win.m, .int .i64 y.win.l]
   have HW3:=hI f2.size
   generalize w2.alloc (.cells #[.int .i64 y.win.a, .int .i64 y.win.s, .int .i64 y.win.m, .int .i64 y.win.l] 32)=w3 at *
   have e1:w3.cell? ⟨w2.heap.size,1,none⟩=some (.int .i64 y.win.s):=by simpa using b3.cell 1
   have g1:=Grew.cell e1
   have g7:=Grew.cell (fr_cell f3 c7)
   have g16:=Grew.cell (fr_cell f3 c16)
   have hRG:∀ p:Grew w3,Calls Tryz.prog 94 #[ptr H.gw] p.W fun e w'=>e = .returned (.int .i64 (Win.roomV y.win))∧∃ q:Grew w3,w'=q.W:=fun p=>grew_call (HRM.out _ (f3.trans p.fr (by simp)))
   have HRG:=hI hRG
   have F3:=hI f3
   have B3:=hI b3
   clear hRG f3 b3 e1 f2 d7 d16 c7 c16
   generalize Win.roomV y.win=rm at *
   refine wp_region_grew (by kernel_rfl) (by kernel_rfl) ?_
   repeat (go_big_quiet_step ((go_at_call 94;exact HRG.out _)))
   refine wpQuiet_nil ?_
   intro w4 f4
   have F4:=hI (F3.out.trans f4 (by simp))
   have B4:=hI (B3.out.fr f4 (by simp))
   clear f4 g1 g7 g16 HRG F3 B3
   have hbd:=next_bd (x:=y)
   generalize hnn:min 64 (min ((N:Int) - y.win.s) rm)=n at *
   rw [← HNX.out] at hbd
   clear hnn
   by_cases hpos:0<n
   ·have hd0:decide (n≤0)=false:=by simp;omega
    have m4:=M1.out.fr F4.out
    have cs:=scells m4.blk
    have c16:=cs.c16
    obtain⟨nb1,nb2,nb3⟩:=hbd hpos
    have htk:=take_eq (v:=y.win) (n:=n) (by omega) nb3
    have hT:=Win.take_win H.gw y.win n w4 1000000000 (Int.le_refl _) OK1.out.hw m4.win
    rw [htk] at hT
    have HT:=hI hT
    have M4:=hI m4
    have HTK:=hI htk
    clear hT m4 cs htk
    go_wp2_with fail
    refine HT.out.mono ?_
    rintro e w5 ⟨rfl,f5,W5⟩
    have m5:=M4.out.setw f5 W5 rfl
    have hy5:({ y with win:=⟨y.win.a,y.win.s+n,max y.win.m (y.win.s+n),y.win.l⟩ }:St)=takesV y n:=by unfold takesV;rw [HTK.out]
    rw [hy5] at m5
    have hN1:=HS1.out.1
    have hwb:=HWB.out
    obtain⟨k',hk'⟩:∃ k':Nat,y.win.s=y.win.a+k':=⟨(y.win.s - y.win.a).toNat,by omega⟩
    obtain⟨nn,rfl⟩:∃ nn:Nat,n=nn:=⟨n.toNat,by omega⟩
    obtain⟨b,bc,hbv,q1,q2,q3,hby⟩:=M4.out.piece (k:=k') (n:=nn) hwb.1 hk' (by omega) (by rw [hN1];rw [hN1] at nb2;omega)
    have b5:=B4.out.fr f5 (by have:=HLt.out H.gw (by simp [Hd.own]);have:=HW3.out;have:=HF1s.out;simp;omega)
    have cs:=scells m5.blk
    have c14:=cs.c14
    have c22:=cs.c22
    rw [hbv] at c14
    have e0:w5.cell? ⟨w2.heap.size,0,none⟩=some (.int .i64 y.win.a):=by simpa using b5.cell 0
    unfold maxLen at q3
    have s1:y.win.s - y.win.a=(k':Int):=by omega
    have s2:IntKind.i64.wrap (y.win.s - y.win.a)=(k':Int):=by rw [s1];exact IntWalk.i64_in _ (by omega)
    have s3:IntKind.i64.wrap ((k':Int)+nn)=(k':Int)+nn:=IntWalk.i64_in _ (by omega)
    have s3':IntKind.i64.wrap (k':Int)=(k':Int):=IntWalk.i64_in _ (by omega)
    have s4:(0:Int)≤(k':Int):=by omega
    have s5:(k':Int)≤(k':Int)+nn:=by omega
    have s6:(k':Int)+nn≤(bc:Int):=by omega
    have s7:((k':Int)+nn).toNat=k'+nn:=by omega
    have s8:¬ bc=k':=by omega
    have s9:k'+nn - k'=nn:=by omega
    have HK':=hI hk'
    have HBV:=hI hbv
    clear hk'
    have HSL:Hid (Byt (fun y=>y∈ob H.bv) w5 (.slice (some ⟨b,k',none⟩) nn (bc - k')) ((y.all.drop y.win.s.toNat).take nn)):=hI (hby.fr f5 (fun z hz hm=>by simp at hz;subst hz;exact own_ne M4.out.buf M4.out.win (by decide) (mem_ob.1 hm)))
    have M5:=hI m5
    have F5:=hI f5
    have B5:=hI b5
    clear m5 f5 b5 cs hby W5 hwb hN1 c16
    have hnx:=HNX.out
    have hse:=sendV_eq y
    rw [← hnx] at hse
    have hnn:((nn:Int)).toNat=nn:=by omega
    rw [hnn] at hse
    have hpt:∀ W,Fr [] w5 W→Calls Tryz.prog 79 #[ptr H.g, .int .i64 0, .int .i64 y.win.s, .slice (some ⟨b,k',none⟩) nn (bc - k')] W (PartPost S1 W H (shows (takesV y nn)) (partV (takesV y nn) 2 y.win.s ((y.all.drop y.win.s.toNat).take nn))):=fun W fW=>
     part_si (M5.out.fr fW) OK1.out.hi (by have:=OK1.out.hu;show y.unread.length≤100000;omega) 0 y.win.s (.inl rfl) (by have:=HWB.out;omega) (by have:=HWB.out;have:=OK1.out.hm;have:=OK1.out.hl;omega) _ _ _ (HSL.out.fr fW (by simp)) (fun z hz=>by rintro rfl;exact M5.out.ne_b _ hz rfl) (by simp;omega)
    generalize partV (takesV y nn) 2 y.win.s ((y.all.drop y.win.s.toNat).take nn)=p at *
    have HSE:=hI hse
    have HPt:=hI hpt
    have K5:Hid (∀ W,Fr [] w5 W→W.cell? ⟨H.g,14,none⟩=some (.slice (some ⟨b,0,none⟩) (bufV y).length bc)∧W.cell? ⟨w2.heap.size,0,none⟩=some (.int .i64 y.win.a)):=hI (fun W fW=>⟨fr_cell fW c14,fr_cell fW e0⟩)
    have NG:Hid (w2.heap.size≠H.g):=hI (by have:=HLt.out H.g (by simp [Hd.own]);have:=HW3.out;have:=HF1s.out;omega)
    clear hse hpt hnx hnn
    go_upto_region 7 with fail
    have hsA:(0:Int)≤(bc:Int):=by omega
    obtain⟨i0,hi0,hz0,hz1,hz2⟩:=info_parts info_part
    have HLM:Hid (L1.length+1≤maxLen):=hI (by unfold maxLen;have:=HS1.out.2.2.2.1;have:=HWB.out;have:=OK1.out.hm;have:=HS1.out.1;omega)
    have HLB:Hid ((L1.length+1) * 48≤140737488355328):=hI (by have:=HS1.out.2.2.2.1;have:=HWB.out;have:=OK1.out.hm;have:=HS1.out.1;omega)
    have PR5:Hid (Pr S1 w5 (.slice A1 L1.length c1) L1):=hI (PR1.out.fr (F4.out.mono (O':=[H.gw]) (by simp) |>.trans F5.out (fun y hy => .inl hy)) (fun z hz=>by simp at hz;subst hz;exact M1.out.nS _ (.inr (.inl rfl))) (fun z hz=>by simp;rintro rfl;exact own_ne PR1.out.own M1.out.win (by decide) (mem_ob.1 hz)) (fun _ h=>h))
    have NAP:Hid (∀ z∈ob (.slice A1 L1.length c1),z≠H.g):=hI (fun z hz=>by rintro rfl;exact own_ne PR1.out.own M1.out.blk (by decide) (mem_ob.1 hz))
    have NAW:Hid (∀ z∈ob (.slice A1 L1.length c1),z≠w2.heap.size):=hI (fun z hz=>by have:=Pr.lt PR1.out z hz;have:=HW3.out;omega)
    have SEE7:Hid (∀(w6 W7:World) (o:Obj),Fr [H.g] w5 w6→w6.cell? ⟨H.g,14,none⟩=some (.slice (some ⟨b,0,none⟩) (bufV y).length bc)→w6.cell? ⟨w2.heap.size,0,none⟩=some (.int .i64 y.win.a)→Fr (ob (.slice A1 L1.length c1)) (w6.alloc o) W7 →
      W7.cell? ⟨H.g,14,none⟩=some (.slice (some ⟨b,0,none⟩) (bufV y).length bc)∧W7.cell? ⟨w2.heap.size,0,none⟩=some (.int .i64 y.win.a)):=hI (fun w6 W7 o f6 a b f7=>keep2 f7 (alk a o) (alk b o) (fun hm=>NAP.out _ hm rfl) (fun hm=>NAW.out _ hm rfl))
    clear c14 e0
    obtain⟨c14,e0⟩:=K5.out _ (Fr.refl [] w5)
    go_region_held_law (fun w'=>w'.cell? ⟨H.g,14,none⟩=some (.slice (some ⟨b,0,none⟩) (bufV y).length bc)∧w'.cell? ⟨w2.heap.size,0,none⟩=some (.int .i64 y.win.a))
     (first
      | (with_reducible exact K5.out _ (Fr.refl [] w5).drew)
      | (with_reducible exact⟨s0,s1⟩)
      | (with_reducible exact⟨alk s0 _,alk s1 _⟩)
      | go_keep)
     (first
      | (go_at_call 79;refine (HPt.out _ (Fr.refl [] w5).drew).mono ?_;rintro e w6 ⟨S6,A6,c6,rfl,x6,by6,m6,f6⟩;have f6':Fr [H.g] w5 w6:=(Fr.refl [H.g] w5).drew.trans f6 (fun y hy => .inl hy);have s0:w6.cell? ⟨H.g,14,none⟩=some (.slice (some ⟨b,0,none⟩) (bufV y).length bc):=(by rw [← HBV.out];exact (scells m6.blk).c14);have s1:w6.cell? ⟨w2.heap.size,0,none⟩=some (.int .i64 y.win.a):=(by simpa using (B5.out.fr f6' (by simpa using NG.out)).cell 0);have X6:=hI x6;have Y6:=hI by6;have M6:=hI m6;have F6:=hI f6';have HW6:=hI (lies_part PR5.out f6' NAP.out by6);clear f6 f6' x6 by6 m6)
      | ((refine step_append_sl _ (by rfl) (.tmp 48) (.tmp 67) 27 (by rfl) 49 i0 (.agg #[.int .i64 0, .int .u32 0, .int .u32 0, .int .u16 0, .slice none 0 0]) 5 48 Tryz.underlying27 hi0 hz0 hz1 hz2 (by rfl) (by decide) (.slice A1 L1.length c1) L1.length (prs L1) (by rfl) HW6.out.1 (fun _=>True) (.slice (some ⟨w6.heap.size,0,none⟩) 1 1) 1 [.int .i64 p.flags, .int .u32 p.seq, .int .u32 p.ack, .int .u16 p.win, .slice A6 p.d.length c6] (by rfl) HW6.out.2 (one5 _ _ _ _) HLM.out HLB.out (L1.length+1) (by rfl) ?_);intro A7 c7 W7 h10 h11 h12;have H10:=hI h10;have H11:=hI h11;have H12:=hI h12;obtain⟨s0,s1⟩:=SEE7.out _ _ _ F6.out s0 s1 h11;clear h10 h11 h12))
    have m6a:=M6.out.fr ((Fr.refl [] w6).alloc (.cells #[.int .i64 p.flags, .int .u32 p.seq, .int .u32 p.ack, .int .u16 p.win, .slice A6 p.d.length c6] 49))
    have pr6:=PR5.out.fr (F6.out.alloc (.cells #[.int .i64 p.flags, .int .u32 p.seq, .int .u32 p.ack, .int .u16 p.win, .slice A6 p.d.length c6] 49)) (fun z hz=>by simp at hz;subst hz;exact M5.out.nS _ (.inl rfl)) (fun z hz=>by simpa using NAP.out z hz) X6.out.1
    have hv6:∀ z∈ob (.slice A1 L1.length c1),¬ S6 z:=fun z hz=>X6.out.off (Pr.lt PR5.out z hz) (HV1.out z hz).2
    obtain⟨m7,pr7,hn7⟩:=app_part m6a pr6 hv6 (Y6.out.fr ((Fr.refl [] w6).alloc _) (by simp)) H10.out H11.out H12.out
    have f7:Fr (ob (.slice A1 L1.length c1)++H.own) w5 W7:=((F6.out.alloc _).mono (by simp [Hd.own])).trans (H11.out.mono (O':=ob (.slice A1 L1.length c1)++H.own) (fun y hy=>List.mem_append_left _ hy)) (fun y hy => .inl hy)
    have c22:=(scells m7.blk).c22
    have c21:=(scells m7.blk).c21
    have c23:=(scells m7.blk).c23
    have hlt7:=m7.blk.lt
    have z22:=m7.blk.frozen 22
    have z23:=m7.blk.frozen 23
    have hsn:IntKind.i64.wrap (y.win.s+nn)=y.win.s+nn:=IntWalk.i64_in _ (by have:=HWB.out;have:=OK1.out.hm;have:=OK1.out.hl;omega)
    have M7:=hI m7
    have PR7:=hI pr7
    have HN7:Hid (∀ b∈ob (.slice A7 (L1.length+1) c7),(b∈ob (.slice A1 L1.length c1)∨w5.heap.size≤b)∧¬ S6 b):=hI (fun b hb=>⟨(hn7 b hb).1.imp id (fun h=>by have:=F6.out.size;simp at h;omega),(hn7 b hb).2⟩)
    have F7:=hI f7
    clear m6a pr6 hv6 m7 pr7 hn7 f7 s0 s1
    change W7.cell? ⟨H.g,22,none⟩=some (.int .i64 y.timed) at c22
    change W7.cell? ⟨H.g,21,none⟩=some (.int .i64 y.now) at c21
    change W7.cell? ⟨H.g,23,none⟩=some (.int .i64 y.since) at c23
    by_cases ht:y.timed=0
    ·rw [ht] at c22
     go_wp2_with fail
     have m8:=M7.out.sett (y.win.s+nn) y.now
     have f8:Fr [H.g] W7 ((W7.setCell ⟨H.g,22,none⟩ (.int .i64 (y.win.s+nn))).setCell ⟨H.g,23,none⟩ (.int .i64 y.now)):=((Fr.refl [H.g] W7).setCell (p:=⟨H.g,22,none⟩) (.inl (by simp)) _).setCell (p:=⟨H.g,23,none⟩) (.inl (by simp)) _
     have hvy:({ shows (takesV y nn) with timed:=y.win.s+nn,since:=y.now }:St)=(sendV y).1:=by
      rw [HSE.out]
      show _=timesV _ _
      unfold timesV
      rw [if_pos (show (shows (takesV y nn)).timed=0 from ht)]
      rfl
     rw [hvy] at m8
     generalize (W7.setCell ⟨H.g,22,none⟩ (.int .i64 (y.win.s+nn))).setCell ⟨H.g,23,none⟩ (.int .i64 y.now)=w8 at *
     have hrl:=send_round HS1.out OK1.out HNX.out hpos HV1.out X1.out F1.out (F4.out.mono (O':=[H.gw]) (by simp) |>.trans F5.out (fun y hy => .inl hy)) X6.out F7.out PR7.out HN7.out M7.out f8 m8 (by rw [HSE.out])
     have HRL:=hI hrl
     have HMS:Hid (sentAt H.gw N w8<sentAt H.gw N wr):=hI (by rw [HSM.out,sentAt_eq m8,(send_ok OK1.out (by rw [← HNX.out];exact hpos)).2.1,← HNX.out];have:=HS1.out.1;omega)
     clear m8 f8 hrl
     go_roundw
     case rel=>exact HRL.out
     case measure=>exact HMS.out
    ·have htd:decide (y.timed=0)=false:=by simpa using ht
     have htq:(y.timed == 0)=false:=by simpa using ht
     have hvy:shows (takesV y nn)=(sendV y).1:=by
      rw [HSE.out]
      show _=timesV _ _
      unfold timesV
      rw [if_neg (show ¬ (shows (takesV y nn)).timed=0 from ht)]
     have m8:=M7.out
     rw [hvy] at m8
     have hrl:=send_round HS1.out OK1.out HNX.out hpos HV1.out X1.out F1.out (F4.out.mono (O':=[H.gw]) (by simp) |>.trans F5.out (fun y hy => .inl hy)) X6.out F7.out PR7.out HN7.out M7.out (Fr.refl [H.g] W7) m8 (by rw [HSE.out])
     have HRL:=hI hrl
     have HMS:Hid (sentAt H.gw N W7<sentAt H.gw N wr):=hI (by rw [HSM.out,sentAt_eq m8,(send_ok OK1.out (by rw [← HNX.out];exact hpos)).2.1,← HNX.out];have:=HS1.out.1;omega)
     clear m8 hrl hvy
     go_wp2_with fail
     go_roundw
     case rel=>exact HRL.out
     case measure=>exact HMS.out
   ·have hd0:decide (n≤0)=true:=by simp;omega
    have hst:=loop_stop k y (by rw [← HNX.out];exact hpos)
    obtain⟨h1,h2,h3,h5,h6,h7⟩:=HS1.out
    rw [hst] at h6 h7
    simp only [List.append_nil] at h7
    have hRR:=HR.out
    rw [← h6] at hRR
    have HRR:=hI hRR
    have HLM7:=hI h7
    have hfv:finsV y=(y.closing && decide (y.win.s=(N:Int)) && !y.fin):=by unfold finsV;rw [h1]
    have hcv:closesV y=if finsV y then ({ shows y with fin:=true },[partV y 6 y.all.length []]) else (y,[]):=rfl
    have hok2:=closes_ok OK1.out
    have m4:=M1.out.fr F4.out
    have cs:=scells m4.blk
    have c7:=cs.c7
    have c11:=cs.c11
    have c16:=cs.c16
    have c19:=cs.c19
    rw [h1] at c7
    have c12:=cs.c12
    have c20:=cs.c20
    have z19:=m4.blk.frozen 19
    have pr4:=PR1.out.fr F4.out (by simp) (by simp) (fun _ h=>h)
    have hHS:∀ p:Grew w4,Calls Tryz.prog 48 #[ptr H.gw] p.W fun e w'=>e = .returned (.agg #[.int .i64 y.win.a, .int .i64 y.win.s, .int .i64 y.win.m, .int .i64 y.win.l])∧∃ q:Grew w4,w'=q.W:=fun p=>grew_call (Win.state_win H.gw y.win _ (Blk.fr m4.win p.fr (by simp)))
    have HHS:=hI hHS
    have y7:=Grew.cell c7
    have y11:=Grew.cell c11
    have y16:=Grew.cell c16
    have y19:=Grew.cell c19
    have M4:=hI m4
    have PR4:=hI pr4
    have HFV:=hI hfv
    have HCV:=hI hcv
    have OK2:=hI hok2
    have HH1:=hI h1
    have HN5:=hI h5
    have FW4:Hid (Fr (ob (.slice A L.length c)++H.own) w w4):=hI (F1.out.trans F4.out (by simp))
    clear hst h1 h2 h3 h5 h6 h7 hRR hfv hcv hok2 cs hHS m4 pr4 HRM HSM HLA HLO B4 hbd
    go_wp2_with fail
    generalize hgf:finsV y=fv at *
    have HGF:=hI hgf
    clear hgf
    go_cut [112] (fun s112 wx=>s112 = .bool fv∧Fr [] w4 wx)
    case first=>
     generalize y.closing=cl at *
     generalize y.fin=fi at *
     rcases Bool.eq_false_or_eq_true cl with rfl|rfl
     ·by_cases hsn:y.win.s=N
      ·have hsd:decide (y.win.s=(N:Int))=true:=by simpa using hsn
       have hsq:(y.win.s == (N:Int))=true:=by simpa using hsn
       rcases Bool.eq_false_or_eq_true fi with rfl|rfl
       all_goals
        have hf:=HFV.out
        rw [hsd] at hf
        simp only [Bool.not_true,Bool.not_false,Bool.and_true,Bool.true_and,Bool.and_false,Bool.false_and] at hf
        subst hf
        have HSN:=hI hsn
        clear hsn
        refine wp_region_grew (by kernel_rfl) (by kernel_rfl) ?_
        repeat (go_big_quiet_step ((go_at_call 48;exact HHS.out _)))
        refine wpQuiet_nil ?_
        intro w5 f5
        go_wp2_with fail
        go_meet
        first|exact⟨rfl,f5⟩|exact f5
      ·have hsd:decide (y.win.s=(N:Int))=false:=by simpa using hsn
       have hsq:(y.win.s == (N:Int))=false:=by simpa using hsn
       have hf:=HFV.out
       rw [hsd] at hf
       simp only [Bool.not_true,Bool.not_false,Bool.and_true,Bool.true_and,Bool.and_false,Bool.false_and] at hf
       subst hf
       refine wp_region_grew (by kernel_rfl) (by kernel_rfl) ?_
       repeat (go_big_quiet_step ((go_at_call 48;exact HHS.out _)))
       refine wpQuiet_nil ?_
       intro w5 f5
       go_wp2_with fail
       go_meet
       first|exact⟨rfl,f5⟩|exact f5
     ·have hf:=HFV.out
      simp only [Bool.not_true,Bool.not_false,Bool.and_true,Bool.true_and,Bool.and_false,Bool.false_and] at hf
      subst hf
      refine wp_region_grew (by kernel_rfl) (by kernel_rfl) ?_
      repeat (go_big_quiet_step ((go_at_call 48;exact HHS.out _)))
      refine wpQuiet_nil ?_
      intro w5 f5
      go_wp2_with fail
      go_meet
      first|exact⟨rfl,f5⟩|exact f5
    case rest=>
     obtain⟨rfl,fx⟩:=hcut
     have m5:=M4.out.fr fx
     have c7:=fr_cell fx c7
     have c12:=fr_cell fx c12
     have c20:=fr_cell fx c20
     have FX:=hI fx
     have PR5:=hI (PR4.out.fr fx (by simp) (by simp) (fun _ h=>h))
     clear c11 c16 c19 y7 y11 y16 y19 fx z19
     rcases Bool.eq_false_or_eq_true fv with rfl|rfl
     ·have hpt:Calls Tryz.prog 79 #[ptr H.g, .int .i64 4, .int .i64 y.all.length, .slice none 0 0] wc (PartPost S1 wc H (shows y) (partV y 6 y.all.length [])):=part_si m5 OK1.out.hi (by have:=OK1.out.hu;omega) 4 y.all.length (.inr (.inl rfl)) (by omega) (by have:=OK1.out.hl;omega) _ [] (fun _=>False) Byt.nil (by simp) (by simp)
      have hcv:=HCV.out
      rw [if_pos rfl] at hcv
      generalize partV y 6 y.all.length []=p at *
      rw [HH1.out] at hpt
      have HPt:=hI hpt
      have M5:=hI m5
      have HCV2:=hI hcv
      obtain⟨i0,hi0,hz0,hz1,hz2⟩:=info_parts info_part
      have HLM:Hid (L1.length+1≤maxLen):=hI (by unfold maxLen;have:=HN5.out;have:=HWB.out;have:=OK1.out.hm;have:=HH1.out;omega)
      have HLB:Hid ((L1.length+1) * 48≤140737488355328):=hI (by have:=HN5.out;have:=HWB.out;have:=OK1.out.hm;have:=HH1.out;omega)
      have NAP:Hid (∀ z∈ob (.slice A1 L1.length c1),z≠H.g):=hI (fun z hz=>by rintro rfl;exact own_ne PR1.out.own M1.out.blk (by decide) (mem_ob.1 hz))
      clear hpt m5 hcv c12 c20
      go_wp2_with fail
      refine HPt.out.mono ?_
      rintro e w6 ⟨S6,A6,c6,rfl,x6,by6,m6,f6⟩
      have HW6:=hI (lies_part PR5.out f6 NAP.out by6)
      have X6:=hI x6
      have Y6:=hI by6
      have M6:=hI m6
      have F6:=hI f6
      clear f6 x6 by6 m6 c7
      go_upto_region 12 with (at_builtin;refine wpList_append_sl _ rfl (.tmp 113) (.tmp 121) 27 rfl 49 i0 (.agg #[.int .i64 0, .int .u32 0, .int .u32 0, .int .u16 0, .slice none 0 0]) 5 48 Tryz.underlying27 hi0 hz0 hz1 hz2 rfl (by decide) (.slice A1 L1.length c1) L1.length (prs L1) (by rfl) HW6.out.1 (fun _=>True) (.slice (some ⟨w6.heap.size,0,none⟩) 1 1) 1 [.int .i64 p.flags, .int .u32 p.seq, .int .u32 p.ack, .int .u16 p.win, .slice A6 p.d.length c6] (by rfl) HW6.out.2 (one5 _ _ _ _) HLM.out HLB.out (L1.length+1) rfl ?_;intro A7 c7 W7 h10 h11 h12;have H10:=hI h10;have H11:=hI h11;have H12:=hI h12;clear h10 h11 h12)
      have m6a:=M6.out.fr ((Fr.refl [] w6).alloc (.cells #[.int .i64 p.flags, .int .u32 p.seq, .int .u32 p.ack, .int .u16 p.win, .slice A6 p.d.length c6] 49))
      have pr6:=PR5.out.fr (F6.out.alloc (.cells #[.int .i64 p.flags, .int .u32 p.seq, .int .u32 p.ack, .int .u16 p.win, .slice A6 p.d.length c6] 49)) (fun z hz=>by simp at hz;subst hz;exact M5.out.nS _ (.inl rfl)) (fun z hz=>by simpa using NAP.out z hz) X6.out.1
      have hv6:∀ z∈ob (.slice A1 L1.length c1),¬ S6 z:=fun z hz=>X6.out.off (Pr.lt PR5.out z hz) (HV1.out z hz).2
      obtain⟨m7,pr7,hn7⟩:=app_part m6a pr6 hv6 (Y6.out.fr ((Fr.refl [] w6).alloc _) (by simp)) H10.out H11.out H12.out
      have f7:Fr (ob (.slice A1 L1.length c1)++H.own) wc W7:=((F6.out.alloc _).mono (by simp [Hd.own])).trans (H11.out.mono (O':=ob (.slice A1 L1.length c1)++H.own) (fun y hy=>List.mem_append_left _ hy)) (fun y hy => .inl hy)
      have c19:=(scells m7.blk).c19
      have c12:=(scells m7.blk).c12
      have c20:=(scells m7.blk).c20
      have hlt7:=m7.blk.lt
      have z19:=m7.blk.frozen 19
      have M7:=hI m7
      have PR7:=hI pr7
      have HN7:=hI hn7
      have F7:=hI f7
      clear m6a pr6 hv6 m7 pr7 hn7 f7
      go_upto_region 13 with fail
      have m8:=M7.out.setfin
      have f8:Fr [H.g] W7 (W7.setCell ⟨H.g,19,none⟩ (.bool true)):=(Fr.refl [H.g] W7).setCell (p:=⟨H.g,19,none⟩) (.inl (by simp)) _
      generalize W7.setCell ⟨H.g,19,none⟩ (.bool true)=w8 at *
      have hok2:=OK2.out
      rw [HCV2.out] at hok2
      have hR8:R.1=restsV (lastV (closesV y).1):=by rw [HRR.out]
      have hL8:(L1++[(p,Value.slice A6 p.d.length c6)]).map (·.1)=L.map (·.1)++R.2:=by rw [HRR.out];dsimp only;rw [HCV2.out,List.map_append,HLM7.out,List.append_assoc];rfl
      rw [HCV2.out] at hR8
      dsimp only at hR8 hok2
      have PR8:=hI (PR7.out.own_fr' M7.out f8 (by simp [Hd.own]))
      have hz4:=F4.out.size
      have hzx:=FX.out.size
      have hzf:=F1.out.size
      have HV8:Hid (∀ b∈ob (.slice A7 (L1.length+1) c7),(b∈ob (.slice A L.length c)∨w.heap.size≤b)∧¬ S6 b):=hI (fun b hb=>by
       obtain⟨q1,q2⟩:=HN7.out b hb
       refine⟨?_,q2⟩
       rcases q1 with q|q
       ·exact (HV1.out b q).1
       ·have:=F6.out.size;simp at q;exact .inr (by omega))
      have X8:Hid (Ext w S S6):=hI (X1.out.trans (by omega) X6.out)
      have F8:Hid (Fr (ob (.slice A L.length c)++H.own) w w8):=hI (((FW4.out.trans FX.out (by simp)).trans F7.out (fun z hz=>by
       rcases List.mem_append.1 hz with hz|hz
       ·rcases (HV1.out z hz).1 with h|h
        ·exact .inl (List.mem_append_left _ h)
        ·exact .inr h
       ·exact .inl (List.mem_append_right _ hz))).trans f8 (fun z hz => .inl (by simp at hz;subst hz;simp [Hd.own])))
      have c12:=(scells m8.blk).c12
      have c20:=(scells m8.blk).c20
      have M8:=hI m8
      have OK3:=hI hok2
      have HR8:=hI hR8
      have HL8:=hI hL8
      clear OK2 hok2 hR8 hL8 m8 f8 F7 HN7 PR7 M7 c19 z19 hlt7 HCV2 HCV HRR
      generalize hy2:({ shows y with fin:=true }:St)=y2 at *
      have OK2:=OK3
      generalize hen:y2.ended=en at *
      generalize hac:y2.acked=ac at *
      rcases Bool.eq_false_or_eq_true en with rfl|rfl
      ·rcases Bool.eq_false_or_eq_true ac with rfl|rfl
       ·have hlv:lastV y2=doneV y2 false:=by unfold lastV;rw [hen,hac];rfl
        go_wp2_with fail
        refine (done_si M8.out false).mono ?_
        rintro e w9 ⟨rfl,m9,f9⟩
        have M9:=hI m9
        have F9:=hI f9
        clear m9 f9
        go_wp2_with fail
        refine (rests_si M9.out OK2.out.hc _ _ _).mono ?_
        rintro e wa ⟨rfl,ma,fa⟩
        go_wp2_with fail
        go_ret
        exact tail_post HL8.out (by rw [HR8.out,hlv]) X8.out M9.out (PR8.out.own_fr' M8.out F9.out (by simp [Hd.own])) HV8.out (F8.out.trans F9.out (fun y hy => .inl (by simp at hy;subst hy;simp [Hd.own]))) ma fa
       ·have hlv:lastV y2=y2:=by unfold lastV;rw [hen,hac];rfl
        go_wp2_with fail
        refine (rests_si M8.out OK2.out.hc _ _ _).mono ?_
        rintro e wa ⟨rfl,ma,fa⟩
        go_wp2_with fail
        go_ret
        exact tail_post HL8.out (by rw [HR8.out,hlv]) X8.out M8.out PR8.out HV8.out F8.out ma fa
      ·have hlv:lastV y2=y2:=by unfold lastV;rw [hen];rfl
       go_wp2_with fail
       refine (rests_si M8.out OK2.out.hc _ _ _).mono ?_
       rintro e wa ⟨rfl,ma,fa⟩
       go_wp2_with fail
       go_ret
       exact tail_post HL8.out (by rw [HR8.out,hlv]) X8.out M8.out PR8.out HV8.out F8.out ma fa
     ·have hcv:=HCV.out
      rw [if_neg (by simp)] at hcv
      have hok2:=OK2.out
      rw [hcv] at hok2
      have hR8:R.1=restsV (lastV (closesV y).1):=by rw [HRR.out]
      have hL8:L1.map (·.1)=L.map (·.1)++R.2:=by rw [HRR.out];dsimp only;rw [hcv,HLM7.out,List.append_nil]
      rw [hcv] at hR8
      dsimp only at hR8 hok2
      have M8:=hI m5
      have PR8:=PR5
      have HV8:=HV1
      have X8:=X1
      have F8:=hI (FW4.out.trans FX.out (by simp))
      have OK3:=hI hok2
      have HR8:=hI hR8
      have HL8:=hI hL8
      clear OK2 hok2 hR8 hL8 m5 hcv HCV HRR
      generalize hy2:y=y2 at *
      have OK2:=OK3
      generalize hen:y2.ended=en at *
      generalize hac:y2.acked=ac at *
      rcases Bool.eq_false_or_eq_true en with rfl|rfl
      ·rcases Bool.eq_false_or_eq_true ac with rfl|rfl
       ·have hlv:lastV y2=doneV y2 false:=by unfold lastV;rw [hen,hac];rfl
        go_wp2_with fail
        refine (done_si M8.out false).mono ?_
        rintro e w9 ⟨rfl,m9,f9⟩
        have M9:=hI m9
        have F9:=hI f9
        clear m9 f9
        go_wp2_with fail
        refine (rests_si M9.out OK2.out.hc _ _ _).mono ?_
        rintro e wa ⟨rfl,ma,fa⟩
        go_wp2_with fail
        go_ret
        exact tail_post HL8.out (by rw [HR8.out,hlv]) X8.out M9.out (PR8.out.own_fr' M8.out F9.out (by simp [Hd.own])) HV8.out (F8.out.trans F9.out (fun y hy => .inl (by simp at hy;subst hy;simp [Hd.own]))) ma fa
       ·have hlv:lastV y2=y2:=by unfold lastV;rw [hen,hac];rfl
        go_wp2_with fail
        refine (rests_si M8.out OK2.out.hc _ _ _).mono ?_
        rintro e wa ⟨rfl,ma,fa⟩
        go_wp2_with fail
        go_ret
        exact tail_post HL8.out (by rw [HR8.out,hlv]) X8.out M8.out PR8.out HV8.out F8.out ma fa
      ·have hlv:lastV y2=y2:=by unfold lastV;rw [hen];rfl
       go_wp2_with fail
       refine (rests_si M8.out OK2.out.hc _ _ _).mono ?_
       rintro e wa ⟨rfl,ma,fa⟩
       go_wp2_with fail
       go_ret
       exact tail_post HL8.out (by rw [HR8.out,hlv]) X8.out M8.out PR8.out HV8.out F8.out ma fa
 ·have hR:=sendsV_else x h4
  rw [hR]
  have c0:=(scells m.blk).c0
  have hd:decide (x.at_=4)=false:=by simpa using h4
  have hq:(x.at_ == 4)=false:=by simpa using h4
  have hn:(x.at_ != 4)=true:=by simpa using h4
  have M:=hI m
  have OK:=hI ok
  have PR:=hI pr
  have HV:=hI hv
  clear m ok pr hv hR
  go_enter Tryz.func56,Tryz.ntmps56
  go_wp2_with fail
  refine (rests_si M.out OK.out.hc _ _ _).mono ?_
  rintro e wa ⟨rfl,ma,fa⟩
  go_wp2_with fail
  go_ret
  exact tail_post (y3:=x) (by simp) rfl (Ext.refl w S) M.out PR.out (fun b hb=>⟨.inl hb,HV.out b hb⟩) (Fr.refl _ w) ma fa
end Go.Proofs.YtmgdbbbdhkfdmaaGreat
