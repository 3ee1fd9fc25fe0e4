import Derived.Test.YtmgdbbbdhkfdmaaGreatYS18
import Derived.Test.YtmgdbbbdhkfdmaaGreatYS20
import Derived.Deep.DeepCutAuto
import Derived.Test.YtmgdbbbdhkfdmaaGreatYS9
import Derived.Test.YtmgdbbbdhkfdmaaGreatYS17
import Derived.Test.YtmgdbbbdhkfdmaaGreatYS12
import Derived.Deep.RegionHeldLaw
set_option linter.unusedSimpArgs false
set_option linter.unusedVariables false
namespace Go.Proofs.YtmgdbbbdhkfdmaaGreat
set_option maxRecDepth 100000
open Go.RowKit Go.Deep
set_option maxHeartbeats 8000000 in
theorem esends_else{S:Nat→Prop}{w:World}{x:St}{av uv kv:Value}(m:RE S w x av uv kv)(ok:OkS x)(h4:x.at_≠4):Calls Tryz.prog 71 #[agE x av uv kv] w (EPart S w (sendsV x) av uv kv):=by
 have o1:=m.cells1
 have hR:=sendsV_else x h4
 obtain⟨⟨aA,ac,rfl,_,_⟩,_,_⟩:=m.forms
 have hre:=fun W (g:Fr [] w W)=>erests (m.fr g) ok.hc
 rw [hR]
 generalize restsV x=rz at *
 have l1:=Lo.start w (arE x (.slice aA x.all.length ac) uv kv)
 have hd:decide (x.at_=4)=false:=by simpa using h4
 have hq:(x.at_ == 4)=false:=by simpa using h4
 have L1:=hI l1
 have HRE:=hI hre
 clear m ok hR hre l1 h4
 go_enter Tryz.func71,Tryz.ntmps71
 go_upto_region 1 with fail
 generalize (w.alloc (.cells (arE x (.slice aA x.all.length ac) uv kv) 41)).alloc (.cells endZ 41)=w1 at *
 have LZ:Hid (∀ W,Fr [] w1 W→Lo w W w.heap.size (w.heap.size+1) (arE x (.slice aA x.all.length ac) uv kv)):=hI (fun W f=>L1.out.grow f)
 have c4:w1.cell? ⟨w.heap.size,4,none⟩=some (.slice aA x.all.length ac):=L1.out.s.cell 4
 have c2:w1.cell? ⟨w.heap.size,2,none⟩=some (.int .i64 x.at_):=L1.out.s.cell 2
 clear L1
 go_wp2_with fail
 go_loopw [4] (fun s4 wr=>s4 = .slice none 0 0∧wr=w1) (fun _ _=>0)
 case atStart=>exact⟨rfl,rfl⟩
 case round=>
  obtain⟨rfl,rfl⟩:=hrel
  go_upto_region 19 with fail
  clear c4 c2
  go_cut [3] (fun s3 wx=>s3 = .slice none 0 0∧Blk wx (w.heap.size+1) 41 (arE rz (.slice aA x.all.length ac) uv kv)∧Fr [] w wx)
  case first=>
   go_wp2_with (first
   | ((with_reducible refine gate_load 41 (.tmp 1) ?_);refine wpList_load_blk rfl 41 (.tmp 1) rfl w.heap.size 41 (arE x (.slice aA x.all.length ac) uv kv) _ rfl (LZ.out _ (by first|exact Fr.refl _ _|assumption)).s Tryz.underlying41 rfl (by kernel_rfl) ?_)
   | (go_at_call 27;refine (HRE.out _ (LZ.out _ (Fr.refl _ _)).f).mono ?_;rintro e w6 ⟨rfl,f6⟩)
   | ((with_reducible refine gate_store 41 (.tmp 2) ?_);refine wpList_store_blk rfl 41 (.tmp 2) (.tmp 124) rfl (w.heap.size+1) 41 endZ (arE rz (.slice aA x.all.length ac) uv kv) rfl rfl (LZ.out _ f6).r rfl (by kernel_rfl) (by first|exact o1.out _|exact o2.out _|simp [Value.oneCell']) ?_;intro w8 B8 F8))
   go_meet
   exact⟨rfl,B8,(LZ.out _ f6).res F8⟩
  case rest=>
   obtain⟨rfl,Bz,Fz⟩:=hcut
   refine ‹∀(a:Act) (w:World),Code.wp Tryz.prog Code.ret _ a w→_› _ _ (wp_ret ?_)
   try simp only [Exit.then]
   change bodyPost Tryz.prog _ _ .ret _ _
   refine bodyPost_ret (results_ct 2 41 ⟨w.heap.size+1,0,none⟩ _ 3 (.slice none 0 0) (by rfl) (by rfl) (end_load Bz) (by rfl)) (by rfl) ?_
   exact⟨_,[],rfl,rfl,Pr.nil,Fz⟩
theorem esends{S:Nat→Prop}{w:World}{x:St}{av uv kv:Value}(m:RE S w x av uv kv)(ok:OkS x)(ou:OkU x)(bk:x.broken=true→x.at_=5):Calls Tryz.prog 71 #[agE x av uv kv] w (EPart S w (sendsV x) av uv kv):=by
 by_cases h4:x.at_=4
 ·exact esends4 m ok ou h4 (not_bk bk (by omega))
 ·exact esends_else m ok h4
theorem sends_num(x:St):(sendsV x).1.all=x.all∧(sendsV x).1.unread=x.unread∧(sendsV x).1.heap=x.heap:=by
 have hr:∀ y,(restsV y).all=y.all∧(restsV y).unread=y.unread∧(restsV y).heap=y.heap:=fun y=>by
  unfold restsV
  (repeat' split) <;> exact⟨rfl,rfl,rfl⟩
 have hl:∀ y,(lastV y).all=y.all∧(lastV y).unread=y.unread∧(lastV y).heap=y.heap:=fun y=>by
  unfold lastV
  split <;> exact⟨rfl,rfl,rfl⟩
 have hc:∀ y,(closesV y).1.all=y.all∧(closesV y).1.unread=y.unread∧(closesV y).1.heap=y.heap:=fun y=>by
  unfold closesV
  split <;> exact⟨rfl,rfl,rfl⟩
 have hs:∀ y,(sendV y).1.all=y.all∧(sendV y).1.unread=y.unread∧(sendV y).1.heap=y.heap:=fun y=>by
  rw [sendV_eq]
  unfold timesV
  dsimp only
  split <;> exact⟨rfl,rfl,rfl⟩
 have hk:∀(k:Nat) (y:St),(loopV k y).1.all=y.all∧(loopV k y).1.unread=y.unread∧(loopV k y).1.heap=y.heap:=fun k=>by
  induction k with
  | zero=>exact fun y=>⟨rfl,rfl,rfl⟩
  | succ k ih=>
   intro y
   by_cases h:0<nextV y
   ·rw [loop_go k y h]
    exact⟨(ih _).1.trans (hs y).1,(ih _).2.1.trans (hs y).2.1,(ih _).2.2.trans (hs y).2.2⟩
   ·rw [loop_stop _ y h]
    exact⟨rfl,rfl,rfl⟩
 by_cases h:x.at_=4
 ·rw [sendsV_open x h]
  exact⟨(hr _).1.trans ((hl _).1.trans ((hc _).1.trans (hk _ x).1)),(hr _).2.1.trans ((hl _).2.1.trans ((hc _).2.1.trans (hk _ x).2.1)),(hr _).2.2.trans ((hl _).2.2.trans ((hc _).2.2.trans (hk _ x).2.2))⟩
 ·rw [sendsV_else x h]
  exact hr x
theorem ecomes{S:Nat→Prop}{w:World}{x:St}{av uv kv:Value}(m:RE S w x av uv kv)(ok:Ok x)(ou:OkU x)(p:Prt)(f0:0≤p.flags)(f1:p.flags≤15)(s0:0≤p.seq)(s1:p.seq<4294967296)(k0:0≤p.ack)(k1:p.ack<4294967296)(r0:0≤p.win)(r1:p.win<65536)(hdl:p.d.length≤100)
  (DA:Option Addr) (dc:Nat) (T:Nat→Prop) (hd:Byt T w (.slice DA p.d.length dc) p.d) (hT:∀ b,T b→b<w.heap.size):Calls Tryz.prog 70 #[agE x av uv kv,agP p (.slice DA p.d.length dc)] w (EL S w (comesV x p)):=by
 have a0:=ok.at0
 have a5:=ok.at5
 by_cases h1:x.at_=1
 ·exact ecomes1 m ok ou p f0 f1 s0 s1 k0 k1 r0 r1 hdl DA dc T hd hT h1
 by_cases h2:x.at_=2
 ·exact ecomes2 m ok ou p f0 f1 s0 s1 k0 k1 r0 r1 hdl DA dc T hd hT h2
 by_cases h3:x.at_=3
 ·exact ecomes3 m ok ou p f0 f1 s0 s1 k0 k1 r0 r1 hdl DA dc T hd hT h3
 by_cases h4:x.at_=4
 ·exact ecomes4 m ok ou p f0 f1 s0 s1 k0 k1 r0 r1 hdl DA dc T hd hT h4
 ·exact ecomes5 m ok ou p f0 f1 s0 s1 k0 k1 r0 r1 hdl DA dc T hd hT (by omega)
theorem callsV_syn(x:St)(p:Prt)(h:p.flags=1):callsV x p=listenV x p:=by unfold callsV;rw [if_pos h]
theorem callsV_no(x:St)(p:Prt)(h1:p.flags≠1)(h:p.ack≠add32 x.isn 1∨has p.flags 2=false):callsV x p=(x,[]):=by unfold callsV;rw [if_neg h1,if_pos h]
theorem callsV_ack(x:St)(p:Prt)(h:p.ack=add32 x.isn 1)(h3:p.flags=3):callsV x p=(shows (opensV { x with peer:=p.seq } p.win),[answerV (opensV { x with peer:=p.seq } p.win)]):=by
 unfold callsV
 rw [if_neg (by omega),if_neg (by rw [h3];simp [h,has]),if_pos h3]
theorem callsV_rst(x:St)(p:Prt)(h:p.ack=add32 x.isn 1)(h3:p.flags=10):callsV x p=(doneV x true,[]):=by
 unfold callsV
 rw [if_neg (by omega),if_neg (by rw [h3];simp [h,has]),if_neg (by omega),if_pos h3]
theorem callsV_else(x:St)(p:Prt)(h:p.ack=add32 x.isn 1)(h2:has p.flags 2=true)(h1:p.flags≠1)(h3:p.flags≠3)(h10:p.flags≠10):callsV x p=(x,[]):=by
 unfold callsV
 rw [if_neg h1,if_neg (by simp [h,h2]),if_neg h3,if_neg h10]
set_option maxHeartbeats 8000000 in
theorem calls_si{S:Nat→Prop}{w:World}{H:Hd}{x:St}(m:SI S w H x)(ok:OkS x)(p:Prt)(okp:OkP p)(A:Option Addr)(c:Nat) :
  Calls Tryz.prog 52 #[ptr H.g,agP p (.slice A p.d.length c)] w (LPost S w H (callsV x p)):=by
 have v1:=callsV_syn x p
 have vn:=callsV_no x p
 have va:=callsV_ack x p
 have vr:=callsV_rst x p
 have ve:=callsV_else x p
 have hbit:=has_bits p.flags 2 okp.f0 okp.f1 (by simp)
 generalize callsV x p=y at *
 obtain⟨fl,sq,ak,wi,d⟩:=p
 dsimp only at *
 have hgl:=m.blk.lt
 have f0:Fr [] w (w.alloc (.cells (arP ⟨fl,sq,ak,wi,d⟩ (.slice A d.length c)) 49)):=(Fr.refl [] w).alloc _
 have b0:Blk (w.alloc (.cells (arP ⟨fl,sq,ak,wi,d⟩ (.slice A d.length c)) 49)) w.heap.size 49 (arP ⟨fl,sq,ak,wi,d⟩ (.slice A d.length c)):=Blk.new w _ _
 have M:=hI m
 have OK:=hI ok
 have OKP:=hI okp
 have V1:=hI v1
 have VN:=hI vn
 have VA:=hI va
 have VR:=hI vr
 have VE:=hI ve
 have hr:IntKind.u32.wrap (x.isn+1)=add32 x.isn 1:=by rw [wrap32];rfl
 have hr':(x.isn+1) % 4294967296=add32 x.isn 1:=rfl
 generalize hrr:add32 x.isn 1=r at *
 generalize h2:has fl 2=b2 at *
 have HB2:=hI h2
 have HR:=hI hrr
 clear m ok okp v1 vn va vr ve h2 hrr
 by_cases h1:fl=1
 ·subst h1
  clear hbit
  go_enter Tryz.func52,Tryz.ntmps52
  go_upto_region 1 with fail
  generalize w.alloc (.cells (arP ⟨1,sq,ak,wi,d⟩ (.slice A d.length c)) 49)=w0 at *
  obtain⟨y0,y1,y2,y3,y4⟩:=cells5 b0
  have F0:=hI f0
  clear f0 b0
  go_wp2_with fail
  refine (listen_si (M.out.fr F0.out) OK.out.hi (by have:=OK.out.hu;omega) ⟨1,sq,ak,wi,d⟩ A c).mono ?_
  rintro e w2 ⟨S2,H2,v,L,rfl,hL,x2,l2,m2,p2,n2,f2⟩
  have hP:LPost S w H (listenV x ⟨1,sq,ak,wi,d⟩) (.returned v) w2:=LPost.of (Ext.refl w S) (Hd.like.rfl' w H) (F0.out.mono (by simp)) ⟨S2,H2,v,L,rfl,hL,x2,l2,m2,p2,n2,f2⟩
  have HP:=hI hP
  clear hP hL x2 l2 m2 p2 n2 f2
  go_wp2_with fail
  go_ret
  rw [V1.out (by trivial)]
  exact HP.out
 ·have h1q:(fl == 1)=false:=by simpa using h1
  have h1d:decide (fl=1)=false:=by simpa using h1
  go_enter Tryz.func52,Tryz.ntmps52
  go_upto_region 1 with fail
  generalize w.alloc (.cells (arP ⟨fl,sq,ak,wi,d⟩ (.slice A d.length c)) 49)=w0 at *
  obtain⟨y0,y1,y2,y3,y4⟩:=cells5 b0
  have F0:=hI f0
  have B0:=hI b0
  have m0:=M.out.fr f0
  have c13:=(scells m0.blk).c13
  have g0:=Grew.cell y0
  have g2:=Grew.cell y2
  have g13:=Grew.cell c13
  clear f0 b0 m0
  go_upto_region 3 with fail
  by_cases ha:ak=r
  ·have HA:=hI ha
   subst ha
   rcases Bool.eq_false_or_eq_true b2 with hb|hb
   ·have hbq:(bits BinOp.and IntKind.i64 fl 2 == 0)=false:=by rw [hb] at hbit;simpa using hbit
    have hbd:decide (bits BinOp.and IntKind.i64 fl 2=0)=false:=by rw [hb] at hbit;simpa using hbit
    refine wp_region_grew (by kernel_rfl) (by kernel_rfl) ?_
    repeat (go_big_quiet_step (fail))
    refine wpQuiet_nil ?_
    intro w2 f2
    have F2:=hI (F0.out.trans f2 (by simp))
    have b2':=B0.out.fr f2 (by simp)
    obtain⟨z0,z1,z2,z3,z4⟩:=cells5 b2'
    have m2:=M.out.fr F2.out
    have hl2:=m2.blk.lt
    have c2:=(scells m2.blk).c2
    have q2:=m2.blk.frozen 2
    have M2:=hI m2
    clear f2 b2' m2 y0 y1 y2 y3 y4 g0 g2 g13 c13
    by_cases h3:fl=3
    ·subst h3
     have ng:H.g≠w.heap.size:=by omega
     go_wp2_with fail
     have f3:Fr [H.g] w2 (w2.setCell ⟨H.g,2,none⟩ (.int .u32 sq)):=(Fr.refl [H.g] w2).setCell (p:=⟨H.g,2,none⟩) (.inl (by simp)) _
     have m3:=M2.out.set (w':=w2.setCell ⟨H.g,2,none⟩ (.int .u32 sq)) (x':={ x with peer:=sq }) f3 (by simpa using M2.out.blk.set_ 2 (.int .u32 sq)) rfl rfl rfl rfl rfl
     generalize w2.setCell ⟨H.g,2,none⟩ (.int .u32 sq)=w3 at *
     refine (opens_si m3 wi 1000000000 (Int.le_refl _) OK.out.hw OK.out.hc OKP.out.w0 OKP.out.w1).mono ?_
     rintro e w4 ⟨rfl,m4,f4⟩
     have M4:=hI m4
     have F4:Hid (Fr H.own w w4):=hI (((F2.out.mono (by simp)).trans (f3.mono (O':=H.own) (by simp [Hd.own])) (fun y hy => .inl hy)).trans (f4.mono (O':=H.own) (by simp [Hd.own])) (fun y hy => .inl hy))
     clear m3 f3 m4 f4 z0 z1 z2 z3 z4 c2 q2
     go_wp2_with fail
     refine (answer_si M4.out OK.out.hi (by have:=OK.out.hu;show x.unread.length≤100000;omega) (by show 0≤(Win.ackV x.win 0 wi).1.m;rw [ack_m];have:=Win.Inv.bd OK.out.hw;omega) (by show (Win.ackV x.win 0 wi).1.m≤_;rw [ack_m];have:=OK.out.hm;have:=OK.out.hl;omega)).mono ?_
     rintro e w5 ⟨S5,A5,c5,rfl,x5,by5,m5,f5⟩
     have hp:=lpost_one (Ext.refl w S) (Hd.like.rfl' w H) F4.out (⟨S5,A5,c5,rfl,x5,by5,m5,f5⟩:PartPost S w4 H _ _ (.returned (agP (answerV (opensV { x with peer:=sq } wi)) (.slice A5 _ c5))) w5) rfl
     have HP:=hI hp
     clear hp x5 by5 m5 f5
     go_wp2_with fail
     go_ret
     rw [VA.out (by trivial) (by trivial)]
     exact HP.out
    ·have h3q:(fl == 3)=false:=by simpa using h3
     have h3d:decide (fl=3)=false:=by simpa using h3
     by_cases h10:fl=10
     ·subst h10
      go_wp2_with fail
      refine (done_si M2.out true).mono ?_
      rintro e w3 ⟨rfl,m3,f3⟩
      have M3:=hI m3
      have F3:=hI ((F2.out.mono (by simp)).trans (f3.mono (O':=H.own) (by simp [Hd.own])) (fun y hy => .inl hy))
      clear m3 f3
      go_wp2_with fail
      go_ret
      rw [VR.out (by trivial) (by trivial)]
      exact lpost_nil M3.out F3.out
     ·have h10q:(fl == 10)=false:=by simpa using h10
      have h10d:decide (fl=10)=false:=by simpa using h10
      go_wp2_with fail
      go_ret
      rw [VE.out (by trivial) (by first|exact hb|trivial) h1 h3 h10]
      exact lpost_nil M2.out (F2.out.mono (by simp))
   ·have hbq:(bits BinOp.and IntKind.i64 fl 2 == 0)=true:=by rw [hb] at hbit;simpa using hbit
    have hbd:decide (bits BinOp.and IntKind.i64 fl 2=0)=true:=by rw [hb] at hbit;simpa using hbit
    refine wp_region_grew (by kernel_rfl) (by kernel_rfl) ?_
    repeat (go_big_quiet_step (fail))
    refine wpQuiet_nil ?_
    intro w2 f2
    have F2:=hI (F0.out.trans f2 (by simp))
    clear f2 y0 y1 y2 y3 y4 g0 g2 g13 c13
    go_wp2_with fail
    go_ret
    rw [VN.out h1 (.inr (by first|exact hb|trivial))]
    exact lpost_nil (M.out.fr F2.out) (F2.out.mono (by simp))
  ·have haq:(ak == r)=false:=by simpa using ha
   have had:decide (ak=r)=false:=by simpa using ha
   have han:(ak != r)=true:=by simpa using ha
   refine wp_region_grew (by kernel_rfl) (by kernel_rfl) ?_
   repeat (go_big_quiet_step (fail))
   refine wpQuiet_nil ?_
   intro w2 f2
   have F2:=hI (F0.out.trans f2 (by simp))
   clear f2 y0 y1 y2 y3 y4 g0 g2 g13 c13
   go_wp2_with fail
   go_ret
   rw [VN.out h1 (.inl ha)]
   exact lpost_nil (M.out.fr F2.out) (F2.out.mono (by simp))
theorem openV_rst(x:St)(p:Prt)(h:has p.flags 8=true):openV x p=(if p.seq=awaitedV x then doneV x true else x,[]):=by unfold openV;rw [if_pos h]
theorem openV_syn(x:St)(p:Prt)(h8:has p.flags 8=false)(h:has p.flags 1=true):openV x p=(shows x,[answerV x]):=by unfold openV;rw [if_neg (by simp [h8]),if_pos h]
theorem openV_no(x:St)(p:Prt)(h8:has p.flags 8=false)(h1:has p.flags 1=false)(h:has p.flags 2=false):openV x p=(x,[]):=by unfold openV;rw [if_neg (by simp [h8]),if_neg (by simp [h1]),if_pos (by simp [h])]
def open2V(x:St)(p:Prt):St:=if (acksV x p).ended then acksV x p else dataV (acksV x p) p
theorem openV_ack(x:St)(p:Prt)(h8:has p.flags 8=false)(h1:has p.flags 1=false)(h:has p.flags 2=true):openV x p=if p.d.length=0∧has p.flags 4=false then (open2V x p,[]) else (shows (open2V x p),[answerV (open2V x p)]):=by
 unfold openV open2V
 rw [if_neg (by simp [h8]),if_neg (by simp [h1]),if_neg (by simp [h])]
set_option maxHeartbeats 8000000 in
theorem open_si{S:Nat→Prop}{w:World}{H:Hd}{x:St}(m:SI S w H x)(ok:OkS x)(p:Prt)(okp:OkP p)(dv:Value)(T:Nat→Prop)(hd:Byt T w dv p.d)(hT:∀ b,T b→b∉H.own∧b<w.heap.size) :
  Calls Tryz.prog 54 #[ptr H.g,agP p dv] w (LPost S w H (openV x p)):=by
 have e8:=openV_rst x p
 have e1:=openV_syn x p
 have e0:=openV_no x p
 have ea:=openV_ack x p
 have hacks:=acks_same x p
 generalize openV x p=y at *
 obtain⟨fl,sq,ak,wi,d⟩:=p
 dsimp only at *
 obtain⟨A,c,rfl,_,_⟩:=hd.form
 have hgl:=m.blk.lt
 have f0:Fr [] w (w.alloc (.cells (arP ⟨fl,sq,ak,wi,d⟩ (.slice A d.length c)) 49)):=(Fr.refl [] w).alloc _
 have b0:Blk (w.alloc (.cells (arP ⟨fl,sq,ak,wi,d⟩ (.slice A d.length c)) 49)) w.heap.size 49 (arP ⟨fl,sq,ak,wi,d⟩ (.slice A d.length c)):=Blk.new w _ _
 have M:=hI m
 have OK:=hI ok
 have OKP:=hI okp
 have HD:=hI hd
 have HT:=hI hT
 have E8:=hI e8
 have E1:=hI e1
 have E0:=hI e0
 have EA:=hI ea
 have HAS:=hI hacks
 have HN8:Hid (∀ W,W.cell? ⟨w.heap.size,0,none⟩=some (.int .i64 fl)→∀ n,n=1∨n=2∨n=4∨n=8→Calls Tryz.prog 91 #[.int .i64 n,ptr w.heap.size] W fun e w'=>e = .returned (.bool (has fl n))∧W=w'):=hI (fun W hc n hn=>open1_any fl n _ W hc okp.f0 okp.f1 hn)
 clear m ok okp hd hT e8 e1 e0 ea hacks
 generalize h8:has fl 8=b8 at *
 generalize h1:has fl 1=b1 at *
 generalize h2:has fl 2=b2 at *
 generalize h4:has fl 4=b4 at *
 have H8:=hI h8
 have H1:=hI h1
 have H2:=hI h2
 have H4:=hI h4
 clear h8 h1 h2 h4
 go_enter Tryz.func54,Tryz.ntmps54
 go_upto_region 1 with fail
 generalize w.alloc (.cells (arP ⟨fl,sq,ak,wi,d⟩ (.slice A d.length c)) 49)=w0 at *
 obtain⟨y0,y1,y2,y3,y4⟩:=cells5 b0
 have F0:=hI f0
 have B0:=hI b0
 clear f0 b0
 go_wp2_with fail
 refine (HN8.out w0 y0 8 (by simp)).mono ?_
 rw [H8.out]
 rintro e w1 ⟨rfl,rfl⟩
 cases b8
 ·go_wp2_with fail
  refine (HN8.out w0 y0 1 (by simp)).mono ?_
  rw [H1.out]
  rintro e w1 ⟨rfl,rfl⟩
  cases b1
  ·go_wp2_with fail
   refine (HN8.out w0 y0 2 (by simp)).mono ?_
   rw [H2.out]
   rintro e w1 ⟨rfl,rfl⟩
   cases b2
   ·go_wp2_with fail
    go_ret
    rw [E0.out (by trivial) (by trivial) (by trivial)]
    exact lpost_nil (M.out.fr F0.out) (F0.out.mono (by simp))
   ·go_wp2_with fail
    have hac:=acks_si (M.out.fr F0.out) ⟨fl,sq,ak,wi,d⟩ A c 1000000000 (Int.le_refl _) OK.out.hw OK.out.hc OK.out.hm OK.out.hl OK.out.n0 OK.out.n1 OK.out.s0 OK.out.s1 OKP.out.w0 OKP.out.w1
    have hx2:open2V x ⟨fl,sq,ak,wi,d⟩=if (acksV x ⟨fl,sq,ak,wi,d⟩).ended then acksV x ⟨fl,sq,ak,wi,d⟩ else dataV (acksV x ⟨fl,sq,ak,wi,d⟩) ⟨fl,sq,ak,wi,d⟩:=rfl
    generalize acksV x ⟨fl,sq,ak,wi,d⟩=x1 at *
    refine hac.mono ?_
    clear hac
    rintro e w2 ⟨H1',rfl,lk,m2,f2⟩
    have f2':Fr H.own w0 w2:=f2.mono (fun y hy=>by simp at hy;rcases hy with h|h|h <;> simp [Hd.own,h])
    have c12:w2.cell? ⟨H.g,12,none⟩=some (.bool x1.ended):=by rw [← lk.g];exact (scells m2.blk).c12
    have hown:∀ y∈H.own,y<w.heap.size:=M.out.lt
    have b2':=B0.out.fr f2' (fun hm=>by have:=hown _ hm;omega)
    obtain⟨s1,s2,s3,s4,s5⟩:=HAS.out
    have fz0:w.heap.size≤w0.heap.size:=F0.out.size
    have lkw:Hd.like w H H1':=⟨lk.g,lk.gw,lk.gc,lk.gh,fun b hb=>(lk.own b hb).imp id (fun h=>by omega)⟩
    have fw2:Fr H.own w w2:=(F0.out.mono (by simp)).trans f2' (fun y hy => .inl hy)
    have hib:Inv x1.heap:=by rw [s1];exact OK.out.hi
    have hub:x1.unread.length≤1024:=by rw [s2];exact OK.out.hu
    have hwb:=Win.Inv.bd OK.out.hw
    have hmb:=OK.out.hm
    have hlb:=OK.out.hl
    have hdat:Calls Tryz.prog 93 #[ptr H.g,agP ⟨fl,sq,ak,wi,d⟩ (.slice A d.length c)] w2 (DataPost S w2 H1' (dataV x1 ⟨fl,sq,ak,wi,d⟩)):=by
     have h:=data_si m2 hib ⟨fl,sq,ak,wi,d⟩ (.slice A d.length c) T (HD.out.fr fw2 (fun y hy hs=>(HT.out y hs).1 hy)) (fun b hb hm=>by
      rcases lkw.own b hm with h|h
      ·exact (HT.out b hb).1 h
      ·have:=(HT.out b hb).2;omega) OKP.out.d1 hub OKP.out.f0 OKP.out.f1
     rwa [lk.g] at h
    have hdo:=data_ok x1 ⟨fl,sq,ak,wi,d⟩ hib hub OKP.out.d1
    have HDat:=hI hdat
    obtain⟨y0,y1,y2,y3,y4⟩:=cells5 b2'
    have HX20:=hI hx2
    have M2:=hI m2
    have LKW:=hI lkw
    have FW2:=hI fw2
    have BB2:=hI b2'
    have HDO:=hI hdo
    have BBX:Hid (w.heap.size∉H1'.own):=hI (fun hm=>by
     have h1:=m2.lt _ hm
     rcases lk.own _ hm with h|h
     ·have:=hown _ h;omega
     ·have:=B0.out.lt;omega)
    clear f2 f2' lk m2 lkw fw2 b2' hdat hx2 hdo hwb hmb
    rcases Bool.eq_false_or_eq_true x1.ended with hen|hen
    ·rw [hen] at c12
     have hx2:open2V x ⟨fl,sq,ak,wi,d⟩=x1:=by rw [HX20.out,if_pos hen]
     have HX2:=hI hx2
     clear hx2
     have hi2:=hib
     have hu2:x1.unread.length≤100000:=by omega
     have hm2:0≤x1.win.m:=by rw [s4];have:=Win.Inv.bd OK.out.hw;omega
     have hm2':x1.win.m≤4611686018427387000:=by rw [s4];have:=OK.out.hm;omega
     have b3:=BB2.out
     have lk3:=LKW.out
     have m3:=M2.out
     have f3:=FW2.out
     have e3:Ext w S S:=Ext.refl w S
     have B3:=hI b3
     obtain⟨y0,y1,y2,y3,y4⟩:=cells5 b3
     have LK3:=hI lk3
     have EX3:=hI e3
     have M3:=hI m3
     have FF3:=hI f3
     have hans:Calls Tryz.prog 59 #[ptr H.g] w2 (PartPost S w2 H1' (shows x1) (answerV x1)):=by
      have h:=answer_si m3 hi2 hu2 hm2 hm2'
      rwa [lk3.g] at h
     have HAns:=hI hans
     clear hans b3 lk3 e3 m3 f3
     rcases Nat.eq_zero_or_pos d.length with hd0|hd0
     ·have hdq:((d.length:Int) == 0)=true:=by simp [hd0]
      have hdd:decide ((d.length:Int)=0)=true:=by simp [hd0]
      go_wp2_with fail
      refine (HN8.out w2 y0 4 (by simp)).mono ?_
      rw [H4.out]
      rintro e w4 ⟨rfl,rfl⟩
      cases b4
      ·go_wp2_with fail
       go_ret
       rw [EA.out (by trivial) (by trivial) (by trivial),if_pos ⟨hd0,by trivial⟩,HX2.out]
       exact⟨S,H1',_,[],rfl,rfl,EX3.out,LK3.out,M3.out,Pr.nil,by simp [ob,Value.ownBlock],FF3.out⟩
      ·have hif:¬ (d.length=0∧true=false):=by simp
       go_wp2_with fail
       refine HAns.out.mono ?_
       rintro e w5 ⟨S5,A5,c5,rfl,x5,by5,m5,f5⟩
       have hp:=lpost_one EX3.out LK3.out FF3.out (⟨S5,A5,c5,rfl,x5,by5,m5,f5⟩:PartPost S w2 H1' _ _ (.returned (agP (answerV x1) (.slice A5 _ c5))) w5) rfl
       have HP:=hI hp
       clear hp x5 by5 m5 f5
       go_wp2_with fail
       go_ret
       rw [EA.out (by trivial) (by trivial) (by trivial),if_neg hif,HX2.out]
       exact HP.out
     ·have hif:¬ (d.length=0∧b4=false):=fun h=>by have:=h.1;omega
      have hdz:(d.length:Int)≠0:=by omega
      have hdq:((d.length:Int) == 0)=false:=by simpa using hdz
      have hdd:decide ((d.length:Int)=0)=false:=by simpa using hdz
      go_wp2_with fail
      refine HAns.out.mono ?_
      rintro e w5 ⟨S5,A5,c5,rfl,x5,by5,m5,f5⟩
      have hp:=lpost_one EX3.out LK3.out FF3.out (⟨S5,A5,c5,rfl,x5,by5,m5,f5⟩:PartPost S w2 H1' _ _ (.returned (agP (answerV x1) (.slice A5 _ c5))) w5) rfl
      have HP:=hI hp
      clear hp x5 by5 m5 f5
      go_wp2_with fail
      go_ret
      rw [EA.out (by trivial) (by trivial) (by trivial),if_neg hif,HX2.out]
      exact HP.out
    ·rw [hen] at c12
     go_wp2_with fail
     refine HDat.out.mono ?_
     rintro e w3 ⟨S3,H3,rfl,x3,lk',m3,f3'⟩
     have hz2:=FW2.out.size
     have lk3:=LKW.out.trans hz2 lk'
     have e3:=ext_up x3 hz2
     have f3:Fr H.own w w3:=FW2.out.trans f3' (fun y hy=>LKW.out.own y hy)
     have b3:=BB2.out.fr f3' (fun hm=>by
      rcases LKW.out.own _ hm with h|h
      ·have:=hown _ h;omega
      ·exact BBX.out hm)
     have hx2:open2V x ⟨fl,sq,ak,wi,d⟩=dataV x1 ⟨fl,sq,ak,wi,d⟩:=by rw [HX20.out,if_neg (by simp [hen])]
     have HX2:=hI hx2
     obtain⟨hi2,hu2,hw2⟩:=HDO.out
     have hm2:0≤(dataV x1 ⟨fl,sq,ak,wi,d⟩).win.m:=by rw [hw2,s4];have:=Win.Inv.bd OK.out.hw;omega
     have hm2':(dataV x1 ⟨fl,sq,ak,wi,d⟩).win.m≤4611686018427387000:=by rw [hw2,s4];have:=OK.out.hm;omega
     generalize dataV x1 ⟨fl,sq,ak,wi,d⟩=x2 at *
     clear hx2 lk' f3' x3 y0 y1 y2 y3 y4 c12
     have B3:=hI b3
     obtain⟨y0,y1,y2,y3,y4⟩:=cells5 b3
     have LK3:=hI lk3
     have EX3:=hI e3
     have M3:=hI m3
     have FF3:=hI f3
     have hans:Calls Tryz.prog 59 #[ptr H.g] w3 (PartPost S3 w3 H3 (shows x2) (answerV x2)):=by
      have h:=answer_si m3 hi2 hu2 hm2 hm2'
      rwa [lk3.g] at h
     have HAns:=hI hans
     clear hans b3 lk3 e3 m3 f3
     rcases Nat.eq_zero_or_pos d.length with hd0|hd0
     ·have hdq:((d.length:Int) == 0)=true:=by simp [hd0]
      have hdd:decide ((d.length:Int)=0)=true:=by simp [hd0]
      go_wp2_with fail
      refine (HN8.out w3 y0 4 (by simp)).mono ?_
      rw [H4.out]
      rintro e w4 ⟨rfl,rfl⟩
      cases b4
      ·go_wp2_with fail
       go_ret
       rw [EA.out (by trivial) (by trivial) (by trivial),if_pos ⟨hd0,by trivial⟩,HX2.out]
       exact⟨S3,H3,_,[],rfl,rfl,EX3.out,LK3.out,M3.out,Pr.nil,by simp [ob,Value.ownBlock],FF3.out⟩
      ·have hif:¬ (d.length=0∧true=false):=by simp
       go_wp2_with fail
       refine HAns.out.mono ?_
       rintro e w5 ⟨S5,A5,c5,rfl,x5,by5,m5,f5⟩
       have hp:=lpost_one EX3.out LK3.out FF3.out (⟨S5,A5,c5,rfl,x5,by5,m5,f5⟩:PartPost S3 w3 H3 _ _ (.returned (agP (answerV x2) (.slice A5 _ c5))) w5) rfl
       have HP:=hI hp
       clear hp x5 by5 m5 f5
       go_wp2_with fail
       go_ret
       rw [EA.out (by trivial) (by trivial) (by trivial),if_neg hif,HX2.out]
       exact HP.out
     ·have hif:¬ (d.length=0∧b4=false):=fun h=>by have:=h.1;omega
      have hdz:(d.length:Int)≠0:=by omega
      have hdq:((d.length:Int) == 0)=false:=by simpa using hdz
      have hdd:decide ((d.length:Int)=0)=false:=by simpa using hdz
      go_wp2_with fail
      refine HAns.out.mono ?_
      rintro e w5 ⟨S5,A5,c5,rfl,x5,by5,m5,f5⟩
      have hp:=lpost_one EX3.out LK3.out FF3.out (⟨S5,A5,c5,rfl,x5,by5,m5,f5⟩:PartPost S3 w3 H3 _ _ (.returned (agP (answerV x2) (.slice A5 _ c5))) w5) rfl
      have HP:=hI hp
      clear hp x5 by5 m5 f5
      go_wp2_with fail
      go_ret
      rw [EA.out (by trivial) (by trivial) (by trivial),if_neg hif,HX2.out]
      exact HP.out
  ·go_wp2_with fail
   refine (answer_si (M.out.fr F0.out) OK.out.hi (by have:=OK.out.hu;omega) (by have:=Win.Inv.bd OK.out.hw;omega) (by have:=OK.out.hm;have:=OK.out.hl;omega)).mono ?_
   rintro e w2 ⟨S2,A2,c2,rfl,x2,by2,m2,f2⟩
   have hp:=lpost_one (Ext.refl w S) (Hd.like.rfl' w H) (F0.out.mono (by simp)) (⟨S2,A2,c2,rfl,x2,by2,m2,f2⟩:PartPost S w0 H _ _ (.returned (agP (answerV x) (.slice A2 _ c2))) w2) rfl
   have HP:=hI hp
   clear hp x2 by2 m2 f2
   go_wp2_with fail
   go_ret
   rw [E1.out (by trivial) (by trivial)]
   exact HP.out
 ·have m0:=M.out.fr F0.out
  have g1:=Grew.cell y1
  have hA:∀ q:Grew w0,Calls Tryz.prog 64 #[ptr H.g] q.W fun e w'=>e = .returned (.int .u32 (awaitedV x))∧∃ q':Grew w0,w'=q'.W:=fun q=>grew_call (awaited_si (m0.fr q.fr) OK.out.hi)
  have HA:=hI hA
  have M0:=hI m0
  clear hA m0
  generalize haw:awaitedV x=aw at *
  by_cases hq:sq=aw
  ·subst hq
   go_upto_region 3 with fail
   refine wp_region_grew (by kernel_rfl) (by kernel_rfl) ?_
   repeat (go_big_quiet_step ((go_at_call 64;exact HA.out _)))
   refine wpQuiet_nil ?_
   intro w2 f2
   have F2:=hI (F0.out.trans f2 (by simp))
   clear f2
   go_wp2_with fail
   refine (done_si (M.out.fr F2.out) true).mono ?_
   rintro e w3 ⟨rfl,m3,f3⟩
   have M3:=hI m3
   have F3:=hI ((F2.out.mono (by simp)).trans (f3.mono (O':=H.own) (by simp [Hd.own])) (fun y hy => .inl hy))
   clear m3 f3
   go_wp2_with fail
   go_ret
   rw [E8.out (by trivial),if_pos (by trivial)]
   exact lpost_nil M3.out F3.out
  ·go_upto_region 3 with fail
   refine wp_region_grew (by kernel_rfl) (by kernel_rfl) ?_
   repeat (go_big_quiet_step ((go_at_call 64;exact HA.out _)))
   refine wpQuiet_nil ?_
   intro w2 f2
   have F2:=hI (F0.out.trans f2 (by simp))
   clear f2
   go_wp2_with fail
   go_ret
   rw [E8.out (by trivial),if_neg hq]
   exact lpost_nil (M.out.fr F2.out) (F2.out.mono (by simp))
theorem ack0_inv{B:Int}{v:Win.Wn}(h:Win.Inv B v)(r:Int)(hB:65536≤B):Win.Inv B (Win.ackV v 0 r).1:=by
 have hb:=Win.Inv.bd h
 unfold Win.ackV
 (repeat' split)
 ·exact h
 ·exact h
 ·exact h
 ·show 0≤max v.a 0∧max v.a 0≤max v.s 0∧max v.s 0≤v.m∧v.m≤max v.l (0+r)+1∧max v.l (0+r)≤B
  omega
theorem opens_ok{x:St}(ok:OkS x)(r:Int):OkS (opensV x r):=
 ⟨ok.hi,ok.hu,ack0_inv ok.hw r (by omega),Rto.stop_inv ok.hc,by show (Win.ackV x.win 0 r).1.m≤_;rw [ack_m];exact ok.hm,ok.hl,ok.n0,ok.n1,ok.s0,ok.s1⟩
theorem heardV_syn(x:St)(p:Prt)(h:p.flags=1):heardV x p=listenV x p:=by unfold heardV;rw [if_pos h]
theorem heardV_ack(x:St)(p:Prt)(h1:p.flags=3)(h2:p.seq=x.peer)(h3:p.ack=add32 x.isn 1):heardV x p=(shows (opensV x p.win),[answerV (opensV x p.win)]):=by unfold heardV;rw [if_neg (by omega),if_pos ⟨h1,h2,h3⟩]
theorem heardV_rst(x:St)(p:Prt)(h1:p.flags≠1)(hg:¬ (p.flags=3∧p.seq=x.peer∧p.ack=add32 x.isn 1))(h8:has p.flags 8=true):heardV x p=openV x p:=by unfold heardV;rw [if_neg h1,if_neg hg,if_pos h8]
theorem heardV_no(x:St)(p:Prt)(h1:p.flags≠1)(hg:¬ (p.flags=3∧p.seq=x.peer∧p.ack=add32 x.isn 1))(h8:has p.flags 8=false)(h:has p.flags 1=true∨has p.flags 2=false∨p.ack≠add32 x.isn 1):heardV x p=(x,[]):=by unfold heardV;rw [if_neg h1,if_neg hg,if_neg (by simp [h8]),if_pos h]
theorem heardV_open(x:St)(p:Prt)(h1:p.flags≠1)(hg:¬ (p.flags=3∧p.seq=x.peer∧p.ack=add32 x.isn 1))(h8:has p.flags 8=false)(ha:has p.flags 1=false)(hb:has p.flags 2=true)(hc:p.ack=add32 x.isn 1):heardV x p=openV (opensV x p.win) p:=by unfold heardV;rw [if_neg h1,if_neg hg,if_neg (by simp [h8]),if_neg (by simp [ha,hb,hc])]
set_option maxHeartbeats 8000000 in
theorem heard_si{S:Nat→Prop}{w:World}{H:Hd}{x:St}(m:SI S w H x)(ok:OkS x)(p:Prt)(okp:OkP p)(A:Option Addr)(c:Nat)(T:Nat→Prop)(hd:Byt T w (.slice A p.d.length c) p.d)(hT:∀ b,T b→b∉H.own∧b<w.heap.size) :
  Calls Tryz.prog 53 #[ptr H.g,agP p (.slice A p.d.length c)] w (LPost S w H (heardV x p)):=by
 have v1:=heardV_syn x p
 have va:=heardV_ack x p
 have vr:=heardV_rst x p
 have vn:=heardV_no x p
 have vo:=heardV_open x p
 have hbit8:=has_bits p.flags 8 okp.f0 okp.f1 (by simp)
 have hbit1:=has_bits p.flags 1 okp.f0 okp.f1 (by simp)
 have hbit2:=has_bits p.flags 2 okp.f0 okp.f1 (by simp)
 generalize heardV x p=y at *
 obtain⟨fl,sq,ak,wi,d⟩:=p
 dsimp only at *
 have hgl:=m.blk.lt
 have f0:Fr [] w (w.alloc (.cells (arP ⟨fl,sq,ak,wi,d⟩ (.slice A d.length c)) 49)):=(Fr.refl [] w).alloc _
 have b0:Blk (w.alloc (.cells (arP ⟨fl,sq,ak,wi,d⟩ (.slice A d.length c)) 49)) w.heap.size 49 (arP ⟨fl,sq,ak,wi,d⟩ (.slice A d.length c)):=Blk.new w _ _
 have M:=hI m
 have OK:=hI ok
 have OKP:=hI okp
 have HD:=hI hd
 have HT:=hI hT
 have V1:=hI v1
 have VA:=hI va
 have VR:=hI vr
 have VN:=hI vn
 have VO:=hI vo
 have hr:IntKind.u32.wrap (x.isn+1)=add32 x.isn 1:=by rw [wrap32];rfl
 have hr':(x.isn+1) % 4294967296=add32 x.isn 1:=rfl
 generalize hrr:add32 x.isn 1=r at *
 generalize hpe:x.peer=pe at *
 have HR:=hI hrr
 have HPE:=hI hpe
 clear m ok okp hd hT v1 va vr vn vo hrr hpe
 by_cases h1:fl=1
 ·subst h1
  clear hbit8 hbit1 hbit2
  go_enter Tryz.func53,Tryz.ntmps53
  go_upto_region 1 with fail
  generalize w.alloc (.cells (arP ⟨1,sq,ak,wi,d⟩ (.slice A d.length c)) 49)=w0 at *
  obtain⟨y0,y1,y2,y3,y4⟩:=cells5 b0
  have F0:=hI f0
  clear f0 b0
  go_wp2_with fail
  refine (listen_si (M.out.fr F0.out) OK.out.hi (by have:=OK.out.hu;omega) ⟨1,sq,ak,wi,d⟩ A c).mono ?_
  rintro e w2 ⟨S2,H2,v,L,rfl,hL,x2,l2,m2,p2,n2,f2⟩
  have hP:LPost S w H (listenV x ⟨1,sq,ak,wi,d⟩) (.returned v) w2:=LPost.of (Ext.refl w S) (Hd.like.rfl' w H) (F0.out.mono (by simp)) ⟨S2,H2,v,L,rfl,hL,x2,l2,m2,p2,n2,f2⟩
  have HP:=hI hP
  clear hP hL x2 l2 m2 p2 n2 f2
  go_wp2_with fail
  go_ret
  rw [V1.out (by trivial)]
  exact HP.out
 ·have h1q:(fl == 1)=false:=by simpa using h1
  have h1d:decide (fl=1)=false:=by simpa using h1
  go_enter Tryz.func53,Tryz.ntmps53
  go_upto_region 1 with fail
  generalize w.alloc (.cells (arP ⟨fl,sq,ak,wi,d⟩ (.slice A d.length c)) 49)=w0 at *
  obtain⟨y0,y1,y2,y3,y4⟩:=cells5 b0
  have F0:=hI f0
  have B0:=hI b0
  have m0:=M.out.fr f0
  have c13:=(scells m0.blk).c13
  have c2:=(scells m0.blk).c2
  rw [HPE.out] at c2
  have g0:=Grew.cell y0
  have g1:=Grew.cell y1
  have g2:=Grew.cell y2
  have g13:=Grew.cell c13
  have gc2:=Grew.cell c2
  clear f0 b0 m0
  go_upto_region 3 with fail
  by_cases hG:fl=3∧sq=pe∧ak=r
  ·obtain⟨ha,hb,hc⟩:=hG
   subst ha hb hc
   clear hbit8 hbit1 hbit2
   refine wp_region_grew (by kernel_rfl) (by kernel_rfl) ?_
   repeat (go_big_quiet_step (fail))
   refine wpQuiet_nil ?_
   intro w2 f2
   have F2:=hI (F0.out.trans f2 (by simp))
   have b2':=B0.out.fr f2 (by simp)
   obtain⟨z0,z1,z2,z3,z4⟩:=cells5 b2'
   have m2:=M.out.fr F2.out
   have hl2:=m2.blk.lt
   have M2:=hI m2
   have c16:=(scells m2.blk).c16
   clear f2 b2' m2 y0 y1 y2 y3 y4 g0 g1 g2 g13 gc2 c13 c2
   go_wp2_with fail
   refine (opens_si M2.out wi 1000000000 (Int.le_refl _) OK.out.hw OK.out.hc OKP.out.w0 OKP.out.w1).mono ?_
   rintro e w4 ⟨rfl,m4,f4⟩
   have M4:=hI m4
   have F4:Hid (Fr H.own w w4):=hI ((F2.out.mono (by simp)).trans (f4.mono (O':=H.own) (by simp [Hd.own])) (fun y hy => .inl hy))
   clear m4 f4 z0 z1 z2 z3 z4
   go_wp2_with fail
   refine (answer_si M4.out OK.out.hi (by have:=OK.out.hu;show x.unread.length≤100000;omega) (by show 0≤(Win.ackV x.win 0 wi).1.m;rw [ack_m];have:=Win.Inv.bd OK.out.hw;omega) (by show (Win.ackV x.win 0 wi).1.m≤_;rw [ack_m];have:=OK.out.hm;have:=OK.out.hl;omega)).mono ?_
   rintro e w5 ⟨S5,A5,c5,rfl,x5,by5,m5,f5⟩
   have hp:=lpost_one (Ext.refl w S) (Hd.like.rfl' w H) F4.out (⟨S5,A5,c5,rfl,x5,by5,m5,f5⟩:PartPost S w4 H _ _ (.returned (agP (answerV (opensV x wi)) (.slice A5 _ c5))) w5) rfl
   have HP:=hI hp
   clear hp x5 by5 m5 f5
   go_wp2_with fail
   go_ret
   rw [VA.out (by trivial) (by trivial) (by trivial)]
   exact HP.out
  ·have HG:=hI hG
   rcases (show fl≠3∨(fl=3∧sq≠pe)∨(fl=3∧sq=pe∧ak≠r) by
    by_cases h:fl=3
    ·by_cases h':sq=pe
     ·exact .inr (.inr ⟨h,h',fun h''=>hG ⟨h,h',h''⟩⟩)
     ·exact .inr (.inl ⟨h,h'⟩)
    ·exact .inl h) with hx|⟨hx,hx2⟩|⟨hx,hx2,hx3⟩
   ·have q1:(fl == 3)=false:=by simpa using hx
    have q2:decide (fl=3)=false:=by simpa using hx
    refine wp_region_grew (by kernel_rfl) (by kernel_rfl) ?_
    repeat (go_big_quiet_step (fail))
    refine wpQuiet_nil ?_
    intro w2 f2
    have F2:=hI (F0.out.trans f2 (by simp))
    have b2':=B0.out.fr f2 (by simp)
    obtain⟨z0,z1,z2,z3,z4⟩:=cells5 b2'
    have m2:=M.out.fr F2.out
    have hl2:=m2.blk.lt
    have M2:=hI m2
    have FR2:=hI f2
    clear f2 b2' m2 y0 y1 y2 y3 y4 g0 g1 g2 g13 gc2 c13 c2
    rcases Bool.eq_false_or_eq_true (has fl 8) with h8|h8
    ·have e8:(bits BinOp.and IntKind.i64 fl 8 != 0)=true:=by rw [h8] at hbit8;simpa using hbit8
     clear hbit8 hbit1 hbit2
     go_wp2_with fail
     refine (open_si M2.out OK.out ⟨fl,sq,ak,wi,d⟩ OKP.out (.slice A d.length c) T (HD.out.fr F2.out (by simp)) (fun b hb=>⟨(HT.out b hb).1,Nat.lt_of_lt_of_le (HT.out b hb).2 F2.out.size⟩)).mono ?_
     rintro e w3 ⟨S2,H2,v,L,rfl,hL,x2,l2,m3,p2,n2,f3⟩
     have hP:LPost S w H (openV x ⟨fl,sq,ak,wi,d⟩) (.returned v) w3:=LPost.of (Ext.refl w S) (Hd.like.rfl' w H) (F2.out.mono (by simp)) ⟨S2,H2,v,L,rfl,hL,x2,l2,m3,p2,n2,f3⟩
     have HP:=hI hP
     clear hP hL x2 l2 m3 p2 n2 f3
     go_wp2_with fail
     go_ret
     rw [VR.out h1 HG.out h8]
     exact HP.out
    ·have e8:(bits BinOp.and IntKind.i64 fl 8 != 0)=false:=by rw [h8] at hbit8;simpa using hbit8
     rcases Bool.eq_false_or_eq_true (has fl 1) with hb1|hb1
     ·have e1:(bits BinOp.and IntKind.i64 fl 1 != 0)=true:=by rw [hb1] at hbit1;simpa using hbit1
      have k13:=Grew.cell (scells M2.out.blk).c13
      have k0:=Grew.cell z0
      have k2:=Grew.cell z2
      go_upto_region 8 with fail
      refine wp_region_grew (by kernel_rfl) (by kernel_rfl) ?_
      repeat (go_big_quiet_step (fail))
      refine wpQuiet_nil ?_
      intro w3 f3
      have F3:=hI (F2.out.trans f3 (by simp))
      clear f3 k13 k0 k2
      go_wp2_with fail
      go_ret
      rw [VN.out (by first|exact h1|decide) HG.out (by first|exact h8|decide) (.inl hb1)]
      exact lpost_nil (M.out.fr F3.out) (F3.out.mono (by simp))
     ·have e1:(bits BinOp.and IntKind.i64 fl 1 != 0)=false:=by rw [hb1] at hbit1;simpa using hbit1
      rcases Bool.eq_false_or_eq_true (has fl 2) with hb2|hb2
      ·have e2:(bits BinOp.and IntKind.i64 fl 2 == 0)=false:=by rw [hb2] at hbit2;simpa using hbit2
       have e2':decide (bits BinOp.and IntKind.i64 fl 2=0)=false:=by rw [hb2] at hbit2;simpa using hbit2
       by_cases ha:ak=r
       ·subst ha
        have k13:=Grew.cell (scells M2.out.blk).c13
        have k0:=Grew.cell z0
        have k2:=Grew.cell z2
        go_upto_region 8 with fail
        refine wp_region_grew (by kernel_rfl) (by kernel_rfl) ?_
        repeat (go_big_quiet_step (fail))
        refine wpQuiet_nil ?_
        intro w3 f3
        have BB3:=hI ((B0.out.fr (Fr.trans (O':=[]) (by first|exact FR2.out) f3 (by simp)) (by simp)))
        have F3:=hI (F2.out.trans f3 (by simp))
        clear f3 k13 k0 k2
        obtain⟨t0,t1,t2,t3,t4⟩:=cells5 BB3.out
        have hl3:H.g<(w3).heap.size:=Nat.lt_of_lt_of_le hgl F3.out.size
        have ok2:=opens_ok OK.out wi
        go_wp2_with fail
        refine (opens_si (M.out.fr F3.out) wi 1000000000 (Int.le_refl _) OK.out.hw OK.out.hc OKP.out.w0 OKP.out.w1).mono ?_
        rintro e w4 ⟨rfl,m4,f4⟩
        have F4:Hid (Fr H.own w w4):=hI ((F3.out.mono (by simp)).trans (f4.mono (O':=H.own) (by simp [Hd.own])) (fun y hy => .inl hy))
        have b4:=BB3.out.fr f4 (fun hm=>by have:=M.out.lt w.heap.size (by simp at hm;rcases hm with h|h|h <;> simp [Hd.own,h]);omega)
        obtain⟨z0,z1,z2,z3,z4⟩:=cells5 b4
        have M4:=hI m4
        have OK2:=hI ok2
        clear m4 f4 b4 ok2
        go_wp2_with fail
        refine (open_si M4.out OK2.out ⟨fl,sq,ak,wi,d⟩ OKP.out (.slice A d.length c) T (HD.out.fr F4.out (fun y hy hs=>(HT.out y hs).1 hy)) (fun b hb=>⟨(HT.out b hb).1,Nat.lt_of_lt_of_le (HT.out b hb).2 F4.out.size⟩)).mono ?_
        rintro e w5 ⟨S2,H2,v,L,rfl,hL,x2,l2,m5,p2,n2,f5⟩
        have hP:LPost S w H (openV (opensV x wi) ⟨fl,sq,ak,wi,d⟩) (.returned v) w5:=LPost.of (Ext.refl w S) (Hd.like.rfl' w H) F4.out ⟨S2,H2,v,L,rfl,hL,x2,l2,m5,p2,n2,f5⟩
        have HP:=hI hP
        clear hP hL x2 l2 m5 p2 n2 f5
        go_wp2_with fail
        go_ret
        rw [VO.out h1 HG.out h8 hb1 hb2 (by trivial)]
        exact HP.out
       ·have ea:(ak != r)=true:=by simpa using ha
        have ea':(ak == r)=false:=by simpa using ha
        have k13:=Grew.cell (scells M2.out.blk).c13
        have k0:=Grew.cell z0
        have k2:=Grew.cell z2
        go_upto_region 8 with fail
        refine wp_region_grew (by kernel_rfl) (by kernel_rfl) ?_
        repeat (go_big_quiet_step (fail))
        refine wpQuiet_nil ?_
        intro w3 f3
        have F3:=hI (F2.out.trans f3 (by simp))
        clear f3 k13 k0 k2
        go_wp2_with fail
        go_ret
        rw [VN.out (by first|exact h1|decide) HG.out (by first|exact h8|decide) (.inr (.inr ha))]
        exact lpost_nil (M.out.fr F3.out) (F3.out.mono (by simp))
      ·have e2:(bits BinOp.and IntKind.i64 fl 2 == 0)=true:=by rw [hb2] at hbit2;simpa using hbit2
       have e2':decide (bits BinOp.and IntKind.i64 fl 2=0)=true:=by rw [hb2] at hbit2;simpa using hbit2
       have k13:=Grew.cell (scells M2.out.blk).c13
       have k0:=Grew.cell z0
       have k2:=Grew.cell z2
       go_upto_region 8 with fail
       refine wp_region_grew (by kernel_rfl) (by kernel_rfl) ?_
       repeat (go_big_quiet_step (fail))
       refine wpQuiet_nil ?_
       intro w3 f3
       have F3:=hI (F2.out.trans f3 (by simp))
       clear f3 k13 k0 k2
       go_wp2_with fail
       go_ret
       rw [VN.out (by first|exact h1|decide) HG.out (by first|exact h8|decide) (.inr (.inl hb2))]
       exact lpost_nil (M.out.fr F3.out) (F3.out.mono (by simp))
   ·subst hx
    have q1:(sq == pe)=false:=by simpa using hx2
    have q2:decide (sq=pe)=false:=by simpa using hx2
    refine wp_region_grew (by kernel_rfl) (by kernel_rfl) ?_
    repeat (go_big_quiet_step (fail))
    refine wpQuiet_nil ?_
    intro w2 f2
    have F2:=hI (F0.out.trans f2 (by simp))
    have b2':=B0.out.fr f2 (by simp)
    obtain⟨z0,z1,z2,z3,z4⟩:=cells5 b2'
    have m2:=M.out.fr F2.out
    have hl2:=m2.blk.lt
    have M2:=hI m2
    have hb8:bits BinOp.and IntKind.i64 3 8=0:=by decide
    have hb1:bits BinOp.and IntKind.i64 3 1=1:=by decide
    have hb2:bits BinOp.and IntKind.i64 3 2=2:=by decide
    clear hbit8 hbit1 hbit2 f2 b2' m2 y0 y1 y2 y3 y4 g0 g1 g2 g13 gc2 c13 c2
    have k13:=Grew.cell (scells M2.out.blk).c13
    have k0:=Grew.cell z0
    have k2:=Grew.cell z2
    go_upto_region 8 with fail
    refine wp_region_grew (by kernel_rfl) (by kernel_rfl) ?_
    repeat (go_big_quiet_step (fail))
    refine wpQuiet_nil ?_
    intro w3 f3
    have F3:=hI (F2.out.trans f3 (by simp))
    clear f3 k13 k0 k2
    go_wp2_with fail
    go_ret
    rw [VN.out (by first|exact h1|decide) HG.out (by first|exact h8|decide) (.inl (by decide))]
    exact lpost_nil (M.out.fr F3.out) (F3.out.mono (by simp))
   ·subst hx
    have q1:(ak == r)=false:=by simpa using hx3
    have q2:decide (ak=r)=false:=by simpa using hx3
    have q3:(sq == pe)=true:=by simpa using hx2
    have q4:decide (sq=pe)=true:=by simpa using hx2
    refine wp_region_grew (by kernel_rfl) (by kernel_rfl) ?_
    repeat (go_big_quiet_step (fail))
    refine wpQuiet_nil ?_
    intro w2 f2
    have F2:=hI (F0.out.trans f2 (by simp))
    have b2':=B0.out.fr f2 (by simp)
    obtain⟨z0,z1,z2,z3,z4⟩:=cells5 b2'
    have m2:=M.out.fr F2.out
    have hl2:=m2.blk.lt
    have M2:=hI m2
    have hb8:bits BinOp.and IntKind.i64 3 8=0:=by decide
    have hb1:bits BinOp.and IntKind.i64 3 1=1:=by decide
    have hb2:bits BinOp.and IntKind.i64 3 2=2:=by decide
    clear hbit8 hbit1 hbit2 f2 b2' m2 y0 y1 y2 y3 y4 g0 g1 g2 g13 gc2 c13 c2
    have k13:=Grew.cell (scells M2.out.blk).c13
    have k0:=Grew.cell z0
    have k2:=Grew.cell z2
    go_upto_region 8 with fail
    refine wp_region_grew (by kernel_rfl) (by kernel_rfl) ?_
    repeat (go_big_quiet_step (fail))
    refine wpQuiet_nil ?_
    intro w3 f3
    have F3:=hI (F2.out.trans f3 (by simp))
    clear f3 k13 k0 k2
    go_wp2_with fail
    go_ret
    rw [VN.out (by first|exact h1|decide) HG.out (by first|exact h8|decide) (.inl (by decide))]
    exact lpost_nil (M.out.fr F3.out) (F3.out.mono (by simp))
theorem andNot_bits(f:Int)(h0:0≤f)(h1:f≤15)(h2:f≠2)(h6:f≠6):(bits BinOp.andNot IntKind.i64 f 4 != 2)=true:=by
 have hf:f=0∨f=1∨f=3∨f=4∨f=5∨f=7∨f=8∨f=9∨f=10∨f=11∨f=12∨f=13∨f=14∨f=15:=by omega
 rcases hf with rfl|rfl|rfl|rfl|rfl|rfl|rfl|rfl|rfl|rfl|rfl|rfl|rfl|rfl <;> decide
theorem endedV_no(x:St)(p:Prt)(h:x.broken=true∨¬ (p.flags=2∨p.flags=6)∨(has p.flags 4=false∧p.d.length=0)):endedV x p=(x,[]):=by unfold endedV;rw [if_pos h]
theorem endedV_yes(x:St)(p:Prt)(h:¬ (x.broken=true∨¬ (p.flags=2∨p.flags=6)∨(has p.flags 4=false∧p.d.length=0))):endedV x p=(shows x,[answerV x]):=by unfold endedV;rw [if_neg h]
set_option maxHeartbeats 4000000 in
theorem ended_si{S:Nat→Prop}{w:World}{H:Hd}{x:St}(m:SI S w H x)(ok:OkS x)(p:Prt)(okp:OkP p)(A:Option Addr)(c:Nat) :
  Calls Tryz.prog 55 #[ptr H.g,agP p (.slice A p.d.length c)] w (LPost S w H (endedV x p)):=by
 have vn:=endedV_no x p
 have vy:=endedV_yes x p
 have hab:=andNot_bits p.flags okp.f0 okp.f1
 generalize endedV x p=y at *
 obtain⟨fl,sq,ak,wi,d⟩:=p
 dsimp only at *
 have hgl:=m.blk.lt
 have f0:Fr [] w (w.alloc (.cells (arP ⟨fl,sq,ak,wi,d⟩ (.slice A d.length c)) 49)):=(Fr.refl [] w).alloc _
 have b0:Blk (w.alloc (.cells (arP ⟨fl,sq,ak,wi,d⟩ (.slice A d.length c)) 49)) w.heap.size 49 (arP ⟨fl,sq,ak,wi,d⟩ (.slice A d.length c)):=Blk.new w _ _
 have hans:=answer_si (m.fr f0) ok.hi (by have:=ok.hu;omega) (by have:=Win.Inv.bd ok.hw;omega) (by have:=ok.hm;have:=ok.hl;omega)
 have c1:=(scells (m.fr f0).blk).c1
 have M:=hI m
 have VN:=hI vn
 have VY:=hI vy
 have HAns:=hI hans
 have hab':=hI hab
 clear m ok okp vn vy hans hab
 rcases Bool.eq_false_or_eq_true x.broken with hb|hb
 ·rw [hb] at c1
  go_enter Tryz.func55,Tryz.ntmps55
  go_upto_region 1 with fail
  generalize w.alloc (.cells (arP ⟨fl,sq,ak,wi,d⟩ (.slice A d.length c)) 49)=w0 at *
  go_wp2_with fail
  go_ret
  rw [VN.out (.inl hb)]
  exact lpost_nil (M.out.fr f0) (f0.mono (by simp))
 ·rw [hb] at c1
  by_cases h26:fl=2∨fl=6
  ·rcases h26 with rfl|rfl
   ·have e1:bits BinOp.andNot IntKind.i64 2 4=2:=by decide
    have e2:bits BinOp.and IntKind.i64 2 4=0:=by decide
    rcases Nat.eq_zero_or_pos d.length with hd0|hd0
    ·have e3:((d.length:Int) == 0)=true:=by simp [hd0]
     have e4:decide ((d.length:Int)=0)=true:=by simp [hd0]
     have HD0:=hI hd0
     clear hd0
     go_enter Tryz.func55,Tryz.ntmps55
     go_upto_region 1 with fail
     generalize w.alloc (.cells (arP ⟨2,sq,ak,wi,d⟩ (.slice A d.length c)) 49)=w0 at *
     obtain⟨y0,y1,y2,y3,y4⟩:=cells5 b0
     have F0:=hI f0
     clear f0 b0
     go_wp2_with fail
     go_ret
     rw [VN.out (.inr (.inr ⟨by decide,HD0.out⟩))]
     exact lpost_nil (M.out.fr F0.out) (F0.out.mono (by simp))
    ·have hdz:(d.length:Int)≠0:=by omega
     have e3:((d.length:Int) == 0)=false:=by simpa using hdz
     have e4:decide ((d.length:Int)=0)=false:=by simpa using hdz
     have hnn:¬ (x.broken=true∨¬ ((2:Int)=2∨(2:Int)=6)∨(has 2 4=false∧d.length=0)):=by
      rintro (h|h|h)
      ·rw [hb] at h;cases h
      ·exact h (.inl rfl)
      ·have:=h.2;omega
     have HN:=hI hnn
     clear hnn
     go_enter Tryz.func55,Tryz.ntmps55
     go_upto_region 1 with fail
     generalize w.alloc (.cells (arP ⟨2,sq,ak,wi,d⟩ (.slice A d.length c)) 49)=w0 at *
     obtain⟨y0,y1,y2,y3,y4⟩:=cells5 b0
     have F0:=hI f0
     clear f0 b0
     go_wp2_with fail
     refine HAns.out.mono ?_
     rintro e w5 ⟨S5,A5,c5,rfl,x5,by5,m5,f5⟩
     have hp:=lpost_one (Ext.refl w S) (Hd.like.rfl' w H) (F0.out.mono (by simp)) (⟨S5,A5,c5,rfl,x5,by5,m5,f5⟩:PartPost S w0 H _ _ (.returned (agP (answerV x) (.slice A5 _ c5))) w5) rfl
     have HP:=hI hp
     clear hp x5 by5 m5 f5
     go_wp2_with fail
     go_ret
     rw [VY.out HN.out]
     exact HP.out
   ·have e1:bits BinOp.andNot IntKind.i64 6 4=2:=by decide
    have e2:bits BinOp.and IntKind.i64 6 4=4:=by decide
    have hnn:¬ (x.broken=true∨¬ ((6:Int)=2∨(6:Int)=6)∨(has 6 4=false∧d.length=0)):=by
     rintro (h|h|h)
     ·rw [hb] at h;cases h
     ·exact h (.inr rfl)
     ·exact absurd h.1 (by decide)
    have HN:=hI hnn
    clear hnn
    go_enter Tryz.func55,Tryz.ntmps55
    go_upto_region 1 with fail
    generalize w.alloc (.cells (arP ⟨6,sq,ak,wi,d⟩ (.slice A d.length c)) 49)=w0 at *
    obtain⟨y0,y1,y2,y3,y4⟩:=cells5 b0
    have F0:=hI f0
    clear f0 b0
    go_wp2_with fail
    refine HAns.out.mono ?_
    rintro e w5 ⟨S5,A5,c5,rfl,x5,by5,m5,f5⟩
    have hp:=lpost_one (Ext.refl w S) (Hd.like.rfl' w H) (F0.out.mono (by simp)) (⟨S5,A5,c5,rfl,x5,by5,m5,f5⟩:PartPost S w0 H _ _ (.returned (agP (answerV x) (.slice A5 _ c5))) w5) rfl
    have HP:=hI hp
    clear hp x5 by5 m5 f5
    go_wp2_with fail
    go_ret
    rw [VY.out HN.out]
    exact HP.out
  ·have e1:=hab'.out (fun h=>h26 (.inl h)) (fun h=>h26 (.inr h))
   go_enter Tryz.func55,Tryz.ntmps55
   go_upto_region 1 with fail
   generalize w.alloc (.cells (arP ⟨fl,sq,ak,wi,d⟩ (.slice A d.length c)) 49)=w0 at *
   obtain⟨y0,y1,y2,y3,y4⟩:=cells5 b0
   have F0:=hI f0
   clear f0 b0
   go_wp2_with fail
   go_ret
   rw [VN.out (.inr (.inl h26))]
   exact lpost_nil (M.out.fr F0.out) (F0.out.mono (by simp))
def CPost(S:Nat→Prop)(w:World)(H:Hd)(r:St × List Prt × Int)(e:Ending)(w':World):Prop:=∃ v,e = .returned (.tuple #[v, .int .i64 r.2.2])∧LPost S w H (r.1,r.2.1) (.returned v) w'
theorem listen_len(x:St)(p:Prt):(listenV x p).2.length≤1:=by unfold listenV;split <;> simp
theorem open_len(x:St)(p:Prt):(openV x p).2.length≤1:=by
 unfold openV
 (repeat' split) <;> (try simp) <;> (dsimp only;split <;> simp)
theorem comes_len(x:St)(p:Prt):(comesV x p).2.length≤1:=by
 unfold comesV
 split
 ·exact listen_len x p
 split
 ·unfold callsV;(repeat' split) <;> first|exact listen_len x p|simp
 split
 ·unfold heardV;(repeat' split) <;> first|exact listen_len x p|exact open_len _ p|simp
 split
 ·exact open_len x p
 ·unfold endedV;split <;> simp
theorem sends_post{S:Nat→Prop}{w w1 w2:World}{H H1:Hd}{r:St × List Prt}{S1:Nat→Prop}{v1:Value}{L1:List (Prt × Value)}{e:Ending}{R:St × List Prt}(hL:L1.map (·.1)=r.2)(x1:Ext w S S1)(lk:Hd.like w H H1)(n1:∀ b∈ob v1,w.heap.size≤b∧¬ S1 b)(f1:Fr H.own w w1)
  (h:SPost S1 w1 H1 v1 L1 R e w2):LPost S w H (R.1,r.2++R.2) e w2:=by
 obtain⟨S2,v2,L2,he,hL2,x2,m2,p2,n2,f2⟩:=h
 have hz:=f1.size
 refine⟨S2,H1,v2,L2,he,by rw [hL2,hL],x1.trans hz x2,lk,m2,p2,fun b hb=>?_,f1.trans f2 (fun y hy=>?_)⟩
 ·obtain⟨q1,q2⟩:=n2 b hb
  refine⟨?_,q2⟩
  rcases q1 with q|q
  ·exact (n1 b q).1
  ·omega
 ·rcases List.mem_append.1 hy with h|h
  ·exact .inr (n1 y h).1
  ·exact lk.own y h
theorem comeV_no(x:St)(p:Prt)(h:p.flags<0∨15<p.flags∨64<p.d.length):comeV x p=(x,[],2):=by unfold comeV;rw [if_pos h]
theorem comeV_yes(x:St)(p:Prt)(h:¬ (p.flags<0∨15<p.flags∨64<p.d.length)):comeV x p=((sendsV (comesV x p).1).1,(comesV x p).2++(sendsV (comesV x p).1).2,0):=by unfold comeV;rw [if_neg h]
abbrev handler(a:Int):Nat:=if a=1 then 51 else if a=2 then 52 else if a=3 then 53 else if a=4 then 54 else 55
theorem handler_si{S:Nat→Prop}{w:World}{H:Hd}{x:St}(m:SI S w H x)(ok:Ok x)(p:Prt)(okp:OkP p)(A:Option Addr)(c:Nat)(T:Nat→Prop)(hd:Byt T w (.slice A p.d.length c) p.d)(hT:∀ b,T b→b∉H.own∧b<w.heap.size) :
  Calls Tryz.prog (handler x.at_) #[ptr H.g,agP p (.slice A p.d.length c)] w (LPost S w H (comesV x p)):=by
 have h1:=ok.at0
 have h5:=ok.at5
 unfold handler comesV
 split
 ·exact listen_si m ok.s.hi (by have:=ok.s.hu;omega) p A c
 split
 ·exact calls_si m ok.s p okp A c
 split
 ·exact heard_si m ok.s p okp A c T hd hT
 split
 ·exact open_si m ok.s p okp _ T hd hT
 ·exact ended_si m ok.s p okp A c
end Go.Proofs.YtmgdbbbdhkfdmaaGreat
