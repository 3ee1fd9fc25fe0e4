import Derived.Test.YtmgdbbbdhkfdmaaGreatYC25
import Derived.Deep.DeepCutAuto
import Derived.Test.YtmgdbbbdhkfdmaaGreatYC20
import Derived.Lib.SmallJoins
import Derived.Lib.SlBytesConst
import Derived.Test.YtmgdbbbdhkfdmaaGreatYC10
import Derived.Test.YtmgdbbbdhkfdmaaGreatYC0
import Derived.Test.YtmgdbbbdhkfdmaaGreatYC2
set_option linter.unusedSimpArgs false
set_option linter.unusedVariables false
set_option maxHeartbeats 40000000
namespace Go.Proofs.YtmgdbbbdhkfdmaaGreat
set_option maxRecDepth 100000
open Go.RowKit Go.Deep
theorem qbc{p:Prt}(h:xG p=true):¬ (p.flags<0\/15<p.flags\/64<p.d.length):=by
 unfold xG at h;simp at h;omega
theorem qod{p:Prt}(h:xG p=false):p.flags<0\/15<p.flags\/64<p.d.length:=by
 unfold xG at h;simp at h;omega
theorem qoe{S:Nat->Prop}{w:World}{H:Hd}{x:St}{av uv kv:Value}(m:SI S w H x)(r:RE S w x av uv kv)(fx:Fine x)(a:AC)(ha:AOk a)(hk:a.kind=1)(hr:xG (jd x a)=false)(hal:x.all.length<=990000)(hn:x.now+1<=1000000)(pA:Option Addr)(pc:Nat)(dA:Option Addr)(dc:Nat)(hpd:Byt S w (.slice pA a.p.d.length pc) a.p.d)(hdd:Byt S w (.slice dA a.d.length dc) a.d) :
  Calls Tryz.prog 10 #[ptr H.g,agE x av uv kv, .agg (arA a pA pc dA dc)] w (jM S w H (jc x a)):=by
 have o1:=r.qN;have hown:=m.lt;have hpub:∀ b,S b->b<w.heap.size:=HP.zA m.hp;have hnp:=qdc ha x;have hdv:jc x a=(zF x (jd x a)).1:=by unfold jc;rw [if_pos hk]
 rw [hdv];clear hdv;have hns:(jd x a).seq=if a.near then (a.p.seq+x.peer+1+x.heap.next) % 4294967296 else a.p.seq:=by unfold jd;split <;> rfl
 have hnk:(jd x a).ack=if a.near then (a.p.ack+x.isn+1+x.win.a) % 4294967296 else a.p.ack:=by unfold jd;split <;> rfl
 obtain⟨qs,hqs⟩:∃ qs,(jd x a).seq=qs:=⟨_,rfl⟩;obtain⟨qk,hqk⟩:∃ qk,(jd x a).ack=qk:=⟨_,rfl⟩;have hQ:jd x a=⟨a.p.flags,qs,qk,a.p.win,a.p.d⟩:=by rw [<- hqs,<- hqk];unfold jd;split <;> rfl
 clear hqs hqk;generalize jd x a=Q at *
 subst hQ;dsimp only at hnp hns hnk;have i0:=fx.ou.i0;have i1:=fx.ou.i1;have j0:=fx.ou.p0;have j1:=fx.ou.p1;have hn0:=fx.ok.s.hi.n0;have hn1:=fx.ok.s.hi.n1;have hwb:=Win.Inv.bd fx.ok.s.hw;have hwm:=fx.ok.s.hm;have hwl:=fx.ok.s.hl;have s0:=ha.s0;have s1:=ha.s1;have k0:=ha.k0;have k1:=ha.k1;have t1:IntKind.i64.wrap (a.p.seq)=a.p.seq:=IntWalk.i64_in _ zw;have t2:IntKind.i64.wrap (x.peer)=x.peer:=IntWalk.i64_in _ zw;have t3:IntKind.i64.wrap (a.p.seq+x.peer)=a.p.seq+x.peer:=IntWalk.i64_in _ zw;have t4:IntKind.i64.wrap (a.p.seq+x.peer+1)=a.p.seq+x.peer+1:=IntWalk.i64_in _ zw;have t5:IntKind.i64.wrap (a.p.seq+x.peer+1+x.heap.next)=a.p.seq+x.peer+1+x.heap.next:=IntWalk.i64_in _ zw;have t9:IntKind.i64.wrap (((a.p.seq+x.peer+1+x.heap.next) % 4294967296))=((a.p.seq+x.peer+1+x.heap.next) % 4294967296):=IntWalk.i64_in _ zw;have t6:(a.p.seq+x.peer+1+x.heap.next).tmod 4294967296=((a.p.seq+x.peer+1+x.heap.next) % 4294967296):=Int.tmod_eq_emod_of_nonneg zw;have t7:IntKind.u32.wrap ((a.p.seq+x.peer+1+x.heap.next) % 4294967296)=((a.p.seq+x.peer+1+x.heap.next) % 4294967296):=by rw [wrap32];omega
 have t8:((a.p.seq+x.peer+1+x.heap.next) % 4294967296) % 4294967296=((a.p.seq+x.peer+1+x.heap.next) % 4294967296):=zw;have u1:IntKind.i64.wrap (a.p.ack)=a.p.ack:=IntWalk.i64_in _ zw;have u2:IntKind.i64.wrap (x.isn)=x.isn:=IntWalk.i64_in _ zw;have u3:IntKind.i64.wrap (a.p.ack+x.isn)=a.p.ack+x.isn:=IntWalk.i64_in _ zw;have u4:IntKind.i64.wrap (a.p.ack+x.isn+1)=a.p.ack+x.isn+1:=IntWalk.i64_in _ zw;have u5:IntKind.i64.wrap (a.p.ack+x.isn+1+x.win.a)=a.p.ack+x.isn+1+x.win.a:=IntWalk.i64_in _ zw;have u9:IntKind.i64.wrap (((a.p.ack+x.isn+1+x.win.a) % 4294967296))=((a.p.ack+x.isn+1+x.win.a) % 4294967296):=IntWalk.i64_in _ zw;have u6:(a.p.ack+x.isn+1+x.win.a).tmod 4294967296=((a.p.ack+x.isn+1+x.win.a) % 4294967296):=Int.tmod_eq_emod_of_nonneg zw;have u7:IntKind.u32.wrap ((a.p.ack+x.isn+1+x.win.a) % 4294967296)=((a.p.ack+x.isn+1+x.win.a) % 4294967296):=by rw [wrap32];omega
 have u8:((a.p.ack+x.isn+1+x.win.a) % 4294967296) % 4294967296=((a.p.ack+x.isn+1+x.win.a) % 4294967296):=zw;have him:=fun W (f:Fr [] w W)=>(qfi (m.fr f) fx.ok ⟨a.p.flags,qs,qk,a.p.win,a.p.d⟩ ha.w0 ha.w1 pA pc S (hpd.fr f zs) (fun b hb=>⟨fun hm=>m.off b hm hb,Nat.lt_of_lt_of_le (hpub b hb) f.size⟩)).mono fun e w' h=>xq.to2 h;have hrt:=fun W=>qnv W ⟨a.p.flags,qs,qk,a.p.win,a.p.d⟩ pA pc;have hcv:=qgu x ⟨a.p.flags,qs,qk,a.p.win,a.p.d⟩ (qod hr);rw [hcv] at him |-
 dsimp only at him |-
 clear hcv;rw [hr] at hrt;obtain⟨ak,⟨pf,ps,pk,pw,pd⟩,an,ad⟩:=a;dsimp only at hk hpd hdd him hrt hns hnk t1 t2 t3 t4 t5 t6 t7 t8 t9 u1 u2 u3 u4 u5 u6 u7 u8 u9 |-
 subst hk;have HIMW:=hI him;have HRT:=hI hrt;have HNS:=hI hns;have HNK:=hI hnk;clear him hrt hns hnk hnp i0 i1 j0 j1 hn0 hn1 hwb hwm hwl s0 s1 k0 k1 hr;have d0:=DL.start w (arE x av uv kv) #[.int .i64 1, .int .i64 pf, .int .u32 ps, .int .u32 pk, .int .u16 pw, .slice pA pd.length pc, .bool an, .slice dA ad.length dc];have f0:Fr [] w (((w.alloc (.cells (arE x av uv kv) 41)).alloc (.cells #[.int .i64 1, .int .i64 pf, .int .u32 ps, .int .u32 pk, .int .u16 pw, .slice pA pd.length pc, .bool an, .slice dA ad.length dc] 51)).alloc (.cells qy 41)):=(((Fr.refl [] w).alloc _).alloc _).alloc _;have DL0:=hI d0;have F0:=hI f0;have M:=hI m;have RR:=hI r;have HOWN:=hI hown;have HPUB:=hI hpub;have HPD:=hI hpd;have HDD:=hI hdd;clear m r fx ha hal hn hown hpub hpd hdd d0 f0;go_enter Tryz.func10,Tryz.ntmps10;go_upto_region 1 with fail
 generalize ((w.alloc (.cells (arE x av uv kv) 41)).alloc (.cells #[.int .i64 1, .int .i64 pf, .int .u32 ps, .int .u32 pk, .int .u16 pw, .slice pA pd.length pc, .bool an, .slice dA ad.length dc] 51)).alloc (.cells qy 41)=w1 at *
 have c0:w1.cell? ⟨w.heap.size+1,0,none⟩=some (.int .i64 1):=DL0.out.a.cell 0;have DL1:Hid (∀ W,Fr [] w1 W->DL w W (arE x av uv kv) #[.int .i64 1, .int .i64 pf, .int .u32 ps, .int .u32 pk, .int .u16 pw, .slice pA pd.length pc, .bool an, .slice dA ad.length dc]):=hI (fun W f=>DL0.out.fr f zs);have HB:Hid (w.heap.size+1+1<w1.heap.size):=hI DL0.out.r.lt;clear DL0;have d1:w1.cell? ⟨w.heap.size+1,1,none⟩=some (.int .i64 pf):=DL1.out _ (Fr.refl [] w1) |>.a.cell 1;go_upto_region 4 with (first
    | ((with_reducible refine qj 49 (.tmp 41) ?_);refine qC rfl 49 (.tmp 41) rfl (w.heap.size+1) 1 51 #[.int .i64 1, .int .i64 pf, .int .u32 ps, .int .u32 pk, .int .u16 pw, .slice pA pd.length pc, .bool an, .slice dA ad.length dc] #[.int .i64 pf, .int .u32 ps, .int .u32 pk, .int .u16 pw, .slice pA pd.length pc] _ rfl (DL1.out _ zf).a rfl Tryz.underlying49 rfl zk ?_)|((with_reducible refine qi 49 (.tmp 8) ?_);refine qc rfl 49 (.tmp 8) (.tmp 42) rfl w1.heap.size 49 zJ #[.int .i64 pf, .int .u32 ps, .int .u32 pk, .int .u16 pw, .slice pA pd.length pc] rfl rfl (Blk.new w1 49 zJ) rfl zk zo ?_;intro w2 B2 F2))
 have hb8:=HB.out;have D2_:DL w w2 (arE x av uv kv) #[.int .i64 1, .int .i64 pf, .int .u32 ps, .int .u32 pk, .int .u16 pw, .slice pA pd.length pc, .bool an, .slice dA ad.length dc]:=((DL1.out _ (Fr.refl _ _)).fr ((Fr.refl [] w1).alloc (.cells zJ 49)) zs).fr F2 (fun b hb => .inr (by simp at hb;omega));have f12:Fr [] w1 w2:=((Fr.refl [] w1).alloc (.cells zJ 49)).trans F2 (fun b hb => .inr (by simp at hb;omega));have HB8:Hid (w.heap.size+1+1<w1.heap.size):=HB;generalize hg8:w1.heap.size=b8 at *
 have HG8:=hI hg8;have F12:=hI f12;clear F2 f12 d1 c0 DL1 hg8;have c6:w2.cell? ⟨w.heap.size+1,6,none⟩=some (.bool an):=D2_.a.cell 6;try dsimp only [Act.put]
 go_cut [44] (fun s44 wx=>s44 = .bool an/\w2=wx);case first=>
  go_wp2_with fail
  go_meet;exact⟨rfl,rfl⟩
 case rest=>
  obtain⟨rfl,rfl⟩:=hcut;clear c6;refine ‹∀(a:Act) (w:World),Code.wp Tryz.prog (Code.cond _ _ _) _ a w->_› _ _ ?_;go_cut [] (fun wx=>Blk wx b8 49 #[.int .i64 pf, .int .u32 qs, .int .u32 qk, .int .u16 pw, .slice pA pd.length pc]/\Fr [b8] w2 wx);case first=>
   cases an
   ·have hs:=HNS.out
    have hk:=HNK.out;simp only [Bool.false_eq_true,if_false,reduceIte] at hs hk;subst hs hk;clear t1 t2 t3 t4 t5 t6 t7 t8 t9 u1 u2 u3 u4 u5 u6 u7 u8 u9;go_wp2_with fail
    go_meet;exact⟨B2,Fr.refl _ _⟩
   ·have hs:=HNS.out
    have hk:=HNK.out;simp only [if_true,reduceIte] at hs hk;have e1:w2.cell? ⟨w.heap.size,1,none⟩=some (.int .u32 x.peer):=D2_.e.cell 1;have e0:w2.cell? ⟨w.heap.size,0,none⟩=some (.int .u32 x.isn):=D2_.e.cell 0;have e22:w2.cell? ⟨w.heap.size,22,none⟩=some (.int .i64 x.heap.next):=D2_.e.cell 22;have e6:w2.cell? ⟨w.heap.size,6,none⟩=some (.int .i64 x.win.a):=D2_.e.cell 6;have y1:w2.cell? ⟨b8,1,none⟩=some (.int .u32 ps):=B2.cell 1;have y2:w2.cell? ⟨b8,2,none⟩=some (.int .u32 pk):=B2.cell 2;have z1:=B2.frozen 1;have z2:=B2.frozen 2;have hlb:=B2.lt;have ne8:w.heap.size≠b8:=(by have:=HB8.out;omega);generalize (ps+x.peer+1+x.heap.next) % 4294967296=N1 at *
    generalize (pk+x.isn+1+x.win.a) % 4294967296=N2 at *
    go_wp2_with fail
    go_meet;rw [hs,hk];exact⟨by simpa using (B2.qO 1 (.int .u32 N1)).qO 2 (.int .u32 N2),((Fr.refl [b8] w2).setCell (p:=⟨b8,1,none⟩) (.inl zs) _).setCell (p:=⟨b8,2,none⟩) (.inl zs) _⟩
  case rest=>
   obtain⟨B3,F3⟩:=hcut;have f13:Fr [] w1 wc:=F12.out.trans F3 (fun b hb => .inr (by simp at hb;have:=HG8.out;omega));have D3:Hid (∀ W,Fr [] wc W->DL w W (arE x av uv kv) #[.int .i64 1, .int .i64 pf, .int .u32 ps, .int .u32 pk, .int .u16 pw, .slice pA pd.length pc, .bool an, .slice dA ad.length dc]):=hI (fun W f=>(D2_.fr F3 (fun b hb => .inr (by simp at hb;have:=HB8.out;omega))).fr f zs);have B3':Hid (∀ W,Fr [] wc W->Blk W b8 49 #[.int .i64 pf, .int .u32 qs, .int .u32 qk, .int .u16 pw, .slice pA pd.length pc]):=hI (fun W f=>B3.fr f zs);have F13:=hI (F0.out.trans f13 zs);have HB3:Hid (b8<wc.heap.size):=hI B3.lt;have HIM3:=hI (HIMW.out _ (F0.out.trans f13 zs));clear B3 F3 f13 B2 D2_ t1 t2 t3 t4 t5 t6 t7 t8 t9 u1 u2 u3 u4 u5 u6 u7 u8 u9;go_upto_region 8 with (first
     | ((with_reducible refine qj 49 (.tmp 8) ?_);refine qf rfl 49 (.tmp 8) rfl b8 49 #[.int .i64 pf, .int .u32 qs, .int .u32 qk, .int .u16 pw, .slice pA pd.length pc] _ rfl (B3'.out _ zf) Tryz.underlying49 rfl zk ?_)|(go_at_call 16;refine (HIM3.out).mono ?_;rintro e w5 h5;obtain⟨S1,H1,A1,c1,L1,rfl,hL1,e1,lk1,m1,p1,f5⟩:=h5))
   have D5:Hid (∀ W,Fr [] w5 W->DL w W (arE x av uv kv) #[.int .i64 1, .int .i64 pf, .int .u32 ps, .int .u32 pk, .int .u16 pw, .slice pA pd.length pc, .bool an, .slice dA ad.length dc]):=hI (fun W f=>((D3.out _ (Fr.refl _ _)).fr f5 (fun b hb => .inl (HOWN.out b hb))).fr f zs);have B5:Hid (∀ W,Fr [] w5 W->Blk W b8 49 #[.int .i64 pf, .int .u32 qs, .int .u32 qk, .int .u16 pw, .slice pA pd.length pc]):=hI (fun W f=>((B3'.out _ (Fr.refl _ _)).fr f5 (fun hm=>by have:=HOWN.out _ hm;have:=HB8.out;omega)).fr f zs);have R2:Hid (RE S1 w5 x av uv kv):=hI ((RR.out.fr F13.out).behind (M.out.fr F13.out) f5 e1 m1);have P1:=hI p1;have M1:=hI m1;have E1:=hI e1;have LK1:=hI lk1;have F5:=hI f5;have HD5:Hid (Byt S1 w5 (.slice pA pd.length pc) pd):=hI (((HPD.out.fr F13.out zs).fr f5 (fun y hy=>M.out.off y hy)).mono e1.1);have HL1:=hI hL1;clear p1 m1 e1 lk1 f5 hL1 D3 B3' HIM3;go_upto_region 9 with (first
     | ((with_reducible refine qj 49 (.tmp 8) ?_);refine qf rfl 49 (.tmp 8) rfl b8 49 #[.int .i64 pf, .int .u32 qs, .int .u32 qk, .int .u16 pw, .slice pA pd.length pc] _ rfl (B5.out _ zf) Tryz.underlying49 rfl zk ?_)|(go_at_call 28;refine (HRT.out _).mono ?_;rintro e w6 ⟨rfl,f6⟩))
   have hl0:L1=[]:=by simpa using HL1.out
   subst hl0;have D6:Hid (∀ W,Fr [] w6 W->DL w W (arE x av uv kv) #[.int .i64 1, .int .i64 pf, .int .u32 ps, .int .u32 pk, .int .u16 pw, .slice pA pd.length pc, .bool an, .slice dA ad.length dc]):=hI (fun W f=>(D5.out _ f6).fr f zs);have F6:=hI f6;clear f6 D5 B5;go_cut [7] (fun s7 wx=>s7 = .bool true/\Blk wx (w.heap.size+1+1) 41 (arE x av uv kv)/\Fr [(w.heap.size+1+1)] w6 wx);case first=>
    go_wp2_with (first
     | ((with_reducible refine qj 41 (.tmp 4) ?_);refine qf rfl 41 (.tmp 4) rfl w.heap.size 41 (arE x av uv kv) _ rfl (D6.out _ zf).e Tryz.underlying41 rfl zk ?_)|((with_reducible refine qi 41 (.tmp 6) ?_);refine qc rfl 41 (.tmp 6) (.tmp 84) rfl (w.heap.size+1+1) 41 qy (arE x av uv kv) rfl rfl (D6.out _ zf).r rfl zk zq ?_;intro wz Bz Fz))
    go_meet;exact⟨rfl,Bz,Fz⟩
   case rest=>
    obtain⟨rfl,Bz,Fz⟩:=hcut;refine ‹∀(a:Act) (w:World),Code.wp Tryz.prog Code.ret _ a w->_› _ _ (wp_ret ?_);try simp only [Exit.then]
    change bodyPost Tryz.prog _ _ .ret _ _;refine bodyPost_ret (qx 6 41 ⟨(w.heap.size+1+1),0,none⟩ _ 7 (.bool true) zr zr (qw Bz) zr) zr ?_;exact xQ F13.out E1.out LK1.out M1.out F5.out F6.out (Ext.refl w5 S1) (R2.out.fr F6.out) Fz zw (by have:=HB3.out;have:=HB8.out;omega) HOWN.out HPUB.out
theorem qln{S:Nat->Prop}{w:World}{H:Hd}{x:St}{av uv kv:Value}(m:SI S w H x)(r:RE S w x av uv kv)(fx:Fine x)(a:AC)(ha:AOk a)(hk:a.kind=1)(hr:xG (jd x a)=true)(hal:x.all.length<=990000)(hn:x.now+1<=1000000)(pA:Option Addr)(pc:Nat)(dA:Option Addr)(dc:Nat)(hpd:Byt S w (.slice pA a.p.d.length pc) a.p.d)(hdd:Byt S w (.slice dA a.d.length dc) a.d) :
  Calls Tryz.prog 10 #[ptr H.g,agE x av uv kv, .agg (arA a pA pc dA dc)] w (jM S w H (jc x a)):=by
 have o1:=r.qN;have hown:=m.lt;have hpub:∀ b,S b->b<w.heap.size:=HP.zA m.hp;have hnp:=qdc ha x;have hdv:jc x a=(zF x (jd x a)).1:=by unfold jc;rw [if_pos hk]
 rw [hdv];clear hdv;have hns:(jd x a).seq=if a.near then (a.p.seq+x.peer+1+x.heap.next) % 4294967296 else a.p.seq:=by unfold jd;split <;> rfl
 have hnk:(jd x a).ack=if a.near then (a.p.ack+x.isn+1+x.win.a) % 4294967296 else a.p.ack:=by unfold jd;split <;> rfl
 obtain⟨qs,hqs⟩:∃ qs,(jd x a).seq=qs:=⟨_,rfl⟩;obtain⟨qk,hqk⟩:∃ qk,(jd x a).ack=qk:=⟨_,rfl⟩;have hQ:jd x a=⟨a.p.flags,qs,qk,a.p.win,a.p.d⟩:=by rw [<- hqs,<- hqk];unfold jd;split <;> rfl
 clear hqs hqk;generalize jd x a=Q at *
 subst hQ;dsimp only at hnp hns hnk;have i0:=fx.ou.i0;have i1:=fx.ou.i1;have j0:=fx.ou.p0;have j1:=fx.ou.p1;have hn0:=fx.ok.s.hi.n0;have hn1:=fx.ok.s.hi.n1;have hwb:=Win.Inv.bd fx.ok.s.hw;have hwm:=fx.ok.s.hm;have hwl:=fx.ok.s.hl;have s0:=ha.s0;have s1:=ha.s1;have k0:=ha.k0;have k1:=ha.k1;have t1:IntKind.i64.wrap (a.p.seq)=a.p.seq:=IntWalk.i64_in _ zw;have t2:IntKind.i64.wrap (x.peer)=x.peer:=IntWalk.i64_in _ zw;have t3:IntKind.i64.wrap (a.p.seq+x.peer)=a.p.seq+x.peer:=IntWalk.i64_in _ zw;have t4:IntKind.i64.wrap (a.p.seq+x.peer+1)=a.p.seq+x.peer+1:=IntWalk.i64_in _ zw;have t5:IntKind.i64.wrap (a.p.seq+x.peer+1+x.heap.next)=a.p.seq+x.peer+1+x.heap.next:=IntWalk.i64_in _ zw;have t9:IntKind.i64.wrap (((a.p.seq+x.peer+1+x.heap.next) % 4294967296))=((a.p.seq+x.peer+1+x.heap.next) % 4294967296):=IntWalk.i64_in _ zw;have t6:(a.p.seq+x.peer+1+x.heap.next).tmod 4294967296=((a.p.seq+x.peer+1+x.heap.next) % 4294967296):=Int.tmod_eq_emod_of_nonneg zw;have t7:IntKind.u32.wrap ((a.p.seq+x.peer+1+x.heap.next) % 4294967296)=((a.p.seq+x.peer+1+x.heap.next) % 4294967296):=by rw [wrap32];omega
 have t8:((a.p.seq+x.peer+1+x.heap.next) % 4294967296) % 4294967296=((a.p.seq+x.peer+1+x.heap.next) % 4294967296):=zw;have u1:IntKind.i64.wrap (a.p.ack)=a.p.ack:=IntWalk.i64_in _ zw;have u2:IntKind.i64.wrap (x.isn)=x.isn:=IntWalk.i64_in _ zw;have u3:IntKind.i64.wrap (a.p.ack+x.isn)=a.p.ack+x.isn:=IntWalk.i64_in _ zw;have u4:IntKind.i64.wrap (a.p.ack+x.isn+1)=a.p.ack+x.isn+1:=IntWalk.i64_in _ zw;have u5:IntKind.i64.wrap (a.p.ack+x.isn+1+x.win.a)=a.p.ack+x.isn+1+x.win.a:=IntWalk.i64_in _ zw;have u9:IntKind.i64.wrap (((a.p.ack+x.isn+1+x.win.a) % 4294967296))=((a.p.ack+x.isn+1+x.win.a) % 4294967296):=IntWalk.i64_in _ zw;have u6:(a.p.ack+x.isn+1+x.win.a).tmod 4294967296=((a.p.ack+x.isn+1+x.win.a) % 4294967296):=Int.tmod_eq_emod_of_nonneg zw;have u7:IntKind.u32.wrap ((a.p.ack+x.isn+1+x.win.a) % 4294967296)=((a.p.ack+x.isn+1+x.win.a) % 4294967296):=by rw [wrap32];omega
 have u8:((a.p.ack+x.isn+1+x.win.a) % 4294967296) % 4294967296=((a.p.ack+x.isn+1+x.win.a) % 4294967296):=zw;have him:=fun W (f:Fr [] w W)=>(qfi (m.fr f) fx.ok ⟨a.p.flags,qs,qk,a.p.win,a.p.d⟩ ha.w0 ha.w1 pA pc S (hpd.fr f zs) (fun b hb=>⟨fun hm=>m.off b hm hb,Nat.lt_of_lt_of_le (hpub b hb) f.size⟩)).mono fun e w' h=>xq.to2 h;have hrt:=fun W=>qnv W ⟨a.p.flags,qs,qk,a.p.win,a.p.d⟩ pA pc;have hcv:=qdw x ⟨a.p.flags,qs,qk,a.p.win,a.p.d⟩ (qbc hr);have href:=fun (S1:Nat->Prop) W (r1:RE S1 W x av uv kv) (hb:Byt S1 W (.slice pA a.p.d.length pc) a.p.d)=>ecome r1 fx.ok fx.ou fx.bk ⟨a.p.flags,qs,qk,a.p.win,a.p.d⟩ (by have:=qbc hr;dsimp only at this |-;omega) (by have:=qbc hr;dsimp only at this |-;omega) hnp.1 hnp.2.1 hnp.2.2.1 hnp.2.2.2.1 ha.w0 ha.w1 ha.pl pA pc S1 hb r1.pub;rw [hcv] at him |-
 dsimp only at him href |-
 generalize hl:(qV x ⟨a.p.flags,qs,qk,a.p.win,a.p.d⟩).2++(qU (qV x ⟨a.p.flags,qs,qk,a.p.win,a.p.d⟩).1).2=Yl at *
 generalize hy:(qU (qV x ⟨a.p.flags,qs,qk,a.p.win,a.p.d⟩).1).1=y at *
 clear hcv;rw [hr] at hrt;obtain⟨ak,⟨pf,ps,pk,pw,pd⟩,an,ad⟩:=a;dsimp only at hk hpd hdd him hrt hns hnk href t1 t2 t3 t4 t5 t6 t7 t8 t9 u1 u2 u3 u4 u5 u6 u7 u8 u9 |-
 subst hk;have HIMW:=hI him;have HRT:=hI hrt;have HNS:=hI hns;have HNK:=hI hnk;have HREF:=hI href;clear him hrt hns hnk hnp i0 i1 j0 j1 hn0 hn1 hwb hwm hwl s0 s1 k0 k1 hr href hy hl;have d0:=DL.start w (arE x av uv kv) #[.int .i64 1, .int .i64 pf, .int .u32 ps, .int .u32 pk, .int .u16 pw, .slice pA pd.length pc, .bool an, .slice dA ad.length dc];have f0:Fr [] w (((w.alloc (.cells (arE x av uv kv) 41)).alloc (.cells #[.int .i64 1, .int .i64 pf, .int .u32 ps, .int .u32 pk, .int .u16 pw, .slice pA pd.length pc, .bool an, .slice dA ad.length dc] 51)).alloc (.cells qy 41)):=(((Fr.refl [] w).alloc _).alloc _).alloc _;have DL0:=hI d0;have F0:=hI f0;have M:=hI m;have RR:=hI r;have HOWN:=hI hown;have HPUB:=hI hpub;have HPD:=hI hpd;have HDD:=hI hdd;clear m r fx ha hal hn hown hpub hpd hdd d0 f0;go_enter Tryz.func10,Tryz.ntmps10;go_upto_region 1 with fail
 generalize ((w.alloc (.cells (arE x av uv kv) 41)).alloc (.cells #[.int .i64 1, .int .i64 pf, .int .u32 ps, .int .u32 pk, .int .u16 pw, .slice pA pd.length pc, .bool an, .slice dA ad.length dc] 51)).alloc (.cells qy 41)=w1 at *
 have c0:w1.cell? ⟨w.heap.size+1,0,none⟩=some (.int .i64 1):=DL0.out.a.cell 0;have DL1:Hid (∀ W,Fr [] w1 W->DL w W (arE x av uv kv) #[.int .i64 1, .int .i64 pf, .int .u32 ps, .int .u32 pk, .int .u16 pw, .slice pA pd.length pc, .bool an, .slice dA ad.length dc]):=hI (fun W f=>DL0.out.fr f zs);have HB:Hid (w.heap.size+1+1<w1.heap.size):=hI DL0.out.r.lt;clear DL0;have d1:w1.cell? ⟨w.heap.size+1,1,none⟩=some (.int .i64 pf):=DL1.out _ (Fr.refl [] w1) |>.a.cell 1;go_upto_region 4 with (first
    | ((with_reducible refine qj 49 (.tmp 41) ?_);refine qC rfl 49 (.tmp 41) rfl (w.heap.size+1) 1 51 #[.int .i64 1, .int .i64 pf, .int .u32 ps, .int .u32 pk, .int .u16 pw, .slice pA pd.length pc, .bool an, .slice dA ad.length dc] #[.int .i64 pf, .int .u32 ps, .int .u32 pk, .int .u16 pw, .slice pA pd.length pc] _ rfl (DL1.out _ zf).a rfl Tryz.underlying49 rfl zk ?_)|((with_reducible refine qi 49 (.tmp 8) ?_);refine qc rfl 49 (.tmp 8) (.tmp 42) rfl w1.heap.size 49 zJ #[.int .i64 pf, .int .u32 ps, .int .u32 pk, .int .u16 pw, .slice pA pd.length pc] rfl rfl (Blk.new w1 49 zJ) rfl zk zo ?_;intro w2 B2 F2))
 have hb8:=HB.out;have D2_:DL w w2 (arE x av uv kv) #[.int .i64 1, .int .i64 pf, .int .u32 ps, .int .u32 pk, .int .u16 pw, .slice pA pd.length pc, .bool an, .slice dA ad.length dc]:=((DL1.out _ (Fr.refl _ _)).fr ((Fr.refl [] w1).alloc (.cells zJ 49)) zs).fr F2 (fun b hb => .inr (by simp at hb;omega));have f12:Fr [] w1 w2:=((Fr.refl [] w1).alloc (.cells zJ 49)).trans F2 (fun b hb => .inr (by simp at hb;omega));have HB8:Hid (w.heap.size+1+1<w1.heap.size):=HB;generalize hg8:w1.heap.size=b8 at *
 have HG8:=hI hg8;have F12:=hI f12;clear F2 f12 d1 c0 DL1 hg8;have c6:w2.cell? ⟨w.heap.size+1,6,none⟩=some (.bool an):=D2_.a.cell 6;try dsimp only [Act.put]
 go_cut [44] (fun s44 wx=>s44 = .bool an/\w2=wx);case first=>
  go_wp2_with fail
  go_meet;exact⟨rfl,rfl⟩
 case rest=>
  obtain⟨rfl,rfl⟩:=hcut;clear c6;refine ‹∀(a:Act) (w:World),Code.wp Tryz.prog (Code.cond _ _ _) _ a w->_› _ _ ?_;go_cut [] (fun wx=>Blk wx b8 49 #[.int .i64 pf, .int .u32 qs, .int .u32 qk, .int .u16 pw, .slice pA pd.length pc]/\Fr [b8] w2 wx);case first=>
   cases an
   ·have hs:=HNS.out
    have hk:=HNK.out;simp only [Bool.false_eq_true,if_false,reduceIte] at hs hk;subst hs hk;clear t1 t2 t3 t4 t5 t6 t7 t8 t9 u1 u2 u3 u4 u5 u6 u7 u8 u9;go_wp2_with fail
    go_meet;exact⟨B2,Fr.refl _ _⟩
   ·have hs:=HNS.out
    have hk:=HNK.out;simp only [if_true,reduceIte] at hs hk;have e1:w2.cell? ⟨w.heap.size,1,none⟩=some (.int .u32 x.peer):=D2_.e.cell 1;have e0:w2.cell? ⟨w.heap.size,0,none⟩=some (.int .u32 x.isn):=D2_.e.cell 0;have e22:w2.cell? ⟨w.heap.size,22,none⟩=some (.int .i64 x.heap.next):=D2_.e.cell 22;have e6:w2.cell? ⟨w.heap.size,6,none⟩=some (.int .i64 x.win.a):=D2_.e.cell 6;have y1:w2.cell? ⟨b8,1,none⟩=some (.int .u32 ps):=B2.cell 1;have y2:w2.cell? ⟨b8,2,none⟩=some (.int .u32 pk):=B2.cell 2;have z1:=B2.frozen 1;have z2:=B2.frozen 2;have hlb:=B2.lt;have ne8:w.heap.size≠b8:=(by have:=HB8.out;omega);generalize (ps+x.peer+1+x.heap.next) % 4294967296=N1 at *
    generalize (pk+x.isn+1+x.win.a) % 4294967296=N2 at *
    go_wp2_with fail
    go_meet;rw [hs,hk];exact⟨by simpa using (B2.qO 1 (.int .u32 N1)).qO 2 (.int .u32 N2),((Fr.refl [b8] w2).setCell (p:=⟨b8,1,none⟩) (.inl zs) _).setCell (p:=⟨b8,2,none⟩) (.inl zs) _⟩
  case rest=>
   obtain⟨B3,F3⟩:=hcut;have f13:Fr [] w1 wc:=F12.out.trans F3 (fun b hb => .inr (by simp at hb;have:=HG8.out;omega));have D3:Hid (∀ W,Fr [] wc W->DL w W (arE x av uv kv) #[.int .i64 1, .int .i64 pf, .int .u32 ps, .int .u32 pk, .int .u16 pw, .slice pA pd.length pc, .bool an, .slice dA ad.length dc]):=hI (fun W f=>(D2_.fr F3 (fun b hb => .inr (by simp at hb;have:=HB8.out;omega))).fr f zs);have B3':Hid (∀ W,Fr [] wc W->Blk W b8 49 #[.int .i64 pf, .int .u32 qs, .int .u32 qk, .int .u16 pw, .slice pA pd.length pc]):=hI (fun W f=>B3.fr f zs);have F13:=hI (F0.out.trans f13 zs);have HB3:Hid (b8<wc.heap.size):=hI B3.lt;have HIM3:=hI (HIMW.out _ (F0.out.trans f13 zs));clear B3 F3 f13 B2 D2_ t1 t2 t3 t4 t5 t6 t7 t8 t9 u1 u2 u3 u4 u5 u6 u7 u8 u9;go_upto_region 8 with (first
     | ((with_reducible refine qj 49 (.tmp 8) ?_);refine qf rfl 49 (.tmp 8) rfl b8 49 #[.int .i64 pf, .int .u32 qs, .int .u32 qk, .int .u16 pw, .slice pA pd.length pc] _ rfl (B3'.out _ zf) Tryz.underlying49 rfl zk ?_)|(go_at_call 16;refine (HIM3.out).mono ?_;rintro e w5 h5;obtain⟨S1,H1,A1,c1,L1,rfl,hL1,e1,lk1,m1,p1,f5⟩:=h5))
   have D5:Hid (∀ W,Fr [] w5 W->DL w W (arE x av uv kv) #[.int .i64 1, .int .i64 pf, .int .u32 ps, .int .u32 pk, .int .u16 pw, .slice pA pd.length pc, .bool an, .slice dA ad.length dc]):=hI (fun W f=>((D3.out _ (Fr.refl _ _)).fr f5 (fun b hb => .inl (HOWN.out b hb))).fr f zs);have B5:Hid (∀ W,Fr [] w5 W->Blk W b8 49 #[.int .i64 pf, .int .u32 qs, .int .u32 qk, .int .u16 pw, .slice pA pd.length pc]):=hI (fun W f=>((B3'.out _ (Fr.refl _ _)).fr f5 (fun hm=>by have:=HOWN.out _ hm;have:=HB8.out;omega)).fr f zs);have R2:Hid (RE S1 w5 x av uv kv):=hI ((RR.out.fr F13.out).behind (M.out.fr F13.out) f5 e1 m1);have P1:=hI p1;have M1:=hI m1;have E1:=hI e1;have LK1:=hI lk1;have F5:=hI f5;have HD5:Hid (Byt S1 w5 (.slice pA pd.length pc) pd):=hI (((HPD.out.fr F13.out zs).fr f5 (fun y hy=>M.out.off y hy)).mono e1.1);have HL1:=hI hL1;clear p1 m1 e1 lk1 f5 hL1 D3 B3' HIM3;go_upto_region 10 with (first
     | ((with_reducible refine qj 49 (.tmp 8) ?_);refine qf rfl 49 (.tmp 8) rfl b8 49 #[.int .i64 pf, .int .u32 qs, .int .u32 qk, .int .u16 pw, .slice pA pd.length pc] _ rfl (B5.out _ zf) Tryz.underlying49 rfl zk ?_)|(go_at_call 28;refine (HRT.out _).mono ?_;rintro e w6 ⟨rfl,f6⟩))
   have D2:Hid (∀ W,Fr [] w6 W->DL w W (arE x av uv kv) #[.int .i64 1, .int .i64 pf, .int .u32 ps, .int .u32 pk, .int .u16 pw, .slice pA pd.length pc, .bool an, .slice dA ad.length dc]):=hI (fun W f=>(D5.out _ f6).fr f zs);have B6':Hid (∀ W,Fr [] w6 W->Blk W b8 49 #[.int .i64 pf, .int .u32 qs, .int .u32 qk, .int .u16 pw, .slice pA pd.length pc]):=hI (fun W f=>(B5.out _ f6).fr f zs);have F56:=hI f6;have HRF:Hid (∀ W,Fr [] w6 W->Calls Tryz.prog 29 #[agE x av uv kv,agP ⟨pf,qs,qk,pw,pd⟩ (.slice pA pd.length pc)] W (EL S1 W (y,Yl))):=hI (fun W f=>HREF.out S1 W ((R2.out.fr f6).fr f) ((HD5.out.fr f6 zs).fr f zs));clear f6 D5 B5;go_upto_region 11 with (first
      | ((with_reducible refine qj 41 (.tmp 4) ?_);refine qf rfl 41 (.tmp 4) rfl w.heap.size 41 (arE x av uv kv) _ rfl (D2.out _ zf).e Tryz.underlying41 rfl zk ?_)|((with_reducible refine qj 49 (.tmp 8) ?_);refine qf rfl 49 (.tmp 8) rfl b8 49 #[.int .i64 pf, .int .u32 qs, .int .u32 qk, .int .u16 pw, .slice pA pd.length pc] _ rfl (B6'.out _ zf) Tryz.underlying49 rfl zk ?_)|(go_at_call 29;refine (HRF.out _ zf).mono ?_;rintro e w8 ⟨S2,a2,u2,k2,v2,L2,rfl,hL2,e2,r2,p2,f8⟩;have o2:=r2.qN)|((with_reducible refine qi 41 (.tmp 11) ?_);refine qc rfl 41 (.tmp 11) (.tmp 96) rfl w8.heap.size 41 qy (arE y a2 u2 k2) rfl rfl (Blk.new w8 41 qy) rfl zk (o2.out _) ?_;intro w9 B9 F9))
   have fa8:Fr [] w8 (w8.alloc (.cells qy 41)):=(Fr.refl [] w8).alloc _;have f8':Fr [] w5 w8:=F56.out.trans f8 zs;have hz8:=f8'.size;have nsb:¬ S2 w8.heap.size:=fun hs=>by have:=r2.pub _ hs;omega
   have nob:∀ b∈ob v2,b≠w8.heap.size:=fun b hb=>by have:=kG p2.own (qo.1 hb);omega
   have hb5:wc.heap.size<=w5.heap.size:=F5.out.size;have NB9:Hid (w.heap.size+1+1<w8.heap.size):=hI (by have:=HB8.out;have:=HB3.out;omega);have DL9:=hI (((D2.out _ f8).fr fa8 zs).fr F9 (fun b hb => .inr (by simp at hb;have:=NB9.out;omega)));have F29:Hid (Fr [] w5 w9):=hI ((f8'.trans fa8 zs).trans F9 (fun b hb => .inr (by simp at hb;omega)));have P29:=hI ((p2.fr fa8 zs zs (fun _ h=>h)).fr F9 (fun z hz hs=>by simp at hz;subst hz;exact nsb hs) (fun b hb hm=>by simp at hm;exact nob b hb hm) (fun _ h=>h));have P19:=hI (P1.out.fr F29.out zs zs (fun _ h=>h));have R9:=hI ((r2.fr fa8).far F9 nsb);have V9:=hI B9;have E2:Hid (Ext w5 S1 S2):=hI (kM e2 F56.out.size);have HLL:Hid (L1.map (·.1)=L2.map (·.1)):=hI (by rw [HL1.out,hL2]);generalize w8.heap.size=b9 at *
   clear fa8 f8' hz8 nsb nob hb5 r2 p2 f8 B9 F9 hL2 e2 D2 B6';refine wp_region_held_drew (S:=fun W=>Fr [(w.heap.size+1+1)] w9 W) zk (Fr.refl _ w9).drew (fun hH=>?_);have fd:Fr [] w9 w9.drew:=(Fr.refl [] w9).drew;generalize w9.drew=wd at *
   refine Held.take 0 rfl zk zk zk (fun _ _ _ h=>h) (Held.yc rfl 41 (.tmp 11) rfl b9 41 (arE y a2 u2 k2) _ rfl (fun _ hs=>V9.out.fr hs (by have:=NB9.out;simp;omega)) Tryz.underlying41 rfl zk) hH ?_;try simp only [Act.put,zqA,zqB,zqC]
   refine Held.take 1 (v := .slice A1 L1.length c1) rfl zk zk zk (fun _ _ _ h=>h) (Or.inl ⟨rfl,fun (W:World) hs=>by go_simp⟩) hH ?_;try simp only [Act.put,zqA,zqB,zqC]
   refine Held.take 2 (v:=v2) rfl zk zk zk (fun _ _ _ h=>h) (Or.inl ⟨rfl,fun (W:World) hs=>by go_simp⟩) hH ?_;try simp only [Act.put,zqA,zqB,zqC]
   refine Held.one (i:=3) zk rfl (fun K hK=>?_);go_simp;go_at_call 30;refine (qeb (P19.out.fr fd zs zs (fun _ h=>h)) (P29.out.fr fd zs zs (fun _ h=>h)) HLL.out).mono ?_;rintro e ws ⟨rfl,fs⟩;try go_wp2_with fail
   refine hK.out _ _ (hH.trans fs zs) (fun h3=>?_);clear hK K;try simp only [Act.put,zqA,zqB,zqC]
   have fds:Fr [] w9 ws:=fd.trans fs zs;clear hH;refine Held.take 4 (v := .bool true) rfl zk zk zk (fun _ _ _ h=>h) (Or.inl ⟨rfl,fun (W:World) hs=>by go_simp⟩) h3 ?_;try simp only [Act.put,zqA,zqB,zqC]
   refine Held.take 5 (v := .int .i64 0) rfl zk zk zk (fun _ _ _ h=>h) (Or.inl ⟨rfl,fun (W:World) hs=>by go_simp⟩) h3 ?_;try simp only [Act.put,zqA,zqB,zqC]
   refine Held.take 6 (v := .bool true) rfl zk zk zk (fun _ _ _ h=>h) (Or.inl ⟨rfl,fun (W:World) hs=>by go_simp⟩) h3 ?_;try simp only [Act.put,zqA,zqB,zqC]
   refine Held.take 7 (v := .bool true) rfl zk zk zk (fun _ _ _ h=>h) (Or.inl ⟨rfl,fun (W:World) hs=>by go_simp⟩) h3 ?_;try simp only [Act.put,zqA,zqB,zqC]
   refine Held.one (i:=8) zk rfl (fun K hK=>?_);refine Held.vY rfl 41 (.tmp 6) (.tmp 98) rfl (w.heap.size+1+1) 41 qy (arE y a2 u2 k2) rfl rfl (DL9.out.r.fr fds zs) rfl zk (o2.out _) ?_;intro wz Bz Fz;refine hK.out _ _ (h3.trans Fz (fun z hz => .inl hz)) (fun hC=>?_);clear hK K;try simp only [Act.put,zqA,zqB,zqC]
   refine Held.take 9 (v := .bool true) rfl zk zk zk (fun _ _ _ h=>h) (Or.inl ⟨rfl,fun (W:World) hs=>by go_simp⟩) hC ?_;try simp only [Act.put,zqA,zqB,zqC]
   refine Held.done zk ?_;refine ‹∀(a:Act) (w:World),Code.wp Tryz.prog Code.ret _ a w->_› _ _ (wp_ret ?_);try simp only [Exit.then]
   change bodyPost Tryz.prog _ _ .ret _ _;refine bodyPost_ret (qx 6 41 ⟨(w.heap.size+1+1),0,none⟩ _ 7 (.bool true) zr zr (qw Bz) zr) zr ?_;exact xQ F13.out E1.out LK1.out M1.out F5.out (F29.out.trans fds zs) E2.out (R9.out.fr fds) Fz zw (by have:=HB3.out;have:=HB8.out;omega) HOWN.out HPUB.out
theorem qdd{S:Nat->Prop}{w:World}{H:Hd}{x:St}{av uv kv:Value}(m:SI S w H x)(r:RE S w x av uv kv)(fx:Fine x)(a:AC)(ha:AOk a)(hal:x.all.length<=990000)(hn:x.now+1<=1000000)(pA:Option Addr)(pc:Nat)(dA:Option Addr)(dc:Nat)(hpd:Byt S w (.slice pA a.p.d.length pc) a.p.d)(hdd:Byt S w (.slice dA a.d.length dc) a.d) :
  Calls Tryz.prog 10 #[ptr H.g,agE x av uv kv, .agg (arA a pA pc dA dc)] w (jM S w H (jc x a)):=by
 by_cases h1:a.kind=1
 ·rcases Bool.eq_false_or_eq_true (xG (jd x a)) with h|h
  ·exact qln m r fx a ha h1 h hal hn pA pc dA dc hpd hdd
  ·exact qoe m r fx a ha h1 h hal hn pA pc dA dc hpd hdd
 by_cases h2:a.kind=2
 ·exact does2 m r fx a ha h2 hal hn pA pc dA dc hpd hdd
 by_cases h3:a.kind=3
 ·exact does3 m r fx a ha h3 hal hn pA pc dA dc hpd hdd
 by_cases h4:a.kind=4
 ·exact does4 m r fx a ha h4 hal hn pA pc dA dc hpd hdd
 by_cases h6:a.kind=6
 ·exact does6 m r fx a ha h6 hal hn pA pc dA dc hpd hdd
 by_cases h5:a.kind=5
 ·exact does5 m r fx a ha h5 hal hn pA pc dA dc hpd hdd
 ·exact does_ m r fx a ha ⟨h1,h2,h3,h4,h6,h5⟩ hal hn pA pc dA dc hpd hdd
structure Chain(a0 b0 b1 a1 b2 a2 b3 b4 b5:St)(p0 p1 p2 p3 p4:Prt)(m2 q1 q2:List Prt):Prop where
 n1:jf 100 true=(a0,[p0])
 n2:jf 500 false=(b0,[])
 c1:zF b0 p0=(b1,[p1],0)
 c2:zF a0 p1=(a1,[p2],0)
 c3:zF b1 p2=(b2,m2,0)
 w1:zZ a1 [97,98]=(a2,[p3],0)
 c4:zF b2 p3=(b3,[p4],0)
 r1:zV b3=(b4,[97,98],q1)
 r2:zV b4=(b5,[],q2)
 f0:p0.flags=1
 s0:p0.seq=100
 k4:p4.ack=103
 h0:0<=p0.win/\p0.win<65536
 h1:0<=p1.win/\p1.win<65536
 h2:0<=p2.win/\p2.win<65536
 h3:0<=p3.win/\p3.win<65536
 oa0:Ok a0
 ob0:Ok b0
 oa1:Ok a1
 ob1:Ok b1
 ob2:Ok b2
 ob3:Ok b3
 ob4:Ok b4
 l1:a1.all.length<=990000
theorem chain:∃ a0 b0 b1 a1 b2 a2 b3 b4 b5 p0 p1 p2 p3 p4 m2 q1 q2,Chain a0 b0 b1 a1 b2 a2 b3 b4 b5 p0 p1 p2 p3 p4 m2 q1 q2:=by
 have n1:jf 100 true=((jf 100 true).1,[⟨1,100,0,1024,[]⟩]):=zk;have oa0:=(qhw 100 true).1;have ob0:=(qhw 500 false).1;have c1:zF (jf 500 false).1 ⟨1,100,0,1024,[]⟩=((zF (jf 500 false).1 ⟨1,100,0,1024,[]⟩).1,[⟨3,500,101,1024,[]⟩],0):=zk;have ob1:=ob0.come ⟨1,100,0,1024,[]⟩;have c2:zF (jf 100 true).1 ⟨3,500,101,1024,[]⟩=((zF (jf 100 true).1 ⟨3,500,101,1024,[]⟩).1,[⟨2,101,501,1024,[]⟩],0):=zk;have oa1:=oa0.come ⟨3,500,101,1024,[]⟩;have c3:zF (zF (jf 500 false).1 ⟨1,100,0,1024,[]⟩).1 ⟨2,101,501,1024,[]⟩=((zF (zF (jf 500 false).1 ⟨1,100,0,1024,[]⟩).1 ⟨2,101,501,1024,[]⟩).1,[],0):=zk;have ob2:=ob1.come ⟨2,101,501,1024,[]⟩;have w1:zZ (zF (jf 100 true).1 ⟨3,500,101,1024,[]⟩).1 [97,98]=((zZ (zF (jf 100 true).1 ⟨3,500,101,1024,[]⟩).1 [97,98]).1,[⟨2,101,501,1024,[97,98]⟩],0):=zk;have hla:(zF (jf 100 true).1 ⟨3,500,101,1024,[]⟩).1.all.length<=990000:=by
  have:(zF (jf 100 true).1 ⟨3,500,101,1024,[]⟩).1.all.length=0:=zk;omega
 generalize hB2:(zF (zF (jf 500 false).1 ⟨1,100,0,1024,[]⟩).1 ⟨2,101,501,1024,[]⟩).1=B2 at *
 have c4:zF B2 ⟨2,101,501,1024,[97,98]⟩=((zF B2 ⟨2,101,501,1024,[97,98]⟩).1,[⟨2,501,103,1022,[]⟩],0):=by rw [<- hB2];kernel_rfl
 have ob3:=ob2.come ⟨2,101,501,1024,[97,98]⟩;generalize hB3:(zF B2 ⟨2,101,501,1024,[97,98]⟩).1=B3 at *
 have r1:zV B3=((zV B3).1,[97,98],[]):=by rw [<- hB3,<- hB2];kernel_rfl
 have r2:zV (zV B3).1=((zV (zV B3).1).1,[],[]):=by rw [<- hB3,<- hB2];kernel_rfl
 exact⟨_,_,_,_,_,_,_,_,_,_,_,_,_,_,_,_,_,n1,rfl,c1,c2,c3,w1,c4,r1,r2,rfl,rfl,rfl,zd,zd,zd,zd,oa0,ob0,oa1,ob1,ob2,ob3,ob3.read,hla⟩
theorem byt_lit(w:World)(l:List Int)(hl:l.length<=maxLen)(fr:Nat × Nat):Byt (fun b=>b=w.heap.size) (w.alloc (.cells (kE l).toArray 5 fr)) (.slice (some ⟨w.heap.size,0,none⟩) l.length l.length) l:=by
 unfold Byt;refine⟨by simp [kE],_,_,rfl,Nat.le_refl _,hl,fun _=>⟨_,_,rfl,rfl,fun j u hj=>?_⟩⟩;rw [Nat.zero_add,Go.Joins.cell_alloc_mark_at _ _ _ _ _ _ rfl];simpa using hj
def Late(w:World)(H:Hd):Prop:=∀ y∈H.own,w.heap.size<=y
theorem Late.like{w w1:World}{H H':Hd}(h:Late w H)(lk:Hd.like w1 H H')(hz:w.heap.size<=w1.heap.size):Late w H':=fun y hy=>by
 rcases lk.own y hy with q|q
 ·exact h y q
 ·omega
theorem Late.fr{w w1 w2:World}{H:Hd}(h:Late w H)(f:Fr [] w w1)(k:Fr H.own w1 w2):Fr [] w w2:=f.trans k (fun y hy => .inr (h y hy))
theorem qbp(x:St):(zV x).2.1=x.unread:=by unfold zV;dsimp only;split <;> rfl
theorem yX(w:World):Calls Tryz.prog 7 #[] w fun e w'=>e = .returned (.bool true)/\Fr [] w w':=by
 obtain⟨a0,b0,b1,a1,b2,a2,b3,b4,b5,p0,p1,p2,p3,p4,m2,q1,q2,ch⟩:=chain;have CH:=hI ch;clear ch;go_enter Tryz.func7,Tryz.ntmps7;go_wp2_with fail
 have hn:=qil (fun b=>b<w.heap.size) 100 true w (fun b h=>h);rw [CH.out.n1] at hn;refine hn.mono ?_;rintro e w1 ⟨S1,Ha,v1,L1,rfl,hL1,x1,ma,pr1,n1,f1,la⟩;have MA:=hI ma;have PR1:=hI pr1;have N1:=hI n1;have F1:=hI f1;have LA:=hI la;have HL1:=hI hL1;obtain⟨vA,vc,hv1,_,_⟩:=qY pr1.own;have hl1:L1.length=1:=by have:=congrArg List.length hL1;simpa using this
 rw [hl1] at hv1;subst hv1;clear hn x1 ma pr1 n1 f1 la hL1;go_wp2_with fail
 have hn:=qil S1 500 false w1 (HP.zA MA.out.hp);rw [CH.out.n2] at hn;refine hn.mono ?_;rintro e w2 ⟨S2,Hb,v2,L2,rfl,hL2,x2,mb,pr2,n2,f2,lb⟩;have hd:Duo S2 w2 Ha Hb a0 b0:=⟨MA.out.ext f2 x2 (HP.zA mb.hp),mb,fun y hy hb=>by have h1:=MA.out.lt y hy;have h2:=lb y hb;omega⟩;have D2:=hI hd;have hpr:Pr S2 w2 (.slice vA 1 vc) L1:=PR1.out.fr f2 zs zs x2.1;obtain⟨k2,kc2,hv2⟩:=pr2.none_ hL2;subst hv2;obtain⟨bb,bk,A0,c0,hv0,hk1,hk2,y0,y1,y2,y3,y4,hby0⟩:=hpr.one_ HL1.out;injection hv0 with hvA _ hvc;subst hvA hvc;have Y0:=hI y0;have Y1:=hI y1;rw [CH.out.f0] at y0;rw [CH.out.s0] at y1;have HBY0:=hI hby0;have HPR:=hI hpr;have LB:=hI (show Late w Hb from fun y hy=>by have:=lb y hy;have:=F1.out.size;omega);have F2:=hI (F1.out.trans f2 zs);clear hn x2 mb pr2 n2 f2 lb hd hpr hL2 hby0 PR1 N1 MA;have hc:=qap D2.out.symm CH.out.ob0 p0 CH.out.h0 A0 c0 HBY0.out;rw [CH.out.c1] at hc;have HC:=hI hc;clear hc;go_upto_region 5 with fail
 clear y0 y1;have y0:=Y0.out;have y1:=Y1.out;go_upto_region 6 with (go_at_call 16;refine HC.out.mono ?_;rintro e w3 ⟨v3,S3,Hb3,L3,rfl,hL3,x3,lk3,d3,pr3,n3,f3⟩;have D3:=hI d3.symm;obtain⟨q3,k3,A3,c3,rfl,g1,g2,y0,y1,y2,y3,y4,hby3⟩:=pr3.one_ hL3;have LB3:=hI (LB.out.like lk3 F2.out.size);have LK3:=hI lk3;have F3:=hI (LB.out.fr F2.out f3);have HBY3:=hI hby3;clear hL3 x3 lk3 d3 pr3 n3 f3 hby3)
 clear HC LB F2 HBY0 HPR D2;have hc:=qap D3.out CH.out.oa0 p1 CH.out.h1 A3 c3 HBY3.out;rw [CH.out.c2] at hc;have HC:=hI hc;clear hc;go_upto_region 7 with (go_at_call 16;refine HC.out.mono ?_;rintro e w4 ⟨v4,S4,Ha4,L4,rfl,hL4,x4,lk4,d4,pr4,n4,f4⟩;have D4:=hI d4;obtain⟨q4,k4,A4,c4,rfl,g1,g2,y0,y1,y2,y3,y4,hby4⟩:=pr4.one_ hL4;have LA4:=hI (Late.like LA.out lk4 F3.out.size);have F4:=hI (Late.fr LA.out F3.out f4);have HBY4:=hI hby4;have LK4:=hI lk4;have LB4:=LB3;clear hL4 x4 lk4 d4 pr4 n4 f4 hby4)
 clear HC LB3 LA F3 HBY3 D3;have hc:=qap D4.out.symm CH.out.ob1 p2 CH.out.h2 A4 c4 HBY4.out;rw [CH.out.c3] at hc;rw [LK3.out.g] at hc;have HC:=hI hc;clear hc;go_upto_region 8 with (go_at_call 16;refine HC.out.mono ?_;rintro e w5 ⟨v5,S5,Hb5,L5,rfl,hL5,x5,lk5,d5,pr5,n5,f5⟩;have D5:=hI d5.symm;have LB5:=hI (Late.like LB4.out lk5 F4.out.size);have F5:=hI (Late.fr LB4.out F4.out f5);have LK5:=hI (Hd.like.g lk5 |>.trans LK3.out.g);have LA5:=LA4;clear hL5 x5 lk5 d5 pr5 n5 f5)
 clear HC LB4 F4 HBY4 D4 LA4 y0 y1 y2 y3 y4 LK3;have cv1:=Lib.run_convert_bytes_const (P:=Tryz.prog) w5 30 5 #[.int .u8 97, .int .u8 98] 2 2 Tryz.underlying30 Tryz.underlying5;have hb1:Byt (fun b=>b=w5.heap.size) (w5.alloc (.cells #[.int .u8 97, .int .u8 98] 5 (2,3))) (.slice (some ⟨w5.heap.size,0,none⟩) 2 2) [97,98]:=byt_lit w5 [97,98] zd _;have hf6:Fr [] w5 (w5.alloc (.cells #[.int .u8 97, .int .u8 98] 5 (2,3))):=(Fr.refl [] w5).alloc _;have hc:=qlj (D5.out.fr hf6) CH.out.oa1 [97,98] CH.out.l1 (some ⟨w5.heap.size,0,none⟩) 2 _ hb1;rw [CH.out.w1,LK4.out.g] at hc;have HC:=hI hc;clear hc hb1;go_upto_region 9 with (go_at_call 17;refine HC.out.mono ?_;rintro e w6 ⟨v6,S6,Ha6,L6,rfl,hL6,x6,lk6,d6,pr6,n6,f6⟩;have D6:=hI d6;obtain⟨q6,k6,A6,c6,rfl,g1,g2,y0,y1,y2,y3,y4,hby6⟩:=pr6.one_ hL6;have LA6:=hI (Late.like LA5.out lk6 (F5.out.alloc (.cells #[.int .u8 97, .int .u8 98] 5 (2,3))).size);have F6:=hI (Late.fr LA5.out (F5.out.alloc (.cells #[.int .u8 97, .int .u8 98] 5 (2,3))) f6);have HBY6:=hI hby6;clear hL6 x6 lk6 d6 pr6 n6 f6 hby6)
 clear HC LA5 F5 D5 cv1 hf6;have hc:=qap D6.out.symm CH.out.ob2 p3 CH.out.h3 A6 c6 HBY6.out;rw [CH.out.c4,LK5.out] at hc;have HC:=hI hc;clear hc;go_upto_region 10 with (go_at_call 16;refine HC.out.mono ?_;rintro e w7 ⟨v7,S7,Hb7,L7,rfl,hL7,x7,lk7,d7,pr7,n7,f7⟩;have D7:=hI d7.symm;obtain⟨q7,k7,A7,c7,rfl,g1,g2,y0,y1,y2,y3,y4,hby7⟩:=pr7.one_ hL7;have LB7:=hI (Late.like LB5.out lk7 F6.out.size);have F7:=hI (Late.fr LB5.out F6.out f7);have LK7:=hI (Hd.like.g lk7 |>.trans LK5.out);have PR7:=hI pr7;have HL7:=hI hL7;clear hL7 x7 lk7 d7 pr7 n7 f7 hby7)
 clear HC LB5 F6 D6 HBY6 LK5 y0 y1 y2 y3 y4;obtain⟨uA,uc,huv,_,_⟩:=qY D7.out.b.unr;have hun:b3.unread=[97,98]:=by rw [<- qbp b3,CH.out.r1]
 rw [hun] at huv;have hun2:b4.unread=[]:=by rw [<- qbp b4,CH.out.r2]
 have hr:=qfk D7.out.b CH.out.ob3.s;rw [CH.out.r1,LK7.out] at hr;have HR:=hI hr;have HUV:=hI huv;have HUN2:=hI hun2;clear hr huv hun hun2;go_wp2_with fail
 refine HR.out.mono ?_;rintro e w8 ⟨S8,H8,v8,L8,rfl,hL8,x8,lk8,m8,pr8,n8,f8,by8,na8⟩;rw [HUV.out] at by8 na8 |-
 obtain⟨uA8,uc8,huv8,_,_⟩:=qY m8.unr;dsimp only at huv8 m8 by8;rw [HUN2.out] at huv8;have hr:=qfk m8 CH.out.ob4.s;rw [CH.out.r2,lk8.g,LK7.out] at hr;have HR8:=hI hr;have HUV8:=hI huv8;have BY8:=hI by8;have NA8:=hI na8;have HG8:=hI lk8.g;have PR8:=hI (PR7.out.yT D7.out.b f8 zh);have F8:=hI (F7.out.trans f8 (fun y hy => .inr (by simp at hy;subst hy;exact LB7.out _ zh)));clear hr huv8 by8 na8 hL8 x8 pr8 n8 f8 HR;have HM8:=hI (show H8.g∈H8.own by simp [Hd.own]);have NR8:Hid (∀ b∈ob (.slice (some ⟨q7,0,none⟩) 1 k7),b≠H8.g):=hI (fun b hb=>by rw [HG8.out];rintro rfl;exact Pr.apart D7.out.b PR7.out _ hb zh);have NS8:Hid (¬ S7 H8.g):=hI (by rw [HG8.out];exact D7.out.b.nS _ (.inl rfl));clear lk8 m8;go_wp2_with fail
 refine HR8.out.mono ?_;rintro e w9 ⟨S9,H9,v9,L9,rfl,hL9,x9,lk9,m9,pr9,n9,f9,by9,na9⟩;rw [HUV8.out];have pr9':=PR8.out.fr f9 (fun y hy=>by simp at hy;subst hy;exact NS8.out) (fun b hb=>by simpa using NR8.out b hb) (fun _ h=>h);obtain⟨q9,k9,A9,c9,hv9,_,_,_,_,y2,_,_,_⟩:=pr9'.one_ HL7.out;injection hv9 with hv9 _ _;injection hv9 with hv9;injection hv9 with hv9 _ _;subst hv9;rw [CH.out.k4] at y2;have by9':Byt (fun b=>b∈ob (.slice uA [97,98].length uc)) w9 (.slice uA [97,98].length uc) [97,98]:=Byt.fr BY8.out f9 (fun y hy hm=>by simp at hy;subst hy;exact NA8.out _ hm HM8.out);have cvs:(convert 30 9 (.slice uA 2 uc)).run Tryz.prog w9 = .ok (.string { data:=#[97,98] }) w9:=by9'.string (P:=Tryz.prog) 30 5 Tryz.underlying30 Tryz.underlying5 9 Tryz.underlying9;have F9:=hI (F8.out.trans f9 (fun y hy => .inr (by simp at hy;subst hy;rw [HG8.out];exact LB7.out _ zh)));clear hL9 x9 lk9 m9 pr9 n9 f9 by9 na9 by9' pr9';have e2:([97,98]:List Int).length=2:=rfl;have e0:([]:List Int).length=0:=rfl;simp only [e2,e0];go_wp2_with fail
 go_ret;exact⟨rfl,F9.out⟩
structure ANum(a:AC):Prop where
 s0:0<=a.p.seq
 s1:a.p.seq<4294967296
 k0:0<=a.p.ack
 k1:a.p.ack<4294967296
 w0:0<=a.p.win
 w1:a.p.win<65536
theorem ANum.ok{a:AC}(h:ANum a)(h1:a.p.d.length<=100)(h2:a.d.length<=5000):AOk a:=⟨h.s0,h.s1,h.k0,h.k1,h.w0,h.w1,h1,h2⟩
def qdi(w:World)(B:Nat)(A:Option Addr)(n:Nat)(f:Nat->AC):Prop:=
 ∀ i,i<n->ANum (f i)/\∃ b o pA pc dA dc,A=some ⟨b,o,none⟩/\b<B/\(∀ j v,(arA (f i) pA pc dA dc)[j]?=some v->w.cell? ⟨b,o+i * 8+j,none⟩=some v)/\Byt (fun b=>b<B) w (.slice pA (f i).p.d.length pc) (f i).p.d/\Byt (fun b=>b<B) w (.slice dA (f i).d.length dc) (f i).d
theorem qdi.fr{w w':World}{B:Nat}{A:Option Addr}{n:Nat}{f:Nat->AC}{O:List Nat}(h:qdi w B A n f)(hf:Fr O w w')(hB:B<=w.heap.size)(hO:∀ x∈O,B<=x):qdi w' B A n f:=by
 intro i hi;obtain⟨hn,b,o,pA,pc,dA,dc,e,hb,h0,h1,h2⟩:=h i hi;have hc:∀ j,w'.cell? ⟨b,j,none⟩=w.cell? ⟨b,j,none⟩:=fun j=>hf.cell (p:=⟨b,j,none⟩) (by show b<_;omega) (fun hm=>by have:=hO _ hm;dsimp only at this;omega);exact⟨hn,b,o,pA,pc,dA,dc,e,hb,fun j v hj=>by rw [hc];exact h0 j v hj,h1.fr hf (fun x hx hs=>by have:=hO _ hx;omega),h2.fr hf (fun x hx hs=>by have:=hO _ hx;omega)⟩
structure ACells(w:World)(b k:Nat)(a:AC)(pA:Option Addr)(pc:Nat)(dA:Option Addr)(dc:Nat):Prop where
 x0:w.cell? ⟨b,k,none⟩=some (.int .i64 a.kind)
 x1:w.cell? ⟨b,k+1,none⟩=some (.int .i64 a.p.flags)
 x2:w.cell? ⟨b,k+2,none⟩=some (.int .u32 a.p.seq)
 x3:w.cell? ⟨b,k+3,none⟩=some (.int .u32 a.p.ack)
 x4:w.cell? ⟨b,k+4,none⟩=some (.int .u16 a.p.win)
 x5:w.cell? ⟨b,k+5,none⟩=some (.slice pA a.p.d.length pc)
 x6:w.cell? ⟨b,k+6,none⟩=some (.bool a.near)
 x7:w.cell? ⟨b,k+7,none⟩=some (.slice dA a.d.length dc)
theorem qfm{w:World}{b k:Nat}{a:AC}{pA:Option Addr}{pc:Nat}{dA:Option Addr}{dc:Nat}(h:∀ j v,(arA a pA pc dA dc)[j]?=some v->w.cell? ⟨b,k+j,none⟩=some v):ACells w b k a pA pc dA dc:=
 ⟨h 0 _ rfl,h 1 _ rfl,h 2 _ rfl,h 3 _ rfl,h 4 _ rfl,h 5 _ rfl,h 6 _ rfl,h 7 _ rfl⟩
def FewPost(n:Nat)(f:Nat->AC)(w:World)(e:Ending)(w':World):Prop:=∃ b:Bool,e = .returned (.bool b)/\Fr [] w w'/\(b=true->n<=60/\∀ i,i<n->(f i).d.length<=5000/\(f i).p.d.length<=100)
theorem qjn(w:World)(B:Nat)(A:Option Addr)(n c:Nat)(f:Nat->AC)(h:qdi w B A n f)(hB:B<=w.heap.size)(hn:n<=maxLen):Calls Tryz.prog 6 #[.slice A n c] w (FewPost n f w):=by
 have H:=hI h;have HB:=hI hB;unfold maxLen at hn;clear h hB;by_cases h60:60<n
 ·go_enter Tryz.func6,Tryz.ntmps6
  go_wp2
  go_ret;exact⟨false,rfl,Fr.refl _ _,zs⟩
 ·go_enter Tryz.func6,Tryz.ntmps6
  go_wp2
  go_loopw [3] (fun s3 wr=>∃ k:Nat,k<=n/\s3 = .int .i64 k/\Fr [] w wr/\∀ i,i<k->(f i).d.length<=5000/\(f i).p.d.length<=100) (fun s3 _=>n - (intOf s3).toNat);case atStart=>exact⟨0,zw,rfl,Fr.refl _ _,zw⟩
  case round=>
   obtain⟨k,hk,rfl,fw,hd⟩:=hrel;have HD:=hI hd;have FW:=hI fw;clear hd;by_cases hlt:k<n
   ·obtain⟨_,b,o,pA,pc,dA,dc,rfl,_,hc,hpb,hdb⟩:=(H.out.fr fw HB.out zs) k hlt
    obtain⟨_,_,_,_,_,x5,_,x7⟩:=qfm hc;clear hpb hdb hc fw;have dk:decide ((k:Int)<(n:Int))=true:=(by simpa using hlt);have HDL:Hid (∀ i,i<k+1->i<k\/i=k):=hI (fun i hi=>by omega);generalize hdl:(f k).d.length=dl at *
    generalize hpl:(f k).p.d.length=pl at *
    have HDN:=hI hdl;have HPN:=hI hpl;clear hdl hpl;by_cases h1:5000<dl
    ·have e1:decide ((dl:Int) > 5000)=true:=zv
     have e2:decide (5000<(dl:Int))=true:=zv;go_wp2
     all_goals go_ret
     all_goals exact⟨false,rfl,by first|exact FW.out|exact FW.out.drewN _|exact FW.out.drew,zs⟩
    ·have e1:decide ((dl:Int) > 5000)=false:=zv
     have e2:decide (5000<(dl:Int))=false:=zv;by_cases h2:100<pl
     ·have e3:decide ((pl:Int) > 100)=true:=zv
      have e4:decide (100<(pl:Int))=true:=zv;go_wp2
      all_goals go_ret
      all_goals exact⟨false,rfl,by first|exact FW.out|exact FW.out.drewN _|exact FW.out.drew,zs⟩
     ·have e3:decide ((pl:Int) > 100)=false:=zv
      have e4:decide (100<(pl:Int))=false:=zv;go_wp2
      go_roundw;case rel=>exact⟨k+1,zw,by go_num,by first|exact FW.out|exact FW.out.drewN _|exact FW.out.drew,fun i hi=>by
       rcases HDL.out i hi with h'|h'
       ·exact HD.out i h'
       ·subst h'
        rw [HDN.out,HPN.out];omega⟩
      case measure=>simp [intOf];omega
   ·obtain rfl:n=k:=zw
    go_wp2
    go_ret;exact⟨true,rfl,FW.out,fun _=>⟨zw,HD.out⟩⟩
structure xn(w wr:World)(b9 k:Nat)(S:Nat->Prop)(H:Hd)(x:St)(av uv kv:Value):Prop where
 m:SI S wr H x
 r:RE S wr x av uv kv
 fx:Fine x
 al:x.all.length<=5000 * k
 nw:x.now<=k
 la:∀ b∈H.own,w.heap.size<=b
 b:Blk wr b9 41 (arE x av uv kv)
 nb:b9∉H.own
 ns:¬ S b9
 s0:∀ b,b<w.heap.size->S b
 f:Fr [] w wr
 n0:w.heap.size<=b9
theorem all_new(isn:Int)(c:Bool):(jf isn c).1.all=[]/\(jf isn c).1.now=0:=by
 unfold jf;cases c
 ·exact⟨rfl,rfl⟩
 ·exact⟨(jh _).1,(jh _).2⟩
theorem xn.step{w wr w2 w3:World}{b9 b12 k:Nat}{S S':Nat->Prop}{H H':Hd}{x y:St}{av uv kv a2 u2 k2:Value}(p:xn w wr b9 k S H x av uv kv){a:AC}(ha:AOk a)(hk:k<60)(hy:y=jc x a)(e:Ext wr S S')(lk:Hd.like wr H H')(m:SI S' w2 H' y)(r:RE S' w2 y a2 u2 k2)(f:Fr H.own wr w2)
  (f3:Fr [b9,b12] w2 w3) (h12:¬ S' b12/\b12∉H'.own/\w.heap.size<=b12) (B:Blk w3 b9 41 (arE y a2 u2 k2)):xn w w3 b9 (k+1) S' H' y a2 u2 k2:=by
 have n9:b9<wr.heap.size:=p.b.lt;have ns':¬ S' b9:=fun hs=>(e.2 _ hs).elim p.ns (fun h=>by omega);have nb':b9∉H'.own:=fun hb=>(lk.own _ hb).elim p.nb (fun h=>by omega);have hg:=qio x a;have hS:∀ z∈[b9,b12],¬ S' z:=fun z hz=>by simp at hz;rcases hz with rfl|rfl;exact ns';exact h12.1
 have hO:∀ z∈[b9,b12],z∉H'.own:=fun z hz=>by simp at hz;rcases hz with rfl|rfl;exact nb';exact h12.2.1
 have hp:∀ b,S' b->b<w3.heap.size:=fun b hb=>Nat.lt_of_lt_of_le (HP.zA m.hp b hb) f3.size;have al:=p.al;have nw:=p.nw;have hd:=ha.dl;refine⟨m.keep f3 hO hS (Ext.refl w2 S') hp,r.ext f3 hS (fun _ h=>h) hp,by rw [hy];exact qlm p.fx ha zw zw,?_,?_,fun b hb=>?_,B,nb',ns',fun b hb=>e.1 b (p.s0 b hb),?_,p.n0⟩
 ·rw [hy];have:=hg.all;omega
 ·rw [hy];have:=hg.now;omega
 ·rcases lk.own b hb with h|h
  ·exact p.la b h
  ·have:=p.f.size;omega
 ·exact (p.f.trans f (fun z hz => .inr (p.la z hz))).trans f3 (fun z hz => .inr (by simp at hz;rcases hz with rfl|rfl;exact p.n0;exact h12.2.2))
structure qfn(w wr wz:World)(b9 b12:Nat)(S S5:Nat->Prop)(H H5:Hd)(y:St)(a2 u2 k2:Value)(E9:Array Value):Prop where
 e:Ext wr S S5
 lk:Hd.like wr H H5
 m:SI S5 wz H5 y
 r:RE S5 wz y a2 u2 k2
 f:Fr H.own wr wz
 n12:¬ S5 b12/\b12∉H5.own/\w.heap.size<=b12
 B9:Blk wz b9 41 E9
 B12:Blk wz b12 41 (arE y a2 u2 k2)
 ne:b9≠b12
 nw:wr.heap.size<=b12
theorem mid_a{w wr wd w5 wz:World}{b9:Nat}{S S5:Nat->Prop}{H H5:Hd}{y:St}{a2 u2 k2:Value}{E9:Array Value}{o:Obj}(e:Ext wd S S5)(lk:Hd.like wd H H5)(m:SI S5 w5 H5 y)(r:RE S5 w5 y a2 u2 k2)(f:Fr H.own wd w5)(fd:Fr [] wr wd)(B9:Blk wr b9 41 E9)(hn:b9∉H.own)
  (hw:w.heap.size<=wr.heap.size) (Bz:Blk wz w5.heap.size 41 (arE y a2 u2 k2)) (Fz:Fr [w5.heap.size] (w5.alloc o) wz):qfn w wr wz b9 w5.heap.size S S5 H H5 y a2 u2 k2 E9:=by
 have fw6:Fr [] w5 wz:=((Fr.refl [] w5).alloc o).trans Fz (fun b hb => .inr (by simp at hb;omega));have h1:=fd.size;have h2:=f.size;have h7:Fr H.own wr wz:=((fd.mono zs).trans f (fun b hb => .inl hb)).trans fw6 zs;have n12:¬ S5 w5.heap.size:=fun hs=>by have:=r.pub _ hs;omega
 exact⟨kM e h1,⟨lk.g,lk.gw,lk.gc,lk.gh,fun b hb=>(lk.own b hb).imp id (fun h=>by omega)⟩,m.fr fw6,r.fr fw6,h7,⟨n12,fun hb=>by have:=m.lt _ hb;omega,zw⟩,B9.fr h7 hn,Bz,by have:=B9.lt;omega,zw⟩
theorem mid_b{w wr wd w5 wz:World}{b9:Nat}{S S5:Nat->Prop}{H H5:Hd}{y:St}{a2 u2 k2:Value}{E9:Array Value}{o:Obj}(e:Ext (wd.alloc o) S S5)(lk:Hd.like (wd.alloc o) H H5)(m:SI S5 w5 H5 y)(r:RE S5 w5 y a2 u2 k2)(f:Fr H.own (wd.alloc o) w5)(fd:Fr [] wr wd)(B9:Blk wr b9 41 E9)(hn:b9∉H.own)
  (hw:w.heap.size<=wr.heap.size) (hS:∀ b,S b->b<wr.heap.size) (hO:∀ b∈H.own,b<wr.heap.size) (Bz:Blk wz wd.heap.size 41 (arE y a2 u2 k2)) (Fz:Fr [wd.heap.size] w5 wz):qfn w wr wz b9 wd.heap.size S S5 H H5 y a2 u2 k2 E9:=by
 have fa:Fr [] wr (wd.alloc o):=fd.alloc o;have hz:(wd.alloc o).heap.size=wd.heap.size+1:=zs;have h1:=fd.size;have h2:=f.size;have h7:Fr H.own wr wz:=((fa.mono zs).trans f (fun b hb => .inl hb)).trans Fz (fun b hb => .inr (by simp at hb;omega));have n12:¬ S5 wd.heap.size:=fun hs=>(e.2 _ hs).elim (fun h=>by have:=hS _ h;omega) (fun h=>by omega);have o12:wd.heap.size∉H5.own:=fun hb=>(lk.own _ hb).elim (fun h=>by have:=hO _ h;omega) (fun h=>by omega);exact⟨kM e fa.size,⟨lk.g,lk.gw,lk.gc,lk.gh,fun b hb=>(lk.own b hb).imp id (fun h=>by omega)⟩,m.far Fz n12 (fun b hb h=>o12 (h▸hb)),r.far Fz n12,h7,⟨n12,o12,zw⟩,B9.fr h7 hn,Bz,by have:=B9.lt;omega,zw⟩
def qfo(w:World)(b9 g n:Nat)(s11:Value)(wr:World):Prop:=∃ k S H x av uv kv,k<=n/\s11 = .int .i64 (k:Nat)/\H.g=g/\xn w wr b9 k S H x av uv kv
structure Oth(w wr:World)(S:Nat->Prop)(H Ho:Hd)(xo:St):Prop where
 m:SI S wr Ho xo
 la:∀ b∈Ho.own,w.heap.size<=b
 ap:∀ b∈Ho.own,b∉H.own
theorem Oth.step{w wr w2:World}{S S':Nat->Prop}{H H' Ho:Hd}{x xo:St}(o:Oth w wr S H Ho xo)(m:SI S wr H x)(e:Ext wr S S')(lk:Hd.like wr H H')(f:Fr H.own wr w2)(hp:∀ b,S' b->b<w2.heap.size):Oth w w2 S' H' Ho xo:=
 ⟨o.m.keep f (fun y hy h=>o.ap y h hy) m.off e hp,o.la,fun b hb h=>(lk.own b h).elim (o.ap b hb) (fun h=>by have:=o.m.lt b hb;omega)⟩
theorem Oth.fr{w wr w2:World}{S:Nat->Prop}{H Ho:Hd}{xo:St}{O:List Nat}(o:Oth w wr S H Ho xo)(f:Fr O wr w2)(hO:∀ y∈O,y∉Ho.own)(hS:∀ y∈O,¬ S y):Oth w w2 S H Ho xo:=
 ⟨o.m.keep f hO hS (Ext.refl wr S) (fun b hb=>Nat.lt_of_lt_of_le (HP.zA o.m.hp b hb) f.size),o.la,o.ap⟩
def qjo(f:Nat->AC):Nat->St->St
 | 0,x=>x
 | k+1,x=>jc (qjo f k x) (f k)
theorem xn.step1{w wr w2 w3:World}{b9 k:Nat}{S S':Nat->Prop}{H H':Hd}{x y:St}{av uv kv a2 u2 k2:Value}(p:xn w wr b9 k S H x av uv kv){a:AC}(ha:AOk a)(hk:k<60)(hy:y=jc x a)(e:Ext wr S S')(lk:Hd.like wr H H')(m:SI S' w2 H' y)(r:RE S' w2 y a2 u2 k2)(f:Fr H.own wr w2)
  (f3:Fr [b9] w2 w3) (B:Blk w3 b9 41 (arE y a2 u2 k2)):xn w w3 b9 (k+1) S' H' y a2 u2 k2:=by
 have n9:b9<wr.heap.size:=p.b.lt;exact p.step ha hk hy e lk m r f (f3.mono zs) ⟨fun hs=>(e.2 _ hs).elim p.ns (fun h=>by omega),fun hb=>(lk.own _ hb).elim p.nb (fun h=>by omega),p.n0⟩ B
structure Mid(w wr:World)(b9 b14 k:Nat)(S:Nat->Prop)(Hs Hc Hd':Hd)(x y:St)(av uv kv a2 u2 k2:Value):Prop where
 p:xn w wr b14 k S Hc y a2 u2 k2
 s:Oth w wr S Hc Hs x
 d:Oth w wr S Hc Hd' x
 r:RE S wr x av uv kv
 b:Blk wr b9 41 (arE x av uv kv)
 nc:b9∉Hc.own
 ns:¬ S b9
 ne:b9≠b14
 bs:b9∉Hs.own/\b9∉Hd'.own/\b14∉Hs.own/\b14∉Hd'.own
theorem Mid.step{w wr w2 w3:World}{b9 b14 b16 k:Nat}{S S':Nat->Prop}{Hs Hc Hc' Hd':Hd}{x y z:St}{av uv kv a2 u2 k2 a3 u3 k3:Value}(q:Mid w wr b9 b14 k S Hs Hc Hd' x y av uv kv a2 u2 k2){a:AC}(ha:AOk a)(hk:k<60)(hz:z=jc y a)(e:Ext wr S S')(lk:Hd.like wr Hc Hc')(m:SI S' w2 Hc' z)(r:RE S' w2 z a3 u3 k3)(f:Fr Hc.own wr w2)
  (f3:Fr [b14,b16] w2 w3) (h16:¬ S' b16/\b16∉Hc'.own/\wr.heap.size<=b16) (B:Blk w3 b14 41 (arE z a3 u3 k3)):Mid w w3 b9 b14 (k+1) S' Hs Hc' Hd' x z av uv kv a3 u3 k3:=by
 have hzw:=q.p.f.size;have n14:b14<wr.heap.size:=q.p.b.lt;have n9:b9<wr.heap.size:=q.b.lt;have hp:∀ b,S' b->b<w2.heap.size:=HP.zA m.hp;have ns':¬ S' b14:=fun hs=>(e.2 _ hs).elim q.p.ns (fun h=>by omega);have n9':¬ S' b9:=fun hs=>(e.2 _ hs).elim q.ns (fun h=>by omega);have hS:∀ y∈[b14,b16],¬ S' y:=fun y hy=>by simp at hy;rcases hy with rfl|rfl;exact ns';exact h16.1
 have hOs:∀ y∈[b14,b16],y∉Hs.own:=fun y hy=>by
  simp at hy;rcases hy with rfl|rfl
  ·exact q.bs.2.2.1
  ·exact fun h=>by have:=q.s.m.lt _ h;omega
 have hOd:∀ y∈[b14,b16],y∉Hd'.own:=fun y hy=>by
  simp at hy;rcases hy with rfl|rfl
  ·exact q.bs.2.2.2
  ·exact fun h=>by have:=q.d.m.lt _ h;omega
 refine⟨q.p.step ha hk hz e lk m r f f3 ⟨h16.1,h16.2.1,zw⟩ B,(q.s.step q.p.m e lk f hp).fr f3 hOs hS,(q.d.step q.p.m e lk f hp).fr f3 hOd hS,?_,?_,fun h=>(lk.own _ h).elim q.nc (fun h=>by omega),n9',q.ne,q.bs⟩
 ·exact (q.r.ext f q.p.m.off e.1 hp).ext f3 hS (fun _ h=>h) (fun b hb=>Nat.lt_of_lt_of_le (hp b hb) f3.size)
 ·refine (q.b.fr f q.nc).fr f3 (fun hm=>?_)
  simp at hm;rcases hm with h|h
  ·exact q.ne h
  ·omega
theorem qlo{w wr w1 w2 w4:World}{b9 k:Nat}{S:Nat->Prop}{Hs Hc Hd':Hd}{x:St}{av uv kv:Value}(p:xn w wr b9 k S Hs x av uv kv)(c:SI S w1 Hc x)(fc:Fr [] wr w1)(lc:∀ b∈Hc.own,wr.heap.size<=b)(d:SI S w2 Hd' x)(fd:Fr [] w1 w2)(ld:∀ b∈Hd'.own,w1.heap.size<=b)
  (f4:Fr [w2.heap.size] (w2.alloc (.cells qy 41)) w4) (B:Blk w4 w2.heap.size 41 (arE x av uv kv)):Mid w w4 b9 w2.heap.size k S Hs Hc Hd' x x av uv kv av uv kv:=by
 have z1:=fc.size;have z2:=fd.size;have z0:=p.f.size;have n9:b9<wr.heap.size:=p.b.lt;have f12:Fr [] wr w2:=fc.trans fd zs;have fa:Fr [] w2 w4:=((Fr.refl [] w2).alloc (.cells qy 41)).trans f4 (fun b hb => .inr (by simp at hb;omega));have fw:Fr [] wr w4:=f12.trans fa zs;have hS:∀ b,S b->b<wr.heap.size:=HP.zA p.m.hp;have hs:=p.m.lt;have hc:=c.lt;have hd:=d.lt;exact⟨⟨(c.fr fd).fr fa,p.r.fr fw,p.fx,p.al,p.nw,fun b hb=>by have:=lc b hb;omega,B,fun h=>by have:=hc _ h;omega,fun h=>by have:=hS _ h;omega,p.s0,p.f.trans fw zs,zw⟩,
  ⟨p.m.fr fw,p.la,fun b hb h=>by have:=hs b hb;have:=lc b h;omega⟩,⟨d.fr fa,fun b hb=>by have:=ld b hb;omega,fun b hb h=>by have:=ld b hb;have:=hc b h;omega⟩,
  p.r.fr fw,p.b.fr fw zs,fun h=>by have:=lc _ h;omega,p.ns,zw,
  p.nb,fun h=>by have:=ld _ h;omega,fun h=>by have:=hs _ h;omega,fun h=>by have:=hd _ h;omega⟩
theorem Mid.turn{w wr:World}{b9 b14 k k0:Nat}{S:Nat->Prop}{Hs Hc Hd':Hd}{x y:St}{av uv kv a2 u2 k2:Value}(q:Mid w wr b9 b14 k S Hs Hc Hd' x y av uv kv a2 u2 k2)(fx:Fine x)(al:x.all.length<=5000 * k0)(nw:x.now<=k0)(n0:w.heap.size<=b9) :
  xn w wr b9 k0 S Hs x av uv kv/\Oth w wr S Hs Hc y:=
 ⟨⟨q.s.m,q.r,fx,al,nw,q.s.la,q.b,q.bs.1,q.ns,q.p.s0,q.p.f,n0⟩,⟨q.p.m,q.p.la,fun b hb h=>q.s.ap b h hb⟩⟩
end Go.Proofs.YtmgdbbbdhkfdmaaGreat
