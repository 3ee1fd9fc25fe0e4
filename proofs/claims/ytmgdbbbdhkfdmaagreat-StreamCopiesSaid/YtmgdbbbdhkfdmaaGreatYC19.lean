import Derived.Test.YtmgdbbbdhkfdmaaGreatYC8
import Derived.Deep.DeepCutAuto
import Derived.Test.YtmgdbbbdhkfdmaaGreatYC15
import Derived.Test.YtmgdbbbdhkfdmaaGreatYC12
import Derived.Deep.RegionHeldLaw
import Derived.Deep.RegionWith
import Derived.Test.YtmgdbbbdhkfdmaaGreatYC2
import Derived.Test.YtmgdbbbdhkfdmaaGreatYC0
set_option linter.unusedSimpArgs false
set_option linter.unusedVariables false
set_option maxHeartbeats 40000000
namespace Go.Proofs.YtmgdbbbdhkfdmaaGreat
set_option maxRecDepth 100000
open Go.RowKit Go.Deep
theorem qic(x:St)(p:Prt)(h:p.flags=1):zH x p=kU x p:=by unfold zH;rw [if_pos h]
theorem qld(x:St)(p:Prt)(h1:p.flags≠1)(h:p.ack≠add32 x.isn 1\/has p.flags 2=false):zH x p=(x,[]):=by unfold zH;rw [if_neg h1,if_pos h]
theorem qid(x:St)(p:Prt)(h:p.ack=add32 x.isn 1)(h3:p.flags=3):zH x p=(shows (zu { x with peer:=p.seq } p.win),[qJ (zu { x with peer:=p.seq } p.win)]):=by
 unfold zH;rw [if_neg zw,if_neg (by rw [h3];simp [h,has]),if_pos h3]
theorem qie(x:St)(p:Prt)(h:p.ack=add32 x.isn 1)(h3:p.flags=10):zH x p=(kS x true,[]):=by
 unfold zH;rw [if_neg zw,if_neg (by rw [h3];simp [h,has]),if_neg zw,if_pos h3]
theorem qgq(x:St)(p:Prt)(h:p.ack=add32 x.isn 1)(h2:has p.flags 2=true)(h1:p.flags≠1)(h3:p.flags≠3)(h10:p.flags≠10):zH x p=(x,[]):=by
 unfold zH;rw [if_neg h1,if_neg (by simp [h,h2]),if_neg h3,if_neg h10]
theorem qnm{S:Nat->Prop}{w:World}{H:Hd}{x:St}(m:SI S w H x)(ok:OkS x)(p:Prt)(okp:OkP p)(A:Option Addr)(c:Nat) :
  Calls Tryz.prog 52 #[ptr H.g,agP p (.slice A p.d.length c)] w (zS S w H (zH x p)):=by
 have v1:=qic x p;have vn:=qld x p;have va:=qid x p;have vr:=qie x p;have ve:=qgq x p;have hbit:=xW p.flags 2 okp.f0 okp.f1 zs;generalize zH x p=y at *
 obtain⟨fl,sq,ak,wi,d⟩:=p;dsimp only at *
 have hgl:=m.blk.lt;have f0:Fr [] w (w.alloc (.cells (arP ⟨fl,sq,ak,wi,d⟩ (.slice A d.length c)) 49)):=(Fr.refl [] w).alloc _;have b0:Blk (w.alloc (.cells (arP ⟨fl,sq,ak,wi,d⟩ (.slice A d.length c)) 49)) w.heap.size 49 (arP ⟨fl,sq,ak,wi,d⟩ (.slice A d.length c)):=Blk.new w _ _;have M:=hI m;have OK:=hI ok;have OKP:=hI okp;have V1:=hI v1;have VN:=hI vn;have VA:=hI va;have VR:=hI vr;have VE:=hI ve;have hr:IntKind.u32.wrap (x.isn+1)=add32 x.isn 1:=by rw [wrap32];rfl
 have hr':(x.isn+1) % 4294967296=add32 x.isn 1:=rfl;generalize hrr:add32 x.isn 1=r at *
 generalize h2:has fl 2=b2 at *
 have HB2:=hI h2;have HR:=hI hrr;clear m ok okp v1 vn va vr ve h2 hrr;by_cases h1:fl=1
 ·subst h1
  clear hbit;go_enter Tryz.func52,Tryz.ntmps52;go_upto_region 1 with fail
  generalize w.alloc (.cells (arP ⟨1,sq,ak,wi,d⟩ (.slice A d.length c)) 49)=w0 at *
  obtain⟨y0,y1,y2,y3,y4⟩:=cells5 b0;have F0:=hI f0;clear f0 b0;go_wp2_with fail
  refine (qay (M.out.fr F0.out) OK.out.hi (by have:=OK.out.hu;omega) ⟨1,sq,ak,wi,d⟩ A c).mono ?_;rintro e w2 ⟨S2,H2,v,L,rfl,hL,x2,l2,m2,p2,n2,f2⟩;have hP:zS S w H (kU x ⟨1,sq,ak,wi,d⟩) (.returned v) w2:=zS.of (Ext.refl w S) (Hd.like.rfl' w H) (F0.out.mono zs) ⟨S2,H2,v,L,rfl,hL,x2,l2,m2,p2,n2,f2⟩;have HP:=hI hP;clear hP hL x2 l2 m2 p2 n2 f2;go_wp2_with fail
  go_ret;rw [V1.out zt];exact HP.out
 ·have h1q:(fl == 1)=false:=by simpa using h1
  have h1d:decide (fl=1)=false:=by simpa using h1
  go_enter Tryz.func52,Tryz.ntmps52;go_upto_region 1 with fail
  generalize w.alloc (.cells (arP ⟨fl,sq,ak,wi,d⟩ (.slice A d.length c)) 49)=w0 at *
  obtain⟨y0,y1,y2,y3,y4⟩:=cells5 b0;have F0:=hI f0;have B0:=hI b0;have m0:=M.out.fr f0;have c13:=(qm m0.blk).c13;have g0:=Grew.cell y0;have g2:=Grew.cell y2;have g13:=Grew.cell c13;clear f0 b0 m0;go_upto_region 3 with fail
  by_cases ha:ak=r
  ·have HA:=hI ha
   subst ha;rcases Bool.eq_false_or_eq_true b2 with hb|hb
   ·have hbq:(bits BinOp.and IntKind.i64 fl 2 == 0)=false:=by rw [hb] at hbit;simpa using hbit
    have hbd:decide (bits BinOp.and IntKind.i64 fl 2=0)=false:=(by rw [hb] at hbit;simpa using hbit);refine qg zk zk ?_;repeat (go_big_quiet_step (fail))
    refine wpQuiet_nil ?_;intro w2 f2;have F2:=hI (F0.out.trans f2 zs);have b2':=B0.out.fr f2 zs;obtain⟨z0,z1,z2,z3,z4⟩:=cells5 b2';have m2:=M.out.fr F2.out;have hl2:=m2.blk.lt;have c2:=(qm m2.blk).c2;have q2:=m2.blk.frozen 2;have M2:=hI m2;clear f2 b2' m2 y0 y1 y2 y3 y4 g0 g2 g13 c13;by_cases h3:fl=3
    ·subst h3
     have ng:H.g≠w.heap.size:=zw;go_wp2_with fail
     have f3:Fr [H.g] w2 (w2.setCell ⟨H.g,2,none⟩ (.int .u32 sq)):=(Fr.refl [H.g] w2).setCell (p:=⟨H.g,2,none⟩) (.inl zs) _;have m3:=M2.out.set (w':=w2.setCell ⟨H.g,2,none⟩ (.int .u32 sq)) (x':={ x with peer:=sq }) f3 (by simpa using M2.out.blk.qO 2 (.int .u32 sq)) rfl rfl rfl rfl rfl;generalize w2.setCell ⟨H.g,2,none⟩ (.int .u32 sq)=w3 at *
     refine (qcf m3 wi 1000000000 (Int.le_refl _) OK.out.hw OK.out.hc OKP.out.w0 OKP.out.w1).mono ?_;rintro e w4 ⟨rfl,m4,f4⟩;have M4:=hI m4;have F4:Hid (Fr H.own w w4):=hI (((F2.out.mono zs).trans (f3.mono (O':=H.own) zh) (fun y hy => .inl hy)).trans (f4.mono (O':=H.own) zh) (fun y hy => .inl hy));clear m3 f3 m4 f4 z0 z1 z2 z3 z4 c2 q2;go_wp2_with fail
     refine (vG M4.out OK.out.hi (by have:=OK.out.hu;show x.unread.length<=100000;omega) (by show 0<=(Win.je x.win 0 wi).1.m;rw [qbf];have:=Win.Inv.bd OK.out.hw;omega) (by show (Win.je x.win 0 wi).1.m<=_;rw [qbf];have:=OK.out.hm;have:=OK.out.hl;omega)).mono ?_;rintro e w5 ⟨S5,A5,c5,rfl,x5,by5,m5,f5⟩;have hp:=jH (Ext.refl w S) (Hd.like.rfl' w H) F4.out (⟨S5,A5,c5,rfl,x5,by5,m5,f5⟩:qZ S w4 H _ _ (.returned (agP (qJ (zu { x with peer:=sq } wi)) (.slice A5 _ c5))) w5) rfl;have HP:=hI hp;clear hp x5 by5 m5 f5;go_wp2_with fail
     go_ret;rw [VA.out zt zt];exact HP.out
    ·have h3q:(fl == 3)=false:=by simpa using h3
     have h3d:decide (fl=3)=false:=(by simpa using h3);by_cases h10:fl=10
     ·subst h10
      go_wp2_with fail
      refine (xM M2.out true).mono ?_;rintro e w3 ⟨rfl,m3,f3⟩;have M3:=hI m3;have F3:=hI ((F2.out.mono zs).trans (f3.mono (O':=H.own) zh) (fun y hy => .inl hy));clear m3 f3;go_wp2_with fail
      go_ret;rw [VR.out zt zt];exact kJ M3.out F3.out
     ·have h10q:(fl == 10)=false:=by simpa using h10
      have h10d:decide (fl=10)=false:=(by simpa using h10);go_wp2_with fail
      go_ret;rw [VE.out zt (by first|exact hb|trivial) h1 h3 h10];exact kJ M2.out (F2.out.mono zs)
   ·have hbq:(bits BinOp.and IntKind.i64 fl 2 == 0)=true:=by rw [hb] at hbit;simpa using hbit
    have hbd:decide (bits BinOp.and IntKind.i64 fl 2=0)=true:=(by rw [hb] at hbit;simpa using hbit);refine qg zk zk ?_;repeat (go_big_quiet_step (fail))
    refine wpQuiet_nil ?_;intro w2 f2;have F2:=hI (F0.out.trans f2 zs);clear f2 y0 y1 y2 y3 y4 g0 g2 g13 c13;go_wp2_with fail
    go_ret;rw [VN.out h1 (.inr (by first|exact hb|trivial))];exact kJ (M.out.fr F2.out) (F2.out.mono zs)
  ·have haq:(ak == r)=false:=by simpa using ha
   have had:decide (ak=r)=false:=by simpa using ha
   have han:(ak != r)=true:=by simpa using ha
   refine qg zk zk ?_;repeat (go_big_quiet_step (fail))
   refine wpQuiet_nil ?_;intro w2 f2;have F2:=hI (F0.out.trans f2 zs);clear f2 y0 y1 y2 y3 y4 g0 g2 g13 c13;go_wp2_with fail
   go_ret;rw [VN.out h1 (.inl ha)];exact kJ (M.out.fr F2.out) (F2.out.mono zs)
theorem qle(x:St)(p:Prt)(h:has p.flags 8=true):zN x p=(if p.seq=ku x then kS x true else x,[]):=by unfold zN;rw [if_pos h]
theorem qlf(x:St)(p:Prt)(h8:has p.flags 8=false)(h:has p.flags 1=true):zN x p=(shows x,[qJ x]):=by unfold zN;rw [if_neg (by simp [h8]),if_pos h]
theorem qnn(x:St)(p:Prt)(h8:has p.flags 8=false)(h1:has p.flags 1=false)(h:has p.flags 2=false):zN x p=(x,[]):=by unfold zN;rw [if_neg (by simp [h8]),if_neg (by simp [h1]),if_pos (by simp [h])]
def qac(x:St)(p:Prt):St:=if (zy x p).ended then zy x p else jv (zy x p) p
theorem qlg(x:St)(p:Prt)(h8:has p.flags 8=false)(h1:has p.flags 1=false)(h:has p.flags 2=true):zN x p=if p.d.length=0/\has p.flags 4=false then (qac x p,[]) else (shows (qac x p),[qJ (qac x p)]):=by
 unfold zN qac;rw [if_neg (by simp [h8]),if_neg (by simp [h1]),if_neg (by simp [h])]
theorem qfh{S:Nat->Prop}{w:World}{H:Hd}{x:St}(m:SI S w H x)(ok:OkS x)(p:Prt)(okp:OkP p)(dv:Value)(T:Nat->Prop)(hd:Byt T w dv p.d)(hT:∀ b,T b->b∉H.own/\b<w.heap.size) :
  Calls Tryz.prog 54 #[ptr H.g,agP p dv] w (zS S w H (zN x p)):=by
 have e8:=qle x p;have e1:=qlf x p;have e0:=qnn x p;have ea:=qlg x p;have hacks:=qdp x p;generalize zN x p=y at *
 obtain⟨fl,sq,ak,wi,d⟩:=p;dsimp only at *
 obtain⟨A,c,rfl,_,_⟩:=hd.form;have hgl:=m.blk.lt;have f0:Fr [] w (w.alloc (.cells (arP ⟨fl,sq,ak,wi,d⟩ (.slice A d.length c)) 49)):=(Fr.refl [] w).alloc _;have b0:Blk (w.alloc (.cells (arP ⟨fl,sq,ak,wi,d⟩ (.slice A d.length c)) 49)) w.heap.size 49 (arP ⟨fl,sq,ak,wi,d⟩ (.slice A d.length c)):=Blk.new w _ _;have M:=hI m;have OK:=hI ok;have OKP:=hI okp;have HD:=hI hd;have HT:=hI hT;have E8:=hI e8;have E1:=hI e1;have E0:=hI e0;have EA:=hI ea;have HAS:=hI hacks;have HN8:Hid (∀ W,W.cell? ⟨w.heap.size,0,none⟩=some (.int .i64 fl)->∀ n,n=1\/n=2\/n=4\/n=8->Calls Tryz.prog 91 #[.int .i64 n,ptr w.heap.size] W fun e w'=>e = .returned (.bool (has fl n))/\W=w'):=hI (fun W hc n hn=>qkp fl n _ W hc okp.f0 okp.f1 hn);clear m ok okp hd hT e8 e1 e0 ea hacks;generalize h8:has fl 8=b8 at *
 generalize h1:has fl 1=b1 at *
 generalize h2:has fl 2=b2 at *
 generalize h4:has fl 4=b4 at *
 have H8:=hI h8;have H1:=hI h1;have H2:=hI h2;have H4:=hI h4;clear h8 h1 h2 h4;go_enter Tryz.func54,Tryz.ntmps54;go_upto_region 1 with fail
 generalize w.alloc (.cells (arP ⟨fl,sq,ak,wi,d⟩ (.slice A d.length c)) 49)=w0 at *
 obtain⟨y0,y1,y2,y3,y4⟩:=cells5 b0;have F0:=hI f0;have B0:=hI b0;clear f0 b0;go_wp2_with fail
 refine (HN8.out w0 y0 8 zs).mono ?_;rw [H8.out];rintro e w1 ⟨rfl,rfl⟩;cases b8
 ·go_wp2_with fail
  refine (HN8.out w0 y0 1 zs).mono ?_;rw [H1.out];rintro e w1 ⟨rfl,rfl⟩;cases b1
  ·go_wp2_with fail
   refine (HN8.out w0 y0 2 zs).mono ?_;rw [H2.out];rintro e w1 ⟨rfl,rfl⟩;cases b2
   ·go_wp2_with fail
    go_ret;rw [E0.out zt zt zt];exact kJ (M.out.fr F0.out) (F0.out.mono zs)
   ·go_wp2_with fail
    have hac:=acks_si (M.out.fr F0.out) ⟨fl,sq,ak,wi,d⟩ A c 1000000000 (Int.le_refl _) OK.out.hw OK.out.hc OK.out.hm OK.out.hl OK.out.n0 OK.out.n1 OK.out.s0 OK.out.s1 OKP.out.w0 OKP.out.w1;have hx2:qac x ⟨fl,sq,ak,wi,d⟩=if (zy x ⟨fl,sq,ak,wi,d⟩).ended then zy x ⟨fl,sq,ak,wi,d⟩ else jv (zy x ⟨fl,sq,ak,wi,d⟩) ⟨fl,sq,ak,wi,d⟩:=rfl;generalize zy x ⟨fl,sq,ak,wi,d⟩=x1 at *
    refine hac.mono ?_;clear hac;rintro e w2 ⟨H1',rfl,lk,m2,f2⟩;have f2':Fr H.own w0 w2:=f2.mono (fun y hy=>by simp at hy;rcases hy with h|h|h <;> simp [Hd.own,h]);have c12:w2.cell? ⟨H.g,12,none⟩=some (.bool x1.ended):=(by rw [<- lk.g];exact (qm m2.blk).c12);have hown:∀ y∈H.own,y<w.heap.size:=M.out.lt;have b2':=B0.out.fr f2' (fun hm=>by have:=hown _ hm;omega);obtain⟨s1,s2,s3,s4,s5⟩:=HAS.out;have fz0:w.heap.size<=w0.heap.size:=F0.out.size;have lkw:Hd.like w H H1':=⟨lk.g,lk.gw,lk.gc,lk.gh,fun b hb=>(lk.own b hb).imp id (fun h=>by omega)⟩;have fw2:Fr H.own w w2:=(F0.out.mono zs).trans f2' (fun y hy => .inl hy);have hib:Inv x1.heap:=(by rw [s1];exact OK.out.hi);have hub:x1.unread.length<=1024:=(by rw [s2];exact OK.out.hu);have hwb:=Win.Inv.bd OK.out.hw;have hmb:=OK.out.hm;have hlb:=OK.out.hl;have hdat:Calls Tryz.prog 93 #[ptr H.g,agP ⟨fl,sq,ak,wi,d⟩ (.slice A d.length c)] w2 (qgb S w2 H1' (jv x1 ⟨fl,sq,ak,wi,d⟩)):=by
     have h:=data_si m2 hib ⟨fl,sq,ak,wi,d⟩ (.slice A d.length c) T (HD.out.fr fw2 (fun y hy hs=>(HT.out y hs).1 hy)) (fun b hb hm=>by
      rcases lkw.own b hm with h|h
      ·exact (HT.out b hb).1 h
      ·have:=(HT.out b hb).2;omega) OKP.out.d1 hub OKP.out.f0 OKP.out.f1
     rwa [lk.g] at h
    have hdo:=data_ok x1 ⟨fl,sq,ak,wi,d⟩ hib hub OKP.out.d1;have HDat:=hI hdat;obtain⟨y0,y1,y2,y3,y4⟩:=cells5 b2';have HX20:=hI hx2;have M2:=hI m2;have LKW:=hI lkw;have FW2:=hI fw2;have BB2:=hI b2';have HDO:=hI hdo;have BBX:Hid (w.heap.size∉H1'.own):=hI (fun hm=>by
     have h1:=m2.lt _ hm;rcases lk.own _ hm with h|h
     ·have:=hown _ h;omega
     ·have:=B0.out.lt;omega)
    clear f2 f2' lk m2 lkw fw2 b2' hdat hx2 hdo hwb hmb;rcases Bool.eq_false_or_eq_true x1.ended with hen|hen
    ·rw [hen] at c12
     have hx2:qac x ⟨fl,sq,ak,wi,d⟩=x1:=(by rw [HX20.out,if_pos hen]);have HX2:=hI hx2;clear hx2;have hi2:=hib;have hu2:x1.unread.length<=100000:=zw;have hm2:0<=x1.win.m:=(by rw [s4];have:=Win.Inv.bd OK.out.hw;omega);have hm2':x1.win.m<=4611686018427387000:=(by rw [s4];have:=OK.out.hm;omega);have b3:=BB2.out;have lk3:=LKW.out;have m3:=M2.out;have f3:=FW2.out;have e3:Ext w S S:=Ext.refl w S;have B3:=hI b3;obtain⟨y0,y1,y2,y3,y4⟩:=cells5 b3;have LK3:=hI lk3;have EX3:=hI e3;have M3:=hI m3;have FF3:=hI f3;have hans:Calls Tryz.prog 59 #[ptr H.g] w2 (qZ S w2 H1' (shows x1) (qJ x1)):=by
      have h:=vG m3 hi2 hu2 hm2 hm2'
      rwa [lk3.g] at h
     have HAns:=hI hans;clear hans b3 lk3 e3 m3 f3;rcases Nat.eq_zero_or_pos d.length with hd0|hd0
     ·have hdq:((d.length:Int) == 0)=true:=by simp [hd0]
      have hdd:decide ((d.length:Int)=0)=true:=(by simp [hd0]);go_wp2_with fail
      refine (HN8.out w2 y0 4 zs).mono ?_;rw [H4.out];rintro e w4 ⟨rfl,rfl⟩;cases b4
      ·go_wp2_with fail
       go_ret;rw [EA.out zt zt zt,if_pos ⟨hd0,zt⟩,HX2.out];exact⟨S,H1',_,[],rfl,rfl,EX3.out,LK3.out,M3.out,Pr.nil,zb,FF3.out⟩
      ·have hif:¬ (d.length=0/\true=false):=zs
       go_wp2_with fail
       refine HAns.out.mono ?_;rintro e w5 ⟨S5,A5,c5,rfl,x5,by5,m5,f5⟩;have hp:=jH EX3.out LK3.out FF3.out (⟨S5,A5,c5,rfl,x5,by5,m5,f5⟩:qZ S w2 H1' _ _ (.returned (agP (qJ x1) (.slice A5 _ c5))) w5) rfl;have HP:=hI hp;clear hp x5 by5 m5 f5;go_wp2_with fail
       go_ret;rw [EA.out zt zt zt,if_neg hif,HX2.out];exact HP.out
     ·have hif:¬ (d.length=0/\b4=false):=fun h=>by have:=h.1;omega
      have hdz:(d.length:Int)≠0:=zw;have hdq:((d.length:Int) == 0)=false:=(by simpa using hdz);have hdd:decide ((d.length:Int)=0)=false:=(by simpa using hdz);go_wp2_with fail
      refine HAns.out.mono ?_;rintro e w5 ⟨S5,A5,c5,rfl,x5,by5,m5,f5⟩;have hp:=jH EX3.out LK3.out FF3.out (⟨S5,A5,c5,rfl,x5,by5,m5,f5⟩:qZ S w2 H1' _ _ (.returned (agP (qJ x1) (.slice A5 _ c5))) w5) rfl;have HP:=hI hp;clear hp x5 by5 m5 f5;go_wp2_with fail
      go_ret;rw [EA.out zt zt zt,if_neg hif,HX2.out];exact HP.out
    ·rw [hen] at c12
     go_wp2_with fail
     refine HDat.out.mono ?_;rintro e w3 ⟨S3,H3,rfl,x3,lk',m3,f3'⟩;have hz2:=FW2.out.size;have lk3:=LKW.out.trans hz2 lk';have e3:=kM x3 hz2;have f3:Fr H.own w w3:=FW2.out.trans f3' (fun y hy=>LKW.out.own y hy);have b3:=BB2.out.fr f3' (fun hm=>by
      rcases LKW.out.own _ hm with h|h
      ·have:=hown _ h;omega
      ·exact BBX.out hm)
     have hx2:qac x ⟨fl,sq,ak,wi,d⟩=jv x1 ⟨fl,sq,ak,wi,d⟩:=(by rw [HX20.out,if_neg (by simp [hen])]);have HX2:=hI hx2;obtain⟨hi2,hu2,hw2⟩:=HDO.out;have hm2:0<=(jv x1 ⟨fl,sq,ak,wi,d⟩).win.m:=(by rw [hw2,s4];have:=Win.Inv.bd OK.out.hw;omega);have hm2':(jv x1 ⟨fl,sq,ak,wi,d⟩).win.m<=4611686018427387000:=(by rw [hw2,s4];have:=OK.out.hm;omega);generalize jv x1 ⟨fl,sq,ak,wi,d⟩=x2 at *
     clear hx2 lk' f3' x3 y0 y1 y2 y3 y4 c12;have B3:=hI b3;obtain⟨y0,y1,y2,y3,y4⟩:=cells5 b3;have LK3:=hI lk3;have EX3:=hI e3;have M3:=hI m3;have FF3:=hI f3;have hans:Calls Tryz.prog 59 #[ptr H.g] w3 (qZ S3 w3 H3 (shows x2) (qJ x2)):=by
      have h:=vG m3 hi2 hu2 hm2 hm2'
      rwa [lk3.g] at h
     have HAns:=hI hans;clear hans b3 lk3 e3 m3 f3;rcases Nat.eq_zero_or_pos d.length with hd0|hd0
     ·have hdq:((d.length:Int) == 0)=true:=by simp [hd0]
      have hdd:decide ((d.length:Int)=0)=true:=(by simp [hd0]);go_wp2_with fail
      refine (HN8.out w3 y0 4 zs).mono ?_;rw [H4.out];rintro e w4 ⟨rfl,rfl⟩;cases b4
      ·go_wp2_with fail
       go_ret;rw [EA.out zt zt zt,if_pos ⟨hd0,zt⟩,HX2.out];exact⟨S3,H3,_,[],rfl,rfl,EX3.out,LK3.out,M3.out,Pr.nil,zb,FF3.out⟩
      ·have hif:¬ (d.length=0/\true=false):=zs
       go_wp2_with fail
       refine HAns.out.mono ?_;rintro e w5 ⟨S5,A5,c5,rfl,x5,by5,m5,f5⟩;have hp:=jH EX3.out LK3.out FF3.out (⟨S5,A5,c5,rfl,x5,by5,m5,f5⟩:qZ S3 w3 H3 _ _ (.returned (agP (qJ x2) (.slice A5 _ c5))) w5) rfl;have HP:=hI hp;clear hp x5 by5 m5 f5;go_wp2_with fail
       go_ret;rw [EA.out zt zt zt,if_neg hif,HX2.out];exact HP.out
     ·have hif:¬ (d.length=0/\b4=false):=fun h=>by have:=h.1;omega
      have hdz:(d.length:Int)≠0:=zw;have hdq:((d.length:Int) == 0)=false:=(by simpa using hdz);have hdd:decide ((d.length:Int)=0)=false:=(by simpa using hdz);go_wp2_with fail
      refine HAns.out.mono ?_;rintro e w5 ⟨S5,A5,c5,rfl,x5,by5,m5,f5⟩;have hp:=jH EX3.out LK3.out FF3.out (⟨S5,A5,c5,rfl,x5,by5,m5,f5⟩:qZ S3 w3 H3 _ _ (.returned (agP (qJ x2) (.slice A5 _ c5))) w5) rfl;have HP:=hI hp;clear hp x5 by5 m5 f5;go_wp2_with fail
      go_ret;rw [EA.out zt zt zt,if_neg hif,HX2.out];exact HP.out
  ·go_wp2_with fail
   refine (vG (M.out.fr F0.out) OK.out.hi (by have:=OK.out.hu;omega) (by have:=Win.Inv.bd OK.out.hw;omega) (by have:=OK.out.hm;have:=OK.out.hl;omega)).mono ?_;rintro e w2 ⟨S2,A2,c2,rfl,x2,by2,m2,f2⟩;have hp:=jH (Ext.refl w S) (Hd.like.rfl' w H) (F0.out.mono zs) (⟨S2,A2,c2,rfl,x2,by2,m2,f2⟩:qZ S w0 H _ _ (.returned (agP (qJ x) (.slice A2 _ c2))) w2) rfl;have HP:=hI hp;clear hp x2 by2 m2 f2;go_wp2_with fail
   go_ret;rw [E1.out zt zt];exact HP.out
 ·have m0:=M.out.fr F0.out
  have g1:=Grew.cell y1;have hA:∀ q:Grew w0,Calls Tryz.prog 64 #[ptr H.g] q.W fun e w'=>e = .returned (.int .u32 (ku x))/\∃ q':Grew w0,w'=q'.W:=fun q=>qG (y9 (m0.fr q.fr) OK.out.hi);have HA:=hI hA;have M0:=hI m0;clear hA m0;generalize haw:ku x=aw at *
  by_cases hq:sq=aw
  ·subst hq
   go_upto_region 3 with fail
   refine qg zk zk ?_;repeat (go_big_quiet_step ((go_at_call 64;exact HA.out _)))
   refine wpQuiet_nil ?_;intro w2 f2;have F2:=hI (F0.out.trans f2 zs);clear f2;go_wp2_with fail
   refine (xM (M.out.fr F2.out) true).mono ?_;rintro e w3 ⟨rfl,m3,f3⟩;have M3:=hI m3;have F3:=hI ((F2.out.mono zs).trans (f3.mono (O':=H.own) zh) (fun y hy => .inl hy));clear m3 f3;go_wp2_with fail
   go_ret;rw [E8.out zt,if_pos zt];exact kJ M3.out F3.out
  ·go_upto_region 3 with fail
   refine qg zk zk ?_;repeat (go_big_quiet_step ((go_at_call 64;exact HA.out _)))
   refine wpQuiet_nil ?_;intro w2 f2;have F2:=hI (F0.out.trans f2 zs);clear f2;go_wp2_with fail
   go_ret;rw [E8.out zt,if_neg hq];exact kJ (M.out.fr F2.out) (F2.out.mono zs)
theorem qno{B:Int}{v:Win.Wn}(h:Win.Inv B v)(r:Int)(hB:65536<=B):Win.Inv B (Win.je v 0 r).1:=by
 have hb:=Win.Inv.bd h;unfold Win.je
 (repeat' split)
 ·exact h
 ·exact h
 ·exact h
 ·show 0<=max v.a 0/\max v.a 0<=max v.s 0/\max v.s 0<=v.m/\v.m<=max v.l (0+r)+1/\max v.l (0+r)<=B
  omega
theorem qnp{x:St}(ok:OkS x)(r:Int):OkS (zu x r):=
 ⟨ok.hi,ok.hu,qno ok.hw r zw,Rto.yC ok.hc,by show (Win.je x.win 0 r).1.m<=_;rw [qbf];exact ok.hm,ok.hl,ok.n0,ok.n1,ok.s0,ok.s1⟩
theorem qif(x:St)(p:Prt)(h:p.flags=1):jl x p=kU x p:=by unfold jl;rw [if_pos h]
theorem qig(x:St)(p:Prt)(h1:p.flags=3)(h2:p.seq=x.peer)(h3:p.ack=add32 x.isn 1):jl x p=(shows (zu x p.win),[qJ (zu x p.win)]):=by unfold jl;rw [if_neg zw,if_pos ⟨h1,h2,h3⟩]
theorem qih(x:St)(p:Prt)(h1:p.flags≠1)(hg:¬ (p.flags=3/\p.seq=x.peer/\p.ack=add32 x.isn 1))(h8:has p.flags 8=true):jl x p=zN x p:=by unfold jl;rw [if_neg h1,if_neg hg,if_pos h8]
theorem qlh(x:St)(p:Prt)(h1:p.flags≠1)(hg:¬ (p.flags=3/\p.seq=x.peer/\p.ack=add32 x.isn 1))(h8:has p.flags 8=false)(h:has p.flags 1=true\/has p.flags 2=false\/p.ack≠add32 x.isn 1):jl x p=(x,[]):=by unfold jl;rw [if_neg h1,if_neg hg,if_neg (by simp [h8]),if_pos h]
theorem qgr(x:St)(p:Prt)(h1:p.flags≠1)(hg:¬ (p.flags=3/\p.seq=x.peer/\p.ack=add32 x.isn 1))(h8:has p.flags 8=false)(ha:has p.flags 1=false)(hb:has p.flags 2=true)(hc:p.ack=add32 x.isn 1):jl x p=zN (zu x p.win) p:=by unfold jl;rw [if_neg h1,if_neg hg,if_neg (by simp [h8]),if_neg (by simp [ha,hb,hc])]
theorem qnq{S:Nat->Prop}{w:World}{H:Hd}{x:St}(m:SI S w H x)(ok:OkS x)(p:Prt)(okp:OkP p)(A:Option Addr)(c:Nat)(T:Nat->Prop)(hd:Byt T w (.slice A p.d.length c) p.d)(hT:∀ b,T b->b∉H.own/\b<w.heap.size) :
  Calls Tryz.prog 53 #[ptr H.g,agP p (.slice A p.d.length c)] w (zS S w H (jl x p)):=by
 have v1:=qif x p;have va:=qig x p;have vr:=qih x p;have vn:=qlh x p;have vo:=qgr x p;have hbit8:=xW p.flags 8 okp.f0 okp.f1 zs;have hbit1:=xW p.flags 1 okp.f0 okp.f1 zs;have hbit2:=xW p.flags 2 okp.f0 okp.f1 zs;generalize jl x p=y at *
 obtain⟨fl,sq,ak,wi,d⟩:=p;dsimp only at *
 have hgl:=m.blk.lt;have f0:Fr [] w (w.alloc (.cells (arP ⟨fl,sq,ak,wi,d⟩ (.slice A d.length c)) 49)):=(Fr.refl [] w).alloc _;have b0:Blk (w.alloc (.cells (arP ⟨fl,sq,ak,wi,d⟩ (.slice A d.length c)) 49)) w.heap.size 49 (arP ⟨fl,sq,ak,wi,d⟩ (.slice A d.length c)):=Blk.new w _ _;have M:=hI m;have OK:=hI ok;have OKP:=hI okp;have HD:=hI hd;have HT:=hI hT;have V1:=hI v1;have VA:=hI va;have VR:=hI vr;have VN:=hI vn;have VO:=hI vo;have hr:IntKind.u32.wrap (x.isn+1)=add32 x.isn 1:=by rw [wrap32];rfl
 have hr':(x.isn+1) % 4294967296=add32 x.isn 1:=rfl;generalize hrr:add32 x.isn 1=r at *
 generalize hpe:x.peer=pe at *
 have HR:=hI hrr;have HPE:=hI hpe;clear m ok okp hd hT v1 va vr vn vo hrr hpe;by_cases h1:fl=1
 ·subst h1
  clear hbit8 hbit1 hbit2;go_enter Tryz.func53,Tryz.ntmps53;go_upto_region 1 with fail
  generalize w.alloc (.cells (arP ⟨1,sq,ak,wi,d⟩ (.slice A d.length c)) 49)=w0 at *
  obtain⟨y0,y1,y2,y3,y4⟩:=cells5 b0;have F0:=hI f0;clear f0 b0;go_wp2_with fail
  refine (qay (M.out.fr F0.out) OK.out.hi (by have:=OK.out.hu;omega) ⟨1,sq,ak,wi,d⟩ A c).mono ?_;rintro e w2 ⟨S2,H2,v,L,rfl,hL,x2,l2,m2,p2,n2,f2⟩;have hP:zS S w H (kU x ⟨1,sq,ak,wi,d⟩) (.returned v) w2:=zS.of (Ext.refl w S) (Hd.like.rfl' w H) (F0.out.mono zs) ⟨S2,H2,v,L,rfl,hL,x2,l2,m2,p2,n2,f2⟩;have HP:=hI hP;clear hP hL x2 l2 m2 p2 n2 f2;go_wp2_with fail
  go_ret;rw [V1.out zt];exact HP.out
 ·have h1q:(fl == 1)=false:=by simpa using h1
  have h1d:decide (fl=1)=false:=by simpa using h1
  go_enter Tryz.func53,Tryz.ntmps53;go_upto_region 1 with fail
  generalize w.alloc (.cells (arP ⟨fl,sq,ak,wi,d⟩ (.slice A d.length c)) 49)=w0 at *
  obtain⟨y0,y1,y2,y3,y4⟩:=cells5 b0;have F0:=hI f0;have B0:=hI b0;have m0:=M.out.fr f0;have c13:=(qm m0.blk).c13;have c2:=(qm m0.blk).c2;rw [HPE.out] at c2;have g0:=Grew.cell y0;have g1:=Grew.cell y1;have g2:=Grew.cell y2;have g13:=Grew.cell c13;have gc2:=Grew.cell c2;clear f0 b0 m0;go_upto_region 3 with fail
  by_cases hG:fl=3/\sq=pe/\ak=r
  ·obtain⟨ha,hb,hc⟩:=hG
   subst ha hb hc;clear hbit8 hbit1 hbit2;refine qg zk zk ?_;repeat (go_big_quiet_step (fail))
   refine wpQuiet_nil ?_;intro w2 f2;have F2:=hI (F0.out.trans f2 zs);have b2':=B0.out.fr f2 zs;obtain⟨z0,z1,z2,z3,z4⟩:=cells5 b2';have m2:=M.out.fr F2.out;have hl2:=m2.blk.lt;have M2:=hI m2;have c16:=(qm m2.blk).c16;clear f2 b2' m2 y0 y1 y2 y3 y4 g0 g1 g2 g13 gc2 c13 c2;go_wp2_with fail
   refine (qcf M2.out wi 1000000000 (Int.le_refl _) OK.out.hw OK.out.hc OKP.out.w0 OKP.out.w1).mono ?_;rintro e w4 ⟨rfl,m4,f4⟩;have M4:=hI m4;have F4:Hid (Fr H.own w w4):=hI ((F2.out.mono zs).trans (f4.mono (O':=H.own) zh) (fun y hy => .inl hy));clear m4 f4 z0 z1 z2 z3 z4;go_wp2_with fail
   refine (vG M4.out OK.out.hi (by have:=OK.out.hu;show x.unread.length<=100000;omega) (by show 0<=(Win.je x.win 0 wi).1.m;rw [qbf];have:=Win.Inv.bd OK.out.hw;omega) (by show (Win.je x.win 0 wi).1.m<=_;rw [qbf];have:=OK.out.hm;have:=OK.out.hl;omega)).mono ?_;rintro e w5 ⟨S5,A5,c5,rfl,x5,by5,m5,f5⟩;have hp:=jH (Ext.refl w S) (Hd.like.rfl' w H) F4.out (⟨S5,A5,c5,rfl,x5,by5,m5,f5⟩:qZ S w4 H _ _ (.returned (agP (qJ (zu x wi)) (.slice A5 _ c5))) w5) rfl;have HP:=hI hp;clear hp x5 by5 m5 f5;go_wp2_with fail
   go_ret;rw [VA.out zt zt zt];exact HP.out
  ·have HG:=hI hG
   rcases (show fl≠3\/(fl=3/\sq≠pe)\/(fl=3/\sq=pe/\ak≠r) by
    by_cases h:fl=3
    ·by_cases h':sq=pe
     ·exact .inr (.inr ⟨h,h',fun h''=>hG ⟨h,h',h''⟩⟩)
     ·exact .inr (.inl ⟨h,h'⟩)
    ·exact .inl h) with hx|⟨hx,hx2⟩|⟨hx,hx2,hx3⟩
   ·have q1:(fl == 3)=false:=by simpa using hx
    have q2:decide (fl=3)=false:=(by simpa using hx);refine qg zk zk ?_;repeat (go_big_quiet_step (fail))
    refine wpQuiet_nil ?_;intro w2 f2;have F2:=hI (F0.out.trans f2 zs);have b2':=B0.out.fr f2 zs;obtain⟨z0,z1,z2,z3,z4⟩:=cells5 b2';have m2:=M.out.fr F2.out;have hl2:=m2.blk.lt;have M2:=hI m2;have FR2:=hI f2;clear f2 b2' m2 y0 y1 y2 y3 y4 g0 g1 g2 g13 gc2 c13 c2;rcases Bool.eq_false_or_eq_true (has fl 8) with h8|h8
    ·have e8:(bits BinOp.and IntKind.i64 fl 8 != 0)=true:=by rw [h8] at hbit8;simpa using hbit8
     clear hbit8 hbit1 hbit2;go_wp2_with fail
     refine (qfh M2.out OK.out ⟨fl,sq,ak,wi,d⟩ OKP.out (.slice A d.length c) T (HD.out.fr F2.out zs) (fun b hb=>⟨(HT.out b hb).1,Nat.lt_of_lt_of_le (HT.out b hb).2 F2.out.size⟩)).mono ?_;rintro e w3 ⟨S2,H2,v,L,rfl,hL,x2,l2,m3,p2,n2,f3⟩;have hP:zS S w H (zN x ⟨fl,sq,ak,wi,d⟩) (.returned v) w3:=zS.of (Ext.refl w S) (Hd.like.rfl' w H) (F2.out.mono zs) ⟨S2,H2,v,L,rfl,hL,x2,l2,m3,p2,n2,f3⟩;have HP:=hI hP;clear hP hL x2 l2 m3 p2 n2 f3;go_wp2_with fail
     go_ret;rw [VR.out h1 HG.out h8];exact HP.out
    ·have e8:(bits BinOp.and IntKind.i64 fl 8 != 0)=false:=by rw [h8] at hbit8;simpa using hbit8
     rcases Bool.eq_false_or_eq_true (has fl 1) with hb1|hb1
     ·have e1:(bits BinOp.and IntKind.i64 fl 1 != 0)=true:=by rw [hb1] at hbit1;simpa using hbit1
      have k13:=Grew.cell (qm M2.out.blk).c13;have k0:=Grew.cell z0;have k2:=Grew.cell z2;go_upto_region 8 with fail
      refine qg zk zk ?_;repeat (go_big_quiet_step (fail))
      refine wpQuiet_nil ?_;intro w3 f3;have F3:=hI (F2.out.trans f3 zs);clear f3 k13 k0 k2;go_wp2_with fail
      go_ret;rw [VN.out (by first|exact h1|decide) HG.out (by first|exact h8|decide) (.inl hb1)];exact kJ (M.out.fr F3.out) (F3.out.mono zs)
     ·have e1:(bits BinOp.and IntKind.i64 fl 1 != 0)=false:=by rw [hb1] at hbit1;simpa using hbit1
      rcases Bool.eq_false_or_eq_true (has fl 2) with hb2|hb2
      ·have e2:(bits BinOp.and IntKind.i64 fl 2 == 0)=false:=by rw [hb2] at hbit2;simpa using hbit2
       have e2':decide (bits BinOp.and IntKind.i64 fl 2=0)=false:=(by rw [hb2] at hbit2;simpa using hbit2);by_cases ha:ak=r
       ·subst ha
        have k13:=Grew.cell (qm M2.out.blk).c13;have k0:=Grew.cell z0;have k2:=Grew.cell z2;go_upto_region 8 with fail
        refine qg zk zk ?_;repeat (go_big_quiet_step (fail))
        refine wpQuiet_nil ?_;intro w3 f3;have BB3:=hI ((B0.out.fr (Fr.trans (O':=[]) (by first|exact FR2.out) f3 zs) zs));have F3:=hI (F2.out.trans f3 zs);clear f3 k13 k0 k2;obtain⟨t0,t1,t2,t3,t4⟩:=cells5 BB3.out;have hl3:H.g<(w3).heap.size:=Nat.lt_of_lt_of_le hgl F3.out.size;have ok2:=qnp OK.out wi;go_wp2_with fail
        refine (qcf (M.out.fr F3.out) wi 1000000000 (Int.le_refl _) OK.out.hw OK.out.hc OKP.out.w0 OKP.out.w1).mono ?_;rintro e w4 ⟨rfl,m4,f4⟩;have F4:Hid (Fr H.own w w4):=hI ((F3.out.mono zs).trans (f4.mono (O':=H.own) zh) (fun y hy => .inl hy));have b4:=BB3.out.fr f4 (fun hm=>by have:=M.out.lt w.heap.size (by simp at hm;rcases hm with h|h|h <;> simp [Hd.own,h]);omega);obtain⟨z0,z1,z2,z3,z4⟩:=cells5 b4;have M4:=hI m4;have OK2:=hI ok2;clear m4 f4 b4 ok2;go_wp2_with fail
        refine (qfh M4.out OK2.out ⟨fl,sq,ak,wi,d⟩ OKP.out (.slice A d.length c) T (HD.out.fr F4.out (fun y hy hs=>(HT.out y hs).1 hy)) (fun b hb=>⟨(HT.out b hb).1,Nat.lt_of_lt_of_le (HT.out b hb).2 F4.out.size⟩)).mono ?_;rintro e w5 ⟨S2,H2,v,L,rfl,hL,x2,l2,m5,p2,n2,f5⟩;have hP:zS S w H (zN (zu x wi) ⟨fl,sq,ak,wi,d⟩) (.returned v) w5:=zS.of (Ext.refl w S) (Hd.like.rfl' w H) F4.out ⟨S2,H2,v,L,rfl,hL,x2,l2,m5,p2,n2,f5⟩;have HP:=hI hP;clear hP hL x2 l2 m5 p2 n2 f5;go_wp2_with fail
        go_ret;rw [VO.out h1 HG.out h8 hb1 hb2 zt];exact HP.out
       ·have ea:(ak != r)=true:=by simpa using ha
        have ea':(ak == r)=false:=(by simpa using ha);have k13:=Grew.cell (qm M2.out.blk).c13;have k0:=Grew.cell z0;have k2:=Grew.cell z2;go_upto_region 8 with fail
        refine qg zk zk ?_;repeat (go_big_quiet_step (fail))
        refine wpQuiet_nil ?_;intro w3 f3;have F3:=hI (F2.out.trans f3 zs);clear f3 k13 k0 k2;go_wp2_with fail
        go_ret;rw [VN.out (by first|exact h1|decide) HG.out (by first|exact h8|decide) (.inr (.inr ha))];exact kJ (M.out.fr F3.out) (F3.out.mono zs)
      ·have e2:(bits BinOp.and IntKind.i64 fl 2 == 0)=true:=by rw [hb2] at hbit2;simpa using hbit2
       have e2':decide (bits BinOp.and IntKind.i64 fl 2=0)=true:=(by rw [hb2] at hbit2;simpa using hbit2);have k13:=Grew.cell (qm M2.out.blk).c13;have k0:=Grew.cell z0;have k2:=Grew.cell z2;go_upto_region 8 with fail
       refine qg zk zk ?_;repeat (go_big_quiet_step (fail))
       refine wpQuiet_nil ?_;intro w3 f3;have F3:=hI (F2.out.trans f3 zs);clear f3 k13 k0 k2;go_wp2_with fail
       go_ret;rw [VN.out (by first|exact h1|decide) HG.out (by first|exact h8|decide) (.inr (.inl hb2))];exact kJ (M.out.fr F3.out) (F3.out.mono zs)
   ·subst hx
    have q1:(sq == pe)=false:=(by simpa using hx2);have q2:decide (sq=pe)=false:=(by simpa using hx2);refine qg zk zk ?_;repeat (go_big_quiet_step (fail))
    refine wpQuiet_nil ?_;intro w2 f2;have F2:=hI (F0.out.trans f2 zs);have b2':=B0.out.fr f2 zs;obtain⟨z0,z1,z2,z3,z4⟩:=cells5 b2';have m2:=M.out.fr F2.out;have hl2:=m2.blk.lt;have M2:=hI m2;have hb8:bits BinOp.and IntKind.i64 3 8=0:=zd;have hb1:bits BinOp.and IntKind.i64 3 1=1:=zd;have hb2:bits BinOp.and IntKind.i64 3 2=2:=zd;clear hbit8 hbit1 hbit2 f2 b2' m2 y0 y1 y2 y3 y4 g0 g1 g2 g13 gc2 c13 c2;have k13:=Grew.cell (qm M2.out.blk).c13;have k0:=Grew.cell z0;have k2:=Grew.cell z2;go_upto_region 8 with fail
    refine qg zk zk ?_;repeat (go_big_quiet_step (fail))
    refine wpQuiet_nil ?_;intro w3 f3;have F3:=hI (F2.out.trans f3 zs);clear f3 k13 k0 k2;go_wp2_with fail
    go_ret;rw [VN.out (by first|exact h1|decide) HG.out (by first|exact h8|decide) (.inl zd)];exact kJ (M.out.fr F3.out) (F3.out.mono zs)
   ·subst hx
    have q1:(ak == r)=false:=(by simpa using hx3);have q2:decide (ak=r)=false:=(by simpa using hx3);have q3:(sq == pe)=true:=(by simpa using hx2);have q4:decide (sq=pe)=true:=(by simpa using hx2);refine qg zk zk ?_;repeat (go_big_quiet_step (fail))
    refine wpQuiet_nil ?_;intro w2 f2;have F2:=hI (F0.out.trans f2 zs);have b2':=B0.out.fr f2 zs;obtain⟨z0,z1,z2,z3,z4⟩:=cells5 b2';have m2:=M.out.fr F2.out;have hl2:=m2.blk.lt;have M2:=hI m2;have hb8:bits BinOp.and IntKind.i64 3 8=0:=zd;have hb1:bits BinOp.and IntKind.i64 3 1=1:=zd;have hb2:bits BinOp.and IntKind.i64 3 2=2:=zd;clear hbit8 hbit1 hbit2 f2 b2' m2 y0 y1 y2 y3 y4 g0 g1 g2 g13 gc2 c13 c2;have k13:=Grew.cell (qm M2.out.blk).c13;have k0:=Grew.cell z0;have k2:=Grew.cell z2;go_upto_region 8 with fail
    refine qg zk zk ?_;repeat (go_big_quiet_step (fail))
    refine wpQuiet_nil ?_;intro w3 f3;have F3:=hI (F2.out.trans f3 zs);clear f3 k13 k0 k2;go_wp2_with fail
    go_ret;rw [VN.out (by first|exact h1|decide) HG.out (by first|exact h8|decide) (.inl zd)];exact kJ (M.out.fr F3.out) (F3.out.mono zs)
theorem qgs(f:Int)(h0:0<=f)(h1:f<=15)(h2:f≠2)(h6:f≠6):(bits BinOp.andNot IntKind.i64 f 4 != 2)=true:=by
 have hf:f=0\/f=1\/f=3\/f=4\/f=5\/f=7\/f=8\/f=9\/f=10\/f=11\/f=12\/f=13\/f=14\/f=15:=zw;rcases hf with rfl|rfl|rfl|rfl|rfl|rfl|rfl|rfl|rfl|rfl|rfl|rfl|rfl|rfl <;> decide
theorem qli(x:St)(p:Prt)(h:x.broken=true\/¬ (p.flags=2\/p.flags=6)\/(has p.flags 4=false/\p.d.length=0)):jm x p=(x,[]):=by unfold jm;rw [if_pos h]
theorem qii(x:St)(p:Prt)(h:¬ (x.broken=true\/¬ (p.flags=2\/p.flags=6)\/(has p.flags 4=false/\p.d.length=0))):jm x p=(shows x,[qJ x]):=by unfold jm;rw [if_neg h]
theorem qnr{S:Nat->Prop}{w:World}{H:Hd}{x:St}(m:SI S w H x)(ok:OkS x)(p:Prt)(okp:OkP p)(A:Option Addr)(c:Nat) :
  Calls Tryz.prog 55 #[ptr H.g,agP p (.slice A p.d.length c)] w (zS S w H (jm x p)):=by
 have vn:=qli x p;have vy:=qii x p;have hab:=qgs p.flags okp.f0 okp.f1;generalize jm x p=y at *
 obtain⟨fl,sq,ak,wi,d⟩:=p;dsimp only at *
 have hgl:=m.blk.lt;have f0:Fr [] w (w.alloc (.cells (arP ⟨fl,sq,ak,wi,d⟩ (.slice A d.length c)) 49)):=(Fr.refl [] w).alloc _;have b0:Blk (w.alloc (.cells (arP ⟨fl,sq,ak,wi,d⟩ (.slice A d.length c)) 49)) w.heap.size 49 (arP ⟨fl,sq,ak,wi,d⟩ (.slice A d.length c)):=Blk.new w _ _;have hans:=vG (m.fr f0) ok.hi (by have:=ok.hu;omega) (by have:=Win.Inv.bd ok.hw;omega) (by have:=ok.hm;have:=ok.hl;omega);have c1:=(qm (m.fr f0).blk).c1;have M:=hI m;have VN:=hI vn;have VY:=hI vy;have HAns:=hI hans;have hab':=hI hab;clear m ok okp vn vy hans hab;rcases Bool.eq_false_or_eq_true x.broken with hb|hb
 ·rw [hb] at c1
  go_enter Tryz.func55,Tryz.ntmps55;go_upto_region 1 with fail
  generalize w.alloc (.cells (arP ⟨fl,sq,ak,wi,d⟩ (.slice A d.length c)) 49)=w0 at *
  go_wp2_with fail
  go_ret;rw [VN.out (.inl hb)];exact kJ (M.out.fr f0) (f0.mono zs)
 ·rw [hb] at c1
  by_cases h26:fl=2\/fl=6
  ·rcases h26 with rfl|rfl
   ·have e1:bits BinOp.andNot IntKind.i64 2 4=2:=zd
    have e2:bits BinOp.and IntKind.i64 2 4=0:=zd;rcases Nat.eq_zero_or_pos d.length with hd0|hd0
    ·have e3:((d.length:Int) == 0)=true:=by simp [hd0]
     have e4:decide ((d.length:Int)=0)=true:=(by simp [hd0]);have HD0:=hI hd0;clear hd0;go_enter Tryz.func55,Tryz.ntmps55;go_upto_region 1 with fail
     generalize w.alloc (.cells (arP ⟨2,sq,ak,wi,d⟩ (.slice A d.length c)) 49)=w0 at *
     obtain⟨y0,y1,y2,y3,y4⟩:=cells5 b0;have F0:=hI f0;clear f0 b0;go_wp2_with fail
     go_ret;rw [VN.out (.inr (.inr ⟨zd,HD0.out⟩))];exact kJ (M.out.fr F0.out) (F0.out.mono zs)
    ·have hdz:(d.length:Int)≠0:=zw
     have e3:((d.length:Int) == 0)=false:=(by simpa using hdz);have e4:decide ((d.length:Int)=0)=false:=(by simpa using hdz);have hnn:¬ (x.broken=true\/¬ ((2:Int)=2\/(2:Int)=6)\/(has 2 4=false/\d.length=0)):=by
      rintro (h|h|h)
      ·rw [hb] at h;cases h
      ·exact h (.inl rfl)
      ·have:=h.2;omega
     have HN:=hI hnn;clear hnn;go_enter Tryz.func55,Tryz.ntmps55;go_upto_region 1 with fail
     generalize w.alloc (.cells (arP ⟨2,sq,ak,wi,d⟩ (.slice A d.length c)) 49)=w0 at *
     obtain⟨y0,y1,y2,y3,y4⟩:=cells5 b0;have F0:=hI f0;clear f0 b0;go_wp2_with fail
     refine HAns.out.mono ?_;rintro e w5 ⟨S5,A5,c5,rfl,x5,by5,m5,f5⟩;have hp:=jH (Ext.refl w S) (Hd.like.rfl' w H) (F0.out.mono zs) (⟨S5,A5,c5,rfl,x5,by5,m5,f5⟩:qZ S w0 H _ _ (.returned (agP (qJ x) (.slice A5 _ c5))) w5) rfl;have HP:=hI hp;clear hp x5 by5 m5 f5;go_wp2_with fail
     go_ret;rw [VY.out HN.out];exact HP.out
   ·have e1:bits BinOp.andNot IntKind.i64 6 4=2:=zd
    have e2:bits BinOp.and IntKind.i64 6 4=4:=zd;have hnn:¬ (x.broken=true\/¬ ((6:Int)=2\/(6:Int)=6)\/(has 6 4=false/\d.length=0)):=by
     rintro (h|h|h)
     ·rw [hb] at h;cases h
     ·exact h (.inr rfl)
     ·exact absurd h.1 zd
    have HN:=hI hnn;clear hnn;go_enter Tryz.func55,Tryz.ntmps55;go_upto_region 1 with fail
    generalize w.alloc (.cells (arP ⟨6,sq,ak,wi,d⟩ (.slice A d.length c)) 49)=w0 at *
    obtain⟨y0,y1,y2,y3,y4⟩:=cells5 b0;have F0:=hI f0;clear f0 b0;go_wp2_with fail
    refine HAns.out.mono ?_;rintro e w5 ⟨S5,A5,c5,rfl,x5,by5,m5,f5⟩;have hp:=jH (Ext.refl w S) (Hd.like.rfl' w H) (F0.out.mono zs) (⟨S5,A5,c5,rfl,x5,by5,m5,f5⟩:qZ S w0 H _ _ (.returned (agP (qJ x) (.slice A5 _ c5))) w5) rfl;have HP:=hI hp;clear hp x5 by5 m5 f5;go_wp2_with fail
    go_ret;rw [VY.out HN.out];exact HP.out
  ·have e1:=hab'.out (fun h=>h26 (.inl h)) (fun h=>h26 (.inr h))
   go_enter Tryz.func55,Tryz.ntmps55;go_upto_region 1 with fail
   generalize w.alloc (.cells (arP ⟨fl,sq,ak,wi,d⟩ (.slice A d.length c)) 49)=w0 at *
   obtain⟨y0,y1,y2,y3,y4⟩:=cells5 b0;have F0:=hI f0;clear f0 b0;go_wp2_with fail
   go_ret;rw [VN.out (.inr (.inl h26))];exact kJ (M.out.fr F0.out) (F0.out.mono zs)
def xq(S:Nat->Prop)(w:World)(H:Hd)(r:St × List Prt × Int)(e:Ending)(w':World):Prop:=∃ v,e = .returned (.tuple #[v, .int .i64 r.2.2])/\zS S w H (r.1,r.2.1) (.returned v) w'
theorem qad(x:St)(p:Prt):(kU x p).2.length<=1:=by unfold kU;split <;> simp
theorem qgt(x:St)(p:Prt):(zN x p).2.length<=1:=by
 unfold zN
 (repeat' split) <;> (try simp) <;> (dsimp only;split <;> simp)
theorem qdv(x:St)(p:Prt):(qV x p).2.length<=1:=by
 unfold qV;split
 ·exact qad x p
 split
 ·unfold zH;(repeat' split) <;> first|exact qad x p|simp
 split
 ·unfold jl;(repeat' split) <;> first|exact qad x p|exact qgt _ p|simp
 split
 ·exact qgt x p
 ·unfold jm;split <;> simp
theorem qcx{S:Nat->Prop}{w w1 w2:World}{H H1:Hd}{r:St × List Prt}{S1:Nat->Prop}{v1:Value}{L1:List (Prt × Value)}{e:Ending}{R:St × List Prt}(hL:L1.map (·.1)=r.2)(x1:Ext w S S1)(lk:Hd.like w H H1)(n1:∀ b∈ob v1,w.heap.size<=b/\¬ S1 b)(f1:Fr H.own w w1)
  (h:qcu S1 w1 H1 v1 L1 R e w2):zS S w H (R.1,r.2++R.2) e w2:=by
 obtain⟨S2,v2,L2,he,hL2,x2,m2,p2,n2,f2⟩:=h;have hz:=f1.size;refine⟨S2,H1,v2,L2,he,by rw [hL2,hL],x1.trans hz x2,lk,m2,p2,fun b hb=>?_,f1.trans f2 (fun y hy=>?_)⟩
 ·obtain⟨q1,q2⟩:=n2 b hb
  refine⟨?_,q2⟩;rcases q1 with q|q
  ·exact (n1 b q).1
  ·omega
 ·rcases List.mem_append.1 hy with h|h
  ·exact .inr (n1 y h).1
  ·exact lk.own y h
theorem qgu(x:St)(p:Prt)(h:p.flags<0\/15<p.flags\/64<p.d.length):zF x p=(x,[],2):=by unfold zF;rw [if_pos h]
theorem qdw(x:St)(p:Prt)(h:¬ (p.flags<0\/15<p.flags\/64<p.d.length)):zF x p=((qU (qV x p).1).1,(qV x p).2++(qU (qV x p).1).2,0):=by unfold zF;rw [if_neg h]
abbrev handler(a:Int):Nat:=if a=1 then 51 else if a=2 then 52 else if a=3 then 53 else if a=4 then 54 else 55
theorem qij{S:Nat->Prop}{w:World}{H:Hd}{x:St}(m:SI S w H x)(ok:Ok x)(p:Prt)(okp:OkP p)(A:Option Addr)(c:Nat)(T:Nat->Prop)(hd:Byt T w (.slice A p.d.length c) p.d)(hT:∀ b,T b->b∉H.own/\b<w.heap.size) :
  Calls Tryz.prog (handler x.at_) #[ptr H.g,agP p (.slice A p.d.length c)] w (zS S w H (qV x p)):=by
 have h1:=ok.at0;have h5:=ok.at5;unfold handler qV;split
 ·exact qay m ok.s.hi (by have:=ok.s.hu;omega) p A c
 split
 ·exact qnm m ok.s p okp A c
 split
 ·exact qnq m ok.s p okp A c T hd hT
 split
 ·exact qfh m ok.s p okp _ T hd hT
 ·exact qnr m ok.s p okp A c
theorem yN{S S2:Nat->Prop}{w wc w2 w3:World}{H H2:Hd}{y:St × List Prt}{v2:Value}{L2:List (Prt × Value)}{e:Ending}(fc:Fr [] w wc)(hL:L2.map (·.1)=y.2)(x2:Ext wc.drew S S2)(lk:Hd.like wc.drew H H2)(n2:∀ b∈ob v2,wc.drew.heap.size<=b/\¬ S2 b)(f2:Fr H.own wc.drew w2)
  (h:qcu S2 w2 H2 v2 L2 (qU y.1) e w3):zS S w H ((qU y.1).1,y.2++(qU y.1).2) e w3:=by
 have hz:w.heap.size<=wc.drew.heap.size:=fc.size;exact qcx hL (kM x2 hz) ⟨lk.g,lk.gw,lk.gc,lk.gh,fun b hb=>(lk.own b hb).imp id (fun h=>by omega)⟩ (fun b hb=>⟨by have:=(n2 b hb).1;omega,(n2 b hb).2⟩) ((fc.drew.mono zs).trans f2 (fun y hy => .inl hy)) h
abbrev arF(g:Nat):Array Value:=#[.nilFunc, .func (.func 51) #[ptr g] #[], .func (.func 52) #[ptr g] #[], .func (.func 53) #[ptr g] #[], .func (.func 54) #[ptr g] #[], .func (.func 55) #[ptr g] #[]]
theorem qfi{S:Nat->Prop}{w:World}{H:Hd}{x:St}(m:SI S w H x)(ok:Ok x)(p:Prt)(w0:0<=p.win)(w1:p.win<65536)(A:Option Addr)(c:Nat)(T:Nat->Prop)(hd:Byt T w (.slice A p.d.length c) p.d)(hT:∀ b,T b->b∉H.own/\b<w.heap.size) :
  Calls Tryz.prog 16 #[ptr H.g,agP p (.slice A p.d.length c)] w (xq S w H (zF x p)):=by
 have vn:=qgu x p;have vy:=qdw x p;have hcl:=qdv x p;have hok2:p.d.length<=64->Ok (qV x p).1:=fun h=>ok.comes p zw;have hha:∀(W:World) (f:Fr [] w W),0<=p.flags->p.flags<=15->p.d.length<=64->Calls Tryz.prog (handler x.at_) #[ptr H.g,agP p (.slice A p.d.length c)] W (zS S W H (qV x p)):=fun W f h1 h2 h3=>
  qij (m.fr f) ok p ⟨h1,h2,zw,w0,w1⟩ A c T (hd.fr f zs) (fun b hb=>⟨(hT b hb).1,Nat.lt_of_lt_of_le (hT b hb).2 f.size⟩)
 generalize hcv:zF x p=r at *
 generalize hcs:qV x p=y at *
 obtain⟨fl,sq,ak,wi,d⟩:=p;dsimp only at *
 have hgl:=m.blk.lt;have f0:Fr [] w (w.alloc (.cells (arP ⟨fl,sq,ak,wi,d⟩ (.slice A d.length c)) 49)):=(Fr.refl [] w).alloc _;have b0:Blk (w.alloc (.cells (arP ⟨fl,sq,ak,wi,d⟩ (.slice A d.length c)) 49)) w.heap.size 49 (arP ⟨fl,sq,ak,wi,d⟩ (.slice A d.length c)):=Blk.new w _ _;have M:=hI m;have OK:=hI ok;have VN:=hI vn;have VY:=hI vy;have HA:=hI hha;have HCL:=hI hcl;have HOK2:=hI hok2;clear m ok vn vy hha hd hT hcl hok2 hcv hcs;have c16:=(qm (M.out.fr f0).blk).c16;have c0:=(qm (M.out.fr f0).blk).c0;go_enter Tryz.func16,Tryz.ntmps16;go_wp2_with fail
 refine qP 0 rfl ?_;go_upto_region 1 with fail
 generalize w.alloc (.cells (arP ⟨fl,sq,ak,wi,d⟩ (.slice A d.length c)) 49)=wa at *
 obtain⟨y0,y1,y2,y3,y4⟩:=cells5 b0;go_wp2_with fail
 refine (jY H.g H.gw _ (alk c16 _)).mono ?_;rintro e w' ⟨rfl,rfl⟩;have fb:Fr [] w (wa.alloc (.cells #[.nilFunc, .nilFunc, .nilFunc, .nilFunc, .nilFunc, .nilFunc] 105)):=f0.alloc _;have bb:Blk (wa.alloc (.cells #[.nilFunc, .nilFunc, .nilFunc, .nilFunc, .nilFunc, .nilFunc] 105)) wa.heap.size 105 #[.nilFunc, .nilFunc, .nilFunc, .nilFunc, .nilFunc, .nilFunc]:=Blk.new wa _ _;have b1:=b0.alloc (.cells #[.nilFunc, .nilFunc, .nilFunc, .nilFunc, .nilFunc, .nilFunc] 105);have hb6:w.heap.size<wa.heap.size:=b0.lt;have c0:=alk c0 (.cells #[.nilFunc, .nilFunc, .nilFunc, .nilFunc, .nilFunc, .nilFunc] 105);generalize wa.alloc (.cells #[.nilFunc, .nilFunc, .nilFunc, .nilFunc, .nilFunc, .nilFunc] 105)=wb at *
 obtain⟨y0,y1,y2,y3,y4⟩:=cells5 b1;generalize hbk:wa.heap.size=bk at *
 have FB:=hI fb;have BB:=hI bb;have B1:=hI b1;clear fb b1 f0 b0 c16 hbk;by_cases h0:fl<0
 ·have d0:decide (fl<0)=true:=by simpa using h0
  go_wp2_with fail
  apply wp_goto;refine ja _ _ ?_;go_wp2
  rw [Exit.noGoto_ret];go_ret2
  rw [VN.out (.inl h0)];exact⟨_,rfl,kJ (M.out.fr FB.out) (FB.out.mono zs)⟩
 have d0:decide (fl<0)=false:=by simpa using h0
 by_cases h15:15<fl
 ·have d1:decide (15<fl)=true:=by simpa using h15
  have d1':decide (fl > 15)=true:=by simpa using h15
  go_wp2_with fail
  apply wp_goto;refine ja _ _ ?_;go_wp2
  rw [Exit.noGoto_ret];go_ret2
  rw [VN.out (.inr (.inl h15))];exact⟨_,rfl,kJ (M.out.fr FB.out) (FB.out.mono zs)⟩
 have d1:decide (15<fl)=false:=by simpa using h15
 have d1':decide (fl > 15)=false:=by simpa using h15
 by_cases h64:64<d.length
 ·have d2:decide (64<(d.length:Int))=true:=zv
  have d2':decide ((d.length:Int) > 64)=true:=zv;go_wp2_with fail
  apply wp_goto;refine ja _ _ ?_;go_wp2
  rw [Exit.noGoto_ret];go_ret2
  rw [VN.out (.inr (.inr h64))];exact⟨_,rfl,kJ (M.out.fr FB.out) (FB.out.mono zs)⟩
 have d2:decide (64<(d.length:Int))=false:=zv;have d2':decide ((d.length:Int) > 64)=false:=zv;have hVY:=VY.out zw;have hHA:=fun W f=>HA.out W f zw zw zw;have hok2:=HOK2.out zw;clear VY HA VN HOK2;have HVY:=hI hVY;have HHA:=hI hHA;have OK2:=hI hok2;clear hVY hHA hok2;have BBk:=hI bb;clear bb;go_upto_region 7 with ((with_reducible refine qi 105 (.tmp 6) ?_);refine qc rfl 105 (.tmp 6) (.tmp 33) rfl bk 105 #[.nilFunc, .nilFunc, .nilFunc, .nilFunc, .nilFunc, .nilFunc] (arF H.g) rfl rfl BBk.out rfl zk zo ?_;intro wc bc fc)
 have nbk:bk≠w.heap.size:=zw;have FC:Hid (Fr [] w wc):=hI (FB.out.trans fc (fun y hy => .inr (by simp at hy;omega)));have b2:=B1.out.fr fc zv;obtain⟨y0,y1,y2,y3,y4⟩:=cells5 b2;have c0:wc.cell? ⟨H.g,0,none⟩=some (.int .i64 x.at_):=(qm (M.out.fr FC.out).blk).c0;have hat0:=OK.out.at0;have hat5:=OK.out.at5;have B2:=hI b2;have BC:=hI bc;clear b2 bc fc BBk FB B1;obtain hat|hat|hat|hat|hat:x.at_=1\/x.at_=2\/x.at_=3\/x.at_=4\/x.at_=5:=zw;all_goals
  rw [hat] at c0;rw [hat] at HHA;clear hat hat0 hat5
 ·have k1:wc.cell? ⟨bk,1,none⟩=some (.func (.func 51) #[ptr H.g] #[]):=by simpa using BC.out.cell 1
  have hc:∀ W,Fr [] wc W->Calls Tryz.prog 51 #[ptr H.g,agP ⟨fl,sq,ak,wi,d⟩ (.slice A d.length c)] W (zS S W H y):=fun W f=>HHA.out W (FC.out.trans f zs);have HC:=hI hc;clear hc
  go_region_with (first
    | (go_at_call 51;refine (HC.out _ (Fr.refl [] wc).drew).mono ?_;rintro e w2 ⟨S2,H2,v2,L2,rfl,hL2,x2,lk2,m2,p2,n2,f2⟩;have hse:=xI m2 OK2.out.s p2 (fun b hb=>(n2 b hb).2) (by have h1:=HCL.out;rw [<- hL2,List.length_map] at h1;omega);rw [lk2.g] at hse;have HSE:=hI hse;have X2:=hI x2;have LK2:=hI lk2;have N2:=hI n2;have F2:=hI f2;have HL2:=hI hL2;clear hse x2 lk2 m2 p2 n2 f2 hL2)|(go_at_call 56;refine HSE.out.mono ?_;rintro e w3 ⟨S3,v3,L3,rfl,hp3⟩;have HP3:Hid (zS S w H ((qU y.1).1,y.2++(qU y.1).2) (.returned v3) w3):=hI (yN FC.out HL2.out X2.out LK2.out N2.out F2.out ⟨S3,v3,L3,rfl,hp3⟩);clear hp3))
  all_goals
   go_wp2_with fail
   rw [vZ];go_ret2
   rw [HVY.out];exact⟨_,rfl,HP3.out⟩
 ·have k1:wc.cell? ⟨bk,2,none⟩=some (.func (.func 52) #[ptr H.g] #[]):=by simpa using BC.out.cell 2
  have hc:∀ W,Fr [] wc W->Calls Tryz.prog 52 #[ptr H.g,agP ⟨fl,sq,ak,wi,d⟩ (.slice A d.length c)] W (zS S W H y):=fun W f=>HHA.out W (FC.out.trans f zs);have HC:=hI hc;clear hc
  go_region_with (first
    | (go_at_call 52;refine (HC.out _ (Fr.refl [] wc).drew).mono ?_;rintro e w2 ⟨S2,H2,v2,L2,rfl,hL2,x2,lk2,m2,p2,n2,f2⟩;have hse:=xI m2 OK2.out.s p2 (fun b hb=>(n2 b hb).2) (by have h1:=HCL.out;rw [<- hL2,List.length_map] at h1;omega);rw [lk2.g] at hse;have HSE:=hI hse;have X2:=hI x2;have LK2:=hI lk2;have N2:=hI n2;have F2:=hI f2;have HL2:=hI hL2;clear hse x2 lk2 m2 p2 n2 f2 hL2)|(go_at_call 56;refine HSE.out.mono ?_;rintro e w3 ⟨S3,v3,L3,rfl,hp3⟩;have HP3:Hid (zS S w H ((qU y.1).1,y.2++(qU y.1).2) (.returned v3) w3):=hI (yN FC.out HL2.out X2.out LK2.out N2.out F2.out ⟨S3,v3,L3,rfl,hp3⟩);clear hp3))
  all_goals
   go_wp2_with fail
   rw [vZ];go_ret2
   rw [HVY.out];exact⟨_,rfl,HP3.out⟩
 ·have k1:wc.cell? ⟨bk,3,none⟩=some (.func (.func 53) #[ptr H.g] #[]):=by simpa using BC.out.cell 3
  have hc:∀ W,Fr [] wc W->Calls Tryz.prog 53 #[ptr H.g,agP ⟨fl,sq,ak,wi,d⟩ (.slice A d.length c)] W (zS S W H y):=fun W f=>HHA.out W (FC.out.trans f zs);have HC:=hI hc;clear hc
  go_region_with (first
    | (go_at_call 53;refine (HC.out _ (Fr.refl [] wc).drew).mono ?_;rintro e w2 ⟨S2,H2,v2,L2,rfl,hL2,x2,lk2,m2,p2,n2,f2⟩;have hse:=xI m2 OK2.out.s p2 (fun b hb=>(n2 b hb).2) (by have h1:=HCL.out;rw [<- hL2,List.length_map] at h1;omega);rw [lk2.g] at hse;have HSE:=hI hse;have X2:=hI x2;have LK2:=hI lk2;have N2:=hI n2;have F2:=hI f2;have HL2:=hI hL2;clear hse x2 lk2 m2 p2 n2 f2 hL2)|(go_at_call 56;refine HSE.out.mono ?_;rintro e w3 ⟨S3,v3,L3,rfl,hp3⟩;have HP3:Hid (zS S w H ((qU y.1).1,y.2++(qU y.1).2) (.returned v3) w3):=hI (yN FC.out HL2.out X2.out LK2.out N2.out F2.out ⟨S3,v3,L3,rfl,hp3⟩);clear hp3))
  all_goals
   go_wp2_with fail
   rw [vZ];go_ret2
   rw [HVY.out];exact⟨_,rfl,HP3.out⟩
 ·have k1:wc.cell? ⟨bk,4,none⟩=some (.func (.func 54) #[ptr H.g] #[]):=by simpa using BC.out.cell 4
  have hc:∀ W,Fr [] wc W->Calls Tryz.prog 54 #[ptr H.g,agP ⟨fl,sq,ak,wi,d⟩ (.slice A d.length c)] W (zS S W H y):=fun W f=>HHA.out W (FC.out.trans f zs);have HC:=hI hc;clear hc
  go_region_with (first
    | (go_at_call 54;refine (HC.out _ (Fr.refl [] wc).drew).mono ?_;rintro e w2 ⟨S2,H2,v2,L2,rfl,hL2,x2,lk2,m2,p2,n2,f2⟩;have hse:=xI m2 OK2.out.s p2 (fun b hb=>(n2 b hb).2) (by have h1:=HCL.out;rw [<- hL2,List.length_map] at h1;omega);rw [lk2.g] at hse;have HSE:=hI hse;have X2:=hI x2;have LK2:=hI lk2;have N2:=hI n2;have F2:=hI f2;have HL2:=hI hL2;clear hse x2 lk2 m2 p2 n2 f2 hL2)|(go_at_call 56;refine HSE.out.mono ?_;rintro e w3 ⟨S3,v3,L3,rfl,hp3⟩;have HP3:Hid (zS S w H ((qU y.1).1,y.2++(qU y.1).2) (.returned v3) w3):=hI (yN FC.out HL2.out X2.out LK2.out N2.out F2.out ⟨S3,v3,L3,rfl,hp3⟩);clear hp3))
  all_goals
   go_wp2_with fail
   rw [vZ];go_ret2
   rw [HVY.out];exact⟨_,rfl,HP3.out⟩
 ·have k1:wc.cell? ⟨bk,5,none⟩=some (.func (.func 55) #[ptr H.g] #[]):=by simpa using BC.out.cell 5
  have hc:∀ W,Fr [] wc W->Calls Tryz.prog 55 #[ptr H.g,agP ⟨fl,sq,ak,wi,d⟩ (.slice A d.length c)] W (zS S W H y):=fun W f=>HHA.out W (FC.out.trans f zs);have HC:=hI hc;clear hc
  go_region_with (first
    | (go_at_call 55;refine (HC.out _ (Fr.refl [] wc).drew).mono ?_;rintro e w2 ⟨S2,H2,v2,L2,rfl,hL2,x2,lk2,m2,p2,n2,f2⟩;have hse:=xI m2 OK2.out.s p2 (fun b hb=>(n2 b hb).2) (by have h1:=HCL.out;rw [<- hL2,List.length_map] at h1;omega);rw [lk2.g] at hse;have HSE:=hI hse;have X2:=hI x2;have LK2:=hI lk2;have N2:=hI n2;have F2:=hI f2;have HL2:=hI hL2;clear hse x2 lk2 m2 p2 n2 f2 hL2)|(go_at_call 56;refine HSE.out.mono ?_;rintro e w3 ⟨S3,v3,L3,rfl,hp3⟩;have HP3:Hid (zS S w H ((qU y.1).1,y.2++(qU y.1).2) (.returned v3) w3):=hI (yN FC.out HL2.out X2.out LK2.out N2.out F2.out ⟨S3,v3,L3,rfl,hp3⟩);clear hp3))
  all_goals
   go_wp2_with fail
   rw [vZ];go_ret2
   rw [HVY.out];exact⟨_,rfl,HP3.out⟩
theorem qji{S:Nat->Prop}{w:World}{H:Hd}{x:St}(m:SI S w H x):Calls Tryz.prog 57 #[ptr H.g] w fun e w'=>e = .returned (.bool (xE x))/\Fr [] w w':=by
 have c:=qm m.blk;have c0:=c.c0;have c11:=c.c11;have hv:xE x=(x.at_ == 5 || x.closing):=rfl;generalize xE x=r at *
 clear c m;by_cases h:x.at_=5
 ·obtain rfl:r=true:=by rw [hv];simp [h]
  rw [h] at c0;clear hv;go_enter Tryz.func57,Tryz.ntmps57;go_wp2_with fail
  go_ret;first|exact⟨rfl,Fr.refl _ _⟩|exact⟨rfl,(Fr.refl _ _).drew⟩
 ·have h1:decide (x.at_=5)=false:=by simpa using h
  have h2:(x.at_ == 5)=false:=by simpa using h
  obtain rfl:r=x.closing:=by rw [hv,h2];rfl
  clear hv;go_enter Tryz.func57,Tryz.ntmps57;go_wp2_with fail
  go_ret;first|exact⟨rfl,Fr.refl _ _⟩|exact⟨rfl,(Fr.refl _ _).drew⟩
end Go.Proofs.YtmgdbbbdhkfdmaaGreat
