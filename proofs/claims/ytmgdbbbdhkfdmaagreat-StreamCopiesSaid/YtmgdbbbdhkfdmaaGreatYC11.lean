import Derived.Test.YtmgdbbbdhkfdmaaGreatYC10
import Derived.Deep.DeepCutAuto
import Derived.Test.YtmgdbbbdhkfdmaaGreatYC4
import Derived.Test.YtmgdbbbdhkfdmaaGreatYC8
import Derived.Test.YtmgdbbbdhkfdmaaGreatYC0
set_option linter.unusedSimpArgs false
set_option linter.unusedVariables false
set_option maxHeartbeats 40000000
namespace Go.Proofs.YtmgdbbbdhkfdmaaGreat
set_option maxRecDepth 100000
open Go.RowKit Go.Deep
theorem qhq(x:St)(v:Win.Wn)(more:Int)(ends:Bool)(h:more=0)(h2:(!ends || x.qp)=true):qB x v more ends={ x with win:=v }:=by unfold qB;rw [if_pos ⟨h,h2⟩]
theorem qhr(x:St)(v:Win.Wn)(more:Int)(ends:Bool)(h:¬ (more=0/\(!ends || x.qp)=true))(h1:0<x.timed)(h2:x.timed<=v.a):qB x v more ends={ x with win:=v,qp:=x.qp || ends,timed:=0,clk:=Rto.qW (Rto.qR x.clk (x.now - x.since)).1 }:=by unfold qB;rw [if_neg h,if_pos ⟨h1,h2⟩]
theorem qks(x:St)(v:Win.Wn)(more:Int)(ends:Bool)(h:¬ (more=0/\(!ends || x.qp)=true))(h1:¬ (0<x.timed/\x.timed<=v.a)):qB x v more ends={ x with win:=v,qp:=x.qp || ends,clk:=Rto.qW x.clk }:=by unfold qB;rw [if_neg h,if_neg h1]
theorem eacks{S:Nat->Prop}{w:World}{x:St}{av uv kv:Value}(m:RE S w x av uv kv)(ok:OkS x)(ou:OkU x)(p:Prt)(k0:0<=p.ack)(k1:p.ack<4294967296)(r0:0<=p.win)(r1:p.win<65536)(DA:Option Addr)(dn dc:Nat) :
  Calls Tryz.prog 122 #[agE x av uv kv,agP p (.slice DA dn dc)] w fun e w'=>e = .returned (agE (zy x p) av uv kv)/\Fr [] w w':=by
 have o1:=m.qN;obtain⟨⟨aA,ac,rfl,hn1,hn2⟩,_,_⟩:=m.forms;obtain⟨pf,ps,pk,pw,pd⟩:=p;dsimp only at k0 k1 r0 r1;have hwb:=Win.Inv.bd ok.hw;have hml:=ok.hm;have hal:=ok.hl;have i0:=ou.i0;have i1:=ou.i1;have q0:=ok.n0;have q1:=ok.n1;have q2:=ok.s0;have q3:=ok.s1;have v1:IntKind.i64.wrap x.isn=x.isn:=IntWalk.i64_in _ zw;have v2:IntKind.i64.wrap (4294967296 - x.isn)=4294967296 - x.isn:=IntWalk.i64_in _ zw;have v3:IntKind.i64.wrap (4294967296 - x.isn - 1)=4294967296 - x.isn - 1:=IntWalk.i64_in _ zw;have v4:IntKind.i64.wrap (4294967296 - x.isn - 1+4294967296)=4294967296 - x.isn - 1+4294967296:=IntWalk.i64_in _ zw;have v5:IntKind.i64.wrap ((x.all.length:Int)+1)=(x.all.length:Int)+1:=IntWalk.i64_in _ zw;have v6:IntKind.i64.wrap pw=pw:=IntWalk.i64_in _ zw;have v7:IntKind.i64.wrap (x.now - x.since)=x.now - x.since:=IntWalk.i64_in _ zw;have hq:add32 pk (4294967296 - x.isn - 1+4294967296)=(pk - x.isn - 1) % 4294967296:=by unfold add32;omega
 have hadd:=fun W=>vO pk (4294967296 - x.isn - 1+4294967296) W k0 k1 zw zw;rw [hq] at hadd;have hne:=fun W=>Sne.qix ((pk - x.isn - 1) % 4294967296) x.win.a W zw zw hwb.1 zw;have hpl:(Sne.jX ((pk - x.isn - 1) % 4294967296) x.win.a).1=kL pk x.isn x.win.a:=rfl;rw [hpl] at hne;have hev:yY x ⟨pf,ps,pk,pw,pd⟩=(x.fin && decide (kL pk x.isn x.win.a=x.all.length+1)):=rfl;have huv:vF x ⟨pf,ps,pk,pw,pd⟩=if yY x ⟨pf,ps,pk,pw,pd⟩ then (x.all.length:Int) else kL pk x.isn x.win.a:=rfl;have hav:zy x ⟨pf,ps,pk,pw,pd⟩=qB x (Win.je x.win (vF x ⟨pf,ps,pk,pw,pd⟩) pw).1 (Win.je x.win (vF x ⟨pf,ps,pk,pw,pd⟩) pw).2.1 (yY x ⟨pf,ps,pk,pw,pd⟩):=rfl;have hA:=fun W=>Win.rack x.win (vF x ⟨pf,ps,pk,pw,pd⟩) pw W 1000000000 (Int.le_refl _) ok.hw;have hS:=fun W=>Rto.qiw x.clk W ok.hc;have hSa:=fun W=>Rto.rsample x.clk (x.now - x.since) W ok.hc;have hS2:=fun W=>Rto.qiw (Rto.qR x.clk (x.now - x.since)).1 W (Rto.kY ok.hc _);have y0:=qhq x;have y1:=qhr x;have y2:=qks x;obtain⟨l0,b0⟩:=Lo.yx w (arE x (.slice aA x.all.length ac) uv kv) #[.int .i64 pf, .int .u32 ps, .int .u32 pk, .int .u16 pw, .slice DA dn dc];rw [hav];clear hav;generalize vF x ⟨pf,ps,pk,pw,pd⟩=up at *
 generalize yY x ⟨pf,ps,pk,pw,pd⟩=en at *
 generalize Win.je x.win up pw=ak at *
 obtain⟨⟨ka,ks,km,kl⟩,mo,er⟩:=ak;dsimp only at hA |-
 generalize kL pk x.isn x.win.a=pl at *
 generalize (Sne.jX ((pk - x.isn - 1) % 4294967296) x.win.a).2=ne2 at *
 generalize (pk - x.isn - 1) % 4294967296=pz at *
 have HAd:=hI hadd;have HNe:=hI hne;have HEV:=hI hev;have HUV:=hI huv;have HA:=hI hA;have HS:=hI hS;have HSa:=hI hSa;have HS2:=hI hS2;have Y0:=hI y0;have Y1:=hI y1;have Y2:=hI y2;have L0:=hI l0;have B0:=hI b0;clear hadd hne hev huv hA hS hSa hS2 y0 y1 y2 l0 b0 m ok ou hwb hml hal i0 i1 q0 q1 q2 q3 hq hpl;go_enter Tryz.func122,Tryz.ntmps122;go_upto_region 1 with fail
 generalize ((w.alloc (.cells (arE x (.slice aA x.all.length ac) uv kv) 41)).alloc (.cells #[.int .i64 pf, .int .u32 ps, .int .u32 pk, .int .u16 pw, .slice DA dn dc] 49)).alloc (.cells qy 41)=w1 at *
 have c:=jK L0.out.s;have u0:=Grew.cell c.c0;have u6:=Grew.cell c.c6;have u2:∀ p:Grew w1,p.W.cell? ⟨w.heap.size+1,2,none⟩=some (.int .u32 pk):=Grew.cell (by simpa using B0.out.cell 2);have hA':Hid (∀ p:Grew w1,Calls Tryz.prog 103 #[.int .u32 pk, .int .i64 (4294967296 - x.isn - 1+4294967296)] p.W fun e w'=>e = .returned (.int .u32 pz)/\∃ q:Grew w1,w'=q.W):=hI (fun p=>kN (HAd.out p.W));have hN':Hid (∀ p:Grew w1,Calls Tryz.prog 134 #[.int .u32 pz, .int .i64 x.win.a] p.W fun e w'=>e = .returned (.tuple #[.int .i64 pl, .int .i64 ne2])/\∃ q:Grew w1,w'=q.W):=hI (fun p=>kN (HNe.out p.W));clear c;refine qg zk zk ?_;repeat (go_big_quiet_step (first|(go_at_call 103;exact hA'.out _)|(go_at_call 134;exact hN'.out _)))
 refine wpQuiet_nil ?_;intro W1 f1;have L1:Hid (∀ W,Fr [] W1 W->Lo w W w.heap.size (w.heap.size+1+1) (arE x (.slice aA x.all.length ac) uv kv)):=hI (fun W f=>(L0.out.grow f1).grow f);have B1:Hid (∀ W,Fr [] W1 W->Blk W (w.heap.size+1) 49 #[.int .i64 pf, .int .u32 ps, .int .u32 pk, .int .u16 pw, .slice DA dn dc]):=hI (fun W f=>(B0.out.fr f1 zs).fr f zs);clear u0 u6 u2 hA' hN' f1;have c:=jK (L1.out _ (Fr.refl [] W1)).s;have c4:=c.c4;have c26:=c.c26;clear c;go_upto_region 3 with fail
 go_cut [8] (fun s8 wx=>s8 = .bool en/\Fr [] W1 wx);case first=>
  have he:=HEV.out;cases hf:x.fin
  ·rw [hf] at he
   rw [hf] at c26;simp only [Bool.false_and] at he;subst he;have HF:=hI hf;clear hf;go_wp2_with fail
   go_meet;exact⟨rfl,Fr.refl _ _⟩
  ·rw [hf] at he
   rw [hf] at c26;have HF:=hI hf;clear hf;simp only [Bool.true_and] at he;by_cases hpl:pl=(x.all.length:Int)+1
   ·have hd1:decide (pl=(x.all.length:Int)+1)=true:=by simpa using hpl
    have hd2:(pl == (x.all.length:Int)+1)=true:=(by simpa using hpl);rw [hd1] at he;subst he;have HPL:=hI hpl;clear hpl;go_wp2_with fail
    go_meet;exact⟨rfl,Fr.refl _ _⟩
   ·have hd1:decide (pl=(x.all.length:Int)+1)=false:=by simpa using hpl
    have hd2:(pl == (x.all.length:Int)+1)=false:=(by simpa using hpl);rw [hd1] at he;subst he;have HPL:=hI hpl;clear hpl;go_wp2_with fail
    go_meet;exact⟨rfl,Fr.refl _ _⟩
 case rest=>
  obtain⟨rfl,fc⟩:=hcut;have L2:Hid (∀ W,Fr [] wc W->Lo w W w.heap.size (w.heap.size+1+1) (arE x (.slice aA x.all.length ac) uv kv)):=hI (fun W f=>(L1.out _ fc).grow f);have B2:Hid (∀ W,Fr [] wc W->Blk W (w.heap.size+1) 49 #[.int .i64 pf, .int .u32 ps, .int .u32 pk, .int .u16 pw, .slice DA dn dc]):=hI (fun W f=>(B1.out _ fc).fr f zs);clear L1 B1 fc c4 c26 HEV;have c3:wc.cell? ⟨w.heap.size+1,3,none⟩=some (.int .u16 pw):=by simpa using (B2.out _ (Fr.refl [] wc)).cell 3
  have hup:=HUV.out;clear HUV;rcases Bool.eq_false_or_eq_true en with rfl|rfl
  ·rw [if_pos rfl] at hup
   have hA:∀ W,Calls Tryz.prog 121 #[Win.agW x.win, .int .i64 (x.all.length:Int), .int .i64 pw] W (fun e w'=>e = .returned (.tuple #[Win.agW ⟨ka,ks,km,kl⟩, .int .i64 mo, .int .i64 er])/\Fr [] W w'):=fun W=>by have:=HA.out W;rw [hup] at this;exact this
   clear hup;have HA2:=hI hA;clear hA HA;go_upto_region 7 with (first
      | ((with_reducible refine qj 32 (.tmp 44) ?_);refine qC rfl 32 (.tmp 44) rfl w.heap.size 6 41 (arE x (.slice aA x.all.length ac) uv kv) (arW x.win) _ rfl (L2.out _ zf).s rfl Tryz.underlying32 rfl zk ?_)|(go_at_call 121;refine (HA2.out _).mono ?_;rintro e w5 ⟨rfl,f5⟩)|((with_reducible refine qi 32 (.tmp 9) ?_);refine qc rfl 32 (.tmp 9) (.tmp 51) rfl w5.heap.size 32 #[.int .i64 0, .int .i64 0, .int .i64 0, .int .i64 0] #[.int .i64 ka, .int .i64 ks, .int .i64 km, .int .i64 kl] rfl rfl (Blk.new w5 32 #[.int .i64 0, .int .i64 0, .int .i64 0, .int .i64 0]) rfl zk zq ?_;intro w6 B6 F6))
   have l6:Lo w w6 w.heap.size (w.heap.size+1+1) (arE x (.slice aA x.all.length ac) uv kv):=(L2.out _ (f5.alloc (.cells #[.int .i64 0, .int .i64 0, .int .i64 0, .int .i64 0] 32))).far F6 (by have:=(L2.out _ f5).f.size;omega) (by have:=(L2.out _ f5).s.lt;omega) (by have:=(L2.out _ f5).r.lt;omega);have n6:w.heap.size+1+1<w5.heap.size:=(L2.out _ f5).r.lt;generalize w5.heap.size=b9 at *
   have L6:=hI l6;have V6:=hI B6;clear F6 l6 B6 c3 L2 B2 HA2;go_upto_region 8 with (first
      | ((with_reducible refine qj 32 (.tmp 9) ?_);refine qf rfl 32 (.tmp 9) rfl b9 32 #[.int .i64 ka, .int .i64 ks, .int .i64 km, .int .i64 kl] _ rfl V6.out Tryz.underlying32 rfl zk ?_)|((with_reducible refine qi 32 (.tmp 55) ?_);refine qI rfl 32 (.tmp 55) (.tmp 54) rfl w.heap.size 6 41 (arE x (.slice aA x.all.length ac) uv kv) #[.int .i64 ka, .int .i64 ks, .int .i64 km, .int .i64 kl] (arE { x with win:=⟨ka,ks,km,kl⟩ } (.slice aA x.all.length ac) uv kv) rfl rfl L6.out.s zs zk zq (qfa _ _ _ _ ⟨ka,ks,km,kl⟩) ?_;intro w7 B7 F7))
   have L7:Hid (∀ W,Fr [] w7 W->Lo w W w.heap.size (w.heap.size+1+1) (arE { x with win:=⟨ka,ks,km,kl⟩ } (.slice aA x.all.length ac) uv kv)):=hI (fun W f=>(L6.out.set F7 B7).grow f);have V7:Hid (∀ W,Fr [] w7 W->Blk W b9 32 #[.int .i64 ka, .int .i64 ks, .int .i64 km, .int .i64 kl]):=hI (fun W f=>(V6.out.fr F7 zv).fr f zs);clear F7 B7 L6 V6;have c27:w7.cell? ⟨w.heap.size,27,none⟩=some (.bool x.qp):=(L7.out _ (Fr.refl [] w7)).s.cell 27;by_cases hmo:mo=0
   ·have hd1:decide (mo=0)=true:=by simpa using hmo
    have hd2:(mo == 0)=true:=(by simpa using hmo);have HM:=hI hmo;clear hmo;cases hac:x.qp
    ·rw [hac] at c27
     have HAC:=hI hac;clear hac;have hno:¬ (mo=0/\(!true || x.qp)=true):=(by rw [HAC.out];simp);have HNO:=hI hno;clear hno;go_upto_region 10 with fail
     clear c27;obtain⟨aq,HAQ⟩:∃ aq,Hid (aq=(x.qp || true)):=⟨_,hI rfl⟩;go_cut [] (fun wx=>Lo w wx w.heap.size (w.heap.size+1+1) (arE { x with win:=⟨ka,ks,km,kl⟩,qp:=aq } (.slice aA x.all.length ac) uv kv)/\Fr [w.heap.size] w7 wx);case first=>
      have c27:w7.cell? ⟨w.heap.size,27,none⟩=some (.bool x.qp):=(L7.out _ (Fr.refl [] w7)).s.cell 27;have z27:=(L7.out _ (Fr.refl [] w7)).s.frozen 27;have hl7:=(L7.out _ (Fr.refl [] w7)).s.lt;cases hac2:x.qp;all_goals
       rw [hac2] at c27;have HAC2:=hI hac2;clear hac2;go_wp2_with fail
       go_meet;have hl:=(L7.out _ (Fr.refl [] w7)).cell 27 (.bool aq);simp only [arE,zqA,zqB,zqC] at hl |-
       have he:=HAQ.out;rw [HAC2.out] at he;simp only [Bool.true_or,Bool.false_or,Bool.or_true,Bool.or_false] at he;rw [he] at hl |-
       exact⟨hl,(Fr.refl [w.heap.size] w7).setCell (p:=⟨w.heap.size,27,none⟩) (.inl zs) _⟩
     case rest=>
      obtain⟨l8,f8⟩:=hcut;have L8:Hid (∀ W,Fr [] wc W->Lo w W w.heap.size (w.heap.size+1+1) (arE { x with win:=⟨ka,ks,km,kl⟩,qp:=aq } (.slice aA x.all.length ac) uv kv)):=hI (fun W f=>l8.grow f);have V8:Hid (∀ W,Fr [] wc W->Blk W b9 32 #[.int .i64 ka, .int .i64 ks, .int .i64 km, .int .i64 kl]):=hI (fun W f=>((V7.out _ (Fr.refl [] w7)).fr f8 zv).fr f zs);clear l8 f8 L7 V7;have c31:wc.cell? ⟨w.heap.size,31,none⟩=some (.int .i64 x.timed):=(L8.out _ (Fr.refl [] wc)).s.cell 31;have e0:wc.cell? ⟨b9,0,none⟩=some (.int .i64 ka):=(by simpa using (V8.out _ (Fr.refl [] wc)).cell 0);by_cases ht:0<x.timed/\x.timed<=ka
      ·obtain⟨ht1,ht2⟩:=ht
       have hd3:decide (0<x.timed)=true:=(by simpa using ht1);have hd4:decide (x.timed > 0)=true:=(by simpa using ht1);have hd5:decide (x.timed<=ka)=true:=(by simpa using ht2);have hd6:decide (ka≥x.timed)=true:=(by simpa using ht2);have hy:=Y1.out ⟨ka,ks,km,kl⟩ mo true HNO.out ht1 ht2;rw [<- HAQ.out] at hy;generalize Rto.qR x.clk (x.now - x.since)=sa at *
       obtain⟨⟨f1,l1,m1,t1,is1,tm1,sp1,wt1,si1,tr1,rn1⟩,er1⟩:=sa;dsimp only at hy HS2 HSa;generalize Rto.qW ⟨f1,l1,m1,t1,is1,tm1,sp1,wt1,si1,tr1,rn1⟩=sb at *
       obtain⟨f2,l2,m2,t2,is2,tm2,sp2,wt2,si2,tr2,rn2⟩:=sb;have HY:=hI hy;clear hy ht1 ht2;go_upto_region 12 with fail
       have c29:wc.cell? ⟨w.heap.size,29,none⟩=some (.int .i64 x.now):=(L8.out _ (Fr.refl [] wc)).s.cell 29;have c30:wc.cell? ⟨w.heap.size,30,none⟩=some (.int .i64 x.since):=(L8.out _ (Fr.refl [] wc)).s.cell 30;go_upto_region 13 with (first
        | ((with_reducible refine qj 36 (.tmp 84) ?_);refine qC rfl 36 (.tmp 84) rfl w.heap.size 10 41 (arE { x with win:=⟨ka,ks,km,kl⟩,qp:=aq } (.slice aA x.all.length ac) uv kv) (arC x.clk) _ rfl (L8.out _ zf).s rfl Tryz.underlying36 rfl zk ?_)|(go_at_call 135;refine (HSa.out _).mono ?_;rintro e wd ⟨rfl,fd⟩)|((with_reducible refine qi 36 (.tmp 12) ?_);refine qc rfl 36 (.tmp 12) (.tmp 92) rfl wd.heap.size 36 ckZ #[.int .i64 f1, .int .i64 l1, .int .i64 m1, .int .i64 t1, .bool is1, .int .i64 tm1, .int .i64 sp1, .int .i64 wt1, .int .i64 si1, .int .i64 tr1, .bool rn1] rfl rfl (Blk.new wd 36 ckZ) rfl zk zq ?_;intro we Be Fe))
       have le:Lo w we w.heap.size (w.heap.size+1+1) (arE { x with win:=⟨ka,ks,km,kl⟩,qp:=aq } (.slice aA x.all.length ac) uv kv):=(L8.out _ (fd.alloc (.cells ckZ 36))).far Fe (by have:=(L8.out _ fd).f.size;omega) (by have:=(L8.out _ fd).s.lt;omega) (by have:=(L8.out _ fd).r.lt;omega);have ne_:w.heap.size+1+1<wd.heap.size:=(L8.out _ fd).r.lt;generalize wd.heap.size=bc at *
       have LE:=hI le;have VE:=hI Be;clear Fe le Be c29 c30 c31 e0;go_upto_region 14 with (first
        | ((with_reducible refine qj 36 (.tmp 12) ?_);refine qf rfl 36 (.tmp 12) rfl bc 36 #[.int .i64 f1, .int .i64 l1, .int .i64 m1, .int .i64 t1, .bool is1, .int .i64 tm1, .int .i64 sp1, .int .i64 wt1, .int .i64 si1, .int .i64 tr1, .bool rn1] _ rfl VE.out Tryz.underlying36 rfl zk ?_)|((with_reducible refine qi 36 (.tmp 95) ?_);refine qI rfl 36 (.tmp 95) (.tmp 94) rfl w.heap.size 10 41 (arE { x with win:=⟨ka,ks,km,kl⟩,qp:=aq } (.slice aA x.all.length ac) uv kv) #[.int .i64 f1, .int .i64 l1, .int .i64 m1, .int .i64 t1, .bool is1, .int .i64 tm1, .int .i64 sp1, .int .i64 wt1, .int .i64 si1, .int .i64 tr1, .bool rn1] (arE { x with win:=⟨ka,ks,km,kl⟩,qp:=aq,clk:=⟨f1,l1,m1,t1,is1,tm1,sp1,wt1,si1,tr1,rn1⟩ } (.slice aA x.all.length ac) uv kv) rfl rfl LE.out.s zs zk zq (vV _ _ _ _ ⟨f1,l1,m1,t1,is1,tm1,sp1,wt1,si1,tr1,rn1⟩) ?_;intro wf Bf Ff;have lf:=LE.out.set Ff Bf;have cf:=lf.s.cell 31;have zf:=lf.s.frozen 31;have hlf:=lf.s.lt;simp at cf;have LF:=hI lf;clear lf Bf Ff))
       have lg:Lo w (wf.setCell ⟨w.heap.size,31,none⟩ (.int .i64 0)) w.heap.size (w.heap.size+1+1) (arE { x with win:=⟨ka,ks,km,kl⟩,qp:=aq,timed:=0,clk:=⟨f1,l1,m1,t1,is1,tm1,sp1,wt1,si1,tr1,rn1⟩ } (.slice aA x.all.length ac) uv kv):=by
        have hh:=LF.out.cell 31 (.int .i64 0);simp only [arE,zqA,zqB,zqC] at hh |-
        exact hh
       generalize wf.setCell ⟨w.heap.size,31,none⟩ (.int .i64 0)=wg at *
       have LG:Hid (∀ W,Fr [] wg W->Lo w W w.heap.size (w.heap.size+1+1) (arE { x with win:=⟨ka,ks,km,kl⟩,qp:=aq,timed:=0,clk:=⟨f1,l1,m1,t1,is1,tm1,sp1,wt1,si1,tr1,rn1⟩ } (.slice aA x.all.length ac) uv kv)):=hI (fun W f=>lg.grow f);clear lg cf zf hlf LF LE VE;go_upto_region 15 with (first
          | ((with_reducible refine qj 36 (.tmp 97) ?_);refine qC rfl 36 (.tmp 97) rfl w.heap.size 10 41 (arE { x with win:=⟨ka,ks,km,kl⟩,qp:=aq,timed:=0,clk:=⟨f1,l1,m1,t1,is1,tm1,sp1,wt1,si1,tr1,rn1⟩ } (.slice aA x.all.length ac) uv kv) #[.int .i64 f1, .int .i64 l1, .int .i64 m1, .int .i64 t1, .bool is1, .int .i64 tm1, .int .i64 sp1, .int .i64 wt1, .int .i64 si1, .int .i64 tr1, .bool rn1] _ rfl (LG.out _ zf).s rfl Tryz.underlying36 rfl zk ?_)|(go_at_call 69;refine (HS2.out _).mono ?_;rintro e wx ⟨rfl,fx⟩)|((with_reducible refine qi 36 (.tmp 100) ?_);refine qI rfl 36 (.tmp 100) (.tmp 99) rfl w.heap.size 10 41 (arE { x with win:=⟨ka,ks,km,kl⟩,qp:=aq,timed:=0,clk:=⟨f1,l1,m1,t1,is1,tm1,sp1,wt1,si1,tr1,rn1⟩ } (.slice aA x.all.length ac) uv kv) #[.int .i64 f2, .int .i64 l2, .int .i64 m2, .int .i64 t2, .bool is2, .int .i64 tm2, .int .i64 sp2, .int .i64 wt2, .int .i64 si2, .int .i64 tr2, .bool rn2] (arE { x with win:=⟨ka,ks,km,kl⟩,qp:=aq,timed:=0,clk:=⟨f2,l2,m2,t2,is2,tm2,sp2,wt2,si2,tr2,rn2⟩ } (.slice aA x.all.length ac) uv kv) rfl rfl (LG.out _ fx).s zs zk zq (vV _ _ _ _ ⟨f2,l2,m2,t2,is2,tm2,sp2,wt2,si2,tr2,rn2⟩) ?_;intro wy By Fy))
       have LZ:Hid (∀ W,Fr [] wy W->Lo w W w.heap.size (w.heap.size+1+1) (arE { x with win:=⟨ka,ks,km,kl⟩,qp:=aq,timed:=0,clk:=⟨f2,l2,m2,t2,is2,tm2,sp2,wt2,si2,tr2,rn2⟩ } (.slice aA x.all.length ac) uv kv)):=hI (fun W f=>((LG.out _ fx).set Fy By).grow f);clear By Fy;try dsimp only [Act.put]
       go_cut [] (fun wx=>Blk wx (w.heap.size+1+1) 41 (arE { x with win:=⟨ka,ks,km,kl⟩,qp:=aq,timed:=0,clk:=⟨f2,l2,m2,t2,is2,tm2,sp2,wt2,si2,tr2,rn2⟩ } (.slice aA x.all.length ac) uv kv)/\Fr [] w wx);case first=>
        go_wp2_with (first
          | ((with_reducible refine qj 41 (.tmp 2) ?_);refine qf rfl 41 (.tmp 2) rfl w.heap.size 41 (arE { x with win:=⟨ka,ks,km,kl⟩,qp:=aq,timed:=0,clk:=⟨f2,l2,m2,t2,is2,tm2,sp2,wt2,si2,tr2,rn2⟩ } (.slice aA x.all.length ac) uv kv) _ rfl (LZ.out _ zf).s Tryz.underlying41 rfl zk ?_)|((with_reducible refine qi 41 (.tmp 4) ?_);refine qc rfl 41 (.tmp 4) (.tmp 101) rfl (w.heap.size+1+1) 41 qy (arE { x with win:=⟨ka,ks,km,kl⟩,qp:=aq,timed:=0,clk:=⟨f2,l2,m2,t2,is2,tm2,sp2,wt2,si2,tr2,rn2⟩ } (.slice aA x.all.length ac) uv kv) rfl rfl (LZ.out _ zf).r rfl zk zq ?_;intro wz Bz Fz))
        go_meet;exact⟨Bz,(LZ.out _ (Fr.refl [] wy)).res Fz⟩
       case rest=>
        obtain⟨Bz,Fz⟩:=hcut;refine ‹∀(a:Act) (w:World),Code.wp Tryz.prog Code.ret _ a w->_› _ _ (wp_ret ?_);try simp only [Exit.then]
        change bodyPost Tryz.prog _ _ .ret _ _;refine bodyPost_ret (kF 4 41 ⟨(w.heap.size+1+1),0,none⟩ _ zr zr (qw Bz)) zr ?_;rw [HY.out];exact⟨rfl,Fz⟩
      ·have hy:=Y2.out ⟨ka,ks,km,kl⟩ mo true HNO.out ht
       rw [<- HAQ.out] at hy;generalize Rto.qW x.clk=sb at *
       obtain⟨f2,l2,m2,t2,is2,tm2,sp2,wt2,si2,tr2,rn2⟩:=sb;have HY:=hI hy;clear hy;by_cases ht1:0<x.timed
       ·have ht2:¬ x.timed<=ka:=fun h=>ht ⟨ht1,h⟩
        have hd3:decide (0<x.timed)=true:=(by simpa using ht1);have hd4:decide (x.timed > 0)=true:=(by simpa using ht1);have hd5:decide (x.timed<=ka)=false:=(by simpa using ht2);have hd6:decide (ka≥x.timed)=false:=(by simpa using ht2);clear ht ht1 ht2;go_upto_region 15 with (first
           | ((with_reducible refine qj 36 (.tmp 97) ?_);refine qC rfl 36 (.tmp 97) rfl w.heap.size 10 41 (arE { x with win:=⟨ka,ks,km,kl⟩,qp:=aq } (.slice aA x.all.length ac) uv kv) (arC x.clk) _ rfl (L8.out _ zf).s rfl Tryz.underlying36 rfl zk ?_)|(go_at_call 69;refine (HS.out _).mono ?_;rintro e wx ⟨rfl,fx⟩)|((with_reducible refine qi 36 (.tmp 100) ?_);refine qI rfl 36 (.tmp 100) (.tmp 99) rfl w.heap.size 10 41 (arE { x with win:=⟨ka,ks,km,kl⟩,qp:=aq } (.slice aA x.all.length ac) uv kv) #[.int .i64 f2, .int .i64 l2, .int .i64 m2, .int .i64 t2, .bool is2, .int .i64 tm2, .int .i64 sp2, .int .i64 wt2, .int .i64 si2, .int .i64 tr2, .bool rn2] (arE { x with win:=⟨ka,ks,km,kl⟩,qp:=aq,clk:=⟨f2,l2,m2,t2,is2,tm2,sp2,wt2,si2,tr2,rn2⟩ } (.slice aA x.all.length ac) uv kv) rfl rfl (L8.out _ fx).s zs zk zq (vV _ _ _ _ ⟨f2,l2,m2,t2,is2,tm2,sp2,wt2,si2,tr2,rn2⟩) ?_;intro wy By Fy))
        have LZ:Hid (∀ W,Fr [] wy W->Lo w W w.heap.size (w.heap.size+1+1) (arE { x with win:=⟨ka,ks,km,kl⟩,qp:=aq,clk:=⟨f2,l2,m2,t2,is2,tm2,sp2,wt2,si2,tr2,rn2⟩ } (.slice aA x.all.length ac) uv kv)):=hI (fun W f=>((L8.out _ fx).set Fy By).grow f);clear By Fy;try dsimp only [Act.put]
        go_cut [] (fun wx=>Blk wx (w.heap.size+1+1) 41 (arE { x with win:=⟨ka,ks,km,kl⟩,qp:=aq,clk:=⟨f2,l2,m2,t2,is2,tm2,sp2,wt2,si2,tr2,rn2⟩ } (.slice aA x.all.length ac) uv kv)/\Fr [] w wx);case first=>
         go_wp2_with (first
           | ((with_reducible refine qj 41 (.tmp 2) ?_);refine qf rfl 41 (.tmp 2) rfl w.heap.size 41 (arE { x with win:=⟨ka,ks,km,kl⟩,qp:=aq,clk:=⟨f2,l2,m2,t2,is2,tm2,sp2,wt2,si2,tr2,rn2⟩ } (.slice aA x.all.length ac) uv kv) _ rfl (LZ.out _ zf).s Tryz.underlying41 rfl zk ?_)|((with_reducible refine qi 41 (.tmp 4) ?_);refine qc rfl 41 (.tmp 4) (.tmp 101) rfl (w.heap.size+1+1) 41 qy (arE { x with win:=⟨ka,ks,km,kl⟩,qp:=aq,clk:=⟨f2,l2,m2,t2,is2,tm2,sp2,wt2,si2,tr2,rn2⟩ } (.slice aA x.all.length ac) uv kv) rfl rfl (LZ.out _ zf).r rfl zk zq ?_;intro wz Bz Fz))
         go_meet;exact⟨Bz,(LZ.out _ (Fr.refl [] wy)).res Fz⟩
        case rest=>
         obtain⟨Bz,Fz⟩:=hcut;refine ‹∀(a:Act) (w:World),Code.wp Tryz.prog Code.ret _ a w->_› _ _ (wp_ret ?_);try simp only [Exit.then]
         change bodyPost Tryz.prog _ _ .ret _ _;refine bodyPost_ret (kF 4 41 ⟨(w.heap.size+1+1),0,none⟩ _ zr zr (qw Bz)) zr ?_;rw [HY.out];exact⟨rfl,Fz⟩
       ·have hd3:decide (0<x.timed)=false:=by simpa using ht1
        have hd4:decide (x.timed > 0)=false:=(by simpa using ht1);clear ht ht1;go_upto_region 15 with (first
           | ((with_reducible refine qj 36 (.tmp 97) ?_);refine qC rfl 36 (.tmp 97) rfl w.heap.size 10 41 (arE { x with win:=⟨ka,ks,km,kl⟩,qp:=aq } (.slice aA x.all.length ac) uv kv) (arC x.clk) _ rfl (L8.out _ zf).s rfl Tryz.underlying36 rfl zk ?_)|(go_at_call 69;refine (HS.out _).mono ?_;rintro e wx ⟨rfl,fx⟩)|((with_reducible refine qi 36 (.tmp 100) ?_);refine qI rfl 36 (.tmp 100) (.tmp 99) rfl w.heap.size 10 41 (arE { x with win:=⟨ka,ks,km,kl⟩,qp:=aq } (.slice aA x.all.length ac) uv kv) #[.int .i64 f2, .int .i64 l2, .int .i64 m2, .int .i64 t2, .bool is2, .int .i64 tm2, .int .i64 sp2, .int .i64 wt2, .int .i64 si2, .int .i64 tr2, .bool rn2] (arE { x with win:=⟨ka,ks,km,kl⟩,qp:=aq,clk:=⟨f2,l2,m2,t2,is2,tm2,sp2,wt2,si2,tr2,rn2⟩ } (.slice aA x.all.length ac) uv kv) rfl rfl (L8.out _ fx).s zs zk zq (vV _ _ _ _ ⟨f2,l2,m2,t2,is2,tm2,sp2,wt2,si2,tr2,rn2⟩) ?_;intro wy By Fy))
        have LZ:Hid (∀ W,Fr [] wy W->Lo w W w.heap.size (w.heap.size+1+1) (arE { x with win:=⟨ka,ks,km,kl⟩,qp:=aq,clk:=⟨f2,l2,m2,t2,is2,tm2,sp2,wt2,si2,tr2,rn2⟩ } (.slice aA x.all.length ac) uv kv)):=hI (fun W f=>((L8.out _ fx).set Fy By).grow f);clear By Fy;try dsimp only [Act.put]
        go_cut [] (fun wx=>Blk wx (w.heap.size+1+1) 41 (arE { x with win:=⟨ka,ks,km,kl⟩,qp:=aq,clk:=⟨f2,l2,m2,t2,is2,tm2,sp2,wt2,si2,tr2,rn2⟩ } (.slice aA x.all.length ac) uv kv)/\Fr [] w wx);case first=>
         go_wp2_with (first
           | ((with_reducible refine qj 41 (.tmp 2) ?_);refine qf rfl 41 (.tmp 2) rfl w.heap.size 41 (arE { x with win:=⟨ka,ks,km,kl⟩,qp:=aq,clk:=⟨f2,l2,m2,t2,is2,tm2,sp2,wt2,si2,tr2,rn2⟩ } (.slice aA x.all.length ac) uv kv) _ rfl (LZ.out _ zf).s Tryz.underlying41 rfl zk ?_)|((with_reducible refine qi 41 (.tmp 4) ?_);refine qc rfl 41 (.tmp 4) (.tmp 101) rfl (w.heap.size+1+1) 41 qy (arE { x with win:=⟨ka,ks,km,kl⟩,qp:=aq,clk:=⟨f2,l2,m2,t2,is2,tm2,sp2,wt2,si2,tr2,rn2⟩ } (.slice aA x.all.length ac) uv kv) rfl rfl (LZ.out _ zf).r rfl zk zq ?_;intro wz Bz Fz))
         go_meet;exact⟨Bz,(LZ.out _ (Fr.refl [] wy)).res Fz⟩
        case rest=>
         obtain⟨Bz,Fz⟩:=hcut;refine ‹∀(a:Act) (w:World),Code.wp Tryz.prog Code.ret _ a w->_› _ _ (wp_ret ?_);try simp only [Exit.then]
         change bodyPost Tryz.prog _ _ .ret _ _;refine bodyPost_ret (kF 4 41 ⟨(w.heap.size+1+1),0,none⟩ _ zr zr (qw Bz)) zr ?_;rw [HY.out];exact⟨rfl,Fz⟩
    ·rw [hac] at c27
     have HAC:=hI hac;clear hac;go_upto_region 9 with fail
     go_cut [] (fun wx=>Blk wx (w.heap.size+1+1) 41 (arE { x with win:=⟨ka,ks,km,kl⟩ } (.slice aA x.all.length ac) uv kv)/\Fr [] w wx);case first=>
      go_wp2_with (first
        | ((with_reducible refine qj 41 (.tmp 2) ?_);refine qf rfl 41 (.tmp 2) rfl w.heap.size 41 (arE { x with win:=⟨ka,ks,km,kl⟩ } (.slice aA x.all.length ac) uv kv) _ rfl (L7.out _ zf).s Tryz.underlying41 rfl zk ?_)|((with_reducible refine qi 41 (.tmp 4) ?_);refine qc rfl 41 (.tmp 4) (.tmp 66) rfl (w.heap.size+1+1) 41 qy (arE { x with win:=⟨ka,ks,km,kl⟩ } (.slice aA x.all.length ac) uv kv) rfl rfl (L7.out _ zf).r rfl zk zq ?_;intro wz Bz Fz))
      go_meet;exact⟨Bz,(L7.out _ (Fr.refl [] w7)).res Fz⟩
     case rest=>
      obtain⟨Bz,Fz⟩:=hcut;refine ‹∀(a:Act) (w:World),Code.wp Tryz.prog Code.ret _ a w->_› _ _ (wp_ret ?_);try simp only [Exit.then]
      change bodyPost Tryz.prog _ _ .ret _ _;refine bodyPost_ret (kF 4 41 ⟨(w.heap.size+1+1),0,none⟩ _ zr zr (qw Bz)) zr ?_;rw [Y0.out _ _ _ HM.out (by rw [HAC.out];rfl)];exact⟨rfl,Fz⟩
   ·have hd1:decide (mo=0)=false:=by simpa using hmo
    have hd2:(mo == 0)=false:=(by simpa using hmo);have HM:=hI hmo;clear hmo;have hno:¬ (mo=0/\(!true || x.qp)=true):=fun h=>HM.out h.1;have HNO:=hI hno;clear hno;go_upto_region 10 with fail
    clear c27;obtain⟨aq,HAQ⟩:∃ aq,Hid (aq=(x.qp || true)):=⟨_,hI rfl⟩;go_cut [] (fun wx=>Lo w wx w.heap.size (w.heap.size+1+1) (arE { x with win:=⟨ka,ks,km,kl⟩,qp:=aq } (.slice aA x.all.length ac) uv kv)/\Fr [w.heap.size] w7 wx);case first=>
     have c27:w7.cell? ⟨w.heap.size,27,none⟩=some (.bool x.qp):=(L7.out _ (Fr.refl [] w7)).s.cell 27;have z27:=(L7.out _ (Fr.refl [] w7)).s.frozen 27;have hl7:=(L7.out _ (Fr.refl [] w7)).s.lt;cases hac2:x.qp;all_goals
      rw [hac2] at c27;have HAC2:=hI hac2;clear hac2;go_wp2_with fail
      go_meet;have hl:=(L7.out _ (Fr.refl [] w7)).cell 27 (.bool aq);simp only [arE,zqA,zqB,zqC] at hl |-
      have he:=HAQ.out;rw [HAC2.out] at he;simp only [Bool.true_or,Bool.false_or,Bool.or_true,Bool.or_false] at he;rw [he] at hl |-
      exact⟨hl,(Fr.refl [w.heap.size] w7).setCell (p:=⟨w.heap.size,27,none⟩) (.inl zs) _⟩
    case rest=>
     obtain⟨l8,f8⟩:=hcut;have L8:Hid (∀ W,Fr [] wc W->Lo w W w.heap.size (w.heap.size+1+1) (arE { x with win:=⟨ka,ks,km,kl⟩,qp:=aq } (.slice aA x.all.length ac) uv kv)):=hI (fun W f=>l8.grow f);have V8:Hid (∀ W,Fr [] wc W->Blk W b9 32 #[.int .i64 ka, .int .i64 ks, .int .i64 km, .int .i64 kl]):=hI (fun W f=>((V7.out _ (Fr.refl [] w7)).fr f8 zv).fr f zs);clear l8 f8 L7 V7;have c31:wc.cell? ⟨w.heap.size,31,none⟩=some (.int .i64 x.timed):=(L8.out _ (Fr.refl [] wc)).s.cell 31;have e0:wc.cell? ⟨b9,0,none⟩=some (.int .i64 ka):=(by simpa using (V8.out _ (Fr.refl [] wc)).cell 0);by_cases ht:0<x.timed/\x.timed<=ka
     ·obtain⟨ht1,ht2⟩:=ht
      have hd3:decide (0<x.timed)=true:=(by simpa using ht1);have hd4:decide (x.timed > 0)=true:=(by simpa using ht1);have hd5:decide (x.timed<=ka)=true:=(by simpa using ht2);have hd6:decide (ka≥x.timed)=true:=(by simpa using ht2);have hy:=Y1.out ⟨ka,ks,km,kl⟩ mo true HNO.out ht1 ht2;rw [<- HAQ.out] at hy;generalize Rto.qR x.clk (x.now - x.since)=sa at *
      obtain⟨⟨f1,l1,m1,t1,is1,tm1,sp1,wt1,si1,tr1,rn1⟩,er1⟩:=sa;dsimp only at hy HS2 HSa;generalize Rto.qW ⟨f1,l1,m1,t1,is1,tm1,sp1,wt1,si1,tr1,rn1⟩=sb at *
      obtain⟨f2,l2,m2,t2,is2,tm2,sp2,wt2,si2,tr2,rn2⟩:=sb;have HY:=hI hy;clear hy ht1 ht2;go_upto_region 12 with fail
      have c29:wc.cell? ⟨w.heap.size,29,none⟩=some (.int .i64 x.now):=(L8.out _ (Fr.refl [] wc)).s.cell 29;have c30:wc.cell? ⟨w.heap.size,30,none⟩=some (.int .i64 x.since):=(L8.out _ (Fr.refl [] wc)).s.cell 30;go_upto_region 13 with (first
       | ((with_reducible refine qj 36 (.tmp 84) ?_);refine qC rfl 36 (.tmp 84) rfl w.heap.size 10 41 (arE { x with win:=⟨ka,ks,km,kl⟩,qp:=aq } (.slice aA x.all.length ac) uv kv) (arC x.clk) _ rfl (L8.out _ zf).s rfl Tryz.underlying36 rfl zk ?_)|(go_at_call 135;refine (HSa.out _).mono ?_;rintro e wd ⟨rfl,fd⟩)|((with_reducible refine qi 36 (.tmp 12) ?_);refine qc rfl 36 (.tmp 12) (.tmp 92) rfl wd.heap.size 36 ckZ #[.int .i64 f1, .int .i64 l1, .int .i64 m1, .int .i64 t1, .bool is1, .int .i64 tm1, .int .i64 sp1, .int .i64 wt1, .int .i64 si1, .int .i64 tr1, .bool rn1] rfl rfl (Blk.new wd 36 ckZ) rfl zk zq ?_;intro we Be Fe))
      have le:Lo w we w.heap.size (w.heap.size+1+1) (arE { x with win:=⟨ka,ks,km,kl⟩,qp:=aq } (.slice aA x.all.length ac) uv kv):=(L8.out _ (fd.alloc (.cells ckZ 36))).far Fe (by have:=(L8.out _ fd).f.size;omega) (by have:=(L8.out _ fd).s.lt;omega) (by have:=(L8.out _ fd).r.lt;omega);have ne_:w.heap.size+1+1<wd.heap.size:=(L8.out _ fd).r.lt;generalize wd.heap.size=bc at *
      have LE:=hI le;have VE:=hI Be;clear Fe le Be c29 c30 c31 e0;go_upto_region 14 with (first
       | ((with_reducible refine qj 36 (.tmp 12) ?_);refine qf rfl 36 (.tmp 12) rfl bc 36 #[.int .i64 f1, .int .i64 l1, .int .i64 m1, .int .i64 t1, .bool is1, .int .i64 tm1, .int .i64 sp1, .int .i64 wt1, .int .i64 si1, .int .i64 tr1, .bool rn1] _ rfl VE.out Tryz.underlying36 rfl zk ?_)|((with_reducible refine qi 36 (.tmp 95) ?_);refine qI rfl 36 (.tmp 95) (.tmp 94) rfl w.heap.size 10 41 (arE { x with win:=⟨ka,ks,km,kl⟩,qp:=aq } (.slice aA x.all.length ac) uv kv) #[.int .i64 f1, .int .i64 l1, .int .i64 m1, .int .i64 t1, .bool is1, .int .i64 tm1, .int .i64 sp1, .int .i64 wt1, .int .i64 si1, .int .i64 tr1, .bool rn1] (arE { x with win:=⟨ka,ks,km,kl⟩,qp:=aq,clk:=⟨f1,l1,m1,t1,is1,tm1,sp1,wt1,si1,tr1,rn1⟩ } (.slice aA x.all.length ac) uv kv) rfl rfl LE.out.s zs zk zq (vV _ _ _ _ ⟨f1,l1,m1,t1,is1,tm1,sp1,wt1,si1,tr1,rn1⟩) ?_;intro wf Bf Ff;have lf:=LE.out.set Ff Bf;have cf:=lf.s.cell 31;have zf:=lf.s.frozen 31;have hlf:=lf.s.lt;simp at cf;have LF:=hI lf;clear lf Bf Ff))
      have lg:Lo w (wf.setCell ⟨w.heap.size,31,none⟩ (.int .i64 0)) w.heap.size (w.heap.size+1+1) (arE { x with win:=⟨ka,ks,km,kl⟩,qp:=aq,timed:=0,clk:=⟨f1,l1,m1,t1,is1,tm1,sp1,wt1,si1,tr1,rn1⟩ } (.slice aA x.all.length ac) uv kv):=by
       have hh:=LF.out.cell 31 (.int .i64 0);simp only [arE,zqA,zqB,zqC] at hh |-
       exact hh
      generalize wf.setCell ⟨w.heap.size,31,none⟩ (.int .i64 0)=wg at *
      have LG:Hid (∀ W,Fr [] wg W->Lo w W w.heap.size (w.heap.size+1+1) (arE { x with win:=⟨ka,ks,km,kl⟩,qp:=aq,timed:=0,clk:=⟨f1,l1,m1,t1,is1,tm1,sp1,wt1,si1,tr1,rn1⟩ } (.slice aA x.all.length ac) uv kv)):=hI (fun W f=>lg.grow f);clear lg cf zf hlf LF LE VE;go_upto_region 15 with (first
         | ((with_reducible refine qj 36 (.tmp 97) ?_);refine qC rfl 36 (.tmp 97) rfl w.heap.size 10 41 (arE { x with win:=⟨ka,ks,km,kl⟩,qp:=aq,timed:=0,clk:=⟨f1,l1,m1,t1,is1,tm1,sp1,wt1,si1,tr1,rn1⟩ } (.slice aA x.all.length ac) uv kv) #[.int .i64 f1, .int .i64 l1, .int .i64 m1, .int .i64 t1, .bool is1, .int .i64 tm1, .int .i64 sp1, .int .i64 wt1, .int .i64 si1, .int .i64 tr1, .bool rn1] _ rfl (LG.out _ zf).s rfl Tryz.underlying36 rfl zk ?_)|(go_at_call 69;refine (HS2.out _).mono ?_;rintro e wx ⟨rfl,fx⟩)|((with_reducible refine qi 36 (.tmp 100) ?_);refine qI rfl 36 (.tmp 100) (.tmp 99) rfl w.heap.size 10 41 (arE { x with win:=⟨ka,ks,km,kl⟩,qp:=aq,timed:=0,clk:=⟨f1,l1,m1,t1,is1,tm1,sp1,wt1,si1,tr1,rn1⟩ } (.slice aA x.all.length ac) uv kv) #[.int .i64 f2, .int .i64 l2, .int .i64 m2, .int .i64 t2, .bool is2, .int .i64 tm2, .int .i64 sp2, .int .i64 wt2, .int .i64 si2, .int .i64 tr2, .bool rn2] (arE { x with win:=⟨ka,ks,km,kl⟩,qp:=aq,timed:=0,clk:=⟨f2,l2,m2,t2,is2,tm2,sp2,wt2,si2,tr2,rn2⟩ } (.slice aA x.all.length ac) uv kv) rfl rfl (LG.out _ fx).s zs zk zq (vV _ _ _ _ ⟨f2,l2,m2,t2,is2,tm2,sp2,wt2,si2,tr2,rn2⟩) ?_;intro wy By Fy))
      have LZ:Hid (∀ W,Fr [] wy W->Lo w W w.heap.size (w.heap.size+1+1) (arE { x with win:=⟨ka,ks,km,kl⟩,qp:=aq,timed:=0,clk:=⟨f2,l2,m2,t2,is2,tm2,sp2,wt2,si2,tr2,rn2⟩ } (.slice aA x.all.length ac) uv kv)):=hI (fun W f=>((LG.out _ fx).set Fy By).grow f);clear By Fy;try dsimp only [Act.put]
      go_cut [] (fun wx=>Blk wx (w.heap.size+1+1) 41 (arE { x with win:=⟨ka,ks,km,kl⟩,qp:=aq,timed:=0,clk:=⟨f2,l2,m2,t2,is2,tm2,sp2,wt2,si2,tr2,rn2⟩ } (.slice aA x.all.length ac) uv kv)/\Fr [] w wx);case first=>
       go_wp2_with (first
         | ((with_reducible refine qj 41 (.tmp 2) ?_);refine qf rfl 41 (.tmp 2) rfl w.heap.size 41 (arE { x with win:=⟨ka,ks,km,kl⟩,qp:=aq,timed:=0,clk:=⟨f2,l2,m2,t2,is2,tm2,sp2,wt2,si2,tr2,rn2⟩ } (.slice aA x.all.length ac) uv kv) _ rfl (LZ.out _ zf).s Tryz.underlying41 rfl zk ?_)|((with_reducible refine qi 41 (.tmp 4) ?_);refine qc rfl 41 (.tmp 4) (.tmp 101) rfl (w.heap.size+1+1) 41 qy (arE { x with win:=⟨ka,ks,km,kl⟩,qp:=aq,timed:=0,clk:=⟨f2,l2,m2,t2,is2,tm2,sp2,wt2,si2,tr2,rn2⟩ } (.slice aA x.all.length ac) uv kv) rfl rfl (LZ.out _ zf).r rfl zk zq ?_;intro wz Bz Fz))
       go_meet;exact⟨Bz,(LZ.out _ (Fr.refl [] wy)).res Fz⟩
      case rest=>
       obtain⟨Bz,Fz⟩:=hcut;refine ‹∀(a:Act) (w:World),Code.wp Tryz.prog Code.ret _ a w->_› _ _ (wp_ret ?_);try simp only [Exit.then]
       change bodyPost Tryz.prog _ _ .ret _ _;refine bodyPost_ret (kF 4 41 ⟨(w.heap.size+1+1),0,none⟩ _ zr zr (qw Bz)) zr ?_;rw [HY.out];exact⟨rfl,Fz⟩
     ·have hy:=Y2.out ⟨ka,ks,km,kl⟩ mo true HNO.out ht
      rw [<- HAQ.out] at hy;generalize Rto.qW x.clk=sb at *
      obtain⟨f2,l2,m2,t2,is2,tm2,sp2,wt2,si2,tr2,rn2⟩:=sb;have HY:=hI hy;clear hy;by_cases ht1:0<x.timed
      ·have ht2:¬ x.timed<=ka:=fun h=>ht ⟨ht1,h⟩
       have hd3:decide (0<x.timed)=true:=(by simpa using ht1);have hd4:decide (x.timed > 0)=true:=(by simpa using ht1);have hd5:decide (x.timed<=ka)=false:=(by simpa using ht2);have hd6:decide (ka≥x.timed)=false:=(by simpa using ht2);clear ht ht1 ht2;go_upto_region 15 with (first
          | ((with_reducible refine qj 36 (.tmp 97) ?_);refine qC rfl 36 (.tmp 97) rfl w.heap.size 10 41 (arE { x with win:=⟨ka,ks,km,kl⟩,qp:=aq } (.slice aA x.all.length ac) uv kv) (arC x.clk) _ rfl (L8.out _ zf).s rfl Tryz.underlying36 rfl zk ?_)|(go_at_call 69;refine (HS.out _).mono ?_;rintro e wx ⟨rfl,fx⟩)|((with_reducible refine qi 36 (.tmp 100) ?_);refine qI rfl 36 (.tmp 100) (.tmp 99) rfl w.heap.size 10 41 (arE { x with win:=⟨ka,ks,km,kl⟩,qp:=aq } (.slice aA x.all.length ac) uv kv) #[.int .i64 f2, .int .i64 l2, .int .i64 m2, .int .i64 t2, .bool is2, .int .i64 tm2, .int .i64 sp2, .int .i64 wt2, .int .i64 si2, .int .i64 tr2, .bool rn2] (arE { x with win:=⟨ka,ks,km,kl⟩,qp:=aq,clk:=⟨f2,l2,m2,t2,is2,tm2,sp2,wt2,si2,tr2,rn2⟩ } (.slice aA x.all.length ac) uv kv) rfl rfl (L8.out _ fx).s zs zk zq (vV _ _ _ _ ⟨f2,l2,m2,t2,is2,tm2,sp2,wt2,si2,tr2,rn2⟩) ?_;intro wy By Fy))
       have LZ:Hid (∀ W,Fr [] wy W->Lo w W w.heap.size (w.heap.size+1+1) (arE { x with win:=⟨ka,ks,km,kl⟩,qp:=aq,clk:=⟨f2,l2,m2,t2,is2,tm2,sp2,wt2,si2,tr2,rn2⟩ } (.slice aA x.all.length ac) uv kv)):=hI (fun W f=>((L8.out _ fx).set Fy By).grow f);clear By Fy;try dsimp only [Act.put]
       go_cut [] (fun wx=>Blk wx (w.heap.size+1+1) 41 (arE { x with win:=⟨ka,ks,km,kl⟩,qp:=aq,clk:=⟨f2,l2,m2,t2,is2,tm2,sp2,wt2,si2,tr2,rn2⟩ } (.slice aA x.all.length ac) uv kv)/\Fr [] w wx);case first=>
        go_wp2_with (first
          | ((with_reducible refine qj 41 (.tmp 2) ?_);refine qf rfl 41 (.tmp 2) rfl w.heap.size 41 (arE { x with win:=⟨ka,ks,km,kl⟩,qp:=aq,clk:=⟨f2,l2,m2,t2,is2,tm2,sp2,wt2,si2,tr2,rn2⟩ } (.slice aA x.all.length ac) uv kv) _ rfl (LZ.out _ zf).s Tryz.underlying41 rfl zk ?_)|((with_reducible refine qi 41 (.tmp 4) ?_);refine qc rfl 41 (.tmp 4) (.tmp 101) rfl (w.heap.size+1+1) 41 qy (arE { x with win:=⟨ka,ks,km,kl⟩,qp:=aq,clk:=⟨f2,l2,m2,t2,is2,tm2,sp2,wt2,si2,tr2,rn2⟩ } (.slice aA x.all.length ac) uv kv) rfl rfl (LZ.out _ zf).r rfl zk zq ?_;intro wz Bz Fz))
        go_meet;exact⟨Bz,(LZ.out _ (Fr.refl [] wy)).res Fz⟩
       case rest=>
        obtain⟨Bz,Fz⟩:=hcut;refine ‹∀(a:Act) (w:World),Code.wp Tryz.prog Code.ret _ a w->_› _ _ (wp_ret ?_);try simp only [Exit.then]
        change bodyPost Tryz.prog _ _ .ret _ _;refine bodyPost_ret (kF 4 41 ⟨(w.heap.size+1+1),0,none⟩ _ zr zr (qw Bz)) zr ?_;rw [HY.out];exact⟨rfl,Fz⟩
      ·have hd3:decide (0<x.timed)=false:=by simpa using ht1
       have hd4:decide (x.timed > 0)=false:=(by simpa using ht1);clear ht ht1;go_upto_region 15 with (first
          | ((with_reducible refine qj 36 (.tmp 97) ?_);refine qC rfl 36 (.tmp 97) rfl w.heap.size 10 41 (arE { x with win:=⟨ka,ks,km,kl⟩,qp:=aq } (.slice aA x.all.length ac) uv kv) (arC x.clk) _ rfl (L8.out _ zf).s rfl Tryz.underlying36 rfl zk ?_)|(go_at_call 69;refine (HS.out _).mono ?_;rintro e wx ⟨rfl,fx⟩)|((with_reducible refine qi 36 (.tmp 100) ?_);refine qI rfl 36 (.tmp 100) (.tmp 99) rfl w.heap.size 10 41 (arE { x with win:=⟨ka,ks,km,kl⟩,qp:=aq } (.slice aA x.all.length ac) uv kv) #[.int .i64 f2, .int .i64 l2, .int .i64 m2, .int .i64 t2, .bool is2, .int .i64 tm2, .int .i64 sp2, .int .i64 wt2, .int .i64 si2, .int .i64 tr2, .bool rn2] (arE { x with win:=⟨ka,ks,km,kl⟩,qp:=aq,clk:=⟨f2,l2,m2,t2,is2,tm2,sp2,wt2,si2,tr2,rn2⟩ } (.slice aA x.all.length ac) uv kv) rfl rfl (L8.out _ fx).s zs zk zq (vV _ _ _ _ ⟨f2,l2,m2,t2,is2,tm2,sp2,wt2,si2,tr2,rn2⟩) ?_;intro wy By Fy))
       have LZ:Hid (∀ W,Fr [] wy W->Lo w W w.heap.size (w.heap.size+1+1) (arE { x with win:=⟨ka,ks,km,kl⟩,qp:=aq,clk:=⟨f2,l2,m2,t2,is2,tm2,sp2,wt2,si2,tr2,rn2⟩ } (.slice aA x.all.length ac) uv kv)):=hI (fun W f=>((L8.out _ fx).set Fy By).grow f);clear By Fy;try dsimp only [Act.put]
       go_cut [] (fun wx=>Blk wx (w.heap.size+1+1) 41 (arE { x with win:=⟨ka,ks,km,kl⟩,qp:=aq,clk:=⟨f2,l2,m2,t2,is2,tm2,sp2,wt2,si2,tr2,rn2⟩ } (.slice aA x.all.length ac) uv kv)/\Fr [] w wx);case first=>
        go_wp2_with (first
          | ((with_reducible refine qj 41 (.tmp 2) ?_);refine qf rfl 41 (.tmp 2) rfl w.heap.size 41 (arE { x with win:=⟨ka,ks,km,kl⟩,qp:=aq,clk:=⟨f2,l2,m2,t2,is2,tm2,sp2,wt2,si2,tr2,rn2⟩ } (.slice aA x.all.length ac) uv kv) _ rfl (LZ.out _ zf).s Tryz.underlying41 rfl zk ?_)|((with_reducible refine qi 41 (.tmp 4) ?_);refine qc rfl 41 (.tmp 4) (.tmp 101) rfl (w.heap.size+1+1) 41 qy (arE { x with win:=⟨ka,ks,km,kl⟩,qp:=aq,clk:=⟨f2,l2,m2,t2,is2,tm2,sp2,wt2,si2,tr2,rn2⟩ } (.slice aA x.all.length ac) uv kv) rfl rfl (LZ.out _ zf).r rfl zk zq ?_;intro wz Bz Fz))
        go_meet;exact⟨Bz,(LZ.out _ (Fr.refl [] wy)).res Fz⟩
       case rest=>
        obtain⟨Bz,Fz⟩:=hcut;refine ‹∀(a:Act) (w:World),Code.wp Tryz.prog Code.ret _ a w->_› _ _ (wp_ret ?_);try simp only [Exit.then]
        change bodyPost Tryz.prog _ _ .ret _ _;refine bodyPost_ret (kF 4 41 ⟨(w.heap.size+1+1),0,none⟩ _ zr zr (qw Bz)) zr ?_;rw [HY.out];exact⟨rfl,Fz⟩
  ·rw [if_neg zs] at hup
   have hA:∀ W,Calls Tryz.prog 121 #[Win.agW x.win, .int .i64 pl, .int .i64 pw] W (fun e w'=>e = .returned (.tuple #[Win.agW ⟨ka,ks,km,kl⟩, .int .i64 mo, .int .i64 er])/\Fr [] W w'):=fun W=>by have:=HA.out W;rw [hup] at this;exact this
   clear hup;have HA2:=hI hA;clear hA HA;go_upto_region 7 with (first
      | ((with_reducible refine qj 32 (.tmp 44) ?_);refine qC rfl 32 (.tmp 44) rfl w.heap.size 6 41 (arE x (.slice aA x.all.length ac) uv kv) (arW x.win) _ rfl (L2.out _ zf).s rfl Tryz.underlying32 rfl zk ?_)|(go_at_call 121;refine (HA2.out _).mono ?_;rintro e w5 ⟨rfl,f5⟩)|((with_reducible refine qi 32 (.tmp 9) ?_);refine qc rfl 32 (.tmp 9) (.tmp 51) rfl w5.heap.size 32 #[.int .i64 0, .int .i64 0, .int .i64 0, .int .i64 0] #[.int .i64 ka, .int .i64 ks, .int .i64 km, .int .i64 kl] rfl rfl (Blk.new w5 32 #[.int .i64 0, .int .i64 0, .int .i64 0, .int .i64 0]) rfl zk zq ?_;intro w6 B6 F6))
   have l6:Lo w w6 w.heap.size (w.heap.size+1+1) (arE x (.slice aA x.all.length ac) uv kv):=(L2.out _ (f5.alloc (.cells #[.int .i64 0, .int .i64 0, .int .i64 0, .int .i64 0] 32))).far F6 (by have:=(L2.out _ f5).f.size;omega) (by have:=(L2.out _ f5).s.lt;omega) (by have:=(L2.out _ f5).r.lt;omega);have n6:w.heap.size+1+1<w5.heap.size:=(L2.out _ f5).r.lt;generalize w5.heap.size=b9 at *
   have L6:=hI l6;have V6:=hI B6;clear F6 l6 B6 c3 L2 B2 HA2;go_upto_region 8 with (first
      | ((with_reducible refine qj 32 (.tmp 9) ?_);refine qf rfl 32 (.tmp 9) rfl b9 32 #[.int .i64 ka, .int .i64 ks, .int .i64 km, .int .i64 kl] _ rfl V6.out Tryz.underlying32 rfl zk ?_)|((with_reducible refine qi 32 (.tmp 55) ?_);refine qI rfl 32 (.tmp 55) (.tmp 54) rfl w.heap.size 6 41 (arE x (.slice aA x.all.length ac) uv kv) #[.int .i64 ka, .int .i64 ks, .int .i64 km, .int .i64 kl] (arE { x with win:=⟨ka,ks,km,kl⟩ } (.slice aA x.all.length ac) uv kv) rfl rfl L6.out.s zs zk zq (qfa _ _ _ _ ⟨ka,ks,km,kl⟩) ?_;intro w7 B7 F7))
   have L7:Hid (∀ W,Fr [] w7 W->Lo w W w.heap.size (w.heap.size+1+1) (arE { x with win:=⟨ka,ks,km,kl⟩ } (.slice aA x.all.length ac) uv kv)):=hI (fun W f=>(L6.out.set F7 B7).grow f);have V7:Hid (∀ W,Fr [] w7 W->Blk W b9 32 #[.int .i64 ka, .int .i64 ks, .int .i64 km, .int .i64 kl]):=hI (fun W f=>(V6.out.fr F7 zv).fr f zs);clear F7 B7 L6 V6;have c27:w7.cell? ⟨w.heap.size,27,none⟩=some (.bool x.qp):=(L7.out _ (Fr.refl [] w7)).s.cell 27;by_cases hmo:mo=0
   ·have hd1:decide (mo=0)=true:=by simpa using hmo
    have hd2:(mo == 0)=true:=(by simpa using hmo);have HM:=hI hmo;clear hmo;go_upto_region 9 with fail
    go_cut [] (fun wx=>Blk wx (w.heap.size+1+1) 41 (arE { x with win:=⟨ka,ks,km,kl⟩ } (.slice aA x.all.length ac) uv kv)/\Fr [] w wx);case first=>
     go_wp2_with (first
       | ((with_reducible refine qj 41 (.tmp 2) ?_);refine qf rfl 41 (.tmp 2) rfl w.heap.size 41 (arE { x with win:=⟨ka,ks,km,kl⟩ } (.slice aA x.all.length ac) uv kv) _ rfl (L7.out _ zf).s Tryz.underlying41 rfl zk ?_)|((with_reducible refine qi 41 (.tmp 4) ?_);refine qc rfl 41 (.tmp 4) (.tmp 66) rfl (w.heap.size+1+1) 41 qy (arE { x with win:=⟨ka,ks,km,kl⟩ } (.slice aA x.all.length ac) uv kv) rfl rfl (L7.out _ zf).r rfl zk zq ?_;intro wz Bz Fz))
     go_meet;exact⟨Bz,(L7.out _ (Fr.refl [] w7)).res Fz⟩
    case rest=>
     obtain⟨Bz,Fz⟩:=hcut;refine ‹∀(a:Act) (w:World),Code.wp Tryz.prog Code.ret _ a w->_› _ _ (wp_ret ?_);try simp only [Exit.then]
     change bodyPost Tryz.prog _ _ .ret _ _;refine bodyPost_ret (kF 4 41 ⟨(w.heap.size+1+1),0,none⟩ _ zr zr (qw Bz)) zr ?_;rw [Y0.out _ _ _ HM.out zs];exact⟨rfl,Fz⟩
   ·have hd1:decide (mo=0)=false:=by simpa using hmo
    have hd2:(mo == 0)=false:=(by simpa using hmo);have HM:=hI hmo;clear hmo;have hno:¬ (mo=0/\(!false || x.qp)=true):=fun h=>HM.out h.1;have HNO:=hI hno;clear hno;go_upto_region 10 with fail
    clear c27;obtain⟨aq,HAQ⟩:∃ aq,Hid (aq=(x.qp || false)):=⟨_,hI rfl⟩;go_cut [] (fun wx=>Lo w wx w.heap.size (w.heap.size+1+1) (arE { x with win:=⟨ka,ks,km,kl⟩,qp:=aq } (.slice aA x.all.length ac) uv kv)/\Fr [w.heap.size] w7 wx);case first=>
     have c27:w7.cell? ⟨w.heap.size,27,none⟩=some (.bool x.qp):=(L7.out _ (Fr.refl [] w7)).s.cell 27;have z27:=(L7.out _ (Fr.refl [] w7)).s.frozen 27;have hl7:=(L7.out _ (Fr.refl [] w7)).s.lt;cases hac2:x.qp;all_goals
      rw [hac2] at c27;have HAC2:=hI hac2;clear hac2;go_wp2_with fail
      go_meet;have hl:=(L7.out _ (Fr.refl [] w7)).cell 27 (.bool aq);simp only [arE,zqA,zqB,zqC] at hl |-
      have he:=HAQ.out;rw [HAC2.out] at he;simp only [Bool.true_or,Bool.false_or,Bool.or_true,Bool.or_false] at he;rw [he] at hl |-
      exact⟨hl,(Fr.refl [w.heap.size] w7).setCell (p:=⟨w.heap.size,27,none⟩) (.inl zs) _⟩
    case rest=>
     obtain⟨l8,f8⟩:=hcut;have L8:Hid (∀ W,Fr [] wc W->Lo w W w.heap.size (w.heap.size+1+1) (arE { x with win:=⟨ka,ks,km,kl⟩,qp:=aq } (.slice aA x.all.length ac) uv kv)):=hI (fun W f=>l8.grow f);have V8:Hid (∀ W,Fr [] wc W->Blk W b9 32 #[.int .i64 ka, .int .i64 ks, .int .i64 km, .int .i64 kl]):=hI (fun W f=>((V7.out _ (Fr.refl [] w7)).fr f8 zv).fr f zs);clear l8 f8 L7 V7;have c31:wc.cell? ⟨w.heap.size,31,none⟩=some (.int .i64 x.timed):=(L8.out _ (Fr.refl [] wc)).s.cell 31;have e0:wc.cell? ⟨b9,0,none⟩=some (.int .i64 ka):=(by simpa using (V8.out _ (Fr.refl [] wc)).cell 0);by_cases ht:0<x.timed/\x.timed<=ka
     ·obtain⟨ht1,ht2⟩:=ht
      have hd3:decide (0<x.timed)=true:=(by simpa using ht1);have hd4:decide (x.timed > 0)=true:=(by simpa using ht1);have hd5:decide (x.timed<=ka)=true:=(by simpa using ht2);have hd6:decide (ka≥x.timed)=true:=(by simpa using ht2);have hy:=Y1.out ⟨ka,ks,km,kl⟩ mo false HNO.out ht1 ht2;rw [<- HAQ.out] at hy;generalize Rto.qR x.clk (x.now - x.since)=sa at *
      obtain⟨⟨f1,l1,m1,t1,is1,tm1,sp1,wt1,si1,tr1,rn1⟩,er1⟩:=sa;dsimp only at hy HS2 HSa;generalize Rto.qW ⟨f1,l1,m1,t1,is1,tm1,sp1,wt1,si1,tr1,rn1⟩=sb at *
      obtain⟨f2,l2,m2,t2,is2,tm2,sp2,wt2,si2,tr2,rn2⟩:=sb;have HY:=hI hy;clear hy ht1 ht2;go_upto_region 12 with fail
      have c29:wc.cell? ⟨w.heap.size,29,none⟩=some (.int .i64 x.now):=(L8.out _ (Fr.refl [] wc)).s.cell 29;have c30:wc.cell? ⟨w.heap.size,30,none⟩=some (.int .i64 x.since):=(L8.out _ (Fr.refl [] wc)).s.cell 30;go_upto_region 13 with (first
       | ((with_reducible refine qj 36 (.tmp 84) ?_);refine qC rfl 36 (.tmp 84) rfl w.heap.size 10 41 (arE { x with win:=⟨ka,ks,km,kl⟩,qp:=aq } (.slice aA x.all.length ac) uv kv) (arC x.clk) _ rfl (L8.out _ zf).s rfl Tryz.underlying36 rfl zk ?_)|(go_at_call 135;refine (HSa.out _).mono ?_;rintro e wd ⟨rfl,fd⟩)|((with_reducible refine qi 36 (.tmp 12) ?_);refine qc rfl 36 (.tmp 12) (.tmp 92) rfl wd.heap.size 36 ckZ #[.int .i64 f1, .int .i64 l1, .int .i64 m1, .int .i64 t1, .bool is1, .int .i64 tm1, .int .i64 sp1, .int .i64 wt1, .int .i64 si1, .int .i64 tr1, .bool rn1] rfl rfl (Blk.new wd 36 ckZ) rfl zk zq ?_;intro we Be Fe))
      have le:Lo w we w.heap.size (w.heap.size+1+1) (arE { x with win:=⟨ka,ks,km,kl⟩,qp:=aq } (.slice aA x.all.length ac) uv kv):=(L8.out _ (fd.alloc (.cells ckZ 36))).far Fe (by have:=(L8.out _ fd).f.size;omega) (by have:=(L8.out _ fd).s.lt;omega) (by have:=(L8.out _ fd).r.lt;omega);have ne_:w.heap.size+1+1<wd.heap.size:=(L8.out _ fd).r.lt;generalize wd.heap.size=bc at *
      have LE:=hI le;have VE:=hI Be;clear Fe le Be c29 c30 c31 e0;go_upto_region 14 with (first
       | ((with_reducible refine qj 36 (.tmp 12) ?_);refine qf rfl 36 (.tmp 12) rfl bc 36 #[.int .i64 f1, .int .i64 l1, .int .i64 m1, .int .i64 t1, .bool is1, .int .i64 tm1, .int .i64 sp1, .int .i64 wt1, .int .i64 si1, .int .i64 tr1, .bool rn1] _ rfl VE.out Tryz.underlying36 rfl zk ?_)|((with_reducible refine qi 36 (.tmp 95) ?_);refine qI rfl 36 (.tmp 95) (.tmp 94) rfl w.heap.size 10 41 (arE { x with win:=⟨ka,ks,km,kl⟩,qp:=aq } (.slice aA x.all.length ac) uv kv) #[.int .i64 f1, .int .i64 l1, .int .i64 m1, .int .i64 t1, .bool is1, .int .i64 tm1, .int .i64 sp1, .int .i64 wt1, .int .i64 si1, .int .i64 tr1, .bool rn1] (arE { x with win:=⟨ka,ks,km,kl⟩,qp:=aq,clk:=⟨f1,l1,m1,t1,is1,tm1,sp1,wt1,si1,tr1,rn1⟩ } (.slice aA x.all.length ac) uv kv) rfl rfl LE.out.s zs zk zq (vV _ _ _ _ ⟨f1,l1,m1,t1,is1,tm1,sp1,wt1,si1,tr1,rn1⟩) ?_;intro wf Bf Ff;have lf:=LE.out.set Ff Bf;have cf:=lf.s.cell 31;have zf:=lf.s.frozen 31;have hlf:=lf.s.lt;simp at cf;have LF:=hI lf;clear lf Bf Ff))
      have lg:Lo w (wf.setCell ⟨w.heap.size,31,none⟩ (.int .i64 0)) w.heap.size (w.heap.size+1+1) (arE { x with win:=⟨ka,ks,km,kl⟩,qp:=aq,timed:=0,clk:=⟨f1,l1,m1,t1,is1,tm1,sp1,wt1,si1,tr1,rn1⟩ } (.slice aA x.all.length ac) uv kv):=by
       have hh:=LF.out.cell 31 (.int .i64 0);simp only [arE,zqA,zqB,zqC] at hh |-
       exact hh
      generalize wf.setCell ⟨w.heap.size,31,none⟩ (.int .i64 0)=wg at *
      have LG:Hid (∀ W,Fr [] wg W->Lo w W w.heap.size (w.heap.size+1+1) (arE { x with win:=⟨ka,ks,km,kl⟩,qp:=aq,timed:=0,clk:=⟨f1,l1,m1,t1,is1,tm1,sp1,wt1,si1,tr1,rn1⟩ } (.slice aA x.all.length ac) uv kv)):=hI (fun W f=>lg.grow f);clear lg cf zf hlf LF LE VE;go_upto_region 15 with (first
         | ((with_reducible refine qj 36 (.tmp 97) ?_);refine qC rfl 36 (.tmp 97) rfl w.heap.size 10 41 (arE { x with win:=⟨ka,ks,km,kl⟩,qp:=aq,timed:=0,clk:=⟨f1,l1,m1,t1,is1,tm1,sp1,wt1,si1,tr1,rn1⟩ } (.slice aA x.all.length ac) uv kv) #[.int .i64 f1, .int .i64 l1, .int .i64 m1, .int .i64 t1, .bool is1, .int .i64 tm1, .int .i64 sp1, .int .i64 wt1, .int .i64 si1, .int .i64 tr1, .bool rn1] _ rfl (LG.out _ zf).s rfl Tryz.underlying36 rfl zk ?_)|(go_at_call 69;refine (HS2.out _).mono ?_;rintro e wx ⟨rfl,fx⟩)|((with_reducible refine qi 36 (.tmp 100) ?_);refine qI rfl 36 (.tmp 100) (.tmp 99) rfl w.heap.size 10 41 (arE { x with win:=⟨ka,ks,km,kl⟩,qp:=aq,timed:=0,clk:=⟨f1,l1,m1,t1,is1,tm1,sp1,wt1,si1,tr1,rn1⟩ } (.slice aA x.all.length ac) uv kv) #[.int .i64 f2, .int .i64 l2, .int .i64 m2, .int .i64 t2, .bool is2, .int .i64 tm2, .int .i64 sp2, .int .i64 wt2, .int .i64 si2, .int .i64 tr2, .bool rn2] (arE { x with win:=⟨ka,ks,km,kl⟩,qp:=aq,timed:=0,clk:=⟨f2,l2,m2,t2,is2,tm2,sp2,wt2,si2,tr2,rn2⟩ } (.slice aA x.all.length ac) uv kv) rfl rfl (LG.out _ fx).s zs zk zq (vV _ _ _ _ ⟨f2,l2,m2,t2,is2,tm2,sp2,wt2,si2,tr2,rn2⟩) ?_;intro wy By Fy))
      have LZ:Hid (∀ W,Fr [] wy W->Lo w W w.heap.size (w.heap.size+1+1) (arE { x with win:=⟨ka,ks,km,kl⟩,qp:=aq,timed:=0,clk:=⟨f2,l2,m2,t2,is2,tm2,sp2,wt2,si2,tr2,rn2⟩ } (.slice aA x.all.length ac) uv kv)):=hI (fun W f=>((LG.out _ fx).set Fy By).grow f);clear By Fy;try dsimp only [Act.put]
      go_cut [] (fun wx=>Blk wx (w.heap.size+1+1) 41 (arE { x with win:=⟨ka,ks,km,kl⟩,qp:=aq,timed:=0,clk:=⟨f2,l2,m2,t2,is2,tm2,sp2,wt2,si2,tr2,rn2⟩ } (.slice aA x.all.length ac) uv kv)/\Fr [] w wx);case first=>
       go_wp2_with (first
         | ((with_reducible refine qj 41 (.tmp 2) ?_);refine qf rfl 41 (.tmp 2) rfl w.heap.size 41 (arE { x with win:=⟨ka,ks,km,kl⟩,qp:=aq,timed:=0,clk:=⟨f2,l2,m2,t2,is2,tm2,sp2,wt2,si2,tr2,rn2⟩ } (.slice aA x.all.length ac) uv kv) _ rfl (LZ.out _ zf).s Tryz.underlying41 rfl zk ?_)|((with_reducible refine qi 41 (.tmp 4) ?_);refine qc rfl 41 (.tmp 4) (.tmp 101) rfl (w.heap.size+1+1) 41 qy (arE { x with win:=⟨ka,ks,km,kl⟩,qp:=aq,timed:=0,clk:=⟨f2,l2,m2,t2,is2,tm2,sp2,wt2,si2,tr2,rn2⟩ } (.slice aA x.all.length ac) uv kv) rfl rfl (LZ.out _ zf).r rfl zk zq ?_;intro wz Bz Fz))
       go_meet;exact⟨Bz,(LZ.out _ (Fr.refl [] wy)).res Fz⟩
      case rest=>
       obtain⟨Bz,Fz⟩:=hcut;refine ‹∀(a:Act) (w:World),Code.wp Tryz.prog Code.ret _ a w->_› _ _ (wp_ret ?_);try simp only [Exit.then]
       change bodyPost Tryz.prog _ _ .ret _ _;refine bodyPost_ret (kF 4 41 ⟨(w.heap.size+1+1),0,none⟩ _ zr zr (qw Bz)) zr ?_;rw [HY.out];exact⟨rfl,Fz⟩
     ·have hy:=Y2.out ⟨ka,ks,km,kl⟩ mo false HNO.out ht
      rw [<- HAQ.out] at hy;generalize Rto.qW x.clk=sb at *
      obtain⟨f2,l2,m2,t2,is2,tm2,sp2,wt2,si2,tr2,rn2⟩:=sb;have HY:=hI hy;clear hy;by_cases ht1:0<x.timed
      ·have ht2:¬ x.timed<=ka:=fun h=>ht ⟨ht1,h⟩
       have hd3:decide (0<x.timed)=true:=(by simpa using ht1);have hd4:decide (x.timed > 0)=true:=(by simpa using ht1);have hd5:decide (x.timed<=ka)=false:=(by simpa using ht2);have hd6:decide (ka≥x.timed)=false:=(by simpa using ht2);clear ht ht1 ht2;go_upto_region 15 with (first
          | ((with_reducible refine qj 36 (.tmp 97) ?_);refine qC rfl 36 (.tmp 97) rfl w.heap.size 10 41 (arE { x with win:=⟨ka,ks,km,kl⟩,qp:=aq } (.slice aA x.all.length ac) uv kv) (arC x.clk) _ rfl (L8.out _ zf).s rfl Tryz.underlying36 rfl zk ?_)|(go_at_call 69;refine (HS.out _).mono ?_;rintro e wx ⟨rfl,fx⟩)|((with_reducible refine qi 36 (.tmp 100) ?_);refine qI rfl 36 (.tmp 100) (.tmp 99) rfl w.heap.size 10 41 (arE { x with win:=⟨ka,ks,km,kl⟩,qp:=aq } (.slice aA x.all.length ac) uv kv) #[.int .i64 f2, .int .i64 l2, .int .i64 m2, .int .i64 t2, .bool is2, .int .i64 tm2, .int .i64 sp2, .int .i64 wt2, .int .i64 si2, .int .i64 tr2, .bool rn2] (arE { x with win:=⟨ka,ks,km,kl⟩,qp:=aq,clk:=⟨f2,l2,m2,t2,is2,tm2,sp2,wt2,si2,tr2,rn2⟩ } (.slice aA x.all.length ac) uv kv) rfl rfl (L8.out _ fx).s zs zk zq (vV _ _ _ _ ⟨f2,l2,m2,t2,is2,tm2,sp2,wt2,si2,tr2,rn2⟩) ?_;intro wy By Fy))
       have LZ:Hid (∀ W,Fr [] wy W->Lo w W w.heap.size (w.heap.size+1+1) (arE { x with win:=⟨ka,ks,km,kl⟩,qp:=aq,clk:=⟨f2,l2,m2,t2,is2,tm2,sp2,wt2,si2,tr2,rn2⟩ } (.slice aA x.all.length ac) uv kv)):=hI (fun W f=>((L8.out _ fx).set Fy By).grow f);clear By Fy;try dsimp only [Act.put]
       go_cut [] (fun wx=>Blk wx (w.heap.size+1+1) 41 (arE { x with win:=⟨ka,ks,km,kl⟩,qp:=aq,clk:=⟨f2,l2,m2,t2,is2,tm2,sp2,wt2,si2,tr2,rn2⟩ } (.slice aA x.all.length ac) uv kv)/\Fr [] w wx);case first=>
        go_wp2_with (first
          | ((with_reducible refine qj 41 (.tmp 2) ?_);refine qf rfl 41 (.tmp 2) rfl w.heap.size 41 (arE { x with win:=⟨ka,ks,km,kl⟩,qp:=aq,clk:=⟨f2,l2,m2,t2,is2,tm2,sp2,wt2,si2,tr2,rn2⟩ } (.slice aA x.all.length ac) uv kv) _ rfl (LZ.out _ zf).s Tryz.underlying41 rfl zk ?_)|((with_reducible refine qi 41 (.tmp 4) ?_);refine qc rfl 41 (.tmp 4) (.tmp 101) rfl (w.heap.size+1+1) 41 qy (arE { x with win:=⟨ka,ks,km,kl⟩,qp:=aq,clk:=⟨f2,l2,m2,t2,is2,tm2,sp2,wt2,si2,tr2,rn2⟩ } (.slice aA x.all.length ac) uv kv) rfl rfl (LZ.out _ zf).r rfl zk zq ?_;intro wz Bz Fz))
        go_meet;exact⟨Bz,(LZ.out _ (Fr.refl [] wy)).res Fz⟩
       case rest=>
        obtain⟨Bz,Fz⟩:=hcut;refine ‹∀(a:Act) (w:World),Code.wp Tryz.prog Code.ret _ a w->_› _ _ (wp_ret ?_);try simp only [Exit.then]
        change bodyPost Tryz.prog _ _ .ret _ _;refine bodyPost_ret (kF 4 41 ⟨(w.heap.size+1+1),0,none⟩ _ zr zr (qw Bz)) zr ?_;rw [HY.out];exact⟨rfl,Fz⟩
      ·have hd3:decide (0<x.timed)=false:=by simpa using ht1
       have hd4:decide (x.timed > 0)=false:=(by simpa using ht1);clear ht ht1;go_upto_region 15 with (first
          | ((with_reducible refine qj 36 (.tmp 97) ?_);refine qC rfl 36 (.tmp 97) rfl w.heap.size 10 41 (arE { x with win:=⟨ka,ks,km,kl⟩,qp:=aq } (.slice aA x.all.length ac) uv kv) (arC x.clk) _ rfl (L8.out _ zf).s rfl Tryz.underlying36 rfl zk ?_)|(go_at_call 69;refine (HS.out _).mono ?_;rintro e wx ⟨rfl,fx⟩)|((with_reducible refine qi 36 (.tmp 100) ?_);refine qI rfl 36 (.tmp 100) (.tmp 99) rfl w.heap.size 10 41 (arE { x with win:=⟨ka,ks,km,kl⟩,qp:=aq } (.slice aA x.all.length ac) uv kv) #[.int .i64 f2, .int .i64 l2, .int .i64 m2, .int .i64 t2, .bool is2, .int .i64 tm2, .int .i64 sp2, .int .i64 wt2, .int .i64 si2, .int .i64 tr2, .bool rn2] (arE { x with win:=⟨ka,ks,km,kl⟩,qp:=aq,clk:=⟨f2,l2,m2,t2,is2,tm2,sp2,wt2,si2,tr2,rn2⟩ } (.slice aA x.all.length ac) uv kv) rfl rfl (L8.out _ fx).s zs zk zq (vV _ _ _ _ ⟨f2,l2,m2,t2,is2,tm2,sp2,wt2,si2,tr2,rn2⟩) ?_;intro wy By Fy))
       have LZ:Hid (∀ W,Fr [] wy W->Lo w W w.heap.size (w.heap.size+1+1) (arE { x with win:=⟨ka,ks,km,kl⟩,qp:=aq,clk:=⟨f2,l2,m2,t2,is2,tm2,sp2,wt2,si2,tr2,rn2⟩ } (.slice aA x.all.length ac) uv kv)):=hI (fun W f=>((L8.out _ fx).set Fy By).grow f);clear By Fy;try dsimp only [Act.put]
       go_cut [] (fun wx=>Blk wx (w.heap.size+1+1) 41 (arE { x with win:=⟨ka,ks,km,kl⟩,qp:=aq,clk:=⟨f2,l2,m2,t2,is2,tm2,sp2,wt2,si2,tr2,rn2⟩ } (.slice aA x.all.length ac) uv kv)/\Fr [] w wx);case first=>
        go_wp2_with (first
          | ((with_reducible refine qj 41 (.tmp 2) ?_);refine qf rfl 41 (.tmp 2) rfl w.heap.size 41 (arE { x with win:=⟨ka,ks,km,kl⟩,qp:=aq,clk:=⟨f2,l2,m2,t2,is2,tm2,sp2,wt2,si2,tr2,rn2⟩ } (.slice aA x.all.length ac) uv kv) _ rfl (LZ.out _ zf).s Tryz.underlying41 rfl zk ?_)|((with_reducible refine qi 41 (.tmp 4) ?_);refine qc rfl 41 (.tmp 4) (.tmp 101) rfl (w.heap.size+1+1) 41 qy (arE { x with win:=⟨ka,ks,km,kl⟩,qp:=aq,clk:=⟨f2,l2,m2,t2,is2,tm2,sp2,wt2,si2,tr2,rn2⟩ } (.slice aA x.all.length ac) uv kv) rfl rfl (LZ.out _ zf).r rfl zk zq ?_;intro wz Bz Fz))
        go_meet;exact⟨Bz,(LZ.out _ (Fr.refl [] wy)).res Fz⟩
       case rest=>
        obtain⟨Bz,Fz⟩:=hcut;refine ‹∀(a:Act) (w:World),Code.wp Tryz.prog Code.ret _ a w->_› _ _ (wp_ret ?_);try simp only [Exit.then]
        change bodyPost Tryz.prog _ _ .ret _ _;refine bodyPost_ret (kF 4 41 ⟨(w.heap.size+1+1),0,none⟩ _ zr zr (qw Bz)) zr ?_;rw [HY.out];exact⟨rfl,Fz⟩
end Go.Proofs.YtmgdbbbdhkfdmaaGreat
namespace Go.Proofs.YtmgdbbbdhkfdmaaGreat
set_option maxRecDepth 100000
open Go.RowKit
theorem jI:(Tryz.prog.info? 49).map (fun i=>(i.zero,i.size,i.bytes))=some (some (.agg #[.int .i64 0, .int .u32 0, .int .u32 0, .int .u16 0, .slice none 0 0]),5,48):=zk
theorem Pr.app{S:Nat->Prop}{w w':World}{v v' dv:Value}{L:List (Prt × Value)}{p:Prt}(h:Pr S w v L)(own:w'.ownsRow 0 49 5 v' (L.length+1) (prs L++[.int .i64 p.flags, .int .u32 p.seq, .int .u32 p.ack, .int .u16 p.win,dv]))(f:Fr (ob v) w w')(hv:∀ b∈ob v,¬ S b)(hb:Byt S w dv p.d):Pr S w' v' (L++[(p,dv)]):=by
 refine⟨?_,fun x hx=>?_⟩
 ·rw [List.length_append,<- qet]
  exact own
 ·rcases List.mem_append.1 hx with hx|hx
  ·exact (h.byt x hx).fr f hv
  ·rw [List.mem_singleton] at hx
   subst hx;exact hb.fr f hv
end Go.Proofs.YtmgdbbbdhkfdmaaGreat
namespace Go.Proofs.YtmgdbbbdhkfdmaaGreat
set_option maxRecDepth 100000
open Go.RowKit
theorem qbu{x:St}(h:0<zG x):zG x<=64/\zG x<=x.all.length - x.win.s/\zG x<=x.win.l - x.win.s:=by
 unfold zG Win.qK at *
 omega
theorem qfc{v:Win.Wn}{n:Int}(h0:0<=n)(h1:n<=v.l - v.s):Win.qQ v n=(⟨v.a,v.s+n,max v.m (v.s+n),v.l⟩,v.s,0):=by
 unfold Win.qQ;rw [if_neg zw,if_neg (by unfold Win.qK;omega)]
def jr(x:St)(n:Int):St:={ x with win:=(Win.qQ x.win n).1 }
def jg(x:St)(p:Int):St:=if x.timed=0 then { x with timed:=p,since:=x.now } else x
theorem vP(x:St):zO x=(jg (shows (jr x (zG x))) (x.win.s+zG x),kz (jr x (zG x)) 2 x.win.s ((x.all.drop x.win.s.toNat).take (zG x).toNat)):=rfl
theorem qgd{x:St}(ok:OkS x)(h:0<zG x):OkS (jr x (zG x))/\(jr x (zG x)).win.s=x.win.s+zG x/\(jr x (zG x)).win.a=x.win.a/\x.win.s+zG x<=x.all.length:=by
 obtain⟨b1,b2,b3⟩:=qbu h;have hw:=Win.Inv.bd ok.hw;have hm:=ok.hm;unfold jr;rw [qfc zw b3];refine⟨⟨ok.hi,ok.hu,⟨hw.1,?_,?_,?_,hw.2.2.2.2⟩,ok.hc,?_,ok.hl,ok.n0,ok.n1,ok.s0,ok.s1⟩,rfl,rfl,zw⟩;all_goals (simp only [];omega)
theorem qge{x:St}(ok:OkS x):OkS (shows x):=⟨ok.hi,ok.hu,ok.hw,ok.hc,ok.hm,ok.hl,ok.n0,ok.n1,ok.s0,ok.s1⟩
theorem qnb{x:St}(ok:OkS x)(p:Int):OkS (jg x p):=by
 unfold jg;split
 ·exact⟨ok.hi,ok.hu,ok.hw,ok.hc,ok.hm,ok.hl,ok.n0,ok.n1,ok.n0,ok.n1⟩
 ·exact ok
theorem qhs(x:St)(p:Int):(jg x p).win=x.win/\(jg x p).all=x.all:=by unfold jg;split <;> exact⟨rfl,rfl⟩
theorem yS{x:St}(ok:OkS x)(h:0<zG x):OkS (zO x).1/\(zO x).1.win.s=x.win.s+zG x/\(zO x).1.all=x.all:=by
 rw [vP];obtain⟨k,e1,e2,e3⟩:=qgd ok h;have t:=qhs (shows (jr x (zG x))) (x.win.s+zG x);exact⟨qnb (qge k) _,by show (jg _ _).win.s=_;rw [t.1];exact e1,by show (jg _ _).all=_;rw [t.2];rfl⟩
theorem jT(k:Nat)(x:St)(h:¬ 0<zG x):zQ k x=(x,[]):=by
 cases k with
 | zero=>rfl
 | succ k=>unfold zQ;rw [if_neg h]
theorem xw(k:Nat)(x:St)(h:0<zG x):zQ (k+1) x=((zQ k (zO x).1).1,(zO x).2::(zQ k (zO x).1).2):=by
 conv=>lhs;unfold zQ
 rw [if_pos h]
theorem qfd:∀(k:Nat) (x:St),OkS x->OkS (zQ k x).1
 | 0,x,ok=>ok
 | k+1,x,ok=>by
  by_cases h:0<zG x
  ·rw [xw k x h];exact qfd k _ (yS ok h).1
  ·rw [jT _ x h];exact ok
theorem qcq:∀(k:Nat) (x:St),(zQ k x).1.all=x.all/\(zQ k x).1.at_=x.at_/\(zQ k x).1.heap=x.heap/\(zQ k x).1.clk=x.clk
 | 0,x=>⟨rfl,rfl,rfl,rfl⟩
 | k+1,x=>by
  by_cases h:0<zG x
  ·rw [xw k x h]
   obtain⟨a,b,c,d⟩:=qcq k (zO x).1;have e:(zO x).1.all=x.all/\(zO x).1.at_=x.at_/\(zO x).1.heap=x.heap/\(zO x).1.clk=x.clk:=by
    rw [vP];unfold jg;dsimp only;split <;> exact⟨rfl,rfl,rfl,rfl⟩
   exact⟨a.trans e.1,b.trans e.2.1,c.trans e.2.2.1,d.trans e.2.2.2⟩
  ·rw [jT _ x h];exact⟨rfl,rfl,rfl,rfl⟩
def xN(x:St):Bool:=x.closing && decide (x.win.s=x.all.length) && !x.fin
def zi(x:St):St × List Prt:=if xN x then ({ shows x with fin:=true },[kz x 6 x.all.length []]) else (x,[])
def zX(x:St):St:=if x.ended && x.qp then kS x false else x
theorem jC(x:St)(h:x.at_=4):qU x=(qF (zX (zi (zQ x.all.length x).1).1),(zQ x.all.length x).2++(zi (zQ x.all.length x).1).2):=by
 unfold qU;rw [if_pos h];unfold zi zX xN;dsimp only;split <;> rfl
theorem jD(x:St)(h:x.at_≠4):qU x=(qF x,[]):=by unfold qU;rw [if_neg h]
theorem qdt{x:St}(ok:OkS x):OkS (zi x).1:=by
 unfold zi;split
 ·exact⟨ok.hi,ok.hu,ok.hw,ok.hc,ok.hm,ok.hl,ok.n0,ok.n1,ok.s0,ok.s1⟩
 ·exact ok
theorem done_ok{x:St}(ok:OkS x)(b:Bool):OkS (kS x b):=⟨ok.hi,ok.hu,ok.hw,ok.hc,ok.hm,ok.hl,ok.n0,ok.n1,ok.s0,ok.s1⟩
theorem qnc{x:St}(ok:OkS x):OkS (qF x):=by
 unfold qF;split
 ·exact⟨ok.hi,ok.hu,ok.hw,Rto.qjy ok.hc _,ok.hm,ok.hl,ok.n0,ok.n1,ok.s0,ok.s1⟩
 split
 ·exact⟨ok.hi,ok.hu,ok.hw,Rto.yC ok.hc,ok.hm,ok.hl,ok.n0,ok.n1,ok.s0,ok.s1⟩
 ·exact ok
end Go.Proofs.YtmgdbbbdhkfdmaaGreat
