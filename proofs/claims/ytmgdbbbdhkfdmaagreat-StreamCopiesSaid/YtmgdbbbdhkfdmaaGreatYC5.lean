import Derived.Test.YtmgdbbbdhkfdmaaGreatYC4
import Derived.Deep.DeepCutAuto
import Derived.Test.YtmgdbbbdhkfdmaaGreatYC0
set_option linter.unusedSimpArgs false
set_option linter.unusedVariables false
set_option maxHeartbeats 40000000
namespace Go.Proofs.YtmgdbbbdhkfdmaaGreat
set_option maxRecDepth 100000
open Go.RowKit Go.Deep
def AckPost(S:Nat->Prop)(w:World)(H:Hd)(y:St)(e:Ending)(w':World):Prop:=
 ∃ H',e = .returned (.tuple #[])/\Hd.like w H H'/\SI S w' H' y/\Fr [H.g,H.gw,H.gc] w w'
theorem qmk(x:St)(p:Prt):zy x p=qB x (Win.je x.win (vF x p) p.win).1 (Win.je x.win (vF x p) p.win).2.1 (yY x p):=rfl
theorem fr3{O:List Nat}{w w':World}{b j:Nat}{v:Value}(F:Fr O w w')(h:w.cell? ⟨b,j,none⟩=some v)(h2:b∉O):w'.cell? ⟨b,j,none⟩=some v:=
 (F.cell (p:=⟨b,j,none⟩) (World.block_lt_of_cell? w _ h) h2).trans h
theorem acks_si{S:Nat->Prop}{w:World}{H:Hd}{x:St}(m:SI S w H x)(p:Prt)(A:Option Addr)(c:Nat)(B:Int)(hB:B<=1000000000)(hw:Win.Inv B x.win)(hc:Rto.Inv x.clk)(hm:x.win.m<=x.all.length)(hlen:x.all.length<=1000000)
  (hn0:0<=x.now) (hn1:x.now<=4611686018427387904) (hs0:0<=x.since) (hs1:x.since<=4611686018427387904) (hp0:0<=p.win) (hp1:p.win<65536) :
  Calls Tryz.prog 92 #[ptr H.g,agP p (.slice A p.d.length c)] w (AckPost S w H (zy x p)):=by
 rw [qmk];have hu:vF x p=if yY x p then (x.all.length:Int) else kL p.ack x.isn x.win.a:=rfl;have he:yY x p=(x.fin && decide (kL p.ack x.isn x.win.a=x.all.length+1)):=rfl;have hfacts:=qkj hw (vF x p) p.win;have hack:∀ W,Win.Win W H.gw x.win true->Calls Tryz.prog 113 #[ptr H.gw, .int .i64 (vF x p), .int .i64 p.win] W fun e w'=>e = .returned (.tuple #[.int .i64 (Win.je x.win (vF x p) p.win).2.1, .int .i64 (Win.je x.win (vF x p) p.win).2.2])/\Fr [H.gw] W w'/\Win.Win w' H.gw (Win.je x.win (vF x p) p.win).1 true:=fun W hW=>Win.qiu H.gw x.win _ _ W B hB hw hW;generalize yY x p=E at *
 generalize vF x p=U at *
 generalize hv:(Win.je x.win U p.win).1=v at *
 generalize hmo:(Win.je x.win U p.win).2.1=more at *
 generalize (Win.je x.win U p.win).2.2=er at *
 obtain⟨fl,sq,ak,wi,d⟩:=p;dsimp only at *
 have hwb:=Win.Inv.bd hw;obtain⟨km,hkm,hka,hkl⟩:∃ km:Nat,more=km/\v.a.toNat=x.win.a.toNat+km/\km<=(kw x).length:=by
  refine⟨more.toNat,?_,?_,?_⟩
  ·rcases hfacts with ⟨h1,h2,h3⟩|⟨h1,h2⟩ <;> omega
  ·rcases hfacts with ⟨h1,h2,h3⟩|⟨h1,h2⟩
   ·omega
   ·rw [h1,h2];simp
  ·unfold kw
   rw [List.length_drop];rcases hfacts with ⟨h1,h2,h3⟩|⟨h1,h2⟩ <;> omega
 subst hkm;have hgl:=m.blk.lt;have hgw:=Blk.lt m.win;have f0:Fr [] w (w.alloc (.cells (arP ⟨fl,sq,ak,wi,d⟩ (.slice A d.length c)) 49)):=(Fr.refl [] w).alloc _;have b0:Blk (w.alloc (.cells (arP ⟨fl,sq,ak,wi,d⟩ (.slice A d.length c)) 49)) w.heap.size 49 (arP ⟨fl,sq,ak,wi,d⟩ (.slice A d.length c)):=Blk.new w _ _;have HFa:=hI hfacts;have HAck:=hI hack;have HW:=hI hw;have HC:=hI hc;have M:=hI m;have HKA:=hI hka;have HKM:=hI hkl;have HLEN:=hI hlen;have hcv:IntKind.i64.wrap wi=wi:=IntWalk.i64_in _ zw;have hsub:IntKind.i64.wrap (x.now - x.since)=x.now - x.since:=IntWalk.i64_in _ zw;have hl1:IntKind.i64.wrap ((x.all.length:Int)+1)=(x.all.length:Int)+1:=IntWalk.i64_in _ zw;have HU:=hI hu;have HE:=hI he;clear hfacts hack hw hc m hka hkl hu he;go_enter Tryz.func92,Tryz.ntmps92;go_upto_region 1 with fail
 generalize w.alloc (.cells (arP ⟨fl,sq,ak,wi,d⟩ (.slice A d.length c)) 49)=w0 at *
 have m0:=M.out.fr f0;have cs:=qm m0.blk;have c16:=cs.c16;have FF0:=hI f0;have BB0:=hI b0;clear f0 b0 cs;go_wp2_with fail
 refine (Win.kD H.gw x.win w0 m0.win).mono ?_;rintro e w1 ⟨rfl,f1⟩;have F1:=hI (FF0.out.trans f1 zs);have B1:=hI (BB0.out.fr f1 zs);clear f1 m0 c16;have m1:=M.out.fr F1.out;have cs:=qm m1.blk;obtain⟨y0,y1,y2,y3,y4⟩:=cells5 B1.out;have c13:=Grew.cell cs.c13;have g2:=Grew.cell y2;have hpl:∀ q:Grew w1,Calls Tryz.prog 114 #[.int .u32 ak, .int .u32 x.isn, .int .i64 x.win.a] q.W fun e w'=>e = .returned (.int .i64 (kL ak x.isn x.win.a))/\∃ q':Grew w1,w'=q'.W:=fun q=>qG (qdm _ _ _ _ zw zw);have HPl:=hI hpl;clear hpl m1 cs y0 y1 y2 y3 y4;generalize kL ak x.isn x.win.a=n0 at *
 go_upto_region 2 with fail
 refine qg zk zk ?_;repeat (go_big_quiet_step ((go_at_call 114;exact HPl.out _)))
 refine wpQuiet_nil ?_;intro w2 f2;have F2:=hI (F1.out.trans f2 zs);have B2:=hI (B1.out.fr f2 zs);clear f2 B1 F1 c13 g2 HPl FF0 BB0;have m2:=M.out.fr F2.out;have cs:=qm m2.blk;have C2:=hI cs;have M2:=hI m2;have WW2:=hI m2.win;obtain⟨y0,y1,y2,y3,y4⟩:=cells5 B2.out;have YB:Hid (w.heap.size<w2.heap.size/\w2.cell? ⟨w.heap.size,3,none⟩=some (.int .u16 wi)):=hI ⟨B2.out.lt,y3⟩;have HGL:=hI m2.blk.lt;have NGW:Hid (H.g∉[H.gw]):=hI (by simpa using fun e=>m2.qeq e.symm);have NRW:Hid (w.heap.size∉[H.gw]):=hI zv;obtain⟨bA,bc,hbv,hbl,hbm⟩:=qY m2.buf;have C14:Hid (w2.cell? ⟨H.g,14,none⟩=some (.slice bA (kw x).length bc)):=hI (by rw [<- hbv];exact cs.c14);have BY:Hid (Byt (fun b=>H.bv.ownBlock=some b) w2 (.slice bA (kw x).length bc) (kw x)):=hI (by have:=Sl.kW (S:=fun b=>H.bv.ownBlock=some b) m2.buf (fun b h=>h);rw [hbv] at this;rw [hbv];exact this);have NWS:Hid (¬ H.bv.ownBlock=some H.gw):=hI (own_ne m2.buf m2.win zd);have HKC:Hid ((kw x).length<=bc):=hI hbl;have c7:=cs.c7;have c19:=cs.c19;have c20:=cs.c20;clear m2 cs y0 y1 y2 y3 y4 hbv hbl hbm;rcases Bool.eq_false_or_eq_true x.fin with hf|hf
 ·rw [hf] at c19
  by_cases hn:n0=(x.all.length:Int)+1
  ·obtain rfl:E=true:=by rw [HE.out,hf];simp [hn]
   obtain rfl:U=(x.all.length:Int):=by rw [HU.out];rfl
   subst hn;go_upto_region 6 with fail
   go_cut [7] (fun s7 wx=>s7 = .int .i64 km/\Fr [H.gw] w2 wx/\Win.Win wx H.gw v true);case first=>
    have c16:=C2.out.c16;have c99:=YB.out.2;go_region_held3 (fun w'=>w'.cell? ⟨H.g,16,none⟩=some (ptr H.gw)/\w'.cell? ⟨w.heap.size,3,none⟩=some (.int .u16 wi))
     (first|(with_reducible exact⟨s0,s1⟩)|go_keep)
     (first
      | (go_at_call 113;refine (HAck.out _ (Blk.fr WW2.out (Fr.refl [] w2).drew zs)).mono ?_;rintro e w3 ⟨rfl,f3,W3⟩;have f3':Fr [H.gw] w2 w3:=(Fr.refl [H.gw] w2).drew.trans f3 (fun y hy => .inl hy);have s0:w3.cell? ⟨H.g,16,none⟩=some (ptr H.gw):=(f3'.cell (p:=⟨H.g,16,none⟩) HGL.out NGW.out).trans c16;have s1:w3.cell? ⟨w.heap.size,3,none⟩=some (.int .u16 wi):=(f3'.cell (p:=⟨w.heap.size,3,none⟩) YB.out.1 NRW.out).trans c99;have F3:=hI f3';have WW3:=hI W3;clear f3 f3' W3))
    go_wp2_with fail
    go_meet;exact⟨rfl,F3.out,WW3.out⟩
   case rest=>
    obtain⟨rfl,f3,W3⟩:=hcut;generalize wc=w3 at *
    have c14:w3.cell? ⟨H.g,14,none⟩=some (.slice bA (kw x).length bc):=(f3.cell (p:=⟨H.g,14,none⟩) HGL.out NGW.out).trans C14.out;have hz14:w3.frozen? ⟨H.g,14,none⟩=false:=((M2.out.blk.fr f3 NGW.out).frozen 14);have hgl3:H.g<w3.heap.size:=Nat.lt_of_lt_of_le HGL.out f3.size;have hb3:=BY.out.fr f3 (fun y hy hs=>by simp at hy;subst hy;exact NWS.out hs);obtain⟨L1,hL1⟩:∃ L1,(kw x).length=km+L1:=⟨(kw x).length - km,by have:=HKM.out;omega⟩;obtain⟨M1,rfl⟩:∃ M1,bc=km+M1:=⟨bc - km,by have:=HKM.out;have:=HKC.out;omega⟩;have hdl:((kw x).drop km).length=L1:=(by rw [List.length_drop];omega);have hcut3:=hb3.cut (k:=km) HKM.out;rw [hL1,show km+L1 - km=L1 by omega,show km+M1 - km=M1 by omega] at hcut3;obtain⟨sv,hsv⟩:∃ sv:Option Addr,(if km+M1=km then bA else bA.map (·.add km))=sv:=⟨_,rfl⟩;rw [hsv] at hcut3;have hcl:∀ W,Fr [] w3 W->Calls Tryz.prog 40 #[.slice sv L1 M1] W fun e w'=>∃ A c,e = .returned (.slice A L1 c)/\w'.ownsRow 0 5 1 (.slice A L1 c) L1 (kE ((kw x).drop km))/\Fr [] W w'/\(∀ b,(Value.slice A L1 c).ownBlock=some b->W.heap.size<=b):=fun W fW=>by
     have h:=kZ W (hcut3.fr fW zs) (by have h1:=HLEN.out;have h2:(kw x).length<=x.all.length:=by { unfold kw;rw [List.length_drop];omega };rw [hdl];omega);rw [hdl] at h;exact h
    have hkc:=HKC.out;rw [hL1] at c14;have kk0:(0:Int)<=(km:Int):=zw;have kk1:(km:Int)<=(km:Int)+(L1:Int):=zw;have kk2:(km:Int)+(L1:Int)<=(km:Int)+(M1:Int):=zw;have F3:=hI f3;have WW3:=hI W3;have HCl:=hI hcl;have HDL:=hI hdl;have HL1:=hI hL1;clear hcl hcut3 hb3 f3 W3 hdl hL1 hkc;rcases Nat.eq_zero_or_pos M1 with hM|hM
    ·subst hM
     rw [if_pos zw] at hsv;subst hsv;go_wp2_with fail
     refine (HCl.out _ (Fr.refl [] w3)).mono ?_;rintro e w4 ⟨A4,c4,rfl,own4,f4,fb4⟩;have c14':=ql f4 c14;have z14:w4.frozen? ⟨H.g,14,none⟩=false:=(f4.frozen (p:=⟨H.g,14,none⟩) hgl3 zs).trans hz14;have ac:=SI.qp (A:=A4) (c:=c4) M2.out F3.out WW3.out HKA.out f4 (by rw [HDL.out];exact own4) (by rw [HDL.out];exact fb4);rw [HDL.out] at ac;have AC:=hI ac;have LK:Hid (Hd.like w H ⟨H.g,H.gw,H.gc,H.gh, .slice A4 L1 c4,H.uv,H.kv⟩):=hI ⟨rfl,rfl,rfl,rfl,fun b hb=>by
      simp only [Hd.own,List.mem_cons,List.mem_append] at hb |-
      rcases hb with h|h|h|h|h|h|h
      ·exact .inl (.inl h)
      ·exact .inl (.inr (.inl h))
      ·exact .inl (.inr (.inr (.inl h)))
      ·exact .inl (.inr (.inr (.inr (.inl h))))
      ·exact .inl (.inr (.inr (.inr (.inr (.inl h)))))
      ·have h1:=fb4 b (qo.1 h)
       have h2:=F3.out.size;have h3:=F2.out.size;exact .inr zw
      ·exact .inl (.inr (.inr (.inr (.inr (.inr (.inr h))))))⟩
     clear ac own4 fb4 f4;go_upto_region 8 with fail
     obtain⟨m5,f5⟩:=AC.out;generalize w4.setCell ⟨H.g,14,none⟩ (.slice A4 L1 c4)=w5 at *
     have F5:=hI ((F2.out.mono (O':=[H.g,H.gw,H.gc]) zs).trans (f5.mono (O':=[H.g,H.gw,H.gc]) zs) (fun y hy => .inl hy));have cs5:=qm m5.blk;have d16:w5.cell? ⟨H.g,16,none⟩=some (ptr H.gw):=cs5.c16;have d17:w5.cell? ⟨H.g,17,none⟩=some (ptr H.gc):=cs5.c17;have d20:w5.cell? ⟨H.g,20,none⟩=some (.bool x.qp):=cs5.c20;have d21:w5.cell? ⟨H.g,21,none⟩=some (.int .i64 x.now):=cs5.c21;have d22:w5.cell? ⟨H.g,22,none⟩=some (.int .i64 x.timed):=cs5.c22;have d23:w5.cell? ⟨H.g,23,none⟩=some (.int .i64 x.since):=cs5.c23;have z20:w5.frozen? ⟨H.g,20,none⟩=false:=m5.blk.frozen 20;have M5:=hI m5;clear m5 f5 cs5 c14' z14 AC c14 hz14 F3 WW3 HCl HDL HL1 c7 c19 c20 C2 M2 WW2 B2 C14 BY NWS HKC kk0 kk1 kk2;by_cases hk0:(km:Int)=0
     ·rcases Bool.eq_false_or_eq_true x.qp with ha|ha
      ·rw [ha] at d20
       go_wp2_with fail
       first|go_end0|refine bodyPost_ret (results_none rfl _ _ _) rfl ?_
       have hY:qB x v km true={ x with win:=v }:=(by unfold qB;rw [if_pos ⟨hk0,by rw [ha];rfl⟩]);rw [hY];exact⟨_,rfl,LK.out,M5.out,F5.out⟩
      ·rw [ha] at d20
       go_upto_region 10 with fail
       have m6:=M5.out.set (w':=w5.setCell ⟨H.g,20,none⟩ (.bool true)) (x':={ x with win:=v,qp:=true }) ((Fr.refl [H.g] w5).setCell (p:=⟨H.g,20,none⟩) (.inl zs) _) (by simpa using M5.out.blk.qO 20 (.bool true)) rfl rfl rfl rfl rfl;have f6:Fr [H.g] w5 (w5.setCell ⟨H.g,20,none⟩ (.bool true)):=(Fr.refl [H.g] w5).setCell (p:=⟨H.g,20,none⟩) (.inl zs) _;generalize w5.setCell ⟨H.g,20,none⟩ (.bool true)=w6 at *
       have cs6:=qm m6.blk;have F6:=hI (F5.out.trans (f6.mono (O':=[H.g,H.gw,H.gc]) zs) (fun y hy => .inl hy));have d16':w6.cell? ⟨H.g,16,none⟩=some (ptr H.gw):=cs6.c16;have d17':w6.cell? ⟨H.g,17,none⟩=some (ptr H.gc):=cs6.c17;have d21':w6.cell? ⟨H.g,21,none⟩=some (.int .i64 x.now):=cs6.c21;have d22':w6.cell? ⟨H.g,22,none⟩=some (.int .i64 x.timed):=cs6.c22;have d23':w6.cell? ⟨H.g,23,none⟩=some (.int .i64 x.since):=cs6.c23;have g16:=Grew.cell d16';have g22:=Grew.cell d22';have hst:∀ q:Grew w6,Calls Tryz.prog 48 #[ptr H.gw] q.W fun e w'=>e = .returned (.agg #[.int .i64 v.a, .int .i64 v.s, .int .i64 v.m, .int .i64 v.l])/\∃ q':Grew w6,w'=q'.W:=fun q=>qG (Win.kD H.gw v q.W (Blk.fr m6.win q.fr zs));have HSt:=hI hst;have M6:=hI m6;have CK:Hid (Rto.Inv x.clk):=HC;clear hst m6 f6 cs6 d16 d17 d20 d21 d22 d23 z20 M5 F5;by_cases ht:0<x.timed/\x.timed<=v.a
       ·obtain⟨ht1,ht2⟩:=ht
        refine qg zk zk ?_;repeat (go_big_quiet_step ((go_at_call 48;exact HSt.out _)))
        refine wpQuiet_nil ?_;intro w7 f7;have m7:=M6.out.fr f7;have cs7:=qm m7.blk;have e17:w7.cell? ⟨H.g,17,none⟩=some (ptr H.gc):=cs7.c17;have e21:w7.cell? ⟨H.g,21,none⟩=some (.int .i64 x.now):=cs7.c21;have e23:w7.cell? ⟨H.g,23,none⟩=some (.int .i64 x.since):=cs7.c23;have M7:=hI m7;have F7:=hI (F6.out.trans f7 zs);have SEE:Hid (∀ W,Fr [H.gc] w7 W->W.cell? ⟨H.g,17,none⟩=some (ptr H.gc)/\W.cell? ⟨H.g,21,none⟩=some (.int .i64 x.now)/\W.cell? ⟨H.g,23,none⟩=some (.int .i64 x.since)):=hI (fun W fW=>by
         have hn:H.g∉[H.gc]:=(by simpa using fun e=>M7.out.xR e.symm);exact⟨fr3 fW e17 hn,fr3 fW e21 hn,fr3 fW e23 hn⟩)
        clear m7 cs7 f7 d16' d17' d21' d22' d23' g16 g22;go_upto_region 11 with fail
        go_region_held3 (fun w'=>w'.cell? ⟨H.g,17,none⟩=some (ptr H.gc)/\w'.cell? ⟨H.g,21,none⟩=some (.int .i64 x.now)/\w'.cell? ⟨H.g,23,none⟩=some (.int .i64 x.since))
         (first|(with_reducible exact SEE.out _ f8')|go_keep)
         (first
          | (go_at_call 115;refine (Rto.zD H.gc x.clk (x.now - x.since) _ (Blk.fr M7.out.clk (Fr.refl [] w7).drew zs) CK.out).mono ?_;rintro e w8 ⟨rfl,f8,C8⟩;have f8':Fr [H.gc] w7 w8:=(Fr.refl [H.gc] w7).drew.trans f8 (fun y hy => .inl hy);have M8:=hI (M7.out.zB f8' C8);have F8:=hI (F7.out.trans (f8'.mono (O':=[H.g,H.gw,H.gc]) zs) (fun y hy => .inl hy));clear f8 C8))
        have z22:w8.frozen? ⟨H.g,22,none⟩=false:=M8.out.blk.frozen 22;have d22:w8.cell? ⟨H.g,22,none⟩=some (.int .i64 x.timed):=(qm M8.out.blk).c22;have d17:w8.cell? ⟨H.g,17,none⟩=some (ptr H.gc):=(qm M8.out.blk).c17;have hl8:=M8.out.blk.lt;clear e17 e21 e23 SEE f8';go_wp2_with fail
        have f9:Fr [H.g] w8 (w8.setCell ⟨H.g,22,none⟩ (.int .i64 0)):=(Fr.refl [H.g] w8).setCell (p:=⟨H.g,22,none⟩) (.inl zs) _;have m9:=M8.out.set (w':=w8.setCell ⟨H.g,22,none⟩ (.int .i64 0)) (x':={ x with win:=v,qp:=true,timed:=0,clk:=(Rto.qR x.clk (x.now - x.since)).1 }) f9 (by simpa using M8.out.blk.qO 22 (.int .i64 0)) rfl rfl rfl rfl rfl;generalize w8.setCell ⟨H.g,22,none⟩ (.int .i64 0)=w9 at *
        refine (Rto.qL H.gc _ w9 m9.clk (Rto.kY CK.out _)).mono ?_;rintro e wa ⟨rfl,fa,Ca⟩;have ma:=hI (m9.zB fa Ca);have Fa:=hI ((F8.out.trans (f9.mono (O':=[H.g,H.gw,H.gc]) zs) (fun y hy => .inl hy)).trans (fa.mono (O':=[H.g,H.gw,H.gc]) zs) (fun y hy => .inl hy));clear m9 f9 fa Ca;go_wp2_with fail
        first|go_end0|refine bodyPost_ret (results_none rfl _ _ _) rfl ?_
        have hY:qB x v km true={ x with win:=v,qp:=true,timed:=0,clk:=Rto.qW (Rto.qR x.clk (x.now - x.since)).1 }:=by
         unfold qB;rw [if_neg (by rw [ha];simp <;> omega),if_pos ⟨ht1,ht2⟩,ha];rfl
        rw [hY];exact⟨_,rfl,LK.out,ma.out,Fa.out⟩
       ·have hge:decide (x.timed<=v.a)=false\/decide (0<x.timed)=false:=by
         by_cases h1:0<x.timed
         ·left;simp;omega
         ·right;simpa using h1
        have HT:=hI ht;clear ht;by_cases ht1:0<x.timed
        ·have ht2:¬ x.timed<=v.a:=fun h=>HT.out ⟨ht1,h⟩
         clear hge;refine qg zk zk ?_;repeat (go_big_quiet_step ((go_at_call 48;exact HSt.out _)))
         refine wpQuiet_nil ?_;intro w7 f7;have m7:=M6.out.fr f7;have e17:w7.cell? ⟨H.g,17,none⟩=some (ptr H.gc):=(qm m7.blk).c17;have M7:=hI m7;have F7:=hI (F6.out.trans f7 zs);clear m7 f7 d16' d17' d21' d22' d23' g16 g22;go_wp2_with fail
         refine (Rto.qL H.gc x.clk w7 M7.out.clk CK.out).mono ?_;rintro e wa ⟨rfl,fa,Ca⟩;have ma:=hI (M7.out.zB fa Ca);have Fa:=hI (F7.out.trans (fa.mono (O':=[H.g,H.gw,H.gc]) zs) (fun y hy => .inl hy));clear fa Ca;go_wp2_with fail
         first|go_end0|refine bodyPost_ret (results_none rfl _ _ _) rfl ?_
         have hY:qB x v km true={ x with win:=v,qp:=true,clk:=Rto.qW x.clk }:=by
          unfold qB;rw [if_neg (by rw [ha];simp <;> omega),if_neg HT.out,ha];rfl
         rw [hY];exact⟨_,rfl,LK.out,ma.out,Fa.out⟩
        ·clear hge
         refine qg zk zk ?_;repeat (go_big_quiet_step ((go_at_call 48;exact HSt.out _)))
         refine wpQuiet_nil ?_;intro w7 f7;have m7:=M6.out.fr f7;have e17:w7.cell? ⟨H.g,17,none⟩=some (ptr H.gc):=(qm m7.blk).c17;have M7:=hI m7;have F7:=hI (F6.out.trans f7 zs);clear m7 f7 d16' d17' d21' d22' d23' g16 g22;go_wp2_with fail
         refine (Rto.qL H.gc x.clk w7 M7.out.clk CK.out).mono ?_;rintro e wa ⟨rfl,fa,Ca⟩;have ma:=hI (M7.out.zB fa Ca);have Fa:=hI (F7.out.trans (fa.mono (O':=[H.g,H.gw,H.gc]) zs) (fun y hy => .inl hy));clear fa Ca;go_wp2_with fail
         first|go_end0|refine bodyPost_ret (results_none rfl _ _ _) rfl ?_
         have hY:qB x v km true={ x with win:=v,qp:=true,clk:=Rto.qW x.clk }:=by
          unfold qB;rw [if_neg (by rw [ha];simp <;> omega),if_neg HT.out,ha];rfl
         rw [hY];exact⟨_,rfl,LK.out,ma.out,Fa.out⟩
     ·have hk1:¬ km=0:=zw
      have hk2:decide ((km:Int)=0)=false:=(by simpa using hk1);rcases Bool.eq_false_or_eq_true x.qp with ha|ha
      ·rw [ha] at d20
       go_upto_region 10 with fail
       have m6:=M5.out.set (w':=w5.setCell ⟨H.g,20,none⟩ (.bool true)) (x':={ x with win:=v,qp:=true }) ((Fr.refl [H.g] w5).setCell (p:=⟨H.g,20,none⟩) (.inl zs) _) (by simpa using M5.out.blk.qO 20 (.bool true)) rfl rfl rfl rfl rfl;have f6:Fr [H.g] w5 (w5.setCell ⟨H.g,20,none⟩ (.bool true)):=(Fr.refl [H.g] w5).setCell (p:=⟨H.g,20,none⟩) (.inl zs) _;generalize w5.setCell ⟨H.g,20,none⟩ (.bool true)=w6 at *
       have cs6:=qm m6.blk;have F6:=hI (F5.out.trans (f6.mono (O':=[H.g,H.gw,H.gc]) zs) (fun y hy => .inl hy));have d16':w6.cell? ⟨H.g,16,none⟩=some (ptr H.gw):=cs6.c16;have d17':w6.cell? ⟨H.g,17,none⟩=some (ptr H.gc):=cs6.c17;have d21':w6.cell? ⟨H.g,21,none⟩=some (.int .i64 x.now):=cs6.c21;have d22':w6.cell? ⟨H.g,22,none⟩=some (.int .i64 x.timed):=cs6.c22;have d23':w6.cell? ⟨H.g,23,none⟩=some (.int .i64 x.since):=cs6.c23;have g16:=Grew.cell d16';have g22:=Grew.cell d22';have hst:∀ q:Grew w6,Calls Tryz.prog 48 #[ptr H.gw] q.W fun e w'=>e = .returned (.agg #[.int .i64 v.a, .int .i64 v.s, .int .i64 v.m, .int .i64 v.l])/\∃ q':Grew w6,w'=q'.W:=fun q=>qG (Win.kD H.gw v q.W (Blk.fr m6.win q.fr zs));have HSt:=hI hst;have M6:=hI m6;have CK:Hid (Rto.Inv x.clk):=HC;clear hst m6 f6 cs6 d16 d17 d20 d21 d22 d23 z20 M5 F5;by_cases ht:0<x.timed/\x.timed<=v.a
       ·obtain⟨ht1,ht2⟩:=ht
        refine qg zk zk ?_;repeat (go_big_quiet_step ((go_at_call 48;exact HSt.out _)))
        refine wpQuiet_nil ?_;intro w7 f7;have m7:=M6.out.fr f7;have cs7:=qm m7.blk;have e17:w7.cell? ⟨H.g,17,none⟩=some (ptr H.gc):=cs7.c17;have e21:w7.cell? ⟨H.g,21,none⟩=some (.int .i64 x.now):=cs7.c21;have e23:w7.cell? ⟨H.g,23,none⟩=some (.int .i64 x.since):=cs7.c23;have M7:=hI m7;have F7:=hI (F6.out.trans f7 zs);have SEE:Hid (∀ W,Fr [H.gc] w7 W->W.cell? ⟨H.g,17,none⟩=some (ptr H.gc)/\W.cell? ⟨H.g,21,none⟩=some (.int .i64 x.now)/\W.cell? ⟨H.g,23,none⟩=some (.int .i64 x.since)):=hI (fun W fW=>by
         have hn:H.g∉[H.gc]:=(by simpa using fun e=>M7.out.xR e.symm);exact⟨fr3 fW e17 hn,fr3 fW e21 hn,fr3 fW e23 hn⟩)
        clear m7 cs7 f7 d16' d17' d21' d22' d23' g16 g22;go_upto_region 11 with fail
        go_region_held3 (fun w'=>w'.cell? ⟨H.g,17,none⟩=some (ptr H.gc)/\w'.cell? ⟨H.g,21,none⟩=some (.int .i64 x.now)/\w'.cell? ⟨H.g,23,none⟩=some (.int .i64 x.since))
         (first|(with_reducible exact SEE.out _ f8')|go_keep)
         (first
          | (go_at_call 115;refine (Rto.zD H.gc x.clk (x.now - x.since) _ (Blk.fr M7.out.clk (Fr.refl [] w7).drew zs) CK.out).mono ?_;rintro e w8 ⟨rfl,f8,C8⟩;have f8':Fr [H.gc] w7 w8:=(Fr.refl [H.gc] w7).drew.trans f8 (fun y hy => .inl hy);have M8:=hI (M7.out.zB f8' C8);have F8:=hI (F7.out.trans (f8'.mono (O':=[H.g,H.gw,H.gc]) zs) (fun y hy => .inl hy));clear f8 C8))
        have z22:w8.frozen? ⟨H.g,22,none⟩=false:=M8.out.blk.frozen 22;have d22:w8.cell? ⟨H.g,22,none⟩=some (.int .i64 x.timed):=(qm M8.out.blk).c22;have d17:w8.cell? ⟨H.g,17,none⟩=some (ptr H.gc):=(qm M8.out.blk).c17;have hl8:=M8.out.blk.lt;clear e17 e21 e23 SEE f8';go_wp2_with fail
        have f9:Fr [H.g] w8 (w8.setCell ⟨H.g,22,none⟩ (.int .i64 0)):=(Fr.refl [H.g] w8).setCell (p:=⟨H.g,22,none⟩) (.inl zs) _;have m9:=M8.out.set (w':=w8.setCell ⟨H.g,22,none⟩ (.int .i64 0)) (x':={ x with win:=v,qp:=true,timed:=0,clk:=(Rto.qR x.clk (x.now - x.since)).1 }) f9 (by simpa using M8.out.blk.qO 22 (.int .i64 0)) rfl rfl rfl rfl rfl;generalize w8.setCell ⟨H.g,22,none⟩ (.int .i64 0)=w9 at *
        refine (Rto.qL H.gc _ w9 m9.clk (Rto.kY CK.out _)).mono ?_;rintro e wa ⟨rfl,fa,Ca⟩;have ma:=hI (m9.zB fa Ca);have Fa:=hI ((F8.out.trans (f9.mono (O':=[H.g,H.gw,H.gc]) zs) (fun y hy => .inl hy)).trans (fa.mono (O':=[H.g,H.gw,H.gc]) zs) (fun y hy => .inl hy));clear m9 f9 fa Ca;go_wp2_with fail
        first|go_end0|refine bodyPost_ret (results_none rfl _ _ _) rfl ?_
        have hY:qB x v km true={ x with win:=v,qp:=true,timed:=0,clk:=Rto.qW (Rto.qR x.clk (x.now - x.since)).1 }:=by
         unfold qB;rw [if_neg (by rw [ha];simp <;> omega),if_pos ⟨ht1,ht2⟩,ha];rfl
        rw [hY];exact⟨_,rfl,LK.out,ma.out,Fa.out⟩
       ·have hge:decide (x.timed<=v.a)=false\/decide (0<x.timed)=false:=by
         by_cases h1:0<x.timed
         ·left;simp;omega
         ·right;simpa using h1
        have HT:=hI ht;clear ht;by_cases ht1:0<x.timed
        ·have ht2:¬ x.timed<=v.a:=fun h=>HT.out ⟨ht1,h⟩
         clear hge;refine qg zk zk ?_;repeat (go_big_quiet_step ((go_at_call 48;exact HSt.out _)))
         refine wpQuiet_nil ?_;intro w7 f7;have m7:=M6.out.fr f7;have e17:w7.cell? ⟨H.g,17,none⟩=some (ptr H.gc):=(qm m7.blk).c17;have M7:=hI m7;have F7:=hI (F6.out.trans f7 zs);clear m7 f7 d16' d17' d21' d22' d23' g16 g22;go_wp2_with fail
         refine (Rto.qL H.gc x.clk w7 M7.out.clk CK.out).mono ?_;rintro e wa ⟨rfl,fa,Ca⟩;have ma:=hI (M7.out.zB fa Ca);have Fa:=hI (F7.out.trans (fa.mono (O':=[H.g,H.gw,H.gc]) zs) (fun y hy => .inl hy));clear fa Ca;go_wp2_with fail
         first|go_end0|refine bodyPost_ret (results_none rfl _ _ _) rfl ?_
         have hY:qB x v km true={ x with win:=v,qp:=true,clk:=Rto.qW x.clk }:=by
          unfold qB;rw [if_neg (by rw [ha];simp <;> omega),if_neg HT.out,ha];rfl
         rw [hY];exact⟨_,rfl,LK.out,ma.out,Fa.out⟩
        ·clear hge
         refine qg zk zk ?_;repeat (go_big_quiet_step ((go_at_call 48;exact HSt.out _)))
         refine wpQuiet_nil ?_;intro w7 f7;have m7:=M6.out.fr f7;have e17:w7.cell? ⟨H.g,17,none⟩=some (ptr H.gc):=(qm m7.blk).c17;have M7:=hI m7;have F7:=hI (F6.out.trans f7 zs);clear m7 f7 d16' d17' d21' d22' d23' g16 g22;go_wp2_with fail
         refine (Rto.qL H.gc x.clk w7 M7.out.clk CK.out).mono ?_;rintro e wa ⟨rfl,fa,Ca⟩;have ma:=hI (M7.out.zB fa Ca);have Fa:=hI (F7.out.trans (fa.mono (O':=[H.g,H.gw,H.gc]) zs) (fun y hy => .inl hy));clear fa Ca;go_wp2_with fail
         first|go_end0|refine bodyPost_ret (results_none rfl _ _ _) rfl ?_
         have hY:qB x v km true={ x with win:=v,qp:=true,clk:=Rto.qW x.clk }:=by
          unfold qB;rw [if_neg (by rw [ha];simp <;> omega),if_neg HT.out,ha];rfl
         rw [hY];exact⟨_,rfl,LK.out,ma.out,Fa.out⟩
      ·rw [ha] at d20
       go_upto_region 10 with fail
       have m6:=M5.out.set (w':=w5.setCell ⟨H.g,20,none⟩ (.bool true)) (x':={ x with win:=v,qp:=true }) ((Fr.refl [H.g] w5).setCell (p:=⟨H.g,20,none⟩) (.inl zs) _) (by simpa using M5.out.blk.qO 20 (.bool true)) rfl rfl rfl rfl rfl;have f6:Fr [H.g] w5 (w5.setCell ⟨H.g,20,none⟩ (.bool true)):=(Fr.refl [H.g] w5).setCell (p:=⟨H.g,20,none⟩) (.inl zs) _;generalize w5.setCell ⟨H.g,20,none⟩ (.bool true)=w6 at *
       have cs6:=qm m6.blk;have F6:=hI (F5.out.trans (f6.mono (O':=[H.g,H.gw,H.gc]) zs) (fun y hy => .inl hy));have d16':w6.cell? ⟨H.g,16,none⟩=some (ptr H.gw):=cs6.c16;have d17':w6.cell? ⟨H.g,17,none⟩=some (ptr H.gc):=cs6.c17;have d21':w6.cell? ⟨H.g,21,none⟩=some (.int .i64 x.now):=cs6.c21;have d22':w6.cell? ⟨H.g,22,none⟩=some (.int .i64 x.timed):=cs6.c22;have d23':w6.cell? ⟨H.g,23,none⟩=some (.int .i64 x.since):=cs6.c23;have g16:=Grew.cell d16';have g22:=Grew.cell d22';have hst:∀ q:Grew w6,Calls Tryz.prog 48 #[ptr H.gw] q.W fun e w'=>e = .returned (.agg #[.int .i64 v.a, .int .i64 v.s, .int .i64 v.m, .int .i64 v.l])/\∃ q':Grew w6,w'=q'.W:=fun q=>qG (Win.kD H.gw v q.W (Blk.fr m6.win q.fr zs));have HSt:=hI hst;have M6:=hI m6;have CK:Hid (Rto.Inv x.clk):=HC;clear hst m6 f6 cs6 d16 d17 d20 d21 d22 d23 z20 M5 F5;by_cases ht:0<x.timed/\x.timed<=v.a
       ·obtain⟨ht1,ht2⟩:=ht
        refine qg zk zk ?_;repeat (go_big_quiet_step ((go_at_call 48;exact HSt.out _)))
        refine wpQuiet_nil ?_;intro w7 f7;have m7:=M6.out.fr f7;have cs7:=qm m7.blk;have e17:w7.cell? ⟨H.g,17,none⟩=some (ptr H.gc):=cs7.c17;have e21:w7.cell? ⟨H.g,21,none⟩=some (.int .i64 x.now):=cs7.c21;have e23:w7.cell? ⟨H.g,23,none⟩=some (.int .i64 x.since):=cs7.c23;have M7:=hI m7;have F7:=hI (F6.out.trans f7 zs);have SEE:Hid (∀ W,Fr [H.gc] w7 W->W.cell? ⟨H.g,17,none⟩=some (ptr H.gc)/\W.cell? ⟨H.g,21,none⟩=some (.int .i64 x.now)/\W.cell? ⟨H.g,23,none⟩=some (.int .i64 x.since)):=hI (fun W fW=>by
         have hn:H.g∉[H.gc]:=(by simpa using fun e=>M7.out.xR e.symm);exact⟨fr3 fW e17 hn,fr3 fW e21 hn,fr3 fW e23 hn⟩)
        clear m7 cs7 f7 d16' d17' d21' d22' d23' g16 g22;go_upto_region 11 with fail
        go_region_held3 (fun w'=>w'.cell? ⟨H.g,17,none⟩=some (ptr H.gc)/\w'.cell? ⟨H.g,21,none⟩=some (.int .i64 x.now)/\w'.cell? ⟨H.g,23,none⟩=some (.int .i64 x.since))
         (first|(with_reducible exact SEE.out _ f8')|go_keep)
         (first
          | (go_at_call 115;refine (Rto.zD H.gc x.clk (x.now - x.since) _ (Blk.fr M7.out.clk (Fr.refl [] w7).drew zs) CK.out).mono ?_;rintro e w8 ⟨rfl,f8,C8⟩;have f8':Fr [H.gc] w7 w8:=(Fr.refl [H.gc] w7).drew.trans f8 (fun y hy => .inl hy);have M8:=hI (M7.out.zB f8' C8);have F8:=hI (F7.out.trans (f8'.mono (O':=[H.g,H.gw,H.gc]) zs) (fun y hy => .inl hy));clear f8 C8))
        have z22:w8.frozen? ⟨H.g,22,none⟩=false:=M8.out.blk.frozen 22;have d22:w8.cell? ⟨H.g,22,none⟩=some (.int .i64 x.timed):=(qm M8.out.blk).c22;have d17:w8.cell? ⟨H.g,17,none⟩=some (ptr H.gc):=(qm M8.out.blk).c17;have hl8:=M8.out.blk.lt;clear e17 e21 e23 SEE f8';go_wp2_with fail
        have f9:Fr [H.g] w8 (w8.setCell ⟨H.g,22,none⟩ (.int .i64 0)):=(Fr.refl [H.g] w8).setCell (p:=⟨H.g,22,none⟩) (.inl zs) _;have m9:=M8.out.set (w':=w8.setCell ⟨H.g,22,none⟩ (.int .i64 0)) (x':={ x with win:=v,qp:=true,timed:=0,clk:=(Rto.qR x.clk (x.now - x.since)).1 }) f9 (by simpa using M8.out.blk.qO 22 (.int .i64 0)) rfl rfl rfl rfl rfl;generalize w8.setCell ⟨H.g,22,none⟩ (.int .i64 0)=w9 at *
        refine (Rto.qL H.gc _ w9 m9.clk (Rto.kY CK.out _)).mono ?_;rintro e wa ⟨rfl,fa,Ca⟩;have ma:=hI (m9.zB fa Ca);have Fa:=hI ((F8.out.trans (f9.mono (O':=[H.g,H.gw,H.gc]) zs) (fun y hy => .inl hy)).trans (fa.mono (O':=[H.g,H.gw,H.gc]) zs) (fun y hy => .inl hy));clear m9 f9 fa Ca;go_wp2_with fail
        first|go_end0|refine bodyPost_ret (results_none rfl _ _ _) rfl ?_
        have hY:qB x v km true={ x with win:=v,qp:=true,timed:=0,clk:=Rto.qW (Rto.qR x.clk (x.now - x.since)).1 }:=by
         unfold qB;rw [if_neg (by rw [ha];simp <;> omega),if_pos ⟨ht1,ht2⟩,ha];rfl
        rw [hY];exact⟨_,rfl,LK.out,ma.out,Fa.out⟩
       ·have hge:decide (x.timed<=v.a)=false\/decide (0<x.timed)=false:=by
         by_cases h1:0<x.timed
         ·left;simp;omega
         ·right;simpa using h1
        have HT:=hI ht;clear ht;by_cases ht1:0<x.timed
        ·have ht2:¬ x.timed<=v.a:=fun h=>HT.out ⟨ht1,h⟩
         clear hge;refine qg zk zk ?_;repeat (go_big_quiet_step ((go_at_call 48;exact HSt.out _)))
         refine wpQuiet_nil ?_;intro w7 f7;have m7:=M6.out.fr f7;have e17:w7.cell? ⟨H.g,17,none⟩=some (ptr H.gc):=(qm m7.blk).c17;have M7:=hI m7;have F7:=hI (F6.out.trans f7 zs);clear m7 f7 d16' d17' d21' d22' d23' g16 g22;go_wp2_with fail
         refine (Rto.qL H.gc x.clk w7 M7.out.clk CK.out).mono ?_;rintro e wa ⟨rfl,fa,Ca⟩;have ma:=hI (M7.out.zB fa Ca);have Fa:=hI (F7.out.trans (fa.mono (O':=[H.g,H.gw,H.gc]) zs) (fun y hy => .inl hy));clear fa Ca;go_wp2_with fail
         first|go_end0|refine bodyPost_ret (results_none rfl _ _ _) rfl ?_
         have hY:qB x v km true={ x with win:=v,qp:=true,clk:=Rto.qW x.clk }:=by
          unfold qB;rw [if_neg (by rw [ha];simp <;> omega),if_neg HT.out,ha];rfl
         rw [hY];exact⟨_,rfl,LK.out,ma.out,Fa.out⟩
        ·clear hge
         refine qg zk zk ?_;repeat (go_big_quiet_step ((go_at_call 48;exact HSt.out _)))
         refine wpQuiet_nil ?_;intro w7 f7;have m7:=M6.out.fr f7;have e17:w7.cell? ⟨H.g,17,none⟩=some (ptr H.gc):=(qm m7.blk).c17;have M7:=hI m7;have F7:=hI (F6.out.trans f7 zs);clear m7 f7 d16' d17' d21' d22' d23' g16 g22;go_wp2_with fail
         refine (Rto.qL H.gc x.clk w7 M7.out.clk CK.out).mono ?_;rintro e wa ⟨rfl,fa,Ca⟩;have ma:=hI (M7.out.zB fa Ca);have Fa:=hI (F7.out.trans (fa.mono (O':=[H.g,H.gw,H.gc]) zs) (fun y hy => .inl hy));clear fa Ca;go_wp2_with fail
         first|go_end0|refine bodyPost_ret (results_none rfl _ _ _) rfl ?_
         have hY:qB x v km true={ x with win:=v,qp:=true,clk:=Rto.qW x.clk }:=by
          unfold qB;rw [if_neg (by rw [ha];simp <;> omega),if_neg HT.out,ha];rfl
         rw [hY];exact⟨_,rfl,LK.out,ma.out,Fa.out⟩
    ·have hM':¬ M1=0:=zw
     rw [if_neg zw] at hsv;subst hsv;go_wp2_with fail
     refine (HCl.out _ (Fr.refl [] w3)).mono ?_;rintro e w4 ⟨A4,c4,rfl,own4,f4,fb4⟩;have c14':=ql f4 c14;have z14:w4.frozen? ⟨H.g,14,none⟩=false:=(f4.frozen (p:=⟨H.g,14,none⟩) hgl3 zs).trans hz14;have ac:=SI.qp (A:=A4) (c:=c4) M2.out F3.out WW3.out HKA.out f4 (by rw [HDL.out];exact own4) (by rw [HDL.out];exact fb4);rw [HDL.out] at ac;have AC:=hI ac;have LK:Hid (Hd.like w H ⟨H.g,H.gw,H.gc,H.gh, .slice A4 L1 c4,H.uv,H.kv⟩):=hI ⟨rfl,rfl,rfl,rfl,fun b hb=>by
      simp only [Hd.own,List.mem_cons,List.mem_append] at hb |-
      rcases hb with h|h|h|h|h|h|h
      ·exact .inl (.inl h)
      ·exact .inl (.inr (.inl h))
      ·exact .inl (.inr (.inr (.inl h)))
      ·exact .inl (.inr (.inr (.inr (.inl h))))
      ·exact .inl (.inr (.inr (.inr (.inr (.inl h)))))
      ·have h1:=fb4 b (qo.1 h)
       have h2:=F3.out.size;have h3:=F2.out.size;exact .inr zw
      ·exact .inl (.inr (.inr (.inr (.inr (.inr (.inr h))))))⟩
     clear ac own4 fb4 f4;go_upto_region 8 with fail
     obtain⟨m5,f5⟩:=AC.out;generalize w4.setCell ⟨H.g,14,none⟩ (.slice A4 L1 c4)=w5 at *
     have F5:=hI ((F2.out.mono (O':=[H.g,H.gw,H.gc]) zs).trans (f5.mono (O':=[H.g,H.gw,H.gc]) zs) (fun y hy => .inl hy));have cs5:=qm m5.blk;have d16:w5.cell? ⟨H.g,16,none⟩=some (ptr H.gw):=cs5.c16;have d17:w5.cell? ⟨H.g,17,none⟩=some (ptr H.gc):=cs5.c17;have d20:w5.cell? ⟨H.g,20,none⟩=some (.bool x.qp):=cs5.c20;have d21:w5.cell? ⟨H.g,21,none⟩=some (.int .i64 x.now):=cs5.c21;have d22:w5.cell? ⟨H.g,22,none⟩=some (.int .i64 x.timed):=cs5.c22;have d23:w5.cell? ⟨H.g,23,none⟩=some (.int .i64 x.since):=cs5.c23;have z20:w5.frozen? ⟨H.g,20,none⟩=false:=m5.blk.frozen 20;have M5:=hI m5;clear m5 f5 cs5 c14' z14 AC c14 hz14 F3 WW3 HCl HDL HL1 c7 c19 c20 C2 M2 WW2 B2 C14 BY NWS HKC kk0 kk1 kk2;by_cases hk0:(km:Int)=0
     ·rcases Bool.eq_false_or_eq_true x.qp with ha|ha
      ·rw [ha] at d20
       go_wp2_with fail
       first|go_end0|refine bodyPost_ret (results_none rfl _ _ _) rfl ?_
       have hY:qB x v km true={ x with win:=v }:=(by unfold qB;rw [if_pos ⟨hk0,by rw [ha];rfl⟩]);rw [hY];exact⟨_,rfl,LK.out,M5.out,F5.out⟩
      ·rw [ha] at d20
       go_upto_region 10 with fail
       have m6:=M5.out.set (w':=w5.setCell ⟨H.g,20,none⟩ (.bool true)) (x':={ x with win:=v,qp:=true }) ((Fr.refl [H.g] w5).setCell (p:=⟨H.g,20,none⟩) (.inl zs) _) (by simpa using M5.out.blk.qO 20 (.bool true)) rfl rfl rfl rfl rfl;have f6:Fr [H.g] w5 (w5.setCell ⟨H.g,20,none⟩ (.bool true)):=(Fr.refl [H.g] w5).setCell (p:=⟨H.g,20,none⟩) (.inl zs) _;generalize w5.setCell ⟨H.g,20,none⟩ (.bool true)=w6 at *
       have cs6:=qm m6.blk;have F6:=hI (F5.out.trans (f6.mono (O':=[H.g,H.gw,H.gc]) zs) (fun y hy => .inl hy));have d16':w6.cell? ⟨H.g,16,none⟩=some (ptr H.gw):=cs6.c16;have d17':w6.cell? ⟨H.g,17,none⟩=some (ptr H.gc):=cs6.c17;have d21':w6.cell? ⟨H.g,21,none⟩=some (.int .i64 x.now):=cs6.c21;have d22':w6.cell? ⟨H.g,22,none⟩=some (.int .i64 x.timed):=cs6.c22;have d23':w6.cell? ⟨H.g,23,none⟩=some (.int .i64 x.since):=cs6.c23;have g16:=Grew.cell d16';have g22:=Grew.cell d22';have hst:∀ q:Grew w6,Calls Tryz.prog 48 #[ptr H.gw] q.W fun e w'=>e = .returned (.agg #[.int .i64 v.a, .int .i64 v.s, .int .i64 v.m, .int .i64 v.l])/\∃ q':Grew w6,w'=q'.W:=fun q=>qG (Win.kD H.gw v q.W (Blk.fr m6.win q.fr zs));have HSt:=hI hst;have M6:=hI m6;have CK:Hid (Rto.Inv x.clk):=HC;clear hst m6 f6 cs6 d16 d17 d20 d21 d22 d23 z20 M5 F5;by_cases ht:0<x.timed/\x.timed<=v.a
       ·obtain⟨ht1,ht2⟩:=ht
        refine qg zk zk ?_;repeat (go_big_quiet_step ((go_at_call 48;exact HSt.out _)))
        refine wpQuiet_nil ?_;intro w7 f7;have m7:=M6.out.fr f7;have cs7:=qm m7.blk;have e17:w7.cell? ⟨H.g,17,none⟩=some (ptr H.gc):=cs7.c17;have e21:w7.cell? ⟨H.g,21,none⟩=some (.int .i64 x.now):=cs7.c21;have e23:w7.cell? ⟨H.g,23,none⟩=some (.int .i64 x.since):=cs7.c23;have M7:=hI m7;have F7:=hI (F6.out.trans f7 zs);have SEE:Hid (∀ W,Fr [H.gc] w7 W->W.cell? ⟨H.g,17,none⟩=some (ptr H.gc)/\W.cell? ⟨H.g,21,none⟩=some (.int .i64 x.now)/\W.cell? ⟨H.g,23,none⟩=some (.int .i64 x.since)):=hI (fun W fW=>by
         have hn:H.g∉[H.gc]:=(by simpa using fun e=>M7.out.xR e.symm);exact⟨fr3 fW e17 hn,fr3 fW e21 hn,fr3 fW e23 hn⟩)
        clear m7 cs7 f7 d16' d17' d21' d22' d23' g16 g22;go_upto_region 11 with fail
        go_region_held3 (fun w'=>w'.cell? ⟨H.g,17,none⟩=some (ptr H.gc)/\w'.cell? ⟨H.g,21,none⟩=some (.int .i64 x.now)/\w'.cell? ⟨H.g,23,none⟩=some (.int .i64 x.since))
         (first|(with_reducible exact SEE.out _ f8')|go_keep)
         (first
          | (go_at_call 115;refine (Rto.zD H.gc x.clk (x.now - x.since) _ (Blk.fr M7.out.clk (Fr.refl [] w7).drew zs) CK.out).mono ?_;rintro e w8 ⟨rfl,f8,C8⟩;have f8':Fr [H.gc] w7 w8:=(Fr.refl [H.gc] w7).drew.trans f8 (fun y hy => .inl hy);have M8:=hI (M7.out.zB f8' C8);have F8:=hI (F7.out.trans (f8'.mono (O':=[H.g,H.gw,H.gc]) zs) (fun y hy => .inl hy));clear f8 C8))
        have z22:w8.frozen? ⟨H.g,22,none⟩=false:=M8.out.blk.frozen 22;have d22:w8.cell? ⟨H.g,22,none⟩=some (.int .i64 x.timed):=(qm M8.out.blk).c22;have d17:w8.cell? ⟨H.g,17,none⟩=some (ptr H.gc):=(qm M8.out.blk).c17;have hl8:=M8.out.blk.lt;clear e17 e21 e23 SEE f8';go_wp2_with fail
        have f9:Fr [H.g] w8 (w8.setCell ⟨H.g,22,none⟩ (.int .i64 0)):=(Fr.refl [H.g] w8).setCell (p:=⟨H.g,22,none⟩) (.inl zs) _;have m9:=M8.out.set (w':=w8.setCell ⟨H.g,22,none⟩ (.int .i64 0)) (x':={ x with win:=v,qp:=true,timed:=0,clk:=(Rto.qR x.clk (x.now - x.since)).1 }) f9 (by simpa using M8.out.blk.qO 22 (.int .i64 0)) rfl rfl rfl rfl rfl;generalize w8.setCell ⟨H.g,22,none⟩ (.int .i64 0)=w9 at *
        refine (Rto.qL H.gc _ w9 m9.clk (Rto.kY CK.out _)).mono ?_;rintro e wa ⟨rfl,fa,Ca⟩;have ma:=hI (m9.zB fa Ca);have Fa:=hI ((F8.out.trans (f9.mono (O':=[H.g,H.gw,H.gc]) zs) (fun y hy => .inl hy)).trans (fa.mono (O':=[H.g,H.gw,H.gc]) zs) (fun y hy => .inl hy));clear m9 f9 fa Ca;go_wp2_with fail
        first|go_end0|refine bodyPost_ret (results_none rfl _ _ _) rfl ?_
        have hY:qB x v km true={ x with win:=v,qp:=true,timed:=0,clk:=Rto.qW (Rto.qR x.clk (x.now - x.since)).1 }:=by
         unfold qB;rw [if_neg (by rw [ha];simp <;> omega),if_pos ⟨ht1,ht2⟩,ha];rfl
        rw [hY];exact⟨_,rfl,LK.out,ma.out,Fa.out⟩
       ·have hge:decide (x.timed<=v.a)=false\/decide (0<x.timed)=false:=by
         by_cases h1:0<x.timed
         ·left;simp;omega
         ·right;simpa using h1
        have HT:=hI ht;clear ht;by_cases ht1:0<x.timed
        ·have ht2:¬ x.timed<=v.a:=fun h=>HT.out ⟨ht1,h⟩
         clear hge;refine qg zk zk ?_;repeat (go_big_quiet_step ((go_at_call 48;exact HSt.out _)))
         refine wpQuiet_nil ?_;intro w7 f7;have m7:=M6.out.fr f7;have e17:w7.cell? ⟨H.g,17,none⟩=some (ptr H.gc):=(qm m7.blk).c17;have M7:=hI m7;have F7:=hI (F6.out.trans f7 zs);clear m7 f7 d16' d17' d21' d22' d23' g16 g22;go_wp2_with fail
         refine (Rto.qL H.gc x.clk w7 M7.out.clk CK.out).mono ?_;rintro e wa ⟨rfl,fa,Ca⟩;have ma:=hI (M7.out.zB fa Ca);have Fa:=hI (F7.out.trans (fa.mono (O':=[H.g,H.gw,H.gc]) zs) (fun y hy => .inl hy));clear fa Ca;go_wp2_with fail
         first|go_end0|refine bodyPost_ret (results_none rfl _ _ _) rfl ?_
         have hY:qB x v km true={ x with win:=v,qp:=true,clk:=Rto.qW x.clk }:=by
          unfold qB;rw [if_neg (by rw [ha];simp <;> omega),if_neg HT.out,ha];rfl
         rw [hY];exact⟨_,rfl,LK.out,ma.out,Fa.out⟩
        ·clear hge
         refine qg zk zk ?_;repeat (go_big_quiet_step ((go_at_call 48;exact HSt.out _)))
         refine wpQuiet_nil ?_;intro w7 f7;have m7:=M6.out.fr f7;have e17:w7.cell? ⟨H.g,17,none⟩=some (ptr H.gc):=(qm m7.blk).c17;have M7:=hI m7;have F7:=hI (F6.out.trans f7 zs);clear m7 f7 d16' d17' d21' d22' d23' g16 g22;go_wp2_with fail
         refine (Rto.qL H.gc x.clk w7 M7.out.clk CK.out).mono ?_;rintro e wa ⟨rfl,fa,Ca⟩;have ma:=hI (M7.out.zB fa Ca);have Fa:=hI (F7.out.trans (fa.mono (O':=[H.g,H.gw,H.gc]) zs) (fun y hy => .inl hy));clear fa Ca;go_wp2_with fail
         first|go_end0|refine bodyPost_ret (results_none rfl _ _ _) rfl ?_
         have hY:qB x v km true={ x with win:=v,qp:=true,clk:=Rto.qW x.clk }:=by
          unfold qB;rw [if_neg (by rw [ha];simp <;> omega),if_neg HT.out,ha];rfl
         rw [hY];exact⟨_,rfl,LK.out,ma.out,Fa.out⟩
     ·have hk1:¬ km=0:=zw
      have hk2:decide ((km:Int)=0)=false:=(by simpa using hk1);rcases Bool.eq_false_or_eq_true x.qp with ha|ha
      ·rw [ha] at d20
       go_upto_region 10 with fail
       have m6:=M5.out.set (w':=w5.setCell ⟨H.g,20,none⟩ (.bool true)) (x':={ x with win:=v,qp:=true }) ((Fr.refl [H.g] w5).setCell (p:=⟨H.g,20,none⟩) (.inl zs) _) (by simpa using M5.out.blk.qO 20 (.bool true)) rfl rfl rfl rfl rfl;have f6:Fr [H.g] w5 (w5.setCell ⟨H.g,20,none⟩ (.bool true)):=(Fr.refl [H.g] w5).setCell (p:=⟨H.g,20,none⟩) (.inl zs) _;generalize w5.setCell ⟨H.g,20,none⟩ (.bool true)=w6 at *
       have cs6:=qm m6.blk;have F6:=hI (F5.out.trans (f6.mono (O':=[H.g,H.gw,H.gc]) zs) (fun y hy => .inl hy));have d16':w6.cell? ⟨H.g,16,none⟩=some (ptr H.gw):=cs6.c16;have d17':w6.cell? ⟨H.g,17,none⟩=some (ptr H.gc):=cs6.c17;have d21':w6.cell? ⟨H.g,21,none⟩=some (.int .i64 x.now):=cs6.c21;have d22':w6.cell? ⟨H.g,22,none⟩=some (.int .i64 x.timed):=cs6.c22;have d23':w6.cell? ⟨H.g,23,none⟩=some (.int .i64 x.since):=cs6.c23;have g16:=Grew.cell d16';have g22:=Grew.cell d22';have hst:∀ q:Grew w6,Calls Tryz.prog 48 #[ptr H.gw] q.W fun e w'=>e = .returned (.agg #[.int .i64 v.a, .int .i64 v.s, .int .i64 v.m, .int .i64 v.l])/\∃ q':Grew w6,w'=q'.W:=fun q=>qG (Win.kD H.gw v q.W (Blk.fr m6.win q.fr zs));have HSt:=hI hst;have M6:=hI m6;have CK:Hid (Rto.Inv x.clk):=HC;clear hst m6 f6 cs6 d16 d17 d20 d21 d22 d23 z20 M5 F5;by_cases ht:0<x.timed/\x.timed<=v.a
       ·obtain⟨ht1,ht2⟩:=ht
        refine qg zk zk ?_;repeat (go_big_quiet_step ((go_at_call 48;exact HSt.out _)))
        refine wpQuiet_nil ?_;intro w7 f7;have m7:=M6.out.fr f7;have cs7:=qm m7.blk;have e17:w7.cell? ⟨H.g,17,none⟩=some (ptr H.gc):=cs7.c17;have e21:w7.cell? ⟨H.g,21,none⟩=some (.int .i64 x.now):=cs7.c21;have e23:w7.cell? ⟨H.g,23,none⟩=some (.int .i64 x.since):=cs7.c23;have M7:=hI m7;have F7:=hI (F6.out.trans f7 zs);have SEE:Hid (∀ W,Fr [H.gc] w7 W->W.cell? ⟨H.g,17,none⟩=some (ptr H.gc)/\W.cell? ⟨H.g,21,none⟩=some (.int .i64 x.now)/\W.cell? ⟨H.g,23,none⟩=some (.int .i64 x.since)):=hI (fun W fW=>by
         have hn:H.g∉[H.gc]:=(by simpa using fun e=>M7.out.xR e.symm);exact⟨fr3 fW e17 hn,fr3 fW e21 hn,fr3 fW e23 hn⟩)
        clear m7 cs7 f7 d16' d17' d21' d22' d23' g16 g22;go_upto_region 11 with fail
        go_region_held3 (fun w'=>w'.cell? ⟨H.g,17,none⟩=some (ptr H.gc)/\w'.cell? ⟨H.g,21,none⟩=some (.int .i64 x.now)/\w'.cell? ⟨H.g,23,none⟩=some (.int .i64 x.since))
         (first|(with_reducible exact SEE.out _ f8')|go_keep)
         (first
          | (go_at_call 115;refine (Rto.zD H.gc x.clk (x.now - x.since) _ (Blk.fr M7.out.clk (Fr.refl [] w7).drew zs) CK.out).mono ?_;rintro e w8 ⟨rfl,f8,C8⟩;have f8':Fr [H.gc] w7 w8:=(Fr.refl [H.gc] w7).drew.trans f8 (fun y hy => .inl hy);have M8:=hI (M7.out.zB f8' C8);have F8:=hI (F7.out.trans (f8'.mono (O':=[H.g,H.gw,H.gc]) zs) (fun y hy => .inl hy));clear f8 C8))
        have z22:w8.frozen? ⟨H.g,22,none⟩=false:=M8.out.blk.frozen 22;have d22:w8.cell? ⟨H.g,22,none⟩=some (.int .i64 x.timed):=(qm M8.out.blk).c22;have d17:w8.cell? ⟨H.g,17,none⟩=some (ptr H.gc):=(qm M8.out.blk).c17;have hl8:=M8.out.blk.lt;clear e17 e21 e23 SEE f8';go_wp2_with fail
        have f9:Fr [H.g] w8 (w8.setCell ⟨H.g,22,none⟩ (.int .i64 0)):=(Fr.refl [H.g] w8).setCell (p:=⟨H.g,22,none⟩) (.inl zs) _;have m9:=M8.out.set (w':=w8.setCell ⟨H.g,22,none⟩ (.int .i64 0)) (x':={ x with win:=v,qp:=true,timed:=0,clk:=(Rto.qR x.clk (x.now - x.since)).1 }) f9 (by simpa using M8.out.blk.qO 22 (.int .i64 0)) rfl rfl rfl rfl rfl;generalize w8.setCell ⟨H.g,22,none⟩ (.int .i64 0)=w9 at *
        refine (Rto.qL H.gc _ w9 m9.clk (Rto.kY CK.out _)).mono ?_;rintro e wa ⟨rfl,fa,Ca⟩;have ma:=hI (m9.zB fa Ca);have Fa:=hI ((F8.out.trans (f9.mono (O':=[H.g,H.gw,H.gc]) zs) (fun y hy => .inl hy)).trans (fa.mono (O':=[H.g,H.gw,H.gc]) zs) (fun y hy => .inl hy));clear m9 f9 fa Ca;go_wp2_with fail
        first|go_end0|refine bodyPost_ret (results_none rfl _ _ _) rfl ?_
        have hY:qB x v km true={ x with win:=v,qp:=true,timed:=0,clk:=Rto.qW (Rto.qR x.clk (x.now - x.since)).1 }:=by
         unfold qB;rw [if_neg (by rw [ha];simp <;> omega),if_pos ⟨ht1,ht2⟩,ha];rfl
        rw [hY];exact⟨_,rfl,LK.out,ma.out,Fa.out⟩
       ·have hge:decide (x.timed<=v.a)=false\/decide (0<x.timed)=false:=by
         by_cases h1:0<x.timed
         ·left;simp;omega
         ·right;simpa using h1
        have HT:=hI ht;clear ht;by_cases ht1:0<x.timed
        ·have ht2:¬ x.timed<=v.a:=fun h=>HT.out ⟨ht1,h⟩
         clear hge;refine qg zk zk ?_;repeat (go_big_quiet_step ((go_at_call 48;exact HSt.out _)))
         refine wpQuiet_nil ?_;intro w7 f7;have m7:=M6.out.fr f7;have e17:w7.cell? ⟨H.g,17,none⟩=some (ptr H.gc):=(qm m7.blk).c17;have M7:=hI m7;have F7:=hI (F6.out.trans f7 zs);clear m7 f7 d16' d17' d21' d22' d23' g16 g22;go_wp2_with fail
         refine (Rto.qL H.gc x.clk w7 M7.out.clk CK.out).mono ?_;rintro e wa ⟨rfl,fa,Ca⟩;have ma:=hI (M7.out.zB fa Ca);have Fa:=hI (F7.out.trans (fa.mono (O':=[H.g,H.gw,H.gc]) zs) (fun y hy => .inl hy));clear fa Ca;go_wp2_with fail
         first|go_end0|refine bodyPost_ret (results_none rfl _ _ _) rfl ?_
         have hY:qB x v km true={ x with win:=v,qp:=true,clk:=Rto.qW x.clk }:=by
          unfold qB;rw [if_neg (by rw [ha];simp <;> omega),if_neg HT.out,ha];rfl
         rw [hY];exact⟨_,rfl,LK.out,ma.out,Fa.out⟩
        ·clear hge
         refine qg zk zk ?_;repeat (go_big_quiet_step ((go_at_call 48;exact HSt.out _)))
         refine wpQuiet_nil ?_;intro w7 f7;have m7:=M6.out.fr f7;have e17:w7.cell? ⟨H.g,17,none⟩=some (ptr H.gc):=(qm m7.blk).c17;have M7:=hI m7;have F7:=hI (F6.out.trans f7 zs);clear m7 f7 d16' d17' d21' d22' d23' g16 g22;go_wp2_with fail
         refine (Rto.qL H.gc x.clk w7 M7.out.clk CK.out).mono ?_;rintro e wa ⟨rfl,fa,Ca⟩;have ma:=hI (M7.out.zB fa Ca);have Fa:=hI (F7.out.trans (fa.mono (O':=[H.g,H.gw,H.gc]) zs) (fun y hy => .inl hy));clear fa Ca;go_wp2_with fail
         first|go_end0|refine bodyPost_ret (results_none rfl _ _ _) rfl ?_
         have hY:qB x v km true={ x with win:=v,qp:=true,clk:=Rto.qW x.clk }:=by
          unfold qB;rw [if_neg (by rw [ha];simp <;> omega),if_neg HT.out,ha];rfl
         rw [hY];exact⟨_,rfl,LK.out,ma.out,Fa.out⟩
      ·rw [ha] at d20
       go_upto_region 10 with fail
       have m6:=M5.out.set (w':=w5.setCell ⟨H.g,20,none⟩ (.bool true)) (x':={ x with win:=v,qp:=true }) ((Fr.refl [H.g] w5).setCell (p:=⟨H.g,20,none⟩) (.inl zs) _) (by simpa using M5.out.blk.qO 20 (.bool true)) rfl rfl rfl rfl rfl;have f6:Fr [H.g] w5 (w5.setCell ⟨H.g,20,none⟩ (.bool true)):=(Fr.refl [H.g] w5).setCell (p:=⟨H.g,20,none⟩) (.inl zs) _;generalize w5.setCell ⟨H.g,20,none⟩ (.bool true)=w6 at *
       have cs6:=qm m6.blk;have F6:=hI (F5.out.trans (f6.mono (O':=[H.g,H.gw,H.gc]) zs) (fun y hy => .inl hy));have d16':w6.cell? ⟨H.g,16,none⟩=some (ptr H.gw):=cs6.c16;have d17':w6.cell? ⟨H.g,17,none⟩=some (ptr H.gc):=cs6.c17;have d21':w6.cell? ⟨H.g,21,none⟩=some (.int .i64 x.now):=cs6.c21;have d22':w6.cell? ⟨H.g,22,none⟩=some (.int .i64 x.timed):=cs6.c22;have d23':w6.cell? ⟨H.g,23,none⟩=some (.int .i64 x.since):=cs6.c23;have g16:=Grew.cell d16';have g22:=Grew.cell d22';have hst:∀ q:Grew w6,Calls Tryz.prog 48 #[ptr H.gw] q.W fun e w'=>e = .returned (.agg #[.int .i64 v.a, .int .i64 v.s, .int .i64 v.m, .int .i64 v.l])/\∃ q':Grew w6,w'=q'.W:=fun q=>qG (Win.kD H.gw v q.W (Blk.fr m6.win q.fr zs));have HSt:=hI hst;have M6:=hI m6;have CK:Hid (Rto.Inv x.clk):=HC;clear hst m6 f6 cs6 d16 d17 d20 d21 d22 d23 z20 M5 F5;by_cases ht:0<x.timed/\x.timed<=v.a
       ·obtain⟨ht1,ht2⟩:=ht
        refine qg zk zk ?_;repeat (go_big_quiet_step ((go_at_call 48;exact HSt.out _)))
        refine wpQuiet_nil ?_;intro w7 f7;have m7:=M6.out.fr f7;have cs7:=qm m7.blk;have e17:w7.cell? ⟨H.g,17,none⟩=some (ptr H.gc):=cs7.c17;have e21:w7.cell? ⟨H.g,21,none⟩=some (.int .i64 x.now):=cs7.c21;have e23:w7.cell? ⟨H.g,23,none⟩=some (.int .i64 x.since):=cs7.c23;have M7:=hI m7;have F7:=hI (F6.out.trans f7 zs);have SEE:Hid (∀ W,Fr [H.gc] w7 W->W.cell? ⟨H.g,17,none⟩=some (ptr H.gc)/\W.cell? ⟨H.g,21,none⟩=some (.int .i64 x.now)/\W.cell? ⟨H.g,23,none⟩=some (.int .i64 x.since)):=hI (fun W fW=>by
         have hn:H.g∉[H.gc]:=(by simpa using fun e=>M7.out.xR e.symm);exact⟨fr3 fW e17 hn,fr3 fW e21 hn,fr3 fW e23 hn⟩)
        clear m7 cs7 f7 d16' d17' d21' d22' d23' g16 g22;go_upto_region 11 with fail
        go_region_held3 (fun w'=>w'.cell? ⟨H.g,17,none⟩=some (ptr H.gc)/\w'.cell? ⟨H.g,21,none⟩=some (.int .i64 x.now)/\w'.cell? ⟨H.g,23,none⟩=some (.int .i64 x.since))
         (first|(with_reducible exact SEE.out _ f8')|go_keep)
         (first
          | (go_at_call 115;refine (Rto.zD H.gc x.clk (x.now - x.since) _ (Blk.fr M7.out.clk (Fr.refl [] w7).drew zs) CK.out).mono ?_;rintro e w8 ⟨rfl,f8,C8⟩;have f8':Fr [H.gc] w7 w8:=(Fr.refl [H.gc] w7).drew.trans f8 (fun y hy => .inl hy);have M8:=hI (M7.out.zB f8' C8);have F8:=hI (F7.out.trans (f8'.mono (O':=[H.g,H.gw,H.gc]) zs) (fun y hy => .inl hy));clear f8 C8))
        have z22:w8.frozen? ⟨H.g,22,none⟩=false:=M8.out.blk.frozen 22;have d22:w8.cell? ⟨H.g,22,none⟩=some (.int .i64 x.timed):=(qm M8.out.blk).c22;have d17:w8.cell? ⟨H.g,17,none⟩=some (ptr H.gc):=(qm M8.out.blk).c17;have hl8:=M8.out.blk.lt;clear e17 e21 e23 SEE f8';go_wp2_with fail
        have f9:Fr [H.g] w8 (w8.setCell ⟨H.g,22,none⟩ (.int .i64 0)):=(Fr.refl [H.g] w8).setCell (p:=⟨H.g,22,none⟩) (.inl zs) _;have m9:=M8.out.set (w':=w8.setCell ⟨H.g,22,none⟩ (.int .i64 0)) (x':={ x with win:=v,qp:=true,timed:=0,clk:=(Rto.qR x.clk (x.now - x.since)).1 }) f9 (by simpa using M8.out.blk.qO 22 (.int .i64 0)) rfl rfl rfl rfl rfl;generalize w8.setCell ⟨H.g,22,none⟩ (.int .i64 0)=w9 at *
        refine (Rto.qL H.gc _ w9 m9.clk (Rto.kY CK.out _)).mono ?_;rintro e wa ⟨rfl,fa,Ca⟩;have ma:=hI (m9.zB fa Ca);have Fa:=hI ((F8.out.trans (f9.mono (O':=[H.g,H.gw,H.gc]) zs) (fun y hy => .inl hy)).trans (fa.mono (O':=[H.g,H.gw,H.gc]) zs) (fun y hy => .inl hy));clear m9 f9 fa Ca;go_wp2_with fail
        first|go_end0|refine bodyPost_ret (results_none rfl _ _ _) rfl ?_
        have hY:qB x v km true={ x with win:=v,qp:=true,timed:=0,clk:=Rto.qW (Rto.qR x.clk (x.now - x.since)).1 }:=by
         unfold qB;rw [if_neg (by rw [ha];simp <;> omega),if_pos ⟨ht1,ht2⟩,ha];rfl
        rw [hY];exact⟨_,rfl,LK.out,ma.out,Fa.out⟩
       ·have hge:decide (x.timed<=v.a)=false\/decide (0<x.timed)=false:=by
         by_cases h1:0<x.timed
         ·left;simp;omega
         ·right;simpa using h1
        have HT:=hI ht;clear ht;by_cases ht1:0<x.timed
        ·have ht2:¬ x.timed<=v.a:=fun h=>HT.out ⟨ht1,h⟩
         clear hge;refine qg zk zk ?_;repeat (go_big_quiet_step ((go_at_call 48;exact HSt.out _)))
         refine wpQuiet_nil ?_;intro w7 f7;have m7:=M6.out.fr f7;have e17:w7.cell? ⟨H.g,17,none⟩=some (ptr H.gc):=(qm m7.blk).c17;have M7:=hI m7;have F7:=hI (F6.out.trans f7 zs);clear m7 f7 d16' d17' d21' d22' d23' g16 g22;go_wp2_with fail
         refine (Rto.qL H.gc x.clk w7 M7.out.clk CK.out).mono ?_;rintro e wa ⟨rfl,fa,Ca⟩;have ma:=hI (M7.out.zB fa Ca);have Fa:=hI (F7.out.trans (fa.mono (O':=[H.g,H.gw,H.gc]) zs) (fun y hy => .inl hy));clear fa Ca;go_wp2_with fail
         first|go_end0|refine bodyPost_ret (results_none rfl _ _ _) rfl ?_
         have hY:qB x v km true={ x with win:=v,qp:=true,clk:=Rto.qW x.clk }:=by
          unfold qB;rw [if_neg (by rw [ha];simp <;> omega),if_neg HT.out,ha];rfl
         rw [hY];exact⟨_,rfl,LK.out,ma.out,Fa.out⟩
        ·clear hge
         refine qg zk zk ?_;repeat (go_big_quiet_step ((go_at_call 48;exact HSt.out _)))
         refine wpQuiet_nil ?_;intro w7 f7;have m7:=M6.out.fr f7;have e17:w7.cell? ⟨H.g,17,none⟩=some (ptr H.gc):=(qm m7.blk).c17;have M7:=hI m7;have F7:=hI (F6.out.trans f7 zs);clear m7 f7 d16' d17' d21' d22' d23' g16 g22;go_wp2_with fail
         refine (Rto.qL H.gc x.clk w7 M7.out.clk CK.out).mono ?_;rintro e wa ⟨rfl,fa,Ca⟩;have ma:=hI (M7.out.zB fa Ca);have Fa:=hI (F7.out.trans (fa.mono (O':=[H.g,H.gw,H.gc]) zs) (fun y hy => .inl hy));clear fa Ca;go_wp2_with fail
         first|go_end0|refine bodyPost_ret (results_none rfl _ _ _) rfl ?_
         have hY:qB x v km true={ x with win:=v,qp:=true,clk:=Rto.qW x.clk }:=by
          unfold qB;rw [if_neg (by rw [ha];simp <;> omega),if_neg HT.out,ha];rfl
         rw [hY];exact⟨_,rfl,LK.out,ma.out,Fa.out⟩
  ·have hbq:(n0 == (x.all.length:Int)+1)=false:=by simpa using hn
   have hdq:decide (n0=(x.all.length:Int)+1)=false:=by simpa using hn
   obtain rfl:E=false:=by rw [HE.out,hf];simp [hn]
   clear hn;obtain rfl:U=n0:=by rw [HU.out];rfl
   go_upto_region 6 with fail
   go_cut [7] (fun s7 wx=>s7 = .int .i64 km/\Fr [H.gw] w2 wx/\Win.Win wx H.gw v true);case first=>
    have c16:=C2.out.c16;have c99:=YB.out.2;go_region_held3 (fun w'=>w'.cell? ⟨H.g,16,none⟩=some (ptr H.gw)/\w'.cell? ⟨w.heap.size,3,none⟩=some (.int .u16 wi))
     (first|(with_reducible exact⟨s0,s1⟩)|go_keep)
     (first
      | (go_at_call 113;refine (HAck.out _ (Blk.fr WW2.out (Fr.refl [] w2).drew zs)).mono ?_;rintro e w3 ⟨rfl,f3,W3⟩;have f3':Fr [H.gw] w2 w3:=(Fr.refl [H.gw] w2).drew.trans f3 (fun y hy => .inl hy);have s0:w3.cell? ⟨H.g,16,none⟩=some (ptr H.gw):=(f3'.cell (p:=⟨H.g,16,none⟩) HGL.out NGW.out).trans c16;have s1:w3.cell? ⟨w.heap.size,3,none⟩=some (.int .u16 wi):=(f3'.cell (p:=⟨w.heap.size,3,none⟩) YB.out.1 NRW.out).trans c99;have F3:=hI f3';have WW3:=hI W3;clear f3 f3' W3))
    go_wp2_with fail
    go_meet;exact⟨rfl,F3.out,WW3.out⟩
   case rest=>
    obtain⟨rfl,f3,W3⟩:=hcut;generalize wc=w3 at *
    have c14:w3.cell? ⟨H.g,14,none⟩=some (.slice bA (kw x).length bc):=(f3.cell (p:=⟨H.g,14,none⟩) HGL.out NGW.out).trans C14.out;have hz14:w3.frozen? ⟨H.g,14,none⟩=false:=((M2.out.blk.fr f3 NGW.out).frozen 14);have hgl3:H.g<w3.heap.size:=Nat.lt_of_lt_of_le HGL.out f3.size;have hb3:=BY.out.fr f3 (fun y hy hs=>by simp at hy;subst hy;exact NWS.out hs);obtain⟨L1,hL1⟩:∃ L1,(kw x).length=km+L1:=⟨(kw x).length - km,by have:=HKM.out;omega⟩;obtain⟨M1,rfl⟩:∃ M1,bc=km+M1:=⟨bc - km,by have:=HKM.out;have:=HKC.out;omega⟩;have hdl:((kw x).drop km).length=L1:=(by rw [List.length_drop];omega);have hcut3:=hb3.cut (k:=km) HKM.out;rw [hL1,show km+L1 - km=L1 by omega,show km+M1 - km=M1 by omega] at hcut3;obtain⟨sv,hsv⟩:∃ sv:Option Addr,(if km+M1=km then bA else bA.map (·.add km))=sv:=⟨_,rfl⟩;rw [hsv] at hcut3;have hcl:∀ W,Fr [] w3 W->Calls Tryz.prog 40 #[.slice sv L1 M1] W fun e w'=>∃ A c,e = .returned (.slice A L1 c)/\w'.ownsRow 0 5 1 (.slice A L1 c) L1 (kE ((kw x).drop km))/\Fr [] W w'/\(∀ b,(Value.slice A L1 c).ownBlock=some b->W.heap.size<=b):=fun W fW=>by
     have h:=kZ W (hcut3.fr fW zs) (by have h1:=HLEN.out;have h2:(kw x).length<=x.all.length:=by { unfold kw;rw [List.length_drop];omega };rw [hdl];omega);rw [hdl] at h;exact h
    have hkc:=HKC.out;rw [hL1] at c14;have kk0:(0:Int)<=(km:Int):=zw;have kk1:(km:Int)<=(km:Int)+(L1:Int):=zw;have kk2:(km:Int)+(L1:Int)<=(km:Int)+(M1:Int):=zw;have F3:=hI f3;have WW3:=hI W3;have HCl:=hI hcl;have HDL:=hI hdl;have HL1:=hI hL1;clear hcl hcut3 hb3 f3 W3 hdl hL1 hkc;rcases Nat.eq_zero_or_pos M1 with hM|hM
    ·subst hM
     rw [if_pos zw] at hsv;subst hsv;go_wp2_with fail
     refine (HCl.out _ (Fr.refl [] w3)).mono ?_;rintro e w4 ⟨A4,c4,rfl,own4,f4,fb4⟩;have c14':=ql f4 c14;have z14:w4.frozen? ⟨H.g,14,none⟩=false:=(f4.frozen (p:=⟨H.g,14,none⟩) hgl3 zs).trans hz14;have ac:=SI.qp (A:=A4) (c:=c4) M2.out F3.out WW3.out HKA.out f4 (by rw [HDL.out];exact own4) (by rw [HDL.out];exact fb4);rw [HDL.out] at ac;have AC:=hI ac;have LK:Hid (Hd.like w H ⟨H.g,H.gw,H.gc,H.gh, .slice A4 L1 c4,H.uv,H.kv⟩):=hI ⟨rfl,rfl,rfl,rfl,fun b hb=>by
      simp only [Hd.own,List.mem_cons,List.mem_append] at hb |-
      rcases hb with h|h|h|h|h|h|h
      ·exact .inl (.inl h)
      ·exact .inl (.inr (.inl h))
      ·exact .inl (.inr (.inr (.inl h)))
      ·exact .inl (.inr (.inr (.inr (.inl h))))
      ·exact .inl (.inr (.inr (.inr (.inr (.inl h)))))
      ·have h1:=fb4 b (qo.1 h)
       have h2:=F3.out.size;have h3:=F2.out.size;exact .inr zw
      ·exact .inl (.inr (.inr (.inr (.inr (.inr (.inr h))))))⟩
     clear ac own4 fb4 f4;go_upto_region 8 with fail
     obtain⟨m5,f5⟩:=AC.out;generalize w4.setCell ⟨H.g,14,none⟩ (.slice A4 L1 c4)=w5 at *
     have F5:=hI ((F2.out.mono (O':=[H.g,H.gw,H.gc]) zs).trans (f5.mono (O':=[H.g,H.gw,H.gc]) zs) (fun y hy => .inl hy));have cs5:=qm m5.blk;have d16:w5.cell? ⟨H.g,16,none⟩=some (ptr H.gw):=cs5.c16;have d17:w5.cell? ⟨H.g,17,none⟩=some (ptr H.gc):=cs5.c17;have d20:w5.cell? ⟨H.g,20,none⟩=some (.bool x.qp):=cs5.c20;have d21:w5.cell? ⟨H.g,21,none⟩=some (.int .i64 x.now):=cs5.c21;have d22:w5.cell? ⟨H.g,22,none⟩=some (.int .i64 x.timed):=cs5.c22;have d23:w5.cell? ⟨H.g,23,none⟩=some (.int .i64 x.since):=cs5.c23;have z20:w5.frozen? ⟨H.g,20,none⟩=false:=m5.blk.frozen 20;have M5:=hI m5;clear m5 f5 cs5 c14' z14 AC c14 hz14 F3 WW3 HCl HDL HL1 c7 c19 c20 C2 M2 WW2 B2 C14 BY NWS HKC kk0 kk1 kk2;by_cases hk0:(km:Int)=0
     ·rcases Bool.eq_false_or_eq_true x.qp with ha|ha
      ·rw [ha] at d20
       go_wp2_with fail
       first|go_end0|refine bodyPost_ret (results_none rfl _ _ _) rfl ?_
       have hY:qB x v km false={ x with win:=v }:=(by unfold qB;rw [if_pos ⟨hk0,by rw [ha];rfl⟩]);rw [hY];exact⟨_,rfl,LK.out,M5.out,F5.out⟩
      ·rw [ha] at d20
       go_wp2_with fail
       first|go_end0|refine bodyPost_ret (results_none rfl _ _ _) rfl ?_
       have hY:qB x v km false={ x with win:=v }:=(by unfold qB;rw [if_pos ⟨hk0,rfl⟩]);rw [hY];exact⟨_,rfl,LK.out,M5.out,F5.out⟩
     ·have hk1:¬ km=0:=zw
      have hk2:decide ((km:Int)=0)=false:=(by simpa using hk1);rcases Bool.eq_false_or_eq_true x.qp with ha|ha
      ·rw [ha] at d20
       go_upto_region 10 with fail
       have m6:=M5.out.set (w':=w5.setCell ⟨H.g,20,none⟩ (.bool true)) (x':={ x with win:=v,qp:=true }) ((Fr.refl [H.g] w5).setCell (p:=⟨H.g,20,none⟩) (.inl zs) _) (by simpa using M5.out.blk.qO 20 (.bool true)) rfl rfl rfl rfl rfl;have f6:Fr [H.g] w5 (w5.setCell ⟨H.g,20,none⟩ (.bool true)):=(Fr.refl [H.g] w5).setCell (p:=⟨H.g,20,none⟩) (.inl zs) _;generalize w5.setCell ⟨H.g,20,none⟩ (.bool true)=w6 at *
       have cs6:=qm m6.blk;have F6:=hI (F5.out.trans (f6.mono (O':=[H.g,H.gw,H.gc]) zs) (fun y hy => .inl hy));have d16':w6.cell? ⟨H.g,16,none⟩=some (ptr H.gw):=cs6.c16;have d17':w6.cell? ⟨H.g,17,none⟩=some (ptr H.gc):=cs6.c17;have d21':w6.cell? ⟨H.g,21,none⟩=some (.int .i64 x.now):=cs6.c21;have d22':w6.cell? ⟨H.g,22,none⟩=some (.int .i64 x.timed):=cs6.c22;have d23':w6.cell? ⟨H.g,23,none⟩=some (.int .i64 x.since):=cs6.c23;have g16:=Grew.cell d16';have g22:=Grew.cell d22';have hst:∀ q:Grew w6,Calls Tryz.prog 48 #[ptr H.gw] q.W fun e w'=>e = .returned (.agg #[.int .i64 v.a, .int .i64 v.s, .int .i64 v.m, .int .i64 v.l])/\∃ q':Grew w6,w'=q'.W:=fun q=>qG (Win.kD H.gw v q.W (Blk.fr m6.win q.fr zs));have HSt:=hI hst;have M6:=hI m6;have CK:Hid (Rto.Inv x.clk):=HC;clear hst m6 f6 cs6 d16 d17 d20 d21 d22 d23 z20 M5 F5;by_cases ht:0<x.timed/\x.timed<=v.a
       ·obtain⟨ht1,ht2⟩:=ht
        refine qg zk zk ?_;repeat (go_big_quiet_step ((go_at_call 48;exact HSt.out _)))
        refine wpQuiet_nil ?_;intro w7 f7;have m7:=M6.out.fr f7;have cs7:=qm m7.blk;have e17:w7.cell? ⟨H.g,17,none⟩=some (ptr H.gc):=cs7.c17;have e21:w7.cell? ⟨H.g,21,none⟩=some (.int .i64 x.now):=cs7.c21;have e23:w7.cell? ⟨H.g,23,none⟩=some (.int .i64 x.since):=cs7.c23;have M7:=hI m7;have F7:=hI (F6.out.trans f7 zs);have SEE:Hid (∀ W,Fr [H.gc] w7 W->W.cell? ⟨H.g,17,none⟩=some (ptr H.gc)/\W.cell? ⟨H.g,21,none⟩=some (.int .i64 x.now)/\W.cell? ⟨H.g,23,none⟩=some (.int .i64 x.since)):=hI (fun W fW=>by
         have hn:H.g∉[H.gc]:=(by simpa using fun e=>M7.out.xR e.symm);exact⟨fr3 fW e17 hn,fr3 fW e21 hn,fr3 fW e23 hn⟩)
        clear m7 cs7 f7 d16' d17' d21' d22' d23' g16 g22;go_upto_region 11 with fail
        go_region_held3 (fun w'=>w'.cell? ⟨H.g,17,none⟩=some (ptr H.gc)/\w'.cell? ⟨H.g,21,none⟩=some (.int .i64 x.now)/\w'.cell? ⟨H.g,23,none⟩=some (.int .i64 x.since))
         (first|(with_reducible exact SEE.out _ f8')|go_keep)
         (first
          | (go_at_call 115;refine (Rto.zD H.gc x.clk (x.now - x.since) _ (Blk.fr M7.out.clk (Fr.refl [] w7).drew zs) CK.out).mono ?_;rintro e w8 ⟨rfl,f8,C8⟩;have f8':Fr [H.gc] w7 w8:=(Fr.refl [H.gc] w7).drew.trans f8 (fun y hy => .inl hy);have M8:=hI (M7.out.zB f8' C8);have F8:=hI (F7.out.trans (f8'.mono (O':=[H.g,H.gw,H.gc]) zs) (fun y hy => .inl hy));clear f8 C8))
        have z22:w8.frozen? ⟨H.g,22,none⟩=false:=M8.out.blk.frozen 22;have d22:w8.cell? ⟨H.g,22,none⟩=some (.int .i64 x.timed):=(qm M8.out.blk).c22;have d17:w8.cell? ⟨H.g,17,none⟩=some (ptr H.gc):=(qm M8.out.blk).c17;have hl8:=M8.out.blk.lt;clear e17 e21 e23 SEE f8';go_wp2_with fail
        have f9:Fr [H.g] w8 (w8.setCell ⟨H.g,22,none⟩ (.int .i64 0)):=(Fr.refl [H.g] w8).setCell (p:=⟨H.g,22,none⟩) (.inl zs) _;have m9:=M8.out.set (w':=w8.setCell ⟨H.g,22,none⟩ (.int .i64 0)) (x':={ x with win:=v,qp:=true,timed:=0,clk:=(Rto.qR x.clk (x.now - x.since)).1 }) f9 (by simpa using M8.out.blk.qO 22 (.int .i64 0)) rfl rfl rfl rfl rfl;generalize w8.setCell ⟨H.g,22,none⟩ (.int .i64 0)=w9 at *
        refine (Rto.qL H.gc _ w9 m9.clk (Rto.kY CK.out _)).mono ?_;rintro e wa ⟨rfl,fa,Ca⟩;have ma:=hI (m9.zB fa Ca);have Fa:=hI ((F8.out.trans (f9.mono (O':=[H.g,H.gw,H.gc]) zs) (fun y hy => .inl hy)).trans (fa.mono (O':=[H.g,H.gw,H.gc]) zs) (fun y hy => .inl hy));clear m9 f9 fa Ca;go_wp2_with fail
        first|go_end0|refine bodyPost_ret (results_none rfl _ _ _) rfl ?_
        have hY:qB x v km false={ x with win:=v,qp:=true,timed:=0,clk:=Rto.qW (Rto.qR x.clk (x.now - x.since)).1 }:=by
         unfold qB;rw [if_neg (by rw [ha];simp <;> omega),if_pos ⟨ht1,ht2⟩,ha];rfl
        rw [hY];exact⟨_,rfl,LK.out,ma.out,Fa.out⟩
       ·have hge:decide (x.timed<=v.a)=false\/decide (0<x.timed)=false:=by
         by_cases h1:0<x.timed
         ·left;simp;omega
         ·right;simpa using h1
        have HT:=hI ht;clear ht;by_cases ht1:0<x.timed
        ·have ht2:¬ x.timed<=v.a:=fun h=>HT.out ⟨ht1,h⟩
         clear hge;refine qg zk zk ?_;repeat (go_big_quiet_step ((go_at_call 48;exact HSt.out _)))
         refine wpQuiet_nil ?_;intro w7 f7;have m7:=M6.out.fr f7;have e17:w7.cell? ⟨H.g,17,none⟩=some (ptr H.gc):=(qm m7.blk).c17;have M7:=hI m7;have F7:=hI (F6.out.trans f7 zs);clear m7 f7 d16' d17' d21' d22' d23' g16 g22;go_wp2_with fail
         refine (Rto.qL H.gc x.clk w7 M7.out.clk CK.out).mono ?_;rintro e wa ⟨rfl,fa,Ca⟩;have ma:=hI (M7.out.zB fa Ca);have Fa:=hI (F7.out.trans (fa.mono (O':=[H.g,H.gw,H.gc]) zs) (fun y hy => .inl hy));clear fa Ca;go_wp2_with fail
         first|go_end0|refine bodyPost_ret (results_none rfl _ _ _) rfl ?_
         have hY:qB x v km false={ x with win:=v,qp:=true,clk:=Rto.qW x.clk }:=by
          unfold qB;rw [if_neg (by rw [ha];simp <;> omega),if_neg HT.out,ha];rfl
         rw [hY];exact⟨_,rfl,LK.out,ma.out,Fa.out⟩
        ·clear hge
         refine qg zk zk ?_;repeat (go_big_quiet_step ((go_at_call 48;exact HSt.out _)))
         refine wpQuiet_nil ?_;intro w7 f7;have m7:=M6.out.fr f7;have e17:w7.cell? ⟨H.g,17,none⟩=some (ptr H.gc):=(qm m7.blk).c17;have M7:=hI m7;have F7:=hI (F6.out.trans f7 zs);clear m7 f7 d16' d17' d21' d22' d23' g16 g22;go_wp2_with fail
         refine (Rto.qL H.gc x.clk w7 M7.out.clk CK.out).mono ?_;rintro e wa ⟨rfl,fa,Ca⟩;have ma:=hI (M7.out.zB fa Ca);have Fa:=hI (F7.out.trans (fa.mono (O':=[H.g,H.gw,H.gc]) zs) (fun y hy => .inl hy));clear fa Ca;go_wp2_with fail
         first|go_end0|refine bodyPost_ret (results_none rfl _ _ _) rfl ?_
         have hY:qB x v km false={ x with win:=v,qp:=true,clk:=Rto.qW x.clk }:=by
          unfold qB;rw [if_neg (by rw [ha];simp <;> omega),if_neg HT.out,ha];rfl
         rw [hY];exact⟨_,rfl,LK.out,ma.out,Fa.out⟩
      ·rw [ha] at d20
       go_upto_region 10 with fail
       have m6:=M5.out.set (w':=w5.setCell ⟨H.g,20,none⟩ (.bool false)) (x':={ x with win:=v,qp:=false }) ((Fr.refl [H.g] w5).setCell (p:=⟨H.g,20,none⟩) (.inl zs) _) (by simpa using M5.out.blk.qO 20 (.bool false)) rfl rfl rfl rfl rfl;have f6:Fr [H.g] w5 (w5.setCell ⟨H.g,20,none⟩ (.bool false)):=(Fr.refl [H.g] w5).setCell (p:=⟨H.g,20,none⟩) (.inl zs) _;generalize w5.setCell ⟨H.g,20,none⟩ (.bool false)=w6 at *
       have cs6:=qm m6.blk;have F6:=hI (F5.out.trans (f6.mono (O':=[H.g,H.gw,H.gc]) zs) (fun y hy => .inl hy));have d16':w6.cell? ⟨H.g,16,none⟩=some (ptr H.gw):=cs6.c16;have d17':w6.cell? ⟨H.g,17,none⟩=some (ptr H.gc):=cs6.c17;have d21':w6.cell? ⟨H.g,21,none⟩=some (.int .i64 x.now):=cs6.c21;have d22':w6.cell? ⟨H.g,22,none⟩=some (.int .i64 x.timed):=cs6.c22;have d23':w6.cell? ⟨H.g,23,none⟩=some (.int .i64 x.since):=cs6.c23;have g16:=Grew.cell d16';have g22:=Grew.cell d22';have hst:∀ q:Grew w6,Calls Tryz.prog 48 #[ptr H.gw] q.W fun e w'=>e = .returned (.agg #[.int .i64 v.a, .int .i64 v.s, .int .i64 v.m, .int .i64 v.l])/\∃ q':Grew w6,w'=q'.W:=fun q=>qG (Win.kD H.gw v q.W (Blk.fr m6.win q.fr zs));have HSt:=hI hst;have M6:=hI m6;have CK:Hid (Rto.Inv x.clk):=HC;clear hst m6 f6 cs6 d16 d17 d20 d21 d22 d23 z20 M5 F5;by_cases ht:0<x.timed/\x.timed<=v.a
       ·obtain⟨ht1,ht2⟩:=ht
        refine qg zk zk ?_;repeat (go_big_quiet_step ((go_at_call 48;exact HSt.out _)))
        refine wpQuiet_nil ?_;intro w7 f7;have m7:=M6.out.fr f7;have cs7:=qm m7.blk;have e17:w7.cell? ⟨H.g,17,none⟩=some (ptr H.gc):=cs7.c17;have e21:w7.cell? ⟨H.g,21,none⟩=some (.int .i64 x.now):=cs7.c21;have e23:w7.cell? ⟨H.g,23,none⟩=some (.int .i64 x.since):=cs7.c23;have M7:=hI m7;have F7:=hI (F6.out.trans f7 zs);have SEE:Hid (∀ W,Fr [H.gc] w7 W->W.cell? ⟨H.g,17,none⟩=some (ptr H.gc)/\W.cell? ⟨H.g,21,none⟩=some (.int .i64 x.now)/\W.cell? ⟨H.g,23,none⟩=some (.int .i64 x.since)):=hI (fun W fW=>by
         have hn:H.g∉[H.gc]:=(by simpa using fun e=>M7.out.xR e.symm);exact⟨fr3 fW e17 hn,fr3 fW e21 hn,fr3 fW e23 hn⟩)
        clear m7 cs7 f7 d16' d17' d21' d22' d23' g16 g22;go_upto_region 11 with fail
        go_region_held3 (fun w'=>w'.cell? ⟨H.g,17,none⟩=some (ptr H.gc)/\w'.cell? ⟨H.g,21,none⟩=some (.int .i64 x.now)/\w'.cell? ⟨H.g,23,none⟩=some (.int .i64 x.since))
         (first|(with_reducible exact SEE.out _ f8')|go_keep)
         (first
          | (go_at_call 115;refine (Rto.zD H.gc x.clk (x.now - x.since) _ (Blk.fr M7.out.clk (Fr.refl [] w7).drew zs) CK.out).mono ?_;rintro e w8 ⟨rfl,f8,C8⟩;have f8':Fr [H.gc] w7 w8:=(Fr.refl [H.gc] w7).drew.trans f8 (fun y hy => .inl hy);have M8:=hI (M7.out.zB f8' C8);have F8:=hI (F7.out.trans (f8'.mono (O':=[H.g,H.gw,H.gc]) zs) (fun y hy => .inl hy));clear f8 C8))
        have z22:w8.frozen? ⟨H.g,22,none⟩=false:=M8.out.blk.frozen 22;have d22:w8.cell? ⟨H.g,22,none⟩=some (.int .i64 x.timed):=(qm M8.out.blk).c22;have d17:w8.cell? ⟨H.g,17,none⟩=some (ptr H.gc):=(qm M8.out.blk).c17;have hl8:=M8.out.blk.lt;clear e17 e21 e23 SEE f8';go_wp2_with fail
        have f9:Fr [H.g] w8 (w8.setCell ⟨H.g,22,none⟩ (.int .i64 0)):=(Fr.refl [H.g] w8).setCell (p:=⟨H.g,22,none⟩) (.inl zs) _;have m9:=M8.out.set (w':=w8.setCell ⟨H.g,22,none⟩ (.int .i64 0)) (x':={ x with win:=v,qp:=false,timed:=0,clk:=(Rto.qR x.clk (x.now - x.since)).1 }) f9 (by simpa using M8.out.blk.qO 22 (.int .i64 0)) rfl rfl rfl rfl rfl;generalize w8.setCell ⟨H.g,22,none⟩ (.int .i64 0)=w9 at *
        refine (Rto.qL H.gc _ w9 m9.clk (Rto.kY CK.out _)).mono ?_;rintro e wa ⟨rfl,fa,Ca⟩;have ma:=hI (m9.zB fa Ca);have Fa:=hI ((F8.out.trans (f9.mono (O':=[H.g,H.gw,H.gc]) zs) (fun y hy => .inl hy)).trans (fa.mono (O':=[H.g,H.gw,H.gc]) zs) (fun y hy => .inl hy));clear m9 f9 fa Ca;go_wp2_with fail
        first|go_end0|refine bodyPost_ret (results_none rfl _ _ _) rfl ?_
        have hY:qB x v km false={ x with win:=v,qp:=false,timed:=0,clk:=Rto.qW (Rto.qR x.clk (x.now - x.since)).1 }:=by
         unfold qB;rw [if_neg (by rw [ha];simp <;> omega),if_pos ⟨ht1,ht2⟩,ha];rfl
        rw [hY];exact⟨_,rfl,LK.out,ma.out,Fa.out⟩
       ·have hge:decide (x.timed<=v.a)=false\/decide (0<x.timed)=false:=by
         by_cases h1:0<x.timed
         ·left;simp;omega
         ·right;simpa using h1
        have HT:=hI ht;clear ht;by_cases ht1:0<x.timed
        ·have ht2:¬ x.timed<=v.a:=fun h=>HT.out ⟨ht1,h⟩
         clear hge;refine qg zk zk ?_;repeat (go_big_quiet_step ((go_at_call 48;exact HSt.out _)))
         refine wpQuiet_nil ?_;intro w7 f7;have m7:=M6.out.fr f7;have e17:w7.cell? ⟨H.g,17,none⟩=some (ptr H.gc):=(qm m7.blk).c17;have M7:=hI m7;have F7:=hI (F6.out.trans f7 zs);clear m7 f7 d16' d17' d21' d22' d23' g16 g22;go_wp2_with fail
         refine (Rto.qL H.gc x.clk w7 M7.out.clk CK.out).mono ?_;rintro e wa ⟨rfl,fa,Ca⟩;have ma:=hI (M7.out.zB fa Ca);have Fa:=hI (F7.out.trans (fa.mono (O':=[H.g,H.gw,H.gc]) zs) (fun y hy => .inl hy));clear fa Ca;go_wp2_with fail
         first|go_end0|refine bodyPost_ret (results_none rfl _ _ _) rfl ?_
         have hY:qB x v km false={ x with win:=v,qp:=false,clk:=Rto.qW x.clk }:=by
          unfold qB;rw [if_neg (by rw [ha];simp <;> omega),if_neg HT.out,ha];rfl
         rw [hY];exact⟨_,rfl,LK.out,ma.out,Fa.out⟩
        ·clear hge
         refine qg zk zk ?_;repeat (go_big_quiet_step ((go_at_call 48;exact HSt.out _)))
         refine wpQuiet_nil ?_;intro w7 f7;have m7:=M6.out.fr f7;have e17:w7.cell? ⟨H.g,17,none⟩=some (ptr H.gc):=(qm m7.blk).c17;have M7:=hI m7;have F7:=hI (F6.out.trans f7 zs);clear m7 f7 d16' d17' d21' d22' d23' g16 g22;go_wp2_with fail
         refine (Rto.qL H.gc x.clk w7 M7.out.clk CK.out).mono ?_;rintro e wa ⟨rfl,fa,Ca⟩;have ma:=hI (M7.out.zB fa Ca);have Fa:=hI (F7.out.trans (fa.mono (O':=[H.g,H.gw,H.gc]) zs) (fun y hy => .inl hy));clear fa Ca;go_wp2_with fail
         first|go_end0|refine bodyPost_ret (results_none rfl _ _ _) rfl ?_
         have hY:qB x v km false={ x with win:=v,qp:=false,clk:=Rto.qW x.clk }:=by
          unfold qB;rw [if_neg (by rw [ha];simp <;> omega),if_neg HT.out,ha];rfl
         rw [hY];exact⟨_,rfl,LK.out,ma.out,Fa.out⟩
    ·have hM':¬ M1=0:=zw
     rw [if_neg zw] at hsv;subst hsv;go_wp2_with fail
     refine (HCl.out _ (Fr.refl [] w3)).mono ?_;rintro e w4 ⟨A4,c4,rfl,own4,f4,fb4⟩;have c14':=ql f4 c14;have z14:w4.frozen? ⟨H.g,14,none⟩=false:=(f4.frozen (p:=⟨H.g,14,none⟩) hgl3 zs).trans hz14;have ac:=SI.qp (A:=A4) (c:=c4) M2.out F3.out WW3.out HKA.out f4 (by rw [HDL.out];exact own4) (by rw [HDL.out];exact fb4);rw [HDL.out] at ac;have AC:=hI ac;have LK:Hid (Hd.like w H ⟨H.g,H.gw,H.gc,H.gh, .slice A4 L1 c4,H.uv,H.kv⟩):=hI ⟨rfl,rfl,rfl,rfl,fun b hb=>by
      simp only [Hd.own,List.mem_cons,List.mem_append] at hb |-
      rcases hb with h|h|h|h|h|h|h
      ·exact .inl (.inl h)
      ·exact .inl (.inr (.inl h))
      ·exact .inl (.inr (.inr (.inl h)))
      ·exact .inl (.inr (.inr (.inr (.inl h))))
      ·exact .inl (.inr (.inr (.inr (.inr (.inl h)))))
      ·have h1:=fb4 b (qo.1 h)
       have h2:=F3.out.size;have h3:=F2.out.size;exact .inr zw
      ·exact .inl (.inr (.inr (.inr (.inr (.inr (.inr h))))))⟩
     clear ac own4 fb4 f4;go_upto_region 8 with fail
     obtain⟨m5,f5⟩:=AC.out;generalize w4.setCell ⟨H.g,14,none⟩ (.slice A4 L1 c4)=w5 at *
     have F5:=hI ((F2.out.mono (O':=[H.g,H.gw,H.gc]) zs).trans (f5.mono (O':=[H.g,H.gw,H.gc]) zs) (fun y hy => .inl hy));have cs5:=qm m5.blk;have d16:w5.cell? ⟨H.g,16,none⟩=some (ptr H.gw):=cs5.c16;have d17:w5.cell? ⟨H.g,17,none⟩=some (ptr H.gc):=cs5.c17;have d20:w5.cell? ⟨H.g,20,none⟩=some (.bool x.qp):=cs5.c20;have d21:w5.cell? ⟨H.g,21,none⟩=some (.int .i64 x.now):=cs5.c21;have d22:w5.cell? ⟨H.g,22,none⟩=some (.int .i64 x.timed):=cs5.c22;have d23:w5.cell? ⟨H.g,23,none⟩=some (.int .i64 x.since):=cs5.c23;have z20:w5.frozen? ⟨H.g,20,none⟩=false:=m5.blk.frozen 20;have M5:=hI m5;clear m5 f5 cs5 c14' z14 AC c14 hz14 F3 WW3 HCl HDL HL1 c7 c19 c20 C2 M2 WW2 B2 C14 BY NWS HKC kk0 kk1 kk2;by_cases hk0:(km:Int)=0
     ·rcases Bool.eq_false_or_eq_true x.qp with ha|ha
      ·rw [ha] at d20
       go_wp2_with fail
       first|go_end0|refine bodyPost_ret (results_none rfl _ _ _) rfl ?_
       have hY:qB x v km false={ x with win:=v }:=(by unfold qB;rw [if_pos ⟨hk0,by rw [ha];rfl⟩]);rw [hY];exact⟨_,rfl,LK.out,M5.out,F5.out⟩
      ·rw [ha] at d20
       go_wp2_with fail
       first|go_end0|refine bodyPost_ret (results_none rfl _ _ _) rfl ?_
       have hY:qB x v km false={ x with win:=v }:=(by unfold qB;rw [if_pos ⟨hk0,rfl⟩]);rw [hY];exact⟨_,rfl,LK.out,M5.out,F5.out⟩
     ·have hk1:¬ km=0:=zw
      have hk2:decide ((km:Int)=0)=false:=(by simpa using hk1);rcases Bool.eq_false_or_eq_true x.qp with ha|ha
      ·rw [ha] at d20
       go_upto_region 10 with fail
       have m6:=M5.out.set (w':=w5.setCell ⟨H.g,20,none⟩ (.bool true)) (x':={ x with win:=v,qp:=true }) ((Fr.refl [H.g] w5).setCell (p:=⟨H.g,20,none⟩) (.inl zs) _) (by simpa using M5.out.blk.qO 20 (.bool true)) rfl rfl rfl rfl rfl;have f6:Fr [H.g] w5 (w5.setCell ⟨H.g,20,none⟩ (.bool true)):=(Fr.refl [H.g] w5).setCell (p:=⟨H.g,20,none⟩) (.inl zs) _;generalize w5.setCell ⟨H.g,20,none⟩ (.bool true)=w6 at *
       have cs6:=qm m6.blk;have F6:=hI (F5.out.trans (f6.mono (O':=[H.g,H.gw,H.gc]) zs) (fun y hy => .inl hy));have d16':w6.cell? ⟨H.g,16,none⟩=some (ptr H.gw):=cs6.c16;have d17':w6.cell? ⟨H.g,17,none⟩=some (ptr H.gc):=cs6.c17;have d21':w6.cell? ⟨H.g,21,none⟩=some (.int .i64 x.now):=cs6.c21;have d22':w6.cell? ⟨H.g,22,none⟩=some (.int .i64 x.timed):=cs6.c22;have d23':w6.cell? ⟨H.g,23,none⟩=some (.int .i64 x.since):=cs6.c23;have g16:=Grew.cell d16';have g22:=Grew.cell d22';have hst:∀ q:Grew w6,Calls Tryz.prog 48 #[ptr H.gw] q.W fun e w'=>e = .returned (.agg #[.int .i64 v.a, .int .i64 v.s, .int .i64 v.m, .int .i64 v.l])/\∃ q':Grew w6,w'=q'.W:=fun q=>qG (Win.kD H.gw v q.W (Blk.fr m6.win q.fr zs));have HSt:=hI hst;have M6:=hI m6;have CK:Hid (Rto.Inv x.clk):=HC;clear hst m6 f6 cs6 d16 d17 d20 d21 d22 d23 z20 M5 F5;by_cases ht:0<x.timed/\x.timed<=v.a
       ·obtain⟨ht1,ht2⟩:=ht
        refine qg zk zk ?_;repeat (go_big_quiet_step ((go_at_call 48;exact HSt.out _)))
        refine wpQuiet_nil ?_;intro w7 f7;have m7:=M6.out.fr f7;have cs7:=qm m7.blk;have e17:w7.cell? ⟨H.g,17,none⟩=some (ptr H.gc):=cs7.c17;have e21:w7.cell? ⟨H.g,21,none⟩=some (.int .i64 x.now):=cs7.c21;have e23:w7.cell? ⟨H.g,23,none⟩=some (.int .i64 x.since):=cs7.c23;have M7:=hI m7;have F7:=hI (F6.out.trans f7 zs);have SEE:Hid (∀ W,Fr [H.gc] w7 W->W.cell? ⟨H.g,17,none⟩=some (ptr H.gc)/\W.cell? ⟨H.g,21,none⟩=some (.int .i64 x.now)/\W.cell? ⟨H.g,23,none⟩=some (.int .i64 x.since)):=hI (fun W fW=>by
         have hn:H.g∉[H.gc]:=(by simpa using fun e=>M7.out.xR e.symm);exact⟨fr3 fW e17 hn,fr3 fW e21 hn,fr3 fW e23 hn⟩)
        clear m7 cs7 f7 d16' d17' d21' d22' d23' g16 g22;go_upto_region 11 with fail
        go_region_held3 (fun w'=>w'.cell? ⟨H.g,17,none⟩=some (ptr H.gc)/\w'.cell? ⟨H.g,21,none⟩=some (.int .i64 x.now)/\w'.cell? ⟨H.g,23,none⟩=some (.int .i64 x.since))
         (first|(with_reducible exact SEE.out _ f8')|go_keep)
         (first
          | (go_at_call 115;refine (Rto.zD H.gc x.clk (x.now - x.since) _ (Blk.fr M7.out.clk (Fr.refl [] w7).drew zs) CK.out).mono ?_;rintro e w8 ⟨rfl,f8,C8⟩;have f8':Fr [H.gc] w7 w8:=(Fr.refl [H.gc] w7).drew.trans f8 (fun y hy => .inl hy);have M8:=hI (M7.out.zB f8' C8);have F8:=hI (F7.out.trans (f8'.mono (O':=[H.g,H.gw,H.gc]) zs) (fun y hy => .inl hy));clear f8 C8))
        have z22:w8.frozen? ⟨H.g,22,none⟩=false:=M8.out.blk.frozen 22;have d22:w8.cell? ⟨H.g,22,none⟩=some (.int .i64 x.timed):=(qm M8.out.blk).c22;have d17:w8.cell? ⟨H.g,17,none⟩=some (ptr H.gc):=(qm M8.out.blk).c17;have hl8:=M8.out.blk.lt;clear e17 e21 e23 SEE f8';go_wp2_with fail
        have f9:Fr [H.g] w8 (w8.setCell ⟨H.g,22,none⟩ (.int .i64 0)):=(Fr.refl [H.g] w8).setCell (p:=⟨H.g,22,none⟩) (.inl zs) _;have m9:=M8.out.set (w':=w8.setCell ⟨H.g,22,none⟩ (.int .i64 0)) (x':={ x with win:=v,qp:=true,timed:=0,clk:=(Rto.qR x.clk (x.now - x.since)).1 }) f9 (by simpa using M8.out.blk.qO 22 (.int .i64 0)) rfl rfl rfl rfl rfl;generalize w8.setCell ⟨H.g,22,none⟩ (.int .i64 0)=w9 at *
        refine (Rto.qL H.gc _ w9 m9.clk (Rto.kY CK.out _)).mono ?_;rintro e wa ⟨rfl,fa,Ca⟩;have ma:=hI (m9.zB fa Ca);have Fa:=hI ((F8.out.trans (f9.mono (O':=[H.g,H.gw,H.gc]) zs) (fun y hy => .inl hy)).trans (fa.mono (O':=[H.g,H.gw,H.gc]) zs) (fun y hy => .inl hy));clear m9 f9 fa Ca;go_wp2_with fail
        first|go_end0|refine bodyPost_ret (results_none rfl _ _ _) rfl ?_
        have hY:qB x v km false={ x with win:=v,qp:=true,timed:=0,clk:=Rto.qW (Rto.qR x.clk (x.now - x.since)).1 }:=by
         unfold qB;rw [if_neg (by rw [ha];simp <;> omega),if_pos ⟨ht1,ht2⟩,ha];rfl
        rw [hY];exact⟨_,rfl,LK.out,ma.out,Fa.out⟩
       ·have hge:decide (x.timed<=v.a)=false\/decide (0<x.timed)=false:=by
         by_cases h1:0<x.timed
         ·left;simp;omega
         ·right;simpa using h1
        have HT:=hI ht;clear ht;by_cases ht1:0<x.timed
        ·have ht2:¬ x.timed<=v.a:=fun h=>HT.out ⟨ht1,h⟩
         clear hge;refine qg zk zk ?_;repeat (go_big_quiet_step ((go_at_call 48;exact HSt.out _)))
         refine wpQuiet_nil ?_;intro w7 f7;have m7:=M6.out.fr f7;have e17:w7.cell? ⟨H.g,17,none⟩=some (ptr H.gc):=(qm m7.blk).c17;have M7:=hI m7;have F7:=hI (F6.out.trans f7 zs);clear m7 f7 d16' d17' d21' d22' d23' g16 g22;go_wp2_with fail
         refine (Rto.qL H.gc x.clk w7 M7.out.clk CK.out).mono ?_;rintro e wa ⟨rfl,fa,Ca⟩;have ma:=hI (M7.out.zB fa Ca);have Fa:=hI (F7.out.trans (fa.mono (O':=[H.g,H.gw,H.gc]) zs) (fun y hy => .inl hy));clear fa Ca;go_wp2_with fail
         first|go_end0|refine bodyPost_ret (results_none rfl _ _ _) rfl ?_
         have hY:qB x v km false={ x with win:=v,qp:=true,clk:=Rto.qW x.clk }:=by
          unfold qB;rw [if_neg (by rw [ha];simp <;> omega),if_neg HT.out,ha];rfl
         rw [hY];exact⟨_,rfl,LK.out,ma.out,Fa.out⟩
        ·clear hge
         refine qg zk zk ?_;repeat (go_big_quiet_step ((go_at_call 48;exact HSt.out _)))
         refine wpQuiet_nil ?_;intro w7 f7;have m7:=M6.out.fr f7;have e17:w7.cell? ⟨H.g,17,none⟩=some (ptr H.gc):=(qm m7.blk).c17;have M7:=hI m7;have F7:=hI (F6.out.trans f7 zs);clear m7 f7 d16' d17' d21' d22' d23' g16 g22;go_wp2_with fail
         refine (Rto.qL H.gc x.clk w7 M7.out.clk CK.out).mono ?_;rintro e wa ⟨rfl,fa,Ca⟩;have ma:=hI (M7.out.zB fa Ca);have Fa:=hI (F7.out.trans (fa.mono (O':=[H.g,H.gw,H.gc]) zs) (fun y hy => .inl hy));clear fa Ca;go_wp2_with fail
         first|go_end0|refine bodyPost_ret (results_none rfl _ _ _) rfl ?_
         have hY:qB x v km false={ x with win:=v,qp:=true,clk:=Rto.qW x.clk }:=by
          unfold qB;rw [if_neg (by rw [ha];simp <;> omega),if_neg HT.out,ha];rfl
         rw [hY];exact⟨_,rfl,LK.out,ma.out,Fa.out⟩
      ·rw [ha] at d20
       go_upto_region 10 with fail
       have m6:=M5.out.set (w':=w5.setCell ⟨H.g,20,none⟩ (.bool false)) (x':={ x with win:=v,qp:=false }) ((Fr.refl [H.g] w5).setCell (p:=⟨H.g,20,none⟩) (.inl zs) _) (by simpa using M5.out.blk.qO 20 (.bool false)) rfl rfl rfl rfl rfl;have f6:Fr [H.g] w5 (w5.setCell ⟨H.g,20,none⟩ (.bool false)):=(Fr.refl [H.g] w5).setCell (p:=⟨H.g,20,none⟩) (.inl zs) _;generalize w5.setCell ⟨H.g,20,none⟩ (.bool false)=w6 at *
       have cs6:=qm m6.blk;have F6:=hI (F5.out.trans (f6.mono (O':=[H.g,H.gw,H.gc]) zs) (fun y hy => .inl hy));have d16':w6.cell? ⟨H.g,16,none⟩=some (ptr H.gw):=cs6.c16;have d17':w6.cell? ⟨H.g,17,none⟩=some (ptr H.gc):=cs6.c17;have d21':w6.cell? ⟨H.g,21,none⟩=some (.int .i64 x.now):=cs6.c21;have d22':w6.cell? ⟨H.g,22,none⟩=some (.int .i64 x.timed):=cs6.c22;have d23':w6.cell? ⟨H.g,23,none⟩=some (.int .i64 x.since):=cs6.c23;have g16:=Grew.cell d16';have g22:=Grew.cell d22';have hst:∀ q:Grew w6,Calls Tryz.prog 48 #[ptr H.gw] q.W fun e w'=>e = .returned (.agg #[.int .i64 v.a, .int .i64 v.s, .int .i64 v.m, .int .i64 v.l])/\∃ q':Grew w6,w'=q'.W:=fun q=>qG (Win.kD H.gw v q.W (Blk.fr m6.win q.fr zs));have HSt:=hI hst;have M6:=hI m6;have CK:Hid (Rto.Inv x.clk):=HC;clear hst m6 f6 cs6 d16 d17 d20 d21 d22 d23 z20 M5 F5;by_cases ht:0<x.timed/\x.timed<=v.a
       ·obtain⟨ht1,ht2⟩:=ht
        refine qg zk zk ?_;repeat (go_big_quiet_step ((go_at_call 48;exact HSt.out _)))
        refine wpQuiet_nil ?_;intro w7 f7;have m7:=M6.out.fr f7;have cs7:=qm m7.blk;have e17:w7.cell? ⟨H.g,17,none⟩=some (ptr H.gc):=cs7.c17;have e21:w7.cell? ⟨H.g,21,none⟩=some (.int .i64 x.now):=cs7.c21;have e23:w7.cell? ⟨H.g,23,none⟩=some (.int .i64 x.since):=cs7.c23;have M7:=hI m7;have F7:=hI (F6.out.trans f7 zs);have SEE:Hid (∀ W,Fr [H.gc] w7 W->W.cell? ⟨H.g,17,none⟩=some (ptr H.gc)/\W.cell? ⟨H.g,21,none⟩=some (.int .i64 x.now)/\W.cell? ⟨H.g,23,none⟩=some (.int .i64 x.since)):=hI (fun W fW=>by
         have hn:H.g∉[H.gc]:=(by simpa using fun e=>M7.out.xR e.symm);exact⟨fr3 fW e17 hn,fr3 fW e21 hn,fr3 fW e23 hn⟩)
        clear m7 cs7 f7 d16' d17' d21' d22' d23' g16 g22;go_upto_region 11 with fail
        go_region_held3 (fun w'=>w'.cell? ⟨H.g,17,none⟩=some (ptr H.gc)/\w'.cell? ⟨H.g,21,none⟩=some (.int .i64 x.now)/\w'.cell? ⟨H.g,23,none⟩=some (.int .i64 x.since))
         (first|(with_reducible exact SEE.out _ f8')|go_keep)
         (first
          | (go_at_call 115;refine (Rto.zD H.gc x.clk (x.now - x.since) _ (Blk.fr M7.out.clk (Fr.refl [] w7).drew zs) CK.out).mono ?_;rintro e w8 ⟨rfl,f8,C8⟩;have f8':Fr [H.gc] w7 w8:=(Fr.refl [H.gc] w7).drew.trans f8 (fun y hy => .inl hy);have M8:=hI (M7.out.zB f8' C8);have F8:=hI (F7.out.trans (f8'.mono (O':=[H.g,H.gw,H.gc]) zs) (fun y hy => .inl hy));clear f8 C8))
        have z22:w8.frozen? ⟨H.g,22,none⟩=false:=M8.out.blk.frozen 22;have d22:w8.cell? ⟨H.g,22,none⟩=some (.int .i64 x.timed):=(qm M8.out.blk).c22;have d17:w8.cell? ⟨H.g,17,none⟩=some (ptr H.gc):=(qm M8.out.blk).c17;have hl8:=M8.out.blk.lt;clear e17 e21 e23 SEE f8';go_wp2_with fail
        have f9:Fr [H.g] w8 (w8.setCell ⟨H.g,22,none⟩ (.int .i64 0)):=(Fr.refl [H.g] w8).setCell (p:=⟨H.g,22,none⟩) (.inl zs) _;have m9:=M8.out.set (w':=w8.setCell ⟨H.g,22,none⟩ (.int .i64 0)) (x':={ x with win:=v,qp:=false,timed:=0,clk:=(Rto.qR x.clk (x.now - x.since)).1 }) f9 (by simpa using M8.out.blk.qO 22 (.int .i64 0)) rfl rfl rfl rfl rfl;generalize w8.setCell ⟨H.g,22,none⟩ (.int .i64 0)=w9 at *
        refine (Rto.qL H.gc _ w9 m9.clk (Rto.kY CK.out _)).mono ?_;rintro e wa ⟨rfl,fa,Ca⟩;have ma:=hI (m9.zB fa Ca);have Fa:=hI ((F8.out.trans (f9.mono (O':=[H.g,H.gw,H.gc]) zs) (fun y hy => .inl hy)).trans (fa.mono (O':=[H.g,H.gw,H.gc]) zs) (fun y hy => .inl hy));clear m9 f9 fa Ca;go_wp2_with fail
        first|go_end0|refine bodyPost_ret (results_none rfl _ _ _) rfl ?_
        have hY:qB x v km false={ x with win:=v,qp:=false,timed:=0,clk:=Rto.qW (Rto.qR x.clk (x.now - x.since)).1 }:=by
         unfold qB;rw [if_neg (by rw [ha];simp <;> omega),if_pos ⟨ht1,ht2⟩,ha];rfl
        rw [hY];exact⟨_,rfl,LK.out,ma.out,Fa.out⟩
       ·have hge:decide (x.timed<=v.a)=false\/decide (0<x.timed)=false:=by
         by_cases h1:0<x.timed
         ·left;simp;omega
         ·right;simpa using h1
        have HT:=hI ht;clear ht;by_cases ht1:0<x.timed
        ·have ht2:¬ x.timed<=v.a:=fun h=>HT.out ⟨ht1,h⟩
         clear hge;refine qg zk zk ?_;repeat (go_big_quiet_step ((go_at_call 48;exact HSt.out _)))
         refine wpQuiet_nil ?_;intro w7 f7;have m7:=M6.out.fr f7;have e17:w7.cell? ⟨H.g,17,none⟩=some (ptr H.gc):=(qm m7.blk).c17;have M7:=hI m7;have F7:=hI (F6.out.trans f7 zs);clear m7 f7 d16' d17' d21' d22' d23' g16 g22;go_wp2_with fail
         refine (Rto.qL H.gc x.clk w7 M7.out.clk CK.out).mono ?_;rintro e wa ⟨rfl,fa,Ca⟩;have ma:=hI (M7.out.zB fa Ca);have Fa:=hI (F7.out.trans (fa.mono (O':=[H.g,H.gw,H.gc]) zs) (fun y hy => .inl hy));clear fa Ca;go_wp2_with fail
         first|go_end0|refine bodyPost_ret (results_none rfl _ _ _) rfl ?_
         have hY:qB x v km false={ x with win:=v,qp:=false,clk:=Rto.qW x.clk }:=by
          unfold qB;rw [if_neg (by rw [ha];simp <;> omega),if_neg HT.out,ha];rfl
         rw [hY];exact⟨_,rfl,LK.out,ma.out,Fa.out⟩
        ·clear hge
         refine qg zk zk ?_;repeat (go_big_quiet_step ((go_at_call 48;exact HSt.out _)))
         refine wpQuiet_nil ?_;intro w7 f7;have m7:=M6.out.fr f7;have e17:w7.cell? ⟨H.g,17,none⟩=some (ptr H.gc):=(qm m7.blk).c17;have M7:=hI m7;have F7:=hI (F6.out.trans f7 zs);clear m7 f7 d16' d17' d21' d22' d23' g16 g22;go_wp2_with fail
         refine (Rto.qL H.gc x.clk w7 M7.out.clk CK.out).mono ?_;rintro e wa ⟨rfl,fa,Ca⟩;have ma:=hI (M7.out.zB fa Ca);have Fa:=hI (F7.out.trans (fa.mono (O':=[H.g,H.gw,H.gc]) zs) (fun y hy => .inl hy));clear fa Ca;go_wp2_with fail
         first|go_end0|refine bodyPost_ret (results_none rfl _ _ _) rfl ?_
         have hY:qB x v km false={ x with win:=v,qp:=false,clk:=Rto.qW x.clk }:=by
          unfold qB;rw [if_neg (by rw [ha];simp <;> omega),if_neg HT.out,ha];rfl
         rw [hY];exact⟨_,rfl,LK.out,ma.out,Fa.out⟩
 ·rw [hf] at c19
  obtain rfl:E=false:=by rw [HE.out,hf];rfl
  obtain rfl:U=n0:=by rw [HU.out];rfl
  go_upto_region 6 with fail
  go_cut [7] (fun s7 wx=>s7 = .int .i64 km/\Fr [H.gw] w2 wx/\Win.Win wx H.gw v true);case first=>
   have c16:=C2.out.c16;have c99:=YB.out.2;go_region_held3 (fun w'=>w'.cell? ⟨H.g,16,none⟩=some (ptr H.gw)/\w'.cell? ⟨w.heap.size,3,none⟩=some (.int .u16 wi))
    (first|(with_reducible exact⟨s0,s1⟩)|go_keep)
    (first
     | (go_at_call 113;refine (HAck.out _ (Blk.fr WW2.out (Fr.refl [] w2).drew zs)).mono ?_;rintro e w3 ⟨rfl,f3,W3⟩;have f3':Fr [H.gw] w2 w3:=(Fr.refl [H.gw] w2).drew.trans f3 (fun y hy => .inl hy);have s0:w3.cell? ⟨H.g,16,none⟩=some (ptr H.gw):=(f3'.cell (p:=⟨H.g,16,none⟩) HGL.out NGW.out).trans c16;have s1:w3.cell? ⟨w.heap.size,3,none⟩=some (.int .u16 wi):=(f3'.cell (p:=⟨w.heap.size,3,none⟩) YB.out.1 NRW.out).trans c99;have F3:=hI f3';have WW3:=hI W3;clear f3 f3' W3))
   go_wp2_with fail
   go_meet;exact⟨rfl,F3.out,WW3.out⟩
  case rest=>
   obtain⟨rfl,f3,W3⟩:=hcut;generalize wc=w3 at *
   have c14:w3.cell? ⟨H.g,14,none⟩=some (.slice bA (kw x).length bc):=(f3.cell (p:=⟨H.g,14,none⟩) HGL.out NGW.out).trans C14.out;have hz14:w3.frozen? ⟨H.g,14,none⟩=false:=((M2.out.blk.fr f3 NGW.out).frozen 14);have hgl3:H.g<w3.heap.size:=Nat.lt_of_lt_of_le HGL.out f3.size;have hb3:=BY.out.fr f3 (fun y hy hs=>by simp at hy;subst hy;exact NWS.out hs);obtain⟨L1,hL1⟩:∃ L1,(kw x).length=km+L1:=⟨(kw x).length - km,by have:=HKM.out;omega⟩;obtain⟨M1,rfl⟩:∃ M1,bc=km+M1:=⟨bc - km,by have:=HKM.out;have:=HKC.out;omega⟩;have hdl:((kw x).drop km).length=L1:=by rw [List.length_drop];omega
   have hcut3:=hb3.cut (k:=km) HKM.out;rw [hL1,show km+L1 - km=L1 by omega,show km+M1 - km=M1 by omega] at hcut3;obtain⟨sv,hsv⟩:∃ sv:Option Addr,(if km+M1=km then bA else bA.map (·.add km))=sv:=⟨_,rfl⟩;rw [hsv] at hcut3;have hcl:∀ W,Fr [] w3 W->Calls Tryz.prog 40 #[.slice sv L1 M1] W fun e w'=>∃ A c,e = .returned (.slice A L1 c)/\w'.ownsRow 0 5 1 (.slice A L1 c) L1 (kE ((kw x).drop km))/\Fr [] W w'/\(∀ b,(Value.slice A L1 c).ownBlock=some b->W.heap.size<=b):=fun W fW=>by
    have h:=kZ W (hcut3.fr fW zs) (by have h1:=HLEN.out;have h2:(kw x).length<=x.all.length:=by { unfold kw;rw [List.length_drop];omega };rw [hdl];omega);rw [hdl] at h;exact h
   have hkc:=HKC.out;rw [hL1] at c14;have kk0:(0:Int)<=(km:Int):=zw;have kk1:(km:Int)<=(km:Int)+(L1:Int):=zw;have kk2:(km:Int)+(L1:Int)<=(km:Int)+(M1:Int):=zw;have F3:=hI f3;have WW3:=hI W3;have HCl:=hI hcl;have HDL:=hI hdl;have HL1:=hI hL1;clear hcl hcut3 hb3 f3 W3 hdl hL1 hkc;rcases Nat.eq_zero_or_pos M1 with hM|hM
   ·subst hM
    rw [if_pos zw] at hsv;subst hsv;go_wp2_with fail
    refine (HCl.out _ (Fr.refl [] w3)).mono ?_;rintro e w4 ⟨A4,c4,rfl,own4,f4,fb4⟩;have c14':=ql f4 c14;have z14:w4.frozen? ⟨H.g,14,none⟩=false:=(f4.frozen (p:=⟨H.g,14,none⟩) hgl3 zs).trans hz14;have ac:=SI.qp (A:=A4) (c:=c4) M2.out F3.out WW3.out HKA.out f4 (by rw [HDL.out];exact own4) (by rw [HDL.out];exact fb4);rw [HDL.out] at ac;have AC:=hI ac;have LK:Hid (Hd.like w H ⟨H.g,H.gw,H.gc,H.gh, .slice A4 L1 c4,H.uv,H.kv⟩):=hI ⟨rfl,rfl,rfl,rfl,fun b hb=>by
     simp only [Hd.own,List.mem_cons,List.mem_append] at hb |-
     rcases hb with h|h|h|h|h|h|h
     ·exact .inl (.inl h)
     ·exact .inl (.inr (.inl h))
     ·exact .inl (.inr (.inr (.inl h)))
     ·exact .inl (.inr (.inr (.inr (.inl h))))
     ·exact .inl (.inr (.inr (.inr (.inr (.inl h)))))
     ·have h1:=fb4 b (qo.1 h)
      have h2:=F3.out.size;have h3:=F2.out.size;exact .inr zw
     ·exact .inl (.inr (.inr (.inr (.inr (.inr (.inr h))))))⟩
    clear ac own4 fb4 f4;go_upto_region 8 with fail
    obtain⟨m5,f5⟩:=AC.out;generalize w4.setCell ⟨H.g,14,none⟩ (.slice A4 L1 c4)=w5 at *
    have F5:=hI ((F2.out.mono (O':=[H.g,H.gw,H.gc]) zs).trans (f5.mono (O':=[H.g,H.gw,H.gc]) zs) (fun y hy => .inl hy));have cs5:=qm m5.blk;have d16:w5.cell? ⟨H.g,16,none⟩=some (ptr H.gw):=cs5.c16;have d17:w5.cell? ⟨H.g,17,none⟩=some (ptr H.gc):=cs5.c17;have d20:w5.cell? ⟨H.g,20,none⟩=some (.bool x.qp):=cs5.c20;have d21:w5.cell? ⟨H.g,21,none⟩=some (.int .i64 x.now):=cs5.c21;have d22:w5.cell? ⟨H.g,22,none⟩=some (.int .i64 x.timed):=cs5.c22;have d23:w5.cell? ⟨H.g,23,none⟩=some (.int .i64 x.since):=cs5.c23;have z20:w5.frozen? ⟨H.g,20,none⟩=false:=m5.blk.frozen 20;have M5:=hI m5;clear m5 f5 cs5 c14' z14 AC c14 hz14 F3 WW3 HCl HDL HL1 c7 c19 c20 C2 M2 WW2 B2 C14 BY NWS HKC kk0 kk1 kk2;by_cases hk0:(km:Int)=0
    ·rcases Bool.eq_false_or_eq_true x.qp with ha|ha
     ·rw [ha] at d20
      go_wp2_with fail
      first|go_end0|refine bodyPost_ret (results_none rfl _ _ _) rfl ?_
      have hY:qB x v km false={ x with win:=v }:=(by unfold qB;rw [if_pos ⟨hk0,by rw [ha];rfl⟩]);rw [hY];exact⟨_,rfl,LK.out,M5.out,F5.out⟩
     ·rw [ha] at d20
      go_wp2_with fail
      first|go_end0|refine bodyPost_ret (results_none rfl _ _ _) rfl ?_
      have hY:qB x v km false={ x with win:=v }:=(by unfold qB;rw [if_pos ⟨hk0,rfl⟩]);rw [hY];exact⟨_,rfl,LK.out,M5.out,F5.out⟩
    ·have hk1:¬ km=0:=zw
     have hk2:decide ((km:Int)=0)=false:=(by simpa using hk1);rcases Bool.eq_false_or_eq_true x.qp with ha|ha
     ·rw [ha] at d20
      go_upto_region 10 with fail
      have m6:=M5.out.set (w':=w5.setCell ⟨H.g,20,none⟩ (.bool true)) (x':={ x with win:=v,qp:=true }) ((Fr.refl [H.g] w5).setCell (p:=⟨H.g,20,none⟩) (.inl zs) _) (by simpa using M5.out.blk.qO 20 (.bool true)) rfl rfl rfl rfl rfl;have f6:Fr [H.g] w5 (w5.setCell ⟨H.g,20,none⟩ (.bool true)):=(Fr.refl [H.g] w5).setCell (p:=⟨H.g,20,none⟩) (.inl zs) _;generalize w5.setCell ⟨H.g,20,none⟩ (.bool true)=w6 at *
      have cs6:=qm m6.blk;have F6:=hI (F5.out.trans (f6.mono (O':=[H.g,H.gw,H.gc]) zs) (fun y hy => .inl hy));have d16':w6.cell? ⟨H.g,16,none⟩=some (ptr H.gw):=cs6.c16;have d17':w6.cell? ⟨H.g,17,none⟩=some (ptr H.gc):=cs6.c17;have d21':w6.cell? ⟨H.g,21,none⟩=some (.int .i64 x.now):=cs6.c21;have d22':w6.cell? ⟨H.g,22,none⟩=some (.int .i64 x.timed):=cs6.c22;have d23':w6.cell? ⟨H.g,23,none⟩=some (.int .i64 x.since):=cs6.c23;have g16:=Grew.cell d16';have g22:=Grew.cell d22';have hst:∀ q:Grew w6,Calls Tryz.prog 48 #[ptr H.gw] q.W fun e w'=>e = .returned (.agg #[.int .i64 v.a, .int .i64 v.s, .int .i64 v.m, .int .i64 v.l])/\∃ q':Grew w6,w'=q'.W:=fun q=>qG (Win.kD H.gw v q.W (Blk.fr m6.win q.fr zs));have HSt:=hI hst;have M6:=hI m6;have CK:Hid (Rto.Inv x.clk):=HC;clear hst m6 f6 cs6 d16 d17 d20 d21 d22 d23 z20 M5 F5;by_cases ht:0<x.timed/\x.timed<=v.a
      ·obtain⟨ht1,ht2⟩:=ht
       refine qg zk zk ?_;repeat (go_big_quiet_step ((go_at_call 48;exact HSt.out _)))
       refine wpQuiet_nil ?_;intro w7 f7;have m7:=M6.out.fr f7;have cs7:=qm m7.blk;have e17:w7.cell? ⟨H.g,17,none⟩=some (ptr H.gc):=cs7.c17;have e21:w7.cell? ⟨H.g,21,none⟩=some (.int .i64 x.now):=cs7.c21;have e23:w7.cell? ⟨H.g,23,none⟩=some (.int .i64 x.since):=cs7.c23;have M7:=hI m7;have F7:=hI (F6.out.trans f7 zs);have SEE:Hid (∀ W,Fr [H.gc] w7 W->W.cell? ⟨H.g,17,none⟩=some (ptr H.gc)/\W.cell? ⟨H.g,21,none⟩=some (.int .i64 x.now)/\W.cell? ⟨H.g,23,none⟩=some (.int .i64 x.since)):=hI (fun W fW=>by
        have hn:H.g∉[H.gc]:=(by simpa using fun e=>M7.out.xR e.symm);exact⟨fr3 fW e17 hn,fr3 fW e21 hn,fr3 fW e23 hn⟩)
       clear m7 cs7 f7 d16' d17' d21' d22' d23' g16 g22;go_upto_region 11 with fail
       go_region_held3 (fun w'=>w'.cell? ⟨H.g,17,none⟩=some (ptr H.gc)/\w'.cell? ⟨H.g,21,none⟩=some (.int .i64 x.now)/\w'.cell? ⟨H.g,23,none⟩=some (.int .i64 x.since))
        (first|(with_reducible exact SEE.out _ f8')|go_keep)
        (first
         | (go_at_call 115;refine (Rto.zD H.gc x.clk (x.now - x.since) _ (Blk.fr M7.out.clk (Fr.refl [] w7).drew zs) CK.out).mono ?_;rintro e w8 ⟨rfl,f8,C8⟩;have f8':Fr [H.gc] w7 w8:=(Fr.refl [H.gc] w7).drew.trans f8 (fun y hy => .inl hy);have M8:=hI (M7.out.zB f8' C8);have F8:=hI (F7.out.trans (f8'.mono (O':=[H.g,H.gw,H.gc]) zs) (fun y hy => .inl hy));clear f8 C8))
       have z22:w8.frozen? ⟨H.g,22,none⟩=false:=M8.out.blk.frozen 22;have d22:w8.cell? ⟨H.g,22,none⟩=some (.int .i64 x.timed):=(qm M8.out.blk).c22;have d17:w8.cell? ⟨H.g,17,none⟩=some (ptr H.gc):=(qm M8.out.blk).c17;have hl8:=M8.out.blk.lt;clear e17 e21 e23 SEE f8';go_wp2_with fail
       have f9:Fr [H.g] w8 (w8.setCell ⟨H.g,22,none⟩ (.int .i64 0)):=(Fr.refl [H.g] w8).setCell (p:=⟨H.g,22,none⟩) (.inl zs) _;have m9:=M8.out.set (w':=w8.setCell ⟨H.g,22,none⟩ (.int .i64 0)) (x':={ x with win:=v,qp:=true,timed:=0,clk:=(Rto.qR x.clk (x.now - x.since)).1 }) f9 (by simpa using M8.out.blk.qO 22 (.int .i64 0)) rfl rfl rfl rfl rfl;generalize w8.setCell ⟨H.g,22,none⟩ (.int .i64 0)=w9 at *
       refine (Rto.qL H.gc _ w9 m9.clk (Rto.kY CK.out _)).mono ?_;rintro e wa ⟨rfl,fa,Ca⟩;have ma:=hI (m9.zB fa Ca);have Fa:=hI ((F8.out.trans (f9.mono (O':=[H.g,H.gw,H.gc]) zs) (fun y hy => .inl hy)).trans (fa.mono (O':=[H.g,H.gw,H.gc]) zs) (fun y hy => .inl hy));clear m9 f9 fa Ca;go_wp2_with fail
       first|go_end0|refine bodyPost_ret (results_none rfl _ _ _) rfl ?_
       have hY:qB x v km false={ x with win:=v,qp:=true,timed:=0,clk:=Rto.qW (Rto.qR x.clk (x.now - x.since)).1 }:=by
        unfold qB;rw [if_neg (by rw [ha];simp <;> omega),if_pos ⟨ht1,ht2⟩,ha];rfl
       rw [hY];exact⟨_,rfl,LK.out,ma.out,Fa.out⟩
      ·have hge:decide (x.timed<=v.a)=false\/decide (0<x.timed)=false:=by
        by_cases h1:0<x.timed
        ·left;simp;omega
        ·right;simpa using h1
       have HT:=hI ht;clear ht;by_cases ht1:0<x.timed
       ·have ht2:¬ x.timed<=v.a:=fun h=>HT.out ⟨ht1,h⟩
        clear hge;refine qg zk zk ?_;repeat (go_big_quiet_step ((go_at_call 48;exact HSt.out _)))
        refine wpQuiet_nil ?_;intro w7 f7;have m7:=M6.out.fr f7;have e17:w7.cell? ⟨H.g,17,none⟩=some (ptr H.gc):=(qm m7.blk).c17;have M7:=hI m7;have F7:=hI (F6.out.trans f7 zs);clear m7 f7 d16' d17' d21' d22' d23' g16 g22;go_wp2_with fail
        refine (Rto.qL H.gc x.clk w7 M7.out.clk CK.out).mono ?_;rintro e wa ⟨rfl,fa,Ca⟩;have ma:=hI (M7.out.zB fa Ca);have Fa:=hI (F7.out.trans (fa.mono (O':=[H.g,H.gw,H.gc]) zs) (fun y hy => .inl hy));clear fa Ca;go_wp2_with fail
        first|go_end0|refine bodyPost_ret (results_none rfl _ _ _) rfl ?_
        have hY:qB x v km false={ x with win:=v,qp:=true,clk:=Rto.qW x.clk }:=by
         unfold qB;rw [if_neg (by rw [ha];simp <;> omega),if_neg HT.out,ha];rfl
        rw [hY];exact⟨_,rfl,LK.out,ma.out,Fa.out⟩
       ·clear hge
        refine qg zk zk ?_;repeat (go_big_quiet_step ((go_at_call 48;exact HSt.out _)))
        refine wpQuiet_nil ?_;intro w7 f7;have m7:=M6.out.fr f7;have e17:w7.cell? ⟨H.g,17,none⟩=some (ptr H.gc):=(qm m7.blk).c17;have M7:=hI m7;have F7:=hI (F6.out.trans f7 zs);clear m7 f7 d16' d17' d21' d22' d23' g16 g22;go_wp2_with fail
        refine (Rto.qL H.gc x.clk w7 M7.out.clk CK.out).mono ?_;rintro e wa ⟨rfl,fa,Ca⟩;have ma:=hI (M7.out.zB fa Ca);have Fa:=hI (F7.out.trans (fa.mono (O':=[H.g,H.gw,H.gc]) zs) (fun y hy => .inl hy));clear fa Ca;go_wp2_with fail
        first|go_end0|refine bodyPost_ret (results_none rfl _ _ _) rfl ?_
        have hY:qB x v km false={ x with win:=v,qp:=true,clk:=Rto.qW x.clk }:=by
         unfold qB;rw [if_neg (by rw [ha];simp <;> omega),if_neg HT.out,ha];rfl
        rw [hY];exact⟨_,rfl,LK.out,ma.out,Fa.out⟩
     ·rw [ha] at d20
      go_upto_region 10 with fail
      have m6:=M5.out.set (w':=w5.setCell ⟨H.g,20,none⟩ (.bool false)) (x':={ x with win:=v,qp:=false }) ((Fr.refl [H.g] w5).setCell (p:=⟨H.g,20,none⟩) (.inl zs) _) (by simpa using M5.out.blk.qO 20 (.bool false)) rfl rfl rfl rfl rfl;have f6:Fr [H.g] w5 (w5.setCell ⟨H.g,20,none⟩ (.bool false)):=(Fr.refl [H.g] w5).setCell (p:=⟨H.g,20,none⟩) (.inl zs) _;generalize w5.setCell ⟨H.g,20,none⟩ (.bool false)=w6 at *
      have cs6:=qm m6.blk;have F6:=hI (F5.out.trans (f6.mono (O':=[H.g,H.gw,H.gc]) zs) (fun y hy => .inl hy));have d16':w6.cell? ⟨H.g,16,none⟩=some (ptr H.gw):=cs6.c16;have d17':w6.cell? ⟨H.g,17,none⟩=some (ptr H.gc):=cs6.c17;have d21':w6.cell? ⟨H.g,21,none⟩=some (.int .i64 x.now):=cs6.c21;have d22':w6.cell? ⟨H.g,22,none⟩=some (.int .i64 x.timed):=cs6.c22;have d23':w6.cell? ⟨H.g,23,none⟩=some (.int .i64 x.since):=cs6.c23;have g16:=Grew.cell d16';have g22:=Grew.cell d22';have hst:∀ q:Grew w6,Calls Tryz.prog 48 #[ptr H.gw] q.W fun e w'=>e = .returned (.agg #[.int .i64 v.a, .int .i64 v.s, .int .i64 v.m, .int .i64 v.l])/\∃ q':Grew w6,w'=q'.W:=fun q=>qG (Win.kD H.gw v q.W (Blk.fr m6.win q.fr zs));have HSt:=hI hst;have M6:=hI m6;have CK:Hid (Rto.Inv x.clk):=HC;clear hst m6 f6 cs6 d16 d17 d20 d21 d22 d23 z20 M5 F5;by_cases ht:0<x.timed/\x.timed<=v.a
      ·obtain⟨ht1,ht2⟩:=ht
       refine qg zk zk ?_;repeat (go_big_quiet_step ((go_at_call 48;exact HSt.out _)))
       refine wpQuiet_nil ?_;intro w7 f7;have m7:=M6.out.fr f7;have cs7:=qm m7.blk;have e17:w7.cell? ⟨H.g,17,none⟩=some (ptr H.gc):=cs7.c17;have e21:w7.cell? ⟨H.g,21,none⟩=some (.int .i64 x.now):=cs7.c21;have e23:w7.cell? ⟨H.g,23,none⟩=some (.int .i64 x.since):=cs7.c23;have M7:=hI m7;have F7:=hI (F6.out.trans f7 zs);have SEE:Hid (∀ W,Fr [H.gc] w7 W->W.cell? ⟨H.g,17,none⟩=some (ptr H.gc)/\W.cell? ⟨H.g,21,none⟩=some (.int .i64 x.now)/\W.cell? ⟨H.g,23,none⟩=some (.int .i64 x.since)):=hI (fun W fW=>by
        have hn:H.g∉[H.gc]:=(by simpa using fun e=>M7.out.xR e.symm);exact⟨fr3 fW e17 hn,fr3 fW e21 hn,fr3 fW e23 hn⟩)
       clear m7 cs7 f7 d16' d17' d21' d22' d23' g16 g22;go_upto_region 11 with fail
       go_region_held3 (fun w'=>w'.cell? ⟨H.g,17,none⟩=some (ptr H.gc)/\w'.cell? ⟨H.g,21,none⟩=some (.int .i64 x.now)/\w'.cell? ⟨H.g,23,none⟩=some (.int .i64 x.since))
        (first|(with_reducible exact SEE.out _ f8')|go_keep)
        (first
         | (go_at_call 115;refine (Rto.zD H.gc x.clk (x.now - x.since) _ (Blk.fr M7.out.clk (Fr.refl [] w7).drew zs) CK.out).mono ?_;rintro e w8 ⟨rfl,f8,C8⟩;have f8':Fr [H.gc] w7 w8:=(Fr.refl [H.gc] w7).drew.trans f8 (fun y hy => .inl hy);have M8:=hI (M7.out.zB f8' C8);have F8:=hI (F7.out.trans (f8'.mono (O':=[H.g,H.gw,H.gc]) zs) (fun y hy => .inl hy));clear f8 C8))
       have z22:w8.frozen? ⟨H.g,22,none⟩=false:=M8.out.blk.frozen 22;have d22:w8.cell? ⟨H.g,22,none⟩=some (.int .i64 x.timed):=(qm M8.out.blk).c22;have d17:w8.cell? ⟨H.g,17,none⟩=some (ptr H.gc):=(qm M8.out.blk).c17;have hl8:=M8.out.blk.lt;clear e17 e21 e23 SEE f8';go_wp2_with fail
       have f9:Fr [H.g] w8 (w8.setCell ⟨H.g,22,none⟩ (.int .i64 0)):=(Fr.refl [H.g] w8).setCell (p:=⟨H.g,22,none⟩) (.inl zs) _;have m9:=M8.out.set (w':=w8.setCell ⟨H.g,22,none⟩ (.int .i64 0)) (x':={ x with win:=v,qp:=false,timed:=0,clk:=(Rto.qR x.clk (x.now - x.since)).1 }) f9 (by simpa using M8.out.blk.qO 22 (.int .i64 0)) rfl rfl rfl rfl rfl;generalize w8.setCell ⟨H.g,22,none⟩ (.int .i64 0)=w9 at *
       refine (Rto.qL H.gc _ w9 m9.clk (Rto.kY CK.out _)).mono ?_;rintro e wa ⟨rfl,fa,Ca⟩;have ma:=hI (m9.zB fa Ca);have Fa:=hI ((F8.out.trans (f9.mono (O':=[H.g,H.gw,H.gc]) zs) (fun y hy => .inl hy)).trans (fa.mono (O':=[H.g,H.gw,H.gc]) zs) (fun y hy => .inl hy));clear m9 f9 fa Ca;go_wp2_with fail
       first|go_end0|refine bodyPost_ret (results_none rfl _ _ _) rfl ?_
       have hY:qB x v km false={ x with win:=v,qp:=false,timed:=0,clk:=Rto.qW (Rto.qR x.clk (x.now - x.since)).1 }:=by
        unfold qB;rw [if_neg (by rw [ha];simp <;> omega),if_pos ⟨ht1,ht2⟩,ha];rfl
       rw [hY];exact⟨_,rfl,LK.out,ma.out,Fa.out⟩
      ·have hge:decide (x.timed<=v.a)=false\/decide (0<x.timed)=false:=by
        by_cases h1:0<x.timed
        ·left;simp;omega
        ·right;simpa using h1
       have HT:=hI ht;clear ht;by_cases ht1:0<x.timed
       ·have ht2:¬ x.timed<=v.a:=fun h=>HT.out ⟨ht1,h⟩
        clear hge;refine qg zk zk ?_;repeat (go_big_quiet_step ((go_at_call 48;exact HSt.out _)))
        refine wpQuiet_nil ?_;intro w7 f7;have m7:=M6.out.fr f7;have e17:w7.cell? ⟨H.g,17,none⟩=some (ptr H.gc):=(qm m7.blk).c17;have M7:=hI m7;have F7:=hI (F6.out.trans f7 zs);clear m7 f7 d16' d17' d21' d22' d23' g16 g22;go_wp2_with fail
        refine (Rto.qL H.gc x.clk w7 M7.out.clk CK.out).mono ?_;rintro e wa ⟨rfl,fa,Ca⟩;have ma:=hI (M7.out.zB fa Ca);have Fa:=hI (F7.out.trans (fa.mono (O':=[H.g,H.gw,H.gc]) zs) (fun y hy => .inl hy));clear fa Ca;go_wp2_with fail
        first|go_end0|refine bodyPost_ret (results_none rfl _ _ _) rfl ?_
        have hY:qB x v km false={ x with win:=v,qp:=false,clk:=Rto.qW x.clk }:=by
         unfold qB;rw [if_neg (by rw [ha];simp <;> omega),if_neg HT.out,ha];rfl
        rw [hY];exact⟨_,rfl,LK.out,ma.out,Fa.out⟩
       ·clear hge
        refine qg zk zk ?_;repeat (go_big_quiet_step ((go_at_call 48;exact HSt.out _)))
        refine wpQuiet_nil ?_;intro w7 f7;have m7:=M6.out.fr f7;have e17:w7.cell? ⟨H.g,17,none⟩=some (ptr H.gc):=(qm m7.blk).c17;have M7:=hI m7;have F7:=hI (F6.out.trans f7 zs);clear m7 f7 d16' d17' d21' d22' d23' g16 g22;go_wp2_with fail
        refine (Rto.qL H.gc x.clk w7 M7.out.clk CK.out).mono ?_;rintro e wa ⟨rfl,fa,Ca⟩;have ma:=hI (M7.out.zB fa Ca);have Fa:=hI (F7.out.trans (fa.mono (O':=[H.g,H.gw,H.gc]) zs) (fun y hy => .inl hy));clear fa Ca;go_wp2_with fail
        first|go_end0|refine bodyPost_ret (results_none rfl _ _ _) rfl ?_
        have hY:qB x v km false={ x with win:=v,qp:=false,clk:=Rto.qW x.clk }:=by
         unfold qB;rw [if_neg (by rw [ha];simp <;> omega),if_neg HT.out,ha];rfl
        rw [hY];exact⟨_,rfl,LK.out,ma.out,Fa.out⟩
   ·have hM':¬ M1=0:=zw
    rw [if_neg zw] at hsv;subst hsv;go_wp2_with fail
    refine (HCl.out _ (Fr.refl [] w3)).mono ?_;rintro e w4 ⟨A4,c4,rfl,own4,f4,fb4⟩;have c14':=ql f4 c14;have z14:w4.frozen? ⟨H.g,14,none⟩=false:=(f4.frozen (p:=⟨H.g,14,none⟩) hgl3 zs).trans hz14;have ac:=SI.qp (A:=A4) (c:=c4) M2.out F3.out WW3.out HKA.out f4 (by rw [HDL.out];exact own4) (by rw [HDL.out];exact fb4);rw [HDL.out] at ac;have AC:=hI ac;have LK:Hid (Hd.like w H ⟨H.g,H.gw,H.gc,H.gh, .slice A4 L1 c4,H.uv,H.kv⟩):=hI ⟨rfl,rfl,rfl,rfl,fun b hb=>by
     simp only [Hd.own,List.mem_cons,List.mem_append] at hb |-
     rcases hb with h|h|h|h|h|h|h
     ·exact .inl (.inl h)
     ·exact .inl (.inr (.inl h))
     ·exact .inl (.inr (.inr (.inl h)))
     ·exact .inl (.inr (.inr (.inr (.inl h))))
     ·exact .inl (.inr (.inr (.inr (.inr (.inl h)))))
     ·have h1:=fb4 b (qo.1 h)
      have h2:=F3.out.size;have h3:=F2.out.size;exact .inr zw
     ·exact .inl (.inr (.inr (.inr (.inr (.inr (.inr h))))))⟩
    clear ac own4 fb4 f4;go_upto_region 8 with fail
    obtain⟨m5,f5⟩:=AC.out;generalize w4.setCell ⟨H.g,14,none⟩ (.slice A4 L1 c4)=w5 at *
    have F5:=hI ((F2.out.mono (O':=[H.g,H.gw,H.gc]) zs).trans (f5.mono (O':=[H.g,H.gw,H.gc]) zs) (fun y hy => .inl hy));have cs5:=qm m5.blk;have d16:w5.cell? ⟨H.g,16,none⟩=some (ptr H.gw):=cs5.c16;have d17:w5.cell? ⟨H.g,17,none⟩=some (ptr H.gc):=cs5.c17;have d20:w5.cell? ⟨H.g,20,none⟩=some (.bool x.qp):=cs5.c20;have d21:w5.cell? ⟨H.g,21,none⟩=some (.int .i64 x.now):=cs5.c21;have d22:w5.cell? ⟨H.g,22,none⟩=some (.int .i64 x.timed):=cs5.c22;have d23:w5.cell? ⟨H.g,23,none⟩=some (.int .i64 x.since):=cs5.c23;have z20:w5.frozen? ⟨H.g,20,none⟩=false:=m5.blk.frozen 20;have M5:=hI m5;clear m5 f5 cs5 c14' z14 AC c14 hz14 F3 WW3 HCl HDL HL1 c7 c19 c20 C2 M2 WW2 B2 C14 BY NWS HKC kk0 kk1 kk2;by_cases hk0:(km:Int)=0
    ·rcases Bool.eq_false_or_eq_true x.qp with ha|ha
     ·rw [ha] at d20
      go_wp2_with fail
      first|go_end0|refine bodyPost_ret (results_none rfl _ _ _) rfl ?_
      have hY:qB x v km false={ x with win:=v }:=(by unfold qB;rw [if_pos ⟨hk0,by rw [ha];rfl⟩]);rw [hY];exact⟨_,rfl,LK.out,M5.out,F5.out⟩
     ·rw [ha] at d20
      go_wp2_with fail
      first|go_end0|refine bodyPost_ret (results_none rfl _ _ _) rfl ?_
      have hY:qB x v km false={ x with win:=v }:=(by unfold qB;rw [if_pos ⟨hk0,rfl⟩]);rw [hY];exact⟨_,rfl,LK.out,M5.out,F5.out⟩
    ·have hk1:¬ km=0:=zw
     have hk2:decide ((km:Int)=0)=false:=(by simpa using hk1);rcases Bool.eq_false_or_eq_true x.qp with ha|ha
     ·rw [ha] at d20
      go_upto_region 10 with fail
      have m6:=M5.out.set (w':=w5.setCell ⟨H.g,20,none⟩ (.bool true)) (x':={ x with win:=v,qp:=true }) ((Fr.refl [H.g] w5).setCell (p:=⟨H.g,20,none⟩) (.inl zs) _) (by simpa using M5.out.blk.qO 20 (.bool true)) rfl rfl rfl rfl rfl;have f6:Fr [H.g] w5 (w5.setCell ⟨H.g,20,none⟩ (.bool true)):=(Fr.refl [H.g] w5).setCell (p:=⟨H.g,20,none⟩) (.inl zs) _;generalize w5.setCell ⟨H.g,20,none⟩ (.bool true)=w6 at *
      have cs6:=qm m6.blk;have F6:=hI (F5.out.trans (f6.mono (O':=[H.g,H.gw,H.gc]) zs) (fun y hy => .inl hy));have d16':w6.cell? ⟨H.g,16,none⟩=some (ptr H.gw):=cs6.c16;have d17':w6.cell? ⟨H.g,17,none⟩=some (ptr H.gc):=cs6.c17;have d21':w6.cell? ⟨H.g,21,none⟩=some (.int .i64 x.now):=cs6.c21;have d22':w6.cell? ⟨H.g,22,none⟩=some (.int .i64 x.timed):=cs6.c22;have d23':w6.cell? ⟨H.g,23,none⟩=some (.int .i64 x.since):=cs6.c23;have g16:=Grew.cell d16';have g22:=Grew.cell d22';have hst:∀ q:Grew w6,Calls Tryz.prog 48 #[ptr H.gw] q.W fun e w'=>e = .returned (.agg #[.int .i64 v.a, .int .i64 v.s, .int .i64 v.m, .int .i64 v.l])/\∃ q':Grew w6,w'=q'.W:=fun q=>qG (Win.kD H.gw v q.W (Blk.fr m6.win q.fr zs));have HSt:=hI hst;have M6:=hI m6;have CK:Hid (Rto.Inv x.clk):=HC;clear hst m6 f6 cs6 d16 d17 d20 d21 d22 d23 z20 M5 F5;by_cases ht:0<x.timed/\x.timed<=v.a
      ·obtain⟨ht1,ht2⟩:=ht
       refine qg zk zk ?_;repeat (go_big_quiet_step ((go_at_call 48;exact HSt.out _)))
       refine wpQuiet_nil ?_;intro w7 f7;have m7:=M6.out.fr f7;have cs7:=qm m7.blk;have e17:w7.cell? ⟨H.g,17,none⟩=some (ptr H.gc):=cs7.c17;have e21:w7.cell? ⟨H.g,21,none⟩=some (.int .i64 x.now):=cs7.c21;have e23:w7.cell? ⟨H.g,23,none⟩=some (.int .i64 x.since):=cs7.c23;have M7:=hI m7;have F7:=hI (F6.out.trans f7 zs);have SEE:Hid (∀ W,Fr [H.gc] w7 W->W.cell? ⟨H.g,17,none⟩=some (ptr H.gc)/\W.cell? ⟨H.g,21,none⟩=some (.int .i64 x.now)/\W.cell? ⟨H.g,23,none⟩=some (.int .i64 x.since)):=hI (fun W fW=>by
        have hn:H.g∉[H.gc]:=(by simpa using fun e=>M7.out.xR e.symm);exact⟨fr3 fW e17 hn,fr3 fW e21 hn,fr3 fW e23 hn⟩)
       clear m7 cs7 f7 d16' d17' d21' d22' d23' g16 g22;go_upto_region 11 with fail
       go_region_held3 (fun w'=>w'.cell? ⟨H.g,17,none⟩=some (ptr H.gc)/\w'.cell? ⟨H.g,21,none⟩=some (.int .i64 x.now)/\w'.cell? ⟨H.g,23,none⟩=some (.int .i64 x.since))
        (first|(with_reducible exact SEE.out _ f8')|go_keep)
        (first
         | (go_at_call 115;refine (Rto.zD H.gc x.clk (x.now - x.since) _ (Blk.fr M7.out.clk (Fr.refl [] w7).drew zs) CK.out).mono ?_;rintro e w8 ⟨rfl,f8,C8⟩;have f8':Fr [H.gc] w7 w8:=(Fr.refl [H.gc] w7).drew.trans f8 (fun y hy => .inl hy);have M8:=hI (M7.out.zB f8' C8);have F8:=hI (F7.out.trans (f8'.mono (O':=[H.g,H.gw,H.gc]) zs) (fun y hy => .inl hy));clear f8 C8))
       have z22:w8.frozen? ⟨H.g,22,none⟩=false:=M8.out.blk.frozen 22;have d22:w8.cell? ⟨H.g,22,none⟩=some (.int .i64 x.timed):=(qm M8.out.blk).c22;have d17:w8.cell? ⟨H.g,17,none⟩=some (ptr H.gc):=(qm M8.out.blk).c17;have hl8:=M8.out.blk.lt;clear e17 e21 e23 SEE f8';go_wp2_with fail
       have f9:Fr [H.g] w8 (w8.setCell ⟨H.g,22,none⟩ (.int .i64 0)):=(Fr.refl [H.g] w8).setCell (p:=⟨H.g,22,none⟩) (.inl zs) _;have m9:=M8.out.set (w':=w8.setCell ⟨H.g,22,none⟩ (.int .i64 0)) (x':={ x with win:=v,qp:=true,timed:=0,clk:=(Rto.qR x.clk (x.now - x.since)).1 }) f9 (by simpa using M8.out.blk.qO 22 (.int .i64 0)) rfl rfl rfl rfl rfl;generalize w8.setCell ⟨H.g,22,none⟩ (.int .i64 0)=w9 at *
       refine (Rto.qL H.gc _ w9 m9.clk (Rto.kY CK.out _)).mono ?_;rintro e wa ⟨rfl,fa,Ca⟩;have ma:=hI (m9.zB fa Ca);have Fa:=hI ((F8.out.trans (f9.mono (O':=[H.g,H.gw,H.gc]) zs) (fun y hy => .inl hy)).trans (fa.mono (O':=[H.g,H.gw,H.gc]) zs) (fun y hy => .inl hy));clear m9 f9 fa Ca;go_wp2_with fail
       first|go_end0|refine bodyPost_ret (results_none rfl _ _ _) rfl ?_
       have hY:qB x v km false={ x with win:=v,qp:=true,timed:=0,clk:=Rto.qW (Rto.qR x.clk (x.now - x.since)).1 }:=by
        unfold qB;rw [if_neg (by rw [ha];simp <;> omega),if_pos ⟨ht1,ht2⟩,ha];rfl
       rw [hY];exact⟨_,rfl,LK.out,ma.out,Fa.out⟩
      ·have hge:decide (x.timed<=v.a)=false\/decide (0<x.timed)=false:=by
        by_cases h1:0<x.timed
        ·left;simp;omega
        ·right;simpa using h1
       have HT:=hI ht;clear ht;by_cases ht1:0<x.timed
       ·have ht2:¬ x.timed<=v.a:=fun h=>HT.out ⟨ht1,h⟩
        clear hge;refine qg zk zk ?_;repeat (go_big_quiet_step ((go_at_call 48;exact HSt.out _)))
        refine wpQuiet_nil ?_;intro w7 f7;have m7:=M6.out.fr f7;have e17:w7.cell? ⟨H.g,17,none⟩=some (ptr H.gc):=(qm m7.blk).c17;have M7:=hI m7;have F7:=hI (F6.out.trans f7 zs);clear m7 f7 d16' d17' d21' d22' d23' g16 g22;go_wp2_with fail
        refine (Rto.qL H.gc x.clk w7 M7.out.clk CK.out).mono ?_;rintro e wa ⟨rfl,fa,Ca⟩;have ma:=hI (M7.out.zB fa Ca);have Fa:=hI (F7.out.trans (fa.mono (O':=[H.g,H.gw,H.gc]) zs) (fun y hy => .inl hy));clear fa Ca;go_wp2_with fail
        first|go_end0|refine bodyPost_ret (results_none rfl _ _ _) rfl ?_
        have hY:qB x v km false={ x with win:=v,qp:=true,clk:=Rto.qW x.clk }:=by
         unfold qB;rw [if_neg (by rw [ha];simp <;> omega),if_neg HT.out,ha];rfl
        rw [hY];exact⟨_,rfl,LK.out,ma.out,Fa.out⟩
       ·clear hge
        refine qg zk zk ?_;repeat (go_big_quiet_step ((go_at_call 48;exact HSt.out _)))
        refine wpQuiet_nil ?_;intro w7 f7;have m7:=M6.out.fr f7;have e17:w7.cell? ⟨H.g,17,none⟩=some (ptr H.gc):=(qm m7.blk).c17;have M7:=hI m7;have F7:=hI (F6.out.trans f7 zs);clear m7 f7 d16' d17' d21' d22' d23' g16 g22;go_wp2_with fail
        refine (Rto.qL H.gc x.clk w7 M7.out.clk CK.out).mono ?_;rintro e wa ⟨rfl,fa,Ca⟩;have ma:=hI (M7.out.zB fa Ca);have Fa:=hI (F7.out.trans (fa.mono (O':=[H.g,H.gw,H.gc]) zs) (fun y hy => .inl hy));clear fa Ca;go_wp2_with fail
        first|go_end0|refine bodyPost_ret (results_none rfl _ _ _) rfl ?_
        have hY:qB x v km false={ x with win:=v,qp:=true,clk:=Rto.qW x.clk }:=by
         unfold qB;rw [if_neg (by rw [ha];simp <;> omega),if_neg HT.out,ha];rfl
        rw [hY];exact⟨_,rfl,LK.out,ma.out,Fa.out⟩
     ·rw [ha] at d20
      go_upto_region 10 with fail
      have m6:=M5.out.set (w':=w5.setCell ⟨H.g,20,none⟩ (.bool false)) (x':={ x with win:=v,qp:=false }) ((Fr.refl [H.g] w5).setCell (p:=⟨H.g,20,none⟩) (.inl zs) _) (by simpa using M5.out.blk.qO 20 (.bool false)) rfl rfl rfl rfl rfl;have f6:Fr [H.g] w5 (w5.setCell ⟨H.g,20,none⟩ (.bool false)):=(Fr.refl [H.g] w5).setCell (p:=⟨H.g,20,none⟩) (.inl zs) _;generalize w5.setCell ⟨H.g,20,none⟩ (.bool false)=w6 at *
      have cs6:=qm m6.blk;have F6:=hI (F5.out.trans (f6.mono (O':=[H.g,H.gw,H.gc]) zs) (fun y hy => .inl hy));have d16':w6.cell? ⟨H.g,16,none⟩=some (ptr H.gw):=cs6.c16;have d17':w6.cell? ⟨H.g,17,none⟩=some (ptr H.gc):=cs6.c17;have d21':w6.cell? ⟨H.g,21,none⟩=some (.int .i64 x.now):=cs6.c21;have d22':w6.cell? ⟨H.g,22,none⟩=some (.int .i64 x.timed):=cs6.c22;have d23':w6.cell? ⟨H.g,23,none⟩=some (.int .i64 x.since):=cs6.c23;have g16:=Grew.cell d16';have g22:=Grew.cell d22';have hst:∀ q:Grew w6,Calls Tryz.prog 48 #[ptr H.gw] q.W fun e w'=>e = .returned (.agg #[.int .i64 v.a, .int .i64 v.s, .int .i64 v.m, .int .i64 v.l])/\∃ q':Grew w6,w'=q'.W:=fun q=>qG (Win.kD H.gw v q.W (Blk.fr m6.win q.fr zs));have HSt:=hI hst;have M6:=hI m6;have CK:Hid (Rto.Inv x.clk):=HC;clear hst m6 f6 cs6 d16 d17 d20 d21 d22 d23 z20 M5 F5;by_cases ht:0<x.timed/\x.timed<=v.a
      ·obtain⟨ht1,ht2⟩:=ht
       refine qg zk zk ?_;repeat (go_big_quiet_step ((go_at_call 48;exact HSt.out _)))
       refine wpQuiet_nil ?_;intro w7 f7;have m7:=M6.out.fr f7;have cs7:=qm m7.blk;have e17:w7.cell? ⟨H.g,17,none⟩=some (ptr H.gc):=cs7.c17;have e21:w7.cell? ⟨H.g,21,none⟩=some (.int .i64 x.now):=cs7.c21;have e23:w7.cell? ⟨H.g,23,none⟩=some (.int .i64 x.since):=cs7.c23;have M7:=hI m7;have F7:=hI (F6.out.trans f7 zs);have SEE:Hid (∀ W,Fr [H.gc] w7 W->W.cell? ⟨H.g,17,none⟩=some (ptr H.gc)/\W.cell? ⟨H.g,21,none⟩=some (.int .i64 x.now)/\W.cell? ⟨H.g,23,none⟩=some (.int .i64 x.since)):=hI (fun W fW=>by
        have hn:H.g∉[H.gc]:=(by simpa using fun e=>M7.out.xR e.symm);exact⟨fr3 fW e17 hn,fr3 fW e21 hn,fr3 fW e23 hn⟩)
       clear m7 cs7 f7 d16' d17' d21' d22' d23' g16 g22;go_upto_region 11 with fail
       go_region_held3 (fun w'=>w'.cell? ⟨H.g,17,none⟩=some (ptr H.gc)/\w'.cell? ⟨H.g,21,none⟩=some (.int .i64 x.now)/\w'.cell? ⟨H.g,23,none⟩=some (.int .i64 x.since))
        (first|(with_reducible exact SEE.out _ f8')|go_keep)
        (first
         | (go_at_call 115;refine (Rto.zD H.gc x.clk (x.now - x.since) _ (Blk.fr M7.out.clk (Fr.refl [] w7).drew zs) CK.out).mono ?_;rintro e w8 ⟨rfl,f8,C8⟩;have f8':Fr [H.gc] w7 w8:=(Fr.refl [H.gc] w7).drew.trans f8 (fun y hy => .inl hy);have M8:=hI (M7.out.zB f8' C8);have F8:=hI (F7.out.trans (f8'.mono (O':=[H.g,H.gw,H.gc]) zs) (fun y hy => .inl hy));clear f8 C8))
       have z22:w8.frozen? ⟨H.g,22,none⟩=false:=M8.out.blk.frozen 22;have d22:w8.cell? ⟨H.g,22,none⟩=some (.int .i64 x.timed):=(qm M8.out.blk).c22;have d17:w8.cell? ⟨H.g,17,none⟩=some (ptr H.gc):=(qm M8.out.blk).c17;have hl8:=M8.out.blk.lt;clear e17 e21 e23 SEE f8';go_wp2_with fail
       have f9:Fr [H.g] w8 (w8.setCell ⟨H.g,22,none⟩ (.int .i64 0)):=(Fr.refl [H.g] w8).setCell (p:=⟨H.g,22,none⟩) (.inl zs) _;have m9:=M8.out.set (w':=w8.setCell ⟨H.g,22,none⟩ (.int .i64 0)) (x':={ x with win:=v,qp:=false,timed:=0,clk:=(Rto.qR x.clk (x.now - x.since)).1 }) f9 (by simpa using M8.out.blk.qO 22 (.int .i64 0)) rfl rfl rfl rfl rfl;generalize w8.setCell ⟨H.g,22,none⟩ (.int .i64 0)=w9 at *
       refine (Rto.qL H.gc _ w9 m9.clk (Rto.kY CK.out _)).mono ?_;rintro e wa ⟨rfl,fa,Ca⟩;have ma:=hI (m9.zB fa Ca);have Fa:=hI ((F8.out.trans (f9.mono (O':=[H.g,H.gw,H.gc]) zs) (fun y hy => .inl hy)).trans (fa.mono (O':=[H.g,H.gw,H.gc]) zs) (fun y hy => .inl hy));clear m9 f9 fa Ca;go_wp2_with fail
       first|go_end0|refine bodyPost_ret (results_none rfl _ _ _) rfl ?_
       have hY:qB x v km false={ x with win:=v,qp:=false,timed:=0,clk:=Rto.qW (Rto.qR x.clk (x.now - x.since)).1 }:=by
        unfold qB;rw [if_neg (by rw [ha];simp <;> omega),if_pos ⟨ht1,ht2⟩,ha];rfl
       rw [hY];exact⟨_,rfl,LK.out,ma.out,Fa.out⟩
      ·have hge:decide (x.timed<=v.a)=false\/decide (0<x.timed)=false:=by
        by_cases h1:0<x.timed
        ·left;simp;omega
        ·right;simpa using h1
       have HT:=hI ht;clear ht;by_cases ht1:0<x.timed
       ·have ht2:¬ x.timed<=v.a:=fun h=>HT.out ⟨ht1,h⟩
        clear hge;refine qg zk zk ?_;repeat (go_big_quiet_step ((go_at_call 48;exact HSt.out _)))
        refine wpQuiet_nil ?_;intro w7 f7;have m7:=M6.out.fr f7;have e17:w7.cell? ⟨H.g,17,none⟩=some (ptr H.gc):=(qm m7.blk).c17;have M7:=hI m7;have F7:=hI (F6.out.trans f7 zs);clear m7 f7 d16' d17' d21' d22' d23' g16 g22;go_wp2_with fail
        refine (Rto.qL H.gc x.clk w7 M7.out.clk CK.out).mono ?_;rintro e wa ⟨rfl,fa,Ca⟩;have ma:=hI (M7.out.zB fa Ca);have Fa:=hI (F7.out.trans (fa.mono (O':=[H.g,H.gw,H.gc]) zs) (fun y hy => .inl hy));clear fa Ca;go_wp2_with fail
        first|go_end0|refine bodyPost_ret (results_none rfl _ _ _) rfl ?_
        have hY:qB x v km false={ x with win:=v,qp:=false,clk:=Rto.qW x.clk }:=by
         unfold qB;rw [if_neg (by rw [ha];simp <;> omega),if_neg HT.out,ha];rfl
        rw [hY];exact⟨_,rfl,LK.out,ma.out,Fa.out⟩
       ·clear hge
        refine qg zk zk ?_;repeat (go_big_quiet_step ((go_at_call 48;exact HSt.out _)))
        refine wpQuiet_nil ?_;intro w7 f7;have m7:=M6.out.fr f7;have e17:w7.cell? ⟨H.g,17,none⟩=some (ptr H.gc):=(qm m7.blk).c17;have M7:=hI m7;have F7:=hI (F6.out.trans f7 zs);clear m7 f7 d16' d17' d21' d22' d23' g16 g22;go_wp2_with fail
        refine (Rto.qL H.gc x.clk w7 M7.out.clk CK.out).mono ?_;rintro e wa ⟨rfl,fa,Ca⟩;have ma:=hI (M7.out.zB fa Ca);have Fa:=hI (F7.out.trans (fa.mono (O':=[H.g,H.gw,H.gc]) zs) (fun y hy => .inl hy));clear fa Ca;go_wp2_with fail
        first|go_end0|refine bodyPost_ret (results_none rfl _ _ _) rfl ?_
        have hY:qB x v km false={ x with win:=v,qp:=false,clk:=Rto.qW x.clk }:=by
         unfold qB;rw [if_neg (by rw [ha];simp <;> omega),if_neg HT.out,ha];rfl
        rw [hY];exact⟨_,rfl,LK.out,ma.out,Fa.out⟩
end Go.Proofs.YtmgdbbbdhkfdmaaGreat
