import Derived.Test.YtmgdbbbdhkfdmaaGreatYC6
import Derived.Deep.DeepCutAuto
import Derived.Deep.RegionLaw
import Derived.Test.YtmgdbbbdhkfdmaaGreatYC0
set_option linter.unusedSimpArgs false
set_option linter.unusedVariables false
set_option maxHeartbeats 40000000
namespace Go.Proofs.YtmgdbbbdhkfdmaaGreat
set_option maxRecDepth 100000
open Go.RowKit Go.Deep Go.Shelf
set_option maxRecDepth 100000 in
theorem qhj{S:Nat->Prop}{w:World}{g:Nat}{kv:Value}{h:Hp}(m:HP S w g kv h)(a:Int)(dv:Value)(d:List Int)(T:Nat->Prop)(hd:Byt T w dv d)(hl:d.length<=1000000)(h0:0<=a)(h1:a<=4611686018427387904)(h2:1<=d.length)(h3:d.length<=64)(h4:past h.fin (a+d.length)=false)(h5:h.next<a)(h6:h.kept.any (longer a d.length)=true)(hlen:h.kept.length<=64) :
  Calls Tryz.prog 117 #[ptr g, .int .i64 a,dv] w (jw S w g kv h [] 0):=by
 have M:=hI m;obtain⟨ev,L,m⟩:=m;obtain⟨A,c,rfl,hn,hcm⟩:=hd.form;have c4:=m.cells.2.2.2.2;have hg:=m.blk.lt;have hcl:∀ W,Fr [] w W->Calls Tryz.prog 40 #[.slice A d.length c] W _:=fun W f=>kZ W (hd.fr f zs) hl;have Hcl:=hI hcl;have f0:Fr [] w ((w.alloc (.cells #[ptr g] 72)).alloc (.cells #[.slice none 0 0] 30)):=((Fr.refl _ _).alloc _).alloc _;have bo:=Blk.new (w.alloc (.cells #[ptr g] 72)) 30 #[.slice none 0 0];have bh:=(Blk.new w 72 #[ptr g]).alloc (.cells #[.slice none 0 0] 30);have BO:=hI bo;have BH:=hI bh;have M0:=hI m;clear hcl m hd bo bh;have HP:=hI h4;have HANY:=hI h6;have h7:(a == h.next)=false:=zv;have h7':decide (a<h.next)=false:=zv;clear h4 h6;have Hlen:Hid (h.kept.length<=64):=hlen;clear hlen;go_enter Tryz.func117,Tryz.ntmps117;go_wp2_with fail
 refine qP 0 rfl ?_;go_wp2_with fail
 refine (Hcl.out _ f0).mono ?_;rintro e w1 ⟨A1,c1,rfl,own1,f1,fb1⟩;have F1:Fr [] w w1:=f0.trans f1 zs;have b4:=ql F1 c4;have bh1:=BH.out.fr f1 zs;have bo1:Blk w1 (w.heap.size+1) 30 #[.slice none 0 0]:=by simpa using BO.out.fr f1 zs
 have bh0:w1.cell? ⟨w.heap.size,0,none⟩=some (ptr g):=bh1.cell 0;have bo0:w1.cell? ⟨w.heap.size+1,0,none⟩=some (.slice none 0 0):=by simpa using bo1.cell 0
 have bof:w1.frozen? ⟨w.heap.size+1,0,none⟩=false:=by simpa using bo1.frozen 0
 have sz1:w.heap.size+1<w1.heap.size:=by have:=f1.size;simp at this;omega
 have sz2:w.heap.size<w1.heap.size:=zw;have hg1:g<w1.heap.size:=zw;have HF1:=hI F1;have HO1:=hI own1;have HB1:=hI fb1;have Bh1:=hI bh1;have Bo1:=hI bo1;clear f0 f1 F1 own1 fb1 c4 bh1 bo1;go_upto_region 7 with (go_at_call 86;refine (jb ?_).mono ?_;(first|exact b4|exact kH b4 _|assumption);rintro e w' ⟨rfl,rfl⟩)
 have fp:Fr [] w1 (w1.alloc (bxp a (.slice A1 d.length c1))):=(Fr.refl _ _).alloc _;have pb:=Blk.new w1 134 #[.int .i64 a, .slice A1 d.length c1];have szp:w1.heap.size<(w1.alloc (bxp a (.slice A1 d.length c1))).heap.size:=zs;generalize w1.alloc (bxp a (.slice A1 d.length c1))=W1 at *
 have FP:=hI fp;have PB:=hI pb;clear fp pb bh0 bo0 bof b4 hn;go_cut [47] (fun s47 wx=>s47 = .bool (past h.fin (a+d.length))/\Fr [] W1 wx);case first=>
  have qh:=ql FP.out (show w1.cell? ⟨w.heap.size,0,none⟩=some (ptr g) from Bh1.out.cell 0);have q3:=ql (HF1.out.trans FP.out zs) M0.out.cells.2.2.2.1;have p0:=PB.out.cell 0;have p1:=PB.out.cell 1;have x0:=Grew.cell qh;have x1:=Grew.cell q3;have x2:=Grew.cell p0;have x3:=Grew.cell p1;have hbeh:∀ p:Grew W1,Calls Tryz.prog 127 #[agp a (.slice A1 d.length c1)] p.W fun e w''=>e = .returned (.int .i64 (a+d.length))/\∃ q:Grew W1,w''=q.W:=fun p=>qG (zW a A1 d.length c1 _ h0 zw zw);have HBH:=hI hbeh;have hfin:=M0.out.fin;clear qh q3 p0 p1 hbeh;rcases hfin with ⟨e1,rfl⟩|⟨fa,fb,e1,rfl,e3,e4⟩
  ·have e5:past h.fin (a+d.length)=false:=by unfold past;rw [e1]
   have E5:=hI e5;clear e1 e5;refine qg zk zk ?_;repeat (go_big_quiet_step ((go_at_call 127;exact HBH.out _)))
   refine wpQuiet_nil ?_;intro W2 f2;go_wp2_with fail
   go_meet;exact⟨by rw [E5.out],f2⟩
  ·have e5:past h.fin (a+d.length)=decide (fa<a+d.length):=by unfold past;rw [e1]
   have E5:=hI e5;have x4:=Grew.cell (ql (HF1.out.trans FP.out zs) e4);clear e1 e5 e4;refine qg zk zk ?_;repeat (go_big_quiet_step ((go_at_call 127;exact HBH.out _)))
   refine wpQuiet_nil ?_;intro W2 f2;go_wp2_with fail
   go_meet;exact⟨by rw [E5.out],f2⟩
 case rest=>
  obtain⟨rfl,f2⟩:=hcut;generalize wc=W2 at *
  have F2:=hI ((HF1.out.trans FP.out zs).trans f2 zs);have Bh2:=hI (Bh1.out.fr (FP.out.trans f2 zs) zs);have Bo2:=hI (Bo1.out.fr (FP.out.trans f2 zs) zs);have Pb2:=hI (PB.out.fr f2 zs);have M2:=hI (M0.out.fr F2.out zs zs zs);have D2:=hI (qA HO1.out (FP.out.trans f2 zs) zs);clear f2;have xbh:W2.cell? ⟨w.heap.size,0,none⟩=some (ptr g):=Bh2.out.cell 0;have xbo:W2.cell? ⟨w.heap.size+1,0,none⟩=some (.slice none 0 0):=Bo2.out.cell 0;have xbof:=Bo2.out.frozen 0;have xp0:W2.cell? ⟨w1.heap.size,0,none⟩=some (.int .i64 a):=Pb2.out.cell 0;have xp1:W2.cell? ⟨w1.heap.size,1,none⟩=some (.slice A1 d.length c1):=Pb2.out.cell 1;obtain⟨xc0,xc1,xc2,xc3,xc4⟩:=M2.out.cells;have xsp:=Pb2.out.lt;have xsh:=Bh2.out.lt;have xso:=Bo2.out.lt;have xsg:=M2.out.blk.lt;rw [HP.out];go_upto_region 8 with fail
  have y0:=Grew.cell xbh;have y1:=Grew.cell xc1;have y2:=Grew.cell xp0;have y3:=Grew.cell xp1;have y4:=Grew.cell xc0;have y5:=Grew.cell xc2;have hbeh:∀ p:Grew W2,Calls Tryz.prog 127 #[agp a (.slice A1 d.length c1)] p.W fun e w''=>e = .returned (.int .i64 (a+d.length))/\∃ q:Grew W2,w''=q.W:=fun p=>qG (zW a A1 d.length c1 _ h0 zw zw);have HBH:=hI hbeh;clear hbeh;refine qg zk zk ?_;repeat (go_big_quiet_step ((go_at_call 127;exact HBH.out _)))
  refine wpQuiet_nil ?_;intro W3 f3;have F3:=hI (F2.out.trans f3 zs);have Bh3:=hI (Bh2.out.fr f3 zs);have Bo3:=hI (Bo2.out.fr f3 zs);have Pb3:=hI (Pb2.out.fr f3 zs);have M3:=hI (M2.out.fr f3 zs zs zs);have D3:=hI (qA D2.out f3 zs);clear y0 y1 y2 y3 y4 y5 xbh xbo xbof xp0 xp1 xc0 xc1 xc2 xc3 xc4 xsp xsh xso xsg f3;have xbh:W3.cell? ⟨w.heap.size,0,none⟩=some (ptr g):=Bh3.out.cell 0;have xbo:W3.cell? ⟨w.heap.size+1,0,none⟩=some (.slice none 0 0):=Bo3.out.cell 0;have xbof:=Bo3.out.frozen 0;have xp0:W3.cell? ⟨w1.heap.size,0,none⟩=some (.int .i64 a):=Pb3.out.cell 0;have xp1:W3.cell? ⟨w1.heap.size,1,none⟩=some (.slice A1 d.length c1):=Pb3.out.cell 1;obtain⟨xc0,xc1,xc2,xc3,xc4⟩:=M3.out.cells;have xsp:=Pb3.out.lt;have xsh:=Bh3.out.lt;have xso:=Bo3.out.lt;have xsg:=M3.out.blk.lt;go_wp2_with fail
  have y0:=Grew.cell xbh;have y1:=Grew.cell xc1;have y2:=Grew.cell xp0;have y3:=Grew.cell xp1;have y4:=Grew.cell xc0;have y5:=Grew.cell xc2;refine qg zk zk ?_;repeat (go_big_quiet_step (fail))
  refine wpQuiet_nil ?_;intro W4 f4;have F4:=hI (F3.out.trans f4 zs);have Bh4:=hI (Bh3.out.fr f4 zs);have Bo4:=hI (Bo3.out.fr f4 zs);have Pb4:=hI (Pb3.out.fr f4 zs);have M4:=hI (M3.out.fr f4 zs zs zs);have D4:=hI (qA D3.out f4 zs);clear y0 y1 y2 y3 y4 y5 xbh xbo xbof xp0 xp1 xc0 xc1 xc2 xc3 xc4 xsp xsh xso xsg f4;have xbh:W4.cell? ⟨w.heap.size,0,none⟩=some (ptr g):=Bh4.out.cell 0;have xbo:W4.cell? ⟨w.heap.size+1,0,none⟩=some (.slice none 0 0):=Bo4.out.cell 0;have xbof:=Bo4.out.frozen 0;have xp0:W4.cell? ⟨w1.heap.size,0,none⟩=some (.int .i64 a):=Pb4.out.cell 0;have xp1:W4.cell? ⟨w1.heap.size,1,none⟩=some (.slice A1 d.length c1):=Pb4.out.cell 1;obtain⟨xc0,xc1,xc2,xc3,xc4⟩:=M4.out.cells;have xsp:=Pb4.out.lt;have xsh:=Bh4.out.lt;have xso:=Bo4.out.lt;have xsg:=M4.out.blk.lt;go_wp2_with fail
  have y0:=Grew.cell xbh;have y1:=Grew.cell xc1;have y2:=Grew.cell xp0;have y3:=Grew.cell xp1;have y4:=Grew.cell xc0;have y5:=Grew.cell xc2;refine qg zk zk ?_;repeat (go_big_quiet_step (fail))
  refine wpQuiet_nil ?_;intro W5 f5;have F5:=hI (F4.out.trans f5 zs);have Bh5:=hI (Bh4.out.fr f5 zs);have Bo5:=hI (Bo4.out.fr f5 zs);have Pb5:=hI (Pb4.out.fr f5 zs);have M5:=hI (M4.out.fr f5 zs zs zs);have D5:=hI (qA D4.out f5 zs);clear y0 y1 y2 y3 y4 y5 xbh xbo xbof xp0 xp1 xc0 xc1 xc2 xc3 xc4 xsp xsh xso xsg f5;have xbh:W5.cell? ⟨w.heap.size,0,none⟩=some (ptr g):=Bh5.out.cell 0;have xbo:W5.cell? ⟨w.heap.size+1,0,none⟩=some (.slice none 0 0):=Bo5.out.cell 0;have xbof:=Bo5.out.frozen 0;have xp0:W5.cell? ⟨w1.heap.size,0,none⟩=some (.int .i64 a):=Pb5.out.cell 0;have xp1:W5.cell? ⟨w1.heap.size,1,none⟩=some (.slice A1 d.length c1):=Pb5.out.cell 1;obtain⟨xc0,xc1,xc2,xc3,xc4⟩:=M5.out.cells;have xsp:=Pb5.out.lt;have xsh:=Bh5.out.lt;have xso:=Bo5.out.lt;have xsg:=M5.out.blk.lt;have hf:=qau S W5 w1.heap.size a A1 d.length c1 xp0 xp1 kv L M5.out.kp (by have:=M5.out.len;have:=Hlen.out;omega);have hbl:=yF a d.length (L.map (·.1));rw [List.length_map,<- M5.out.kept] at hbl;rw [HANY.out] at hbl;rw [<- M5.out.kept] at hf;have Hf:=hI hf;clear hf;generalize zK (longer a d.length) (fun _ _=>false) h.kept L.length=bb at *
  have hbb:0<=bb:=by simpa using hbl
  clear hbl;go_wp2_with fail
  refine Hf.out.mono ?_;rintro e W6 ⟨rfl,f6⟩;have F6:=hI (F5.out.trans f6 zs);have Bh6:=hI (Bh5.out.fr f6 zs);have Bo6:=hI (Bo5.out.fr f6 zs);have Pb6:=hI (Pb5.out.fr f6 zs);have M6:=hI (M5.out.fr f6 zs zs zs);have D6:=hI (qA D5.out f6 zs);clear xbh xbo xbof xp0 xp1 xc0 xc1 xc2 xc3 xc4 xsp xsh xso xsg f6;have xbh:W6.cell? ⟨w.heap.size,0,none⟩=some (ptr g):=Bh6.out.cell 0;have xbo:W6.cell? ⟨w.heap.size+1,0,none⟩=some (.slice none 0 0):=Bo6.out.cell 0;have xbof:=Bo6.out.frozen 0;have xp0:W6.cell? ⟨w1.heap.size,0,none⟩=some (.int .i64 a):=Pb6.out.cell 0;have xp1:W6.cell? ⟨w1.heap.size,1,none⟩=some (.slice A1 d.length c1):=Pb6.out.cell 1;obtain⟨xc0,xc1,xc2,xc3,xc4⟩:=M6.out.cells;have xsp:=Pb6.out.lt;have xsh:=Bh6.out.lt;have xso:=Bo6.out.lt;have xsg:=M6.out.blk.lt;go_wp2_with fail
  have hF:Fr [] w (W6.setCell ⟨w.heap.size+1,0,none⟩ (.slice none 0 0)):=F6.out.setCell (p:=⟨w.heap.size+1,0,none⟩) (.inr zs) (.slice none 0 0);have hB:=Bo6.out.qO 0 (.slice none 0 0);have hres:World.cell? (W6.setCell ⟨w.heap.size+1,0,none⟩ (.slice none 0 0)) ⟨w.heap.size+1,0,none⟩=some (.slice none 0 0):=(hB.cell 0).trans zs;clear hB;generalize W6.setCell ⟨w.heap.size+1,0,none⟩ (.slice none 0 0)=Wf at *
  refine bodyPost_ret (v := .tuple #[.slice none 0 0, .int .i64 0]) (by simp [results,Tryz.results117,go_sem,hres]) rfl ?_;exact jO M.out hF _
end Go.Proofs.YtmgdbbbdhkfdmaaGreat
namespace Go.Proofs.YtmgdbbbdhkfdmaaGreat
set_option maxRecDepth 100000
open Go.RowKit Go.Deep Go.Shelf
set_option maxRecDepth 100000 in
theorem qms{S:Nat->Prop}{w:World}{g:Nat}{kv:Value}{h:Hp}(m:HP S w g kv h)(a:Int)(dv:Value)(d:List Int)(T:Nat->Prop)(hd:Byt T w dv d)(hl:d.length<=1000000)(h0:0<=a)(h1:a<=4611686018427387904)(h2:1<=d.length)(h3:d.length<=64)(h4:past h.fin (a+d.length)=false)(h5:h.next<a)(h6:h.kept.any (longer a d.length)=false)(hlen:h.kept.length<=64)(h8:h.most<=h.kept.length) :
  Calls Tryz.prog 117 #[ptr g, .int .i64 a,dv] w (jw S w g kv h [] 251):=by
 have M:=hI m;obtain⟨ev,L,m⟩:=m;obtain⟨A,c,rfl,hn,hcm⟩:=hd.form;have c4:=m.cells.2.2.2.2;have hg:=m.blk.lt;have hcl:∀ W,Fr [] w W->Calls Tryz.prog 40 #[.slice A d.length c] W _:=fun W f=>kZ W (hd.fr f zs) hl;have Hcl:=hI hcl;have f0:Fr [] w ((w.alloc (.cells #[ptr g] 72)).alloc (.cells #[.slice none 0 0] 30)):=((Fr.refl _ _).alloc _).alloc _;have bo:=Blk.new (w.alloc (.cells #[ptr g] 72)) 30 #[.slice none 0 0];have bh:=(Blk.new w 72 #[ptr g]).alloc (.cells #[.slice none 0 0] 30);have BO:=hI bo;have BH:=hI bh;have M0:=hI m;clear hcl m hd bo bh;have HP:=hI h4;have HANY:=hI h6;have h7:(a == h.next)=false:=zv;have h7':decide (a<h.next)=false:=zv;have H8:=hI h8;clear h4 h6 h8;have Hlen:Hid (h.kept.length<=64):=hlen;clear hlen;go_enter Tryz.func117,Tryz.ntmps117;go_wp2_with fail
 refine qP 0 rfl ?_;go_wp2_with fail
 refine (Hcl.out _ f0).mono ?_;rintro e w1 ⟨A1,c1,rfl,own1,f1,fb1⟩;have F1:Fr [] w w1:=f0.trans f1 zs;have b4:=ql F1 c4;have bh1:=BH.out.fr f1 zs;have bo1:Blk w1 (w.heap.size+1) 30 #[.slice none 0 0]:=by simpa using BO.out.fr f1 zs
 have bh0:w1.cell? ⟨w.heap.size,0,none⟩=some (ptr g):=bh1.cell 0;have bo0:w1.cell? ⟨w.heap.size+1,0,none⟩=some (.slice none 0 0):=by simpa using bo1.cell 0
 have bof:w1.frozen? ⟨w.heap.size+1,0,none⟩=false:=by simpa using bo1.frozen 0
 have sz1:w.heap.size+1<w1.heap.size:=by have:=f1.size;simp at this;omega
 have sz2:w.heap.size<w1.heap.size:=zw;have hg1:g<w1.heap.size:=zw;have HF1:=hI F1;have HO1:=hI own1;have HB1:=hI fb1;have Bh1:=hI bh1;have Bo1:=hI bo1;clear f0 f1 F1 own1 fb1 c4 bh1 bo1;go_upto_region 7 with (go_at_call 86;refine (jb ?_).mono ?_;(first|exact b4|exact kH b4 _|assumption);rintro e w' ⟨rfl,rfl⟩)
 have fp:Fr [] w1 (w1.alloc (bxp a (.slice A1 d.length c1))):=(Fr.refl _ _).alloc _;have pb:=Blk.new w1 134 #[.int .i64 a, .slice A1 d.length c1];have szp:w1.heap.size<(w1.alloc (bxp a (.slice A1 d.length c1))).heap.size:=zs;generalize w1.alloc (bxp a (.slice A1 d.length c1))=W1 at *
 have FP:=hI fp;have PB:=hI pb;clear fp pb bh0 bo0 bof b4 hn;go_cut [47] (fun s47 wx=>s47 = .bool (past h.fin (a+d.length))/\Fr [] W1 wx);case first=>
  have qh:=ql FP.out (show w1.cell? ⟨w.heap.size,0,none⟩=some (ptr g) from Bh1.out.cell 0);have q3:=ql (HF1.out.trans FP.out zs) M0.out.cells.2.2.2.1;have p0:=PB.out.cell 0;have p1:=PB.out.cell 1;have x0:=Grew.cell qh;have x1:=Grew.cell q3;have x2:=Grew.cell p0;have x3:=Grew.cell p1;have hbeh:∀ p:Grew W1,Calls Tryz.prog 127 #[agp a (.slice A1 d.length c1)] p.W fun e w''=>e = .returned (.int .i64 (a+d.length))/\∃ q:Grew W1,w''=q.W:=fun p=>qG (zW a A1 d.length c1 _ h0 zw zw);have HBH:=hI hbeh;have hfin:=M0.out.fin;clear qh q3 p0 p1 hbeh;rcases hfin with ⟨e1,rfl⟩|⟨fa,fb,e1,rfl,e3,e4⟩
  ·have e5:past h.fin (a+d.length)=false:=by unfold past;rw [e1]
   have E5:=hI e5;clear e1 e5;refine qg zk zk ?_;repeat (go_big_quiet_step ((go_at_call 127;exact HBH.out _)))
   refine wpQuiet_nil ?_;intro W2 f2;go_wp2_with fail
   go_meet;exact⟨by rw [E5.out],f2⟩
  ·have e5:past h.fin (a+d.length)=decide (fa<a+d.length):=by unfold past;rw [e1]
   have E5:=hI e5;have x4:=Grew.cell (ql (HF1.out.trans FP.out zs) e4);clear e1 e5 e4;refine qg zk zk ?_;repeat (go_big_quiet_step ((go_at_call 127;exact HBH.out _)))
   refine wpQuiet_nil ?_;intro W2 f2;go_wp2_with fail
   go_meet;exact⟨by rw [E5.out],f2⟩
 case rest=>
  obtain⟨rfl,f2⟩:=hcut;generalize wc=W2 at *
  have F2:=hI ((HF1.out.trans FP.out zs).trans f2 zs);have Bh2:=hI (Bh1.out.fr (FP.out.trans f2 zs) zs);have Bo2:=hI (Bo1.out.fr (FP.out.trans f2 zs) zs);have Pb2:=hI (PB.out.fr f2 zs);have M2:=hI (M0.out.fr F2.out zs zs zs);have D2:=hI (qA HO1.out (FP.out.trans f2 zs) zs);clear f2;have xbh:W2.cell? ⟨w.heap.size,0,none⟩=some (ptr g):=Bh2.out.cell 0;have xbo:W2.cell? ⟨w.heap.size+1,0,none⟩=some (.slice none 0 0):=Bo2.out.cell 0;have xbof:=Bo2.out.frozen 0;have xp0:W2.cell? ⟨w1.heap.size,0,none⟩=some (.int .i64 a):=Pb2.out.cell 0;have xp1:W2.cell? ⟨w1.heap.size,1,none⟩=some (.slice A1 d.length c1):=Pb2.out.cell 1;obtain⟨xc0,xc1,xc2,xc3,xc4⟩:=M2.out.cells;have xsp:=Pb2.out.lt;have xsh:=Bh2.out.lt;have xso:=Bo2.out.lt;have xsg:=M2.out.blk.lt;rw [HP.out];go_upto_region 8 with fail
  have y0:=Grew.cell xbh;have y1:=Grew.cell xc1;have y2:=Grew.cell xp0;have y3:=Grew.cell xp1;have y4:=Grew.cell xc0;have y5:=Grew.cell xc2;have hbeh:∀ p:Grew W2,Calls Tryz.prog 127 #[agp a (.slice A1 d.length c1)] p.W fun e w''=>e = .returned (.int .i64 (a+d.length))/\∃ q:Grew W2,w''=q.W:=fun p=>qG (zW a A1 d.length c1 _ h0 zw zw);have HBH:=hI hbeh;clear hbeh;refine qg zk zk ?_;repeat (go_big_quiet_step ((go_at_call 127;exact HBH.out _)))
  refine wpQuiet_nil ?_;intro W3 f3;have F3:=hI (F2.out.trans f3 zs);have Bh3:=hI (Bh2.out.fr f3 zs);have Bo3:=hI (Bo2.out.fr f3 zs);have Pb3:=hI (Pb2.out.fr f3 zs);have M3:=hI (M2.out.fr f3 zs zs zs);have D3:=hI (qA D2.out f3 zs);clear y0 y1 y2 y3 y4 y5 xbh xbo xbof xp0 xp1 xc0 xc1 xc2 xc3 xc4 xsp xsh xso xsg f3;have xbh:W3.cell? ⟨w.heap.size,0,none⟩=some (ptr g):=Bh3.out.cell 0;have xbo:W3.cell? ⟨w.heap.size+1,0,none⟩=some (.slice none 0 0):=Bo3.out.cell 0;have xbof:=Bo3.out.frozen 0;have xp0:W3.cell? ⟨w1.heap.size,0,none⟩=some (.int .i64 a):=Pb3.out.cell 0;have xp1:W3.cell? ⟨w1.heap.size,1,none⟩=some (.slice A1 d.length c1):=Pb3.out.cell 1;obtain⟨xc0,xc1,xc2,xc3,xc4⟩:=M3.out.cells;have xsp:=Pb3.out.lt;have xsh:=Bh3.out.lt;have xso:=Bo3.out.lt;have xsg:=M3.out.blk.lt;go_wp2_with fail
  have y0:=Grew.cell xbh;have y1:=Grew.cell xc1;have y2:=Grew.cell xp0;have y3:=Grew.cell xp1;have y4:=Grew.cell xc0;have y5:=Grew.cell xc2;refine qg zk zk ?_;repeat (go_big_quiet_step (fail))
  refine wpQuiet_nil ?_;intro W4 f4;have F4:=hI (F3.out.trans f4 zs);have Bh4:=hI (Bh3.out.fr f4 zs);have Bo4:=hI (Bo3.out.fr f4 zs);have Pb4:=hI (Pb3.out.fr f4 zs);have M4:=hI (M3.out.fr f4 zs zs zs);have D4:=hI (qA D3.out f4 zs);clear y0 y1 y2 y3 y4 y5 xbh xbo xbof xp0 xp1 xc0 xc1 xc2 xc3 xc4 xsp xsh xso xsg f4;have xbh:W4.cell? ⟨w.heap.size,0,none⟩=some (ptr g):=Bh4.out.cell 0;have xbo:W4.cell? ⟨w.heap.size+1,0,none⟩=some (.slice none 0 0):=Bo4.out.cell 0;have xbof:=Bo4.out.frozen 0;have xp0:W4.cell? ⟨w1.heap.size,0,none⟩=some (.int .i64 a):=Pb4.out.cell 0;have xp1:W4.cell? ⟨w1.heap.size,1,none⟩=some (.slice A1 d.length c1):=Pb4.out.cell 1;obtain⟨xc0,xc1,xc2,xc3,xc4⟩:=M4.out.cells;have xsp:=Pb4.out.lt;have xsh:=Bh4.out.lt;have xso:=Bo4.out.lt;have xsg:=M4.out.blk.lt;go_wp2_with fail
  have y0:=Grew.cell xbh;have y1:=Grew.cell xc1;have y2:=Grew.cell xp0;have y3:=Grew.cell xp1;have y4:=Grew.cell xc0;have y5:=Grew.cell xc2;refine qg zk zk ?_;repeat (go_big_quiet_step (fail))
  refine wpQuiet_nil ?_;intro W5 f5;have F5:=hI (F4.out.trans f5 zs);have Bh5:=hI (Bh4.out.fr f5 zs);have Bo5:=hI (Bo4.out.fr f5 zs);have Pb5:=hI (Pb4.out.fr f5 zs);have M5:=hI (M4.out.fr f5 zs zs zs);have D5:=hI (qA D4.out f5 zs);clear y0 y1 y2 y3 y4 y5 xbh xbo xbof xp0 xp1 xc0 xc1 xc2 xc3 xc4 xsp xsh xso xsg f5;have xbh:W5.cell? ⟨w.heap.size,0,none⟩=some (ptr g):=Bh5.out.cell 0;have xbo:W5.cell? ⟨w.heap.size+1,0,none⟩=some (.slice none 0 0):=Bo5.out.cell 0;have xbof:=Bo5.out.frozen 0;have xp0:W5.cell? ⟨w1.heap.size,0,none⟩=some (.int .i64 a):=Pb5.out.cell 0;have xp1:W5.cell? ⟨w1.heap.size,1,none⟩=some (.slice A1 d.length c1):=Pb5.out.cell 1;obtain⟨xc0,xc1,xc2,xc3,xc4⟩:=M5.out.cells;have xsp:=Pb5.out.lt;have xsh:=Bh5.out.lt;have xso:=Bo5.out.lt;have xsg:=M5.out.blk.lt;have hf:=qau S W5 w1.heap.size a A1 d.length c1 xp0 xp1 kv L M5.out.kp (by have:=M5.out.len;have:=Hlen.out;omega);have hbl:=yF a d.length (L.map (·.1));rw [List.length_map,<- M5.out.kept] at hbl;rw [HANY.out] at hbl;rw [<- M5.out.kept] at hf;have Hf:=hI hf;clear hf;generalize zK (longer a d.length) (fun _ _=>false) h.kept L.length=bb at *
  have hbb:bb<0:=by simpa using hbl
  clear hbl;go_wp2_with fail
  refine Hf.out.mono ?_;rintro e W6 ⟨rfl,f6⟩;have F6:=hI (F5.out.trans f6 zs);have Bh6:=hI (Bh5.out.fr f6 zs);have Bo6:=hI (Bo5.out.fr f6 zs);have Pb6:=hI (Pb5.out.fr f6 zs);have M6:=hI (M5.out.fr f6 zs zs zs);have D6:=hI (qA D5.out f6 zs);clear xbh xbo xbof xp0 xp1 xc0 xc1 xc2 xc3 xc4 xsp xsh xso xsg f6;have xbh:W6.cell? ⟨w.heap.size,0,none⟩=some (ptr g):=Bh6.out.cell 0;have xbo:W6.cell? ⟨w.heap.size+1,0,none⟩=some (.slice none 0 0):=Bo6.out.cell 0;have xbof:=Bo6.out.frozen 0;have xp0:W6.cell? ⟨w1.heap.size,0,none⟩=some (.int .i64 a):=Pb6.out.cell 0;have xp1:W6.cell? ⟨w1.heap.size,1,none⟩=some (.slice A1 d.length c1):=Pb6.out.cell 1;obtain⟨xc0,xc1,xc2,xc3,xc4⟩:=M6.out.cells;have xsp:=Pb6.out.lt;have xsh:=Bh6.out.lt;have xso:=Bo6.out.lt;have xsg:=M6.out.blk.lt;obtain⟨KA,KC,rfl,_,_⟩:=M6.out.kp.form;have h9:h.most<=(L.length:Int):=by have:=H8.out;rw [M6.out.len] at this;exact this
  go_wp2_with fail
  have y0:=Grew.cell xbh;have y1:=Grew.cell xc1;have y2:=Grew.cell xp0;have y3:=Grew.cell xp1;have y4:=Grew.cell xc0;have y5:=Grew.cell xc2;refine qg zk zk ?_;repeat (go_big_quiet_step (fail))
  refine wpQuiet_nil ?_;intro W7 f7;have F7:=hI (F6.out.trans f7 zs);have Bh7:=hI (Bh6.out.fr f7 zs);have Bo7:=hI (Bo6.out.fr f7 zs);have Pb7:=hI (Pb6.out.fr f7 zs);have M7:=hI (M6.out.fr f7 zs zs zs);have D7:=hI (qA D6.out f7 zs);clear y0 y1 y2 y3 y4 y5 xbh xbo xbof xp0 xp1 xc0 xc1 xc2 xc3 xc4 xsp xsh xso xsg f7;have xbh:W7.cell? ⟨w.heap.size,0,none⟩=some (ptr g):=Bh7.out.cell 0;have xbo:W7.cell? ⟨w.heap.size+1,0,none⟩=some (.slice none 0 0):=Bo7.out.cell 0;have xbof:=Bo7.out.frozen 0;have xp0:W7.cell? ⟨w1.heap.size,0,none⟩=some (.int .i64 a):=Pb7.out.cell 0;have xp1:W7.cell? ⟨w1.heap.size,1,none⟩=some (.slice A1 d.length c1):=Pb7.out.cell 1;obtain⟨xc0,xc1,xc2,xc3,xc4⟩:=M7.out.cells;have xsp:=Pb7.out.lt;have xsh:=Bh7.out.lt;have xso:=Bo7.out.lt;have xsg:=M7.out.blk.lt;go_wp2_with fail
  apply wp_goto;refine ja _ _ ?_;go_wp2
  rw [Exit.noGoto_ret];have hF:Fr [] w (W7.setCell ⟨w.heap.size+1,0,none⟩ (.slice none 0 0)):=F7.out.setCell (p:=⟨w.heap.size+1,0,none⟩) (.inr zs) (.slice none 0 0);have hB:=Bo7.out.qO 0 (.slice none 0 0);have hres:World.cell? (W7.setCell ⟨w.heap.size+1,0,none⟩ (.slice none 0 0)) ⟨w.heap.size+1,0,none⟩=some (.slice none 0 0):=(hB.cell 0).trans zs;clear hB;generalize W7.setCell ⟨w.heap.size+1,0,none⟩ (.slice none 0 0)=Wf at *
  refine bodyPost_ret (v := .tuple #[.slice none 0 0, .int .i64 251]) (by simp [results,Tryz.results117,go_sem,hres]) rfl ?_;exact jO M.out hF _
end Go.Proofs.YtmgdbbbdhkfdmaaGreat
namespace Go.Proofs.YtmgdbbbdhkfdmaaGreat
set_option maxRecDepth 100000
open Go.RowKit Go.Deep Go.Shelf
set_option maxRecDepth 100000 in
theorem put_app{S:Nat->Prop}{w:World}{g:Nat}{kv:Value}{h:Hp}(m:HP S w g kv h)(a:Int)(dv:Value)(d:List Int)(T:Nat->Prop)(hd:Byt T w dv d)(hl:d.length<=1000000)(h0:0<=a)(h1:a<=4611686018427387904)(h2:1<=d.length)(h3:d.length<=64)(h4:past h.fin (a+d.length)=false)(h5:h.next<a)(h6:h.kept.any (longer a d.length)=false)(hlen:h.kept.length<=64)(h8:(h.kept.length:Int)<h.most) :
  Calls Tryz.prog 117 #[ptr g, .int .i64 a,dv] w (jw S w g kv { h with kept:=h.kept++[⟨a,d⟩] } [] 0):=by
 have M:=hI m;obtain⟨ev,L,m⟩:=m;obtain⟨A,c,rfl,hn,hcm⟩:=hd.form;have c4:=m.cells.2.2.2.2;have hg:=m.blk.lt;have hcl:∀ W,Fr [] w W->Calls Tryz.prog 40 #[.slice A d.length c] W _:=fun W f=>kZ W (hd.fr f zs) hl;have Hcl:=hI hcl;have f0:Fr [] w ((w.alloc (.cells #[ptr g] 72)).alloc (.cells #[.slice none 0 0] 30)):=((Fr.refl _ _).alloc _).alloc _;have bo:=Blk.new (w.alloc (.cells #[ptr g] 72)) 30 #[.slice none 0 0];have bh:=(Blk.new w 72 #[ptr g]).alloc (.cells #[.slice none 0 0] 30);have BO:=hI bo;have BH:=hI bh;have M0:=hI m;clear hcl m hd bo bh;have HP:=hI h4;have HANY:=hI h6;have h7:(a == h.next)=false:=zv;have h7':decide (a<h.next)=false:=zv;have H8:=hI h8;clear h4 h6 h8;have Hlen:Hid (h.kept.length<=64):=hlen;clear hlen;go_enter Tryz.func117,Tryz.ntmps117;go_wp2_with fail
 refine qP 0 rfl ?_;go_wp2_with fail
 refine (Hcl.out _ f0).mono ?_;rintro e w1 ⟨A1,c1,rfl,own1,f1,fb1⟩;have F1:Fr [] w w1:=f0.trans f1 zs;have b4:=ql F1 c4;have bh1:=BH.out.fr f1 zs;have bo1:Blk w1 (w.heap.size+1) 30 #[.slice none 0 0]:=by simpa using BO.out.fr f1 zs
 have bh0:w1.cell? ⟨w.heap.size,0,none⟩=some (ptr g):=bh1.cell 0;have bo0:w1.cell? ⟨w.heap.size+1,0,none⟩=some (.slice none 0 0):=by simpa using bo1.cell 0
 have bof:w1.frozen? ⟨w.heap.size+1,0,none⟩=false:=by simpa using bo1.frozen 0
 have sz1:w.heap.size+1<w1.heap.size:=by have:=f1.size;simp at this;omega
 have sz2:w.heap.size<w1.heap.size:=zw;have hg1:g<w1.heap.size:=zw;have HF1:=hI F1;have HO1:=hI own1;have HB1:=hI fb1;have Bh1:=hI bh1;have Bo1:=hI bo1;clear f0 f1 F1 own1 fb1 c4 bh1 bo1;go_upto_region 7 with (go_at_call 86;refine (jb ?_).mono ?_;(first|exact b4|exact kH b4 _|assumption);rintro e w' ⟨rfl,rfl⟩)
 have fp:Fr [] w1 (w1.alloc (bxp a (.slice A1 d.length c1))):=(Fr.refl _ _).alloc _;have pb:=Blk.new w1 134 #[.int .i64 a, .slice A1 d.length c1];have szp:w1.heap.size<(w1.alloc (bxp a (.slice A1 d.length c1))).heap.size:=zs;generalize w1.alloc (bxp a (.slice A1 d.length c1))=W1 at *
 have FP:=hI fp;have PB:=hI pb;clear fp pb bh0 bo0 bof b4 hn;go_cut [47] (fun s47 wx=>s47 = .bool (past h.fin (a+d.length))/\Fr [] W1 wx);case first=>
  have qh:=ql FP.out (show w1.cell? ⟨w.heap.size,0,none⟩=some (ptr g) from Bh1.out.cell 0);have q3:=ql (HF1.out.trans FP.out zs) M0.out.cells.2.2.2.1;have p0:=PB.out.cell 0;have p1:=PB.out.cell 1;have x0:=Grew.cell qh;have x1:=Grew.cell q3;have x2:=Grew.cell p0;have x3:=Grew.cell p1;have hbeh:∀ p:Grew W1,Calls Tryz.prog 127 #[agp a (.slice A1 d.length c1)] p.W fun e w''=>e = .returned (.int .i64 (a+d.length))/\∃ q:Grew W1,w''=q.W:=fun p=>qG (zW a A1 d.length c1 _ h0 zw zw);have HBH:=hI hbeh;have hfin:=M0.out.fin;clear qh q3 p0 p1 hbeh;rcases hfin with ⟨e1,rfl⟩|⟨fa,fb,e1,rfl,e3,e4⟩
  ·have e5:past h.fin (a+d.length)=false:=by unfold past;rw [e1]
   have E5:=hI e5;clear e1 e5;refine qg zk zk ?_;repeat (go_big_quiet_step ((go_at_call 127;exact HBH.out _)))
   refine wpQuiet_nil ?_;intro W2 f2;go_wp2_with fail
   go_meet;exact⟨by rw [E5.out],f2⟩
  ·have e5:past h.fin (a+d.length)=decide (fa<a+d.length):=by unfold past;rw [e1]
   have E5:=hI e5;have x4:=Grew.cell (ql (HF1.out.trans FP.out zs) e4);clear e1 e5 e4;refine qg zk zk ?_;repeat (go_big_quiet_step ((go_at_call 127;exact HBH.out _)))
   refine wpQuiet_nil ?_;intro W2 f2;go_wp2_with fail
   go_meet;exact⟨by rw [E5.out],f2⟩
 case rest=>
  obtain⟨rfl,f2⟩:=hcut;generalize wc=W2 at *
  have F2:=hI ((HF1.out.trans FP.out zs).trans f2 zs);have Bh2:=hI (Bh1.out.fr (FP.out.trans f2 zs) zs);have Bo2:=hI (Bo1.out.fr (FP.out.trans f2 zs) zs);have Pb2:=hI (PB.out.fr f2 zs);have M2:=hI (M0.out.fr F2.out zs zs zs);have D2:=hI (qA HO1.out (FP.out.trans f2 zs) zs);clear f2;have xbh:W2.cell? ⟨w.heap.size,0,none⟩=some (ptr g):=Bh2.out.cell 0;have xbo:W2.cell? ⟨w.heap.size+1,0,none⟩=some (.slice none 0 0):=Bo2.out.cell 0;have xbof:=Bo2.out.frozen 0;have xp0:W2.cell? ⟨w1.heap.size,0,none⟩=some (.int .i64 a):=Pb2.out.cell 0;have xp1:W2.cell? ⟨w1.heap.size,1,none⟩=some (.slice A1 d.length c1):=Pb2.out.cell 1;obtain⟨xc0,xc1,xc2,xc3,xc4⟩:=M2.out.cells;have xsp:=Pb2.out.lt;have xsh:=Bh2.out.lt;have xso:=Bo2.out.lt;have xsg:=M2.out.blk.lt;rw [HP.out];go_upto_region 8 with fail
  have y0:=Grew.cell xbh;have y1:=Grew.cell xc1;have y2:=Grew.cell xp0;have y3:=Grew.cell xp1;have y4:=Grew.cell xc0;have y5:=Grew.cell xc2;have hbeh:∀ p:Grew W2,Calls Tryz.prog 127 #[agp a (.slice A1 d.length c1)] p.W fun e w''=>e = .returned (.int .i64 (a+d.length))/\∃ q:Grew W2,w''=q.W:=fun p=>qG (zW a A1 d.length c1 _ h0 zw zw);have HBH:=hI hbeh;clear hbeh;refine qg zk zk ?_;repeat (go_big_quiet_step ((go_at_call 127;exact HBH.out _)))
  refine wpQuiet_nil ?_;intro W3 f3;have F3:=hI (F2.out.trans f3 zs);have Bh3:=hI (Bh2.out.fr f3 zs);have Bo3:=hI (Bo2.out.fr f3 zs);have Pb3:=hI (Pb2.out.fr f3 zs);have M3:=hI (M2.out.fr f3 zs zs zs);have D3:=hI (qA D2.out f3 zs);clear y0 y1 y2 y3 y4 y5 xbh xbo xbof xp0 xp1 xc0 xc1 xc2 xc3 xc4 xsp xsh xso xsg f3;have xbh:W3.cell? ⟨w.heap.size,0,none⟩=some (ptr g):=Bh3.out.cell 0;have xbo:W3.cell? ⟨w.heap.size+1,0,none⟩=some (.slice none 0 0):=Bo3.out.cell 0;have xbof:=Bo3.out.frozen 0;have xp0:W3.cell? ⟨w1.heap.size,0,none⟩=some (.int .i64 a):=Pb3.out.cell 0;have xp1:W3.cell? ⟨w1.heap.size,1,none⟩=some (.slice A1 d.length c1):=Pb3.out.cell 1;obtain⟨xc0,xc1,xc2,xc3,xc4⟩:=M3.out.cells;have xsp:=Pb3.out.lt;have xsh:=Bh3.out.lt;have xso:=Bo3.out.lt;have xsg:=M3.out.blk.lt;go_wp2_with fail
  have y0:=Grew.cell xbh;have y1:=Grew.cell xc1;have y2:=Grew.cell xp0;have y3:=Grew.cell xp1;have y4:=Grew.cell xc0;have y5:=Grew.cell xc2;refine qg zk zk ?_;repeat (go_big_quiet_step (fail))
  refine wpQuiet_nil ?_;intro W4 f4;have F4:=hI (F3.out.trans f4 zs);have Bh4:=hI (Bh3.out.fr f4 zs);have Bo4:=hI (Bo3.out.fr f4 zs);have Pb4:=hI (Pb3.out.fr f4 zs);have M4:=hI (M3.out.fr f4 zs zs zs);have D4:=hI (qA D3.out f4 zs);clear y0 y1 y2 y3 y4 y5 xbh xbo xbof xp0 xp1 xc0 xc1 xc2 xc3 xc4 xsp xsh xso xsg f4;have xbh:W4.cell? ⟨w.heap.size,0,none⟩=some (ptr g):=Bh4.out.cell 0;have xbo:W4.cell? ⟨w.heap.size+1,0,none⟩=some (.slice none 0 0):=Bo4.out.cell 0;have xbof:=Bo4.out.frozen 0;have xp0:W4.cell? ⟨w1.heap.size,0,none⟩=some (.int .i64 a):=Pb4.out.cell 0;have xp1:W4.cell? ⟨w1.heap.size,1,none⟩=some (.slice A1 d.length c1):=Pb4.out.cell 1;obtain⟨xc0,xc1,xc2,xc3,xc4⟩:=M4.out.cells;have xsp:=Pb4.out.lt;have xsh:=Bh4.out.lt;have xso:=Bo4.out.lt;have xsg:=M4.out.blk.lt;go_wp2_with fail
  have y0:=Grew.cell xbh;have y1:=Grew.cell xc1;have y2:=Grew.cell xp0;have y3:=Grew.cell xp1;have y4:=Grew.cell xc0;have y5:=Grew.cell xc2;refine qg zk zk ?_;repeat (go_big_quiet_step (fail))
  refine wpQuiet_nil ?_;intro W5 f5;have F5:=hI (F4.out.trans f5 zs);have Bh5:=hI (Bh4.out.fr f5 zs);have Bo5:=hI (Bo4.out.fr f5 zs);have Pb5:=hI (Pb4.out.fr f5 zs);have M5:=hI (M4.out.fr f5 zs zs zs);have D5:=hI (qA D4.out f5 zs);clear y0 y1 y2 y3 y4 y5 xbh xbo xbof xp0 xp1 xc0 xc1 xc2 xc3 xc4 xsp xsh xso xsg f5;have xbh:W5.cell? ⟨w.heap.size,0,none⟩=some (ptr g):=Bh5.out.cell 0;have xbo:W5.cell? ⟨w.heap.size+1,0,none⟩=some (.slice none 0 0):=Bo5.out.cell 0;have xbof:=Bo5.out.frozen 0;have xp0:W5.cell? ⟨w1.heap.size,0,none⟩=some (.int .i64 a):=Pb5.out.cell 0;have xp1:W5.cell? ⟨w1.heap.size,1,none⟩=some (.slice A1 d.length c1):=Pb5.out.cell 1;obtain⟨xc0,xc1,xc2,xc3,xc4⟩:=M5.out.cells;have xsp:=Pb5.out.lt;have xsh:=Bh5.out.lt;have xso:=Bo5.out.lt;have xsg:=M5.out.blk.lt;have hf:=qau S W5 w1.heap.size a A1 d.length c1 xp0 xp1 kv L M5.out.kp (by have:=M5.out.len;have:=Hlen.out;omega);have hbl:=yF a d.length (L.map (·.1));rw [List.length_map,<- M5.out.kept] at hbl;rw [HANY.out] at hbl;rw [<- M5.out.kept] at hf;have Hf:=hI hf;clear hf;generalize zK (longer a d.length) (fun _ _=>false) h.kept L.length=bb at *
  have hbb:bb<0:=by simpa using hbl
  clear hbl;go_wp2_with fail
  refine Hf.out.mono ?_;rintro e W6 ⟨rfl,f6⟩;have F6:=hI (F5.out.trans f6 zs);have Bh6:=hI (Bh5.out.fr f6 zs);have Bo6:=hI (Bo5.out.fr f6 zs);have Pb6:=hI (Pb5.out.fr f6 zs);have M6:=hI (M5.out.fr f6 zs zs zs);have D6:=hI (qA D5.out f6 zs);clear xbh xbo xbof xp0 xp1 xc0 xc1 xc2 xc3 xc4 xsp xsh xso xsg f6;have xbh:W6.cell? ⟨w.heap.size,0,none⟩=some (ptr g):=Bh6.out.cell 0;have xbo:W6.cell? ⟨w.heap.size+1,0,none⟩=some (.slice none 0 0):=Bo6.out.cell 0;have xbof:=Bo6.out.frozen 0;have xp0:W6.cell? ⟨w1.heap.size,0,none⟩=some (.int .i64 a):=Pb6.out.cell 0;have xp1:W6.cell? ⟨w1.heap.size,1,none⟩=some (.slice A1 d.length c1):=Pb6.out.cell 1;obtain⟨xc0,xc1,xc2,xc3,xc4⟩:=M6.out.cells;have xsp:=Pb6.out.lt;have xsh:=Bh6.out.lt;have xso:=Bo6.out.lt;have xsg:=M6.out.blk.lt;obtain⟨KA,KC,rfl,_,_⟩:=M6.out.kp.form;have h9:(L.length:Int)<h.most:=by have:=H8.out;rw [M6.out.len] at this;exact this
  go_wp2_with fail
  have y0:=Grew.cell xbh;have y1:=Grew.cell xc1;have y2:=Grew.cell xp0;have y3:=Grew.cell xp1;have y4:=Grew.cell xc0;have y5:=Grew.cell xc2;refine qg zk zk ?_;repeat (go_big_quiet_step (fail))
  refine wpQuiet_nil ?_;intro W7 f7;have F7:=hI (F6.out.trans f7 zs);have Bh7:=hI (Bh6.out.fr f7 zs);have Bo7:=hI (Bo6.out.fr f7 zs);have Pb7:=hI (Pb6.out.fr f7 zs);have M7:=hI (M6.out.fr f7 zs zs zs);have D7:=hI (qA D6.out f7 zs);clear y0 y1 y2 y3 y4 y5 xbh xbo xbof xp0 xp1 xc0 xc1 xc2 xc3 xc4 xsp xsh xso xsg f7;have xbh:W7.cell? ⟨w.heap.size,0,none⟩=some (ptr g):=Bh7.out.cell 0;have xbo:W7.cell? ⟨w.heap.size+1,0,none⟩=some (.slice none 0 0):=Bo7.out.cell 0;have xbof:=Bo7.out.frozen 0;have xp0:W7.cell? ⟨w1.heap.size,0,none⟩=some (.int .i64 a):=Pb7.out.cell 0;have xp1:W7.cell? ⟨w1.heap.size,1,none⟩=some (.slice A1 d.length c1):=Pb7.out.cell 1;obtain⟨xc0,xc1,xc2,xc3,xc4⟩:=M7.out.cells;have xsp:=Pb7.out.lt;have xsh:=Bh7.out.lt;have xso:=Bo7.out.lt;have xsg:=M7.out.blk.lt;go_wp2_with fail
  obtain⟨i0,hi,hz0,hz1,hz2⟩:=info_parts qeo;have hf7:Fr [] W7 (W7.drew.alloc (bxp a (.slice A1 d.length c1))):=(Fr.refl [] W7).drew.alloc _;have hsrc:Sl (fun _=>True) (W7.drew.alloc (bxp a (.slice A1 d.length c1))) 2 (.slice (some ⟨W7.heap.size,0,none⟩) 1 1) 1 [.int .i64 a, .slice A1 d.length c1]:=Sl.kW (World.ownsRow_lit (base:=0) (e:=134) (size:=2) W7.drew #[.int .i64 a, .slice A1 d.length c1] 1 (Nat.zero_le _) (by unfold maxLen;omega) rfl) (fun _ _=>trivial);have Hown:=hI (qA M7.out.kp.own hf7 zs);have Hsrc:=hI hsrc;have Hap:=hI (qkm M7.out Bh7.out Bo7.out D7.out);have hlm:L.length+1<=maxLen:=by have:=Hlen.out;have:=M7.out.len;unfold maxLen;omega
  have hlb:(L.length+1) * 32<=140737488355328:=by have:=Hlen.out;have:=M7.out.len;omega
  have Hlm:=hI hlm;have Hlb:=hI hlb;have Hf7:=hI hf7;have one2:∀ u∈([.int .i64 a, .slice A1 d.length c1]:List Value),u.oneCell'=true:=by intro u hu;simp at hu;rcases hu with rfl|rfl <;> rfl
  clear hsrc hf7 hlm hlb;refine cut_fr ?F (AppRel W7 g ev KA KC L.length h (pcs L++[.int .i64 a, .slice A1 d.length c1]) (w.heap.size+1) A1 c1 d) ?first ?rest;case first=>
   intro K hK
   go_region_law ((refine zn _ zr (.tmp 83) (.tmp 85) 112 zr 134 i0 (.agg #[.int .i64 0, .slice none 0 0]) 2 32 Tryz.underlying112 hi hz0 hz1 hz2 zr zd (.slice KA L.length KC) L.length (pcs L) zr Hown.out (fun _=>True) (.slice (some ⟨W7.heap.size,0,none⟩) 1 1) 1 [.int .i64 a, .slice A1 d.length c1] zr Hsrc.out one2 Hlm.out Hlb.out (L.length+1) zr ?_;intro KA' KC' W8 h10 h11 h12;have H10:=hI h10;have H11:=hI h11;have H12:=hI h12;obtain⟨q1,q2,q3,q4,hx⟩:=Hap.out _ _ Hf7.out h11;have HX:=hI hx;clear h10 h11 h12 hx))
   all_goals (refine hK _ _ _ ⟨_,rfl,H10.out,HX.out.1,HX.out.2.1,HX.out.2.2.1,HX.out.2.2.2.1,fun b hb=>(H12.out b hb).imp id (fun hh=>⟨by have:=hh.1;simp at this;omega,hh.2⟩)⟩)
  case rest=>
   rintro KA' KC' _ ⟨W8,rfl,k1,k2,k3,k4,k5,k6⟩;have e1:=kP k3 k2 zd;have fs:=(Fr.refl [g] W8).setCell (p:=⟨g,2,none⟩) (.inl zs) (.slice KA' (L.length+1) KC');have hb9:Blk (W8.setCell ⟨g,2,none⟩ (.slice KA' (L.length+1) KC')) g 115 #[.int .i64 h.most, .int .i64 h.next, .slice KA' (L.length+1) KC',ev, .bool true]:=by simpa using k2.qO 2 (.slice KA' (L.length+1) KC')
   have bo9:=k3.fr fs (by simpa using e1);have k9:=qA k1 fs (fun b hb'=>by simp;rintro rfl;exact own_ne k1 k2 zd hb');have d9:=qA k4 fs (fun b hb'=>by simp;rintro rfl;exact own_ne k4 k2 zd hb');have F9:Fr (g::ob (.slice KA L.length KC)) w (W8.setCell ⟨g,2,none⟩ (.slice KA' (L.length+1) KC')):=((F7.out.mono zs).trans (k5.mono (fun x hx=>List.mem_cons_of_mem g hx)) (fun x hx => .inl hx)).trans fs (by intro x hx;simp at hx;subst hx;exact .inl zs);have xbo9:=bo9.cell 0;have xbof9:=bo9.frozen 0;have xso9:=bo9.lt;have s8:w.heap.size<=W7.heap.size:=F7.out.size;have k6':∀ b,(Value.slice KA' (L.length+1) KC').ownBlock=some b->(Value.slice KA L.length KC).ownBlock=some b\/w.heap.size<=b:=fun b hb'=>(k6 b hb').imp id (fun hh=>by omega);generalize W8.setCell ⟨g,2,none⟩ (.slice KA' (L.length+1) KC')=W9 at *
   have Hb9:=hI hb9;have Bo9:=hI bo9;have K9:=hI k9;have D9:=hI d9;have HF9:=hI F9;have K6:=hI k6';clear k1 k2 k3 k4 k5 k6 k6' hb9 bo9 k9 d9 F9 fs s8;go_wp2_with fail
   have ft:=(Fr.refl [w.heap.size+1] W9).setCell (p:=⟨w.heap.size+1,0,none⟩) (.inl zs) (.slice none 0 0);have hB:=Bo9.out.qO 0 (.slice none 0 0);have hres:World.cell? (W9.setCell ⟨w.heap.size+1,0,none⟩ (.slice none 0 0)) ⟨w.heap.size+1,0,none⟩=some (.slice none 0 0):=(hB.cell 0).trans zs;have hbf:=Hb9.out.fr ft (by simpa using e1.symm);have kf:=qA K9.out ft (fun b hb'=>by simp;rintro rfl;exact own_ne K9.out Bo9.out zd hb');have df:=qA D9.out ft (fun b hb'=>by simp;rintro rfl;exact own_ne D9.out Bo9.out zd hb');have Ff:=HF9.out.trans ft (by intro x hx;simp at hx;subst hx;exact .inr zw);clear hB ft;generalize W9.setCell ⟨w.heap.size+1,0,none⟩ (.slice none 0 0)=Wf at *
   refine bodyPost_ret (v := .tuple #[.slice none 0 0, .int .i64 0]) (by simp [results,Tryz.results117,go_sem,hres]) rfl ?_;exact qmm M0.out kf df hbf Ff (fun b hb'=>by have:=HB1.out b hb';simp at this;omega) K6.out
end Go.Proofs.YtmgdbbbdhkfdmaaGreat
namespace Go.Proofs.YtmgdbbbdhkfdmaaGreat
set_option maxRecDepth 100000
open Go.RowKit
structure DJ(S:Nat->Prop)(w:World)(g hx hb ob' l D:Nat)(m:Int)(kv0 ev:Value)(rec:Loop)(n:Int)(kv:Value)(L:List (Pc × Value))(out:List Int)(W:World):Prop where
 fr:Fr [g] w W
 seen:Seen S g hb m n kv ev L W
 hbx:Blk W hx 72 #[ptr g]
 hbb:Blk W hb 72 #[ptr g]
 orow:∃ oA oc,Blk W ob' 30 #[.slice oA out.length oc]/\W.ownsRow 0 5 1 (.slice oA out.length oc) out.length (kE out)/\(∀ b,(Value.slice oA out.length oc).ownBlock=some b->w.heap.size<=b/\¬ S b)
 offk:∀ b,kv.ownBlock=some b->¬ S b/\(kv0.ownBlock=some b\/w.heap.size<=b)
 olen:out.length<=64 * (65 - L.length)
 rcd:W.heap[l]?=some (.loop rec)
 dfr:W.heap[D]?=some (.deferred (some []))
 old:w.heap.size<=ob'/\w.heap.size<=l/\D≠l
 off:¬ S l/\¬ S ob'
section
variable {S:Nat->Prop} {w W W':World} {g hx hb ob' l D:Nat} {m n:Int} {kv0 kv ev:Value} {rec rec':Loop} {L:List (Pc × Value)} {out:List Int} {O:List Nat}
theorem yZ{o:Obj}{k:Nat}(h:W.heap[k]?=some o)(f:Fr O W W')(hk:k∉O):W'.heap[k]?=some o:=(f.block k (Array.getElem?_eq_some_iff.1 h).1 hk).trans h
theorem vk{t:TypeId}{cs:Array Value}{k:Nat}(h:W.heap[k]?=some (.loop rec))(b:Blk W g t cs):g≠k:=by
 rintro rfl;unfold Blk at b;rw [h] at b;cases b
theorem yR{t:TypeId}{cs:Array Value}{k:Nat}{x:Option (List Deferred)}(h:W.heap[k]?=some (.deferred x))(b:Blk W g t cs):g≠k:=by
 rintro rfl;unfold Blk at b;rw [h] at b;cases b
theorem qcl{e:TypeId}{size k n:Nat}{v:Value}{xs:List Value}{b:Nat}(h:W.heap[k]?=some (.loop rec))(o:W.ownsRow 0 e size v n xs)(hb:v.ownBlock=some b):b≠k:=by
 rcases o.2 with ⟨rfl,_⟩|⟨g,cap,cur,rfl,_,hg,_⟩
 ·simp [Value.ownBlock] at hb
 ·have:g=b:=by simpa [Value.ownBlock] using hb
  subst this;exact vk (g:=g) (t:=e) (cs:=cur) h hg
theorem qeu{e:TypeId}{size k n:Nat}{v:Value}{xs:List Value}{b:Nat}{x:Option (List Deferred)}(h:W.heap[k]?=some (.deferred x))(o:W.ownsRow 0 e size v n xs)(hb:v.ownBlock=some b):b≠k:=by
 rcases o.2 with ⟨rfl,_⟩|⟨g,cap,cur,rfl,_,hg,_⟩
 ·simp [Value.ownBlock] at hb
 ·have:g=b:=by simpa [Value.ownBlock] using hb
  subst this;exact yR (g:=g) (t:=e) (cs:=cur) h hg
theorem qhk(W:World)(l:Nat)(o:Obj):Fr [l] W (W.putObj l o):=
 ⟨rfl,rfl,rfl,zs,fun i hi hn=>World.putObj_heap_other (by simpa using hn)⟩
theorem Seen.fr(h:Seen S g hb m n kv ev L W)(b:Blk W hb 72 #[ptr g])(f:Fr O W W')(hg:g∉O)(hh:hb∉O)(hS:∀ x∈O,¬ S x)(hk:∀ b,kv.ownBlock=some b->b∉O):Seen S g hb m n kv ev L W':=
 ⟨h.blk.fr f hg,h.kp.fr f hS hk,(b.fr f hh).cell 0,fun b hb=>Nat.lt_of_lt_of_le (h.pub b hb) f.size,h.offg,h.pc,h.n0,h.n1,h.len⟩
theorem DJ.fr0(j:DJ S w g hx hb ob' l D m kv0 ev rec n kv L out W)(f:Fr [] W W'):DJ S w g hx hb ob' l D m kv0 ev rec n kv L out W':=by
 obtain⟨oA,oc,o1,o2,o3⟩:=j.orow;exact⟨j.fr.trans f zs,j.seen.fr j.hbb f zs zs zs zs,j.hbx.fr f zs,j.hbb.fr f zs,⟨oA,oc,o1.fr f zs,qA o2 f zs,o3⟩,j.offk,j.olen,yZ j.rcd f zs,yZ j.dfr f zs,j.old,j.off⟩
theorem DJ.put(j:DJ S w g hx hb ob' l D m kv0 ev rec n kv L out W)(rec':Loop):DJ S w g hx hb ob' l D m kv0 ev rec' n kv L out (W.putObj l (.loop rec')):=by
 obtain⟨oA,oc,o1,o2,o3⟩:=j.orow;have f:=qhk W l (.loop rec');have hlt:l<W.heap.size:=(Array.getElem?_eq_some_iff.1 j.rcd).1;have hl:w.heap.size<=l:=j.old.2.1;refine⟨j.fr.trans f (by intro x hx;simp at hx;subst hx;exact .inr hl),j.seen.fr j.hbb f ?_ ?_ ?_ ?_,j.hbx.fr f ?_,j.hbb.fr f ?_,⟨oA,oc,o1.fr f ?_,qA o2 f ?_,o3⟩,j.offk,j.olen,World.putObj_heap_same hlt,yZ j.dfr f (by simpa using j.old.2.2),j.old,j.off⟩
 ·simpa using vk j.rcd j.seen.blk
 ·simpa using vk j.rcd j.hbb
 ·intro x hx hs
  simp at hx;subst hx;exact j.off.1 hs
 ·intro b hb'
  simpa using qcl j.rcd j.seen.kp.own hb'
 ·simpa using vk j.rcd j.hbx
 ·simpa using vk j.rcd j.hbb
 ·simpa using vk j.rcd o1
 ·intro b hb'
  simpa using qcl j.rcd o2 hb'
theorem qmt{oA:Option Addr}{oc:Nat}(rec:Loop)(hfr:Fr [g] w W)(seen:Seen S g hb m n kv ev L W)(hbx:Blk W hx 72 #[ptr g])(hbb:Blk W hb 72 #[ptr g])
  (o1:Blk W ob' 30 #[.slice oA out.length oc]) (o2:W.ownsRow 0 5 1 (.slice oA out.length oc) out.length (kE out)) (o3:∀ b,(Value.slice oA out.length oc).ownBlock=some b->w.heap.size<=b/\¬ S b)
  (offk:∀ b,kv.ownBlock=some b->¬ S b/\(kv0.ownBlock=some b\/w.heap.size<=b)) (olen:out.length<=64 * (65 - L.length)) (old:w.heap.size<=ob') (off:¬ S ob') :
  DJ S w g hx hb ob' (W.heap.size+1) W.heap.size m kv0 ev rec n kv L out ((W.alloc (.deferred (some []))).alloc (.loop rec)):=by
 have f:Fr [] W ((W.alloc (.deferred (some []))).alloc (.loop rec)):=((Fr.refl _ _).alloc _).alloc _;have hz:=hfr.size;refine⟨hfr.trans f zs,seen.fr hbb f zs zs zs zs,hbx.fr f zs,hbb.fr f zs,⟨oA,oc,o1.fr f zs,qA o2 f zs,o3⟩,offk,olen,?_,?_,⟨old,zw,zw⟩,⟨fun hs=>?_,off⟩⟩
 ·have:=World.alloc_heap_new (W.alloc (.deferred (some []))) (.loop rec)
  rwa [World.size_alloc] at this
 ·exact (Below.heap_alloc _ _ _ zs).trans (World.alloc_heap_new W _)
 ·have:=seen.pub _ hs
  omega
theorem qhl{S S':Nat->Prop}{w W6 W7:World}{g:Nat}{kv ev:Value}{h:Hp}{L:List (Pc × Value)}{l:List Int}{A3:Option Addr}{c3:Nat}{n1:Int}(rec:Loop)(m:HPx S w g kv ev h L)(hI:Inv h)(hS1:∀ b,S b->S' b)(hS2:∀ b,S' b->S b\/w.heap.size+2<=b)
  (f06:Fr [] w W6) (m6:HPx S W6 g kv ev h L) (pub6:∀ b,S' b->b<W6.heap.size) (hbx6:Blk W6 w.heap.size 72 #[ptr g]) (bo6:Blk W6 (w.heap.size+1) 30 #[.slice none 0 0])
  (f7:Fr [g] W6 W7) (blk7:Blk W7 g 115 (hpa h.most n1 kv ev)) (own7:W7.ownsRow 0 5 1 (.slice A3 l.length c3) l.length (kE l)) (fr7:∀ b,(Value.slice A3 l.length c3).ownBlock=some b->W6.heap.size<=b/\b<W7.heap.size)
  (h0:0<=n1) (h1:n1<=4611686018427387968) (hl:l.length<=64) :
  DJ S' w g w.heap.size W7.heap.size (w.heap.size+1) (((W7.setCell ⟨w.heap.size+1,0,none⟩ (.slice A3 l.length c3)).alloc (.cells #[ptr g] 72)).heap.size+1) ((W7.setCell ⟨w.heap.size+1,0,none⟩ (.slice A3 l.length c3)).alloc (.cells #[ptr g] 72)).heap.size h.most kv ev rec n1 kv L l
   ((((W7.setCell ⟨w.heap.size+1,0,none⟩ (.slice A3 l.length c3)).alloc (.cells #[ptr g] 72)).alloc (.deferred (some []))).alloc (.loop rec)):=by
 have hg:=m.blk.lt;have z6:=f06.size;have z7:=f7.size;have hS':¬ S' (w.heap.size+1):=fun hs=>by
  rcases hS2 _ hs with h2|h2
  ·have:=m.pub _ h2;omega
  ·omega
 have hSg:¬ S' g:=fun hs=>by
  rcases hS2 _ hs with h2|h2
  ·exact m.offg h2
  ·omega
 have e1:=kP bo6 m6.blk zd;have e2:=kP hbx6 m6.blk zd;have bo7:=bo6.fr f7 (by simpa using e1);have bh7:=hbx6.fr f7 (by simpa using e2);have hO7:∀ x∈[g],¬ S' x:=by intro x hx;simp at hx;subst hx;exact hSg
 have kp7:=(m6.kp.mono hS1).fr f7 hO7 (fun b hb=>by simp;rintro rfl;exact own_ne m6.kp.own m6.blk zd hb);have fs:=(Fr.refl [w.heap.size+1] W7).setCell (p:=⟨w.heap.size+1,0,none⟩) (.inl zs) (.slice A3 l.length c3);have hsz8:(W7.setCell ⟨w.heap.size+1,0,none⟩ (.slice A3 l.length c3)).heap.size=W7.heap.size:=by simp [World.setCell]
 have bo8:Blk (W7.setCell ⟨w.heap.size+1,0,none⟩ (.slice A3 l.length c3)) (w.heap.size+1) 30 #[.slice A3 l.length c3]:=by simpa using bo7.qO 0 (.slice A3 l.length c3)
 have bg8:=blk7.fr fs (by simpa using kP blk7 bo7 zd);have bh8:=bh7.fr fs zs;have own8:=qA own7 fs (fun b hb=>by simp;rintro rfl;exact own_ne own7 bo7 zd hb);have f8:Fr [g] w (W7.setCell ⟨w.heap.size+1,0,none⟩ (.slice A3 l.length c3)):=((f06.mono (by simp:∀ x∈([]:List Nat),x∈[g])).trans f7 (fun x hx => .inl hx)).trans fs (by intro x hx;simp at hx;subst hx;exact .inr zw);have kp8:=kp7.fr fs (by intro x hx;simp at hx;subst hx;exact hS') (fun b hb=>by simp;rintro rfl;exact own_ne kp7.own bo7 zd hb);have bb9:=Blk.new (W7.setCell ⟨w.heap.size+1,0,none⟩ (.slice A3 l.length c3)) 72 #[ptr g];rw [hsz8] at bb9;have fa:=(Fr.refl [] (W7.setCell ⟨w.heap.size+1,0,none⟩ (.slice A3 l.length c3))).alloc (.cells #[ptr g] 72);have hLl:L.length<=64:=by have h2:=hI.len;have h3:=hI.m1;rw [m.len] at h2;omega
 refine qmt rec (f8.trans fa zs) ⟨bg8.fr fa zs,kp8.fr fa zs zs,bb9.cell 0,fun b hb=>?_,hSg,fun x hx=>hI.pc x.1 (by rw [m.kept];exact List.mem_map.2 ⟨x,hx,rfl⟩),h0,h1,hLl⟩ (bh8.fr fa zs) bb9 (bo8.fr fa zs) (qA own8 fa zs) (fun b hb=>?_) (fun b hb=>⟨fun hs=>?_, .inl hb⟩) zw (Nat.le_succ _) hS'
 ·have h2:=pub6 b hb
  have h3:=fa.size;rw [hsz8] at h3;omega
 ·have h2:=fr7 b hb
  refine⟨zw,fun hs=>?_⟩;have h3:=pub6 b hs;omega
 ·have h2:=kG m.kp.own hb
  rcases hS2 b hs with h3|h3
  ·exact m.offk b hb h3
  ·omega
theorem DJ.iter{W3:World}{kv3:Value}{i:Nat}(j:DJ S w g hx hb ob' l D m kv0 ev rec n kv L out W)(f:Fr [] W W3)(k3:Kp 134 S W3 kv3 (L.eraseIdx i))(hn:∀ b,kv3.ownBlock=some b->W.heap.size<=b) :
  DJ S w g hx hb ob' l D m kv0 ev rec n kv3 (L.eraseIdx i) out (W3.setCell ⟨g,2,none⟩ kv3):=by
 have j3:=j.fr0 f;have f2:=(Fr.refl [g] W3).setCell (p:=⟨g,2,none⟩) (.inl zs) kv3;obtain⟨oA,oc,o1,o2,o3⟩:=j3.orow;have hs:∀ x∈[g],¬ S x:=by intro x hx;simp at hx;subst hx;exact j.seen.offg
 have hW:=j.fr.size;have hbk:Blk (W3.setCell ⟨g,2,none⟩ kv3) g 115 (hpa m n kv3 ev):=by simpa using j3.seen.blk.qO 2 kv3
 have e1:∀ b,kv3.ownBlock=some b->b∉[g]:=fun b hb'=>by
  simp;rintro rfl;exact own_ne k3.own j3.seen.blk zd hb'
 refine⟨j3.fr.trans f2 zs,⟨hbk,k3.fr f2 hs e1,(j3.hbb.fr f2 ?_).cell 0,fun b hb'=>Nat.lt_of_lt_of_le (j3.seen.pub b hb') f2.size,j.seen.offg,fun x hx=>j.seen.pc x (List.mem_of_mem_eraseIdx hx),j.seen.n0,j.seen.n1,Nat.le_trans (List.length_eraseIdx_le _ _) j.seen.len⟩,
  j3.hbx.fr f2 ?_,j3.hbb.fr f2 ?_,⟨oA,oc,o1.fr f2 ?_,qA o2 f2 ?_,o3⟩,?_,?_,yZ j3.rcd f2 ?_,yZ j3.dfr f2 ?_,j.old,j.off⟩
 ·simpa using kP j3.hbb j3.seen.blk zd
 ·simpa using kP j3.hbx j3.seen.blk zd
 ·simpa using kP j3.hbb j3.seen.blk zd
 ·simpa using kP o1 j3.seen.blk zd
 ·intro b hb'
  simp;rintro rfl;exact own_ne o2 j3.seen.blk zd hb'
 ·intro b hb'
  have h1:=hn b hb';refine⟨fun h2=>?_, .inr zw⟩;have:=j.seen.pub b h2;omega
 ·have h1:=j.olen
  have h2:=List.length_eraseIdx_le L i;have h3:64 * (65 - L.length)<=64 * (65 - (L.eraseIdx i).length):=Nat.mul_le_mul_left _ zw;omega
 ·simpa using fun e=>vk j3.rcd j3.seen.blk e.symm
 ·simpa using fun e=>yR j3.dfr j3.seen.blk e.symm
theorem DJ.took{W3:World}{n':Int}{out':List Int}{A:Option Addr}{c:Nat}(j:DJ S w g hx hb ob' l D m kv0 ev rec n kv L out W)(oA:Option Addr)(oc:Nat)(o1:Blk W ob' 30 #[.slice oA out.length oc])(o2:W.ownsRow 0 5 1 (.slice oA out.length oc) out.length (kE out))
  (o3:∀ b,(Value.slice oA out.length oc).ownBlock=some b->w.heap.size<=b/\¬ S b)
  (f:Fr (g::ob (.slice oA out.length oc)) W W3) (hbk:Blk W3 g 115 (hpa m n' kv ev)) (hown:W3.ownsRow 0 5 1 (.slice A out'.length c) out'.length (kE out'))
  (hnew:∀ b,(Value.slice A out'.length c).ownBlock=some b->(Value.slice oA out.length oc).ownBlock=some b\/(W.heap.size<=b/\b<W3.heap.size)) (h0:0<=n') (h1:n'<=4611686018427387968) (hol:out'.length<=64 * (65 - L.length)) :
  DJ S w g hx hb ob' l D m kv0 ev rec n' kv L out' (W3.setCell ⟨ob',0,none⟩ (.slice A out'.length c)):=by
 have hW:=j.fr.size;have a1:∀ x∈g::ob (.slice oA out.length oc),¬ S x:=by
  intro x hx;rcases List.mem_cons.1 hx with rfl|hx
  ·exact j.seen.offg
  ·exact (o3 x (qo.1 hx)).2
 have a2:∀ {t:TypeId} {cs:Array Value} {k:Nat},Blk W k t cs->t≠115->t≠5->k∉g::ob (.slice oA out.length oc):=by
  intro t cs k hk h2 h3 hm;rcases List.mem_cons.1 hm with rfl|hx
  ·exact kP hk j.seen.blk h2 rfl
  ·exact own_ne o2 hk (Ne.symm h3) (qo.1 hx)
 have f1:Fr [g] w W3:=j.fr.trans f (by
  intro x hx;rcases List.mem_cons.1 hx with rfl|hx
  ·exact .inl zs
  ·exact .inr (o3 x (qo.1 hx)).1)
 have b1:=o1.fr f (a2 o1 zd zd);have b2:=j.hbx.fr f (a2 j.hbx zd zd);have b3:=j.hbb.fr f (a2 j.hbb zd zd);have r1:=yZ j.rcd f (by
  intro hm;rcases List.mem_cons.1 hm with rfl|hx
  ·exact vk j.rcd j.seen.blk rfl
  ·exact qcl j.rcd o2 (qo.1 hx) rfl)
 have r2:=yZ j.dfr f (by
  intro hm;rcases List.mem_cons.1 hm with rfl|hx
  ·exact yR j.dfr j.seen.blk rfl
  ·exact qeu j.dfr o2 (qo.1 hx) rfl)
 have kp3:=j.seen.kp.fr f a1 (by
  intro b hb' hm;rcases List.mem_cons.1 hm with rfl|hx
  ·exact own_ne j.seen.kp.own j.seen.blk zd hb'
  ·exact jR j.seen.kp.own o2 zd hb' (qo.1 hx))
 have f2:=(Fr.refl [ob'] W3).setCell (p:=⟨ob',0,none⟩) (.inl zs) (.slice A out'.length c);have hS2:∀ x∈[ob'],¬ S x:=by intro x hx;simp at hx;subst hx;exact j.off.2
 have nk:∀ b,kv.ownBlock=some b->b∉[ob']:=fun b hb'=>by
  simp;rintro rfl;exact own_ne kp3.own b1 zd hb'
 refine⟨f1.trans f2 (by intro x hx;simp at hx;subst hx;exact .inr j.old.1),⟨hbk.fr f2 ?_,kp3.fr f2 hS2 nk,(b3.fr f2 ?_).cell 0,fun b hb'=>Nat.lt_of_lt_of_le (j.seen.pub b hb') (Nat.le_trans f.size f2.size),j.seen.offg,j.seen.pc,h0,h1,j.seen.len⟩,
  b2.fr f2 ?_,b3.fr f2 ?_,⟨A,c,?_,qA hown f2 ?_,?_⟩,j.offk,hol,yZ r1 f2 ?_,yZ r2 f2 ?_,j.old,j.off⟩
 ·simpa using kP hbk b1 zd
 ·simpa using kP b3 b1 zd
 ·simpa using kP b2 b1 zd
 ·simpa using kP b3 b1 zd
 ·simpa using b1.qO 0 (.slice A out'.length c)
 ·intro b hb'
  simp;rintro rfl;exact own_ne hown b1 zd hb'
 ·intro b hb'
  rcases hnew b hb' with h2|⟨h2,_⟩
  ·exact o3 b h2
  ·refine⟨zw,fun hs=>?_⟩
   have:=j.seen.pub b hs;omega
 ·simpa using fun e=>vk r1 b1 e.symm
 ·simpa using fun e=>yR r2 b1 e.symm
end
end Go.Proofs.YtmgdbbbdhkfdmaaGreat
namespace Go.Proofs.YtmgdbbbdhkfdmaaGreat
set_option maxRecDepth 100000
open Go.RowKit Go.Shelf
def endM(P:Program)(fn:Func)(R:Ending->World->Prop):Exit->Act->World->Prop:=bodyPostM Fence.wide 5 P fn R
theorem qcm{P:Program}{f:FuncId}{fn:Func}{c:Code}{args:Array Value}{w:World}{R:Ending->World->Prop}(hf:P.funcs[f]?=some fn)(hb:fn.body=some c)
  (h:c.wp P (endM P fn R) { tmps:=args++Array.replicate (fn.ntmps - args.size) undef,defers:=[] } w):Calls P f args w R:=
 callsIn_wide.1 (callsIn_of_wp_marks hf hb trivial (wpIn_wide.2 h) rfl)
theorem qmu{P:Program}{fn:Func}{R:Ending->World->Prop}{a:Act}{w:World}{D:Nat}{v:Value}(hd:a.defers=[{ target := .collected D,args:=#[] }])(hK:w.heap[D]?=some (.deferred (some [])))
  (hr:(results fn a.tmps).run P (w.putObj D (.deferred none)) = .ok v (w.putObj D (.deferred none))) (hR:R (.returned v) (w.putObj D (.deferred none))):endM P fn R .ret a w:=by
 unfold endM bodyPostM;dsimp only;rw [hd];refine⟨zs, .inl ⟨_,_,rfl,run_takeDeferred hK,?_⟩⟩;exact⟨_,hr,hR⟩
def rndPost(R:World->Prop):Exit->Act->World->Prop
 | .normal,_,w=>R w
 | _,_,_=>False
theorem qdg{P:Program}{σ:Type}{g:Operand}{ps:Array Tmp}{assign body:Code}{Q:Exit->Act->World->Prop}{a:Act}{w:World}(gf:Nat)(lb:Array Value)
  (hg:a.eval g = .func (.func gf) #[] lb) (eg:∀ args w,(callFunc gf args).run P w = .ok (.enter gf args) w) (hps:ps.size=1)
  (J:Loop->σ->World->Prop) (s0:σ) (Rnd:σ->σ->Value->World->Prop) (Fin:σ->Prop)
  (hput:∀ r r' s W,J r s W->J r' s (W.putObj (w.heap.size+1) (.loop r')))
  (hrcd:∀ r s W,J r s W->W.heap[w.heap.size+1]?=some (.loop r)/\W.heap[w.heap.size]?=some (.deferred (some [])))
  (hstart:∀ r,J r s0 ((w.alloc (.deferred (some []))).alloc (.loop r)))
  (hround:∀ s s' v W r r',J r s W->Rnd s s' v W->assign.wpIn (Fence.wide.inRound (w.heap.size+1)) 3 P (Exit.then (fun a₁ w₁=>J r s w₁/\body.wpIn (Fence.wide.inRound (w.heap.size+1)) 3 P (rndPost (J r' s')) a₁ (w₁.putObj (w.heap.size+1) (.loop r'))) (fun _ _ _=>False))
   { tmps:=(ps.zip #[v]).foldl (fun t (p,x)=>t.setIfInBounds p x) a.tmps,defers:=[] } W)
  (hseq:∀ r,(∀ s s' v W,J r s W->Rnd s s' v W->YieldAt Fence.wide 3 P (w.heap.size+1) #[v] W fun e W'=>e = .returned (.bool true)/\J r s' W') ->
   ∀ W1,J r s0 W1->Calls P gf (#[.func (.yield (w.heap.size+1)) #[] #[]]++lb) W1 fun e W'=>(∃ v,e = .returned v)/\∃ s,Fin s/\J r s W')
  (hdone:∀ r s W,Fin s->J r s W->Q .normal { a with defers:={ target := .collected w.heap.size,args:=#[] }::a.defers } W) :
  (Code.rangeFunc g ps assign body).wp P Q a w:=by
 refine (wpIn_wide (n:=5)).1 ?_;refine wpIn_rangeFunc ?_;intro fn hfn;obtain⟨rec,hrec⟩:∃ rec:LoopState->Option Code->Loop,rec=fun st pe=>{ state:=st,pending:=pe,fn,tmps:=a.tmps,params:=ps,assign,body,defers:=w.heap.size }:=⟨_,rfl⟩;obtain⟨W1,hW1⟩:∃ W1,(w.alloc (.deferred (some []))).alloc (.loop (rec .ready none))=W1:=⟨_,rfl⟩;refine⟨w.heap.size+1,[{ target := .collected w.heap.size,args:=#[] }],W1,{ target := .fn (.func gf) lb,args:=#[.func (.yield (w.heap.size+1)) #[] #[]] },W1,gf,
  #[.func (.yield (w.heap.size+1)) #[] #[]]++lb,W1,?_,?_,?_,?_,fun h=>by simp [Fence.wide] at h,?_⟩
 ·rw [<- hW1,hrec];exact run_enterLoop_outer _ _ _ _ _
 ·simp only [resolve,hg]
  simp [go_sem]
 ·intro f' hf';trivial
 ·simp [invoke,go_sem,eg]
 ·refine callsIn_wide.2 ((hseq (rec .ready none) ?_ W1 (by rw [<- hW1];exact hstart _)).mono ?_)
  ·intro s s' v W hj hp
   obtain⟨hl,_⟩:=hrcd _ _ _ hj;have hy:=run_yield (P:=P) (args:=#[v]) hl (by rw [hrec];simpa using hps.symm);rw [hrec] at hy;refine⟨fn,_,assign,body,hy,roundIn_of_wpIn hfn (wpIn_mono (hround s s' v W (rec .ready none) { rec .ready none with state := .busy } hj hp) ?_)⟩;rintro e a1 w1 hp1;cases e with
   | normal=>
    obtain⟨hj1,hb⟩:=hp1;obtain⟨hl1,_⟩:=hrcd _ _ _ hj1;refine⟨_,run_beginRound hl1 (by rw [hrec]),wpIn_mono hb ?_⟩;rintro e2 a2 w2 hp2;cases e2 with
    | normal=>
     have hj2:J _ s' w2:=hp2;obtain⟨hl2,_⟩:=hrcd _ _ _ hj2;refine⟨_,_,run_endRound none hl2,rfl,?_⟩;have:=hput _ (rec .ready none) _ _ hj2;rw [hrec] at this |-
     exact this
    | _=>exact hp2.elim
   | _=>exact hp1.elim
  ·rintro e W2 ⟨⟨v,rfl⟩,s,hf,hj⟩
   obtain⟨hl,_⟩:=hrcd _ _ _ hj;exact⟨none,_,by have:=run_endLoop (P:=P) hl (by rw [hrec];simp);rw [hrec] at this;exact this,hdone _ s _ hf (hput _ _ s _ hj)⟩
theorem qkn{S S':Nat->Prop}{w W Wz:World}{g hx hb ob' l D:Nat}{kv kv' ev:Value}{h:Hp}{L L':List (Pc × Value)}{n':Int}{r:Loop}{out':List Int}{oA:Option Addr}{oc:Nat}(m:HPx S w g kv ev h L)(hS1:∀ b,S b->S' b)(hS2:∀ b,S' b->S b\/w.heap.size<=b)
  (j:DJ S' w g hx hb ob' l D h.most kv ev r n' kv' L' out' W) (o1:Blk W ob' 30 #[.slice oA out'.length oc]) (o2:W.ownsRow 0 5 1 (.slice oA out'.length oc) out'.length (kE out')) (o3:∀ b,(Value.slice oA out'.length oc).ownBlock=some b->w.heap.size<=b/\¬ S' b)
  (f:Fr [ob',D] W Wz) (hD:w.heap.size<=D) (hSD:¬ S' D):jw S w g kv { h with next:=n',kept:=L'.map (·.1) } out' 0 (.returned (.tuple #[.slice oA out'.length oc, .int .i64 0])) Wz:=by
 have hO:∀ x∈[ob',D],¬ S' x:=by
  intro x hx;simp at hx;rcases hx with rfl|rfl
  ·exact j.off.2
  ·exact hSD
 have hg:g∉[ob',D]:=by
  simp;exact⟨fun e=>kP o1 j.seen.blk zd e.symm,fun e=>yR j.dfr j.seen.blk e⟩
 have hk:∀ b,kv'.ownBlock=some b->b∉[ob',D]:=fun b hb'=>by
  simp;refine⟨fun e=>own_ne j.seen.kp.own o1 zd (e▸hb'),fun e=>qeu j.dfr j.seen.kp.own hb' e⟩
 have ho:∀ b,(Value.slice oA out'.length oc).ownBlock=some b->b∉[ob',D]:=fun b hb'=>by
  simp;refine⟨fun e=>own_ne o2 o1 zd (e▸hb'),fun e=>qeu j.dfr o2 hb' e⟩
 have F:Fr [g] w Wz:=j.fr.trans f (by
  intro x hx;simp at hx;rcases hx with rfl|rfl
  ·exact .inr j.old.1
  ·exact .inr hD)
 have own':=qA o2 f ho;have hsz:=j.fr.size;refine⟨fun b=>S' b\/(Value.slice oA out'.length oc).ownBlock=some b,kv',oA,oc,rfl,⟨fun b h => .inl (hS1 b h),fun b h=>?_⟩,Sl.kW own' (fun b h => .inr h),⟨ev,L',j.seen.blk.fr f hg,(j.seen.kp.fr f hO hk).mono (fun b h => .inl h),rfl,?_,?_,?_,?_⟩,F.mono zs,fun b h=>(j.offk b h).2⟩
 ·rcases h with h|h
  ·exact hS2 b h
  ·exact .inr (o3 b h).1
 ·rcases m.fin with h1|⟨fa,fb,h1,h2,h3,h4⟩
  ·exact .inl h1
  ·exact .inr ⟨fa,fb,h1,h2, .inl (hS1 fb h3),(F.cell (p:=⟨fb,0,none⟩) (m.pub fb h3) (by simp;rintro rfl;exact m.offg h3)).trans h4⟩
 ·intro b h
  rcases h with h|h
  ·exact Nat.lt_of_lt_of_le (j.seen.pub b h) f.size
  ·exact kG own' h
 ·rintro (h|h)
  ·exact j.seen.offg h
  ·exact own_ne o2 j.seen.blk zd h
 ·rintro b hb' (h|h)
  ·exact (j.offk b hb').1 h
  ·exact jR j.seen.kp.own o2 zd hb' h
end Go.Proofs.YtmgdbbbdhkfdmaaGreat
