import Derived.Test.YtmgdbbbdhkfdmaaGreatYC7
import Derived.Deep.DeepCutAuto
import Derived.Deep.RegionLaw
import Derived.Test.YtmgdbbbdhkfdmaaGreatYC6
import Derived.Test.YtmgdbbbdhkfdmaaGreatYC4
import Derived.Test.YtmgdbbbdhkfdmaaGreatYC2
import Derived.Test.YtmgdbbbdhkfdmaaGreatYC5
import Derived.Test.YtmgdbbbdhkfdmaaGreatYC0
set_option linter.unusedSimpArgs false
set_option linter.unusedVariables false
set_option maxHeartbeats 40000000
namespace Go.Proofs.YtmgdbbbdhkfdmaaGreat
set_option maxRecDepth 100000
open Go.RowKit Go.Deep Go.Shelf
attribute [local go_sem] Oper.semAt_some
def TellRnd(S:Nat->Prop)(s s':Int × Value × List (Pc × Value) × List Int)(v:Value)(W:World):Prop:=
 ∃(p:Pc) (A:Option Addr) (c:Nat),v=agp p.at_ (.slice A p.d.length c)/\Byt S W (.slice A p.d.length c) p.d/\0<=p.at_/\p.at_<=s.1/\p.at_<=4611686018427387904/\p.d.length<=64/\s.2.2.2.length+64<=64 * (65 - s.2.2.1.length) /\
  s'=((qQ s.1 p).2,s.2.1,s.2.2.1,s.2.2.2++(qQ s.1 p).1)
def TellFin(k:Nat)(n:Int)(L:List Pc)(l:List Int)(s:Int × Value × List (Pc × Value) × List Int):Prop:=
 s.1=(qX k n L).1/\s.2.2.1.map (·.1)=(qX k n L).2.1/\s.2.2.2=l++(qX k n L).2.2
theorem qko(g:Nat)(w:World):Calls Tryz.prog 129 #[ptr g] w fun e w'=>e = .returned (.func (.func 140) #[] #[.pointer (some ⟨w.heap.size,0,none⟩)])/\w.alloc (.cells #[ptr g] 72)=w':=by
 go_enter Tryz.func129,Tryz.ntmps129;go_wp2
 go_ret;exact⟨rfl,rfl⟩
structure TellRel(S S':Nat->Prop)(w:World)(g hx ob' pb:Nat)(kv ev:Value)(h:Hp)(L:List (Pc × Value))(l:List Int)(wx:World):Prop where
 fr:Fr [] w wx
 hbx:Blk wx hx 72 #[ptr g]
 obx:Blk wx ob' 30 #[.slice none 0 0]
 hp:HPx S wx g kv ev h L
 pc:∃ A c,Blk wx pb 134 #[.int .i64 h.next, .slice A l.length c]/\Byt S' wx (.slice A l.length c) l
 pub:∀ b,S' b->b<wx.heap.size
set_option maxRecDepth 100000 in
theorem qmv{S:Nat->Prop}{w:World}{g:Nat}{kv:Value}{h:Hp}(m:HP S w g kv h)(a:Int)(dv:Value)(d:List Int)(T:Nat->Prop)(hd:Byt T w dv d)(hl:d.length<=1000000)(h0:0<=a)(h1:a<=4611686018427387904)(h2:1<=d.length)(h3:d.length<=64)(h4:past h.fin (a+d.length)=false)(h5:a<=h.next)(h6:h.next<a+d.length)(hi:Inv h) :
  Calls Tryz.prog 117 #[ptr g, .int .i64 a,dv] w (jw S w g kv { h with next:=(qX h.kept.length (a+d.length) h.kept).1,kept:=(qX h.kept.length (a+d.length) h.kept).2.1 } (d.drop (h.next - a).toNat++(qX h.kept.length (a+d.length) h.kept).2.2) 0):=by
 have M:=hI m;obtain⟨ev,L,m⟩:=m;obtain⟨A,c,rfl,hn,hcm⟩:=hd.form;have c4:=m.cells.2.2.2.2;have hg:=m.blk.lt;have hcl:∀ W,Fr [] w W->Calls Tryz.prog 40 #[.slice A d.length c] W _:=fun W f=>kZ W (hd.fr f zs) hl;have Hcl:=hI hcl;have f0:Fr [] w ((w.alloc (.cells #[ptr g] 72)).alloc (.cells #[.slice none 0 0] 30)):=((Fr.refl _ _).alloc _).alloc _;have bo:=Blk.new (w.alloc (.cells #[ptr g] 72)) 30 #[.slice none 0 0];have bh:=(Blk.new w 72 #[ptr g]).alloc (.cells #[.slice none 0 0] 30);have BO:=hI bo;have BH:=hI bh;have M0:=hI m;clear hcl m hd bo bh;have HP:=hI h4;have HI:=hI hi;clear h4 hi
 let tok:Exit->Act->World->Prop:=bodyPost Tryz.prog Tryz.f117 (fun _ _=>True)
 refine qcm Tryz.func117 rfl ?_;simp only [Tryz.ntmps117,List.size_toArray,List.length_cons,List.length_nil,Nat.reduceAdd,Nat.reduceSub,Array.replicate_succ,Array.replicate_zero,List.push_toArray,List.append_toArray,List.nil_append,List.cons_append];go_wp2_with fail
 refine qP 0 rfl ?_;go_wp2_with fail
 refine (Hcl.out _ f0).mono ?_;rintro e w1 ⟨A1,c1,rfl,own1,f1,fb1⟩;have F1:Fr [] w w1:=f0.trans f1 zs;have b4:=ql F1 c4;have bh1:=BH.out.fr f1 zs;have bo1:Blk w1 (w.heap.size+1) 30 #[.slice none 0 0]:=by simpa using BO.out.fr f1 zs
 have bh0:w1.cell? ⟨w.heap.size,0,none⟩=some (ptr g):=bh1.cell 0;have bo0:w1.cell? ⟨w.heap.size+1,0,none⟩=some (.slice none 0 0):=by simpa using bo1.cell 0
 have bof:w1.frozen? ⟨w.heap.size+1,0,none⟩=false:=by simpa using bo1.frozen 0
 have sz1:w.heap.size+1<w1.heap.size:=by have:=f1.size;simp at this;omega
 have sz2:w.heap.size<w1.heap.size:=zw;have hg1:g<w1.heap.size:=zw;have HF1:=hI F1;have HO1:=hI own1;have HB1:=hI fb1;have Bh1:=hI bh1;have Bo1:=hI bo1;clear f0 f1 F1 own1 fb1 c4 bh1 bo1;go_upto_region 7 with (go_at_call 86;refine (jb ?_).mono ?_;(first|exact b4|exact kH b4 _|assumption);rintro e w' ⟨rfl,rfl⟩)
 have fp:Fr [] w1 (w1.alloc (bxp a (.slice A1 d.length c1))):=(Fr.refl _ _).alloc _;have pb:=Blk.new w1 134 #[.int .i64 a, .slice A1 d.length c1];have szp:w1.heap.size<(w1.alloc (bxp a (.slice A1 d.length c1))).heap.size:=zs;generalize w1.alloc (bxp a (.slice A1 d.length c1))=W1 at *
 have FP:=hI fp;have PB:=hI pb;clear fp pb bh0 bo0 bof b4 hn;go_cut [47] (fun s47 wx=>s47 = .bool (past h.fin (a+d.length))/\Fr [] W1 wx);case first=>
  have qh:=ql FP.out (show w1.cell? ⟨w.heap.size,0,none⟩=some (ptr g) from Bh1.out.cell 0);have q3:=ql (HF1.out.trans FP.out zs) M0.out.cells.2.2.2.1;have p0:=PB.out.cell 0;have p1:=PB.out.cell 1;have x0:=Grew.cell qh;have x1:=Grew.cell q3;have x2:=Grew.cell p0;have x3:=Grew.cell p1;have hbeh:∀ p:Grew W1,Calls Tryz.prog 127 #[agp a (.slice A1 d.length c1)] p.W fun e w''=>e = .returned (.int .i64 (a+d.length))/\∃ q:Grew W1,w''=q.W:=fun p=>qG (zW a A1 d.length c1 _ h0 zw zw);have HBH:=hI hbeh;have hfin:=M0.out.fin;clear qh q3 p0 p1 hbeh;rcases hfin with ⟨e1,rfl⟩|⟨fa,fb,e1,rfl,e3,e4⟩
  ·have e5:past h.fin (a+d.length)=false:=by unfold past;rw [e1]
   have E5:=hI e5;clear e1 e5;refine qg zk zk ?_;repeat (go_big_quiet_step ((go_at_call 127;exact HBH.out _)))
   refine wpQuiet_nil ?_;intro W2 f2;go_wp2_with fail
   go_meet;exact⟨by rw [E5.out],f2⟩
  ·have e5:past h.fin (a+d.length)=decide (fa<a+d.length):=by unfold past;rw [e1]
   have E5:=hI e5;have x4:=Grew.cell (ql (HF1.out.trans FP.out zs) e4);clear e1 e5 e4;refine qg zk zk ?_;repeat (go_big_quiet_step ((go_at_call 127;exact HBH.out _)))
   refine wpQuiet_nil ?_;intro W2 f2;go_wp2_with fail
   go_meet;exact⟨by rw [E5.out],f2⟩
 case rest=>
  obtain⟨rfl,f2⟩:=hcut;generalize wc=W2 at *
  have F2:=hI ((HF1.out.trans FP.out zs).trans f2 zs);have Bh2:=hI (Bh1.out.fr (FP.out.trans f2 zs) zs);have Bo2:=hI (Bo1.out.fr (FP.out.trans f2 zs) zs);have Pb2:=hI (PB.out.fr f2 zs);have M2:=hI (M0.out.fr F2.out zs zs zs);have D2:=hI (qA HO1.out (FP.out.trans f2 zs) zs);clear f2;have xbh:W2.cell? ⟨w.heap.size,0,none⟩=some (ptr g):=Bh2.out.cell 0;have xbo:W2.cell? ⟨w.heap.size+1,0,none⟩=some (.slice none 0 0):=Bo2.out.cell 0;have xbof:=Bo2.out.frozen 0;have xp0:W2.cell? ⟨w1.heap.size,0,none⟩=some (.int .i64 a):=Pb2.out.cell 0;have xp1:W2.cell? ⟨w1.heap.size,1,none⟩=some (.slice A1 d.length c1):=Pb2.out.cell 1;obtain⟨xc0,xc1,xc2,xc3,xc4⟩:=M2.out.cells;have xsp:=Pb2.out.lt;have xsh:=Bh2.out.lt;have xso:=Bo2.out.lt;have xsg:=M2.out.blk.lt;rw [HP.out];go_upto_region 8 with fail
  go_cut [63] (fun s63 wx=>s63 = .bool (decide (a<h.next))/\Fr [] W2 wx);case first=>
   have y0:=Grew.cell xbh;have y1:=Grew.cell xc1;have y2:=Grew.cell xp0;have y3:=Grew.cell xp1;have hbeh:∀ p:Grew W2,Calls Tryz.prog 127 #[agp a (.slice A1 d.length c1)] p.W fun e w''=>e = .returned (.int .i64 (a+d.length))/\∃ q:Grew W2,w''=q.W:=fun p=>qG (zW a A1 d.length c1 _ h0 zw zw);have HBH:=hI hbeh;clear hbeh;by_cases hlt:a<h.next
   ·refine qg zk zk ?_
    repeat (go_big_quiet_step ((go_at_call 127;exact HBH.out _)))
    refine wpQuiet_nil ?_;intro W3 f3;go_wp2_with fail
    go_meet;exact⟨by simp [hlt],f3⟩
   ·have hlf:decide (a<h.next)=false:=by simpa using hlt
    refine qg zk zk ?_;repeat (go_big_quiet_step ((go_at_call 127;exact HBH.out _)))
    refine wpQuiet_nil ?_;intro W3 f3;go_wp2_with fail
    go_meet;exact⟨by simp [hlt],f3⟩
  case rest=>
   obtain⟨rfl,f3⟩:=hcut;generalize wc=W3 at *
   have F3:=hI (F2.out.trans f3 zs);have Bh3:=hI (Bh2.out.fr f3 zs);have Bo3:=hI (Bo2.out.fr f3 zs);have Pb3:=hI (Pb2.out.fr f3 zs);have M3:=hI (M2.out.fr f3 zs zs zs);have D3:=hI (qA D2.out f3 zs);clear xbh xbo xbof xp0 xp1 xc0 xc1 xc2 xc3 xc4 xsp xsh xso xsg f3;have xbh:W3.cell? ⟨w.heap.size,0,none⟩=some (ptr g):=Bh3.out.cell 0;have xbo:W3.cell? ⟨w.heap.size+1,0,none⟩=some (.slice none 0 0):=Bo3.out.cell 0;have xbof:=Bo3.out.frozen 0;have xp0:W3.cell? ⟨w1.heap.size,0,none⟩=some (.int .i64 a):=Pb3.out.cell 0;have xp1:W3.cell? ⟨w1.heap.size,1,none⟩=some (.slice A1 d.length c1):=Pb3.out.cell 1;obtain⟨xc0,xc1,xc2,xc3,xc4⟩:=M3.out.cells;have xsp:=Pb3.out.lt;have xsh:=Bh3.out.lt;have xso:=Bo3.out.lt;have xsg:=M3.out.blk.lt
   go_upto_if 63 with fail
   go_cut [64] (fun _ wx=>TellRel S (fun b=>S b\/(Value.slice A1 d.length c1).ownBlock=some b) w g w.heap.size (w.heap.size+1) w1.heap.size kv ev h L (d.drop (h.next - a).toNat) wx);case first=>
    have hby:Byt (fun b=>S b\/(Value.slice A1 d.length c1).ownBlock=some b) W3 (.slice A1 d.length c1) d:=Sl.kW D3.out (fun b h => .inr h);have HBY:=hI hby;clear hby;by_cases hlt:a<h.next
    ·obtain⟨k,hk⟩:∃ k:Nat,h.next - a=(k:Int):=⟨(h.next - a).toNat,zw⟩
     have hkn:k<d.length:=zw;obtain⟨b1,o1,rfl,_,_⟩:=HBY.out.at_ (k:=0) zw;have hcc:d.length<=c1:=by
      obtain⟨_,_,hv,h1,_⟩:=HBY.out.form;injection hv with _ _ hc;omega
     have hw:IntKind.i64.wrap (k:Int)=(k:Int):=IntWalk.i64_in _ zw;have hk0:(0:Int)<=(k:Int):=zw;have hk1:(k:Int)<=(d.length:Int):=zw;have hk2:(d.length:Int)<=(c1:Int):=zw;have hck:¬ c1=k:=zw;go_wp2_with fail
     have hcut:=HBY.out.cut (k:=k) zw;rw [if_neg hck] at hcut;simp only [Option.map_some,jZ] at hcut;have Hcut:=hI hcut;clear hcut;go_still_tail 15,zk
     change wpList Tryz.prog _ _ _ _ W3.drew;refine qc rfl 134 (.tmp 8) (.tmp 78) rfl w1.heap.size 134 #[.int .i64 a, .slice (some ⟨b1,o1,none⟩) d.length c1] #[.int .i64 h.next, .slice (some ⟨b1,o1+k,none⟩) (d.length - k) (c1 - k)] rfl rfl Pb3.out rfl zk zo ?_;intro W4 B4 F4;have f4:Fr [w1.heap.size] W3 W4:=(Fr.refl [w1.heap.size] W3).drew.trans F4 zs;clear F4;go_wp2_with fail
     go_meet;have hkk:(h.next - a).toNat=k:=zw;have hlk:(d.drop k).length=d.length - k:=List.length_drop;have nS:∀ x∈[w1.heap.size],¬ (S x\/(Value.slice (some ⟨b1,o1,none⟩) d.length c1).ownBlock=some x):=by
      intro x hx;simp only [List.mem_singleton] at hx;subst hx;rintro (hs|hs)
      ·have:=M0.out.pub _ hs;omega
      ·have:=kG HO1.out hs;omega
     rw [hkk];refine⟨F3.out.trans f4 (by intro x hx;simp only [List.mem_singleton] at hx;subst hx;exact .inr zw),Bh3.out.fr f4 (by simpa using kP Bh3.out Pb3.out zd),Bo3.out.fr f4 (by simpa using kP Bo3.out Pb3.out zd),M3.out.fr f4 (fun x hx hs=>nS x hx (.inl hs)) (by simpa using kP M3.out.blk Pb3.out zd) (fun b hb=>?_),⟨_,_,by rw [hlk];exact B4,by rw [hlk];exact Hcut.out.fr f4 nS⟩,fun b hb=>Nat.lt_of_lt_of_le (hb.elim (M3.out.pub b) (kG D3.out)) f4.size⟩;simp only [List.mem_singleton];have:=kG M0.out.kp.own hb;omega
    ·go_wp2_with fail
     go_meet;have hk:(h.next - a).toNat=0:=zw;have hn:h.next=a:=zw;exact⟨F3.out,Bh3.out,Bo3.out,M3.out,⟨A1,c1,by rw [hk,hn,List.drop_zero];exact Pb3.out,by rw [hk,List.drop_zero];exact HBY.out⟩,fun b hb=>hb.elim (M3.out.pub b) (kG D3.out)⟩
   case rest=>
    obtain⟨gf,ghb,gob,ghp,⟨A2,c2,gpc,gby⟩,gpub⟩:=hcut;generalize wc=W4 at *
    clear xbh xbo xbof xp0 xp1 xc0 xc1 xc2 xc3 xc4 xsp xsh xso xsg;have hll:(d.drop (h.next - a).toNat).length=d.length - (h.next - a).toNat:=List.length_drop;have hlk:(h.next - a).toNat<d.length:=zw;have hbeh:h.next+((d.drop (h.next - a).toNat).length:Int)=a+d.length:=zw;have hll2:(d.drop (h.next - a).toNat).length<=64:=zw;have hll1:1<=(d.drop (h.next - a).toNat).length:=zw;have Hbeh:=hI hbeh;clear hll hlk hbeh;generalize hlq:d.drop (h.next - a).toNat=l at *
    have Hlq:=hI hlq;clear hlq;have z0:=Grew.cell (show W4.cell? ⟨w.heap.size,0,none⟩=some (ptr g) from ghb.cell 0);have z1:=Grew.cell ghp.cells.2.1;have z2:=Grew.cell (show W4.cell? ⟨w1.heap.size,0,none⟩=some (.int .i64 h.next) from gpc.cell 0);have Ggf:=hI gf;have Ghb:=hI ghb;have Gob:=hI gob;have Ghp:=hI ghp;have Gpc:=hI gpc;have Gby:=hI gby;have Gpub:=hI gpub;clear gf ghb gob ghp gpc gby gpub;go_wp2_with fail
    refine qg zk zk ?_;repeat (go_big_quiet_step (fail))
    refine wpQuiet_nil ?_;intro W5 f5;have z3:=Grew.cell (ql f5 (show W4.cell? ⟨w.heap.size,0,none⟩=some (ptr g) from Ghb.out.cell 0));have z4:=Grew.cell (ql f5 Ghp.out.cells.2.1);have z5:=Grew.cell (ql f5 (show W4.cell? ⟨w1.heap.size,0,none⟩=some (.int .i64 h.next) from Gpc.out.cell 0));clear z0 z1 z2;have F5:=hI f5;clear f5;go_wp2_with fail
    refine qg zk zk ?_;repeat (go_big_quiet_step (fail))
    refine wpQuiet_nil ?_;intro W6 f6;clear z3 z4 z5;have f46:Fr [] W4 W6:=F5.out.trans f6 zs;have ghb6:=Ghb.out.fr f46 zs;have gob6:=Gob.out.fr f46 zs;have gpc6:=Gpc.out.fr f46 zs;have ghp6:=Ghp.out.fr f46 zs zs zs;have z0:W6.cell? ⟨w.heap.size,0,none⟩=some (ptr g):=ghb6.cell 0;have z1:W6.cell? ⟨w.heap.size+1,0,none⟩=some (.slice none 0 0):=gob6.cell 0;have z2:W6.cell? ⟨w1.heap.size,0,none⟩=some (.int .i64 h.next):=gpc6.cell 0;have z3:W6.cell? ⟨w1.heap.size,1,none⟩=some (.slice A2 l.length c2):=gpc6.cell 1;have htk:Calls Tryz.prog 128 #[ptr g, .slice none 0 0,agp h.next (.slice A2 l.length c2)] W6 (fun e w'=>∃ A c,e = .returned (.slice A l.length c)/\w'.ownsRow 0 5 1 (.slice A l.length c) l.length (kE l)/\Fr [g] W6 w'/\Blk w' g 115 (hpa h.most (a+d.length) kv ev)/\(∀ b,(Value.slice A l.length c).ownBlock=some b->W6.heap.size<=b/\b<w'.heap.size)):=by
     have e:qQ h.next ⟨h.next,l⟩=(l,a+d.length):=by
      unfold qQ Pc.beh;dsimp only;rw [Hbeh.out,if_neg zw,Int.sub_self];rfl
     refine (take_any _ W6 g h.most h.next kv ev [] none 0 ⟨h.next,l⟩ (.slice A2 l.length c2) ghp6.blk (World.ownsRow_nil _ _ _ _) (Gby.out.fr f46 zs) (fun b hb=>Nat.lt_of_lt_of_le (Gpub.out b hb) f46.size) HI.out.n0 (Int.le_refl _) HI.out.n1 hll2 zs).mono ?_;rintro e' w' ⟨A,c,he,h1,h2,h3,h4⟩;rw [e] at he h1 h3 h4;refine⟨A,c,he,h1,h2,h3,fun b hb=>?_⟩;rcases h4 b hb with h5|h5
     ·simp [Value.ownBlock] at h5
     ·exact h5
    have Htk:=hI htk;have Gpc6:=hI gpc6;have Gob6:=hI gob6;have Ghb6:=hI ghb6;have Ghp6:=hI ghp6;have F46:=hI f46;have zso:=gob6.lt;clear htk gpc6 gob6 ghb6 ghp6 f46 f6;go_wp2_with fail
    refine Htk.out.mono ?_;rintro e W7 ⟨A3,c3,rfl,own7,f7,blk7,fr7⟩;have n1:=kP Gob6.out Ghp6.out.blk zd;have n2:=kP Ghb6.out Ghp6.out.blk zd;have bo7:=Gob6.out.fr f7 (by simpa using n1);have bh7:=Ghb6.out.fr f7 (by simpa using n2);have y0:W7.cell? ⟨w.heap.size,0,none⟩=some (ptr g):=bh7.cell 0;have y1:W7.cell? ⟨w.heap.size+1,0,none⟩=some (.slice none 0 0):=bo7.cell 0;have y2:=bo7.frozen 0;have y3:=bo7.lt;have y4:=bh7.lt;have Own7:=hI own7;have F7:=hI f7;have Blk7:=hI blk7;have Fr7:=hI fr7;have Bo7:=hI bo7;have Bh7:=hI bh7;clear own7 f7 blk7 fr7 bo7 bh7 z0 z1 z2 z3;go_wp2_with fail
    refine (qko g _).mono ?_;rintro e w' ⟨rfl,rfl⟩;have start:=fun rec=>qhl (S':=fun b=>S b\/(Value.slice A1 d.length c1).ownBlock=some b) rec M0.out HI.out (fun b hb => .inl hb) (fun b hb=>hb.imp id (fun h=>by have:=HB1.out _ h;simp at this;omega)) (Ggf.out.trans F46.out zs) Ghp6.out (fun b hb=>Nat.lt_of_lt_of_le (Gpub.out b hb) F46.out.size) Ghb6.out Gob6.out F7.out Blk7.out Own7.out Fr7.out zw zw hll2;have Start:=hI start;have hsz8:(W7.setCell ⟨w.heap.size+1,0,none⟩ (.slice A3 l.length c3)).heap.size=W7.heap.size:=(by simp [World.setCell]);clear start;go_wp2_with fail
    have z9:W7.heap.size<((W7.setCell ⟨w.heap.size+1,0,none⟩ (.slice A3 l.length c3)).alloc (.cells #[ptr g] 72)).heap.size:=(by simp [World.setCell]);generalize (W7.setCell ⟨w.heap.size+1,0,none⟩ (.slice A3 l.length c3)).alloc (.cells #[ptr g] 72)=W9 at *
    have hev:(∀ W,Fr [g] w W->(h.fin=none/\ev = .pointer none)\/∃ fa fb,h.fin=some fa/\ev=ptr fb/\S fb/\W.cell? ⟨fb,0,none⟩=some (.int .i64 fa)):=fun W f=>by
     rcases M0.out.fin with h1|⟨fa,fb,h1,h2,h3,h4⟩
     ·exact .inl h1
     ·exact .inr ⟨fa,fb,h1,h2,h3,(f.cell (p:=⟨fb,0,none⟩) (M0.out.pub fb h3) (by simp;rintro rfl;exact M0.out.offg h3)).trans h4⟩
    refine qdg (σ:=Int × Value × List (Pc × Value) × List Int) 140 #[.pointer (some ⟨W7.heap.size,0,none⟩)] zr (enters_of Tryz.func140 zk rfl) rfl
     (fun r s W=>DJ (fun b=>S b\/(Value.slice A1 d.length c1).ownBlock=some b) w g w.heap.size W7.heap.size (w.heap.size+1) (W9.heap.size+1) W9.heap.size h.most kv ev r s.1 s.2.1 s.2.2.1 s.2.2.2 W)
     (a+d.length,kv,L,l)
     (TellRnd (fun b=>S b\/(Value.slice A1 d.length c1).ownBlock=some b))
     (fun s=>TellFin L.length (a+d.length) (L.map (·.1)) l s)
     (fun r r' s W j=>j.put r') (fun r s W j=>⟨j.rcd,j.dfr⟩) Start.out ?round ?seq ?done
    case seq=>
     intro r hy W1 hj;refine (qhi (fun b=>S b\/(Value.slice A1 d.length c1).ownBlock=some b) (W9.heap.size+1) g W7.heap.size h.most ev (fun n kv' L' out W=>DJ (fun b=>S b\/(Value.slice A1 d.length c1).ownBlock=some b) w g w.heap.size W7.heap.size (w.heap.size+1) (W9.heap.size+1) W9.heap.size h.most kv ev r n kv' L' out W)
      (fun n kv' L' out W j=>j.seen) (fun n kv' L' out W W3 kv3 i j f k3 hn=>j.iter f k3 hn) (fun n kv' L' out W W' j f=>j.fr0 f) (fun n kv' L' out W p A' c' kv1 L1 W1 j1 hl1 j hb q0 q1 q2 q3=>?_) (a+d.length) kv L l W1 hj).mono ?_
     ·exact hy (n,kv',L',out) _ _ W j ⟨p,A',c',rfl,hb,q0,q1,q2,q3,by have:=j1.olen;have:=j1.seen.len;dsimp only;omega,rfl⟩
     ·rintro e W' ⟨hv,kv',L',j,hL⟩
      exact⟨hv,(_,kv',L',_),⟨rfl,hL,rfl⟩,j⟩
    case done=>
     rintro r ⟨n',kv',L',out'⟩ W ⟨hn,hL,hout⟩ j;dsimp only at hn hL hout j;obtain⟨oA,oc,o1,o2,o3⟩:=j.orow;have o1c:W.cell? ⟨w.heap.size+1,0,none⟩=some (.slice oA out'.length oc):=o1.cell 0;have o1f:=o1.frozen 0;have o1l:=o1.lt;have J:=hI j;have O1:=hI o1;have O2:=hI o2;have O3:=hI o3;have Hn:=hI hn;have HL:=hI hL;have Hout:=hI hout;clear o1 o2 o3 hn hL hout j;go_wp2_with fail
     have z67:W6.heap.size<=W7.heap.size:=F7.out.size;have z06:w.heap.size<=W6.heap.size:=(Ggf.out.trans F46.out zs).size;have fs:=(Fr.refl [w.heap.size+1] W).setCell (p:=⟨w.heap.size+1,0,none⟩) (.inl zs) (.slice oA out'.length oc);have n1:=yR J.out.dfr O1.out;have dfr:=yZ J.out.dfr fs (by simpa using fun e=>n1 e.symm);have fp:=qhk (W.setCell ⟨w.heap.size+1,0,none⟩ (.slice oA out'.length oc)) W9.heap.size (.deferred none);have b8:Blk (W.setCell ⟨w.heap.size+1,0,none⟩ (.slice oA out'.length oc)) (w.heap.size+1) 30 #[.slice oA out'.length oc]:=(by simpa using O1.out.qO 0 (.slice oA out'.length oc));have b9:=b8.fr fp (by simpa using n1);have hres:World.cell? _ ⟨w.heap.size+1,0,none⟩=some (.slice oA out'.length oc):=b9.cell 0;have fz:Fr [w.heap.size+1,W9.heap.size] W _:=(fs.mono zs).trans fp (by intro x hx;simp at hx;subst hx;exact .inl zs);have hn:=Hn.out;have hL:=HL.out;have hout:=Hout.out;rw [<- M0.out.len,<- M0.out.kept] at hn hL hout;rw [<- hn,<- hL,<- hout];have hpost:=qkn (S':=fun b=>S b\/(Value.slice A1 d.length c1).ownBlock=some b) M0.out (fun b h => .inl h) (fun b hb=>hb.imp id (fun h=>by have:=HB1.out _ h;simp at this;omega)) J.out O1.out O2.out O3.out fz zw (fun hs=>by have:=Gpub.out _ hs;have h8:=F46.out.size;omega);clear hn hL hout;refine qmu (D:=W9.heap.size) rfl dfr ?_ hpost;clear hpost fz b9 b8 fs n1;generalize (W.setCell ⟨w.heap.size+1,0,none⟩ (.slice oA out'.length oc)).putObj W9.heap.size (.deferred none)=Wz at *
     simp [results,Tryz.results117,go_sem,hres]
    case round=>
     rintro⟨n,kv',L',out⟩ s' v W r r' j ⟨p,A',c',rfl,hb,q0,q1,q2,q3,q4,rfl⟩;dsimp only at j q1 q4 |-
     generalize hO:out++(qQ n p).1=out';have HO:=hI hO;have J:=hI j;have HB:=hI hb;clear hO j hb
     gi_wp2
     have fA:Fr [] W (W.alloc (bxp p.at_ (.slice A' p.d.length c'))):=(Fr.refl _ _).alloc _;have bA:=Blk.new W 134 #[.int .i64 p.at_, .slice A' p.d.length c'];have j1:=J.out.fr0 fA;refine⟨j1,?_⟩;have fP:=qhk (W.alloc (bxp p.at_ (.slice A' p.d.length c'))) (W9.heap.size+1) (.loop r');have j2:=j1.put r';have nl:=vk j1.rcd bA;have b2:=bA.fr fP (by simpa using nl);have hb2:=(HB.out.fr fA zs).fr fP (by intro x hx;simp only [List.mem_singleton] at hx;subst hx;exact j1.off.1);clear fA fP bA j1 nl;generalize (W.alloc (bxp p.at_ (.slice A' p.d.length c'))).putObj (W9.heap.size+1) (.loop r')=W2' at *
     obtain⟨oA,oc,o1,o2,o3⟩:=j2.orow;have e0:W2'.cell? ⟨w.heap.size,0,none⟩=some (ptr g):=j2.hbx.cell 0;have e1:W2'.cell? ⟨w.heap.size+1,0,none⟩=some (.slice oA out.length oc):=o1.cell 0;have e2:W2'.cell? ⟨W.heap.size,0,none⟩=some (.int .i64 p.at_):=b2.cell 0;have e3:W2'.cell? ⟨W.heap.size,1,none⟩=some (.slice A' p.d.length c'):=b2.cell 1;have htk:=take_any _ W2' g h.most n kv' ev out oA oc p (.slice A' p.d.length c') j2.seen.blk o2 hb2 j2.seen.pub q0 q1 j2.seen.n1 q3 zw;rw [HO.out] at htk;have tb:=qbr n p j2.seen.n0 j2.seen.n1 ⟨q2,q3⟩;have tl:(qQ n p).1.length<=64:=(by unfold qQ;split <;> simp;omega);have hol:out'.length<=64 * (65 - L'.length):=(by rw [<- HO.out,List.length_append];omega);have hbo:(fun W3=>Fr (g::ob (.slice oA out.length oc)) W2' W3->Blk W3 (w.heap.size+1) 30 #[.slice oA out.length oc])=(fun W3=>Fr (g::ob (.slice oA out.length oc)) W2' W3->Blk W3 (w.heap.size+1) 30 #[.slice oA out.length oc]):=rfl;have nob:w.heap.size+1∉g::ob (.slice oA out.length oc):=by
      intro hm;rcases List.mem_cons.1 hm with hm|hm
      ·exact kP o1 j2.seen.blk zd hm
      ·exact own_ne o2 o1 zd (qo.1 hm)
     have Htk:=hI htk;have J2:=hI j2;have O1:=hI o1;have O2:=hI o2;have O3:=hI o3;have TB:=hI tb;have HOL:=hI hol;have NOB:=hI nob;clear htk j2 o1 o2 o3 tb hol hb2 b2 hbo tl nob
     gi_wp2_with fail
     refine⟨trivial,?_⟩;refine (CallsIn.inRound _ (callsIn_wide.2 Htk.out)).mono ?_;rintro e W3' ⟨A4,c4,rfl,own4,f4,blk4,new4⟩;have b4:=O1.out.fr f4 NOB.out;have e5:W3'.cell? ⟨w.heap.size+1,0,none⟩=some (.slice oA out.length oc):=b4.cell 0;have e6:=b4.frozen 0;have e7:=b4.lt;have J4:=hI (J2.out.took oA oc O1.out O2.out O3.out f4 blk4 own4 new4 TB.out.1 TB.out.2.1 HOL.out);clear own4 f4 blk4 new4 b4
     gi_wp2_with fail
     exact J4.out
end Go.Proofs.YtmgdbbbdhkfdmaaGreat
namespace Go.Proofs.YtmgdbbbdhkfdmaaGreat
set_option maxRecDepth 100000
open Go.RowKit
theorem put_any{S:Nat->Prop}{w:World}{g:Nat}{kv:Value}{h:Hp}(m:HP S w g kv h)(hi:Inv h)(a:Int)(dv:Value)(d:List Int)(T:Nat->Prop)(hd:Byt T w dv d)(hl:d.length<=1000000) :
  Calls Tryz.prog 117 #[ptr g, .int .i64 a,dv] w (jw S w g kv (jS h a d).1 (jS h a d).2.1 (jS h a d).2.2):=by
 have hlen:h.kept.length<=64:=by have:=hi.len;have:=hi.m1;omega
 unfold jS;by_cases h0:a<0
 ·rw [if_pos (.inl h0)]
  exact qmn m a dv d T hd hl h0
 by_cases h1:4611686018427387904<a
 ·rw [if_pos (.inr (.inl h1))]
  exact qmo m a dv d T hd hl h1
 by_cases h2:d.length<1
 ·rw [if_pos (.inr (.inr (.inl h2)))]
  exact qmp m a dv d T hd hl zw zw h2
 by_cases h3:64<d.length
 ·rw [if_pos (.inr (.inr (.inr h3)))]
  exact qmq m a dv d T hd hl zw zw zw h3
 rw [if_neg zw];by_cases h4:past h.fin (a+d.length)=true
 ·rw [if_pos h4]
  exact qmr m a dv d T hd hl zw zw zw zw h4
 rw [if_neg h4];have h4':past h.fin (a+d.length)=false:=by simpa using h4
 by_cases h5:a+d.length<=h.next
 ·rw [if_pos h5]
  exact put_low m a dv d T hd hl zw zw zw zw h4' h5
 rw [if_neg h5];by_cases h6:a<=h.next
 ·rw [if_pos h6]
  exact qmv m a dv d T hd hl zw zw zw zw h4' h6 zw hi
 rw [if_neg h6];by_cases h7:h.kept.any (longer a d.length)=true
 ·rw [if_pos h7]
  exact qhj m a dv d T hd hl zw zw zw zw h4' zw h7 hlen
 rw [if_neg h7];have h7':h.kept.any (longer a d.length)=false:=by simpa using h7
 by_cases h8:h.most<=h.kept.length
 ·rw [if_pos h8]
  exact qms m a dv d T hd hl zw zw zw zw h4' zw h7' hlen h8
 rw [if_neg h8];exact put_app m a dv d T hd hl zw zw zw zw h4' zw h7' hlen zw
end Go.Proofs.YtmgdbbbdhkfdmaaGreat
namespace Go.Proofs.YtmgdbbbdhkfdmaaGreat
set_option maxRecDepth 100000
open Go.RowKit Go.Deep
theorem xW(f n:Int)(h0:0<=f)(h1:f<=15)(hn:n=1\/n=2\/n=4\/n=8):decide (bits BinOp.and IntKind.i64 f n=0)=!has f n:=by
 have hf:f=0\/f=1\/f=2\/f=3\/f=4\/f=5\/f=6\/f=7\/f=8\/f=9\/f=10\/f=11\/f=12\/f=13\/f=14\/f=15:=zw;rcases hn with rfl|rfl|rfl|rfl <;> rcases hf with rfl|rfl|rfl|rfl|rfl|rfl|rfl|rfl|rfl|rfl|rfl|rfl|rfl|rfl|rfl|rfl <;> decide
theorem qkp(f n:Int)(b:Nat)(w:World)(c:w.cell? ⟨b,0,none⟩=some (.int .i64 f))(h0:0<=f)(h1:f<=15)(hn:n=1\/n=2\/n=4\/n=8):Calls Tryz.prog 91 #[.int .i64 n,ptr b] w fun e w'=>e = .returned (.bool (has f n))/\w=w':=by
 have hb:=xW f n h0 h1 hn;have hr:has f n=!decide (bits BinOp.and IntKind.i64 f n=0):=by rw [hb];simp
 rw [hr];clear hr hb;go_enter Tryz.func91,Tryz.ntmps91;go_wp2_with fail
 go_ret;first|exact⟨rfl,rfl⟩|exact⟨zs,rfl⟩
section
variable {S S':Nat->Prop} {w w':World} {H:Hd} {x:St}
theorem SI.seth(m:SI S w H x){h':Hp}{kv':Value}(e:Ext w S S')(n:HP S' w' H.gh kv' h')(f:Fr (H.gh::ob H.kv) w w')(n5:∀ b,kv'.ownBlock=some b->H.kv.ownBlock=some b\/w.heap.size<=b) :
  SI S' w' ⟨H.g,H.gw,H.gc,H.gh,H.bv,H.uv,kv'⟩ { x with heap:=h' }/\Hd.like w H ⟨H.g,H.gw,H.gc,H.gh,H.bv,H.uv,kv'⟩:=by
 have ng:H.g∉H.gh::ob H.kv:=fun hm=>m.ne_h _ hm rfl;have hb:∀ {b:Nat} {t:TypeId} {cs:Array Value},Blk w b t cs->t≠115->134≠t->b∉H.gh::ob H.kv:=fun B h1 h2 hm=>by
  obtain⟨ev,L,n⟩:=m.hp;rcases List.mem_cons.1 hm with h|h
  ·exact kP B n.blk h1 h
  ·exact own_ne n.kp.own B h2 (qo.1 h)
 have ho:∀ {v:Value} {k:Nat} {xs:List Value},w.ownsRow 0 5 1 v k xs->∀ b,v.ownBlock=some b->b∉H.gh::ob H.kv:=fun o b hb hm=>by
  obtain⟨ev,L,n⟩:=m.hp;rcases List.mem_cons.1 hm with rfl|h
  ·exact own_ne o n.blk zd hb
  ·exact jR o n.kp.own zd hb (qo.1 h)
 refine⟨⟨m.blk.fr f ng,Blk.fr m.win f (hb m.win zd zd),Blk.fr m.clk f (hb m.clk zd zd),n,qA m.buf f (ho m.buf),qA m.unr f (ho m.unr),fun y hy hs=>?_,m.bu⟩,⟨rfl,rfl,rfl,rfl,fun b hb=>?_⟩⟩
 ·rcases e.2 y hs with h|h
  ·exact m.nS y hy h
  ·have:y<w.heap.size:=m.lt y (by
    simp only [Hd.own,List.mem_cons,List.mem_append];rcases hy with h|h|h|h|h <;> simp [h])
   omega
 ·simp only [Hd.own,List.mem_cons,List.mem_append] at hb |-
  rcases hb with h|h|h|h|h|h|h
  ·exact .inl (.inl h)
  ·exact .inl (.inr (.inl h))
  ·exact .inl (.inr (.inr (.inl h)))
  ·exact .inl (.inr (.inr (.inr (.inl h))))
  ·rcases n5 b (qo.1 h) with h1|h1
   ·exact .inl (.inr (.inr (.inr (.inr (.inl (qo.2 h1))))))
   ·exact .inr h1
  ·exact .inl (.inr (.inr (.inr (.inr (.inr (.inl h))))))
  ·exact .inl (.inr (.inr (.inr (.inr (.inr (.inr h))))))
theorem SI.setu(m:SI S w H x){b:List Int}{uv':Value}(own:w'.ownsRow 0 5 1 uv' (x.unread++b).length (kE (x.unread++b)))(f:Fr (ob H.uv) w w')(n:∀ y,uv'.ownBlock=some y->H.uv.ownBlock=some y\/(w.heap.size<=y/\y<w'.heap.size)) :
  SI S (w'.setCell ⟨H.g,15,none⟩ uv') ⟨H.g,H.gw,H.gc,H.gh,H.bv,uv',H.kv⟩ { x with unread:=x.unread++b }/\Hd.like w H ⟨H.g,H.gw,H.gc,H.gh,H.bv,uv',H.kv⟩/\Fr H.own w (w'.setCell ⟨H.g,15,none⟩ uv'):=by
 have hO:∀ y∈ob H.uv,¬ S y:=fun y hy=>m.nS y (.inr (.inr (.inr (.inr hy))));have ng:H.g∉ob H.uv:=fun hm=>m.qer _ hm rfl;have hb:∀ {b:Nat} {t:TypeId} {cs:Array Value},Blk w b t cs->5≠t->b∉ob H.uv:=fun B h1 hm=>own_ne m.unr B h1 (qo.1 hm);have hk:∀ y∈H.gh::ob H.kv,y∉ob H.uv:=fun y hy hm=>by
  obtain⟨ev,L,n⟩:=m.hp;rcases List.mem_cons.1 hy with rfl|h
  ·exact own_ne m.unr n.blk zd (qo.1 hm)
  ·exact jR m.unr n.kp.own zd (qo.1 hm) (qo.1 h)
 have hp1:=m.hp.ext' f (Ext.refl w S) hO hk (fun b hb=>Nat.lt_of_lt_of_le (HP.zA m.hp b hb) f.size);have B1:=m.blk.fr f ng;have f3:Fr [H.g] w' (w'.setCell ⟨H.g,15,none⟩ uv'):=(Fr.refl [H.g] w').setCell (p:=⟨H.g,15,none⟩) (.inl zs) _;have hO3:∀ y∈[H.g],¬ S y:=fun y hy=>by simp at hy;subst hy;exact m.nS _ (.inl rfl)
 have hbu:qA m.buf f (fun b hb hm=>m.bu b (qo.2 hb) hm)=qA m.buf f (fun b hb hm=>m.bu b (qo.2 hb) hm):=rfl;refine⟨⟨by simpa using B1.qO 15 uv',Blk.fr (Blk.fr m.win f (hb m.win zd)) f3 (by simpa using m.qeq),Blk.fr (Blk.fr m.clk f (hb m.clk zd)) f3 (by simpa using m.xR),hp1.ext' f3 (Ext.refl w' S) hO3 (fun y hy=>by simpa using m.ne_h y hy) (fun b hb=>Nat.lt_of_lt_of_le (HP.zA hp1 b hb) f3.size),
  qA (qA m.buf f (fun b hb hm=>m.bu b (qo.2 hb) hm)) f3 (fun b hb=>by simpa using m.qfx b (qo.2 hb)),qA own f3 (fun b hb=>by simp;rintro rfl;exact own_ne own B1 zd hb),fun y hy=>?_,fun y hy hu=>?_⟩,⟨rfl,rfl,rfl,rfl,fun b hb=>?_⟩,?_⟩
 ·rcases hy with h|h|h|h|h
  ·exact m.nS y (.inl h)
  ·exact m.nS y (.inr (.inl h))
  ·exact m.nS y (.inr (.inr (.inl h)))
  ·exact m.nS y (.inr (.inr (.inr (.inl h))))
  ·rcases n y (qo.1 h) with h1|h1
   ·exact hO y (qo.2 h1)
   ·intro hs;have:=HP.zA m.hp y hs;omega
 ·rcases n y (qo.1 hu) with h1|h1
  ·exact m.bu y hy (qo.2 h1)
  ·have:=kG m.buf (qo.1 hy);omega
 ·simp only [Hd.own,List.mem_cons,List.mem_append] at hb |-
  rcases hb with h|h|h|h|h|h|h
  ·exact .inl (.inl h)
  ·exact .inl (.inr (.inl h))
  ·exact .inl (.inr (.inr (.inl h)))
  ·exact .inl (.inr (.inr (.inr (.inl h))))
  ·exact .inl (.inr (.inr (.inr (.inr (.inl h)))))
  ·exact .inl (.inr (.inr (.inr (.inr (.inr (.inl h))))))
  ·rcases n b (qo.1 h) with h1|h1
   ·exact .inl (.inr (.inr (.inr (.inr (.inr (.inr (qo.2 h1)))))))
   ·exact .inr h1.1
 ·exact (f.mono (fun y hy=>by simp only [Hd.own,List.mem_cons,List.mem_append];exact .inr (.inr (.inr (.inr (.inr (.inr hy))))))).trans (f3.mono (O':=H.own) zh) (fun y hy => .inl hy)
end
theorem Hd.like.trans{w w1:World}{H H1 H2:Hd}(h:Hd.like w H H1)(hz:w.heap.size<=w1.heap.size)(k:Hd.like w1 H1 H2):Hd.like w H H2:=
 ⟨k.g.trans h.g,k.gw.trans h.gw,k.gc.trans h.gc,k.gh.trans h.gh,fun b hb=>by
  rcases k.own b hb with h1|h1
  ·exact h.own b h1
  ·exact .inr zw⟩
theorem qga(a b near:Int)(h0:0<=near):0<=kL a b near/\kL a b near<=4611686018427387904:=by
 unfold kL Sne.jX;have h1:0<=(a - b - 1) % 4294967296:=zw;have h2:(a - b - 1) % 4294967296<4294967296:=zw;generalize (a - b - 1) % 4294967296=s at *
 simp only []
 (repeat' split) <;> simp <;> omega
def qgb(S:Nat->Prop)(w:World)(H:Hd)(y:St)(e:Ending)(w':World):Prop:=
 ∃ S' H',e = .returned (.tuple #[])/\Ext w S S'/\Hd.like w H H'/\SI S' w' H' y/\Fr H.own w w'
def kV(x:St)(p:Prt):Hp:=if has p.flags 4 then (yD x.heap (kL p.seq x.peer x.heap.next+p.d.length)).1 else x.heap
theorem qmw(h:Hp):jv.isFinV h=isFin h:=rfl
theorem xH(x:St)(p:Prt):jv x p =
  (if 0<p.d.length/\kL p.seq x.peer x.heap.next+p.d.length - (kV x p).next<=1024 - x.unread.length then
   { x with heap:=(jS (kV x p) (kL p.seq x.peer x.heap.next) p.d).1,unread:=x.unread++(jS (kV x p) (kL p.seq x.peer x.heap.next) p.d).2.1,ended:=isFin (jS (kV x p) (kL p.seq x.peer x.heap.next) p.d).1 }
  else { x with heap:=kV x p,ended:=isFin (kV x p) }):=by
 unfold jv kV;simp only [qmw];split <;> split <;> simp_all
theorem SI.xX{S:Nat->Prop}{w:World}{H:Hd}{x:St}(m:SI S w H x)(b:Bool):SI S (w.setCell ⟨H.g,12,none⟩ (.bool b)) H { x with ended:=b }:=
 m.set ((Fr.refl [H.g] w).setCell (p:=⟨H.g,12,none⟩) (.inl zs) _) (by simpa using m.blk.qO 12 (.bool b)) rfl rfl rfl rfl rfl
end Go.Proofs.YtmgdbbbdhkfdmaaGreat
namespace Go.Proofs.YtmgdbbbdhkfdmaaGreat
set_option maxRecDepth 100000
theorem qdn:∀(l:List Pc) (i:Nat),i<l.length->zU (l.eraseIdx i)+((l.getD i default).d.length:Int)=zU l
 | [],i,h=>by simp at h
 | p::l,0,h=>by simp [zU];omega
 | p::l,i+1,h=>by
  have:=qdn l i (by simpa using h);simp only [List.eraseIdx_cons_succ,zU,List.getD_cons_succ];omega
theorem qev:∀ l:List Pc,0<=zU l
 | []=>by simp [zU]
 | p::l=>by have:=qev l;simp only [zU];omega
theorem qew(next:Int)(p:Pc):(qQ next p).1.length<=p.d.length:=by
 unfold qQ;split
 ·simp
 ·simp
theorem qdo:∀(n:Nat) (next:Int) (l:List Pc),((qX n next l).2.2.length:Int)<=zU l
 | 0,next,l=>by simpa [qX] using qev l
 | n+1,next,l=>by
  unfold qX;by_cases hr:kQ next l<0
  ·rw [if_pos hr]
   simpa using qev l
  ·rw [if_neg hr]
   have hb:=yE next l;have hlt:(kQ next l).toNat<l.length:=zw;have h1:=qdn l _ hlt;have h2:=qew next (l.getD (kQ next l).toNat default);have h3:=qdo n (qQ next (l.getD (kQ next l).toNat default)).2 (l.eraseIdx (kQ next l).toNat);simp only [List.length_append];omega
theorem xu(h:Hp)(a:Int)(d:List Int):((jS h a d).2.1.length:Int)<=d.length+zU h.kept:=by
 have hs:=qev h.kept;have hd:=qdo h.kept.length (a+d.length) h.kept;unfold jS
 (repeat' split) <;> simp <;> omega
end Go.Proofs.YtmgdbbbdhkfdmaaGreat
namespace Go.Proofs.YtmgdbbbdhkfdmaaGreat
set_option maxRecDepth 100000
open Go.RowKit Go.Deep
theorem data_si{S:Nat->Prop}{w:World}{H:Hd}{x:St}(m:SI S w H x)(hi:Inv x.heap)(p:Prt)(dv:Value)(T:Nat->Prop)(hd:Byt T w dv p.d)(hT:∀ b,T b->b∉H.own)(hl:p.d.length<=100)(hu:x.unread.length<=1024)(hf0:0<=p.flags)(hf1:p.flags<=15) :
  Calls Tryz.prog 93 #[ptr H.g,agP p dv] w (qgb S w H (jv x p)):=by
 have hy:=xH x p;generalize jv x p=y at *
 have hi1:Inv (kV x p):=by unfold kV;split;exact qbs hi _;exact hi
 have hd1:kV x p=if has p.flags 4 then (yD x.heap (kL p.seq x.peer x.heap.next+p.d.length)).1 else x.heap:=rfl;obtain⟨fl,sq,ak,wi,d⟩:=p;dsimp only at *
 obtain⟨A,c,rfl,_,_⟩:=hd.form;have hn0:=hi.n0;have hn1:=hi.n1;have hpb:=qga sq x.peer x.heap.next hn0;have hgl:=m.blk.lt;have f0:Fr [] w (w.alloc (.cells (arP ⟨fl,sq,ak,wi,d⟩ (.slice A d.length c)) 49)):=(Fr.refl [] w).alloc _;have b0:Blk (w.alloc (.cells (arP ⟨fl,sq,ak,wi,d⟩ (.slice A d.length c)) 49)) w.heap.size 49 (arP ⟨fl,sq,ak,wi,d⟩ (.slice A d.length c)):=Blk.new w _ _;have M:=hI m;have HD:=hI hd;have HT:=hI hT;have HI:=hI hi;have HI1:=hI hi1;have HD1:=hI hd1;have hpl0:=fun W=>qdm sq x.peer x.heap.next W zw zw;have HPl0:=hI hpl0;have hbit:=xW fl 4 hf0 hf1 zs;clear m hd hT hi hi1 hd1 hpl0;generalize kV x ⟨fl,sq,ak,wi,d⟩=h1 at *
 generalize kL sq x.peer x.heap.next=at_ at *
 have HY:=hI hy;clear hy;have hat:IntKind.i64.wrap (at_+(d.length:Int))=at_+(d.length:Int):=IntWalk.i64_in _ zw;go_enter Tryz.func93,Tryz.ntmps93;go_upto_region 1 with fail
 generalize w.alloc (.cells (arP ⟨fl,sq,ak,wi,d⟩ (.slice A d.length c)) 49)=w0 at *
 have m0:=M.out.fr f0;have cs:=qm m0.blk;obtain⟨y0,y1,y2,y3,y4⟩:=cells5 b0;have g0:=Grew.cell y1;have g1:=Grew.cell cs.c2;have g2:=Grew.cell cs.c18;have hN:∀ q:Grew w0,Calls Tryz.prog 49 #[ptr H.gh] q.W fun e w'=>e = .returned (.int .i64 x.heap.next)/\∃ q':Grew w0,w'=q'.W:=fun q=>kN (qai (m0.hp.ext' q.fr (Ext.refl w0 S) zs zs (fun b hb=>Nat.lt_of_lt_of_le (HP.zA m0.hp b hb) q.fr.size)));have hP:∀ q:Grew w0,Calls Tryz.prog 114 #[.int .u32 sq, .int .u32 x.peer, .int .i64 x.heap.next] q.W fun e w'=>e = .returned (.int .i64 at_)/\∃ q':Grew w0,w'=q'.W:=fun q=>qG (HPl0.out q.W);have HN:=hI hN;have HPl:=hI hP;have F0:=hI f0;have B0:=hI b0;clear hN hP m0 cs y0 y1 y2 y3 y4 f0 b0;refine qg zk zk ?_;repeat (go_big_quiet_step (first|(go_at_call 49;exact HN.out _)|(go_at_call 114;exact HPl.out _)))
 refine wpQuiet_nil ?_;intro w2 f2;have F2:=hI (F0.out.trans f2 zs);have B2:=hI (B0.out.fr f2 zs);have m2:=M.out.fr F2.out;have cs:=qm m2.blk;have c18:=cs.c18;obtain⟨y0,y1,y2,y3,y4⟩:=cells5 B2.out;have M2:=hI m2;have hgh2:∀ y∈H.gh::ob H.kv,y≠H.g:=m2.ne_h;have NG:=hI hgh2;clear f2 g0 g1 g2 HN HPl F0 B0 m2 cs hgh2;rcases Bool.eq_false_or_eq_true (has fl 4) with hf|hf
 ·rw [hf] at hbit
  have hbq:(bits BinOp.and IntKind.i64 fl 4 != 0)=true:=by simpa using hbit
  have hh1:h1=(yD x.heap (at_+d.length)).1:=by rw [HD1.out,hf];rfl
  have HH1:=hI hh1;clear hbit hh1;go_wp2_with fail
  refine (end_any M2.out.hp HI.out (at_+d.length)).mono ?_;rintro e w3 ⟨S1,rfl,e3,m3,f3⟩;rw [<- HH1.out] at m3;have E3:=hI e3;have F3:=hI f3;have M3:=hI (M2.out.seth e3 m3 (f3.mono zs) (fun b hb => .inl hb)).1;clear e3 m3 f3 c18 hbq;have c15:w3.cell? ⟨H.g,15,none⟩=some H.uv:=(qm M3.out.blk).c15;have c18':w3.cell? ⟨H.g,18,none⟩=some (ptr H.gh):=(qm M3.out.blk).c18;obtain⟨uA,uc,huv,_,_⟩:=qY M3.out.unr;have UN:=hI M3.out.unr;rw [huv] at c15;have HUV:=hI huv;have g15:=Grew.cell c15;have g18:=Grew.cell c18';have hN:∀ q:Grew w3,Calls Tryz.prog 49 #[ptr H.gh] q.W fun e w'=>e = .returned (.int .i64 h1.next)/\∃ q':Grew w3,w'=q'.W:=fun q=>kN (qai (M3.out.hp.ext' q.fr (Ext.refl w3 S1) zs zs (fun b hb=>Nat.lt_of_lt_of_le (HP.zA M3.out.hp b hb) q.fr.size)));have HN:=hI hN;have hb0:=HI1.out.n0;have hb1:=HI1.out.n1;have hs1:IntKind.i64.wrap (at_+(d.length:Int) - h1.next)=at_+(d.length:Int) - h1.next:=IntWalk.i64_in _ zw;have hs2:IntKind.i64.wrap (1024 - (x.unread.length:Int))=1024 - (x.unread.length:Int):=IntWalk.i64_in _ zw;have W3F:Hid (Fr H.own w w3):=hI ((F2.out.mono zs).trans (F3.out.mono (O':=H.own) zh) (fun y hy => .inl hy));clear hN huv y0 y1 y2 y3 y4;have B3:=hI (B2.out.fr F3.out (by simp;have:=M.out.lt H.gh zh;omega));by_cases hc:0<d.length/\at_+d.length - h1.next<=1024 - x.unread.length
  ·have hY:=HY.out
   rw [if_pos hc] at hY;have HYY:=hI hY;clear hY;obtain⟨hc1,hc2⟩:=hc;have hq1:(0:Int)<(d.length:Int):=zw;go_upto_region 5 with fail
   refine qg zk zk ?_;repeat (go_big_quiet_step ((go_at_call 49;exact HN.out _)))
   refine wpQuiet_nil ?_;intro w4 f4;have m4:=M3.out.fr f4;have F4:=hI f4;have hby:Byt T w4 (.slice A d.length c) d:=(HD.out.fr W3F.out (fun y hy hs=>HT.out y hs hy)).fr f4 zs;have hput:∀ W,Fr [] w4 W->Calls Tryz.prog 117 #[ptr H.gh, .int .i64 at_, .slice A d.length c] W (jw S1 W H.gh H.kv (jS h1 at_ d).1 (jS h1 at_ d).2.1 (jS h1 at_ d).2.2):=fun W fW=>put_any (m4.fr fW).hp HI1.out at_ _ d T (hby.fr fW zs) zw;have hpo:=xu h1 at_ d;have hsm:=qaw h1 HI1.out;have hYY:=HYY.out;have M4:=hI m4;have e18:w4.cell? ⟨H.g,18,none⟩=some (ptr H.gh):=ql f4 c18';have e4:w4.cell? ⟨w.heap.size,4,none⟩=some (.slice A d.length c):=by have:=(B3.out.fr f4 zs);exact (cells5 this).2.2.2.2
   have SEE:Hid (∀ W,Fr [] w4 W->W.cell? ⟨H.g,18,none⟩=some (ptr H.gh)/\W.cell? ⟨w.heap.size,4,none⟩=some (.slice A d.length c)):=hI (fun W fW=>⟨ql fW e18,ql fW e4⟩);have NR:Hid (w.heap.size∉H.gh::ob H.kv):=hI (fun hm=>by have:=M.out.lt w.heap.size (by rcases List.mem_cons.1 hm with h|h <;> simp [Hd.own,h]);omega);have NGG:Hid (H.g∉H.gh::ob H.kv):=hI (fun hm=>NG.out _ hm rfl);generalize jS h1 at_ d=Q at *
   have HPut:=hI hput;have HYQ:=hI hYY;clear hput hby m4 f4 hYY g15 g18 c15 hc1 hc2 HYY;go_upto_region 6 with fail
   go_region_held3 (fun w'=>w'.cell? ⟨H.g,18,none⟩=some (ptr H.gh)/\w'.cell? ⟨w.heap.size,4,none⟩=some (.slice A d.length c))
    (first
     | (with_reducible exact⟨s0,s1⟩)|(with_reducible exact SEE.out _ (Fr.refl [] w4).drew)
     | go_keep)
    (first
     | (go_at_call 117;refine (HPut.out _ (Fr.refl [] w4).drew).mono ?_;rintro e w5 ⟨S5,kv5,A5,c5,rfl,x5,by5,m5,f5,n5⟩;have f5':Fr (H.gh::ob H.kv) w4 w5:=(Fr.refl (H.gh::ob H.kv) w4).drew.trans f5 (fun y hy => .inl hy);have s0:w5.cell? ⟨H.g,18,none⟩=some (ptr H.gh):=(f5'.cell (p:=⟨H.g,18,none⟩) (World.block_lt_of_cell? w4 _ e18) NGG.out).trans e18;have s1:w5.cell? ⟨w.heap.size,4,none⟩=some (.slice A d.length c):=(f5'.cell (p:=⟨w.heap.size,4,none⟩) (World.block_lt_of_cell? w4 _ e4) NR.out).trans e4;have X5:Hid (Ext w4 S1 S5):=hI x5;have BY5:=hI by5;have SH:=hI (M4.out.seth (h':=Q.1) x5 m5 f5' n5);have F5:=hI f5';clear x5 by5 m5 f5 n5 f5'))
   obtain⟨m5,lk5⟩:=SH.out;generalize Q.1=q1 at *
   generalize Q.2.1=o5 at *
   generalize Q.2.2=er at *
   have d15:w5.cell? ⟨H.g,15,none⟩=some (.slice uA x.unread.length uc):=by rw [<- HUV.out];exact (qm m5.blk).c15
   have z15:w5.frozen? ⟨H.g,15,none⟩=false:=m5.blk.frozen 15;have UN5:Hid (w5.ownsRow 0 5 1 (.slice uA x.unread.length uc) x.unread.length (kE x.unread)):=hI (by rw [<- HUV.out];exact m5.unr);have M5:=hI m5;have LK5:=hI lk5;have HLM:Hid (x.unread.length+o5.length<=maxLen):=hI (by unfold maxLen;omega);have HLB:Hid ((x.unread.length+o5.length) * 1<=140737488355328):=hI zw;have NU:Hid (H.g∉ob H.uv):=hI (fun hm=>m5.qer _ hm rfl);have hgl5:=m5.blk.lt;clear m5 lk5 SH hpo hsm e18 e4;obtain⟨i0,hi0,hz0,hz1,hz2⟩:=info_parts vM;go_upto_region 8 with (at_builtin;refine qE _ rfl (.tmp 71) (.tmp 72) 30 rfl 5 i0 (.int .u8 0) 1 1 Tryz.underlying30 hi0 hz0 hz1 hz2 rfl zd (.slice uA x.unread.length uc) x.unread.length (kE x.unread) zr UN5.out S5 (.slice A5 o5.length c5) o5.length (kE o5) zr BY5.out (ji _) HLM.out HLB.out (x.unread.length+o5.length) rfl ?_;intro A7 c7 W7 h10 h11 h12;have H10:=hI h10;have h11':Fr (ob H.uv) w5 W7:=(by rw [HUV.out];exact h11);have H11:=hI h11';have H12:=hI h12;have co7:=M5.out.blk.fr h11' NU.out;have y0:W7.cell? ⟨H.g,15,none⟩=some (.slice uA x.unread.length uc):=(by rw [<- HUV.out];exact (qm co7).c15);have y1:=co7.frozen 15;have y2:=co7.lt;have y3:=(qm co7).c18;clear h10 h11 h11' h12 co7)
   have su:=M5.out.setu (b:=o5) (uv' := .slice A7 (x.unread.length+o5.length) c7) (by have:=H10.out;rw [vJ] at this;rw [List.length_append];exact this) H11.out (fun y hy=>by rw [HUV.out];exact H12.out y hy);clear d15 z15 y0 y1 y2 y3 H10 H11 H12 UN5;obtain⟨m8,lk8,f8⟩:=su;generalize W7.setCell ⟨H.g,15,none⟩ (.slice A7 (x.unread.length+o5.length) c7)=w8 at *
   have M8:=hI m8;have LK8:=hI lk8;have F8:=hI f8;have b18:w8.cell? ⟨H.g,18,none⟩=some (ptr H.gh):=(qm m8.blk).c18;clear m8 lk8 f8 hi0 hz0 hz1 hz2 s0 s1;go_wp2_with fail
   refine (qbt M8.out.hp).mono ?_;rintro e w9 ⟨rfl,f9⟩;have m9:=M8.out.fr f9;have z12:w9.frozen? ⟨H.g,12,none⟩=false:=m9.blk.frozen 12;have d12:w9.cell? ⟨H.g,12,none⟩=some (.bool x.ended):=(qm m9.blk).c12;have hl9:=m9.blk.lt;have M9:=hI m9;have F9:=hI f9;clear m9 f9 b18;go_wp2_with fail
   have m10:=M9.out.xX (isFin q1)
   go_end0
   rw [HYQ.out];have hz4:=F4.out.size;have hz5:=F5.out.size;have hzw:=W3F.out.size;refine⟨S5,_,rfl,kM (E3.out.trans F3.out.size (kM X5.out hz4)) F2.out.size,Hd.like.trans (w1:=w4) (Hd.like.rfl' w H) zw (Hd.like.trans LK5.out hz5 LK8.out),m10,?_⟩;have G1:Fr H.own w w5:=(W3F.out.trans (F4.out.mono zs) (fun y hy => .inl hy)).trans (F5.out.mono (O':=H.own) (fun y hy=>by rcases List.mem_cons.1 hy with h|h <;> simp [Hd.own,h])) (fun y hy => .inl hy);have G2:Fr H.own w w8:=G1.trans F8.out (fun y hy=>by
    rcases LK5.out.own y hy with h|h
    ·exact .inl h
    ·exact .inr zw)
   exact (G2.trans (F9.out.mono zs) (fun y hy => .inl hy)).trans ((Fr.refl [H.g] w9).setCell (p:=⟨H.g,12,none⟩) (.inl zs) (.bool (isFin q1))) (fun y hy => .inl (by simp at hy;simp [Hd.own,hy]))
  ·have hY:=HY.out
   rw [if_neg hc] at hY;have HYY:=hI hY;clear hY;have hdone:∀ W,Fr [] w3 W->Calls Tryz.prog 118 #[ptr H.gh] W fun e w'=>e = .returned (.bool (isFin h1))/\Fr [] W w':=fun W fW=>qbt (M3.out.fr fW).hp;have HDn:=hI hdone;clear hdone;by_cases hq:0<(d.length:Int)
   ·have hq2:¬ (at_+(d.length:Int) - h1.next<=1024 - (x.unread.length:Int)):=fun h=>hc ⟨zw,h⟩
    have hq':0<d.length:=zw;clear hc hq;go_upto_region 5 with fail
    refine qg zk zk ?_;repeat (go_big_quiet_step ((go_at_call 49;exact HN.out _)))
    refine wpQuiet_nil ?_;intro w4 f4;have M4:=hI (M3.out.fr f4);have e18:w4.cell? ⟨H.g,18,none⟩=some (ptr H.gh):=ql f4 c18';have F4:=hI f4;clear f4 g15 g18 c15;go_wp2_with fail
    refine (HDn.out _ F4.out).mono ?_;rintro e w5 ⟨rfl,f5⟩;have M5:=hI (M4.out.fr f5);have z12:w5.frozen? ⟨H.g,12,none⟩=false:=M5.out.blk.frozen 12;have d12:w5.cell? ⟨H.g,12,none⟩=some (.bool x.ended):=(qm M5.out.blk).c12;have F5:=hI (F4.out.trans f5 zs);have hl5:=M5.out.blk.lt;clear f5 e18;go_wp2_with fail
    have m6:=M5.out.xX (isFin h1)
    go_end0
    rw [HYY.out];exact⟨S1,H,rfl,kM E3.out F2.out.size,Hd.like.rfl' w H,m6,(W3F.out.trans (F5.out.mono zs) (fun y hy => .inl hy)).trans ((Fr.refl [H.g] w5).setCell (p:=⟨H.g,12,none⟩) (.inl zs) (.bool (isFin h1))) (fun y hy => .inl (by simp at hy;simp [Hd.own,hy]))⟩
   ·have hq':¬ 0<d.length:=zw
    clear hc hq;go_upto_region 5 with fail
    refine qg zk zk ?_;repeat (go_big_quiet_step ((go_at_call 49;exact HN.out _)))
    refine wpQuiet_nil ?_;intro w4 f4;have M4:=hI (M3.out.fr f4);have e18:w4.cell? ⟨H.g,18,none⟩=some (ptr H.gh):=ql f4 c18';have F4:=hI f4;clear f4 g15 g18 c15;go_wp2_with fail
    refine (HDn.out _ F4.out).mono ?_;rintro e w5 ⟨rfl,f5⟩;have M5:=hI (M4.out.fr f5);have z12:w5.frozen? ⟨H.g,12,none⟩=false:=M5.out.blk.frozen 12;have d12:w5.cell? ⟨H.g,12,none⟩=some (.bool x.ended):=(qm M5.out.blk).c12;have F5:=hI (F4.out.trans f5 zs);have hl5:=M5.out.blk.lt;clear f5 e18;go_wp2_with fail
    have m6:=M5.out.xX (isFin h1)
    go_end0
    rw [HYY.out];exact⟨S1,H,rfl,kM E3.out F2.out.size,Hd.like.rfl' w H,m6,(W3F.out.trans (F5.out.mono zs) (fun y hy => .inl hy)).trans ((Fr.refl [H.g] w5).setCell (p:=⟨H.g,12,none⟩) (.inl zs) (.bool (isFin h1))) (fun y hy => .inl (by simp at hy;simp [Hd.own,hy]))⟩
 ·rw [hf] at hbit
  have hbq:(bits BinOp.and IntKind.i64 fl 4 != 0)=false:=by simpa using hbit
  have hh1:h1=x.heap:=by rw [HD1.out,hf];rfl
  subst hh1;clear hbit;go_upto_region 5 with fail
  have E3:Hid (Ext w2 S S):=hI (Ext.refl w2 S);have F3:Hid (Fr [H.gh] w2 w2):=hI (Fr.refl _ _);have M3:Hid (SI S w2 H { x with heap:=x.heap }):=M2;have c15:w2.cell? ⟨H.g,15,none⟩=some H.uv:=(qm M3.out.blk).c15;have c18':w2.cell? ⟨H.g,18,none⟩=some (ptr H.gh):=(qm M3.out.blk).c18;obtain⟨uA,uc,huv,_,_⟩:=qY M3.out.unr;have UN:=hI M3.out.unr;rw [huv] at c15;have HUV:=hI huv;have g15:=Grew.cell c15;have g18:=Grew.cell c18';have hN:∀ q:Grew w2,Calls Tryz.prog 49 #[ptr H.gh] q.W fun e w'=>e = .returned (.int .i64 x.heap.next)/\∃ q':Grew w2,w'=q'.W:=fun q=>kN (qai (M3.out.hp.ext' q.fr (Ext.refl w2 S) zs zs (fun b hb=>Nat.lt_of_lt_of_le (HP.zA M3.out.hp b hb) q.fr.size)));have HN:=hI hN;have hb0:=HI1.out.n0;have hb1:=HI1.out.n1;have hs1:IntKind.i64.wrap (at_+(d.length:Int) - x.heap.next)=at_+(d.length:Int) - x.heap.next:=IntWalk.i64_in _ zw;have hs2:IntKind.i64.wrap (1024 - (x.unread.length:Int))=1024 - (x.unread.length:Int):=IntWalk.i64_in _ zw;have W3F:Hid (Fr H.own w w2):=hI ((F2.out.mono zs).trans (F3.out.mono (O':=H.own) zh) (fun y hy => .inl hy));clear hN huv y0 y1 y2 y3 y4;have B3:=hI (B2.out.fr F3.out (by simp;have:=M.out.lt H.gh zh;omega));by_cases hc:0<d.length/\at_+d.length - x.heap.next<=1024 - x.unread.length
  ·have hY:=HY.out
   rw [if_pos hc] at hY;have HYY:=hI hY;clear hY;obtain⟨hc1,hc2⟩:=hc;have hq1:(0:Int)<(d.length:Int):=zw;refine qg zk zk ?_;repeat (go_big_quiet_step ((go_at_call 49;exact HN.out _)))
   refine wpQuiet_nil ?_;intro w4 f4;have m4:=M3.out.fr f4;have F4:=hI f4;have hby:Byt T w4 (.slice A d.length c) d:=(HD.out.fr W3F.out (fun y hy hs=>HT.out y hs hy)).fr f4 zs;have hput:∀ W,Fr [] w4 W->Calls Tryz.prog 117 #[ptr H.gh, .int .i64 at_, .slice A d.length c] W (jw S W H.gh H.kv (jS x.heap at_ d).1 (jS x.heap at_ d).2.1 (jS x.heap at_ d).2.2):=fun W fW=>put_any (m4.fr fW).hp HI1.out at_ _ d T (hby.fr fW zs) zw;have hpo:=xu x.heap at_ d;have hsm:=qaw x.heap HI1.out;have hYY:=HYY.out;have M4:=hI m4;have e18:w4.cell? ⟨H.g,18,none⟩=some (ptr H.gh):=ql f4 c18';have e4:w4.cell? ⟨w.heap.size,4,none⟩=some (.slice A d.length c):=by have:=(B3.out.fr f4 zs);exact (cells5 this).2.2.2.2
   have SEE:Hid (∀ W,Fr [] w4 W->W.cell? ⟨H.g,18,none⟩=some (ptr H.gh)/\W.cell? ⟨w.heap.size,4,none⟩=some (.slice A d.length c)):=hI (fun W fW=>⟨ql fW e18,ql fW e4⟩);have NR:Hid (w.heap.size∉H.gh::ob H.kv):=hI (fun hm=>by have:=M.out.lt w.heap.size (by rcases List.mem_cons.1 hm with h|h <;> simp [Hd.own,h]);omega);have NGG:Hid (H.g∉H.gh::ob H.kv):=hI (fun hm=>NG.out _ hm rfl);generalize jS x.heap at_ d=Q at *
   have HPut:=hI hput;have HYQ:=hI hYY;clear hput hby m4 f4 hYY g15 g18 c15 hc1 hc2 HYY;go_upto_region 6 with fail
   go_region_held3 (fun w'=>w'.cell? ⟨H.g,18,none⟩=some (ptr H.gh)/\w'.cell? ⟨w.heap.size,4,none⟩=some (.slice A d.length c))
    (first
     | (with_reducible exact⟨s0,s1⟩)|(with_reducible exact SEE.out _ (Fr.refl [] w4).drew)
     | go_keep)
    (first
     | (go_at_call 117;refine (HPut.out _ (Fr.refl [] w4).drew).mono ?_;rintro e w5 ⟨S5,kv5,A5,c5,rfl,x5,by5,m5,f5,n5⟩;have f5':Fr (H.gh::ob H.kv) w4 w5:=(Fr.refl (H.gh::ob H.kv) w4).drew.trans f5 (fun y hy => .inl hy);have s0:w5.cell? ⟨H.g,18,none⟩=some (ptr H.gh):=(f5'.cell (p:=⟨H.g,18,none⟩) (World.block_lt_of_cell? w4 _ e18) NGG.out).trans e18;have s1:w5.cell? ⟨w.heap.size,4,none⟩=some (.slice A d.length c):=(f5'.cell (p:=⟨w.heap.size,4,none⟩) (World.block_lt_of_cell? w4 _ e4) NR.out).trans e4;have X5:Hid (Ext w4 S S5):=hI x5;have BY5:=hI by5;have SH:=hI (M4.out.seth (h':=Q.1) x5 m5 f5' n5);have F5:=hI f5';clear x5 by5 m5 f5 n5 f5'))
   obtain⟨m5,lk5⟩:=SH.out;generalize Q.1=q1 at *
   generalize Q.2.1=o5 at *
   generalize Q.2.2=er at *
   have d15:w5.cell? ⟨H.g,15,none⟩=some (.slice uA x.unread.length uc):=by rw [<- HUV.out];exact (qm m5.blk).c15
   have z15:w5.frozen? ⟨H.g,15,none⟩=false:=m5.blk.frozen 15;have UN5:Hid (w5.ownsRow 0 5 1 (.slice uA x.unread.length uc) x.unread.length (kE x.unread)):=hI (by rw [<- HUV.out];exact m5.unr);have M5:=hI m5;have LK5:=hI lk5;have HLM:Hid (x.unread.length+o5.length<=maxLen):=hI (by unfold maxLen;omega);have HLB:Hid ((x.unread.length+o5.length) * 1<=140737488355328):=hI zw;have NU:Hid (H.g∉ob H.uv):=hI (fun hm=>m5.qer _ hm rfl);have hgl5:=m5.blk.lt;clear m5 lk5 SH hpo hsm e18 e4;obtain⟨i0,hi0,hz0,hz1,hz2⟩:=info_parts vM;go_upto_region 8 with (at_builtin;refine qE _ rfl (.tmp 71) (.tmp 72) 30 rfl 5 i0 (.int .u8 0) 1 1 Tryz.underlying30 hi0 hz0 hz1 hz2 rfl zd (.slice uA x.unread.length uc) x.unread.length (kE x.unread) zr UN5.out S5 (.slice A5 o5.length c5) o5.length (kE o5) zr BY5.out (ji _) HLM.out HLB.out (x.unread.length+o5.length) rfl ?_;intro A7 c7 W7 h10 h11 h12;have H10:=hI h10;have h11':Fr (ob H.uv) w5 W7:=(by rw [HUV.out];exact h11);have H11:=hI h11';have H12:=hI h12;have co7:=M5.out.blk.fr h11' NU.out;have y0:W7.cell? ⟨H.g,15,none⟩=some (.slice uA x.unread.length uc):=(by rw [<- HUV.out];exact (qm co7).c15);have y1:=co7.frozen 15;have y2:=co7.lt;have y3:=(qm co7).c18;clear h10 h11 h11' h12 co7)
   have su:=M5.out.setu (b:=o5) (uv' := .slice A7 (x.unread.length+o5.length) c7) (by have:=H10.out;rw [vJ] at this;rw [List.length_append];exact this) H11.out (fun y hy=>by rw [HUV.out];exact H12.out y hy);clear d15 z15 y0 y1 y2 y3 H10 H11 H12 UN5;obtain⟨m8,lk8,f8⟩:=su;generalize W7.setCell ⟨H.g,15,none⟩ (.slice A7 (x.unread.length+o5.length) c7)=w8 at *
   have M8:=hI m8;have LK8:=hI lk8;have F8:=hI f8;have b18:w8.cell? ⟨H.g,18,none⟩=some (ptr H.gh):=(qm m8.blk).c18;clear m8 lk8 f8 hi0 hz0 hz1 hz2 s0 s1;go_wp2_with fail
   refine (qbt M8.out.hp).mono ?_;rintro e w9 ⟨rfl,f9⟩;have m9:=M8.out.fr f9;have z12:w9.frozen? ⟨H.g,12,none⟩=false:=m9.blk.frozen 12;have d12:w9.cell? ⟨H.g,12,none⟩=some (.bool x.ended):=(qm m9.blk).c12;have hl9:=m9.blk.lt;have M9:=hI m9;have F9:=hI f9;clear m9 f9 b18;go_wp2_with fail
   have m10:=M9.out.xX (isFin q1)
   go_end0
   rw [HYQ.out];have hz4:=F4.out.size;have hz5:=F5.out.size;have hzw:=W3F.out.size;refine⟨S5,_,rfl,kM (kM X5.out hz4) F2.out.size,Hd.like.trans (w1:=w4) (Hd.like.rfl' w H) zw (Hd.like.trans LK5.out hz5 LK8.out),m10,?_⟩;have G1:Fr H.own w w5:=(W3F.out.trans (F4.out.mono zs) (fun y hy => .inl hy)).trans (F5.out.mono (O':=H.own) (fun y hy=>by rcases List.mem_cons.1 hy with h|h <;> simp [Hd.own,h])) (fun y hy => .inl hy);have G2:Fr H.own w w8:=G1.trans F8.out (fun y hy=>by
    rcases LK5.out.own y hy with h|h
    ·exact .inl h
    ·exact .inr zw)
   exact (G2.trans (F9.out.mono zs) (fun y hy => .inl hy)).trans ((Fr.refl [H.g] w9).setCell (p:=⟨H.g,12,none⟩) (.inl zs) (.bool (isFin q1))) (fun y hy => .inl (by simp at hy;simp [Hd.own,hy]))
  ·have hY:=HY.out
   rw [if_neg hc] at hY;have HYY:=hI hY;clear hY;have hdone:∀ W,Fr [] w2 W->Calls Tryz.prog 118 #[ptr H.gh] W fun e w'=>e = .returned (.bool (isFin x.heap))/\Fr [] W w':=fun W fW=>qbt (M3.out.fr fW).hp;have HDn:=hI hdone;clear hdone;by_cases hq:0<(d.length:Int)
   ·have hq2:¬ (at_+(d.length:Int) - x.heap.next<=1024 - (x.unread.length:Int)):=fun h=>hc ⟨zw,h⟩
    have hq':0<d.length:=zw;clear hc hq;refine qg zk zk ?_;repeat (go_big_quiet_step ((go_at_call 49;exact HN.out _)))
    refine wpQuiet_nil ?_;intro w4 f4;have M4:=hI (M3.out.fr f4);have e18:w4.cell? ⟨H.g,18,none⟩=some (ptr H.gh):=ql f4 c18';have F4:=hI f4;clear f4 g15 g18 c15;go_wp2_with fail
    refine (HDn.out _ F4.out).mono ?_;rintro e w5 ⟨rfl,f5⟩;have M5:=hI (M4.out.fr f5);have z12:w5.frozen? ⟨H.g,12,none⟩=false:=M5.out.blk.frozen 12;have d12:w5.cell? ⟨H.g,12,none⟩=some (.bool x.ended):=(qm M5.out.blk).c12;have F5:=hI (F4.out.trans f5 zs);have hl5:=M5.out.blk.lt;clear f5 e18;go_wp2_with fail
    have m6:=M5.out.xX (isFin x.heap)
    go_end0
    rw [HYY.out];exact⟨S,H,rfl,kM E3.out F2.out.size,Hd.like.rfl' w H,m6,(W3F.out.trans (F5.out.mono zs) (fun y hy => .inl hy)).trans ((Fr.refl [H.g] w5).setCell (p:=⟨H.g,12,none⟩) (.inl zs) (.bool (isFin x.heap))) (fun y hy => .inl (by simp at hy;simp [Hd.own,hy]))⟩
   ·have hq':¬ 0<d.length:=zw
    clear hc hq;refine qg zk zk ?_;repeat (go_big_quiet_step ((go_at_call 49;exact HN.out _)))
    refine wpQuiet_nil ?_;intro w4 f4;have M4:=hI (M3.out.fr f4);have e18:w4.cell? ⟨H.g,18,none⟩=some (ptr H.gh):=ql f4 c18';have F4:=hI f4;clear f4 g15 g18 c15;go_wp2_with fail
    refine (HDn.out _ F4.out).mono ?_;rintro e w5 ⟨rfl,f5⟩;have M5:=hI (M4.out.fr f5);have z12:w5.frozen? ⟨H.g,12,none⟩=false:=M5.out.blk.frozen 12;have d12:w5.cell? ⟨H.g,12,none⟩=some (.bool x.ended):=(qm M5.out.blk).c12;have F5:=hI (F4.out.trans f5 zs);have hl5:=M5.out.blk.lt;clear f5 e18;go_wp2_with fail
    have m6:=M5.out.xX (isFin x.heap)
    go_end0
    rw [HYY.out];exact⟨S,H,rfl,kM E3.out F2.out.size,Hd.like.rfl' w H,m6,(W3F.out.trans (F5.out.mono zs) (fun y hy => .inl hy)).trans ((Fr.refl [H.g] w5).setCell (p:=⟨H.g,12,none⟩) (.inl zs) (.bool (isFin x.heap))) (fun y hy => .inl (by simp at hy;simp [Hd.own,hy]))⟩
structure OkS(x:St):Prop where
 hi:Inv x.heap
 hu:x.unread.length<=1024
 hw:Win.Inv 1000000000 x.win
 hc:Rto.Inv x.clk
 hm:x.win.m<=x.all.length
 hl:x.all.length<=1000000
 n0:0<=x.now
 n1:x.now<=4611686018427387904
 s0:0<=x.since
 s1:x.since<=4611686018427387904
structure OkP(p:Prt):Prop where
 f0:0<=p.flags
 f1:p.flags<=15
 d1:p.d.length<=100
 w0:0<=p.win
 w1:p.win<65536
theorem qbf(v:Win.Wn)(u r:Int):(Win.je v u r).1.m=v.m:=by
 unfold Win.je
 (repeat' split) <;> rfl
theorem qdp(x:St)(p:Prt):(zy x p).heap=x.heap/\(zy x p).unread=x.unread/\(zy x p).ended=x.ended/\(zy x p).win.m=x.win.m/\(zy x p).fin=x.fin:=by
 unfold zy qB
 (repeat' split) <;> exact⟨rfl,rfl,rfl,qbf _ _ _,rfl⟩
theorem data_ok(x:St)(p:Prt)(hi:Inv x.heap)(hu:x.unread.length<=1024)(hd:p.d.length<=100):Inv (jv x p).heap/\(jv x p).unread.length<=100000/\(jv x p).win=x.win:=by
 rw [xH];have h1:Inv (kV x p):=by unfold kV;split;exact qbs hi _;exact hi
 split
 ·refine⟨qel h1 _ _,?_,rfl⟩
  have h2:=xu (kV x p) (kL p.seq x.peer x.heap.next) p.d;have h3:=qaw _ h1;simp only [List.length_append];omega
 ·exact⟨h1,by simp only [];omega,rfl⟩
theorem zS.of{S S0:Nat->Prop}{w w0:World}{H H0:Hd}{r:St × List Prt}{e:Ending}{w':World}(e0:Ext w S S0)(hl:Hd.like w H H0)(f0:Fr H.own w w0)(h:zS S0 w0 H0 r e w'):zS S w H r e w':=by
 obtain⟨S1,H1,v,L,he,hr,x1,l1,m1,p1,n1,f1⟩:=h;have hz:=f0.size;exact⟨S1,H1,v,L,he,hr,e0.trans hz x1,hl.trans hz l1,m1,p1,fun b hb=>⟨by have:=(n1 b hb).1;omega,(n1 b hb).2⟩,f0.trans f1 (fun y hy=>hl.own y hy)⟩
end Go.Proofs.YtmgdbbbdhkfdmaaGreat
