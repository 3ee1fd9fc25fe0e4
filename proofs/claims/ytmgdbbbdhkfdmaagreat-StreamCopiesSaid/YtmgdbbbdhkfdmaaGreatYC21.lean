import Derived.Test.YtmgdbbbdhkfdmaaGreatYC20
import Derived.Deep.DeepCutAuto
import Derived.Test.YtmgdbbbdhkfdmaaGreatYC10
import Derived.Test.YtmgdbbbdhkfdmaaGreatYC0
import Derived.Test.YtmgdbbbdhkfdmaaGreatYC2
set_option linter.unusedSimpArgs false
set_option linter.unusedVariables false
set_option maxHeartbeats 40000000
namespace Go.Proofs.YtmgdbbbdhkfdmaaGreat
set_option maxRecDepth 100000
open Go.RowKit Go.Deep
def EL3(S:Nat->Prop)(w:World)(r:St × List Prt × Int)(e:Ending)(w':World):Prop:=
 ∃ S' av uv kv v L,e = .returned (.tuple #[agE r.1 av uv kv,v, .int .i64 r.2.2])/\L.map (·.1)=r.2.1/\Ext w S S'/\RE S' w' r.1 av uv kv/\Pr S' w' v L/\Fr [] w w'
theorem eclose{S:Nat->Prop}{w:World}{x:St}{av uv kv:Value}(m:RE S w x av uv kv)(ok:OkS x)(ou:OkU x)(bk:x.broken=true->x.at_=5):Calls Tryz.prog 33 #[agE x av uv kv] w (EL3 S w (jE x)):=by
 have o1:=m.qN;have vo:=qbi x;have vg:=qdy x;have hov:xE x=(x.at_ == 5 || x.closing):=rfl;have okc:OkS { x with closing:=true }:=⟨ok.hi,ok.hu,ok.hw,ok.hc,ok.hm,ok.hl,ok.n0,ok.n1,ok.s0,ok.s1⟩;have hsn:=yU { x with closing:=true };have hes:=fun (S1:Nat->Prop) (W:World) (a1 u1 k1:Value) (m1:RE S1 W { x with closing:=true } a1 u1 k1)=>qib m1 okc ⟨ou.i0,ou.i1,ou.p0,ou.p1⟩ bk;obtain⟨⟨aA,ac,rfl,_,_⟩,_,_⟩:=m.forms;have l0:=Lo.start w (arE x (.slice aA x.all.length ac) uv kv);generalize jE x=r at *
 generalize qU { x with closing:=true }=R at *
 have HES:=hI hes;have HSN:=hI hsn;have VO:=hI vo;have VG:=hI vg;have HOV:=hI hov;have L0:=hI l0;have M:=hI m;clear hes hsn vo vg hov l0 m ok ou bk okc;go_enter Tryz.func33,Tryz.ntmps33;go_upto_region 1 with fail
 generalize (w.alloc (.cells (arE x (.slice aA x.all.length ac) uv kv) 41)).alloc (.cells qy 41)=w1 at *
 have L1:Hid (∀ W,Fr [] w1 W->Lo w W w.heap.size (w.heap.size+1) (arE x (.slice aA x.all.length ac) uv kv)):=hI (fun W f=>L0.out.grow f);have c2:w1.cell? ⟨w.heap.size,2,none⟩=some (.int .i64 x.at_):=L0.out.s.cell 2;have c25:w1.cell? ⟨w.heap.size,25,none⟩=some (.bool x.closing):=L0.out.s.cell 25;clear L0;by_cases h5:x.at_=5
 ·rw [h5] at c2
  have H5:=hI h5;clear h5;go_upto_region 2 with fail
  clear c2 c25;go_cut [3,4] (fun sa sb wx=>sa = .slice none 0 0/\sb = .int .i64 260/\Blk wx (w.heap.size+1) 41 (arE x (.slice aA x.all.length ac) uv kv)/\Fr [(w.heap.size+1)] w1 wx);case first=>
   go_wp2_with (first
     | ((with_reducible refine qj 41 (.tmp 1) ?_);refine qf rfl 41 (.tmp 1) rfl w.heap.size 41 (arE x (.slice aA x.all.length ac) uv kv) _ rfl (L1.out _ zf).s Tryz.underlying41 rfl zk ?_)|((with_reducible refine qi 41 (.tmp 2) ?_);refine qc rfl 41 (.tmp 2) (.tmp 14) rfl (w.heap.size+1) 41 qy (arE x (.slice aA x.all.length ac) uv kv) rfl rfl (L1.out _ zf).r rfl zk zq ?_;intro wz Bz Fz))
   go_meet;exact⟨rfl,rfl,Bz,Fz⟩
  case rest=>
   obtain⟨rfl,rfl,Bz,Fz⟩:=hcut;have FW:=(L1.out _ (Fr.refl [] w1)).res Fz;refine ‹∀(a:Act) (w:World),Code.wp Tryz.prog Code.ret _ a w->_› _ _ (wp_ret ?_);try simp only [Exit.then]
   change bodyPost Tryz.prog _ _ .ret _ _;refine bodyPost_ret (kR 2 41 ⟨w.heap.size+1,0,none⟩ _ 3 4 (.slice none 0 0) (.int .i64 260) zr zr (qw Bz) zr zr) zr ?_;rw [VO.out (by rw [HOV.out];simp [H5.out])];exact⟨S,_,_,_,_,[],rfl,rfl,Ext.refl w S,M.out.fr FW,Pr.nil,FW⟩
 ·have hd5:decide (x.at_=5)=false:=by simpa using h5
  have hq5:(x.at_ == 5)=false:=by simpa using h5
  have H5:=hI h5;clear h5;cases hcl:x.closing
  ·rw [hcl] at c25
   have HCL:=hI hcl;clear hcl;have z25:=(L1.out _ (Fr.refl [] w1)).s.frozen 25;have hlb:=(L1.out _ (Fr.refl [] w1)).s.lt;go_upto_region 4 with fail
   have hset:Lo w (w1.setCell ⟨w.heap.size,25,none⟩ (.bool true)) w.heap.size (w.heap.size+1) (arE { x with closing:=true } (.slice aA x.all.length ac) uv kv):=by
    have hh:=((L1.out _ (Fr.refl [] w1)).cell 25 (.bool true));simp only [arE,zqA,zqB,zqC] at hh |-
    exact hh
   generalize w1.setCell ⟨w.heap.size,25,none⟩ (.bool true)=w2 at *
   have L2:Hid (∀ W,Fr [] w2 W->Lo w W w.heap.size (w.heap.size+1) (arE { x with closing:=true } (.slice aA x.all.length ac) uv kv)):=hI (fun W f=>hset.grow f);have MS:Hid (RE S w2 { x with closing:=true } (.slice aA x.all.length ac) uv kv):=hI ((M.out.to_ (y:={ x with closing:=true }) rfl rfl rfl).fr hset.f);have XS:Hid (Ext w S S):=hI (Ext.refl w S);have NSR:Hid (¬ S (w.heap.size+1)):=hI (fun hs=>by have:=M.out.pub _ hs;omega);clear hset c2 c25 z25 hlb;have HES0:Hid (∀ W,Fr [] w2 W->Calls Tryz.prog 71 #[agE { x with closing:=true } (.slice aA x.all.length ac) uv kv] W (vS S W R (.slice aA x.all.length ac) uv kv)):=hI (fun W f=>HES.out S W _ _ _ (MS.out.fr f));go_upto_region 5 with (first
      | ((with_reducible refine qj 41 (.tmp 1) ?_);refine qf rfl 41 (.tmp 1) rfl w.heap.size 41 (arE { x with closing:=true } (.slice aA x.all.length ac) uv kv) _ rfl (L2.out _ zf).s Tryz.underlying41 rfl zk ?_)|(go_at_call 71;refine (HES0.out _ (Fr.refl _ _)).mono ?_;rintro e w8 ⟨v2,Ls,rfl,hLs,p2,f8⟩)|((with_reducible refine qi 41 (.tmp 5) ?_);refine qc rfl 41 (.tmp 5) (.tmp 19) rfl w8.heap.size 41 qy (arE R.1 (.slice aA x.all.length ac) uv kv) rfl rfl (Blk.new w8 41 qy) rfl zk zq ?_;intro w9 B9 F9))
   have fa8:Fr [] w8 (w8.alloc (.cells qy 41)):=(Fr.refl [] w8).alloc _;have nsb:¬ S w8.heap.size:=fun hs=>by have h1:=MS.out.pub _ hs;have h2:=f8.size;omega
   have nob:∀ b∈ob v2,b≠w8.heap.size:=fun b hb=>by have:=kG p2.own (qo.1 hb);omega
   have ll8:=L2.out _ f8;have L9:=hI ((ll8.grow fa8).far F9 (by have:=ll8.f.size;omega) (by have:=ll8.s.lt;omega) (by have:=ll8.r.lt;omega));have P9:=hI ((p2.fr fa8 zs zs (fun _ h=>h)).fr F9 (fun z hz hs=>by simp at hz;subst hz;exact nsb hs) (fun b hb hm=>by simp at hm;exact nob b hb hm) (fun _ h=>h));have M9:Hid (RE S w9 R.1 (.slice aA x.all.length ac) uv kv):=hI ((((MS.out.fr f8).fr fa8).far F9 nsb).to_ HSN.out.1 HSN.out.2.1 HSN.out.2.2);have V9:=hI B9;have HLs:=hI hLs;have NOB:Hid (∀ b∈ob v2,b≠w.heap.size+1):=hI (fun b hb=>by rintro rfl;exact own_ne p2.own ll8.r zd (qo.1 hb));generalize w8.heap.size=b9 at *
   clear fa8 nsb nob ll8 p2 f8 B9 F9 hLs HES0;obtain⟨A2,c2,rfl,_,_⟩:=qY P9.out.own;go_cut [3,4] (fun sa sb wx=>sa = .slice A2 Ls.length c2/\sb = .int .i64 0/\Blk wx (w.heap.size+1) 41 (arE R.1 (.slice aA x.all.length ac) uv kv)/\Fr [(w.heap.size+1)] w9 wx);case first=>
    go_wp2_with (first
      | ((with_reducible refine qj 41 (.tmp 5) ?_);refine qf rfl 41 (.tmp 5) rfl b9 41 (arE R.1 (.slice aA x.all.length ac) uv kv) _ rfl V9.out Tryz.underlying41 rfl zk ?_)|((with_reducible refine qi 41 (.tmp 2) ?_);refine qc rfl 41 (.tmp 2) (.tmp 21) rfl (w.heap.size+1) 41 qy (arE R.1 (.slice aA x.all.length ac) uv kv) rfl rfl L9.out.r rfl zk zq ?_;intro wz Bz Fz))
    go_meet;exact⟨rfl,rfl,Bz,Fz⟩
   case rest=>
    obtain⟨rfl,rfl,Bz,Fz⟩:=hcut;have FW:=L9.out.res Fz;have hrl:=L9.out.r.lt;refine ‹∀(a:Act) (w:World),Code.wp Tryz.prog Code.ret _ a w->_› _ _ (wp_ret ?_);try simp only [Exit.then]
    change bodyPost Tryz.prog _ _ .ret _ _;refine bodyPost_ret (kR 2 41 ⟨w.heap.size+1,0,none⟩ _ 3 4 (.slice A2 Ls.length c2) (.int .i64 0) zr zr (qw Bz) zr zr) zr ?_;rw [VG.out (by rw [HOV.out,HCL.out];simpa using H5.out)];exact⟨S,_,_,_,_,Ls,rfl,HLs.out,XS.out,M9.out.far Fz NSR.out,P9.out.fr Fz (fun z hz hs=>by simp at hz;subst hz;exact NSR.out hs) (fun b hb hm=>by simp at hm;exact NOB.out b hb hm) (fun _ h=>h),FW⟩
  ·rw [hcl] at c25
   have HCL:=hI hcl;clear hcl;go_upto_region 2 with fail
   clear c2 c25;go_cut [3,4] (fun sa sb wx=>sa = .slice none 0 0/\sb = .int .i64 260/\Blk wx (w.heap.size+1) 41 (arE x (.slice aA x.all.length ac) uv kv)/\Fr [(w.heap.size+1)] w1 wx);case first=>
    go_wp2_with (first
      | ((with_reducible refine qj 41 (.tmp 1) ?_);refine qf rfl 41 (.tmp 1) rfl w.heap.size 41 (arE x (.slice aA x.all.length ac) uv kv) _ rfl (L1.out _ zf).s Tryz.underlying41 rfl zk ?_)|((with_reducible refine qi 41 (.tmp 2) ?_);refine qc rfl 41 (.tmp 2) (.tmp 14) rfl (w.heap.size+1) 41 qy (arE x (.slice aA x.all.length ac) uv kv) rfl rfl (L1.out _ zf).r rfl zk zq ?_;intro wz Bz Fz))
    go_meet;exact⟨rfl,rfl,Bz,Fz⟩
   case rest=>
    obtain⟨rfl,rfl,Bz,Fz⟩:=hcut;have FW:=(L1.out _ (Fr.refl [] w1)).res Fz;refine ‹∀(a:Act) (w:World),Code.wp Tryz.prog Code.ret _ a w->_› _ _ (wp_ret ?_);try simp only [Exit.then]
    change bodyPost Tryz.prog _ _ .ret _ _;refine bodyPost_ret (kR 2 41 ⟨w.heap.size+1,0,none⟩ _ 3 4 (.slice none 0 0) (.int .i64 260) zr zr (qw Bz) zr zr) zr ?_;rw [VO.out (by rw [HOV.out];simp [HCL.out])];exact⟨S,_,_,_,_,[],rfl,rfl,Ext.refl w S,M.out.fr FW,Pr.nil,FW⟩
theorem ewrite{S:Nat->Prop}{w:World}{x:St}{av uv kv:Value}(m:RE S w x av uv kv)(ok:OkS x)(ou:OkU x)(bk:x.broken=true->x.at_=5)(b:List Int)(hal:x.all.length+b.length<=1000000)(A:Option Addr)(c:Nat)(T:Nat->Prop)(hd:Byt T w (.slice A b.length c) b) :
  Calls Tryz.prog 31 #[agE x av uv kv, .slice A b.length c] w (EL3 S w (zZ x b)):=by
 have o1:=m.qN;have vo:=qbj x b;have vl:=qbk x b;have vg:=qdz x b;have hov:xE x=(x.at_ == 5 || x.closing):=rfl;have hwb:=Win.Inv.bd ok.hw;have hwm:=ok.hm;have okc:OkS { x with all:=x.all++b }:=⟨ok.hi,ok.hu,ok.hw,ok.hc,by have:=ok.hm;simp only [List.length_append];omega,by simp only [List.length_append];omega,ok.n0,ok.n1,ok.s0,ok.s1⟩;have hsn:=yU { x with all:=x.all++b };have hes:=fun (S1:Nat->Prop) (W:World) (a1 u1 k1:Value) (m1:RE S1 W { x with all:=x.all++b } a1 u1 k1)=>qib m1 okc ⟨ou.i0,ou.i1,ou.p0,ou.p1⟩ bk;obtain⟨⟨aA,ac,rfl,_,_⟩,_,_⟩:=m.forms;have l0:=Lo.start w (arE x (.slice aA x.all.length ac) uv kv);have q1:IntKind.i64.wrap ((x.all.length:Int)+b.length)=(x.all.length:Int)+b.length:=IntWalk.i64_in _ zw;have q2:IntKind.i64.wrap ((x.all.length:Int)+b.length - x.win.a)=(x.all.length:Int)+b.length - x.win.a:=IntWalk.i64_in _ zw;generalize zZ x b=r at *
 generalize qU { x with all:=x.all++b }=R at *
 have HES:=hI hes;have HSN:=hI hsn;have VO:=hI vo;have VL:=hI vl;have VG:=hI vg;have HOV:=hI hov;have L0:=hI l0;have M:=hI m;have HD:=hI hd;have HAL:=hI hal;clear hes hsn vo vl vg hov l0 m ok ou bk okc hd hal hwb hwm;go_enter Tryz.func31,Tryz.ntmps31;go_upto_region 1 with fail
 generalize (w.alloc (.cells (arE x (.slice aA x.all.length ac) uv kv) 41)).alloc (.cells qy 41)=w1 at *
 have L1:Hid (∀ W,Fr [] w1 W->Lo w W w.heap.size (w.heap.size+1) (arE x (.slice aA x.all.length ac) uv kv)):=hI (fun W f=>L0.out.grow f);have c2:w1.cell? ⟨w.heap.size,2,none⟩=some (.int .i64 x.at_):=L0.out.s.cell 2;have c25:w1.cell? ⟨w.heap.size,25,none⟩=some (.bool x.closing):=L0.out.s.cell 25;clear L0;by_cases h5:x.at_=5
 ·rw [h5] at c2
  have H5:=hI h5;clear h5;go_upto_region 2 with fail
  clear c2 c25;go_cut [5,6] (fun sa sb wx=>sa = .slice none 0 0/\sb = .int .i64 260/\Blk wx (w.heap.size+1) 41 (arE x (.slice aA x.all.length ac) uv kv)/\Fr [(w.heap.size+1)] w1 wx);case first=>
   go_wp2_with (first
     | ((with_reducible refine qj 41 (.tmp 2) ?_);refine qf rfl 41 (.tmp 2) rfl w.heap.size 41 (arE x (.slice aA x.all.length ac) uv kv) _ rfl (L1.out _ zf).s Tryz.underlying41 rfl zk ?_)|((with_reducible refine qi 41 (.tmp 4) ?_);refine qc rfl 41 (.tmp 4) (.tmp 16) rfl (w.heap.size+1) 41 qy (arE x (.slice aA x.all.length ac) uv kv) rfl rfl (L1.out _ zf).r rfl zk zq ?_;intro wz Bz Fz))
   go_meet;exact⟨rfl,rfl,Bz,Fz⟩
  case rest=>
   obtain⟨rfl,rfl,Bz,Fz⟩:=hcut;have FW:=(L1.out _ (Fr.refl [] w1)).res Fz;refine ‹∀(a:Act) (w:World),Code.wp Tryz.prog Code.ret _ a w->_› _ _ (wp_ret ?_);try simp only [Exit.then]
   change bodyPost Tryz.prog _ _ .ret _ _;refine bodyPost_ret (kR 4 41 ⟨w.heap.size+1,0,none⟩ _ 5 6 (.slice none 0 0) (.int .i64 260) zr zr (qw Bz) zr zr) zr ?_;rw [VO.out (by rw [HOV.out];simp [H5.out])];exact⟨S,_,_,_,_,[],rfl,rfl,Ext.refl w S,M.out.fr FW,Pr.nil,FW⟩
 ·have hd5:decide (x.at_=5)=false:=by simpa using h5
  have hq5:(x.at_ == 5)=false:=by simpa using h5
  have H5:=hI h5;clear h5;cases hcl:x.closing
  ·rw [hcl] at c25
   have HCL:=hI hcl;clear hcl;have c4:w1.cell? ⟨w.heap.size,4,none⟩=some (.slice aA x.all.length ac):=(L1.out _ (Fr.refl [] w1)).s.cell 4;have c6:w1.cell? ⟨w.heap.size,6,none⟩=some (.int .i64 x.win.a):=(L1.out _ (Fr.refl [] w1)).s.cell 6;have hover:Hid (xE x=false):=hI (by rw [HOV.out,HCL.out];simpa using H5.out);by_cases hlong:4096<(x.all.length:Int)+b.length - x.win.a
   ·have hg1:decide ((x.all.length:Int)+b.length - x.win.a > 4096)=true:=by simpa using hlong
    have hg2:decide (4096<(x.all.length:Int)+b.length - x.win.a)=true:=(by simpa using hlong);have HLG:=hI hlong;clear hlong;go_upto_region 4 with fail
    clear c2 c25 c4 c6 hg1 hg2;go_cut [5,6] (fun sa sb wx=>sa = .slice none 0 0/\sb = .int .i64 3/\Blk wx (w.heap.size+1) 41 (arE x (.slice aA x.all.length ac) uv kv)/\Fr [(w.heap.size+1)] w1 wx);case first=>
     go_wp2_with (first
       | ((with_reducible refine qj 41 (.tmp 2) ?_);refine qf rfl 41 (.tmp 2) rfl w.heap.size 41 (arE x (.slice aA x.all.length ac) uv kv) _ rfl (L1.out _ zf).s Tryz.underlying41 rfl zk ?_)|((with_reducible refine qi 41 (.tmp 4) ?_);refine qc rfl 41 (.tmp 4) (.tmp 28) rfl (w.heap.size+1) 41 qy (arE x (.slice aA x.all.length ac) uv kv) rfl rfl (L1.out _ zf).r rfl zk zq ?_;intro wz Bz Fz))
     go_meet;exact⟨rfl,rfl,Bz,Fz⟩
    case rest=>
     obtain⟨rfl,rfl,Bz,Fz⟩:=hcut;have FW:=(L1.out _ (Fr.refl [] w1)).res Fz;refine ‹∀(a:Act) (w:World),Code.wp Tryz.prog Code.ret _ a w->_› _ _ (wp_ret ?_);try simp only [Exit.then]
     change bodyPost Tryz.prog _ _ .ret _ _;refine bodyPost_ret (kR 4 41 ⟨w.heap.size+1,0,none⟩ _ 5 6 (.slice none 0 0) (.int .i64 3) zr zr (qw Bz) zr zr) zr ?_;rw [VL.out hover.out (by have:=HLG.out;omega)];exact⟨S,_,_,_,_,[],rfl,rfl,Ext.refl w S,M.out.fr FW,Pr.nil,FW⟩
   ·have hg1:decide ((x.all.length:Int)+b.length - x.win.a > 4096)=false:=by simpa using hlong
    have hg2:decide (4096<(x.all.length:Int)+b.length - x.win.a)=false:=(by simpa using hlong);have HLG:=hI hlong;clear hlong;go_upto_region 5 with fail
    clear c2 c25 c4 c6 hg1 hg2 q1 q2;have i0p:=info_parts vM;obtain⟨i0,hi0,hz0,hz1,hz2⟩:=i0p;have BA:Hid (∀ W,Fr [] w1 W->Byt S W (.slice aA x.all.length ac) x.all):=hI (fun W f=>M.out.ba.fr ((L1.out _ f).f) zs);have BB:Hid (∀ W,Fr [] w1 W->Byt T W (.slice A b.length c) b):=hI (fun W f=>HD.out.fr ((L1.out _ f).f) zs);have HB1:Hid (0+x.all.length<=maxLen):=hI (by unfold maxLen;have:=HAL.out;omega);have HB2:Hid ((0+x.all.length) * 1<=140737488355328):=hI (by have:=HAL.out;omega);have HB3:Hid (x.all.length+b.length<=maxLen):=hI (by have:=HAL.out;unfold maxLen;omega);have HB4:Hid ((x.all.length+b.length) * 1<=140737488355328):=hI (by have:=HAL.out;omega);have c4:w1.cell? ⟨w.heap.size,4,none⟩=some (.slice aA x.all.length ac):=(L1.out _ (Fr.refl [] w1)).s.cell 4;go_upto_region 6 with (first
      | (at_builtin;refine qE _ rfl (.const (.slice none 0 0)) (.tmp 30) 30 rfl 5 i0 (.int .u8 0) 1 1 Tryz.underlying30 hi0 hz0 hz1 hz2 rfl zd (.slice none 0 0) 0 [] rfl (World.ownsRow_nil _ 0 5 1) S (.slice aA x.all.length ac) x.all.length (kE x.all) rfl (BA.out _ (Fr.refl [] w1)) (ji _) HB1.out HB2.out x.all.length zs ?_;intro A6 c6 w8 h8 g8 k8;have G8:Fr [] w1 w8:=g8.mono zb;have H8:=hI h8;have K8:Hid (∀ b,(Value.slice A6 x.all.length c6).ownBlock=some b->w1.heap.size<=b/\b<w8.heap.size):=hI (fun b hb=>by have:=k8 b hb;simp [Value.ownBlock] at this;exact this);clear h8 g8 k8)|(at_builtin;refine qE _ rfl (.tmp 31) (.tmp 32) 30 rfl 5 i0 (.int .u8 0) 1 1 Tryz.underlying30 hi0 hz0 hz1 hz2 rfl zd (.slice A6 x.all.length c6) x.all.length ([]++kE x.all) rfl H8.out T (.slice A b.length c) b.length (kE b) rfl (BB.out _ G8) (ji _) HB3.out HB4.out (x.all.length+b.length) rfl ?_;intro A7 c7 w9 h9 g9 k9;have G9:Fr [] w1 w9:=G8.trans g9 (fun y hy => .inr (by have h1:=K8.out y (qo.1 hy);omega));have l9:=L1.out _ G9;have c9:w9.cell? ⟨w.heap.size,4,none⟩=some (.slice aA x.all.length ac):=l9.s.cell 4;have z9:=l9.s.frozen 4;have hl9:=l9.s.lt;have H9:=hI h9;have K9:Hid (∀ b_,(Value.slice A7 (x.all.length+b.length) c7).ownBlock=some b_->w1.heap.size<=b_/\b_<w9.heap.size):=hI (fun b hb=>(k9 b hb).elim (fun h=>by have h1:=K8.out b h;have h2:=g9.size;omega) (fun h=>by have h2:=G8.size;omega));have L9:=hI l9;have GG9:=hI G9;clear h9 g9 k9 l9))
    have hset:Lo w (w9.setCell ⟨w.heap.size,4,none⟩ (.slice A7 (x.all.length+b.length) c7)) w.heap.size (w.heap.size+1) (arE { x with all:=x.all++b } (.slice A7 (x.all.length+b.length) c7) uv kv):=by
     have hh:=L9.out.cell 4 (.slice A7 (x.all.length+b.length) c7);simp only [arE,zqA,zqB,zqC] at hh |-
     exact hh
    have fs:Fr [w.heap.size] w9 (w9.setCell ⟨w.heap.size,4,none⟩ (.slice A7 (x.all.length+b.length) c7)):=(Fr.refl [w.heap.size] w9).setCell (p:=⟨w.heap.size,4,none⟩) (.inl zs) _;have hz1:=(L1.out _ (Fr.refl [] w1)).s.lt;have hz2:=(L1.out _ (Fr.refl [] w1)).r.lt;generalize w9.setCell ⟨w.heap.size,4,none⟩ (.slice A7 (x.all.length+b.length) c7)=w2 at *
    obtain⟨SS,hSS⟩:∃ SS:Nat->Prop,SS=fun y=>S y\/(Value.slice A7 (x.all.length+b.length) c7).ownBlock=some y:=⟨_,rfl⟩;have hsub:∀ y,S y->SS y:=fun y h=>by rw [hSS];exact .inl h
    have hnew:∀ y,SS y->S y\/(w1.heap.size<=y/\y<w9.heap.size):=fun y h=>by
     rw [hSS] at h;rcases h with h|h
     ·exact .inl h
     ·exact .inr (K9.out y h)
    have hge:w.heap.size<=w1.heap.size:=(L1.out _ (Fr.refl [] w1)).f.size;have hS0:∀ y,S y->y<w.heap.size:=M.out.pub;have XS:Hid (Ext w S SS):=hI ⟨hsub,fun y h=>(hnew y h).imp id (fun h=>by omega)⟩;have NSR:Hid (¬ SS (w.heap.size+1)):=hI (fun hs=>(hnew _ hs).elim (fun h=>by have:=hS0 _ h;omega) (fun h=>by omega));have nsE:¬ SS w.heap.size:=fun hs=>(hnew _ hs).elim (fun h=>by have:=hS0 _ h;omega) (fun h=>by omega);have MS:Hid (RE SS w2 { x with all:=x.all++b } (.slice A7 (x.all.length+b.length) c7) uv kv):=hI (by
     have m9:=M.out.ext (S':=SS) L9.out.f zs hsub (fun y h=>(hnew y h).elim (fun h=>by have:=hS0 _ h;have:=GG9.out.size;omega) (fun h=>h.2));have mz:=m9.far fs nsE;have hb9:Byt SS w9 (.slice A7 (x.all.length+b.length) c7) (x.all++b):=by
      have h9:=H9.out;rw [List.nil_append,vJ,<- List.length_append] at h9;have:=Sl.kW (S:=SS) h9 (fun y hy=>by rw [hSS];right;rw [<- List.length_append];exact hy);rw [<- List.length_append];exact this
     exact⟨hb9.fr fs (fun y hy=>by simp at hy;subst hy;exact nsE),mz.bu,mz.hp⟩)
    have L2:Hid (∀ W,Fr [] w2 W->Lo w W w.heap.size (w.heap.size+1) (arE { x with all:=x.all++b } (.slice A7 (x.all.length+b.length) c7) uv kv)):=hI (fun W f=>hset.grow f);have o2:=MS.out.qN;clear hset fs c9 z9 hl9 hz1 hz2 hSS hsub hnew hge hS0 nsE c4;have HES0:Hid (∀ W,Fr [] w2 W->Calls Tryz.prog 71 #[agE { x with all:=x.all++b } (.slice A7 (x.all.length+b.length) c7) uv kv] W (vS SS W R (.slice A7 (x.all.length+b.length) c7) uv kv)):=hI (fun W f=>HES.out SS W _ _ _ (MS.out.fr f));go_upto_region 7 with (first
       | ((with_reducible refine qj 41 (.tmp 2) ?_);refine qf rfl 41 (.tmp 2) rfl w.heap.size 41 (arE { x with all:=x.all++b } (.slice A7 (x.all.length+b.length) c7) uv kv) _ rfl (L2.out _ zf).s Tryz.underlying41 rfl zk ?_)|(go_at_call 71;refine (HES0.out _ (Fr.refl _ _)).mono ?_;rintro e w8 ⟨v2,Ls,rfl,hLs,p2,f8⟩)|((with_reducible refine qi 41 (.tmp 7) ?_);refine qc rfl 41 (.tmp 7) (.tmp 38) rfl w8.heap.size 41 qy (arE R.1 (.slice A7 (x.all.length+b.length) c7) uv kv) rfl rfl (Blk.new w8 41 qy) rfl zk zq ?_;intro w9 B9 F9))
    have fa8:Fr [] w8 (w8.alloc (.cells qy 41)):=(Fr.refl [] w8).alloc _;have nsb:¬ SS w8.heap.size:=fun hs=>by have h1:=MS.out.pub _ hs;have h2:=f8.size;omega
    have nob:∀ b∈ob v2,b≠w8.heap.size:=fun b hb=>by have:=kG p2.own (qo.1 hb);omega
    have ll8:=L2.out _ f8;have L9:=hI ((ll8.grow fa8).far F9 (by have:=ll8.f.size;omega) (by have:=ll8.s.lt;omega) (by have:=ll8.r.lt;omega));have P9:=hI ((p2.fr fa8 zs zs (fun _ h=>h)).fr F9 (fun z hz hs=>by simp at hz;subst hz;exact nsb hs) (fun b hb hm=>by simp at hm;exact nob b hb hm) (fun _ h=>h));have M9:Hid (RE SS w9 R.1 (.slice A7 (x.all.length+b.length) c7) uv kv):=hI ((((MS.out.fr f8).fr fa8).far F9 nsb).to_ HSN.out.1 HSN.out.2.1 HSN.out.2.2);have V9:=hI B9;have HLs:=hI hLs;have NOB:Hid (∀ b∈ob v2,b≠w.heap.size+1):=hI (fun b hb=>by rintro rfl;exact own_ne p2.own ll8.r zd (qo.1 hb));generalize w8.heap.size=b9 at *
    clear fa8 nsb nob ll8 p2 f8 B9 F9 hLs HES0;obtain⟨A2,c2,rfl,_,_⟩:=qY P9.out.own;go_cut [5,6] (fun sa sb wx=>sa = .slice A2 Ls.length c2/\sb = .int .i64 0/\Blk wx (w.heap.size+1) 41 (arE R.1 (.slice A7 (x.all.length+b.length) c7) uv kv)/\Fr [(w.heap.size+1)] w9 wx);case first=>
     go_wp2_with (first
       | ((with_reducible refine qj 41 (.tmp 7) ?_);refine qf rfl 41 (.tmp 7) rfl b9 41 (arE R.1 (.slice A7 (x.all.length+b.length) c7) uv kv) _ rfl V9.out Tryz.underlying41 rfl zk ?_)|((with_reducible refine qi 41 (.tmp 4) ?_);refine qc rfl 41 (.tmp 4) (.tmp 40) rfl (w.heap.size+1) 41 qy (arE R.1 (.slice A7 (x.all.length+b.length) c7) uv kv) rfl rfl L9.out.r rfl zk zq ?_;intro wz Bz Fz))
     go_meet;exact⟨rfl,rfl,Bz,Fz⟩
    case rest=>
     obtain⟨rfl,rfl,Bz,Fz⟩:=hcut;have FW:=L9.out.res Fz;have hrl:=L9.out.r.lt;refine ‹∀(a:Act) (w:World),Code.wp Tryz.prog Code.ret _ a w->_› _ _ (wp_ret ?_);try simp only [Exit.then]
     change bodyPost Tryz.prog _ _ .ret _ _;refine bodyPost_ret (kR 4 41 ⟨w.heap.size+1,0,none⟩ _ 5 6 (.slice A2 Ls.length c2) (.int .i64 0) zr zr (qw Bz) zr zr) zr ?_;rw [VG.out hover.out (by have:=HLG.out;omega)];exact⟨SS,_,_,_,_,Ls,rfl,HLs.out,XS.out,M9.out.far Fz NSR.out,P9.out.fr Fz (fun z hz hs=>by simp at hz;subst hz;exact NSR.out hs) (fun b hb hm=>by simp at hm;exact NOB.out b hb hm) (fun _ h=>h),FW⟩
  ·rw [hcl] at c25
   have HCL:=hI hcl;clear hcl;go_upto_region 2 with fail
   clear c2 c25;go_cut [5,6] (fun sa sb wx=>sa = .slice none 0 0/\sb = .int .i64 260/\Blk wx (w.heap.size+1) 41 (arE x (.slice aA x.all.length ac) uv kv)/\Fr [(w.heap.size+1)] w1 wx);case first=>
    go_wp2_with (first
      | ((with_reducible refine qj 41 (.tmp 2) ?_);refine qf rfl 41 (.tmp 2) rfl w.heap.size 41 (arE x (.slice aA x.all.length ac) uv kv) _ rfl (L1.out _ zf).s Tryz.underlying41 rfl zk ?_)|((with_reducible refine qi 41 (.tmp 4) ?_);refine qc rfl 41 (.tmp 4) (.tmp 16) rfl (w.heap.size+1) 41 qy (arE x (.slice aA x.all.length ac) uv kv) rfl rfl (L1.out _ zf).r rfl zk zq ?_;intro wz Bz Fz))
    go_meet;exact⟨rfl,rfl,Bz,Fz⟩
   case rest=>
    obtain⟨rfl,rfl,Bz,Fz⟩:=hcut;have FW:=(L1.out _ (Fr.refl [] w1)).res Fz;refine ‹∀(a:Act) (w:World),Code.wp Tryz.prog Code.ret _ a w->_› _ _ (wp_ret ?_);try simp only [Exit.then]
    change bodyPost Tryz.prog _ _ .ret _ _;refine bodyPost_ret (kR 4 41 ⟨w.heap.size+1,0,none⟩ _ 5 6 (.slice none 0 0) (.int .i64 260) zr zr (qw Bz) zr zr) zr ?_;rw [VO.out (by rw [HOV.out];simp [HCL.out])];exact⟨S,_,_,_,_,[],rfl,rfl,Ext.refl w S,M.out.fr FW,Pr.nil,FW⟩
theorem qbl(x:St)(h:x.at_=5):jo x=(x,[],260):=by unfold jo;rw [if_pos h]
theorem qbm(x:St)(h:x.at_=3\/x.at_=4):jo x=(qF (kS (shows x) true),[kz x 10 (x.win.m+one x.fin) []],0):=by unfold jo;rw [if_neg zw,if_pos h]
theorem qbn(x:St)(h:¬ x.at_=5)(h2:¬ (x.at_=3\/x.at_=4)):jo x=(qF (kS x true),[],0):=by unfold jo;rw [if_neg h,if_neg h2]
theorem ereset{S:Nat->Prop}{w:World}{x:St}{av uv kv:Value}(m:RE S w x av uv kv)(ok:OkS x)(ou:OkU x):Calls Tryz.prog 37 #[agE x av uv kv] w (EL3 S w (jo x)):=by
 have o1:=m.qN;have hwb:=Win.Inv.bd ok.hw;have hml:=ok.hm;have hal:=ok.hl;have hob:=qav x.fin;have hwr:IntKind.i64.wrap (x.win.m+one x.fin)=x.win.m+one x.fin:=IntWalk.i64_in _ zw;have hp:=fun W (g:Fr [] w W)=>qbh (m.fr g) ok ou 10 (x.win.m+one x.fin) zw zw none 0 0 [];have hone:=fun W=>qce x.fin W;have l0:=Lo.start w (arE x av uv kv);have v5:=qbl x;have v3:=qbm x;have ve:=qbn x;have hrs:=fun W (g:Fr [] w W)=>jL ((m.to_ (y:=kS (shows x) true) rfl rfl rfl).fr g) (show Rto.Inv x.clk from ok.hc);have hre:=fun W (g:Fr [] w W)=>jL ((m.to_ (y:=kS x true) rfl rfl rfl).fr g) (show Rto.Inv x.clk from ok.hc);have ms:RE S w (qF (kS (shows x) true)) av uv kv:=m.to_ (by unfold qF;(repeat' split) <;> rfl) (by unfold qF;(repeat' split) <;> rfl) (by unfold qF;(repeat' split) <;> rfl);have me:RE S w (qF (kS x true)) av uv kv:=m.to_ (by unfold qF;(repeat' split) <;> rfl) (by unfold qF;(repeat' split) <;> rfl) (by unfold qF;(repeat' split) <;> rfl);have hdn:kS (shows x) true={ x with shown:=qK x,at_:=5,broken:=true }:=rfl;have hdx:kS x true={ x with at_:=5,broken:=true }:=rfl;have hsv:shows x={ x with shown:=qK x }:=rfl;generalize jo x=r at *
 generalize qF (kS (shows x) true)=rs at *
 generalize qF (kS x true)=re at *
 rw [hdn] at hrs;rw [hdx] at hre;rw [hsv] at hp;have hd:(kz x 10 (x.win.m+one x.fin) []).d=[]:=rfl;generalize kz x 10 (x.win.m+one x.fin) []=pt at *
 generalize qK x=rv at *
 obtain⟨pf,ps,pk,pw,pd⟩:=pt;dsimp only at hd;subst hd;have HP:=hI hp;have HO:=hI hone;have L0:=hI l0;have V5:=hI v5;have V3:=hI v3;have VE:=hI ve;have HRS:=hI hrs;have HREE:=hI hre;have MS:=hI ms;have ME:=hI me;have M:=hI m;have NSR:Hid (¬ S (w.heap.size+1)):=hI (fun hs=>by have:=m.pub _ hs;omega);have NSE:Hid (∀ b,w.heap.size<=b->¬ S b):=hI (fun b hb hs=>by have:=m.pub _ hs;omega);clear hp hone l0 v5 v3 ve hrs hre ms me m ok ou hwb hml hal hob hdn hdx hsv;go_enter Tryz.func37,Tryz.ntmps37;go_upto_region 1 with fail
 generalize (w.alloc (.cells (arE x av uv kv) 41)).alloc (.cells qy 41)=w1 at *
 have L1:Hid (∀ W,Fr [] w1 W->Lo w W w.heap.size (w.heap.size+1) (arE x av uv kv)):=hI (fun W f=>L0.out.grow f);have c2:w1.cell? ⟨w.heap.size,2,none⟩=some (.int .i64 x.at_):=L0.out.s.cell 2;clear L0;by_cases h5:x.at_=5
 ·rw [h5] at c2
  have H5:=hI h5;clear h5;go_upto_region 2 with fail
  clear c2;go_cut [3,4] (fun sa sb wx=>sa = .slice none 0 0/\sb = .int .i64 260/\Blk wx (w.heap.size+1) 41 (arE x av uv kv)/\Fr [(w.heap.size+1)] w1 wx);case first=>
   go_wp2_with (first
     | ((with_reducible refine qj 41 (.tmp 1) ?_);refine qf rfl 41 (.tmp 1) rfl w.heap.size 41 (arE x av uv kv) _ rfl (L1.out _ zf).s Tryz.underlying41 rfl zk ?_)|((with_reducible refine qi 41 (.tmp 2) ?_);refine qc rfl 41 (.tmp 2) (.tmp 11) rfl (w.heap.size+1) 41 qy (arE x av uv kv) rfl rfl (L1.out _ zf).r rfl zk zq ?_;intro wz Bz Fz))
   go_meet;exact⟨rfl,rfl,Bz,Fz⟩
  case rest=>
   obtain⟨rfl,rfl,Bz,Fz⟩:=hcut;have FW:=(L1.out _ (Fr.refl [] w1)).res Fz;refine ‹∀(a:Act) (w:World),Code.wp Tryz.prog Code.ret _ a w->_› _ _ (wp_ret ?_);try simp only [Exit.then]
   change bodyPost Tryz.prog _ _ .ret _ _;refine bodyPost_ret (kR 2 41 ⟨w.heap.size+1,0,none⟩ _ 3 4 (.slice none 0 0) (.int .i64 260) zr zr (qw Bz) zr zr) zr ?_;rw [V5.out H5.out];exact⟨S,_,_,_,_,[],rfl,rfl,Ext.refl w S,M.out.fr FW,Pr.nil,FW⟩
 ·have hd5:decide (x.at_=5)=false:=by simpa using h5
  have hq5:(x.at_ == 5)=false:=by simpa using h5
  have H5:=hI h5;clear h5;by_cases h3:x.at_=3
  ·have hd3:decide (x.at_=3)=true:=by simpa using h3
   have hq3:(x.at_ == 3)=true:=by simpa using h3
   have H3:=hI h3;clear h3;go_upto_region 5 with fail
   clear c2;have c8:w1.cell? ⟨w.heap.size,8,none⟩=some (.int .i64 x.win.m):=(L1.out _ (Fr.refl [] w1)).s.cell 8;have c26:w1.cell? ⟨w.heap.size,26,none⟩=some (.bool x.fin):=(L1.out _ (Fr.refl [] w1)).s.cell 26;have hR:∀ i,(⟨w.heap.size,i,none⟩:Addr).block∉([]:List Nat):=fun i=>by simp
   refine Lay.kK [⟨.new 12,41,arE { x with shown:=rv } av uv kv,some 14⟩,⟨.new 13,49,arP ⟨pf,ps,pk,pw,[]⟩ (.slice none 0 0),some 15⟩] [] [27,29] zk zk (fun β=>by kernel_rfl) rfl ⟨trivial,trivial,trivial⟩ ?hh5;apply Exists.intro;refine⟨?h5,?hO5,?hI5,?hQ5⟩;case h5=>
    intro β X hX hN;have g8:∀ p:Lay.GX [] w1 X,p.W.cell? ⟨w.heap.size,8,none⟩=some (.int .i64 x.win.m):=Lay.GX.cell c8 (hR _);have g26:∀ p:Lay.GX [] w1 X,p.W.cell? ⟨w.heap.size,26,none⟩=some (.bool x.fin):=Lay.GX.cell c26 (hR _);have gb:Hid (∀ p:Lay.GX [] w1 X,Blk p.W w.heap.size 41 (arE x av uv kv)):=hI (fun p=>(L1.out _ p.fr).s);have gf:Hid (∀ p:Lay.GX [] w1 X,Fr [] w p.W):=hI (fun p=>(L1.out _ p.fr).f);have h1':Hid (∀ p:Lay.GX [] w1 X,Calls Tryz.prog 82 #[.bool x.fin] p.W fun e w'=>e = .returned (.int .i64 (one x.fin))/\∃ q:Lay.GX [] w1 X,w'=q.W):=hI (fun p=>Lay.GX.same (HO.out p.W));have h2':Hid (∀ p:Lay.GX [] w1 X,Calls Tryz.prog 81 #[agE x av uv kv, .int .i64 10, .int .i64 (x.win.m+one x.fin), .slice none 0 0] p.W fun e w'=>e = .returned (.tuple #[agE { x with shown:=rv } av uv kv,agP ⟨pf,ps,pk,pw,[]⟩ (.slice none 0 0)])/\∃ q:Lay.GX [] w1 X,w'=q.W):=hI (fun p=>Lay.GX.call hX (HP.out p.W (gf.out p)));simp only [Lay.jF,Lay.lays,Lay.lay,Lay.eff,Lay.xJ,if_true,if_false,Bool.false_eq_true,reduceIte];repeat (first
     | ((with_reducible refine kC 41 (.tmp 1) ?_);refine qH rfl 41 (.tmp 1) rfl w.heap.size 41 (arE x av uv kv) _ rfl (fun W hW=>by obtain⟨p,rfl⟩:=hW;exact gb.out p) Tryz.underlying41 rfl zk ?_;simp only [Act.put,zqA,zqB,zqC])
     | go_big_quiet_step (first|(go_at_call 82;exact h1'.out _)|(go_at_call 81;exact h2'.out _)))
    exact wpQuiet_nil rfl
   case hO5=>exact⟨Lay.xk rfl rfl xB rfl rfl rfl rfl zk zq (fun β=>rfl) (fun β=>rfl) zk,Lay.xk rfl rfl vT rfl rfl rfl rfl zk zq (fun β=>rfl) (fun β=>rfl) zk,trivial⟩
   case hI5=>exact⟨fun _ _=>rfl,fun _ _=>rfl,trivial⟩
   case hQ5=>
    intro β W hf hl;obtain⟨⟨B1,N1⟩,⟨B2,N2⟩,_⟩:=hl;have L3:Hid (∀ V,Fr [] W V->Lo w V w.heap.size (w.heap.size+1) (arE x av uv kv)):=hI (fun V f=>(L1.out _ hf).grow f);change Blk W (β 12) 41 (arE { x with shown:=rv } av uv kv) at B1;change Blk W (β 13) 49 (arP ⟨pf,ps,pk,pw,[]⟩ (.slice none 0 0)) at B2;change w1.heap.size<=β 12 at N1;change w1.heap.size<=β 13 at N2;have hs1:=(L1.out _ (Fr.refl [] w1)).s.lt;have hs2:=(L1.out _ (Fr.refl [] w1)).r.lt;have V4:=hI B1;have V5':=hI B2;have HB:Hid (w.heap.size<β 13/\w.heap.size+1<β 13):=hI zw;generalize β 12=b4 at *
    generalize β 13=b5 at *
    clear hR B1 B2 N1 N2 hs1 hs2 hf c8 c26;go_upto_region 7 with (first
      | ((with_reducible refine qj 41 (.tmp 6) ?_);refine qf rfl 41 (.tmp 6) rfl b4 41 (arE { x with shown:=rv } av uv kv) _ rfl V4.out Tryz.underlying41 rfl zk ?_)|((with_reducible refine qi 41 (.tmp 1) ?_);refine qc rfl 41 (.tmp 1) (.tmp 32) rfl w.heap.size 41 (arE x av uv kv) (arE { x with shown:=rv } av uv kv) rfl rfl (L3.out _ zf).s rfl zk zq ?_;intro w9 B9 F9))
    have L9:Hid (∀ V,Fr [] w9 V->Lo w V w.heap.size (w.heap.size+1) (arE { x with shown:=rv } av uv kv)):=hI (fun V f=>((L3.out _ (Fr.refl _ _)).set F9 B9).grow f);have V9:Hid (Blk w9 b5 49 (arP ⟨pf,ps,pk,pw,[]⟩ (.slice none 0 0))):=hI (V5'.out.fr F9 (by have:=HB.out;simp;omega));have HW9:=hI (jU (S1:=S) (p:=⟨pf,ps,pk,pw,[]⟩) (Pr.nil (w:=w9)) (Fr.refl [w.heap.size] w9) zb (Byt.nil (S:=S) (w:=w9)));obtain⟨i0,hi0,hz0,hz1,hz2⟩:=info_parts jI;clear F9 B9 V4 V5' L3 L1;go_upto_region 8 with (first
      | ((with_reducible refine qj 49 (.tmp 7) ?_);refine qf rfl 49 (.tmp 7) rfl b5 49 (arP ⟨pf,ps,pk,pw,[]⟩ (.slice none 0 0)) _ rfl V9.out Tryz.underlying49 rfl zk ?_)|(at_builtin;refine qE _ rfl (.tmp 33) (.tmp 35) 27 rfl 49 i0 (.agg #[.int .i64 0, .int .u32 0, .int .u32 0, .int .u16 0, .slice none 0 0]) 5 48 Tryz.underlying27 hi0 hz0 hz1 hz2 rfl zd (.slice none 0 0) 0 [] zr HW9.out.1 (fun _=>True) (.slice (some ⟨w9.heap.size,0,none⟩) 1 1) 1 [.int .i64 pf, .int .u32 ps, .int .u32 pk, .int .u16 pw, .slice none 0 0] zr HW9.out.2 (qfg ⟨pf,ps,pk,pw,[]⟩ _ _ _) (by unfold maxLen;omega) zw 1 rfl ?_;intro A7 c7 W10 h10 h11 h12;have H10:=hI h10;have H11:=hI h11;have H12:=hI h12;clear h10 h11 h12))
    have fa:Fr [] w9 (w9.alloc (.cells (arP ⟨pf,ps,pk,pw,[]⟩ (.slice none 0 0)) 49)):=(Fr.refl [] w9).alloc _;have f10:Fr [] w9 W10:=fa.trans H11.out zb;have PR10:Hid (Pr S W10 (.slice A7 1 c7) [(⟨pf,ps,pk,pw,[]⟩,(.slice none 0 0))]):=hI (Pr.app (L:=[]) (Pr.nil (w:=w9.alloc (.cells (arP ⟨pf,ps,pk,pw,[]⟩ (.slice none 0 0)) 49))) H10.out H11.out zb Byt.nil);have NOB:Hid (∀ b∈ob (.slice A7 1 c7),w.heap.size+1<b):=hI (fun b hb=>by
     have h0:=(L9.out w9 (Fr.refl _ _)).r.lt;rcases H12.out b (qo.1 hb) with h|h
     ·simp [Value.ownBlock] at h
     ·have:=h.1;simp at this;omega)
    have LX:Hid (∀ V,Fr [] W10 V->Lo w V w.heap.size (w.heap.size+1) (arE { x with shown:=rv } av uv kv)):=hI (fun V f=>(L9.out _ f10).grow f);clear fa f10 H10 H11 H12 HW9 V9 L9;have c2:W10.cell? ⟨w.heap.size,2,none⟩=some (.int .i64 x.at_):=(LX.out _ (Fr.refl [] W10)).s.cell 2;have z2:=(LX.out _ (Fr.refl [] W10)).s.frozen 2;have c3:W10.cell? ⟨w.heap.size,3,none⟩=some (.bool x.broken):=(LX.out _ (Fr.refl [] W10)).s.cell 3;have z3:=(LX.out _ (Fr.refl [] W10)).s.frozen 3;have hlb:=(LX.out _ (Fr.refl [] W10)).s.lt;go_upto_region 9 with fail
    have hset:Lo w ((W10.setCell ⟨w.heap.size,2,none⟩ (.int .i64 5)).setCell ⟨w.heap.size,3,none⟩ (.bool true)) w.heap.size (w.heap.size+1) (arE { x with shown:=rv,at_:=5,broken:=true } av uv kv):=by
     have hh:=(((LX.out _ (Fr.refl [] W10)).cell 2 (.int .i64 5)).cell 3 (.bool true));simp only [arE,zqA,zqB,zqC] at hh |-
     exact hh
    have PR2:Hid (Pr S ((W10.setCell ⟨w.heap.size,2,none⟩ (.int .i64 5)).setCell ⟨w.heap.size,3,none⟩ (.bool true)) (.slice A7 1 c7) [(⟨pf,ps,pk,pw,[]⟩,(.slice none 0 0))]):=hI (PR10.out.fr (((Fr.refl [w.heap.size] W10).setCell (p:=⟨w.heap.size,2,none⟩) (.inl zs) (.int .i64 5)).setCell (p:=⟨w.heap.size,3,none⟩) (.inl zs) (.bool true)) (fun z hz=>by simp at hz;subst hz;exact NSE.out _ (Nat.le_refl _)) (fun b hb hm=>by simp at hm;have:=NOB.out b hb;omega) (fun _ h=>h));generalize (W10.setCell ⟨w.heap.size,2,none⟩ (.int .i64 5)).setCell ⟨w.heap.size,3,none⟩ (.bool true)=w2 at *
    have L2:Hid (∀ W,Fr [] w2 W->Lo w W w.heap.size (w.heap.size+1) (arE { x with shown:=rv,at_:=5,broken:=true } av uv kv)):=hI (fun W f=>hset.grow f);clear hset;have PRS:Hid (Pr S w2 (.slice A7 1 c7) [(⟨pf,ps,pk,pw,[]⟩,(.slice none 0 0))]):=hI (PR2.out);clear c2 z2 c3 z3 hlb;have HRE:=HRS;go_cut [3,4] (fun sa sb wx=>sa=(.slice A7 1 c7)/\sb = .int .i64 0/\Blk wx (w.heap.size+1) 41 (arE rs av uv kv)/\Fr [] w wx/\Pr S wx (.slice A7 1 c7) [(⟨pf,ps,pk,pw,[]⟩,(.slice none 0 0))]);case first=>
     go_wp2_with (first
       | ((with_reducible refine qj 41 (.tmp 1) ?_);refine qf rfl 41 (.tmp 1) rfl w.heap.size 41 (arE { x with shown:=rv,at_:=5,broken:=true } av uv kv) _ rfl (L2.out _ zf).s Tryz.underlying41 rfl zk ?_)|(go_at_call 27;refine (HRE.out _ (L2.out _ (Fr.refl _ _)).f).mono ?_;rintro e w6 ⟨rfl,f6⟩)|((with_reducible refine qi 41 (.tmp 2) ?_);refine qc rfl 41 (.tmp 2) (.tmp 40) rfl (w.heap.size+1) 41 qy (arE rs av uv kv) rfl rfl (L2.out _ f6).r rfl zk zq ?_;intro w8 B8 F8))
     go_meet;exact⟨rfl,rfl,B8,(L2.out _ f6).res F8,(PRS.out.fr f6 zs zs (fun _ h=>h)).fr F8 (fun z hz hs=>by simp at hz;subst hz;exact NSR.out hs) (fun b hb hm=>by simp at hm;have:=NOB.out b hb;omega) (fun _ h=>h)⟩
    case rest=>
     obtain⟨rfl,rfl,Bz,Fz,Pz⟩:=hcut;refine ‹∀(a:Act) (w:World),Code.wp Tryz.prog Code.ret _ a w->_› _ _ (wp_ret ?_);try simp only [Exit.then]
     change bodyPost Tryz.prog _ _ .ret _ _;refine bodyPost_ret (kR 2 41 ⟨w.heap.size+1,0,none⟩ _ 3 4 (.slice A7 1 c7) (.int .i64 0) zr zr (qw Bz) zr zr) zr ?_;rw [V3.out (.inl H3.out)];exact⟨S,_,_,_,_,_,rfl,rfl,Ext.refl w S,MS.out.fr Fz,Pz,Fz⟩
  ·have hd3:decide (x.at_=3)=false:=by simpa using h3
   have hq3:(x.at_ == 3)=false:=by simpa using h3
   have H3:=hI h3;clear h3;by_cases h4:x.at_=4
   ·have hd4:decide (x.at_=4)=true:=by simpa using h4
    have hq4:(x.at_ == 4)=true:=(by simpa using h4);have H4:=hI h4;clear h4;go_upto_region 5 with fail
    clear c2;have c8:w1.cell? ⟨w.heap.size,8,none⟩=some (.int .i64 x.win.m):=(L1.out _ (Fr.refl [] w1)).s.cell 8;have c26:w1.cell? ⟨w.heap.size,26,none⟩=some (.bool x.fin):=(L1.out _ (Fr.refl [] w1)).s.cell 26;have hR:∀ i,(⟨w.heap.size,i,none⟩:Addr).block∉([]:List Nat):=fun i=>by simp
    refine Lay.kK [⟨.new 12,41,arE { x with shown:=rv } av uv kv,some 14⟩,⟨.new 13,49,arP ⟨pf,ps,pk,pw,[]⟩ (.slice none 0 0),some 15⟩] [] [27,29] zk zk (fun β=>by kernel_rfl) rfl ⟨trivial,trivial,trivial⟩ ?hh55;apply Exists.intro;refine⟨?h55,?hO55,?hI55,?hQ55⟩;case h55=>
     intro β X hX hN;have g8:∀ p:Lay.GX [] w1 X,p.W.cell? ⟨w.heap.size,8,none⟩=some (.int .i64 x.win.m):=Lay.GX.cell c8 (hR _);have g26:∀ p:Lay.GX [] w1 X,p.W.cell? ⟨w.heap.size,26,none⟩=some (.bool x.fin):=Lay.GX.cell c26 (hR _);have gb:Hid (∀ p:Lay.GX [] w1 X,Blk p.W w.heap.size 41 (arE x av uv kv)):=hI (fun p=>(L1.out _ p.fr).s);have gf:Hid (∀ p:Lay.GX [] w1 X,Fr [] w p.W):=hI (fun p=>(L1.out _ p.fr).f);have h1':Hid (∀ p:Lay.GX [] w1 X,Calls Tryz.prog 82 #[.bool x.fin] p.W fun e w'=>e = .returned (.int .i64 (one x.fin))/\∃ q:Lay.GX [] w1 X,w'=q.W):=hI (fun p=>Lay.GX.same (HO.out p.W));have h2':Hid (∀ p:Lay.GX [] w1 X,Calls Tryz.prog 81 #[agE x av uv kv, .int .i64 10, .int .i64 (x.win.m+one x.fin), .slice none 0 0] p.W fun e w'=>e = .returned (.tuple #[agE { x with shown:=rv } av uv kv,agP ⟨pf,ps,pk,pw,[]⟩ (.slice none 0 0)])/\∃ q:Lay.GX [] w1 X,w'=q.W):=hI (fun p=>Lay.GX.call hX (HP.out p.W (gf.out p)));simp only [Lay.jF,Lay.lays,Lay.lay,Lay.eff,Lay.xJ,if_true,if_false,Bool.false_eq_true,reduceIte];repeat (first
      | ((with_reducible refine kC 41 (.tmp 1) ?_);refine qH rfl 41 (.tmp 1) rfl w.heap.size 41 (arE x av uv kv) _ rfl (fun W hW=>by obtain⟨p,rfl⟩:=hW;exact gb.out p) Tryz.underlying41 rfl zk ?_;simp only [Act.put,zqA,zqB,zqC])
      | go_big_quiet_step (first|(go_at_call 82;exact h1'.out _)|(go_at_call 81;exact h2'.out _)))
     exact wpQuiet_nil rfl
    case hO55=>exact⟨Lay.xk rfl rfl xB rfl rfl rfl rfl zk zq (fun β=>rfl) (fun β=>rfl) zk,Lay.xk rfl rfl vT rfl rfl rfl rfl zk zq (fun β=>rfl) (fun β=>rfl) zk,trivial⟩
    case hI55=>exact⟨fun _ _=>rfl,fun _ _=>rfl,trivial⟩
    case hQ55=>
     intro β W hf hl;obtain⟨⟨B1,N1⟩,⟨B2,N2⟩,_⟩:=hl;have L3:Hid (∀ V,Fr [] W V->Lo w V w.heap.size (w.heap.size+1) (arE x av uv kv)):=hI (fun V f=>(L1.out _ hf).grow f);change Blk W (β 12) 41 (arE { x with shown:=rv } av uv kv) at B1;change Blk W (β 13) 49 (arP ⟨pf,ps,pk,pw,[]⟩ (.slice none 0 0)) at B2;change w1.heap.size<=β 12 at N1;change w1.heap.size<=β 13 at N2;have hs1:=(L1.out _ (Fr.refl [] w1)).s.lt;have hs2:=(L1.out _ (Fr.refl [] w1)).r.lt;have V4:=hI B1;have V5':=hI B2;have HB:Hid (w.heap.size<β 13/\w.heap.size+1<β 13):=hI zw;generalize β 12=b4 at *
     generalize β 13=b5 at *
     clear hR B1 B2 N1 N2 hs1 hs2 hf c8 c26;go_upto_region 7 with (first
       | ((with_reducible refine qj 41 (.tmp 6) ?_);refine qf rfl 41 (.tmp 6) rfl b4 41 (arE { x with shown:=rv } av uv kv) _ rfl V4.out Tryz.underlying41 rfl zk ?_)|((with_reducible refine qi 41 (.tmp 1) ?_);refine qc rfl 41 (.tmp 1) (.tmp 32) rfl w.heap.size 41 (arE x av uv kv) (arE { x with shown:=rv } av uv kv) rfl rfl (L3.out _ zf).s rfl zk zq ?_;intro w9 B9 F9))
     have L9:Hid (∀ V,Fr [] w9 V->Lo w V w.heap.size (w.heap.size+1) (arE { x with shown:=rv } av uv kv)):=hI (fun V f=>((L3.out _ (Fr.refl _ _)).set F9 B9).grow f);have V9:Hid (Blk w9 b5 49 (arP ⟨pf,ps,pk,pw,[]⟩ (.slice none 0 0))):=hI (V5'.out.fr F9 (by have:=HB.out;simp;omega));have HW9:=hI (jU (S1:=S) (p:=⟨pf,ps,pk,pw,[]⟩) (Pr.nil (w:=w9)) (Fr.refl [w.heap.size] w9) zb (Byt.nil (S:=S) (w:=w9)));obtain⟨i0,hi0,hz0,hz1,hz2⟩:=info_parts jI;clear F9 B9 V4 V5' L3 L1;go_upto_region 8 with (first
       | ((with_reducible refine qj 49 (.tmp 7) ?_);refine qf rfl 49 (.tmp 7) rfl b5 49 (arP ⟨pf,ps,pk,pw,[]⟩ (.slice none 0 0)) _ rfl V9.out Tryz.underlying49 rfl zk ?_)|(at_builtin;refine qE _ rfl (.tmp 33) (.tmp 35) 27 rfl 49 i0 (.agg #[.int .i64 0, .int .u32 0, .int .u32 0, .int .u16 0, .slice none 0 0]) 5 48 Tryz.underlying27 hi0 hz0 hz1 hz2 rfl zd (.slice none 0 0) 0 [] zr HW9.out.1 (fun _=>True) (.slice (some ⟨w9.heap.size,0,none⟩) 1 1) 1 [.int .i64 pf, .int .u32 ps, .int .u32 pk, .int .u16 pw, .slice none 0 0] zr HW9.out.2 (qfg ⟨pf,ps,pk,pw,[]⟩ _ _ _) (by unfold maxLen;omega) zw 1 rfl ?_;intro A7 c7 W10 h10 h11 h12;have H10:=hI h10;have H11:=hI h11;have H12:=hI h12;clear h10 h11 h12))
     have fa:Fr [] w9 (w9.alloc (.cells (arP ⟨pf,ps,pk,pw,[]⟩ (.slice none 0 0)) 49)):=(Fr.refl [] w9).alloc _;have f10:Fr [] w9 W10:=fa.trans H11.out zb;have PR10:Hid (Pr S W10 (.slice A7 1 c7) [(⟨pf,ps,pk,pw,[]⟩,(.slice none 0 0))]):=hI (Pr.app (L:=[]) (Pr.nil (w:=w9.alloc (.cells (arP ⟨pf,ps,pk,pw,[]⟩ (.slice none 0 0)) 49))) H10.out H11.out zb Byt.nil);have NOB:Hid (∀ b∈ob (.slice A7 1 c7),w.heap.size+1<b):=hI (fun b hb=>by
      have h0:=(L9.out w9 (Fr.refl _ _)).r.lt;rcases H12.out b (qo.1 hb) with h|h
      ·simp [Value.ownBlock] at h
      ·have:=h.1;simp at this;omega)
     have LX:Hid (∀ V,Fr [] W10 V->Lo w V w.heap.size (w.heap.size+1) (arE { x with shown:=rv } av uv kv)):=hI (fun V f=>(L9.out _ f10).grow f);clear fa f10 H10 H11 H12 HW9 V9 L9;have c2:W10.cell? ⟨w.heap.size,2,none⟩=some (.int .i64 x.at_):=(LX.out _ (Fr.refl [] W10)).s.cell 2;have z2:=(LX.out _ (Fr.refl [] W10)).s.frozen 2;have c3:W10.cell? ⟨w.heap.size,3,none⟩=some (.bool x.broken):=(LX.out _ (Fr.refl [] W10)).s.cell 3;have z3:=(LX.out _ (Fr.refl [] W10)).s.frozen 3;have hlb:=(LX.out _ (Fr.refl [] W10)).s.lt;go_upto_region 9 with fail
     have hset:Lo w ((W10.setCell ⟨w.heap.size,2,none⟩ (.int .i64 5)).setCell ⟨w.heap.size,3,none⟩ (.bool true)) w.heap.size (w.heap.size+1) (arE { x with shown:=rv,at_:=5,broken:=true } av uv kv):=by
      have hh:=(((LX.out _ (Fr.refl [] W10)).cell 2 (.int .i64 5)).cell 3 (.bool true));simp only [arE,zqA,zqB,zqC] at hh |-
      exact hh
     have PR2:Hid (Pr S ((W10.setCell ⟨w.heap.size,2,none⟩ (.int .i64 5)).setCell ⟨w.heap.size,3,none⟩ (.bool true)) (.slice A7 1 c7) [(⟨pf,ps,pk,pw,[]⟩,(.slice none 0 0))]):=hI (PR10.out.fr (((Fr.refl [w.heap.size] W10).setCell (p:=⟨w.heap.size,2,none⟩) (.inl zs) (.int .i64 5)).setCell (p:=⟨w.heap.size,3,none⟩) (.inl zs) (.bool true)) (fun z hz=>by simp at hz;subst hz;exact NSE.out _ (Nat.le_refl _)) (fun b hb hm=>by simp at hm;have:=NOB.out b hb;omega) (fun _ h=>h));generalize (W10.setCell ⟨w.heap.size,2,none⟩ (.int .i64 5)).setCell ⟨w.heap.size,3,none⟩ (.bool true)=w2 at *
     have L2:Hid (∀ W,Fr [] w2 W->Lo w W w.heap.size (w.heap.size+1) (arE { x with shown:=rv,at_:=5,broken:=true } av uv kv)):=hI (fun W f=>hset.grow f);clear hset;have PRS:Hid (Pr S w2 (.slice A7 1 c7) [(⟨pf,ps,pk,pw,[]⟩,(.slice none 0 0))]):=hI (PR2.out);clear c2 z2 c3 z3 hlb;have HRE:=HRS;go_cut [3,4] (fun sa sb wx=>sa=(.slice A7 1 c7)/\sb = .int .i64 0/\Blk wx (w.heap.size+1) 41 (arE rs av uv kv)/\Fr [] w wx/\Pr S wx (.slice A7 1 c7) [(⟨pf,ps,pk,pw,[]⟩,(.slice none 0 0))]);case first=>
      go_wp2_with (first
        | ((with_reducible refine qj 41 (.tmp 1) ?_);refine qf rfl 41 (.tmp 1) rfl w.heap.size 41 (arE { x with shown:=rv,at_:=5,broken:=true } av uv kv) _ rfl (L2.out _ zf).s Tryz.underlying41 rfl zk ?_)|(go_at_call 27;refine (HRE.out _ (L2.out _ (Fr.refl _ _)).f).mono ?_;rintro e w6 ⟨rfl,f6⟩)|((with_reducible refine qi 41 (.tmp 2) ?_);refine qc rfl 41 (.tmp 2) (.tmp 40) rfl (w.heap.size+1) 41 qy (arE rs av uv kv) rfl rfl (L2.out _ f6).r rfl zk zq ?_;intro w8 B8 F8))
      go_meet;exact⟨rfl,rfl,B8,(L2.out _ f6).res F8,(PRS.out.fr f6 zs zs (fun _ h=>h)).fr F8 (fun z hz hs=>by simp at hz;subst hz;exact NSR.out hs) (fun b hb hm=>by simp at hm;have:=NOB.out b hb;omega) (fun _ h=>h)⟩
     case rest=>
      obtain⟨rfl,rfl,Bz,Fz,Pz⟩:=hcut;refine ‹∀(a:Act) (w:World),Code.wp Tryz.prog Code.ret _ a w->_› _ _ (wp_ret ?_);try simp only [Exit.then]
      change bodyPost Tryz.prog _ _ .ret _ _;refine bodyPost_ret (kR 2 41 ⟨w.heap.size+1,0,none⟩ _ 3 4 (.slice A7 1 c7) (.int .i64 0) zr zr (qw Bz) zr zr) zr ?_;rw [V3.out (.inr H4.out)];exact⟨S,_,_,_,_,_,rfl,rfl,Ext.refl w S,MS.out.fr Fz,Pz,Fz⟩
   ·have hd4:decide (x.at_=4)=false:=by simpa using h4
    have hq4:(x.at_ == 4)=false:=(by simpa using h4);have HN:Hid (¬ (x.at_=3\/x.at_=4)):=hI (fun h=>h.elim H3.out h4);clear h4;go_upto_region 8 with fail
    clear c2;have c2:w1.cell? ⟨w.heap.size,2,none⟩=some (.int .i64 x.at_):=(L1.out _ (Fr.refl [] w1)).s.cell 2;have z2:=(L1.out _ (Fr.refl [] w1)).s.frozen 2;have c3:w1.cell? ⟨w.heap.size,3,none⟩=some (.bool x.broken):=(L1.out _ (Fr.refl [] w1)).s.cell 3;have z3:=(L1.out _ (Fr.refl [] w1)).s.frozen 3;have hlb:=(L1.out _ (Fr.refl [] w1)).s.lt;go_upto_region 9 with fail
    have hset:Lo w ((w1.setCell ⟨w.heap.size,2,none⟩ (.int .i64 5)).setCell ⟨w.heap.size,3,none⟩ (.bool true)) w.heap.size (w.heap.size+1) (arE { x with at_:=5,broken:=true } av uv kv):=by
     have hh:=(((L1.out _ (Fr.refl [] w1)).cell 2 (.int .i64 5)).cell 3 (.bool true));simp only [arE,zqA,zqB,zqC] at hh |-
     exact hh
    generalize (w1.setCell ⟨w.heap.size,2,none⟩ (.int .i64 5)).setCell ⟨w.heap.size,3,none⟩ (.bool true)=w2 at *
    have L2:Hid (∀ W,Fr [] w2 W->Lo w W w.heap.size (w.heap.size+1) (arE { x with at_:=5,broken:=true } av uv kv)):=hI (fun W f=>hset.grow f);clear hset;clear c2 z2 c3 z3 hlb;have HRE:=HREE;go_cut [3,4] (fun sa sb wx=>sa=(.slice none 0 0)/\sb = .int .i64 0/\Blk wx (w.heap.size+1) 41 (arE re av uv kv)/\Fr [] w wx/\Pr S wx (.slice none 0 0) ([]:List (Prt × Value)));case first=>
     go_wp2_with (first
       | ((with_reducible refine qj 41 (.tmp 1) ?_);refine qf rfl 41 (.tmp 1) rfl w.heap.size 41 (arE { x with at_:=5,broken:=true } av uv kv) _ rfl (L2.out _ zf).s Tryz.underlying41 rfl zk ?_)|(go_at_call 27;refine (HRE.out _ (L2.out _ (Fr.refl _ _)).f).mono ?_;rintro e w6 ⟨rfl,f6⟩)|((with_reducible refine qi 41 (.tmp 2) ?_);refine qc rfl 41 (.tmp 2) (.tmp 40) rfl (w.heap.size+1) 41 qy (arE re av uv kv) rfl rfl (L2.out _ f6).r rfl zk zq ?_;intro w8 B8 F8))
     go_meet;exact⟨rfl,rfl,B8,(L2.out _ f6).res F8,(Pr.nil.fr f6 zs zs (fun _ h=>h)).fr F8 (fun z hz hs=>by simp at hz;subst hz;exact NSR.out hs) (fun b hb hm=>by simp at hm;simp [ob,Value.ownBlock] at hb) (fun _ h=>h)⟩
    case rest=>
     obtain⟨rfl,rfl,Bz,Fz,Pz⟩:=hcut;refine ‹∀(a:Act) (w:World),Code.wp Tryz.prog Code.ret _ a w->_› _ _ (wp_ret ?_);try simp only [Exit.then]
     change bodyPost Tryz.prog _ _ .ret _ _;refine bodyPost_ret (kR 2 41 ⟨w.heap.size+1,0,none⟩ _ 3 4 (.slice none 0 0) (.int .i64 0) zr zr (qw Bz) zr zr) zr ?_;rw [VE.out H5.out HN.out];exact⟨S,_,_,_,_,[],rfl,rfl,Ext.refl w S,ME.out.fr Fz,Pz,Fz⟩
def qnw(S:Nat->Prop)(w:World)(H:Hd)(x':St)(p:Prt)(e:Ending)(w':World):Prop:=
 ∃ S' A c,e = .returned (agP p (.slice A p.d.length c))/\Ext w S S'/\Byt S' w' (.slice A p.d.length c) p.d/\SI S' w' H x'/\Fr [H.g,H.gw] w w'
theorem SI.head{S:Nat->Prop}{w:World}{H:Hd}{x:St}(m:SI S w H x){n:Nat}(h0:0<=x.win.a)(h1:0<n)(h2:x.win.a+n<=x.all.length) :
  ∃ b c,H.bv = .slice (some ⟨b,0,none⟩) (kw x).length c/\n<=(kw x).length/\(kw x).length<=c/\c<=maxLen/\Byt (fun y=>y∈ob H.bv) w (.slice (some ⟨b,0,none⟩) n c) ((x.all.drop x.win.a.toNat).take n):=by
 have hl:(kw x).length=x.all.length - x.win.a.toNat:=by unfold kw;rw [List.length_drop]
 have hb:Byt (fun y=>y∈ob H.bv) w H.bv (kw x):=Sl.kW m.buf (fun b hb=>qo.2 hb);rcases m.buf.2 with ⟨e,h⟩|⟨g,cap,cur,e,_,hg,h3,h4,_⟩
 ·omega
 ·refine⟨g,cap,e,zw,h3,h4,?_⟩
  rw [e] at hb |-
  exact hb.take (k:=n) zw
theorem yV{S S5:Nat->Prop}{w W0 w5:World}{H:Hd}{x x':St}{p:Prt}{A:Option Addr}{c:Nat}(m:SI S w H x)(f0:Fr [] w W0)(hr:w.heap.size<W0.heap.size)(x5:Ext W0 S S5)(by5:Byt S5 w5 (.slice A p.d.length c) p.d)(m5:SI S5 w5 H x')(f5:Fr [H.g,H.gw] W0 w5)
  (hb:Blk W0 w.heap.size 49 zJ) :
  qnw S w H x' p (.returned (agP p (.slice A p.d.length c))) (((((w5.setCell ⟨w.heap.size,0,none⟩ (.int .i64 p.flags)).setCell ⟨w.heap.size,1,none⟩ (.int .u32 p.seq)).setCell ⟨w.heap.size,2,none⟩ (.int .u32 p.ack)).setCell ⟨w.heap.size,3,none⟩ (.int .u16 p.win)).setCell ⟨w.heap.size,4,none⟩ (.slice A p.d.length c)) /\
  Blk (((((w5.setCell ⟨w.heap.size,0,none⟩ (.int .i64 p.flags)).setCell ⟨w.heap.size,1,none⟩ (.int .u32 p.seq)).setCell ⟨w.heap.size,2,none⟩ (.int .u32 p.ack)).setCell ⟨w.heap.size,3,none⟩ (.int .u16 p.win)).setCell ⟨w.heap.size,4,none⟩ (.slice A p.d.length c)) w.heap.size 49 #[.int .i64 p.flags, .int .u32 p.seq, .int .u32 p.ack, .int .u16 p.win, .slice A p.d.length c]:=by
 have hne:∀ y∈H.own,y≠w.heap.size:=fun y hy=>by have:=m.lt y hy;omega
 have b5:Blk w5 w.heap.size 49 zJ:=hb.fr f5 (by simp;exact⟨fun e=>hne H.g zh e.symm,fun e=>hne H.gw zh e.symm⟩);have hnS:¬ S5 w.heap.size:=fun hs=>by
  rcases x5.2 _ hs with h|h
  ·have:=HP.zA m.hp _ h;omega
  ·omega
 have f6:=fr5 (b:=w.heap.size) (Fr.refl [w.heap.size] w5) (.inl zs) (.int .i64 p.flags) (.int .u32 p.seq) (.int .u32 p.ack) (.int .u16 p.win) (.slice A p.d.length c);exact⟨⟨S5,A,c,rfl,kM x5 f0.size,by5.fr f6 (fun y hy=>by simp at hy;subst hy;exact hnS),m5.far f6 hnS hne,((f0.mono zs).trans f5 (fun y hy => .inl hy)).trans f6 (fun y hy => .inr (by simp at hy;omega))⟩,set5 b5 _ _ _ _ _⟩
theorem qcy(x:St)(h:x.at_≠4):zx x=(shows x,zg x):=by unfold zx;rw [if_pos h]
theorem qbo(x:St)(h:x.at_=4)(n:Int)(hn:n=min 64 (x.win.m - x.win.a))(hp:0<n):zx x=(shows x,kz x 2 x.win.a ((x.all.drop x.win.a.toNat).take n.toNat)):=by
 subst hn;unfold zx;rw [if_neg (by simp [h]),if_pos hp]
theorem qcz(x:St)(h:x.at_=4)(n:Int)(hn:n=min 64 (x.win.m - x.win.a))(hp:¬ 0<n)(hf:x.fin=true):zx x=(shows x,kz x 6 x.all.length []):=by
 subst hn;unfold zx;rw [if_neg (by simp [h]),if_neg hp,if_pos hf]
theorem qaq(x:St)(h:x.at_=4)(n:Int)(hn:n=min 64 (x.win.m - x.win.a))(hp:¬ 0<n)(hf:x.fin=false) :
  zx x=(shows { x with win:=(Win.kX x.win).1 },kz { x with win:=(Win.kX x.win).1 } 2 (Win.kX x.win).2.1 ((x.all.drop x.win.a.toNat).take 1)):=by
 subst hn;unfold zx;rw [if_neg (by simp [h]),if_neg hp,if_neg (by simp [hf])]
theorem qnx{S:Nat->Prop}{w:World}{H:Hd}{x:St}(m:SI S w H x)(ok:Ok x)(hw:kT x=true) :
  Calls Tryz.prog 75 #[ptr H.g] w (qnw S w H (zx x).1 (zx x).2):=by
 have v0:=qcy x;have v1:=qbo x;have v2:=qcz x;have v3:=qaq x;have hpr:=yL ok hw;have hgl:=m.blk.lt;have f0:Fr [] w (w.alloc (.cells zJ 49)):=(Fr.refl [] w).alloc _;have b0:Blk (w.alloc (.cells zJ 49)) w.heap.size 49 zJ:=Blk.new w _ _;have hr:w.heap.size<(w.alloc (.cells zJ 49)).heap.size:=zs;have m0:=m.fr f0;generalize zx x=r at *
 have hwb:=Win.Inv.bd ok.s.hw;have hml:=ok.s.hm;have hal:=ok.s.hl;have M:=hI m;have OK:=hI ok;have V0:=hI v0;have V1:=hI v1;have V2:=hI v2;have V3:=hI v3;have HPR:=hI hpr;have HWB:=hI hwb;have HML:=hI hml;have HAL:=hI hal;clear m ok v0 v1 v2 v3 hpr hwb hml hal;go_enter Tryz.func75,Tryz.ntmps75;go_upto_region 1 with fail
 generalize w.alloc (.cells zJ 49)=w0 at *
 have c16:=(qm m0.blk).c16;have M0:=hI m0;have F0:=hI f0;have B0:=hI b0;have HRr:=hI hr;clear m0 f0 b0 hr;go_wp2_with fail
 refine (Win.kD H.gw x.win w0 M0.out.win).mono ?_;rintro e w1 ⟨rfl,f1⟩;go_upto_region 2 with fail
 have f2:Fr [] w0 (w1.alloc (.cells #[.int .i64 x.win.a, .int .i64 x.win.s, .int .i64 x.win.m, .int .i64 x.win.l] 32)):=f1.alloc _;have b2:=Blk.new w1 32 #[.int .i64 x.win.a, .int .i64 x.win.s, .int .i64 x.win.m, .int .i64 x.win.l];generalize w1.alloc (.cells #[.int .i64 x.win.a, .int .i64 x.win.s, .int .i64 x.win.m, .int .i64 x.win.l] 32)=w2 at *
 have p0:w2.cell? ⟨w1.heap.size,0,none⟩=some (.int .i64 x.win.a):=by simpa using b2.cell 0
 have p2:w2.cell? ⟨w1.heap.size,2,none⟩=some (.int .i64 x.win.m):=by simpa using b2.cell 2
 have hsub:IntKind.i64.wrap (x.win.m - x.win.a)=x.win.m - x.win.a:=IntWalk.i64_in _ (by have:=HWB.out;have:=HML.out;have:=HAL.out;omega);have m2:=M0.out.fr f2;have cs:=qm m2.blk;have c0:=cs.c0;have c7:=cs.c7;have c14:=cs.c14;have c16:=cs.c16;have c19:=cs.c19;have F2:=hI (F0.out.trans f2 zs);have B2:=hI (B0.out.fr f2 zs);have HR2:Hid (w.heap.size<w2.heap.size):=hI (Nat.lt_of_lt_of_le HRr.out f2.size);have M2:=hI m2;clear f1 f2 b2 m2 cs;generalize hb1:w1.heap.size=b1 at *
 clear hb1;have HG2:Hid (w.heap.size∉[H.g,H.gw]):=hI (by have h1:=M.out.lt H.g zh;have h2:=M.out.lt H.gw zh;simp;omega);obtain⟨y0,y1,y2,y3,y4⟩:=cells5 B2.out;obtain⟨z0,z1,z2,z3,z4⟩:=xU B2.out;have hbd:min 64 (x.win.m - x.win.a)<=64/\min 64 (x.win.m - x.win.a)<=x.win.m - x.win.a:=zw;by_cases h4:x.at_=4
 ·rw [h4] at c0
  have HH4:=hI h4;go_upto_region 5 with fail
  have hn:min 64 (x.win.m - x.win.a)=min 64 (x.win.m - x.win.a):=rfl;generalize hnn:min 64 (x.win.m - x.win.a)=n at *
  have HNN:=hI hnn.symm;clear hnn hn h4;by_cases hpos:0<n
  ·have hd0:decide (0<n)=true:=by simpa using hpos
   have hd1:decide (n > 0)=true:=by simpa using hpos
   have hv:=V1.out HH4.out n rfl hpos;obtain⟨nn,rfl⟩:∃ nn:Nat,n=nn:=⟨n.toNat,zw⟩;have hnn:((nn:Int)).toNat=nn:=zw;rw [hnn] at hv;obtain⟨b,bc,hbv,q1,q2,q3,hby⟩:=M2.out.head (n:=nn) HWB.out.1 zw (by have:=HML.out;omega);rw [hbv] at c14;unfold maxLen at q3;have hpt:Calls Tryz.prog 79 #[ptr H.g, .int .i64 0, .int .i64 x.win.a, .slice (some ⟨b,0,none⟩) nn bc] w2.drew (qZ S w2.drew H (shows x) (kz x 2 x.win.a ((x.all.drop x.win.a.toNat).take nn))):=
    yu (M2.out.fr (Fr.refl [] w2).drew) OK.out.s.hi (by have:=OK.out.s.hu;omega) 0 x.win.a (.inl rfl) HWB.out.1 (by have:=HWB.out;have:=HML.out;have:=HAL.out;omega) _ _ _ (hby.fr (Fr.refl [] w2).drew zs) (fun z hz=>by rintro rfl;exact M2.out.qfx _ hz rfl) zv
   generalize kz x 2 x.win.a ((x.all.drop x.win.a.toNat).take nn)=p at *
   have HPT:=hI hpt;have HV:=hI hv;have s4:(0:Int)<=(nn:Int):=zw;have s6:(nn:Int)<=(bc:Int):=zw;clear hpt hv hby hbd;go_upto_region 6 with fail
   go_still_tail 9,zk
   change wpList Tryz.prog _ _ _ _ w2.drew;go_wp2_with fail
   refine HPT.out.mono ?_;rintro e w3 ⟨S3,A3,c3,rfl,x3,by3,m3,f3⟩;have f3w:Fr [H.g,H.gw] w2 w3:=((Fr.refl [H.g] w2).drew.trans f3 (fun y hy => .inl hy)).mono zs;have x3:Ext w2 S S3:=x3;clear f3;have b3:=B2.out.fr f3w HG2.out;have hend:=yV (p:=p) M.out F2.out HR2.out x3 by3 m3 f3w B2.out;obtain⟨y0,y1,y2,y3,y4⟩:=cells5 b3;obtain⟨z0,z1,z2,z3,z4⟩:=xU b3;obtain⟨r0,r1,r2,r3,r4⟩:=cells5 hend.2;have HE:=hI hend.1;clear hend x3 by3 m3 f3w b3;go_wp2_with fail
   refine bodyPost_ret (v := .agg #[.int .i64 p.flags, .int .u32 p.seq, .int .u32 p.ack, .int .u16 p.win, .slice A3 p.d.length c3]) (by simp [results,Tryz.results75,go_sem,r0,r1,r2,r3,r4]) rfl ?_;rw [HV.out];exact HE.out
  ·have hd0:decide (0<n)=false:=by simpa using hpos
   have hd1:decide (n > 0)=false:=by simpa using hpos
   rcases Bool.eq_false_or_eq_true x.fin with hfi|hfi;all_goals rw [hfi] at c19
   ·have hpt:Calls Tryz.prog 79 #[ptr H.g, .int .i64 4, .int .i64 x.all.length, .slice none 0 0] w2 (qZ S w2 H (shows x) (kz x 6 x.all.length [])):=yu M2.out OK.out.s.hi (by have:=OK.out.s.hu;omega) 4 x.all.length (.inr (.inl rfl)) zw (by have:=HAL.out;omega) _ [] (fun _=>False) Byt.nil zs zs
    have hv:=V2.out HH4.out n rfl zw hfi;generalize kz x 6 x.all.length []=p at *
    have HPT:=hI hpt;have HV:=hI hv;clear hpt hv;go_wp2_with fail
    refine HPT.out.mono ?_;rintro e w3 ⟨S3,A3,c3,rfl,x3,by3,m3,f3⟩;have f3w:=f3.mono (O':=[H.g,H.gw]) zs;clear f3;have b3:=B2.out.fr f3w HG2.out;have hend:=yV (p:=p) M.out F2.out HR2.out x3 by3 m3 f3w B2.out;obtain⟨y0,y1,y2,y3,y4⟩:=cells5 b3;obtain⟨z0,z1,z2,z3,z4⟩:=xU b3;obtain⟨r0,r1,r2,r3,r4⟩:=cells5 hend.2;have HE:=hI hend.1;clear hend x3 by3 m3 f3w b3;go_wp2_with fail
    refine bodyPost_ret (v := .agg #[.int .i64 p.flags, .int .u32 p.seq, .int .u32 p.ack, .int .u16 p.win, .slice A3 p.d.length c3]) (by simp [results,Tryz.results75,go_sem,r0,r1,r2,r3,r4]) rfl ?_;rw [HV.out];exact HE.out
   ·have hprb:=HPR.out HH4.out zw hfi
    have hv:=V3.out HH4.out n rfl zw hfi;have hpw:=Win.qjv H.gw x.win w2 1000000000 (Int.le_refl _) OK.out.s.hw M2.out.win;obtain⟨hz,hza⟩:=hprb;have hpv:Win.kX x.win=(⟨x.win.a,x.win.s,max x.win.m (x.win.a+1),x.win.l⟩,x.win.a,0):=(by unfold Win.kX;rw [if_pos hz]);rw [hpv] at hpw;have HPW:=hI hpw;obtain⟨b,bc,hbv,q1,q2,q3,hby⟩:=M2.out.head (n:=1) HWB.out.1 zw zw;rw [hbv] at c14;unfold maxLen at q3;have HBV:=hI hbv;have HBY:=hI hby;rw [hpv] at hv;dsimp only at hv;generalize hx':({ x with win:=⟨x.win.a,x.win.s,max x.win.m (x.win.a+1),x.win.l⟩ }:St)=x' at *
    have HX:=hI hx';generalize hpp:kz x' 2 x.win.a ((x.all.drop x.win.a.toNat).take 1)=p at *
    have HPP:=hI hpp;have HV:=hI hv;have s6:(1:Int)<=(bc:Int):=zw;have HZA:=hI hza;clear hpv hpw hbv hby hv hbd hz hx' hpp hza;go_wp2_with fail
    refine HPW.out.mono ?_;rintro e w3 ⟨rfl,f3,W3⟩;have m3:=M2.out.setw f3 W3 rfl;have c14':w3.cell? ⟨H.g,14,none⟩=some (.slice (some ⟨b,0,none⟩) (kw x).length bc):=(by rw [<- HBV.out];exact (qm m3.blk).c14);have hlt3:=m3.blk.lt;rw [HX.out] at m3;have F3:=hI f3;have hpt:Calls Tryz.prog 79 #[ptr H.g, .int .i64 0, .int .i64 x.win.a, .slice (some ⟨b,0,none⟩) 1 bc] w3 (qZ S w3 H (shows x') p):=by
     have h:=yu m3 (by rw [<- HX.out];exact OK.out.s.hi) (by rw [<- HX.out];have:=OK.out.s.hu;show x.unread.length<=100000;omega) 0 x.win.a (.inl rfl) HWB.out.1 (by have:=HWB.out;have:=HML.out;have:=HAL.out;omega) _ _ _ (HBY.out.fr f3 (fun z hz hm=>by simp at hz;subst hz;exact own_ne M2.out.buf M2.out.win zd (qo.1 hm))) (fun z hz=>by rintro rfl;exact M2.out.qfx _ hz rfl) zv;rw [<- HPP.out];exact h
    have HPT:=hI hpt;clear hpt m3 f3 W3 c14;go_wp2_with fail
    refine HPT.out.mono ?_;rintro e w4 ⟨S3,A3,c3,rfl,x3,by3,m3,f3⟩;have f3w:Fr [H.g,H.gw] w2 w4:=(F3.out.mono zs).trans (f3.mono (O':=[H.g,H.gw]) zs) (fun y hy => .inl hy);have x3:=kM x3 F3.out.size;clear f3;have b3:=B2.out.fr f3w HG2.out;have hend:=yV (p:=p) M.out F2.out HR2.out x3 by3 m3 f3w B2.out;obtain⟨y0,y1,y2,y3,y4⟩:=cells5 b3;obtain⟨z0,z1,z2,z3,z4⟩:=xU b3;obtain⟨r0,r1,r2,r3,r4⟩:=cells5 hend.2;have HE:=hI hend.1;clear hend x3 by3 m3 f3w b3;go_wp2_with fail
    refine bodyPost_ret (v := .agg #[.int .i64 p.flags, .int .u32 p.seq, .int .u32 p.ack, .int .u16 p.win, .slice A3 p.d.length c3]) (by simp [results,Tryz.results75,go_sem,r0,r1,r2,r3,r4]) rfl ?_;rw [HV.out];exact HE.out
 ·have hd:decide (x.at_=4)=false:=by simpa using h4
  have hq:(x.at_ == 4)=false:=by simpa using h4
  have hnq:(x.at_ != 4)=true:=by simpa using h4
  have hbg:=qax M2.out OK.out.s.hi (by have:=OK.out.s.hu;omega);have HV:=hI (V0.out h4);generalize zg x=p at *
  go_wp2_with fail
  refine hbg.mono ?_;rintro e w3 ⟨S3,A3,c3,rfl,x3,by3,m3,f3⟩;have f3w:=f3.mono (O':=[H.g,H.gw]) zs;clear f3 hbg hbd;have b3:=B2.out.fr f3w HG2.out;have hend:=yV (p:=p) M.out F2.out HR2.out x3 by3 m3 f3w B2.out;obtain⟨y0,y1,y2,y3,y4⟩:=cells5 b3;obtain⟨z0,z1,z2,z3,z4⟩:=xU b3;obtain⟨r0,r1,r2,r3,r4⟩:=cells5 hend.2;have HE:=hI hend.1;clear hend x3 by3 m3 f3w b3;go_wp2_with fail
  refine bodyPost_ret (v := .agg #[.int .i64 p.flags, .int .u32 p.seq, .int .u32 p.ack, .int .u16 p.win, .slice A3 p.d.length c3]) (by simp [results,Tryz.results75,go_sem,r0,r1,r2,r3,r4]) rfl ?_;rw [HV.out];exact HE.out
end Go.Proofs.YtmgdbbbdhkfdmaaGreat
