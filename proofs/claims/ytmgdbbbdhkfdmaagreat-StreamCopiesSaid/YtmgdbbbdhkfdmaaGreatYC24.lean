import Derived.Test.YtmgdbbbdhkfdmaaGreatYC23
import Derived.Test.YtmgdbbbdhkfdmaaGreatYC22
import Derived.Deep.DeepCutAuto
import Derived.Test.YtmgdbbbdhkfdmaaGreatYC10
import Derived.Test.YtmgdbbbdhkfdmaaGreatYC0
set_option linter.unusedSimpArgs false
set_option linter.unusedVariables false
set_option maxHeartbeats 40000000
namespace Go.Proofs.YtmgdbbbdhkfdmaaGreat
set_option maxRecDepth 100000
open Go.RowKit Go.Deep
theorem qll{w:World}{b:Nat}{x:St}(B:Blk w b 56 (stA x)):(loadVar 56 ⟨b,0,none⟩).run Tryz.prog w = .ok (.agg (stA x)) w:=xY 56 b 56 _ _ B Tryz.underlying56 rfl zk
def ERd(S:Nat->Prop)(w:World)(uv:Value)(r:St × List Int × List Prt)(av kv:Value)(e:Ending)(w':World):Prop:=
 ∃ v L,e = .returned (.tuple #[agE r.1 av (.slice none 0 0) kv,uv,v])/\L.map (·.1)=r.2.2/\Pr S w' v L/\Fr [] w w'
section
variable {P:Program} {ops:Array Oper} {rest:List Oper} {op:Oper} {a:Act} {w:World} {Q:Exit->Act->World->Prop}
theorem xP(ty:TypeId)(x:Operand)(ho:op.op = .load ty x)(hw:Region.wanted op (yielded ops a.tmps)=true)(b:Nat)(t:TypeId)(cs:Array Value)(d:TypeDesc)
  (hx:a.eval x = .pointer (some ⟨b,0,none⟩)) (hB:Blk w b t cs) (hu:P.underlying ty=some d) (hd:d.isRow=true) (hi:(P.info? ty).map (·.size)=some cs.size)
  (h:wpList P ops Q rest (a.put op.dst (.agg cs)) w):wpList P ops Q (op::rest) a w:=by
 unfold wpList;rw [if_pos hw];refine .inl (wp_load_mid ty x ho b 0 hx cs.toList d (fun j v hj=>?_) hu hd (by simpa using hi) (by simpa using h));rw [Nat.zero_add,Blk.cell hB j];simpa using hj
end
theorem ereads{S:Nat->Prop}{w:World}{x:St}{av uv kv:Value}(m:RE S w x av uv kv)(ok:Ok x)(ou:OkU x):Calls Tryz.prog 38 #[agE x av uv kv] w (ERd S w uv (zV x) av kv):=by
 have m1:RE S w { x with unread:=[] } av (.slice none 0 0) kv:=⟨m.ba,Byt.nil,m.hp⟩;have o1:=m.qN;have o2:=m1.qN;have vy:=qea x;have vn:=qgw x;have okr:Ok { x with unread:=[] }:=⟨⟨ok.s.hi,zs,ok.s.hw,ok.s.hc,ok.s.hm,ok.s.hl,ok.s.n0,ok.s.n1,ok.s.s0,ok.s.s1⟩,ok.at0,ok.at5,by have:=ok.un;simp;omega,fun p hp=>by have:=ok.kb p hp;have:=ok.un;simp;omega,ok.nb⟩;have hrm:=fun W (g:Fr [] w W)=>qjb (m1.fr g) okr.s;have han:=fun W (g:Fr [] w W)=>yz (m1.fr g) okr.s ⟨ou.i0,ou.i1,ou.p0,ou.p1⟩;obtain⟨_,⟨uA,uc,rfl,_,_⟩,_⟩:=m.forms;have L0:=hI (Lo.start w (arE x av (.slice uA x.unread.length uc) kv));have M:=hI m;have NSR:Hid (¬ S (w.heap.size+1)):=hI (fun hs=>by have:=m.pub _ hs;omega);generalize zV x=r at *
 generalize hrv:qK { x with unread:=[] }=rv at *
 generalize hul:x.unread.length=un at *
 have VY:=hI vy;have VN:=hI vn;have HRM:=hI hrm;have HAN:=hI han;clear m m1 ok ou okr vy vn hrm han hrv hul;go_enter Tryz.func38,Tryz.ntmps38;go_upto_region 1 with fail
 generalize (w.alloc (.cells (arE x av (.slice uA un uc) kv) 41)).alloc (.cells qy 41)=w1 at *
 have c5:w1.cell? ⟨w.heap.size,5,none⟩=some (.slice uA un uc):=L0.out.s.cell 5;have z5:=L0.out.s.frozen 5;have hlb:=L0.out.s.lt;go_upto_region 3 with fail
 have hset:Lo w (w1.setCell ⟨w.heap.size,5,none⟩ (.slice none 0 0)) w.heap.size (w.heap.size+1) (arE { x with unread:=[] } av (.slice none 0 0) kv):=by
  have hh:=L0.out.cell 5 (.slice none 0 0);simp only [arE,zqA,zqB,zqC] at hh |-
  exact hh
 generalize w1.setCell ⟨w.heap.size,5,none⟩ (.slice none 0 0)=w2 at *
 have L2:Hid (∀ W,Fr [] w2 W->Lo w W w.heap.size (w.heap.size+1) (arE { x with unread:=[] } av (.slice none 0 0) kv)):=hI (fun W f=>hset.grow f);clear hset c5 z5 hlb L0;have c32:w2.cell? ⟨w.heap.size,32,none⟩=some (.int .i64 x.shown):=(L2.out _ (Fr.refl [] w2)).s.cell 32;have c2:w2.cell? ⟨w.heap.size,2,none⟩=some (.int .i64 x.at_):=(L2.out _ (Fr.refl [] w2)).s.cell 2;by_cases hs0:x.shown=0
 ·rw [hs0] at c32
  have HS0:=hI hs0;clear hs0;by_cases ha4:x.at_=4
  ·rw [ha4] at c2
   have HA4:=hI ha4;clear ha4;by_cases hr:0<rv
   ·have hr1:decide (rv > 0)=true:=by simpa using hr
    have hr2:decide (0<rv)=true:=(by simpa using hr);have HRV:=hI hr;clear hr;go_upto_region 4 with (first
       | ((with_reducible refine qj 41 (.tmp 1) ?_);refine xP 41 (.tmp 1) rfl zr w.heap.size 41 (arE { x with unread:=[] } av (.slice none 0 0) kv) _ rfl (L2.out _ zf).s Tryz.underlying41 rfl zk ?_)|(go_at_call 65;refine (HRM.out _ (L2.out _ (Fr.refl _ _)).f).mono ?_;rintro e w3 ⟨rfl,f3⟩))
    have L3:Hid (∀ W,Fr [] w3 W->Lo w W w.heap.size (w.heap.size+1) (arE { x with unread:=[] } av (.slice none 0 0) kv)):=hI (fun W f=>(L2.out _ f3).grow f);clear L2;clear c32 c2 f3;have MW:Hid (∀ W,Fr [] w3 W->Fr [] w W):=hI (fun W f=>(L3.out _ f).f);go_upto_region 5 with (first
       | ((with_reducible refine qj 41 (.tmp 1) ?_);refine qf rfl 41 (.tmp 1) rfl w.heap.size 41 (arE { x with unread:=[] } av (.slice none 0 0) kv) _ rfl (L3.out _ zf).s Tryz.underlying41 rfl zk ?_)|(go_at_call 83;refine (HAN.out _ (L3.out _ (Fr.refl _ _)).f).mono ?_;rintro e w8 ⟨v2,Ls,rfl,hLs,p2,f8⟩)|((with_reducible refine qi 41 (.tmp 6) ?_);refine qc rfl 41 (.tmp 6) (.tmp 27) rfl w8.heap.size 41 qy (arE (shows { x with unread:=[] }) av (.slice none 0 0) kv) rfl rfl (Blk.new w8 41 qy) rfl zk zq ?_;intro w9 B9 F9))
    have fa8:Fr [] w8 (w8.alloc (.cells qy 41)):=(Fr.refl [] w8).alloc _;have ll8:=L3.out _ f8;have nsb:¬ S w8.heap.size:=fun hs=>by have h1:=M.out.pub _ hs;have h2:=ll8.f.size;omega
    have nob:∀ b∈ob v2,b≠w8.heap.size:=fun b hb=>by have:=kG p2.own (qo.1 hb);omega
    have L9:=hI ((ll8.grow fa8).far F9 (by have:=ll8.f.size;omega) (by have:=ll8.s.lt;omega) (by have:=ll8.r.lt;omega));have P9:=hI ((p2.fr fa8 zs zs (fun _ h=>h)).fr F9 (fun z hz hs=>by simp at hz;subst hz;exact nsb hs) (fun b hb hm=>by simp at hm;exact nob b hb hm) (fun _ h=>h));have V9:=hI B9;have HLs:=hI hLs;have NOB:Hid (∀ b∈ob v2,b≠w.heap.size+1):=hI (fun b hb=>by rintro rfl;exact own_ne p2.own ll8.r zd (qo.1 hb));obtain⟨A2,c2,rfl,_,_⟩:=qY p2.own;generalize w8.heap.size=b9 at *
    clear fa8 nsb nob ll8 p2 f8 B9 F9 hLs MW;go_cut [3,4] (fun sa sb wx=>sa=(.slice uA un uc)/\sb = .slice A2 Ls.length c2/\Blk wx (w.heap.size+1) 41 (arE (shows { x with unread:=[] }) av (.slice none 0 0) kv)/\Fr [(w.heap.size+1)] w9 wx);case first=>
     go_wp2_with (first
       | ((with_reducible refine qj 41 (.tmp 6) ?_);refine qf rfl 41 (.tmp 6) rfl b9 41 (arE (shows { x with unread:=[] }) av (.slice none 0 0) kv) _ rfl V9.out Tryz.underlying41 rfl zk ?_)|((with_reducible refine qi 41 (.tmp 2) ?_);refine qc rfl 41 (.tmp 2) (.tmp 29) rfl (w.heap.size+1) 41 qy (arE (shows { x with unread:=[] }) av (.slice none 0 0) kv) rfl rfl L9.out.r rfl zk zq ?_;intro wz Bz Fz))
     go_meet;exact⟨rfl,rfl,Bz,Fz⟩
    case rest=>
     obtain⟨rfl,rfl,Bz,Fz⟩:=hcut;have FW:=L9.out.res Fz;refine ‹∀(a:Act) (w:World),Code.wp Tryz.prog Code.ret _ a w->_› _ _ (wp_ret ?_);try simp only [Exit.then]
     change bodyPost Tryz.prog _ _ .ret _ _;refine bodyPost_ret (kR 2 41 ⟨w.heap.size+1,0,none⟩ _ 3 4 (.slice uA un uc) (.slice A2 Ls.length c2) zr zr (qw Bz) zr zr) zr ?_;rw [VY.out ⟨HS0.out,HA4.out,HRV.out⟩];exact⟨_,Ls,rfl,HLs.out,P9.out.fr Fz (fun z hz hs=>by simp at hz;subst hz;exact NSR.out hs) (fun b hb hm=>by simp at hm;exact NOB.out b hb hm) (fun _ h=>h),FW⟩
   ·have hr1:decide (rv > 0)=false:=by simpa using hr
    have hr2:decide (0<rv)=false:=(by simpa using hr);have HRV:=hI hr;clear hr;go_upto_region 6 with (first
       | ((with_reducible refine qj 41 (.tmp 1) ?_);refine xP 41 (.tmp 1) rfl zr w.heap.size 41 (arE { x with unread:=[] } av (.slice none 0 0) kv) _ rfl (L2.out _ zf).s Tryz.underlying41 rfl zk ?_)|(go_at_call 65;refine (HRM.out _ (L2.out _ (Fr.refl _ _)).f).mono ?_;rintro e w3 ⟨rfl,f3⟩))
    have L3:Hid (∀ W,Fr [] w3 W->Lo w W w.heap.size (w.heap.size+1) (arE { x with unread:=[] } av (.slice none 0 0) kv)):=hI (fun W f=>(L2.out _ f3).grow f);clear L2;clear f3;clear c32 c2;go_cut [3,4] (fun sa sb wx=>sa=(.slice uA un uc)/\sb = .slice none 0 0/\Blk wx (w.heap.size+1) 41 (arE { x with unread:=[] } av (.slice none 0 0) kv)/\Fr [(w.heap.size+1)] w3 wx);case first=>
     go_wp2_with (first
       | ((with_reducible refine qj 41 (.tmp 1) ?_);refine qf rfl 41 (.tmp 1) rfl w.heap.size 41 (arE { x with unread:=[] } av (.slice none 0 0) kv) _ rfl (L3.out _ zf).s Tryz.underlying41 rfl zk ?_)|((with_reducible refine qi 41 (.tmp 2) ?_);refine qc rfl 41 (.tmp 2) (.tmp 32) rfl (w.heap.size+1) 41 qy (arE { x with unread:=[] } av (.slice none 0 0) kv) rfl rfl (L3.out _ zf).r rfl zk zq ?_;intro wz Bz Fz))
     go_meet;exact⟨rfl,rfl,Bz,Fz⟩
    case rest=>
     obtain⟨rfl,rfl,Bz,Fz⟩:=hcut;have FW:=(L3.out _ (Fr.refl [] w3)).res Fz;refine ‹∀(a:Act) (w:World),Code.wp Tryz.prog Code.ret _ a w->_› _ _ (wp_ret ?_);try simp only [Exit.then]
     change bodyPost Tryz.prog _ _ .ret _ _;refine bodyPost_ret (kR 2 41 ⟨w.heap.size+1,0,none⟩ _ 3 4 (.slice uA un uc) (.slice none 0 0) zr zr (qw Bz) zr zr) zr ?_;rw [VN.out (fun h=>by have h1:=HRV.out;have h2:=h.2.2;omega)];exact⟨_,[],rfl,rfl,Pr.nil,FW⟩
  ·have hd4:decide (x.at_=4)=false:=by simpa using ha4
   have hq4:(x.at_ == 4)=false:=by simpa using ha4
   have HA4:=hI ha4;clear ha4;go_upto_region 6 with fail
   clear c32 c2;go_cut [3,4] (fun sa sb wx=>sa=(.slice uA un uc)/\sb = .slice none 0 0/\Blk wx (w.heap.size+1) 41 (arE { x with unread:=[] } av (.slice none 0 0) kv)/\Fr [(w.heap.size+1)] w2 wx);case first=>
    go_wp2_with (first
      | ((with_reducible refine qj 41 (.tmp 1) ?_);refine qf rfl 41 (.tmp 1) rfl w.heap.size 41 (arE { x with unread:=[] } av (.slice none 0 0) kv) _ rfl (L2.out _ zf).s Tryz.underlying41 rfl zk ?_)|((with_reducible refine qi 41 (.tmp 2) ?_);refine qc rfl 41 (.tmp 2) (.tmp 32) rfl (w.heap.size+1) 41 qy (arE { x with unread:=[] } av (.slice none 0 0) kv) rfl rfl (L2.out _ zf).r rfl zk zq ?_;intro wz Bz Fz))
    go_meet;exact⟨rfl,rfl,Bz,Fz⟩
   case rest=>
    obtain⟨rfl,rfl,Bz,Fz⟩:=hcut;have FW:=(L2.out _ (Fr.refl [] w2)).res Fz;refine ‹∀(a:Act) (w:World),Code.wp Tryz.prog Code.ret _ a w->_› _ _ (wp_ret ?_);try simp only [Exit.then]
    change bodyPost Tryz.prog _ _ .ret _ _;refine bodyPost_ret (kR 2 41 ⟨w.heap.size+1,0,none⟩ _ 3 4 (.slice uA un uc) (.slice none 0 0) zr zr (qw Bz) zr zr) zr ?_;rw [VN.out (fun h=>HA4.out h.2.1)];exact⟨_,[],rfl,rfl,Pr.nil,FW⟩
 ·have hd0:decide (x.shown=0)=false:=by simpa using hs0
  have hq0:(x.shown == 0)=false:=by simpa using hs0
  have HS0:=hI hs0;clear hs0;go_upto_region 6 with fail
  clear c32 c2;go_cut [3,4] (fun sa sb wx=>sa=(.slice uA un uc)/\sb = .slice none 0 0/\Blk wx (w.heap.size+1) 41 (arE { x with unread:=[] } av (.slice none 0 0) kv)/\Fr [(w.heap.size+1)] w2 wx);case first=>
   go_wp2_with (first
     | ((with_reducible refine qj 41 (.tmp 1) ?_);refine qf rfl 41 (.tmp 1) rfl w.heap.size 41 (arE { x with unread:=[] } av (.slice none 0 0) kv) _ rfl (L2.out _ zf).s Tryz.underlying41 rfl zk ?_)|((with_reducible refine qi 41 (.tmp 2) ?_);refine qc rfl 41 (.tmp 2) (.tmp 32) rfl (w.heap.size+1) 41 qy (arE { x with unread:=[] } av (.slice none 0 0) kv) rfl rfl (L2.out _ zf).r rfl zk zq ?_;intro wz Bz Fz))
   go_meet;exact⟨rfl,rfl,Bz,Fz⟩
  case rest=>
   obtain⟨rfl,rfl,Bz,Fz⟩:=hcut;have FW:=(L2.out _ (Fr.refl [] w2)).res Fz;refine ‹∀(a:Act) (w:World),Code.wp Tryz.prog Code.ret _ a w->_› _ _ (wp_ret ?_);try simp only [Exit.then]
   change bodyPost Tryz.prog _ _ .ret _ _;refine bodyPost_ret (kR 2 41 ⟨w.heap.size+1,0,none⟩ _ 3 4 (.slice uA un uc) (.slice none 0 0) zr zr (qw Bz) zr zr) zr ?_;rw [VN.out (fun h=>HS0.out h.1)];exact⟨_,[],rfl,rfl,Pr.nil,FW⟩
theorem estate{S:Nat->Prop}{w:World}{x:St}{av uv kv:Value}(m:RE S w x av uv kv):Calls Tryz.prog 14 #[agE x av uv kv] w fun e w'=>e = .returned (.agg (stA x))/\Fr [] w w':=by
 obtain⟨⟨aA,ac,rfl,_,_⟩,⟨uA,uc,rfl,_,_⟩,_⟩:=m.forms;have f0:Fr [] w ((w.alloc (.cells (arE x (.slice aA x.all.length ac) (.slice uA x.unread.length uc) kv) 41)).alloc (.cells yA 56)):=((Fr.refl [] w).alloc _).alloc _;have b0:Blk ((w.alloc (.cells (arE x (.slice aA x.all.length ac) (.slice uA x.unread.length uc) kv) 41)).alloc (.cells yA 56)) w.heap.size 41 (arE x (.slice aA x.all.length ac) (.slice uA x.unread.length uc) kv):=(Blk.new w 41 _).fr ((Fr.refl [] _).alloc _) zs;have b1:=Blk.new (w.alloc (.cells (arE x (.slice aA x.all.length ac) (.slice uA x.unread.length uc) kv) 41)) 56 yA;rw [World.size_alloc] at b1;clear m;go_enter Tryz.func14,Tryz.ntmps14;go_upto_region 1 with fail
 generalize (w.alloc (.cells (arE x (.slice aA x.all.length ac) (.slice uA x.unread.length uc) kv) 41)).alloc (.cells yA 56)=w1 at *
 have c:=jK b0;have c2:=c.c2;have c3:=c.c3;have c1:=c.c1;have c4:=c.c4;have c5:=c.c5;have c22:=c.c22;have c17:=c.c17;have c25:=c.c25;have c28:=c.c28;have B0:=hI b0;have B1:=hI b1;clear c b0 b1;go_wp2_with (first
   | ((with_reducible refine qj 32 (.tmp 9) ?_);refine qC rfl 32 (.tmp 9) rfl w.heap.size 6 41 (arE x (.slice aA x.all.length ac) (.slice uA x.unread.length uc) kv) (arW x.win) _ rfl B0.out rfl Tryz.underlying32 rfl zk ?_)|((with_reducible refine qi 56 (.tmp 2) ?_);refine qc rfl 56 (.tmp 2) (.tmp 27) rfl (w.heap.size+1) 56 yA (stA x) rfl rfl B1.out rfl zk zo ?_;intro w3 B3 F3))
 refine bodyPost_ret (kF 2 56 ⟨w.heap.size+1,0,none⟩ _ zr zr (qll B3)) zr ?_;exact⟨rfl,f0.trans F3 (fun y hy=>by simp at hy;subst hy;exact .inr (Nat.le_succ _))⟩
theorem qbv(S:Nat->Prop)(w:World)(hp:∀ b,S b->b<w.heap.size)(isn a:Int):RE S w (jq isn a) (.slice none 0 0) (.slice none 0 0) (.slice none 0 0):=
 ⟨Byt.nil,Byt.nil,[],⟨⟨World.ownsRow_nil _ 0 162 2,zs⟩,rfl,by simp [Value.ownBlock],hp⟩⟩
theorem enew(S:Nat->Prop)(isn:Int)(i0:0<=isn)(i1:isn<4294967296)(calls:Bool)(w:World)(hp:∀ b,S b->b<w.heap.size):Calls Tryz.prog 9 #[.int .u32 isn, .bool calls] w (EL S w (jf isn calls)):=by
 have hv:jf isn calls=if calls then (qF (shows (jq isn 2)),[zg (jq isn 2)]) else (jq isn 1,[]):=rfl;have hrc:=fun W=>Rto.rnew 2 1 32 8 W;have hrh:=fun W=>rnew 8 W;have ok2:=(Ok.new isn 2 zd zd).s;have okc:=(Ok.new isn 2 zd zd).shows.s.hc;have hb:=fun W (f:Fr [] w W)=>qao (qbv S W (fun b h=>Nat.lt_of_lt_of_le (hp b h) f.size) isn 2) ok2 ⟨i0,i1,by show (0:Int)<=0;decide,by show (0:Int)<4294967296;decide⟩;have hr:=fun W (f:Fr [] w W)=>jL (x:=shows (jq isn 2)) ((qbv S W (fun b h=>Nat.lt_of_lt_of_le (hp b h) f.size) isn 2).to_ rfl rfl rfl) okc;have mrz:∀ W,Fr [] w W->RE S W (qF (shows (jq isn 2))) (.slice none 0 0) (.slice none 0 0) (.slice none 0 0):=fun W f=>(qbv S W (fun b h=>Nat.lt_of_lt_of_le (hp b h) f.size) isn 2).to_ (jV _).1 (jV _).2.1 (jV _).2.2;have m1:∀ W,Fr [] w W->RE S W (jq isn 1) (.slice none 0 0) (.slice none 0 0) (.slice none 0 0):=fun W f=>qbv S W (fun b h=>Nat.lt_of_lt_of_le (hp b h) f.size) isn 1;clear ok2 okc;generalize hr2:qF (shows (jq isn 2))=rz at *
 have HV:=hI hv;have HRC:=hI hrc;have HRH:=hI hrh;have HB:=hI hb;have HR:=hI hr;have MRZ:=hI mrz;have M1:=hI m1;have NSR:Hid (∀ b,w.heap.size<=b->¬ S b):=hI (fun b h hs=>by have:=hp b hs;omega);have br0:Blk (w.alloc (.cells qy 41)) w.heap.size 41 qy:=Blk.new w _ _;have f0:Fr [] w (w.alloc (.cells qy 41)):=(Fr.refl [] w).alloc _;clear hv hrc hrh hb hr mrz m1 hp hr2;generalize jf isn calls=r at *
 go_enter Tryz.func9,Tryz.ntmps9;go_upto_region 1 with fail
 generalize w.alloc (.cells qy 41)=w1 at *
 have BR0:=hI br0;have F0:=hI f0;clear br0 f0;go_upto_region 2 with (first
   | (go_at_call 24;refine (HRC.out _).mono ?_;rintro e wa ⟨rfl,fa⟩)|(go_at_call 25;refine (HRH.out _).mono ?_;rintro e wb ⟨rfl,fb⟩)|((with_reducible refine qi 41 (.tmp 6) ?_);refine qc rfl 41 (.tmp 6) (.tmp 13) rfl wb.heap.size 41 qy (arE (jq isn 1) (.slice none 0 0) (.slice none 0 0) (.slice none 0 0)) rfl rfl (Blk.new wb 41 qy) rfl zk zo ?_;intro w3 B3 F3))
 have f1:Fr [] w1 wb:=fa.trans fb zs;have hz:=BR0.out.lt;have hz2:=f1.size;have fx:Fr [] w w3:=((F0.out.trans f1 zs).alloc (.cells qy 41)).trans F3 (fun y hy => .inr (by simp at hy;have:=F0.out.size;omega));have br3:Blk w3 w.heap.size 41 qy:=((BR0.out.fr f1 zs).fr ((Fr.refl [] wb).alloc (.cells qy 41)) zs).fr F3 zv;have l3:Lo w w3 wb.heap.size w.heap.size (arE (jq isn 1) (.slice none 0 0) (.slice none 0 0) (.slice none 0 0)):=⟨fx,B3,br3,zw,Nat.le_refl _,zw⟩;generalize wb.heap.size=b6 at *
 have L3:Hid (∀ W,Fr [] w3 W->Lo w W b6 w.heap.size (arE (jq isn 1) (.slice none 0 0) (.slice none 0 0) (.slice none 0 0))):=hI (fun W f=>l3.grow f);clear f1 hz hz2 fx br3 l3 fa fb B3 F3;cases calls
 ·go_upto_region 3 with fail
  go_cut [5] (fun sa wx=>sa = .slice none 0 0/\Blk wx w.heap.size 41 (arE (jq isn 1) (.slice none 0 0) (.slice none 0 0) (.slice none 0 0))/\Fr [] w wx);case first=>
   go_wp2_with (first
   | ((with_reducible refine qj 41 (.tmp 6) ?_);refine qf rfl 41 (.tmp 6) rfl b6 41 (arE (jq isn 1) (.slice none 0 0) (.slice none 0 0) (.slice none 0 0)) _ rfl (L3.out _ zf).s Tryz.underlying41 rfl zk ?_)|((with_reducible refine qi 41 (.tmp 4) ?_);refine qc rfl 41 (.tmp 4) (.tmp 16) rfl w.heap.size 41 qy (arE (jq isn 1) (.slice none 0 0) (.slice none 0 0) (.slice none 0 0)) rfl rfl (L3.out _ zf).r rfl zk zo ?_;intro wz Bz Fz))
   go_meet;exact⟨rfl,Bz,(L3.out _ (Fr.refl _ _)).res Fz⟩
  case rest=>
   obtain⟨rfl,Bz,Fz⟩:=hcut;refine ‹∀(a:Act) (w:World),Code.wp Tryz.prog Code.ret _ a w->_› _ _ (wp_ret ?_);try simp only [Exit.then]
   change bodyPost Tryz.prog _ _ .ret _ _;refine bodyPost_ret (qx 4 41 ⟨w.heap.size,0,none⟩ _ 5 (.slice none 0 0) zr zr (qw Bz) zr) zr ?_;rw [HV.out];exact⟨S,_,_,_,_,[],rfl,rfl,Ext.refl w S,M1.out _ Fz,Pr.nil,Fz⟩
 ·have c2:w3.cell? ⟨b6,2,none⟩=some (.int .i64 1):=(L3.out _ (Fr.refl [] w3)).s.cell 2
  have z2:=(L3.out _ (Fr.refl [] w3)).s.frozen 2;have hlb:=(L3.out _ (Fr.refl [] w3)).s.lt;go_upto_region 5 with fail
  have hset:Lo w (w3.setCell ⟨b6,2,none⟩ (.int .i64 2)) b6 w.heap.size (arE (jq isn 2) (.slice none 0 0) (.slice none 0 0) (.slice none 0 0)):=by
   have hh:=(L3.out _ (Fr.refl [] w3)).cell 2 (.int .i64 2);simp only [arE,zqA,zqB,zqC] at hh |-
   exact hh
  generalize w3.setCell ⟨b6,2,none⟩ (.int .i64 2)=w4 at *
  have L4:Hid (∀ W,Fr [] w4 W->Lo w W b6 w.heap.size (arE (jq isn 2) (.slice none 0 0) (.slice none 0 0) (.slice none 0 0))):=hI (fun W f=>hset.grow f);clear hset c2 z2 hlb L3;go_upto_region 6 with (first
   | ((with_reducible refine qj 41 (.tmp 6) ?_);refine qf rfl 41 (.tmp 6) rfl b6 41 (arE (jq isn 2) (.slice none 0 0) (.slice none 0 0) (.slice none 0 0)) _ rfl (L4.out _ zf).s Tryz.underlying41 rfl zk ?_)|(go_at_call 26;refine (HB.out _ (L4.out _ (Fr.refl _ _)).f).mono ?_;rintro e w5 ⟨v5,L5,rfl,hL5,p5,f5⟩)|((with_reducible refine qi 41 (.tmp 7) ?_);refine qc rfl 41 (.tmp 7) (.tmp 21) rfl w5.heap.size 41 qy (arE (shows (jq isn 2)) (.slice none 0 0) (.slice none 0 0) (.slice none 0 0)) rfl rfl (Blk.new w5 41 qy) rfl zk zo ?_;intro w6 B6 F6))
  have fa5:Fr [] w5 (w5.alloc (.cells qy 41)):=(Fr.refl [] w5).alloc _;have l5:=L4.out _ f5;have nob:∀ b∈ob v5,b≠w5.heap.size:=fun b hb=>by have:=kG p5.own (qo.1 hb);omega
  have NOB:Hid (∀ b∈ob v5,b≠w.heap.size):=hI (fun b hb=>by rintro rfl;exact own_ne p5.own l5.r zd (qo.1 hb));have l6:=(l5.grow fa5).far F6 (by have:=l5.f.size;omega) (by have:=l5.s.lt;omega) (by have:=l5.r.lt;omega);have L6:Hid (∀ W,Fr [] w6 W->Lo w W b6 w.heap.size (arE (jq isn 2) (.slice none 0 0) (.slice none 0 0) (.slice none 0 0))):=hI (fun W f=>l6.grow f);have P6:=hI ((p5.fr fa5 zs zs (fun _ h=>h)).fr F6 (fun z hz hs=>by simp at hz;subst hz;exact NSR.out _ l5.f.size hs) (fun b hb hm=>by simp at hm;exact nob b hb hm) (fun _ h=>h));have V6:Hid (∀ W,Fr [] w6 W->Blk W w5.heap.size 41 (arE (shows (jq isn 2)) (.slice none 0 0) (.slice none 0 0) (.slice none 0 0))):=hI (fun W f=>B6.fr f zs);have HL5:=hI hL5;obtain⟨A5,c5,rfl,_,_⟩:=qY p5.own;generalize w5.heap.size=b7 at *
  clear fa5 l5 nob l6 p5 f5 B6 F6 hL5 L4;go_cut [5] (fun sa wx=>sa = .slice A5 L5.length c5/\Blk wx w.heap.size 41 (arE rz (.slice none 0 0) (.slice none 0 0) (.slice none 0 0))/\Fr [] w wx/\Pr S wx (.slice A5 L5.length c5) L5);case first=>
   go_wp2_with (first
   | ((with_reducible refine qj 41 (.tmp 7) ?_);refine qf rfl 41 (.tmp 7) rfl b7 41 (arE (shows (jq isn 2)) (.slice none 0 0) (.slice none 0 0) (.slice none 0 0)) _ rfl (V6.out _ zf) Tryz.underlying41 rfl zk ?_)|(go_at_call 27;refine (HR.out _ (L6.out _ (Fr.refl _ _)).f).mono ?_;rintro e w7 ⟨rfl,f7⟩)|((with_reducible refine qi 41 (.tmp 4) ?_);refine qc rfl 41 (.tmp 4) (.tmp 24) rfl w.heap.size 41 qy (arE rz (.slice none 0 0) (.slice none 0 0) (.slice none 0 0)) rfl rfl (L6.out _ f7).r rfl zk zo ?_;intro w8 B8 F8))
   go_meet;exact⟨rfl,B8,(L6.out _ f7).res F8,(P6.out.fr f7 zs zs (fun _ h=>h)).fr F8 (fun z hz hs=>by simp at hz;subst hz;exact NSR.out _ (Nat.le_refl _) hs) (fun b hb hm=>by simp at hm;exact NOB.out b hb hm) (fun _ h=>h)⟩
  case rest=>
   obtain⟨rfl,Bz,Fz,Pz⟩:=hcut;refine ‹∀(a:Act) (w:World),Code.wp Tryz.prog Code.ret _ a w->_› _ _ (wp_ret ?_);try simp only [Exit.then]
   change bodyPost Tryz.prog _ _ .ret _ _;refine bodyPost_ret (qx 4 41 ⟨w.heap.size,0,none⟩ _ 5 (.slice A5 L5.length c5) zr zr (qw Bz) zr) zr ?_;rw [HV.out];exact⟨S,_,_,_,_,L5,rfl,HL5.out,Ext.refl w S,MRZ.out _ Fz,Pz,Fz⟩
end Go.Proofs.YtmgdbbbdhkfdmaaGreat
namespace Go.Proofs.YtmgdbbbdhkfdmaaGreat
set_option maxRecDepth 100000
open Go.RowKit
structure AC where
 kind:Int
 p:Prt
 near:Bool
 d:List Int
def jd(x:St)(a:AC):Prt:=
 if a.near then ⟨a.p.flags,(a.p.seq+x.peer+1+x.heap.next) % 4294967296,(a.p.ack+x.isn+1+x.win.a) % 4294967296,a.p.win,a.p.d⟩ else a.p
def jc(x:St)(a:AC):St:=
 if a.kind=1 then (zF x (jd x a)).1 else if a.kind=2 then (zZ x a.d).1 else if a.kind=3 then (jE x).1 else if a.kind=4 then (jG x).1
 else if a.kind=6 then (jo x).1 else if a.kind=5 then (zV x).1 else x
structure AOk(a:AC):Prop where
 s0:0<=a.p.seq
 s1:a.p.seq<4294967296
 k0:0<=a.p.ack
 k1:a.p.ack<4294967296
 w0:0<=a.p.win
 w1:a.p.win<65536
 pl:a.p.d.length<=100
 dl:a.d.length<=5000
theorem qdc{a:AC}(h:AOk a)(x:St):0<=(jd x a).seq/\(jd x a).seq<4294967296/\0<=(jd x a).ack/\(jd x a).ack<4294967296/\0<=(jd x a).win/\(jd x a).win<65536/\(jd x a).d=a.p.d:=by
 have h0:=h.s0;have h1:=h.s1;have h2:=h.k0;have h3:=h.k1;have h4:=h.w0;have h5:=h.w1;unfold jd;split
 ·refine⟨?_,?_,?_,?_,h4,h5,rfl⟩ <;> dsimp only <;> omega
 ·exact⟨h0,h1,h2,h3,h4,h5,rfl⟩
structure Grows(x y:St)(n t:Nat):Prop where
 all:y.all.length<=x.all.length+n
 now:y.now<=x.now+t
theorem Grows.of{x y:St}(h1:y.all=x.all)(h2:y.now=x.now)(n t:Nat):Grows x y n t:=⟨by rw [h1];omega,by rw [h2];omega⟩
theorem jh(x:St):(qF x).all=x.all/\(qF x).now=x.now:=by
 unfold qF
 (repeat' split) <;> exact⟨rfl,rfl⟩
theorem qgz:∀(k:Nat) (x:St),(zQ k x).1.now=x.now
 | 0,x=>rfl
 | k+1,x=>by
  by_cases h:0<zG x
  ·rw [xw k x h,qgz k _]
   rw [vP];unfold jg;dsimp only;split <;> rfl
  ·rw [jT _ x h]
theorem sends_all(x:St):(qU x).1.all=x.all/\(qU x).1.now=x.now:=by
 refine⟨(yU x).1,?_⟩;by_cases h:x.at_=4
 ·rw [jC x h,(jh _).2]
  have h1:∀ y,(zX y).now=y.now:=fun y=>by unfold zX;split <;> rfl
  have h2:∀ y,(zi y).1.now=y.now:=fun y=>by unfold zi;split <;> rfl
  rw [h1,h2,qgz]
 ·rw [jD x h]
  exact (jh x).2
theorem qee(x:St)(p:Prt):(qV x p).1.all=x.all/\(qV x p).1.now=x.now:=by
 have ha:∀ y:St,(zy y p).all=y.all/\(zy y p).now=y.now:=fun y=>by
  unfold zy qB
  (repeat' split) <;> exact⟨rfl,rfl⟩
 have hd:∀ y:St,(jv y p).all=y.all/\(jv y p).now=y.now:=fun y=>by
  rw [xH];split <;> exact⟨rfl,rfl⟩
 have ho:∀ y:St,(zN y p).1.all=y.all/\(zN y p).1.now=y.now:=fun y=>by
  unfold zN;split
  ·split <;> exact⟨rfl,rfl⟩
  split
  ·exact⟨rfl,rfl⟩
  split
  ·exact⟨rfl,rfl⟩
  dsimp only;split
  ·split
   ·exact ha y
   ·exact⟨(hd _).1.trans (ha y).1,(hd _).2.trans (ha y).2⟩
  ·split
   ·exact ha y
   ·exact⟨(hd _).1.trans (ha y).1,(hd _).2.trans (ha y).2⟩
 have hl:(kU x p).1.all=x.all/\(kU x p).1.now=x.now:=by unfold kU;split <;> exact⟨rfl,rfl⟩
 unfold qV;split
 ·exact hl
 split
 ·unfold zH
  split
  ·exact hl
  split
  ·exact⟨rfl,rfl⟩
  split
  ·exact⟨rfl,rfl⟩
  split <;> exact⟨rfl,rfl⟩
 split
 ·unfold jl
  split
  ·exact hl
  split
  ·exact⟨rfl,rfl⟩
  split
  ·exact ho x
  split
  ·exact⟨rfl,rfl⟩
  ·exact ho _
 split
 ·exact ho x
 ·unfold jm
  split <;> exact⟨rfl,rfl⟩
theorem qio(x:St)(a:AC):Grows x (jc x a) a.d.length 1:=by
 unfold jc;split
 ·unfold zF
  split
  ·exact .of rfl rfl _ _
  ·exact .of ((sends_all _).1.trans (qee x _).1) ((sends_all _).2.trans (qee x _).2) _ _
 split
 ·unfold zZ
  split
  ·exact .of rfl rfl _ _
  split
  ·exact .of rfl rfl _ _
  ·refine⟨?_,?_⟩
   ·rw [(sends_all _).1];simp
   ·rw [(sends_all _).2];dsimp only;omega
 split
 ·unfold jE
  split
  ·exact .of rfl rfl _ _
  ·exact⟨by rw [(sends_all _).1];show x.all.length<=_;omega,by rw [(sends_all _).2];show x.now<=_;omega⟩
 split
 ·unfold jG
  dsimp only;have hag:∀ y,(zx y).1.now=y.now:=fun y=>by unfold zx;(repeat' split) <;> rfl
  split
  ·split
   ·refine⟨?_,?_⟩
    ·rw [(jh _).1,(yg _).1];dsimp only;omega
    ·rw [(jh _).2,hag];dsimp only;omega
   ·refine⟨?_,?_⟩
    ·rw [(jh _).1];show x.all.length<=_;omega
    ·rw [(jh _).2];show x.now+1<=_;omega
  ·refine⟨?_,?_⟩
   ·dsimp only;omega
   ·dsimp only;omega
 split
 ·unfold jo
  split
  ·exact .of rfl rfl _ _
  split
  ·exact⟨by rw [(jh _).1];show x.all.length<=_;omega,by rw [(jh _).2];show x.now<=_;omega⟩
  ·exact⟨by rw [(jh _).1];show x.all.length<=_;omega,by rw [(jh _).2];show x.now<=_;omega⟩
 split
 ·unfold zV
  dsimp only;split <;> exact⟨by show x.all.length<=_;omega,by show x.now<=_;omega⟩
 ·exact .of rfl rfl _ _
theorem qlm{x:St}(h:Fine x){a:AC}(ha:AOk a)(hl:x.all.length<=990000)(hn:x.now+1<=1000000):Fine (jc x a):=by
 have hp:=qdc ha x;have hd:=ha.dl;unfold jc;split
 ·exact h.come _ hp.1 hp.2.1
 split
 ·exact h.write _ zw
 split
 ·exact h.close
 split
 ·exact h.tick hn
 split
 ·exact h.reset
 split
 ·exact h.read
 ·exact h
end Go.Proofs.YtmgdbbbdhkfdmaaGreat
