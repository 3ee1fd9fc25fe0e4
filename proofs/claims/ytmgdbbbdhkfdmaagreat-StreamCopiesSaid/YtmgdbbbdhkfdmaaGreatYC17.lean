import Derived.Test.YtmgdbbbdhkfdmaaGreatYC15
import Derived.Deep.DeepCutAuto
import Derived.Test.YtmgdbbbdhkfdmaaGreatYC9
import Derived.Deep.RegionHeld3
import Derived.Test.YtmgdbbbdhkfdmaaGreatYC10
import Derived.Test.YtmgdbbbdhkfdmaaGreatYC0
set_option linter.unusedSimpArgs false
set_option linter.unusedVariables false
set_option maxHeartbeats 40000000
namespace Go.Proofs.YtmgdbbbdhkfdmaaGreat
set_option maxRecDepth 100000
open Go.RowKit Go.Deep
theorem ecomes1{S:Nat->Prop}{w:World}{x:St}{av uv kv:Value}(m:RE S w x av uv kv)(ok:Ok x)(ou:OkU x)(p:Prt)(f0:0<=p.flags)(f1:p.flags<=15)(s0:0<=p.seq)(s1:p.seq<4294967296)(k0:0<=p.ack)(k1:p.ack<4294967296)(r0:0<=p.win)(r1:p.win<65536)(hdl:p.d.length<=100)
  (DA:Option Addr) (dc:Nat) (T:Nat->Prop) (hd:Byt T w (.slice DA p.d.length dc) p.d) (hT:∀ b,T b->b<w.heap.size) (hat:x.at_=1):Calls Tryz.prog 70 #[agE x av uv kv,agP p (.slice DA p.d.length dc)] w (EL S w (qV x p)):=by
 have o1:=m.qN;obtain⟨pf,ps,pk,pw,pd⟩:=p;dsimp only at f0 f1 s0 s1 k0 k1 r0 r1 hdl hd |-
 obtain⟨l0,b0⟩:=Lo.yx w (arE x av uv kv) #[.int .i64 pf, .int .u32 ps, .int .u32 pk, .int .u16 pw, .slice DA pd.length dc];have hadd:=fun W=>vO x.isn 1 W ou.i0 ou.i1 zw zw;have hov:qV x ⟨pf,ps,pk,pw,pd⟩=kU x ⟨pf,ps,pk,pw,pd⟩:=by unfold qV;rw [hat];rfl
 generalize qV x ⟨pf,ps,pk,pw,pd⟩=ov at *
 have hb:=fun W (g:Fr [] w W)=>qao ((m.to_ (y:={ x with peer:=ps,at_:=3 }) rfl rfl rfl).fr g) (ok.peer ps 3 zd zd).s ⟨ou.i0,ou.i1,s0,s1⟩;have HB:=hI hb;clear hb;generalize ha1:add32 x.isn 1=a1 at *
 obtain⟨fs,hfs⟩:∃ fs,(pk == a1)=fs:=⟨_,rfl⟩;have hfs':decide (pk=a1)=fs:=by rw [<- hfs];simp [BEq.beq]
 have hfs2:fs=true↔pk=a1:=by rw [<- hfs];simp
 have NSB:Hid (¬ S (w.heap.size+1+1)):=hI (fun hs=>by have:=m.pub _ hs;omega);have HFS:=hI hfs2;have HA1:=hI ha1;have HOV:=hI hov;have HAdd:=hI hadd;have M:=hI m;have L0:=hI l0;have B0:=hI b0;have HAT:=hI hat;clear ha1 hov hadd m l0 b0 hfs2 hd hT ok ou s0 s1;go_enter Tryz.func70,Tryz.ntmps70;go_upto_region 1 with fail
 generalize ((w.alloc (.cells (arE x av uv kv) 41)).alloc (.cells #[.int .i64 pf, .int .u32 ps, .int .u32 pk, .int .u16 pw, .slice DA pd.length dc] 49)).alloc (.cells qy 41)=w1 at *
 have d0:w1.cell? ⟨w.heap.size+1,0,none⟩=some (.int .i64 pf):=by simpa using B0.out.cell 0
 go_upto_region 2 with fail
 have u2:∀ p:Grew w1,p.W.cell? ⟨w.heap.size+1,2,none⟩=some (.int .u32 pk):=Grew.cell (by simpa using B0.out.cell 2);have u0:∀ p:Grew w1,p.W.cell? ⟨w.heap.size,0,none⟩=some (.int .u32 x.isn):=Grew.cell (L0.out.s.cell 0);have hA':Hid (∀ p:Grew w1,Calls Tryz.prog 103 #[.int .u32 x.isn, .int .i64 1] p.W fun e w'=>e = .returned (.int .u32 a1)/\∃ q:Grew w1,w'=q.W):=hI (fun p=>kN (HAdd.out p.W));refine qg zk zk ?_;repeat (go_big_quiet_step (first|(go_at_call 103;exact hA'.out _)))
 refine wpQuiet_nil ?_;intro W2 f2;have L2:Hid (∀ W,Fr [] W2 W->Lo w W w.heap.size (w.heap.size+1+1) (arE x av uv kv)):=hI (fun W f=>(L0.out.grow f2).grow f);have B2:Hid (∀ W,Fr [] W2 W->Blk W (w.heap.size+1) 49 #[.int .i64 pf, .int .u32 ps, .int .u32 pk, .int .u16 pw, .slice DA pd.length dc]):=hI (fun W f=>(B0.out.fr f2 zs).fr f zs);have c2:W2.cell? ⟨w.heap.size,2,none⟩=some (.int .i64 1):=by rw [<- HAT.out];exact (L2.out _ (Fr.refl [] W2)).s.cell 2
 clear u2 u0 hA' f2 d0 L0 B0 hfs hfs' hat;by_cases hf1:pf=1
 ·have e1:(pf == 1)=true:=by simpa using hf1
  have E1:=hI hf1;clear hf1;go_upto_region 6 with fail
  have d1:W2.cell? ⟨w.heap.size+1,1,none⟩=some (.int .u32 ps):=by simpa using (B2.out _ (Fr.refl [] W2)).cell 1
  clear c2;have c1:W2.cell? ⟨w.heap.size,1,none⟩=some (.int .u32 x.peer):=(L2.out _ (Fr.refl [] W2)).s.cell 1;have z1:=(L2.out _ (Fr.refl [] W2)).s.frozen 1;have c2:W2.cell? ⟨w.heap.size,2,none⟩=some (.int .i64 x.at_):=(L2.out _ (Fr.refl [] W2)).s.cell 2;have z2:=(L2.out _ (Fr.refl [] W2)).s.frozen 2;have hlb:=(L2.out _ (Fr.refl [] W2)).s.lt;go_upto_region 7 with fail
  have hset:Lo w ((W2.setCell ⟨w.heap.size,1,none⟩ (.int .u32 ps)).setCell ⟨w.heap.size,2,none⟩ (.int .i64 3)) w.heap.size (w.heap.size+1+1) (arE { x with peer:=ps,at_:=3 } av uv kv):=by
   have hh:=(((L2.out _ (Fr.refl [] W2)).cell 1 (.int .u32 ps)).cell 2 (.int .i64 3));simp only [arE,zqA,zqB,zqC] at hh |-
   exact hh
  generalize (W2.setCell ⟨w.heap.size,1,none⟩ (.int .u32 ps)).setCell ⟨w.heap.size,2,none⟩ (.int .i64 3)=w3 at *
  have L3:Hid (∀ W,Fr [] w3 W->Lo w W w.heap.size (w.heap.size+1+1) (arE { x with peer:=ps,at_:=3 } av uv kv)):=hI (fun W f=>hset.grow f);clear hset;clear c1 z1 c2 z2 hlb d1;try dsimp only [Act.put]
  go_cut [5] (fun sl wx=>∃ L,L.map (·.1)=[zg { x with peer:=ps,at_:=3 }]/\Pr S wx sl L/\Blk wx (w.heap.size+1+1) 41 (arE (shows { x with peer:=ps,at_:=3 }) av uv kv)/\Fr [(w.heap.size+1+1)] w3 wx);case first=>
   go_wp2_with (first
     | ((with_reducible refine qj 41 (.tmp 2) ?_);refine qf rfl 41 (.tmp 2) rfl w.heap.size 41 (arE { x with peer:=ps,at_:=3 } av uv kv) _ rfl (L3.out _ zf).s Tryz.underlying41 rfl zk ?_)|(go_at_call 26;refine (HB.out _ (L3.out _ zf).f).mono ?_;rintro e wq ⟨vq,Lq,rfl,hLq,pq,fq⟩;have fq':Fr [] w3 wq:=Fr.trans (show Fr [] w3 _ by first|exact Fr.refl _ _|assumption) fq zs;have LQ:=hI (L3.out _ fq');have PQ:Hid (∀ W,Fr [(w.heap.size+1+1)] wq W->Pr S W vq Lq):=hI (fun W f=>pq.fr f (fun y hy hs=>by simp at hy;subst hy;exact NSB.out hs) (fun b hb hm=>by simp at hm;subst hm;exact own_ne pq.own (L3.out _ fq').r zd (qo.1 hb)) (fun _ h=>h));clear pq fq)|((with_reducible refine qi 41 (.tmp 4) ?_);refine qc rfl 41 (.tmp 4) (.tmp 28) rfl (w.heap.size+1+1) 41 qy (arE (shows { x with peer:=ps,at_:=3 }) av uv kv) rfl rfl LQ.out.r rfl zk zq ?_;intro wz Bz Fz))
   go_meet;exact⟨_,hLq,PQ.out _ Fz,Bz,(fq'.mono zs).trans Fz (fun y hy => .inl hy)⟩
  case rest=>
   obtain⟨Ll,hLl,Pl,Bz,Fz⟩:=hcut;have FW:=(L3.out _ (Fr.refl [] w3)).res Fz;refine ‹∀(a:Act) (w:World),Code.wp Tryz.prog Code.ret _ a w->_› _ _ (wp_ret ?_);try simp only [Exit.then]
   change bodyPost Tryz.prog _ _ .ret _ _;refine bodyPost_ret (qx 4 41 ⟨(w.heap.size+1+1),0,none⟩ _ 5 u5 zr zr (qw Bz) zr) zr ?_;rw [HOV.out];unfold kU;rw [if_pos E1.out];exact⟨S,_,_,_,_,Ll,rfl,hLl,Ext.refl w S,(M.out.to_ (y:=shows { x with peer:=ps,at_:=3 }) rfl rfl rfl).fr FW,Pl,FW⟩
 ·have e1:(pf == 1)=false:=by simpa using hf1
  have E1:=hI hf1;clear hf1;go_upto_region 32 with fail
  try dsimp only [Act.put]
  go_cut [5] (fun sl wx=>sl = .slice none 0 0/\Blk wx (w.heap.size+1+1) 41 (arE x av uv kv)/\Fr [(w.heap.size+1+1)] W2 wx);case first=>
   go_wp2_with (first
     | ((with_reducible refine qj 41 (.tmp 2) ?_);refine qf rfl 41 (.tmp 2) rfl w.heap.size 41 (arE x av uv kv) _ rfl (L2.out _ zf).s Tryz.underlying41 rfl zk ?_)|((with_reducible refine qi 41 (.tmp 4) ?_);refine qc rfl 41 (.tmp 4) (.tmp 166) rfl (w.heap.size+1+1) 41 qy (arE x av uv kv) rfl rfl (L2.out _ zf).r rfl zk zq ?_;intro wz Bz Fz))
   go_meet;exact⟨rfl,Bz,Fz⟩
  case rest=>
   obtain⟨rfl,Bz,Fz⟩:=hcut;have FW:=(L2.out _ (Fr.refl [] W2)).res Fz;refine ‹∀(a:Act) (w:World),Code.wp Tryz.prog Code.ret _ a w->_› _ _ (wp_ret ?_);try simp only [Exit.then]
   change bodyPost Tryz.prog _ _ .ret _ _;refine bodyPost_ret (qx 4 41 ⟨(w.heap.size+1+1),0,none⟩ _ 5 (.slice none 0 0) zr zr (qw Bz) zr) zr ?_;rw [HOV.out];unfold kU;rw [if_neg E1.out];exact⟨S,_,_,_,_,[],rfl,rfl,Ext.refl w S,M.out.fr FW,Pr.nil,FW⟩
theorem ecomes2{S:Nat->Prop}{w:World}{x:St}{av uv kv:Value}(m:RE S w x av uv kv)(ok:Ok x)(ou:OkU x)(p:Prt)(f0:0<=p.flags)(f1:p.flags<=15)(s0:0<=p.seq)(s1:p.seq<4294967296)(k0:0<=p.ack)(k1:p.ack<4294967296)(r0:0<=p.win)(r1:p.win<65536)(hdl:p.d.length<=100)
  (DA:Option Addr) (dc:Nat) (T:Nat->Prop) (hd:Byt T w (.slice DA p.d.length dc) p.d) (hT:∀ b,T b->b<w.heap.size) (hat:x.at_=2):Calls Tryz.prog 70 #[agE x av uv kv,agP p (.slice DA p.d.length dc)] w (EL S w (qV x p)):=by
 have o1:=m.qN;obtain⟨pf,ps,pk,pw,pd⟩:=p;dsimp only at f0 f1 s0 s1 k0 k1 r0 r1 hdl hd |-
 obtain⟨l0,b0⟩:=Lo.yx w (arE x av uv kv) #[.int .i64 pf, .int .u32 ps, .int .u32 pk, .int .u16 pw, .slice DA pd.length dc];have hadd:=fun W=>vO x.isn 1 W ou.i0 ou.i1 zw zw;have hov:qV x ⟨pf,ps,pk,pw,pd⟩=zH x ⟨pf,ps,pk,pw,pd⟩:=by unfold qV;rw [hat];rfl
 generalize qV x ⟨pf,ps,pk,pw,pd⟩=ov at *
 have hb:=fun W (g:Fr [] w W)=>qao ((m.to_ (y:={ x with peer:=ps,at_:=3 }) rfl rfl rfl).fr g) (ok.peer ps 3 zd zd).s ⟨ou.i0,ou.i1,s0,s1⟩;have HB:=hI hb;clear hb;have ho:=fun W (g:Fr [] w W)=>qna ((m.to_ (y:={ x with peer:=ps }) rfl rfl rfl).fr g) (Ok.peer' ok ps).s pw r0 r1;have hans:=fun W (g:Fr [] w W)=>yz (((m.to_ (y:={ x with peer:=ps }) rfl rfl rfl).to_ (y:=zu { x with peer:=ps } pw) rfl rfl rfl).fr g) (Ok.opens (Ok.peer' ok ps) pw).s ⟨ou.i0,ou.i1,s0,s1⟩;have hmo:RE S w (shows (zu { x with peer:=ps } pw)) av uv kv:=m.to_ rfl rfl rfl;generalize hyo:zu { x with peer:=ps } pw=yo at *
 have HYO:=hI hyo;clear hyo;have HO:=hI ho;have HANS:=hI hans;have MO:=hI hmo;clear ho hans hmo;generalize ha1:add32 x.isn 1=a1 at *
 obtain⟨fs,hfs⟩:∃ fs,(pk == a1)=fs:=⟨_,rfl⟩;have hfs':decide (pk=a1)=fs:=by rw [<- hfs];simp [BEq.beq]
 have hfs2:fs=true↔pk=a1:=by rw [<- hfs];simp
 have NSB:Hid (¬ S (w.heap.size+1+1)):=hI (fun hs=>by have:=m.pub _ hs;omega);have HFS:=hI hfs2;have HA1:=hI ha1;have HOV:=hI hov;have HAdd:=hI hadd;have M:=hI m;have L0:=hI l0;have B0:=hI b0;have HAT:=hI hat;clear ha1 hov hadd m l0 b0 hfs2 hd hT ok ou s0 s1;go_enter Tryz.func70,Tryz.ntmps70;go_upto_region 1 with fail
 generalize ((w.alloc (.cells (arE x av uv kv) 41)).alloc (.cells #[.int .i64 pf, .int .u32 ps, .int .u32 pk, .int .u16 pw, .slice DA pd.length dc] 49)).alloc (.cells qy 41)=w1 at *
 have d0:w1.cell? ⟨w.heap.size+1,0,none⟩=some (.int .i64 pf):=by simpa using B0.out.cell 0
 go_upto_region 2 with fail
 have u2:∀ p:Grew w1,p.W.cell? ⟨w.heap.size+1,2,none⟩=some (.int .u32 pk):=Grew.cell (by simpa using B0.out.cell 2);have u0:∀ p:Grew w1,p.W.cell? ⟨w.heap.size,0,none⟩=some (.int .u32 x.isn):=Grew.cell (L0.out.s.cell 0);have hA':Hid (∀ p:Grew w1,Calls Tryz.prog 103 #[.int .u32 x.isn, .int .i64 1] p.W fun e w'=>e = .returned (.int .u32 a1)/\∃ q:Grew w1,w'=q.W):=hI (fun p=>kN (HAdd.out p.W));refine qg zk zk ?_;repeat (go_big_quiet_step (first|(go_at_call 103;exact hA'.out _)))
 refine wpQuiet_nil ?_;intro W2 f2;have L2:Hid (∀ W,Fr [] W2 W->Lo w W w.heap.size (w.heap.size+1+1) (arE x av uv kv)):=hI (fun W f=>(L0.out.grow f2).grow f);have B2:Hid (∀ W,Fr [] W2 W->Blk W (w.heap.size+1) 49 #[.int .i64 pf, .int .u32 ps, .int .u32 pk, .int .u16 pw, .slice DA pd.length dc]):=hI (fun W f=>(B0.out.fr f2 zs).fr f zs);have c2:W2.cell? ⟨w.heap.size,2,none⟩=some (.int .i64 2):=by rw [<- HAT.out];exact (L2.out _ (Fr.refl [] W2)).s.cell 2
 clear u2 u0 hA' f2 d0 L0 B0 hfs hfs' hat;by_cases hf1:pf=1
 ·have e1:(pf == 1)=true:=by simpa using hf1
  have E1:=hI hf1;clear hf1;go_upto_region 10 with fail
  have d1:W2.cell? ⟨w.heap.size+1,1,none⟩=some (.int .u32 ps):=by simpa using (B2.out _ (Fr.refl [] W2)).cell 1
  clear c2;have c1:W2.cell? ⟨w.heap.size,1,none⟩=some (.int .u32 x.peer):=(L2.out _ (Fr.refl [] W2)).s.cell 1;have z1:=(L2.out _ (Fr.refl [] W2)).s.frozen 1;have c2:W2.cell? ⟨w.heap.size,2,none⟩=some (.int .i64 x.at_):=(L2.out _ (Fr.refl [] W2)).s.cell 2;have z2:=(L2.out _ (Fr.refl [] W2)).s.frozen 2;have hlb:=(L2.out _ (Fr.refl [] W2)).s.lt;go_upto_region 11 with fail
  have hset:Lo w ((W2.setCell ⟨w.heap.size,1,none⟩ (.int .u32 ps)).setCell ⟨w.heap.size,2,none⟩ (.int .i64 3)) w.heap.size (w.heap.size+1+1) (arE { x with peer:=ps,at_:=3 } av uv kv):=by
   have hh:=(((L2.out _ (Fr.refl [] W2)).cell 1 (.int .u32 ps)).cell 2 (.int .i64 3));simp only [arE,zqA,zqB,zqC] at hh |-
   exact hh
  generalize (W2.setCell ⟨w.heap.size,1,none⟩ (.int .u32 ps)).setCell ⟨w.heap.size,2,none⟩ (.int .i64 3)=w3 at *
  have L3:Hid (∀ W,Fr [] w3 W->Lo w W w.heap.size (w.heap.size+1+1) (arE { x with peer:=ps,at_:=3 } av uv kv)):=hI (fun W f=>hset.grow f);clear hset;clear c1 z1 c2 z2 hlb d1;try dsimp only [Act.put]
  go_cut [5] (fun sl wx=>∃ L,L.map (·.1)=[zg { x with peer:=ps,at_:=3 }]/\Pr S wx sl L/\Blk wx (w.heap.size+1+1) 41 (arE (shows { x with peer:=ps,at_:=3 }) av uv kv)/\Fr [(w.heap.size+1+1)] w3 wx);case first=>
   go_wp2_with (first
     | ((with_reducible refine qj 41 (.tmp 2) ?_);refine qf rfl 41 (.tmp 2) rfl w.heap.size 41 (arE { x with peer:=ps,at_:=3 } av uv kv) _ rfl (L3.out _ zf).s Tryz.underlying41 rfl zk ?_)|(go_at_call 26;refine (HB.out _ (L3.out _ zf).f).mono ?_;rintro e wq ⟨vq,Lq,rfl,hLq,pq,fq⟩;have fq':Fr [] w3 wq:=Fr.trans (show Fr [] w3 _ by first|exact Fr.refl _ _|assumption) fq zs;have LQ:=hI (L3.out _ fq');have PQ:Hid (∀ W,Fr [(w.heap.size+1+1)] wq W->Pr S W vq Lq):=hI (fun W f=>pq.fr f (fun y hy hs=>by simp at hy;subst hy;exact NSB.out hs) (fun b hb hm=>by simp at hm;subst hm;exact own_ne pq.own (L3.out _ fq').r zd (qo.1 hb)) (fun _ h=>h));clear pq fq)|((with_reducible refine qi 41 (.tmp 4) ?_);refine qc rfl 41 (.tmp 4) (.tmp 40) rfl (w.heap.size+1+1) 41 qy (arE (shows { x with peer:=ps,at_:=3 }) av uv kv) rfl rfl LQ.out.r rfl zk zq ?_;intro wz Bz Fz))
   go_meet;exact⟨_,hLq,PQ.out _ Fz,Bz,(fq'.mono zs).trans Fz (fun y hy => .inl hy)⟩
  case rest=>
   obtain⟨Ll,hLl,Pl,Bz,Fz⟩:=hcut;have FW:=(L3.out _ (Fr.refl [] w3)).res Fz;refine ‹∀(a:Act) (w:World),Code.wp Tryz.prog Code.ret _ a w->_› _ _ (wp_ret ?_);try simp only [Exit.then]
   change bodyPost Tryz.prog _ _ .ret _ _;refine bodyPost_ret (qx 4 41 ⟨(w.heap.size+1+1),0,none⟩ _ 5 u5 zr zr (qw Bz) zr) zr ?_;rw [HOV.out];unfold zH kU;rw [if_pos E1.out,if_pos E1.out];exact⟨S,_,_,_,_,Ll,rfl,hLl,Ext.refl w S,(M.out.to_ (y:=shows { x with peer:=ps,at_:=3 }) rfl rfl rfl).fr FW,Pl,FW⟩
 ·have e1:(pf == 1)=false:=by simpa using hf1
  have E1:=hI hf1;clear hf1;cases fs
  ·have hpk:¬ pk=a1:=fun h=>by have:=HFS.out.2 h;cases this
   have HPK:=hI hpk;clear hpk;by_cases hf3:pf=3
   ·have e3:(pf == 3)=true:=by simpa using hf3
    have E3:=hI hf3;clear hf3;have e10:(pf == 10)=false:=(by rw [E3.out];rfl);go_upto_region 32 with fail
    try dsimp only [Act.put]
    go_cut [5] (fun sl wx=>sl = .slice none 0 0/\Blk wx (w.heap.size+1+1) 41 (arE x av uv kv)/\Fr [(w.heap.size+1+1)] W2 wx);case first=>
     go_wp2_with (first
       | ((with_reducible refine qj 41 (.tmp 2) ?_);refine qf rfl 41 (.tmp 2) rfl w.heap.size 41 (arE x av uv kv) _ rfl (L2.out _ zf).s Tryz.underlying41 rfl zk ?_)|((with_reducible refine qi 41 (.tmp 4) ?_);refine qc rfl 41 (.tmp 4) (.tmp 166) rfl (w.heap.size+1+1) 41 qy (arE x av uv kv) rfl rfl (L2.out _ zf).r rfl zk zq ?_;intro wz Bz Fz))
     go_meet;exact⟨rfl,Bz,Fz⟩
    case rest=>
     obtain⟨rfl,Bz,Fz⟩:=hcut;have FW:=(L2.out _ (Fr.refl [] W2)).res Fz;refine ‹∀(a:Act) (w:World),Code.wp Tryz.prog Code.ret _ a w->_› _ _ (wp_ret ?_);try simp only [Exit.then]
     change bodyPost Tryz.prog _ _ .ret _ _;refine bodyPost_ret (qx 4 41 ⟨(w.heap.size+1+1),0,none⟩ _ 5 (.slice none 0 0) zr zr (qw Bz) zr) zr ?_;rw [HOV.out];unfold zH;rw [HA1.out,if_neg E1.out,if_pos (.inl HPK.out)];exact⟨S,_,_,_,_,[],rfl,rfl,Ext.refl w S,M.out.fr FW,Pr.nil,FW⟩
   ·have e3:(pf == 3)=false:=by simpa using hf3
    have E3:=hI hf3;clear hf3;by_cases hf10:pf=10
    ·have e10:(pf == 10)=true:=by simpa using hf10
     have E10:=hI hf10;clear hf10;go_upto_region 32 with fail
     try dsimp only [Act.put]
     go_cut [5] (fun sl wx=>sl = .slice none 0 0/\Blk wx (w.heap.size+1+1) 41 (arE x av uv kv)/\Fr [(w.heap.size+1+1)] W2 wx);case first=>
      go_wp2_with (first
        | ((with_reducible refine qj 41 (.tmp 2) ?_);refine qf rfl 41 (.tmp 2) rfl w.heap.size 41 (arE x av uv kv) _ rfl (L2.out _ zf).s Tryz.underlying41 rfl zk ?_)|((with_reducible refine qi 41 (.tmp 4) ?_);refine qc rfl 41 (.tmp 4) (.tmp 166) rfl (w.heap.size+1+1) 41 qy (arE x av uv kv) rfl rfl (L2.out _ zf).r rfl zk zq ?_;intro wz Bz Fz))
      go_meet;exact⟨rfl,Bz,Fz⟩
     case rest=>
      obtain⟨rfl,Bz,Fz⟩:=hcut;have FW:=(L2.out _ (Fr.refl [] W2)).res Fz;refine ‹∀(a:Act) (w:World),Code.wp Tryz.prog Code.ret _ a w->_› _ _ (wp_ret ?_);try simp only [Exit.then]
      change bodyPost Tryz.prog _ _ .ret _ _;refine bodyPost_ret (qx 4 41 ⟨(w.heap.size+1+1),0,none⟩ _ 5 (.slice none 0 0) zr zr (qw Bz) zr) zr ?_;rw [HOV.out];unfold zH;rw [HA1.out,if_neg E1.out,if_pos (.inl HPK.out)];exact⟨S,_,_,_,_,[],rfl,rfl,Ext.refl w S,M.out.fr FW,Pr.nil,FW⟩
    ·have e10:(pf == 10)=false:=by simpa using hf10
     have E10:=hI hf10;clear hf10;go_upto_region 32 with fail
     try dsimp only [Act.put]
     go_cut [5] (fun sl wx=>sl = .slice none 0 0/\Blk wx (w.heap.size+1+1) 41 (arE x av uv kv)/\Fr [(w.heap.size+1+1)] W2 wx);case first=>
      go_wp2_with (first
        | ((with_reducible refine qj 41 (.tmp 2) ?_);refine qf rfl 41 (.tmp 2) rfl w.heap.size 41 (arE x av uv kv) _ rfl (L2.out _ zf).s Tryz.underlying41 rfl zk ?_)|((with_reducible refine qi 41 (.tmp 4) ?_);refine qc rfl 41 (.tmp 4) (.tmp 166) rfl (w.heap.size+1+1) 41 qy (arE x av uv kv) rfl rfl (L2.out _ zf).r rfl zk zq ?_;intro wz Bz Fz))
      go_meet;exact⟨rfl,Bz,Fz⟩
     case rest=>
      obtain⟨rfl,Bz,Fz⟩:=hcut;have FW:=(L2.out _ (Fr.refl [] W2)).res Fz;refine ‹∀(a:Act) (w:World),Code.wp Tryz.prog Code.ret _ a w->_› _ _ (wp_ret ?_);try simp only [Exit.then]
      change bodyPost Tryz.prog _ _ .ret _ _;refine bodyPost_ret (qx 4 41 ⟨(w.heap.size+1+1),0,none⟩ _ 5 (.slice none 0 0) zr zr (qw Bz) zr) zr ?_;rw [HOV.out];unfold zH;rw [HA1.out,if_neg E1.out,if_pos (.inl HPK.out)];exact⟨S,_,_,_,_,[],rfl,rfl,Ext.refl w S,M.out.fr FW,Pr.nil,FW⟩
  ·have hpk:pk=a1:=HFS.out.1 rfl
   have HPK:=hI hpk;clear hpk;by_cases hf3:pf=3
   ·have e3:(pf == 3)=true:=by simpa using hf3
    have E3:=hI hf3;clear hf3;have e10:(pf == 10)=false:=(by rw [E3.out];rfl);have HN:Hid (¬ (pk≠a1\/has pf 2=false)):=hI (by rw [E3.out];rintro (h|h);exact h HPK.out;cases h);go_upto_region 13 with fail
    have d1:W2.cell? ⟨w.heap.size+1,1,none⟩=some (.int .u32 ps):=(by simpa using (B2.out _ (Fr.refl [] W2)).cell 1);clear c2;have c1:W2.cell? ⟨w.heap.size,1,none⟩=some (.int .u32 x.peer):=(L2.out _ (Fr.refl [] W2)).s.cell 1;have z1:=(L2.out _ (Fr.refl [] W2)).s.frozen 1;have hlb:=(L2.out _ (Fr.refl [] W2)).s.lt;go_upto_region 14 with fail
    have hset:Lo w (W2.setCell ⟨w.heap.size,1,none⟩ (.int .u32 ps)) w.heap.size (w.heap.size+1+1) (arE { x with peer:=ps } av uv kv):=by
     have hh:=((L2.out _ (Fr.refl [] W2)).cell 1 (.int .u32 ps));simp only [arE,zqA,zqB,zqC] at hh |-
     exact hh
    have bset:Hid (∀ W,Fr [] (W2.setCell ⟨w.heap.size,1,none⟩ (.int .u32 ps)) W->Blk W (w.heap.size+1) 49 #[.int .i64 pf, .int .u32 ps, .int .u32 pk, .int .u16 pw, .slice DA pd.length dc]):=hI (fun W f=>((B2.out _ (Fr.refl [] W2)).far zs _).fr f zs);generalize W2.setCell ⟨w.heap.size,1,none⟩ (.int .u32 ps)=w3 at *
    have L3:Hid (∀ W,Fr [] w3 W->Lo w W w.heap.size (w.heap.size+1+1) (arE { x with peer:=ps } av uv kv)):=hI (fun W f=>hset.grow f);clear hset;clear c1 z1 hlb d1;have dw:w3.cell? ⟨w.heap.size+1,3,none⟩=some (.int .u16 pw):=(by simpa using (bset.out _ (Fr.refl [] w3)).cell 3);try dsimp only [Act.put]
    go_cut [5] (fun sl wx=>∃ L,L.map (·.1)=[qJ yo]/\Pr S wx sl L/\Blk wx (w.heap.size+1+1) 41 (arE (shows yo) av uv kv)/\Fr [(w.heap.size+1+1)] w3 wx);case first=>
     go_wp2_with (first
       | ((with_reducible refine qj 41 (.tmp 2) ?_);refine qf rfl 41 (.tmp 2) rfl w.heap.size 41 (arE { x with peer:=ps } av uv kv) _ rfl (L3.out _ zf).s Tryz.underlying41 rfl zk ?_)|(go_at_call 107;refine (HO.out _ (L3.out _ zf).f).mono ?_;rintro e wo ⟨rfl,fo⟩)|(go_at_call 83;refine (HANS.out _ (L3.out _ zf).f).mono ?_;rintro e wq ⟨vq,Lq,rfl,hLq,pq,fq⟩;have fq':Fr [] w3 wq:=Fr.trans (show Fr [] w3 _ by first|exact Fr.refl _ _|assumption) fq zs;have LQ:=hI (L3.out _ fq');have PQ:Hid (∀ W,Fr [(w.heap.size+1+1)] wq W->Pr S W vq Lq):=hI (fun W f=>pq.fr f (fun y hy hs=>by simp at hy;subst hy;exact NSB.out hs) (fun b hb hm=>by simp at hm;subst hm;exact own_ne pq.own (L3.out _ fq').r zd (qo.1 hb)) (fun _ h=>h));clear pq fq)|((with_reducible refine qi 41 (.tmp 4) ?_);refine qc rfl 41 (.tmp 4) (.tmp 55) rfl (w.heap.size+1+1) 41 qy (arE (shows yo) av uv kv) rfl rfl LQ.out.r rfl zk zq ?_;intro wz Bz Fz))
     go_meet;exact⟨_,hLq,PQ.out _ Fz,Bz,(fq'.mono zs).trans Fz (fun y hy => .inl hy)⟩
    case rest=>
     obtain⟨Ll,hLl,Pl,Bz,Fz⟩:=hcut;have FW:=(L3.out _ (Fr.refl [] w3)).res Fz;refine ‹∀(a:Act) (w:World),Code.wp Tryz.prog Code.ret _ a w->_› _ _ (wp_ret ?_);try simp only [Exit.then]
     change bodyPost Tryz.prog _ _ .ret _ _;refine bodyPost_ret (qx 4 41 ⟨(w.heap.size+1+1),0,none⟩ _ 5 u5 zr zr (qw Bz) zr) zr ?_;rw [HOV.out];unfold zH;rw [HA1.out,if_neg E1.out,if_neg HN.out,if_pos E3.out];change EL S w (shows (zu { x with peer:=ps } pw),[qJ (zu { x with peer:=ps } pw)]) _ _;rw [HYO.out];exact⟨S,_,_,_,_,Ll,rfl,hLl,Ext.refl w S,MO.out.fr FW,Pl,FW⟩
   ·have e3:(pf == 3)=false:=by simpa using hf3
    have E3:=hI hf3;clear hf3;by_cases hf10:pf=10
    ·have e10:(pf == 10)=true:=by simpa using hf10
     have E10:=hI hf10;clear hf10;have HN:Hid (¬ (pk≠a1\/has pf 2=false)):=hI (by rw [E10.out];rintro (h|h);exact h HPK.out;cases h);go_upto_region 16 with fail
     clear c2;have c2:W2.cell? ⟨w.heap.size,2,none⟩=some (.int .i64 x.at_):=(L2.out _ (Fr.refl [] W2)).s.cell 2;have z2:=(L2.out _ (Fr.refl [] W2)).s.frozen 2;have c3:W2.cell? ⟨w.heap.size,3,none⟩=some (.bool x.broken):=(L2.out _ (Fr.refl [] W2)).s.cell 3;have z3:=(L2.out _ (Fr.refl [] W2)).s.frozen 3;have hlb:=(L2.out _ (Fr.refl [] W2)).s.lt;go_upto_region 32 with fail
     have hset:Lo w ((W2.setCell ⟨w.heap.size,2,none⟩ (.int .i64 5)).setCell ⟨w.heap.size,3,none⟩ (.bool true)) w.heap.size (w.heap.size+1+1) (arE (kS x true) av uv kv):=by
      have hh:=(((L2.out _ (Fr.refl [] W2)).cell 2 (.int .i64 5)).cell 3 (.bool true));simp only [arE,zqA,zqB,zqC] at hh |-
      exact hh
     generalize (W2.setCell ⟨w.heap.size,2,none⟩ (.int .i64 5)).setCell ⟨w.heap.size,3,none⟩ (.bool true)=w3 at *
     have L3:Hid (∀ W,Fr [] w3 W->Lo w W w.heap.size (w.heap.size+1+1) (arE (kS x true) av uv kv)):=hI (fun W f=>hset.grow f);clear hset;clear c2 z2 c3 z3 hlb;try dsimp only [Act.put]
     go_cut [5] (fun sl wx=>sl = .slice none 0 0/\Blk wx (w.heap.size+1+1) 41 (arE (kS x true) av uv kv)/\Fr [(w.heap.size+1+1)] w3 wx);case first=>
      go_wp2_with (first
        | ((with_reducible refine qj 41 (.tmp 2) ?_);refine qf rfl 41 (.tmp 2) rfl w.heap.size 41 (arE (kS x true) av uv kv) _ rfl (L3.out _ zf).s Tryz.underlying41 rfl zk ?_)|((with_reducible refine qi 41 (.tmp 4) ?_);refine qc rfl 41 (.tmp 4) (.tmp 166) rfl (w.heap.size+1+1) 41 qy (arE (kS x true) av uv kv) rfl rfl (L3.out _ zf).r rfl zk zq ?_;intro wz Bz Fz))
      go_meet;exact⟨rfl,Bz,Fz⟩
     case rest=>
      obtain⟨rfl,Bz,Fz⟩:=hcut;have FW:=(L3.out _ (Fr.refl [] w3)).res Fz;refine ‹∀(a:Act) (w:World),Code.wp Tryz.prog Code.ret _ a w->_› _ _ (wp_ret ?_);try simp only [Exit.then]
      change bodyPost Tryz.prog _ _ .ret _ _;refine bodyPost_ret (qx 4 41 ⟨(w.heap.size+1+1),0,none⟩ _ 5 (.slice none 0 0) zr zr (qw Bz) zr) zr ?_;rw [HOV.out];unfold zH;rw [HA1.out,if_neg E1.out,if_neg HN.out,if_neg E3.out,if_pos E10.out];exact⟨S,_,_,_,_,[],rfl,rfl,Ext.refl w S,(M.out.to_ (y:=kS x true) rfl rfl rfl).fr FW,Pr.nil,FW⟩
    ·have e10:(pf == 10)=false:=by simpa using hf10
     have E10:=hI hf10;clear hf10;go_upto_region 32 with fail
     try dsimp only [Act.put]
     go_cut [5] (fun sl wx=>sl = .slice none 0 0/\Blk wx (w.heap.size+1+1) 41 (arE x av uv kv)/\Fr [(w.heap.size+1+1)] W2 wx);case first=>
      go_wp2_with (first
        | ((with_reducible refine qj 41 (.tmp 2) ?_);refine qf rfl 41 (.tmp 2) rfl w.heap.size 41 (arE x av uv kv) _ rfl (L2.out _ zf).s Tryz.underlying41 rfl zk ?_)|((with_reducible refine qi 41 (.tmp 4) ?_);refine qc rfl 41 (.tmp 4) (.tmp 166) rfl (w.heap.size+1+1) 41 qy (arE x av uv kv) rfl rfl (L2.out _ zf).r rfl zk zq ?_;intro wz Bz Fz))
      go_meet;exact⟨rfl,Bz,Fz⟩
     case rest=>
      obtain⟨rfl,Bz,Fz⟩:=hcut;have FW:=(L2.out _ (Fr.refl [] W2)).res Fz;refine ‹∀(a:Act) (w:World),Code.wp Tryz.prog Code.ret _ a w->_› _ _ (wp_ret ?_);try simp only [Exit.then]
      change bodyPost Tryz.prog _ _ .ret _ _;refine bodyPost_ret (qx 4 41 ⟨(w.heap.size+1+1),0,none⟩ _ 5 (.slice none 0 0) zr zr (qw Bz) zr) zr ?_;have hz:zH x ⟨pf,ps,pk,pw,pd⟩=(x,[]):=by
       unfold zH;rw [HA1.out,if_neg E1.out,if_neg E3.out,if_neg E10.out];split <;> rfl
      rw [HOV.out,hz];exact⟨S,_,_,_,_,[],rfl,rfl,Ext.refl w S,M.out.fr FW,Pr.nil,FW⟩
theorem ecomes5{S:Nat->Prop}{w:World}{x:St}{av uv kv:Value}(m:RE S w x av uv kv)(ok:Ok x)(ou:OkU x)(p:Prt)(f0:0<=p.flags)(f1:p.flags<=15)(s0:0<=p.seq)(s1:p.seq<4294967296)(k0:0<=p.ack)(k1:p.ack<4294967296)(r0:0<=p.win)(r1:p.win<65536)(hdl:p.d.length<=100)
  (DA:Option Addr) (dc:Nat) (T:Nat->Prop) (hd:Byt T w (.slice DA p.d.length dc) p.d) (hT:∀ b,T b->b<w.heap.size) (hat:x.at_=5):Calls Tryz.prog 70 #[agE x av uv kv,agP p (.slice DA p.d.length dc)] w (EL S w (qV x p)):=by
 have o1:=m.qN;obtain⟨pf,ps,pk,pw,pd⟩:=p;dsimp only at f0 f1 s0 s1 k0 k1 r0 r1 hdl hd |-
 obtain⟨l0,b0⟩:=Lo.yx w (arE x av uv kv) #[.int .i64 pf, .int .u32 ps, .int .u32 pk, .int .u16 pw, .slice DA pd.length dc];have hadd:=fun W=>vO x.isn 1 W ou.i0 ou.i1 zw zw;have hov:qV x ⟨pf,ps,pk,pw,pd⟩=jm x ⟨pf,ps,pk,pw,pd⟩:=by unfold qV;rw [hat];rfl
 generalize qV x ⟨pf,ps,pk,pw,pd⟩=ov at *
 have hans:=fun W (g:Fr [] w W)=>yz (m.fr g) ok.s ou;have HANS:=hI hans;clear hans;have e8:(pf / 8 == 0)=!has pf 8:=by unfold has;rw [Bool.eq_iff_iff];simp;omega
 have e1:(pf % 2 == 0)=!has pf 1:=by unfold has;rw [Bool.eq_iff_iff];simp;omega
 have e2:(pf / 2 % 2 == 1)=has pf 2:=rfl;have e4:(pf / 4 % 2 == 1)=has pf 4:=rfl;have hpf:(pf=2\/pf=6)↔(has pf 2=true/\has pf 1=false/\has pf 8=false):=by unfold has;simp;omega
 have HPF:=hI hpf;clear hpf;generalize ha1:add32 x.isn 1=a1 at *
 obtain⟨fs,hfs⟩:∃ fs,(pk == a1)=fs:=⟨_,rfl⟩;have hfs':decide (pk=a1)=fs:=by rw [<- hfs];simp [BEq.beq]
 have hfs2:fs=true↔pk=a1:=by rw [<- hfs];simp
 have NSB:Hid (¬ S (w.heap.size+1+1)):=hI (fun hs=>by have:=m.pub _ hs;omega);have HFS:=hI hfs2;have HA1:=hI ha1;have HOV:=hI hov;have HAdd:=hI hadd;have M:=hI m;have L0:=hI l0;have B0:=hI b0;have HAT:=hI hat;clear ha1 hov hadd m l0 b0 hfs2 hd hT ok ou s0 s1;go_enter Tryz.func70,Tryz.ntmps70;go_upto_region 1 with fail
 generalize ((w.alloc (.cells (arE x av uv kv) 41)).alloc (.cells #[.int .i64 pf, .int .u32 ps, .int .u32 pk, .int .u16 pw, .slice DA pd.length dc] 49)).alloc (.cells qy 41)=w1 at *
 have d0:w1.cell? ⟨w.heap.size+1,0,none⟩=some (.int .i64 pf):=by simpa using B0.out.cell 0
 go_upto_region 2 with fail
 have u2:∀ p:Grew w1,p.W.cell? ⟨w.heap.size+1,2,none⟩=some (.int .u32 pk):=Grew.cell (by simpa using B0.out.cell 2);have u0:∀ p:Grew w1,p.W.cell? ⟨w.heap.size,0,none⟩=some (.int .u32 x.isn):=Grew.cell (L0.out.s.cell 0);have hA':Hid (∀ p:Grew w1,Calls Tryz.prog 103 #[.int .u32 x.isn, .int .i64 1] p.W fun e w'=>e = .returned (.int .u32 a1)/\∃ q:Grew w1,w'=q.W):=hI (fun p=>kN (HAdd.out p.W));refine qg zk zk ?_;repeat (go_big_quiet_step (first|(go_at_call 103;exact hA'.out _)))
 refine wpQuiet_nil ?_;intro W2 f2;have L2:Hid (∀ W,Fr [] W2 W->Lo w W w.heap.size (w.heap.size+1+1) (arE x av uv kv)):=hI (fun W f=>(L0.out.grow f2).grow f);have B2:Hid (∀ W,Fr [] W2 W->Blk W (w.heap.size+1) 49 #[.int .i64 pf, .int .u32 ps, .int .u32 pk, .int .u16 pw, .slice DA pd.length dc]):=hI (fun W f=>(B0.out.fr f2 zs).fr f zs);have c2:W2.cell? ⟨w.heap.size,2,none⟩=some (.int .i64 5):=by rw [<- HAT.out];exact (L2.out _ (Fr.refl [] W2)).s.cell 2
 clear u2 u0 hA' f2 d0 L0 B0 hfs hfs' hat;have c3:W2.cell? ⟨w.heap.size,3,none⟩=some (.bool x.broken):=(L2.out _ (Fr.refl [] W2)).s.cell 3;have d4:W2.cell? ⟨w.heap.size+1,4,none⟩=some (.slice DA pd.length dc):=by simpa using (B2.out _ (Fr.refl [] W2)).cell 4
 generalize has pf 8=h8 at *
 generalize has pf 1=h1 at *
 generalize has pf 2=h2 at *
 generalize hh4:has pf 4=h4 at *
 have H4:=hI hh4;clear hh4;cases hb5:x.broken
 ·rw [hb5] at c3
  have HB5:=hI hb5;clear hb5;cases h2
  ·go_upto_region 32 with fail
   try dsimp only [Act.put]
   go_cut [5] (fun sl wx=>sl = .slice none 0 0/\Blk wx (w.heap.size+1+1) 41 (arE x av uv kv)/\Fr [(w.heap.size+1+1)] W2 wx);case first=>
    go_wp2_with (first
      | ((with_reducible refine qj 41 (.tmp 2) ?_);refine qf rfl 41 (.tmp 2) rfl w.heap.size 41 (arE x av uv kv) _ rfl (L2.out _ zf).s Tryz.underlying41 rfl zk ?_)|((with_reducible refine qi 41 (.tmp 4) ?_);refine qc rfl 41 (.tmp 4) (.tmp 166) rfl (w.heap.size+1+1) 41 qy (arE x av uv kv) rfl rfl (L2.out _ zf).r rfl zk zq ?_;intro wz Bz Fz))
    go_meet;exact⟨rfl,Bz,Fz⟩
   case rest=>
    obtain⟨rfl,Bz,Fz⟩:=hcut;have FW:=(L2.out _ (Fr.refl [] W2)).res Fz;refine ‹∀(a:Act) (w:World),Code.wp Tryz.prog Code.ret _ a w->_› _ _ (wp_ret ?_);try simp only [Exit.then]
    change bodyPost Tryz.prog _ _ .ret _ _;refine bodyPost_ret (qx 4 41 ⟨(w.heap.size+1+1),0,none⟩ _ 5 (.slice none 0 0) zr zr (qw Bz) zr) zr ?_;rw [HOV.out];unfold jm;rw [if_pos (.inr (.inl (fun h=>by have:=HPF.out.1 h;simp at this)))];exact⟨S,_,_,_,_,[],rfl,rfl,Ext.refl w S,M.out.fr FW,Pr.nil,FW⟩
  ·cases h1
   ·cases h8
    ·cases h4
     ·by_cases hz:pd.length=0
      ·have hz1:¬ 0<pd.length:=zw
       have HZ:=hI hz;clear hz;go_upto_region 32 with fail
       try dsimp only [Act.put]
       go_cut [5] (fun sl wx=>sl = .slice none 0 0/\Blk wx (w.heap.size+1+1) 41 (arE x av uv kv)/\Fr [(w.heap.size+1+1)] W2 wx);case first=>
        go_wp2_with (first
          | ((with_reducible refine qj 41 (.tmp 2) ?_);refine qf rfl 41 (.tmp 2) rfl w.heap.size 41 (arE x av uv kv) _ rfl (L2.out _ zf).s Tryz.underlying41 rfl zk ?_)|((with_reducible refine qi 41 (.tmp 4) ?_);refine qc rfl 41 (.tmp 4) (.tmp 166) rfl (w.heap.size+1+1) 41 qy (arE x av uv kv) rfl rfl (L2.out _ zf).r rfl zk zq ?_;intro wz Bz Fz))
        go_meet;exact⟨rfl,Bz,Fz⟩
       case rest=>
        obtain⟨rfl,Bz,Fz⟩:=hcut;have FW:=(L2.out _ (Fr.refl [] W2)).res Fz;refine ‹∀(a:Act) (w:World),Code.wp Tryz.prog Code.ret _ a w->_› _ _ (wp_ret ?_);try simp only [Exit.then]
        change bodyPost Tryz.prog _ _ .ret _ _;refine bodyPost_ret (qx 4 41 ⟨(w.heap.size+1+1),0,none⟩ _ 5 (.slice none 0 0) zr zr (qw Bz) zr) zr ?_;rw [HOV.out];unfold jm;rw [if_pos (.inr (.inr ⟨H4.out,HZ.out⟩))];exact⟨S,_,_,_,_,[],rfl,rfl,Ext.refl w S,M.out.fr FW,Pr.nil,FW⟩
      ·have hz1:0<pd.length:=zw
       have HZ:=hI hz;clear hz;have HN:Hid (¬ (x.broken=true\/¬ (pf=2\/pf=6)\/(has pf 4=false/\pd.length=0))):=hI (by rintro (h|h|h);(rw [HB5.out] at h;cases h);exact h (HPF.out.2 ⟨rfl,rfl,rfl⟩);exact HZ.out h.2);go_upto_region 31 with fail
       clear c2 c3 d4;try dsimp only [Act.put]
       go_cut [5] (fun sl wx=>∃ L,L.map (·.1)=[qJ x]/\Pr S wx sl L/\Blk wx (w.heap.size+1+1) 41 (arE (shows x) av uv kv)/\Fr [(w.heap.size+1+1)] W2 wx);case first=>
        go_wp2_with (first
          | ((with_reducible refine qj 41 (.tmp 2) ?_);refine qf rfl 41 (.tmp 2) rfl w.heap.size 41 (arE x av uv kv) _ rfl (L2.out _ zf).s Tryz.underlying41 rfl zk ?_)|(go_at_call 83;refine (HANS.out _ (L2.out _ zf).f).mono ?_;rintro e wq ⟨vq,Lq,rfl,hLq,pq,fq⟩;have fq':Fr [] W2 wq:=Fr.trans (show Fr [] W2 _ by first|exact Fr.refl _ _|assumption) fq zs;have LQ:=hI (L2.out _ fq');have PQ:Hid (∀ W,Fr [(w.heap.size+1+1)] wq W->Pr S W vq Lq):=hI (fun W f=>pq.fr f (fun y hy hs=>by simp at hy;subst hy;exact NSB.out hs) (fun b hb hm=>by simp at hm;subst hm;exact own_ne pq.own (L2.out _ fq').r zd (qo.1 hb)) (fun _ h=>h));clear pq fq)|((with_reducible refine qi 41 (.tmp 4) ?_);refine qc rfl 41 (.tmp 4) (.tmp 164) rfl (w.heap.size+1+1) 41 qy (arE (shows x) av uv kv) rfl rfl LQ.out.r rfl zk zq ?_;intro wz Bz Fz))
        go_meet;exact⟨_,hLq,PQ.out _ Fz,Bz,(fq'.mono zs).trans Fz (fun y hy => .inl hy)⟩
       case rest=>
        obtain⟨Ll,hLl,Pl,Bz,Fz⟩:=hcut;have FW:=(L2.out _ (Fr.refl [] W2)).res Fz;refine ‹∀(a:Act) (w:World),Code.wp Tryz.prog Code.ret _ a w->_› _ _ (wp_ret ?_);try simp only [Exit.then]
        change bodyPost Tryz.prog _ _ .ret _ _;refine bodyPost_ret (qx 4 41 ⟨(w.heap.size+1+1),0,none⟩ _ 5 u5 zr zr (qw Bz) zr) zr ?_;rw [HOV.out];unfold jm;rw [if_neg HN.out];exact⟨S,_,_,_,_,Ll,rfl,hLl,Ext.refl w S,(M.out.to_ (y:=shows x) rfl rfl rfl).fr FW,Pl,FW⟩
     ·have HN:Hid (¬ (x.broken=true\/¬ (pf=2\/pf=6)\/(has pf 4=false/\pd.length=0))):=hI (by rintro (h|h|h);(rw [HB5.out] at h;cases h);exact h (HPF.out.2 ⟨rfl,rfl,rfl⟩);(have h3:=h.1;rw [H4.out] at h3;cases h3))
      go_upto_region 31 with fail
      clear c2 c3 d4;try dsimp only [Act.put]
      go_cut [5] (fun sl wx=>∃ L,L.map (·.1)=[qJ x]/\Pr S wx sl L/\Blk wx (w.heap.size+1+1) 41 (arE (shows x) av uv kv)/\Fr [(w.heap.size+1+1)] W2 wx);case first=>
       go_wp2_with (first
         | ((with_reducible refine qj 41 (.tmp 2) ?_);refine qf rfl 41 (.tmp 2) rfl w.heap.size 41 (arE x av uv kv) _ rfl (L2.out _ zf).s Tryz.underlying41 rfl zk ?_)|(go_at_call 83;refine (HANS.out _ (L2.out _ zf).f).mono ?_;rintro e wq ⟨vq,Lq,rfl,hLq,pq,fq⟩;have fq':Fr [] W2 wq:=Fr.trans (show Fr [] W2 _ by first|exact Fr.refl _ _|assumption) fq zs;have LQ:=hI (L2.out _ fq');have PQ:Hid (∀ W,Fr [(w.heap.size+1+1)] wq W->Pr S W vq Lq):=hI (fun W f=>pq.fr f (fun y hy hs=>by simp at hy;subst hy;exact NSB.out hs) (fun b hb hm=>by simp at hm;subst hm;exact own_ne pq.own (L2.out _ fq').r zd (qo.1 hb)) (fun _ h=>h));clear pq fq)|((with_reducible refine qi 41 (.tmp 4) ?_);refine qc rfl 41 (.tmp 4) (.tmp 164) rfl (w.heap.size+1+1) 41 qy (arE (shows x) av uv kv) rfl rfl LQ.out.r rfl zk zq ?_;intro wz Bz Fz))
       go_meet;exact⟨_,hLq,PQ.out _ Fz,Bz,(fq'.mono zs).trans Fz (fun y hy => .inl hy)⟩
      case rest=>
       obtain⟨Ll,hLl,Pl,Bz,Fz⟩:=hcut;have FW:=(L2.out _ (Fr.refl [] W2)).res Fz;refine ‹∀(a:Act) (w:World),Code.wp Tryz.prog Code.ret _ a w->_› _ _ (wp_ret ?_);try simp only [Exit.then]
       change bodyPost Tryz.prog _ _ .ret _ _;refine bodyPost_ret (qx 4 41 ⟨(w.heap.size+1+1),0,none⟩ _ 5 u5 zr zr (qw Bz) zr) zr ?_;rw [HOV.out];unfold jm;rw [if_neg HN.out];exact⟨S,_,_,_,_,Ll,rfl,hLl,Ext.refl w S,(M.out.to_ (y:=shows x) rfl rfl rfl).fr FW,Pl,FW⟩
    ·go_upto_region 32 with fail
     try dsimp only [Act.put]
     go_cut [5] (fun sl wx=>sl = .slice none 0 0/\Blk wx (w.heap.size+1+1) 41 (arE x av uv kv)/\Fr [(w.heap.size+1+1)] W2 wx);case first=>
      go_wp2_with (first
        | ((with_reducible refine qj 41 (.tmp 2) ?_);refine qf rfl 41 (.tmp 2) rfl w.heap.size 41 (arE x av uv kv) _ rfl (L2.out _ zf).s Tryz.underlying41 rfl zk ?_)|((with_reducible refine qi 41 (.tmp 4) ?_);refine qc rfl 41 (.tmp 4) (.tmp 166) rfl (w.heap.size+1+1) 41 qy (arE x av uv kv) rfl rfl (L2.out _ zf).r rfl zk zq ?_;intro wz Bz Fz))
      go_meet;exact⟨rfl,Bz,Fz⟩
     case rest=>
      obtain⟨rfl,Bz,Fz⟩:=hcut;have FW:=(L2.out _ (Fr.refl [] W2)).res Fz;refine ‹∀(a:Act) (w:World),Code.wp Tryz.prog Code.ret _ a w->_› _ _ (wp_ret ?_);try simp only [Exit.then]
      change bodyPost Tryz.prog _ _ .ret _ _;refine bodyPost_ret (qx 4 41 ⟨(w.heap.size+1+1),0,none⟩ _ 5 (.slice none 0 0) zr zr (qw Bz) zr) zr ?_;rw [HOV.out];unfold jm;rw [if_pos (.inr (.inl (fun h=>by have:=HPF.out.1 h;simp at this)))];exact⟨S,_,_,_,_,[],rfl,rfl,Ext.refl w S,M.out.fr FW,Pr.nil,FW⟩
   ·go_upto_region 32 with fail
    try dsimp only [Act.put]
    go_cut [5] (fun sl wx=>sl = .slice none 0 0/\Blk wx (w.heap.size+1+1) 41 (arE x av uv kv)/\Fr [(w.heap.size+1+1)] W2 wx);case first=>
     go_wp2_with (first
       | ((with_reducible refine qj 41 (.tmp 2) ?_);refine qf rfl 41 (.tmp 2) rfl w.heap.size 41 (arE x av uv kv) _ rfl (L2.out _ zf).s Tryz.underlying41 rfl zk ?_)|((with_reducible refine qi 41 (.tmp 4) ?_);refine qc rfl 41 (.tmp 4) (.tmp 166) rfl (w.heap.size+1+1) 41 qy (arE x av uv kv) rfl rfl (L2.out _ zf).r rfl zk zq ?_;intro wz Bz Fz))
     go_meet;exact⟨rfl,Bz,Fz⟩
    case rest=>
     obtain⟨rfl,Bz,Fz⟩:=hcut;have FW:=(L2.out _ (Fr.refl [] W2)).res Fz;refine ‹∀(a:Act) (w:World),Code.wp Tryz.prog Code.ret _ a w->_› _ _ (wp_ret ?_);try simp only [Exit.then]
     change bodyPost Tryz.prog _ _ .ret _ _;refine bodyPost_ret (qx 4 41 ⟨(w.heap.size+1+1),0,none⟩ _ 5 (.slice none 0 0) zr zr (qw Bz) zr) zr ?_;rw [HOV.out];unfold jm;rw [if_pos (.inr (.inl (fun h=>by have:=HPF.out.1 h;simp at this)))];exact⟨S,_,_,_,_,[],rfl,rfl,Ext.refl w S,M.out.fr FW,Pr.nil,FW⟩
 ·rw [hb5] at c3
  have HB5:=hI hb5;clear hb5;go_upto_region 32 with fail
  try dsimp only [Act.put]
  go_cut [5] (fun sl wx=>sl = .slice none 0 0/\Blk wx (w.heap.size+1+1) 41 (arE x av uv kv)/\Fr [(w.heap.size+1+1)] W2 wx);case first=>
   go_wp2_with (first
     | ((with_reducible refine qj 41 (.tmp 2) ?_);refine qf rfl 41 (.tmp 2) rfl w.heap.size 41 (arE x av uv kv) _ rfl (L2.out _ zf).s Tryz.underlying41 rfl zk ?_)|((with_reducible refine qi 41 (.tmp 4) ?_);refine qc rfl 41 (.tmp 4) (.tmp 166) rfl (w.heap.size+1+1) 41 qy (arE x av uv kv) rfl rfl (L2.out _ zf).r rfl zk zq ?_;intro wz Bz Fz))
   go_meet;exact⟨rfl,Bz,Fz⟩
  case rest=>
   obtain⟨rfl,Bz,Fz⟩:=hcut;have FW:=(L2.out _ (Fr.refl [] W2)).res Fz;refine ‹∀(a:Act) (w:World),Code.wp Tryz.prog Code.ret _ a w->_› _ _ (wp_ret ?_);try simp only [Exit.then]
   change bodyPost Tryz.prog _ _ .ret _ _;refine bodyPost_ret (qx 4 41 ⟨(w.heap.size+1+1),0,none⟩ _ 5 (.slice none 0 0) zr zr (qw Bz) zr) zr ?_;rw [HOV.out];unfold jm;rw [if_pos (.inl HB5.out)];exact⟨S,_,_,_,_,[],rfl,rfl,Ext.refl w S,M.out.fr FW,Pr.nil,FW⟩
end Go.Proofs.YtmgdbbbdhkfdmaaGreat
namespace Go.Proofs.YtmgdbbbdhkfdmaaGreat.Held
set_option maxRecDepth 100000
open Go.RowKit Go.Deep
section
variable {P:Program} {md:Region.Mode} {l:List Oper} {Q:Exit->Act->World->Prop} {S:World->Prop} {fuel:Nat} {listed:Array Bool} {a:Act} {w:World}
theorem take(i:Nat){oi:Oper}{v:Value}(hi:l[i]?=some oi)(hs:Region.noSelect l.toArray=true)(hf:Region.free md l.toArray listed i=true)(hr:(Region.ready md l.toArray listed).contains i=true)
  (hQ:∀ c a w,Q (.panic c) (a.put oi.dst v) w->Q (.panic c) a w) (hy:YieldsIf P l.toArray S oi v a) (hS:S w) (h:wpAnyH P md l.toArray Q S fuel (listed.setIfInBounds i true) (a.put oi.dst v) w):wpAnyH P md l.toArray Q S (fuel+1) listed a w:=
 wpAnyH_take (by simpa using hi) hs hf hr hQ hy hS h
theorem skip(i:Nat){oi:Oper}(hi:l[i]?=some oi)(hs:Region.noSelect l.toArray=true)(hf:Region.free md l.toArray listed i=true)(hr:(Region.ready md l.toArray listed).contains i=true)
  (hQ:∀ c a w,Q (.panic c) (a.put oi.dst undef) w->Q (.panic c) a w) (hn:Region.wanted oi (yielded l.toArray a.tmps)=false) (hS:S w) (h:wpAnyH P md l.toArray Q S fuel (listed.setIfInBounds i true) (a.put oi.dst undef) w):wpAnyH P md l.toArray Q S (fuel+1) listed a w:=
 wpAnyH_take (by simpa using hi) hs hf hr hQ (.inr ⟨hn,rfl⟩) hS h
theorem one{i:Nat}{o:Oper}(hr:Region.ready md l.toArray listed=[i])(hi:l[i]?=some o)
  (h:∀ K':Act->World->Prop,Shut (∀ a w,S w->(S w->wpAnyH P md l.toArray Q S fuel (listed.setIfInBounds i true) a w)->K' a w)->if Region.wanted o (yielded l.toArray a.tmps)=true then Oper.wp P o a w K' Q else K' (a.put o.dst undef) w):wpAnyH P md l.toArray Q S (fuel+1) listed a w:=
 wpAnyH_ready hr zs (AllReadyH.cons (by simpa using hi) h AllReadyH.nil)
theorem two{i j:Nat}{o o2:Oper}(hr:Region.ready md l.toArray listed=[i,j])(hi:l[i]?=some o)(hj:l[j]?=some o2)
  (h:∀ K':Act->World->Prop,Shut (∀ a w,S w->(S w->wpAnyH P md l.toArray Q S fuel (listed.setIfInBounds i true) a w)->K' a w)->if Region.wanted o (yielded l.toArray a.tmps)=true then Oper.wp P o a w K' Q else K' (a.put o.dst undef) w)
  (h2:∀ K':Act->World->Prop,Shut (∀ a w,S w->(S w->wpAnyH P md l.toArray Q S fuel (listed.setIfInBounds j true) a w)->K' a w)->if Region.wanted o2 (yielded l.toArray a.tmps)=true then Oper.wp P o2 a w K' Q else K' (a.put o2.dst undef) w):wpAnyH P md l.toArray Q S (fuel+1) listed a w:=
 wpAnyH_ready hr zs (AllReadyH.cons (by simpa using hi) h (AllReadyH.cons (by simpa using hj) h2 AllReadyH.nil))
theorem done(hr:Region.ready md l.toArray listed=[])(h:Q .normal a w):wpAnyH P md l.toArray Q S fuel listed a w:=wpAnyH_done hr h fuel
end
section
variable {P:Program} {ops:Array Oper} {S:World->Prop} {op:Oper} {a:Act} {w:World} {K:Act->World->Prop} {Q:Exit->Act->World->Prop}
theorem yc(hw:Region.wanted op (yielded ops a.tmps)=true)(ty:TypeId)(x:Operand)(ho:op.op = .load ty x)(b:Nat)(t:TypeId)(cs:Array Value)(d:TypeDesc)
  (hx:a.eval x = .pointer (some ⟨b,0,none⟩)) (hB:∀ w,S w->Blk w b t cs) (hu:P.underlying ty=some d) (hd:d.isRow=true) (hi:(P.info? ty).map (·.size)=some cs.size):YieldsIf P ops S op (.agg cs) a:=
 .inl ⟨hw,fun w hs=>by
  have hl:(Instr.loadAt ty (.pointer (some ⟨b,0,none⟩))).run P w = .ok (.agg cs) w:=by
   simp only [Instr.loadAt,Instr.sureAddr,Sem.run_bind,Sem.run_pure,Result.andThen_ok,xY ty b t cs d (hB w hs) hu hd hi]
  unfold execOp;simp only [ho,hx,hl,Sem.run_bind,Sem.run_pure,Result.andThen_ok]⟩
theorem vY{E:Prop}(hgd:op.guard=none)(ty:TypeId)(x y:Operand)(ho:op.op = .store ty x y)(b:Nat)(t:TypeId)(cs cells:Array Value)
  (hx:a.eval x = .pointer (some ⟨b,0,none⟩)) (hy:a.eval y = .agg cells) (hB:Blk w b t cs) (hs:cs.size=cells.size) (hi:(P.info? ty).map (·.size)=some cells.size) (h1:cells.all (·.oneCell')=true)
  (h:∀ w',Blk w' b t cells->Fr [b] w w'->K (a.put op.dst undef) w'):if Region.wanted op (yielded ops a.tmps)=true then Oper.wp P op a w K Q else E:=by
 have hw:Region.wanted op (yielded ops a.tmps)=true:=by simp [Region.wanted,hgd]
 rw [if_pos hw];refine wp_store_mid ty x y ho b 0 cells hx hy (fun j hj=>?_) hi h1 (h _ ?_ (vC b _ 0 w))
 ·have hc:=Blk.cell hB j
  refine⟨?_,?_⟩
  ·rw [Nat.zero_add,hc]
   simp [show j<cs.size from by omega]
  ·rw [Nat.zero_add]
   exact Blk.frozen hB j
 ·have:=vI b t cells.toList 0 w cs.toList (by simpa using hB) zv
  have e:cs.toList.take 0++cells.toList++cs.toList.drop (0+cells.toList.length)=cells.toList:=by
   rw [List.drop_of_length_le zv];simp
  rw [e] at this;simpa using this
end
end Go.Proofs.YtmgdbbbdhkfdmaaGreat.Held
