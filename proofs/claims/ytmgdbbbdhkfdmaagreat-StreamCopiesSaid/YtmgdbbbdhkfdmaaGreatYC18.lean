import Derived.Test.YtmgdbbbdhkfdmaaGreatYC17
import Derived.Deep.DeepCutAuto
import Derived.Test.YtmgdbbbdhkfdmaaGreatYC15
import Derived.Test.YtmgdbbbdhkfdmaaGreatYC12
import Derived.Test.YtmgdbbbdhkfdmaaGreatYC16
import Derived.Test.YtmgdbbbdhkfdmaaGreatYC10
import Derived.Test.YtmgdbbbdhkfdmaaGreatYC0
set_option linter.unusedSimpArgs false
set_option linter.unusedVariables false
set_option maxHeartbeats 40000000
namespace Go.Proofs.YtmgdbbbdhkfdmaaGreat
set_option maxRecDepth 100000
open Go.RowKit Go.Deep
theorem ecomes4{S:Nat->Prop}{w:World}{x:St}{av uv kv:Value}(m:RE S w x av uv kv)(ok:Ok x)(ou:OkU x)(p:Prt)(f0:0<=p.flags)(f1:p.flags<=15)(s0:0<=p.seq)(s1:p.seq<4294967296)(k0:0<=p.ack)(k1:p.ack<4294967296)(r0:0<=p.win)(r1:p.win<65536)(hdl:p.d.length<=100)
  (DA:Option Addr) (dc:Nat) (T:Nat->Prop) (hd:Byt T w (.slice DA p.d.length dc) p.d) (hT:∀ b,T b->b<w.heap.size) (hat:x.at_=4):Calls Tryz.prog 70 #[agE x av uv kv,agP p (.slice DA p.d.length dc)] w (EL S w (qV x p)):=by
 have o1:=m.qN;obtain⟨pf,ps,pk,pw,pd⟩:=p;dsimp only at f0 f1 s0 s1 k0 k1 r0 r1 hdl hd |-
 obtain⟨l0,b0⟩:=Lo.yx w (arE x av uv kv) #[.int .i64 pf, .int .u32 ps, .int .u32 pk, .int .u16 pw, .slice DA pd.length dc];have hadd:=fun W=>vO x.isn 1 W ou.i0 ou.i1 zw zw;have hov:qV x ⟨pf,ps,pk,pw,pd⟩=zN x ⟨pf,ps,pk,pw,pd⟩:=by unfold qV;rw [hat];rfl
 generalize qV x ⟨pf,ps,pk,pw,pd⟩=ov at *
 have hop:=fun W (g:Fr [] w W)=>eopen (m.fr g) ok ou ⟨pf,ps,pk,pw,pd⟩ f0 f1 s0 s1 k0 k1 r0 r1 hdl DA dc T (hd.fr g zs) (fun b hb=>Nat.lt_of_lt_of_le (hT b hb) g.size);generalize zN x ⟨pf,ps,pk,pw,pd⟩=rv at *
 have HOP:=hI hop;clear hop;generalize ha1:add32 x.isn 1=a1 at *
 obtain⟨fs,hfs⟩:∃ fs,(pk == a1)=fs:=⟨_,rfl⟩;have hfs':decide (pk=a1)=fs:=by rw [<- hfs];simp [BEq.beq]
 have hfs2:fs=true↔pk=a1:=by rw [<- hfs];simp
 have NSB:Hid (¬ S (w.heap.size+1+1)):=hI (fun hs=>by have:=m.pub _ hs;omega);have HFS:=hI hfs2;have HA1:=hI ha1;have HOV:=hI hov;have HAdd:=hI hadd;have M:=hI m;have L0:=hI l0;have B0:=hI b0;have HAT:=hI hat;clear ha1 hov hadd m l0 b0 hfs2 hd hT ok ou s0 s1;go_enter Tryz.func70,Tryz.ntmps70;go_upto_region 1 with fail
 generalize ((w.alloc (.cells (arE x av uv kv) 41)).alloc (.cells #[.int .i64 pf, .int .u32 ps, .int .u32 pk, .int .u16 pw, .slice DA pd.length dc] 49)).alloc (.cells qy 41)=w1 at *
 have d0:w1.cell? ⟨w.heap.size+1,0,none⟩=some (.int .i64 pf):=by simpa using B0.out.cell 0
 go_upto_region 2 with fail
 have u2:∀ p:Grew w1,p.W.cell? ⟨w.heap.size+1,2,none⟩=some (.int .u32 pk):=Grew.cell (by simpa using B0.out.cell 2);have u0:∀ p:Grew w1,p.W.cell? ⟨w.heap.size,0,none⟩=some (.int .u32 x.isn):=Grew.cell (L0.out.s.cell 0);have hA':Hid (∀ p:Grew w1,Calls Tryz.prog 103 #[.int .u32 x.isn, .int .i64 1] p.W fun e w'=>e = .returned (.int .u32 a1)/\∃ q:Grew w1,w'=q.W):=hI (fun p=>kN (HAdd.out p.W));refine qg zk zk ?_;repeat (go_big_quiet_step (first|(go_at_call 103;exact hA'.out _)))
 refine wpQuiet_nil ?_;intro W2 f2;have L2:Hid (∀ W,Fr [] W2 W->Lo w W w.heap.size (w.heap.size+1+1) (arE x av uv kv)):=hI (fun W f=>(L0.out.grow f2).grow f);have B2:Hid (∀ W,Fr [] W2 W->Blk W (w.heap.size+1) 49 #[.int .i64 pf, .int .u32 ps, .int .u32 pk, .int .u16 pw, .slice DA pd.length dc]):=hI (fun W f=>(B0.out.fr f2 zs).fr f zs);have c2:W2.cell? ⟨w.heap.size,2,none⟩=some (.int .i64 4):=by rw [<- HAT.out];exact (L2.out _ (Fr.refl [] W2)).s.cell 2
 clear u2 u0 hA' f2 d0 L0 B0 hfs hfs' hat;go_upto_region 28 with fail
 clear c2;try dsimp only [Act.put]
 go_cut [5] (fun sl wx=>∃ S9 a9 u9 k9 L,L.map (·.1)=rv.2/\Ext w S S9/\RE S9 wx rv.1 a9 u9 k9/\Pr S9 wx sl L/\Blk wx (w.heap.size+1+1) 41 (arE rv.1 a9 u9 k9)/\Fr [w.heap.size+1+1] W2 wx);case first=>
  go_wp2_with (first
    | ((with_reducible refine qj 41 (.tmp 2) ?_);refine qf rfl 41 (.tmp 2) rfl w.heap.size 41 (arE x av uv kv) _ rfl (L2.out _ zf).s Tryz.underlying41 rfl zk ?_)|((with_reducible refine qj 49 (.tmp 3) ?_);refine qf rfl 49 (.tmp 3) rfl (w.heap.size+1) 49 #[.int .i64 pf, .int .u32 ps, .int .u32 pk, .int .u16 pw, .slice DA pd.length dc] _ rfl (B2.out _ zf) Tryz.underlying49 rfl zk ?_)|(go_at_call 108;refine (HOP.out _ (L2.out _ zf).f).mono ?_;rintro e wq ⟨S9,a9,u9,k9,v9,Lq,rfl,hLq,x9,m9,pq,fq⟩;have fq':Fr [] W2 wq:=Fr.trans (show Fr [] W2 _ by first|exact Fr.refl _ _|assumption) fq zs;have ns9:¬ S9 (w.heap.size+1+1):=fun hs=>(x9.2 _ hs).elim (fun h=>NSB.out h) (fun h=>by have h1:=(L2.out _ (Fr.refl [] W2)).r.lt;have h2:=(show Fr [] W2 _ by first|exact Fr.refl _ _|assumption).size;omega);have x9':Ext w S S9:=kM x9 ((L2.out _ zf).f).size;have LQ:=hI (L2.out _ fq');have o2:=m9.qN;have PQ:Hid (∀ W,Fr [w.heap.size+1+1] wq W->Pr S9 W v9 Lq):=hI (fun W f=>pq.fr f (fun y hy hs=>by simp at hy;subst hy;exact ns9 hs) (fun b hb hm=>by simp at hm;subst hm;exact own_ne pq.own (L2.out _ fq').r zd (qo.1 hb)) (fun _ h=>h));have M9:=hI m9;have NS9:=hI ns9;have X9:=hI x9';clear pq fq x9 m9 ns9 x9')|((with_reducible refine qi 41 (.tmp 4) ?_);refine qc rfl 41 (.tmp 4) (.tmp 127) rfl (w.heap.size+1+1) 41 qy (arE rv.1 a9 u9 k9) rfl rfl LQ.out.r rfl zk zq ?_;intro wz Bz Fz))
  go_meet;exact⟨S9,a9,u9,k9,Lq,hLq,X9.out,M9.out.far Fz NS9.out,PQ.out _ Fz,Bz,(fq'.mono zs).trans Fz (fun y hy => .inl hy)⟩
 case rest=>
  obtain⟨S9,a9,u9,k9,Ll,hLl,X9,M9,Pl,Bz,Fz⟩:=hcut;have FW:=(L2.out _ (Fr.refl [] W2)).res Fz;refine ‹∀(a:Act) (w:World),Code.wp Tryz.prog Code.ret _ a w->_› _ _ (wp_ret ?_);try simp only [Exit.then]
  change bodyPost Tryz.prog _ _ .ret _ _;refine bodyPost_ret (qx 4 41 ⟨w.heap.size+1+1,0,none⟩ _ 5 u5 zr zr (qw Bz) zr) zr ?_;rw [HOV.out];exact⟨S9,a9,u9,k9,_,Ll,rfl,hLl,X9,M9,Pl,FW⟩
theorem ecomes3{S:Nat->Prop}{w:World}{x:St}{av uv kv:Value}(m:RE S w x av uv kv)(ok:Ok x)(ou:OkU x)(p:Prt)(f0:0<=p.flags)(f1:p.flags<=15)(s0:0<=p.seq)(s1:p.seq<4294967296)(k0:0<=p.ack)(k1:p.ack<4294967296)(r0:0<=p.win)(r1:p.win<65536)(hdl:p.d.length<=100)
  (DA:Option Addr) (dc:Nat) (T:Nat->Prop) (hd:Byt T w (.slice DA p.d.length dc) p.d) (hT:∀ b,T b->b<w.heap.size) (hat:x.at_=3):Calls Tryz.prog 70 #[agE x av uv kv,agP p (.slice DA p.d.length dc)] w (EL S w (qV x p)):=by
 have o1:=m.qN;obtain⟨pf,ps,pk,pw,pd⟩:=p;dsimp only at f0 f1 s0 s1 k0 k1 r0 r1 hdl hd |-
 obtain⟨l0,b0⟩:=Lo.yx w (arE x av uv kv) #[.int .i64 pf, .int .u32 ps, .int .u32 pk, .int .u16 pw, .slice DA pd.length dc];have hadd:=fun W=>vO x.isn 1 W ou.i0 ou.i1 zw zw;have hov:qV x ⟨pf,ps,pk,pw,pd⟩=jl x ⟨pf,ps,pk,pw,pd⟩:=by unfold qV;rw [hat];rfl
 generalize qV x ⟨pf,ps,pk,pw,pd⟩=ov at *
 have hb:=fun W (g:Fr [] w W)=>qao ((m.to_ (y:={ x with peer:=ps,at_:=3 }) rfl rfl rfl).fr g) (ok.peer ps 3 zd zd).s ⟨ou.i0,ou.i1,s0,s1⟩;have HB:=hI hb;clear hb;have ho:=fun W (g:Fr [] w W)=>qna (m.fr g) ok.s pw r0 r1;have mo0:RE S w (zu x pw) av uv kv:=m.to_ rfl rfl rfl;have hans:=fun W (g:Fr [] w W)=>yz (mo0.fr g) (Ok.opens ok pw).s ⟨ou.i0,ou.i1,ou.p0,ou.p1⟩;have hop:=fun W (g:Fr [] w W)=>eopen (m.fr g) ok ou ⟨pf,ps,pk,pw,pd⟩ f0 f1 s0 s1 k0 k1 r0 r1 hdl DA dc T (hd.fr g zs) (fun b hb=>Nat.lt_of_lt_of_le (hT b hb) g.size);have hop2:=fun W (g:Fr [] w W)=>eopen (mo0.fr g) (Ok.opens ok pw) ⟨ou.i0,ou.i1,ou.p0,ou.p1⟩ ⟨pf,ps,pk,pw,pd⟩ f0 f1 s0 s1 k0 k1 r0 r1 hdl DA dc T (hd.fr g zs) (fun b hb=>Nat.lt_of_lt_of_le (hT b hb) g.size);have hmo:RE S w (shows (zu x pw)) av uv kv:=m.to_ rfl rfl rfl;have hhv:jl x ⟨pf,ps,pk,pw,pd⟩=if pf=1 then kU x ⟨pf,ps,pk,pw,pd⟩ else if pf=3/\ps=x.peer/\pk=add32 x.isn 1 then (shows (zu x pw),[qJ (zu x pw)]) else if has pf 8 then zN x ⟨pf,ps,pk,pw,pd⟩ else if has pf 1=true\/has pf 2=false\/pk≠add32 x.isn 1 then (x,[]) else zN (zu x pw) ⟨pf,ps,pk,pw,pd⟩:=rfl;rw [hhv] at hov;clear hhv;generalize zN x ⟨pf,ps,pk,pw,pd⟩=rv at *
 generalize zu x pw=yo at *
 generalize zN yo ⟨pf,ps,pk,pw,pd⟩=rw_ at *
 have HO:=hI ho;have HANS:=hI hans;have HOP:=hI hop;have HOP2:=hI hop2;have MO:=hI hmo;clear ho hans hop hop2 hmo mo0;have e8:(pf / 8 == 1)=has pf 8:=by unfold has;rw [Bool.eq_iff_iff];simp;omega
 have eo1:(pf % 2 == 0)=!has pf 1:=by unfold has;rw [Bool.eq_iff_iff];simp;omega
 have eo2:(pf / 2 % 2 == 1)=has pf 2:=rfl;generalize ha1:add32 x.isn 1=a1 at *
 obtain⟨fs,hfs⟩:∃ fs,(pk == a1)=fs:=⟨_,rfl⟩;have hfs':decide (pk=a1)=fs:=by rw [<- hfs];simp [BEq.beq]
 have hfs2:fs=true↔pk=a1:=by rw [<- hfs];simp
 have NSB:Hid (¬ S (w.heap.size+1+1)):=hI (fun hs=>by have:=m.pub _ hs;omega);have HFS:=hI hfs2;have HA1:=hI ha1;have HOV:=hI hov;have HAdd:=hI hadd;have M:=hI m;have L0:=hI l0;have B0:=hI b0;have HAT:=hI hat;clear ha1 hov hadd m l0 b0 hfs2 hd hT ok ou s0 s1;go_enter Tryz.func70,Tryz.ntmps70;go_upto_region 1 with fail
 generalize ((w.alloc (.cells (arE x av uv kv) 41)).alloc (.cells #[.int .i64 pf, .int .u32 ps, .int .u32 pk, .int .u16 pw, .slice DA pd.length dc] 49)).alloc (.cells qy 41)=w1 at *
 have d0:w1.cell? ⟨w.heap.size+1,0,none⟩=some (.int .i64 pf):=by simpa using B0.out.cell 0
 go_upto_region 2 with fail
 have u2:∀ p:Grew w1,p.W.cell? ⟨w.heap.size+1,2,none⟩=some (.int .u32 pk):=Grew.cell (by simpa using B0.out.cell 2);have u0:∀ p:Grew w1,p.W.cell? ⟨w.heap.size,0,none⟩=some (.int .u32 x.isn):=Grew.cell (L0.out.s.cell 0);have hA':Hid (∀ p:Grew w1,Calls Tryz.prog 103 #[.int .u32 x.isn, .int .i64 1] p.W fun e w'=>e = .returned (.int .u32 a1)/\∃ q:Grew w1,w'=q.W):=hI (fun p=>kN (HAdd.out p.W));refine qg zk zk ?_;repeat (go_big_quiet_step (first|(go_at_call 103;exact hA'.out _)))
 refine wpQuiet_nil ?_;intro W2 f2;have L2:Hid (∀ W,Fr [] W2 W->Lo w W w.heap.size (w.heap.size+1+1) (arE x av uv kv)):=hI (fun W f=>(L0.out.grow f2).grow f);have B2:Hid (∀ W,Fr [] W2 W->Blk W (w.heap.size+1) 49 #[.int .i64 pf, .int .u32 ps, .int .u32 pk, .int .u16 pw, .slice DA pd.length dc]):=hI (fun W f=>(B0.out.fr f2 zs).fr f zs);have c2:W2.cell? ⟨w.heap.size,2,none⟩=some (.int .i64 3):=by rw [<- HAT.out];exact (L2.out _ (Fr.refl [] W2)).s.cell 2
 clear u2 u0 hA' f2 d0 L0 B0 hfs hfs' hat;have c1:W2.cell? ⟨w.heap.size,1,none⟩=some (.int .u32 x.peer):=(L2.out _ (Fr.refl [] W2)).s.cell 1;have d1:W2.cell? ⟨w.heap.size+1,1,none⟩=some (.int .u32 ps):=by simpa using (B2.out _ (Fr.refl [] W2)).cell 1
 by_cases hf1:pf=1
 ·clear c1 d1 e8 eo1 eo2
  have e1:(pf == 1)=true:=by simpa using hf1
  have E1:=hI hf1;clear hf1;go_upto_region 19 with fail
  have d1:W2.cell? ⟨w.heap.size+1,1,none⟩=some (.int .u32 ps):=by simpa using (B2.out _ (Fr.refl [] W2)).cell 1
  clear c2;have c1:W2.cell? ⟨w.heap.size,1,none⟩=some (.int .u32 x.peer):=(L2.out _ (Fr.refl [] W2)).s.cell 1;have z1:=(L2.out _ (Fr.refl [] W2)).s.frozen 1;have hlb:=(L2.out _ (Fr.refl [] W2)).s.lt;go_upto_region 20 with fail
  have hset:Lo w (W2.setCell ⟨w.heap.size,1,none⟩ (.int .u32 ps)) w.heap.size (w.heap.size+1+1) (arE { x with peer:=ps,at_:=3 } av uv kv):=by
   have hh:=((L2.out _ (Fr.refl [] W2)).cell 1 (.int .u32 ps));have hat:=HAT.out;simp only [arE,zqA,zqB,zqC] at hh |-
   rw [hat] at hh;exact hh
  generalize W2.setCell ⟨w.heap.size,1,none⟩ (.int .u32 ps)=w3 at *
  have L3:Hid (∀ W,Fr [] w3 W->Lo w W w.heap.size (w.heap.size+1+1) (arE { x with peer:=ps,at_:=3 } av uv kv)):=hI (fun W f=>hset.grow f);clear hset;clear c1 z1 hlb d1;try dsimp only [Act.put]
  go_cut [5] (fun sl wx=>∃ L,L.map (·.1)=[zg { x with peer:=ps,at_:=3 }]/\Pr S wx sl L/\Blk wx (w.heap.size+1+1) 41 (arE (shows { x with peer:=ps,at_:=3 }) av uv kv)/\Fr [(w.heap.size+1+1)] w3 wx);case first=>
   go_wp2_with (first
     | ((with_reducible refine qj 41 (.tmp 2) ?_);refine qf rfl 41 (.tmp 2) rfl w.heap.size 41 (arE { x with peer:=ps,at_:=3 } av uv kv) _ rfl (L3.out _ zf).s Tryz.underlying41 rfl zk ?_)|(go_at_call 26;refine (HB.out _ (L3.out _ zf).f).mono ?_;rintro e wq ⟨vq,Lq,rfl,hLq,pq,fq⟩;have fq':Fr [] w3 wq:=Fr.trans (show Fr [] w3 _ by first|exact Fr.refl _ _|assumption) fq zs;have LQ:=hI (L3.out _ fq');have PQ:Hid (∀ W,Fr [(w.heap.size+1+1)] wq W->Pr S W vq Lq):=hI (fun W f=>pq.fr f (fun y hy hs=>by simp at hy;subst hy;exact NSB.out hs) (fun b hb hm=>by simp at hm;subst hm;exact own_ne pq.own (L3.out _ fq').r zd (qo.1 hb)) (fun _ h=>h));clear pq fq)|((with_reducible refine qi 41 (.tmp 4) ?_);refine qc rfl 41 (.tmp 4) (.tmp 73) rfl (w.heap.size+1+1) 41 qy (arE (shows { x with peer:=ps,at_:=3 }) av uv kv) rfl rfl LQ.out.r rfl zk zq ?_;intro wz Bz Fz))
   go_meet;exact⟨_,hLq,PQ.out _ Fz,Bz,(fq'.mono zs).trans Fz (fun y hy => .inl hy)⟩
  case rest=>
   obtain⟨Ll,hLl,Pl,Bz,Fz⟩:=hcut;have FW:=(L3.out _ (Fr.refl [] w3)).res Fz;refine ‹∀(a:Act) (w:World),Code.wp Tryz.prog Code.ret _ a w->_› _ _ (wp_ret ?_);try simp only [Exit.then]
   change bodyPost Tryz.prog _ _ .ret _ _;refine bodyPost_ret (qx 4 41 ⟨(w.heap.size+1+1),0,none⟩ _ 5 u5 zr zr (qw Bz) zr) zr ?_;rw [HOV.out,if_pos E1.out];unfold kU;rw [if_pos E1.out];exact⟨S,_,_,_,_,Ll,rfl,hLl,Ext.refl w S,(M.out.to_ (y:=shows { x with peer:=ps,at_:=3 }) rfl rfl rfl).fr FW,Pl,FW⟩
 ·have e1:(pf == 1)=false:=by simpa using hf1
  have E1:=hI hf1;clear hf1;generalize hg8:has pf 8=h8 at *
  generalize hg1:has pf 1=h1 at *
  generalize hg2:has pf 2=h2 at *
  have G8:=hI hg8;have G1:=hI hg1;have G2:=hI hg2;clear hg8 hg1 hg2;by_cases hf3:pf=3
  ·have e3:(pf == 3)=true:=by simpa using hf3
   have E3:=hI hf3;clear hf3;by_cases hp:ps=x.peer
   ·have hp1:(ps == x.peer)=true:=by simpa using hp
    have HP:=hI hp;clear hp;cases fs
    ·have HN3:Hid (¬ (pf=3/\ps=x.peer/\pk=a1)):=hI (fun h=>by have:=HFS.out.2 h.2.2;cases this)
     cases h8
     ·cases h1
      ·cases h2
       ·go_upto_region 32 with fail
        try dsimp only [Act.put]
        go_cut [5] (fun sl wx=>sl = .slice none 0 0/\Blk wx (w.heap.size+1+1) 41 (arE x av uv kv)/\Fr [(w.heap.size+1+1)] W2 wx);case first=>
         go_wp2_with (first
           | ((with_reducible refine qj 41 (.tmp 2) ?_);refine qf rfl 41 (.tmp 2) rfl w.heap.size 41 (arE x av uv kv) _ rfl (L2.out _ zf).s Tryz.underlying41 rfl zk ?_)|((with_reducible refine qi 41 (.tmp 4) ?_);refine qc rfl 41 (.tmp 4) (.tmp 166) rfl (w.heap.size+1+1) 41 qy (arE x av uv kv) rfl rfl (L2.out _ zf).r rfl zk zq ?_;intro wz Bz Fz))
         go_meet;exact⟨rfl,Bz,Fz⟩
        case rest=>
         obtain⟨rfl,Bz,Fz⟩:=hcut;have FW:=(L2.out _ (Fr.refl [] W2)).res Fz;refine ‹∀(a:Act) (w:World),Code.wp Tryz.prog Code.ret _ a w->_› _ _ (wp_ret ?_);try simp only [Exit.then]
         change bodyPost Tryz.prog _ _ .ret _ _;refine bodyPost_ret (qx 4 41 ⟨(w.heap.size+1+1),0,none⟩ _ 5 (.slice none 0 0) zr zr (qw Bz) zr) zr ?_;rw [HOV.out,if_neg E1.out,if_neg HN3.out,if_neg zs,if_pos (.inr (.inl rfl))];exact⟨S,_,_,_,_,[],rfl,rfl,Ext.refl w S,M.out.fr FW,Pr.nil,FW⟩
       ·go_upto_region 32 with fail
        try dsimp only [Act.put]
        go_cut [5] (fun sl wx=>sl = .slice none 0 0/\Blk wx (w.heap.size+1+1) 41 (arE x av uv kv)/\Fr [(w.heap.size+1+1)] W2 wx);case first=>
         go_wp2_with (first
           | ((with_reducible refine qj 41 (.tmp 2) ?_);refine qf rfl 41 (.tmp 2) rfl w.heap.size 41 (arE x av uv kv) _ rfl (L2.out _ zf).s Tryz.underlying41 rfl zk ?_)|((with_reducible refine qi 41 (.tmp 4) ?_);refine qc rfl 41 (.tmp 4) (.tmp 166) rfl (w.heap.size+1+1) 41 qy (arE x av uv kv) rfl rfl (L2.out _ zf).r rfl zk zq ?_;intro wz Bz Fz))
         go_meet;exact⟨rfl,Bz,Fz⟩
        case rest=>
         obtain⟨rfl,Bz,Fz⟩:=hcut;have FW:=(L2.out _ (Fr.refl [] W2)).res Fz;refine ‹∀(a:Act) (w:World),Code.wp Tryz.prog Code.ret _ a w->_› _ _ (wp_ret ?_);try simp only [Exit.then]
         change bodyPost Tryz.prog _ _ .ret _ _;refine bodyPost_ret (qx 4 41 ⟨(w.heap.size+1+1),0,none⟩ _ 5 (.slice none 0 0) zr zr (qw Bz) zr) zr ?_;rw [HOV.out,if_neg E1.out,if_neg HN3.out,if_neg zs,if_pos (.inr (.inr (fun h=>by have:=HFS.out.2 h;cases this)))];exact⟨S,_,_,_,_,[],rfl,rfl,Ext.refl w S,M.out.fr FW,Pr.nil,FW⟩
      ·go_upto_region 32 with fail
       try dsimp only [Act.put]
       go_cut [5] (fun sl wx=>sl = .slice none 0 0/\Blk wx (w.heap.size+1+1) 41 (arE x av uv kv)/\Fr [(w.heap.size+1+1)] W2 wx);case first=>
        go_wp2_with (first
          | ((with_reducible refine qj 41 (.tmp 2) ?_);refine qf rfl 41 (.tmp 2) rfl w.heap.size 41 (arE x av uv kv) _ rfl (L2.out _ zf).s Tryz.underlying41 rfl zk ?_)|((with_reducible refine qi 41 (.tmp 4) ?_);refine qc rfl 41 (.tmp 4) (.tmp 166) rfl (w.heap.size+1+1) 41 qy (arE x av uv kv) rfl rfl (L2.out _ zf).r rfl zk zq ?_;intro wz Bz Fz))
        go_meet;exact⟨rfl,Bz,Fz⟩
       case rest=>
        obtain⟨rfl,Bz,Fz⟩:=hcut;have FW:=(L2.out _ (Fr.refl [] W2)).res Fz;refine ‹∀(a:Act) (w:World),Code.wp Tryz.prog Code.ret _ a w->_› _ _ (wp_ret ?_);try simp only [Exit.then]
        change bodyPost Tryz.prog _ _ .ret _ _;refine bodyPost_ret (qx 4 41 ⟨(w.heap.size+1+1),0,none⟩ _ 5 (.slice none 0 0) zr zr (qw Bz) zr) zr ?_;rw [HOV.out,if_neg E1.out,if_neg HN3.out,if_neg zs,if_pos (.inl rfl)];exact⟨S,_,_,_,_,[],rfl,rfl,Ext.refl w S,M.out.fr FW,Pr.nil,FW⟩
     ·go_upto_region 24 with fail
      clear c1 d1 c2;try dsimp only [Act.put]
      go_cut [5] (fun sl wx=>∃ S9 a9 u9 k9 L,L.map (·.1)=rv.2/\Ext w S S9/\RE S9 wx rv.1 a9 u9 k9/\Pr S9 wx sl L/\Blk wx (w.heap.size+1+1) 41 (arE rv.1 a9 u9 k9)/\Fr [w.heap.size+1+1] W2 wx);case first=>
       go_wp2_with (first
         | ((with_reducible refine qj 41 (.tmp 2) ?_);refine qf rfl 41 (.tmp 2) rfl w.heap.size 41 (arE x av uv kv) _ rfl (L2.out _ zf).s Tryz.underlying41 rfl zk ?_)|((with_reducible refine qj 49 (.tmp 3) ?_);refine qf rfl 49 (.tmp 3) rfl (w.heap.size+1) 49 #[.int .i64 pf, .int .u32 ps, .int .u32 pk, .int .u16 pw, .slice DA pd.length dc] _ rfl (B2.out _ zf) Tryz.underlying49 rfl zk ?_)|(go_at_call 108;refine (HOP.out _ (L2.out _ zf).f).mono ?_;rintro e wq ⟨S9,a9,u9,k9,v9,Lq,rfl,hLq,x9,m9,pq,fq⟩;have fq':Fr [] W2 wq:=Fr.trans (show Fr [] W2 _ by first|exact Fr.refl _ _|assumption) fq zs;have ns9:¬ S9 (w.heap.size+1+1):=fun hs=>(x9.2 _ hs).elim (fun h=>NSB.out h) (fun h=>by have h1:=(L2.out _ (Fr.refl [] W2)).r.lt;have h2:=(show Fr [] W2 _ by first|exact Fr.refl _ _|assumption).size;omega);have x9':Ext w S S9:=kM x9 ((L2.out _ zf).f).size;have LQ:=hI (L2.out _ fq');have o2:=m9.qN;have PQ:Hid (∀ W,Fr [w.heap.size+1+1] wq W->Pr S9 W v9 Lq):=hI (fun W f=>pq.fr f (fun y hy hs=>by simp at hy;subst hy;exact ns9 hs) (fun b hb hm=>by simp at hm;subst hm;exact own_ne pq.own (L2.out _ fq').r zd (qo.1 hb)) (fun _ h=>h));have M9:=hI m9;have NS9:=hI ns9;have X9:=hI x9';clear pq fq x9 m9 ns9 x9')|((with_reducible refine qi 41 (.tmp 4) ?_);refine qc rfl 41 (.tmp 4) (.tmp 100) rfl (w.heap.size+1+1) 41 qy (arE rv.1 a9 u9 k9) rfl rfl LQ.out.r rfl zk zq ?_;intro wz Bz Fz))
       go_meet;exact⟨S9,a9,u9,k9,Lq,hLq,X9.out,M9.out.far Fz NS9.out,PQ.out _ Fz,Bz,(fq'.mono zs).trans Fz (fun y hy => .inl hy)⟩
      case rest=>
       obtain⟨S9,a9,u9,k9,Ll,hLl,X9,M9,Pl,Bz,Fz⟩:=hcut;have FW:=(L2.out _ (Fr.refl [] W2)).res Fz;refine ‹∀(a:Act) (w:World),Code.wp Tryz.prog Code.ret _ a w->_› _ _ (wp_ret ?_);try simp only [Exit.then]
       change bodyPost Tryz.prog _ _ .ret _ _;refine bodyPost_ret (qx 4 41 ⟨w.heap.size+1+1,0,none⟩ _ 5 u5 zr zr (qw Bz) zr) zr ?_;rw [HOV.out,if_neg E1.out,if_neg HN3.out,if_pos rfl];exact⟨S9,a9,u9,k9,_,Ll,rfl,hLl,X9,M9,Pl,FW⟩
    ·have HN3:Hid (pf=3/\ps=x.peer/\pk=a1):=hI ⟨E3.out,HP.out,HFS.out.1 rfl⟩
     go_upto_region 22 with fail
     clear c1 d1 c2;have dw:W2.cell? ⟨w.heap.size+1,3,none⟩=some (.int .u16 pw):=(by simpa using (B2.out _ (Fr.refl [] W2)).cell 3);try dsimp only [Act.put]
     go_cut [5] (fun sl wx=>∃ L,L.map (·.1)=[qJ yo]/\Pr S wx sl L/\Blk wx (w.heap.size+1+1) 41 (arE (shows yo) av uv kv)/\Fr [(w.heap.size+1+1)] W2 wx);case first=>
      go_wp2_with (first
        | ((with_reducible refine qj 41 (.tmp 2) ?_);refine qf rfl 41 (.tmp 2) rfl w.heap.size 41 (arE x av uv kv) _ rfl (L2.out _ zf).s Tryz.underlying41 rfl zk ?_)|(go_at_call 107;refine (HO.out _ (L2.out _ zf).f).mono ?_;rintro e wo ⟨rfl,fo⟩)|(go_at_call 83;refine (HANS.out _ (L2.out _ zf).f).mono ?_;rintro e wq ⟨vq,Lq,rfl,hLq,pq,fq⟩;have fq':Fr [] W2 wq:=Fr.trans (show Fr [] W2 _ by first|exact Fr.refl _ _|assumption) fq zs;have LQ:=hI (L2.out _ fq');have PQ:Hid (∀ W,Fr [(w.heap.size+1+1)] wq W->Pr S W vq Lq):=hI (fun W f=>pq.fr f (fun y hy hs=>by simp at hy;subst hy;exact NSB.out hs) (fun b hb hm=>by simp at hm;subst hm;exact own_ne pq.own (L2.out _ fq').r zd (qo.1 hb)) (fun _ h=>h));clear pq fq)|((with_reducible refine qi 41 (.tmp 4) ?_);refine qc rfl 41 (.tmp 4) (.tmp 92) rfl (w.heap.size+1+1) 41 qy (arE (shows yo) av uv kv) rfl rfl LQ.out.r rfl zk zq ?_;intro wz Bz Fz))
      go_meet;exact⟨_,hLq,PQ.out _ Fz,Bz,(fq'.mono zs).trans Fz (fun y hy => .inl hy)⟩
     case rest=>
      obtain⟨Ll,hLl,Pl,Bz,Fz⟩:=hcut;have FW:=(L2.out _ (Fr.refl [] W2)).res Fz;refine ‹∀(a:Act) (w:World),Code.wp Tryz.prog Code.ret _ a w->_› _ _ (wp_ret ?_);try simp only [Exit.then]
      change bodyPost Tryz.prog _ _ .ret _ _;refine bodyPost_ret (qx 4 41 ⟨(w.heap.size+1+1),0,none⟩ _ 5 u5 zr zr (qw Bz) zr) zr ?_;rw [HOV.out,if_neg E1.out,if_pos HN3.out];exact⟨S,_,_,_,_,Ll,rfl,hLl,Ext.refl w S,MO.out.fr FW,Pl,FW⟩
   ·have hp1:(ps == x.peer)=false:=by simpa using hp
    have HP:=hI hp;clear hp;have HN3:Hid (¬ (pf=3/\ps=x.peer/\pk=a1)):=hI (fun h=>HP.out h.2.1);cases h8
    ·cases h1
     ·cases h2
      ·go_upto_region 32 with fail
       try dsimp only [Act.put]
       go_cut [5] (fun sl wx=>sl = .slice none 0 0/\Blk wx (w.heap.size+1+1) 41 (arE x av uv kv)/\Fr [(w.heap.size+1+1)] W2 wx);case first=>
        go_wp2_with (first
          | ((with_reducible refine qj 41 (.tmp 2) ?_);refine qf rfl 41 (.tmp 2) rfl w.heap.size 41 (arE x av uv kv) _ rfl (L2.out _ zf).s Tryz.underlying41 rfl zk ?_)|((with_reducible refine qi 41 (.tmp 4) ?_);refine qc rfl 41 (.tmp 4) (.tmp 166) rfl (w.heap.size+1+1) 41 qy (arE x av uv kv) rfl rfl (L2.out _ zf).r rfl zk zq ?_;intro wz Bz Fz))
        go_meet;exact⟨rfl,Bz,Fz⟩
       case rest=>
        obtain⟨rfl,Bz,Fz⟩:=hcut;have FW:=(L2.out _ (Fr.refl [] W2)).res Fz;refine ‹∀(a:Act) (w:World),Code.wp Tryz.prog Code.ret _ a w->_› _ _ (wp_ret ?_);try simp only [Exit.then]
        change bodyPost Tryz.prog _ _ .ret _ _;refine bodyPost_ret (qx 4 41 ⟨(w.heap.size+1+1),0,none⟩ _ 5 (.slice none 0 0) zr zr (qw Bz) zr) zr ?_;rw [HOV.out,if_neg E1.out,if_neg HN3.out,if_neg zs,if_pos (.inr (.inl rfl))];exact⟨S,_,_,_,_,[],rfl,rfl,Ext.refl w S,M.out.fr FW,Pr.nil,FW⟩
      ·cases fs
       ·go_upto_region 32 with fail
        try dsimp only [Act.put]
        go_cut [5] (fun sl wx=>sl = .slice none 0 0/\Blk wx (w.heap.size+1+1) 41 (arE x av uv kv)/\Fr [(w.heap.size+1+1)] W2 wx);case first=>
         go_wp2_with (first
           | ((with_reducible refine qj 41 (.tmp 2) ?_);refine qf rfl 41 (.tmp 2) rfl w.heap.size 41 (arE x av uv kv) _ rfl (L2.out _ zf).s Tryz.underlying41 rfl zk ?_)|((with_reducible refine qi 41 (.tmp 4) ?_);refine qc rfl 41 (.tmp 4) (.tmp 166) rfl (w.heap.size+1+1) 41 qy (arE x av uv kv) rfl rfl (L2.out _ zf).r rfl zk zq ?_;intro wz Bz Fz))
         go_meet;exact⟨rfl,Bz,Fz⟩
        case rest=>
         obtain⟨rfl,Bz,Fz⟩:=hcut;have FW:=(L2.out _ (Fr.refl [] W2)).res Fz;refine ‹∀(a:Act) (w:World),Code.wp Tryz.prog Code.ret _ a w->_› _ _ (wp_ret ?_);try simp only [Exit.then]
         change bodyPost Tryz.prog _ _ .ret _ _;refine bodyPost_ret (qx 4 41 ⟨(w.heap.size+1+1),0,none⟩ _ 5 (.slice none 0 0) zr zr (qw Bz) zr) zr ?_;rw [HOV.out,if_neg E1.out,if_neg HN3.out,if_neg zs,if_pos (.inr (.inr (fun h=>by have:=HFS.out.2 h;cases this)))];exact⟨S,_,_,_,_,[],rfl,rfl,Ext.refl w S,M.out.fr FW,Pr.nil,FW⟩
       ·go_upto_region 26 with fail
        clear c1 d1 c2;have HN4:Hid (¬ (false=true\/true=false\/pk≠a1)):=hI (by rintro (h|h|h);cases h;cases h;exact h (HFS.out.1 rfl));go_cut [5] (fun sl wx=>∃ S9 a9 u9 k9 L,L.map (·.1)=rw_.2/\Ext w S S9/\RE S9 wx rw_.1 a9 u9 k9/\Pr S9 wx sl L/\Blk wx (w.heap.size+1+1) 41 (arE rw_.1 a9 u9 k9)/\Fr [w.heap.size+1+1] W2 wx);case first=>
         refine wp_region_held_drew (S:=fun W=>Blk W w.heap.size 41 (arE x av uv kv)/\Blk W (w.heap.size+1) 49 #[.int .i64 pf, .int .u32 ps, .int .u32 pk, .int .u16 pw, .slice DA pd.length dc]) zk ⟨(L2.out _ (Fr.refl [] W2).drew).s,B2.out _ (Fr.refl [] W2).drew⟩ (fun hH=>?_);have fd:Fr [] W2 W2.drew:=(Fr.refl [] W2).drew;generalize W2.drew=wd at *
         refine Held.take 0 rfl zk zk zk (fun _ _ _ h=>h) (Held.yc rfl 41 (.tmp 2) rfl w.heap.size 41 (arE x av uv kv) _ rfl (fun _ hs=>hs.1) Tryz.underlying41 rfl zk) hH ?_;try simp only [Act.put,zqA,zqB,zqC]
         refine Held.take 1 (v := .pointer (some ⟨w.heap.size+1,3,none⟩)) rfl zk zk zk (fun _ _ _ h=>h) (Or.inl ⟨rfl,fun (W:World) hs=>by go_simp⟩) hH ?_;try simp only [Act.put,zqA,zqB,zqC]
         refine Held.take 2 (v := .int .u16 pw) rfl zk zk zk (fun _ _ _ h=>h) (Or.inl ⟨rfl,fun (W:World) hs=>by have d3:World.cell? W ⟨w.heap.size+1,3,none⟩=some (.int .u16 pw):=(by simpa using hs.2.cell 3);go_simp⟩) hH ?_;try simp only [Act.put,zqA,zqB,zqC]
         refine Held.take 4 rfl zk zk zk (fun _ _ _ h=>h) (Held.yc rfl 49 (.tmp 3) rfl (w.heap.size+1) 49 #[.int .i64 pf, .int .u32 ps, .int .u32 pk, .int .u16 pw, .slice DA pd.length dc] _ rfl (fun _ hs=>hs.2) Tryz.underlying49 rfl zk) hH ?_;try simp only [Act.put,zqA,zqB,zqC]
         refine Held.one (i:=3) zk rfl (fun K hK=>?_);go_simp;go_at_call 107;refine (HO.out _ (L2.out _ fd).f).mono ?_;rintro e wo ⟨rfl,fo⟩;have fo':Fr [] W2 wo:=fd.trans fo zs;clear fo fd;try go_wp2_with fail
         refine hK.out _ _ ⟨(L2.out _ fo').s,B2.out _ fo'⟩ (fun hH2=>?_);clear hK K;try simp only [Act.put,zqA,zqB,zqC]
         clear hH;refine Held.one (i:=5) zk rfl (fun K hK=>?_);go_simp
         (go_at_call 108;refine (HOP2.out _ (L2.out _ fo').f).mono ?_;rintro e wq ⟨S9,a9,u9,k9,v9,Lq,rfl,hLq,x9,m9,pq,fq⟩;have fq':Fr [] W2 wq:=Fr.trans fo' fq zs;have ns9:¬ S9 (w.heap.size+1+1):=fun hs=>(x9.2 _ hs).elim (fun h=>NSB.out h) (fun h=>by have h1:=(L2.out _ (Fr.refl [] W2)).r.lt;have h2:=fo'.size;omega);have x9':Ext w S S9:=kM x9 ((L2.out _ fo').f).size;have LQ:=hI (L2.out _ fq');have o2:=m9.qN;have PQ:Hid (∀ W,Fr [w.heap.size+1+1] wq W->Pr S9 W v9 Lq):=hI (fun W f=>pq.fr f (fun y hy hs=>by simp at hy;subst hy;exact ns9 hs) (fun b hb hm=>by simp at hm;subst hm;exact own_ne pq.own (L2.out _ fq').r zd (qo.1 hb)) (fun _ h=>h));have M9:=hI m9;have NS9:=hI ns9;have X9:=hI x9';clear pq fq x9 m9 ns9 x9')
         try go_wp2_with fail
         refine hK.out _ _ ⟨(L2.out _ fq').s,B2.out _ fq'⟩ (fun hH3=>?_);clear hK K;try simp only [Act.put,zqA,zqB,zqC]
         clear hH2 fo';refine Held.take 6 (v:=agE rw_.1 a9 u9 k9) rfl zk zk zk (fun _ _ _ h=>h) (Or.inl ⟨rfl,fun (W:World) hs=>by go_simp⟩) hH3 ?_;try simp only [Act.put,zqA,zqB,zqC]
         refine Held.take 7 (v:=v9) rfl zk zk zk (fun _ _ _ h=>h) (Or.inl ⟨rfl,fun (W:World) hs=>by go_simp⟩) hH3 ?_;try simp only [Act.put,zqA,zqB,zqC]
         refine Held.one (i:=8) zk rfl (fun K hK=>?_);refine Held.vY rfl 41 (.tmp 4) (.tmp 120) rfl (w.heap.size+1+1) 41 qy (arE rw_.1 a9 u9 k9) rfl rfl LQ.out.r rfl zk zq ?_;intro wz Bz Fz;refine hK.out _ _ ⟨(L2.out _ fq').s.fr Fz zv,(B2.out _ fq').fr Fz zs⟩ (fun hH4=>?_);clear hK K;try simp only [Act.put,zqA,zqB,zqC]
         refine Held.take 9 (v:=v9) rfl zk zk zk (fun _ _ _ h=>h) (Or.inl ⟨rfl,fun (W:World) hs=>by go_simp⟩) hH4 ?_;try simp only [Act.put,zqA,zqB,zqC]
         refine Held.done zk ?_;go_wp2_with fail
         go_meet;exact⟨S9,a9,u9,k9,Lq,hLq,X9.out,M9.out.far Fz NS9.out,PQ.out _ Fz,Bz,(fq'.mono zs).trans Fz (fun y hy => .inl hy)⟩
        case rest=>
         obtain⟨S9,a9,u9,k9,Ll,hLl,X9,M9,Pl,Bz,Fz⟩:=hcut;have FW:=(L2.out _ (Fr.refl [] W2)).res Fz;refine ‹∀(a:Act) (w:World),Code.wp Tryz.prog Code.ret _ a w->_› _ _ (wp_ret ?_);try simp only [Exit.then]
         change bodyPost Tryz.prog _ _ .ret _ _;refine bodyPost_ret (qx 4 41 ⟨w.heap.size+1+1,0,none⟩ _ 5 u5 zr zr (qw Bz) zr) zr ?_;rw [HOV.out,if_neg E1.out,if_neg HN3.out,if_neg zs,if_neg HN4.out];exact⟨S9,a9,u9,k9,_,Ll,rfl,hLl,X9,M9,Pl,FW⟩
     ·go_upto_region 32 with fail
      try dsimp only [Act.put]
      go_cut [5] (fun sl wx=>sl = .slice none 0 0/\Blk wx (w.heap.size+1+1) 41 (arE x av uv kv)/\Fr [(w.heap.size+1+1)] W2 wx);case first=>
       go_wp2_with (first
         | ((with_reducible refine qj 41 (.tmp 2) ?_);refine qf rfl 41 (.tmp 2) rfl w.heap.size 41 (arE x av uv kv) _ rfl (L2.out _ zf).s Tryz.underlying41 rfl zk ?_)|((with_reducible refine qi 41 (.tmp 4) ?_);refine qc rfl 41 (.tmp 4) (.tmp 166) rfl (w.heap.size+1+1) 41 qy (arE x av uv kv) rfl rfl (L2.out _ zf).r rfl zk zq ?_;intro wz Bz Fz))
       go_meet;exact⟨rfl,Bz,Fz⟩
      case rest=>
       obtain⟨rfl,Bz,Fz⟩:=hcut;have FW:=(L2.out _ (Fr.refl [] W2)).res Fz;refine ‹∀(a:Act) (w:World),Code.wp Tryz.prog Code.ret _ a w->_› _ _ (wp_ret ?_);try simp only [Exit.then]
       change bodyPost Tryz.prog _ _ .ret _ _;refine bodyPost_ret (qx 4 41 ⟨(w.heap.size+1+1),0,none⟩ _ 5 (.slice none 0 0) zr zr (qw Bz) zr) zr ?_;rw [HOV.out,if_neg E1.out,if_neg HN3.out,if_neg zs,if_pos (.inl rfl)];exact⟨S,_,_,_,_,[],rfl,rfl,Ext.refl w S,M.out.fr FW,Pr.nil,FW⟩
    ·go_upto_region 24 with fail
     clear c1 d1 c2;try dsimp only [Act.put]
     go_cut [5] (fun sl wx=>∃ S9 a9 u9 k9 L,L.map (·.1)=rv.2/\Ext w S S9/\RE S9 wx rv.1 a9 u9 k9/\Pr S9 wx sl L/\Blk wx (w.heap.size+1+1) 41 (arE rv.1 a9 u9 k9)/\Fr [w.heap.size+1+1] W2 wx);case first=>
      go_wp2_with (first
        | ((with_reducible refine qj 41 (.tmp 2) ?_);refine qf rfl 41 (.tmp 2) rfl w.heap.size 41 (arE x av uv kv) _ rfl (L2.out _ zf).s Tryz.underlying41 rfl zk ?_)|((with_reducible refine qj 49 (.tmp 3) ?_);refine qf rfl 49 (.tmp 3) rfl (w.heap.size+1) 49 #[.int .i64 pf, .int .u32 ps, .int .u32 pk, .int .u16 pw, .slice DA pd.length dc] _ rfl (B2.out _ zf) Tryz.underlying49 rfl zk ?_)|(go_at_call 108;refine (HOP.out _ (L2.out _ zf).f).mono ?_;rintro e wq ⟨S9,a9,u9,k9,v9,Lq,rfl,hLq,x9,m9,pq,fq⟩;have fq':Fr [] W2 wq:=Fr.trans (show Fr [] W2 _ by first|exact Fr.refl _ _|assumption) fq zs;have ns9:¬ S9 (w.heap.size+1+1):=fun hs=>(x9.2 _ hs).elim (fun h=>NSB.out h) (fun h=>by have h1:=(L2.out _ (Fr.refl [] W2)).r.lt;have h2:=(show Fr [] W2 _ by first|exact Fr.refl _ _|assumption).size;omega);have x9':Ext w S S9:=kM x9 ((L2.out _ zf).f).size;have LQ:=hI (L2.out _ fq');have o2:=m9.qN;have PQ:Hid (∀ W,Fr [w.heap.size+1+1] wq W->Pr S9 W v9 Lq):=hI (fun W f=>pq.fr f (fun y hy hs=>by simp at hy;subst hy;exact ns9 hs) (fun b hb hm=>by simp at hm;subst hm;exact own_ne pq.own (L2.out _ fq').r zd (qo.1 hb)) (fun _ h=>h));have M9:=hI m9;have NS9:=hI ns9;have X9:=hI x9';clear pq fq x9 m9 ns9 x9')|((with_reducible refine qi 41 (.tmp 4) ?_);refine qc rfl 41 (.tmp 4) (.tmp 100) rfl (w.heap.size+1+1) 41 qy (arE rv.1 a9 u9 k9) rfl rfl LQ.out.r rfl zk zq ?_;intro wz Bz Fz))
      go_meet;exact⟨S9,a9,u9,k9,Lq,hLq,X9.out,M9.out.far Fz NS9.out,PQ.out _ Fz,Bz,(fq'.mono zs).trans Fz (fun y hy => .inl hy)⟩
     case rest=>
      obtain⟨S9,a9,u9,k9,Ll,hLl,X9,M9,Pl,Bz,Fz⟩:=hcut;have FW:=(L2.out _ (Fr.refl [] W2)).res Fz;refine ‹∀(a:Act) (w:World),Code.wp Tryz.prog Code.ret _ a w->_› _ _ (wp_ret ?_);try simp only [Exit.then]
      change bodyPost Tryz.prog _ _ .ret _ _;refine bodyPost_ret (qx 4 41 ⟨w.heap.size+1+1,0,none⟩ _ 5 u5 zr zr (qw Bz) zr) zr ?_;rw [HOV.out,if_neg E1.out,if_neg HN3.out,if_pos rfl];exact⟨S9,a9,u9,k9,_,Ll,rfl,hLl,X9,M9,Pl,FW⟩
  ·have e3:(pf == 3)=false:=by simpa using hf3
   have E3:=hI hf3;clear hf3;have HN3:Hid (¬ (pf=3/\ps=x.peer/\pk=a1)):=hI (fun h=>E3.out h.1);cases h8
   ·cases h1
    ·cases h2
     ·go_upto_region 32 with fail
      try dsimp only [Act.put]
      go_cut [5] (fun sl wx=>sl = .slice none 0 0/\Blk wx (w.heap.size+1+1) 41 (arE x av uv kv)/\Fr [(w.heap.size+1+1)] W2 wx);case first=>
       go_wp2_with (first
         | ((with_reducible refine qj 41 (.tmp 2) ?_);refine qf rfl 41 (.tmp 2) rfl w.heap.size 41 (arE x av uv kv) _ rfl (L2.out _ zf).s Tryz.underlying41 rfl zk ?_)|((with_reducible refine qi 41 (.tmp 4) ?_);refine qc rfl 41 (.tmp 4) (.tmp 166) rfl (w.heap.size+1+1) 41 qy (arE x av uv kv) rfl rfl (L2.out _ zf).r rfl zk zq ?_;intro wz Bz Fz))
       go_meet;exact⟨rfl,Bz,Fz⟩
      case rest=>
       obtain⟨rfl,Bz,Fz⟩:=hcut;have FW:=(L2.out _ (Fr.refl [] W2)).res Fz;refine ‹∀(a:Act) (w:World),Code.wp Tryz.prog Code.ret _ a w->_› _ _ (wp_ret ?_);try simp only [Exit.then]
       change bodyPost Tryz.prog _ _ .ret _ _;refine bodyPost_ret (qx 4 41 ⟨(w.heap.size+1+1),0,none⟩ _ 5 (.slice none 0 0) zr zr (qw Bz) zr) zr ?_;rw [HOV.out,if_neg E1.out,if_neg HN3.out,if_neg zs,if_pos (.inr (.inl rfl))];exact⟨S,_,_,_,_,[],rfl,rfl,Ext.refl w S,M.out.fr FW,Pr.nil,FW⟩
     ·cases fs
      ·go_upto_region 32 with fail
       try dsimp only [Act.put]
       go_cut [5] (fun sl wx=>sl = .slice none 0 0/\Blk wx (w.heap.size+1+1) 41 (arE x av uv kv)/\Fr [(w.heap.size+1+1)] W2 wx);case first=>
        go_wp2_with (first
          | ((with_reducible refine qj 41 (.tmp 2) ?_);refine qf rfl 41 (.tmp 2) rfl w.heap.size 41 (arE x av uv kv) _ rfl (L2.out _ zf).s Tryz.underlying41 rfl zk ?_)|((with_reducible refine qi 41 (.tmp 4) ?_);refine qc rfl 41 (.tmp 4) (.tmp 166) rfl (w.heap.size+1+1) 41 qy (arE x av uv kv) rfl rfl (L2.out _ zf).r rfl zk zq ?_;intro wz Bz Fz))
        go_meet;exact⟨rfl,Bz,Fz⟩
       case rest=>
        obtain⟨rfl,Bz,Fz⟩:=hcut;have FW:=(L2.out _ (Fr.refl [] W2)).res Fz;refine ‹∀(a:Act) (w:World),Code.wp Tryz.prog Code.ret _ a w->_› _ _ (wp_ret ?_);try simp only [Exit.then]
        change bodyPost Tryz.prog _ _ .ret _ _;refine bodyPost_ret (qx 4 41 ⟨(w.heap.size+1+1),0,none⟩ _ 5 (.slice none 0 0) zr zr (qw Bz) zr) zr ?_;rw [HOV.out,if_neg E1.out,if_neg HN3.out,if_neg zs,if_pos (.inr (.inr (fun h=>by have:=HFS.out.2 h;cases this)))];exact⟨S,_,_,_,_,[],rfl,rfl,Ext.refl w S,M.out.fr FW,Pr.nil,FW⟩
      ·go_upto_region 26 with fail
       clear c1 d1 c2;have HN4:Hid (¬ (false=true\/true=false\/pk≠a1)):=hI (by rintro (h|h|h);cases h;cases h;exact h (HFS.out.1 rfl));go_cut [5] (fun sl wx=>∃ S9 a9 u9 k9 L,L.map (·.1)=rw_.2/\Ext w S S9/\RE S9 wx rw_.1 a9 u9 k9/\Pr S9 wx sl L/\Blk wx (w.heap.size+1+1) 41 (arE rw_.1 a9 u9 k9)/\Fr [w.heap.size+1+1] W2 wx);case first=>
        refine wp_region_held_drew (S:=fun W=>Blk W w.heap.size 41 (arE x av uv kv)/\Blk W (w.heap.size+1) 49 #[.int .i64 pf, .int .u32 ps, .int .u32 pk, .int .u16 pw, .slice DA pd.length dc]) zk ⟨(L2.out _ (Fr.refl [] W2).drew).s,B2.out _ (Fr.refl [] W2).drew⟩ (fun hH=>?_);have fd:Fr [] W2 W2.drew:=(Fr.refl [] W2).drew;generalize W2.drew=wd at *
        refine Held.take 0 rfl zk zk zk (fun _ _ _ h=>h) (Held.yc rfl 41 (.tmp 2) rfl w.heap.size 41 (arE x av uv kv) _ rfl (fun _ hs=>hs.1) Tryz.underlying41 rfl zk) hH ?_;try simp only [Act.put,zqA,zqB,zqC]
        refine Held.take 1 (v := .pointer (some ⟨w.heap.size+1,3,none⟩)) rfl zk zk zk (fun _ _ _ h=>h) (Or.inl ⟨rfl,fun (W:World) hs=>by go_simp⟩) hH ?_;try simp only [Act.put,zqA,zqB,zqC]
        refine Held.take 2 (v := .int .u16 pw) rfl zk zk zk (fun _ _ _ h=>h) (Or.inl ⟨rfl,fun (W:World) hs=>by have d3:World.cell? W ⟨w.heap.size+1,3,none⟩=some (.int .u16 pw):=(by simpa using hs.2.cell 3);go_simp⟩) hH ?_;try simp only [Act.put,zqA,zqB,zqC]
        refine Held.take 4 rfl zk zk zk (fun _ _ _ h=>h) (Held.yc rfl 49 (.tmp 3) rfl (w.heap.size+1) 49 #[.int .i64 pf, .int .u32 ps, .int .u32 pk, .int .u16 pw, .slice DA pd.length dc] _ rfl (fun _ hs=>hs.2) Tryz.underlying49 rfl zk) hH ?_;try simp only [Act.put,zqA,zqB,zqC]
        refine Held.one (i:=3) zk rfl (fun K hK=>?_);go_simp;go_at_call 107;refine (HO.out _ (L2.out _ fd).f).mono ?_;rintro e wo ⟨rfl,fo⟩;have fo':Fr [] W2 wo:=fd.trans fo zs;clear fo fd;try go_wp2_with fail
        refine hK.out _ _ ⟨(L2.out _ fo').s,B2.out _ fo'⟩ (fun hH2=>?_);clear hK K;try simp only [Act.put,zqA,zqB,zqC]
        clear hH;refine Held.one (i:=5) zk rfl (fun K hK=>?_);go_simp
        (go_at_call 108;refine (HOP2.out _ (L2.out _ fo').f).mono ?_;rintro e wq ⟨S9,a9,u9,k9,v9,Lq,rfl,hLq,x9,m9,pq,fq⟩;have fq':Fr [] W2 wq:=Fr.trans fo' fq zs;have ns9:¬ S9 (w.heap.size+1+1):=fun hs=>(x9.2 _ hs).elim (fun h=>NSB.out h) (fun h=>by have h1:=(L2.out _ (Fr.refl [] W2)).r.lt;have h2:=fo'.size;omega);have x9':Ext w S S9:=kM x9 ((L2.out _ fo').f).size;have LQ:=hI (L2.out _ fq');have o2:=m9.qN;have PQ:Hid (∀ W,Fr [w.heap.size+1+1] wq W->Pr S9 W v9 Lq):=hI (fun W f=>pq.fr f (fun y hy hs=>by simp at hy;subst hy;exact ns9 hs) (fun b hb hm=>by simp at hm;subst hm;exact own_ne pq.own (L2.out _ fq').r zd (qo.1 hb)) (fun _ h=>h));have M9:=hI m9;have NS9:=hI ns9;have X9:=hI x9';clear pq fq x9 m9 ns9 x9')
        try go_wp2_with fail
        refine hK.out _ _ ⟨(L2.out _ fq').s,B2.out _ fq'⟩ (fun hH3=>?_);clear hK K;try simp only [Act.put,zqA,zqB,zqC]
        clear hH2 fo';refine Held.take 6 (v:=agE rw_.1 a9 u9 k9) rfl zk zk zk (fun _ _ _ h=>h) (Or.inl ⟨rfl,fun (W:World) hs=>by go_simp⟩) hH3 ?_;try simp only [Act.put,zqA,zqB,zqC]
        refine Held.take 7 (v:=v9) rfl zk zk zk (fun _ _ _ h=>h) (Or.inl ⟨rfl,fun (W:World) hs=>by go_simp⟩) hH3 ?_;try simp only [Act.put,zqA,zqB,zqC]
        refine Held.one (i:=8) zk rfl (fun K hK=>?_);refine Held.vY rfl 41 (.tmp 4) (.tmp 120) rfl (w.heap.size+1+1) 41 qy (arE rw_.1 a9 u9 k9) rfl rfl LQ.out.r rfl zk zq ?_;intro wz Bz Fz;refine hK.out _ _ ⟨(L2.out _ fq').s.fr Fz zv,(B2.out _ fq').fr Fz zs⟩ (fun hH4=>?_);clear hK K;try simp only [Act.put,zqA,zqB,zqC]
        refine Held.take 9 (v:=v9) rfl zk zk zk (fun _ _ _ h=>h) (Or.inl ⟨rfl,fun (W:World) hs=>by go_simp⟩) hH4 ?_;try simp only [Act.put,zqA,zqB,zqC]
        refine Held.done zk ?_;go_wp2_with fail
        go_meet;exact⟨S9,a9,u9,k9,Lq,hLq,X9.out,M9.out.far Fz NS9.out,PQ.out _ Fz,Bz,(fq'.mono zs).trans Fz (fun y hy => .inl hy)⟩
       case rest=>
        obtain⟨S9,a9,u9,k9,Ll,hLl,X9,M9,Pl,Bz,Fz⟩:=hcut;have FW:=(L2.out _ (Fr.refl [] W2)).res Fz;refine ‹∀(a:Act) (w:World),Code.wp Tryz.prog Code.ret _ a w->_› _ _ (wp_ret ?_);try simp only [Exit.then]
        change bodyPost Tryz.prog _ _ .ret _ _;refine bodyPost_ret (qx 4 41 ⟨w.heap.size+1+1,0,none⟩ _ 5 u5 zr zr (qw Bz) zr) zr ?_;rw [HOV.out,if_neg E1.out,if_neg HN3.out,if_neg zs,if_neg HN4.out];exact⟨S9,a9,u9,k9,_,Ll,rfl,hLl,X9,M9,Pl,FW⟩
    ·go_upto_region 32 with fail
     try dsimp only [Act.put]
     go_cut [5] (fun sl wx=>sl = .slice none 0 0/\Blk wx (w.heap.size+1+1) 41 (arE x av uv kv)/\Fr [(w.heap.size+1+1)] W2 wx);case first=>
      go_wp2_with (first
        | ((with_reducible refine qj 41 (.tmp 2) ?_);refine qf rfl 41 (.tmp 2) rfl w.heap.size 41 (arE x av uv kv) _ rfl (L2.out _ zf).s Tryz.underlying41 rfl zk ?_)|((with_reducible refine qi 41 (.tmp 4) ?_);refine qc rfl 41 (.tmp 4) (.tmp 166) rfl (w.heap.size+1+1) 41 qy (arE x av uv kv) rfl rfl (L2.out _ zf).r rfl zk zq ?_;intro wz Bz Fz))
      go_meet;exact⟨rfl,Bz,Fz⟩
     case rest=>
      obtain⟨rfl,Bz,Fz⟩:=hcut;have FW:=(L2.out _ (Fr.refl [] W2)).res Fz;refine ‹∀(a:Act) (w:World),Code.wp Tryz.prog Code.ret _ a w->_› _ _ (wp_ret ?_);try simp only [Exit.then]
      change bodyPost Tryz.prog _ _ .ret _ _;refine bodyPost_ret (qx 4 41 ⟨(w.heap.size+1+1),0,none⟩ _ 5 (.slice none 0 0) zr zr (qw Bz) zr) zr ?_;rw [HOV.out,if_neg E1.out,if_neg HN3.out,if_neg zs,if_pos (.inl rfl)];exact⟨S,_,_,_,_,[],rfl,rfl,Ext.refl w S,M.out.fr FW,Pr.nil,FW⟩
   ·go_upto_region 24 with fail
    clear c1 d1 c2;try dsimp only [Act.put]
    go_cut [5] (fun sl wx=>∃ S9 a9 u9 k9 L,L.map (·.1)=rv.2/\Ext w S S9/\RE S9 wx rv.1 a9 u9 k9/\Pr S9 wx sl L/\Blk wx (w.heap.size+1+1) 41 (arE rv.1 a9 u9 k9)/\Fr [w.heap.size+1+1] W2 wx);case first=>
     go_wp2_with (first
       | ((with_reducible refine qj 41 (.tmp 2) ?_);refine qf rfl 41 (.tmp 2) rfl w.heap.size 41 (arE x av uv kv) _ rfl (L2.out _ zf).s Tryz.underlying41 rfl zk ?_)|((with_reducible refine qj 49 (.tmp 3) ?_);refine qf rfl 49 (.tmp 3) rfl (w.heap.size+1) 49 #[.int .i64 pf, .int .u32 ps, .int .u32 pk, .int .u16 pw, .slice DA pd.length dc] _ rfl (B2.out _ zf) Tryz.underlying49 rfl zk ?_)|(go_at_call 108;refine (HOP.out _ (L2.out _ zf).f).mono ?_;rintro e wq ⟨S9,a9,u9,k9,v9,Lq,rfl,hLq,x9,m9,pq,fq⟩;have fq':Fr [] W2 wq:=Fr.trans (show Fr [] W2 _ by first|exact Fr.refl _ _|assumption) fq zs;have ns9:¬ S9 (w.heap.size+1+1):=fun hs=>(x9.2 _ hs).elim (fun h=>NSB.out h) (fun h=>by have h1:=(L2.out _ (Fr.refl [] W2)).r.lt;have h2:=(show Fr [] W2 _ by first|exact Fr.refl _ _|assumption).size;omega);have x9':Ext w S S9:=kM x9 ((L2.out _ zf).f).size;have LQ:=hI (L2.out _ fq');have o2:=m9.qN;have PQ:Hid (∀ W,Fr [w.heap.size+1+1] wq W->Pr S9 W v9 Lq):=hI (fun W f=>pq.fr f (fun y hy hs=>by simp at hy;subst hy;exact ns9 hs) (fun b hb hm=>by simp at hm;subst hm;exact own_ne pq.own (L2.out _ fq').r zd (qo.1 hb)) (fun _ h=>h));have M9:=hI m9;have NS9:=hI ns9;have X9:=hI x9';clear pq fq x9 m9 ns9 x9')|((with_reducible refine qi 41 (.tmp 4) ?_);refine qc rfl 41 (.tmp 4) (.tmp 100) rfl (w.heap.size+1+1) 41 qy (arE rv.1 a9 u9 k9) rfl rfl LQ.out.r rfl zk zq ?_;intro wz Bz Fz))
     go_meet;exact⟨S9,a9,u9,k9,Lq,hLq,X9.out,M9.out.far Fz NS9.out,PQ.out _ Fz,Bz,(fq'.mono zs).trans Fz (fun y hy => .inl hy)⟩
    case rest=>
     obtain⟨S9,a9,u9,k9,Ll,hLl,X9,M9,Pl,Bz,Fz⟩:=hcut;have FW:=(L2.out _ (Fr.refl [] W2)).res Fz;refine ‹∀(a:Act) (w:World),Code.wp Tryz.prog Code.ret _ a w->_› _ _ (wp_ret ?_);try simp only [Exit.then]
     change bodyPost Tryz.prog _ _ .ret _ _;refine bodyPost_ret (qx 4 41 ⟨w.heap.size+1+1,0,none⟩ _ 5 u5 zr zr (qw Bz) zr) zr ?_;rw [HOV.out,if_neg E1.out,if_neg HN3.out,if_pos rfl];exact⟨S9,a9,u9,k9,_,Ll,rfl,hLl,X9,M9,Pl,FW⟩
end Go.Proofs.YtmgdbbbdhkfdmaaGreat
namespace Go.Proofs.YtmgdbbbdhkfdmaaGreat
set_option maxRecDepth 100000
open Go.RowKit
structure Kpt(x y:St):Prop where
 isn:y.isn=x.isn
 peer:y.peer=x.peer
 bk:(x.broken=true->x.at_=5)->(y.broken=true->y.at_=5)
theorem Kpt.refl(x:St):Kpt x x:=⟨rfl,rfl,fun h=>h⟩
theorem Kpt.trans{x y z:St}(h:Kpt x y)(g:Kpt y z):Kpt x z:=⟨g.isn.trans h.isn,g.peer.trans h.peer,fun b=>g.bk (h.bk b)⟩
theorem Kpt.same{x y:St}(h1:y.isn=x.isn)(h2:y.peer=x.peer)(h3:y.broken=x.broken)(h4:y.at_=x.at_):Kpt x y:=⟨h1,h2,fun h g=>by rw [h4];exact h (by rw [<- h3];exact g)⟩
theorem Kpt.done(x:St)(b:Bool):Kpt x (kS x b):=⟨rfl,rfl,fun _ _=>rfl⟩
theorem Kpt.shows(x:St):Kpt x (shows x) := .same rfl rfl rfl rfl
theorem Kpt.rests(x:St):Kpt x (qF x):=by
 unfold qF
 (repeat' split) <;> exact .same rfl rfl rfl rfl
theorem Kpt.send(x:St):Kpt x (zO x).1:=by
 rw [vP];unfold jg;dsimp only;split <;> exact .same rfl rfl rfl rfl
theorem Kpt.loop:∀(k:Nat) (x:St),Kpt x (zQ k x).1
 | 0,x => .refl x
 | k+1,x=>by
  by_cases h:0<zG x
  ·rw [xw k x h];exact (Kpt.send x).trans (Kpt.loop k _)
  ·rw [jT _ x h];exact .refl x
theorem Kpt.closes(x:St):Kpt x (zi x).1:=by
 unfold zi;split
 ·exact .same rfl rfl rfl rfl
 ·exact .refl x
theorem Kpt.last(x:St):Kpt x (zX x):=by
 unfold zX;split
 ·exact .done x _
 ·exact .refl x
theorem Kpt.sends(x:St):Kpt x (qU x).1:=by
 by_cases h:x.at_=4
 ·rw [jC x h];exact (((Kpt.loop _ x).trans (.closes _)).trans (.last _)).trans (.rests _)
 ·rw [jD x h];exact .rests x
theorem Kpt.acks(x:St)(p:Prt):Kpt x (zy x p):=by
 unfold zy qB
 (repeat' split) <;> exact .same rfl rfl rfl rfl
theorem Kpt.data(x:St)(p:Prt):Kpt x (jv x p):=by
 rw [xH];split <;> exact .same rfl rfl rfl rfl
theorem Kpt.open_(x:St)(p:Prt):Kpt x (zN x p).1:=by
 unfold zN;split
 ·split
  ·exact .done x _
  ·exact .refl x
 split
 ·exact .shows x
 split
 ·exact .refl x
 dsimp only;split
 ·split
  ·exact .acks x p
  ·exact (Kpt.acks x p).trans (.data _ p)
 ·split
  ·exact (Kpt.acks x p).trans (.shows _)
  ·exact ((Kpt.acks x p).trans (.data _ p)).trans (.shows _)
structure Kqt(p:Prt)(x y:St):Prop where
 isn:y.isn=x.isn
 peer:y.peer=x.peer\/y.peer=p.seq
 bk:(x.broken=true->x.at_=5)->x.at_≠5->(y.broken=true->y.at_=5)
theorem Kpt.q{p:Prt}{x y:St}(h:Kpt x y):Kqt p x y:=⟨h.isn, .inl h.peer,fun b _=>h.bk b⟩
theorem qia{x:St}(b:x.broken=true->x.at_=5)(h:x.at_≠5):x.broken=false:=by
 rcases Bool.eq_false_or_eq_true x.broken with g|g
 ·exact absurd (b g) h
 ·exact g
theorem Kqt.listen(x:St)(p:Prt):Kqt p x (kU x p).1:=by
 unfold kU;split
 ·refine⟨rfl, .inr rfl,fun b h g=>?_⟩
  have g':x.broken=true:=g;rw [qia b h] at g';cases g'
 ·exact (Kpt.refl x).q
theorem Kqt.opens(x:St)(p:Prt)(q r:Int)(h:q=x.peer\/q=p.seq):Kqt p x (zu { x with peer:=q } r):=⟨rfl,h,fun b h g=>by
 have g':x.broken=true:=g;rw [qia b h] at g';cases g'⟩
theorem Kqt.then_{p:Prt}{x y z:St}(h:Kqt p x y)(g:Kpt y z):Kqt p x z:=⟨g.isn.trans h.isn,by rw [g.peer];exact h.peer,fun b n=>g.bk (h.bk b n)⟩
theorem Kqt.calls(x:St)(p:Prt):Kqt p x (zH x p).1:=by
 unfold zH;split
 ·exact .listen x p
 split
 ·exact (Kpt.refl x).q
 split
 ·exact (Kqt.opens x p p.seq p.win (.inr rfl)).then_ (.shows _)
 split
 ·exact (Kpt.done x _).q
 ·exact (Kpt.refl x).q
theorem Kqt.heard(x:St)(p:Prt):Kqt p x (jl x p).1:=by
 unfold jl;split
 ·exact .listen x p
 split
 ·exact (Kqt.opens x p x.peer p.win (.inl rfl)).then_ (.shows _)
 split
 ·exact (Kpt.open_ x p).q
 split
 ·exact (Kpt.refl x).q
 ·exact (Kqt.opens x p x.peer p.win (.inl rfl)).then_ (.open_ _ p)
theorem Kpt.ended(x:St)(p:Prt):Kpt x (jm x p).1:=by
 unfold jm;split
 ·exact .refl x
 ·exact .shows x
theorem Kqt.comes(x:St)(p:Prt):Kqt p x (qV x p).1/\(x.at_=5->Kpt x (qV x p).1):=by
 unfold qV;split
 ·exact⟨.listen x p,fun h=>by omega⟩
 split
 ·exact⟨.calls x p,fun h=>by omega⟩
 split
 ·exact⟨.heard x p,fun h=>by omega⟩
 split
 ·exact⟨(Kpt.open_ x p).q,fun h=>by omega⟩
 ·exact⟨(Kpt.ended x p).q,fun _ => .ended x p⟩
theorem Kpt.again(x:St):Kpt x (zx x).1:=by
 unfold zx
 (repeat' split) <;> exact .same rfl rfl rfl rfl
structure Fine(x:St):Prop where
 ok:Ok x
 ou:OkU x
 rs:Rest x
 bk:x.broken=true->x.at_=5
theorem OkU.kpt{x y:St}(h:OkU x)(k:Kpt x y):OkU y:=h.of k.isn k.peer
theorem OkU.kqt{p:Prt}{x y:St}(h:OkU x)(k:Kqt p x y)(s0:0<=p.seq)(s1:p.seq<4294967296):OkU y:=by
 refine⟨by rw [k.isn];exact h.i0,by rw [k.isn];exact h.i1,?_,?_⟩
 ·rcases k.peer with e|e <;> rw [e]
  ·exact h.p0
  ·exact s0
 ·rcases k.peer with e|e <;> rw [e]
  ·exact h.p1
  ·exact s1
theorem qgo{x:St}(b:x.broken=true->x.at_=5)(p:Prt):(qV x p).1.broken=true->(qV x p).1.at_=5:=by
 by_cases h:x.at_=5
 ·exact ((Kqt.comes x p).2 h).bk b
 ·exact (Kqt.comes x p).1.bk b h
section
variable {x:St} (h:Fine x)
include h
theorem Fine.come(p:Prt)(s0:0<=p.seq)(s1:p.seq<4294967296):Fine (zF x p).1:=by
 refine⟨h.ok.come p,?_,qkt h.ok h.rs p,?_⟩
 ·unfold zF
  split
  ·exact h.ou
  ·exact (h.ou.kqt (Kqt.comes x p).1 s0 s1).kpt (.sends _)
 ·unfold zF
  split
  ·exact h.bk
  ·exact (Kpt.sends _).bk (qgo h.bk p)
theorem Fine.write(b:List Int)(hl:x.all.length+b.length<=1000000):Fine (zZ x b).1:=by
 have k:Kpt x (zZ x b).1:=by
  unfold zZ;split
  ·exact .refl x
  split
  ·exact .refl x
  ·exact (Kpt.same rfl rfl rfl rfl:Kpt x { x with all:=x.all++b }).trans (.sends _)
 exact⟨h.ok.write b hl,h.ou.kpt k,write_rest h.ok h.rs b hl,k.bk h.bk⟩
theorem Fine.close:Fine (jE x).1:=by
 have k:Kpt x (jE x).1:=by
  unfold jE;split
  ·exact .refl x
  ·exact (Kpt.same rfl rfl rfl rfl:Kpt x { x with closing:=true }).trans (.sends _)
 exact⟨h.ok.close,h.ou.kpt k,qht h.ok h.rs,k.bk h.bk⟩
theorem Fine.reset:Fine (jo x).1:=by
 have k:Kpt x (jo x).1:=by
  unfold jo;split
  ·exact .refl x
  split
  ·exact ((Kpt.shows x).trans (.done _ _)).trans (.rests _)
  ·exact (Kpt.done x _).trans (.rests _)
 exact⟨h.ok.reset,h.ou.kpt k,qhu h.ok h.rs,k.bk h.bk⟩
theorem Fine.read:Fine (zV x).1:=by
 have k:Kpt x (zV x).1:=by
  unfold zV;dsimp only;split <;> exact .same rfl rfl rfl rfl
 exact⟨h.ok.read,h.ou.kpt k,qku h.rs,k.bk h.bk⟩
theorem Fine.tick(hn:x.now+1<=1000000):Fine (jG x).1:=by
 obtain⟨t1,t2⟩:=Ok.tick h.ok h.rs hn;have k:Kpt x (jG x).1:=by
  unfold jG;dsimp only;split
  ·split
   ·exact ((Kpt.same rfl rfl rfl rfl:Kpt x { x with now:=x.now+1,clk:=(Rto.jB x.clk (x.now+1)).1,timed:=0 }).trans (.again _)).trans (.rests _)
   ·exact ((Kpt.same rfl rfl rfl rfl:Kpt x { x with now:=x.now+1,clk:=(Rto.jB x.clk (x.now+1)).1 }).trans (.done _ _)).trans (.rests _)
  ·exact .same rfl rfl rfl rfl
 exact⟨t1,h.ou.kpt k,t2,k.bk h.bk⟩
end
theorem Fine.new(isn:Int)(b:Bool)(i0:0<=isn)(i1:isn<4294967296):Fine (jf isn b).1:=by
 obtain⟨n1,n2⟩:=qhw isn b;have k:Kpt (jq isn (if b then 2 else 1)) (jf isn b).1:=by
  unfold jf;cases b
  ·exact .refl _
  ·exact (Kpt.shows _).trans (.rests _)
 refine⟨n1,OkU.kpt ⟨i0,i1,by show (0:Int)<=0;decide,by show (0:Int)<4294967296;decide⟩ k,n2,k.bk (fun h=>by cases h)⟩
end Go.Proofs.YtmgdbbbdhkfdmaaGreat
namespace Go.Proofs.YtmgdbbbdhkfdmaaGreat
set_option maxRecDepth 100000
open Go.RowKit Go.Deep
theorem qgp{S:Nat->Prop}{w:World}{x:St}{av uv kv:Value}(m:RE S w x av uv kv)(ok:OkS x)(h4:x.at_≠4):Calls Tryz.prog 71 #[agE x av uv kv] w (vS S w (qU x) av uv kv):=by
 have o1:=m.qN;have hR:=jD x h4;obtain⟨⟨aA,ac,rfl,_,_⟩,_,_⟩:=m.forms;have hre:=fun W (g:Fr [] w W)=>jL (m.fr g) ok.hc;rw [hR];generalize qF x=rz at *
 have l1:=Lo.start w (arE x (.slice aA x.all.length ac) uv kv);have hd:decide (x.at_=4)=false:=by simpa using h4
 have hq:(x.at_ == 4)=false:=by simpa using h4
 have L1:=hI l1;have HRE:=hI hre;clear m ok hR hre l1 h4;go_enter Tryz.func71,Tryz.ntmps71;go_upto_region 1 with fail
 generalize (w.alloc (.cells (arE x (.slice aA x.all.length ac) uv kv) 41)).alloc (.cells qy 41)=w1 at *
 have LZ:Hid (∀ W,Fr [] w1 W->Lo w W w.heap.size (w.heap.size+1) (arE x (.slice aA x.all.length ac) uv kv)):=hI (fun W f=>L1.out.grow f);have c4:w1.cell? ⟨w.heap.size,4,none⟩=some (.slice aA x.all.length ac):=L1.out.s.cell 4;have c2:w1.cell? ⟨w.heap.size,2,none⟩=some (.int .i64 x.at_):=L1.out.s.cell 2;clear L1;go_wp2_with fail
 go_loopw [4] (fun s4 wr=>s4 = .slice none 0 0/\wr=w1) (fun _ _=>0);case atStart=>exact⟨rfl,rfl⟩
 case round=>
  obtain⟨rfl,rfl⟩:=hrel;go_upto_region 19 with fail
  clear c4 c2;go_cut [3] (fun s3 wx=>s3 = .slice none 0 0/\Blk wx (w.heap.size+1) 41 (arE rz (.slice aA x.all.length ac) uv kv)/\Fr [] w wx);case first=>
   go_wp2_with (first
   | ((with_reducible refine qj 41 (.tmp 1) ?_);refine qf rfl 41 (.tmp 1) rfl w.heap.size 41 (arE x (.slice aA x.all.length ac) uv kv) _ rfl (LZ.out _ zf).s Tryz.underlying41 rfl zk ?_)|(go_at_call 27;refine (HRE.out _ (LZ.out _ (Fr.refl _ _)).f).mono ?_;rintro e w6 ⟨rfl,f6⟩)|((with_reducible refine qi 41 (.tmp 2) ?_);refine qc rfl 41 (.tmp 2) (.tmp 124) rfl (w.heap.size+1) 41 qy (arE rz (.slice aA x.all.length ac) uv kv) rfl rfl (LZ.out _ f6).r rfl zk zq ?_;intro w8 B8 F8))
   go_meet;exact⟨rfl,B8,(LZ.out _ f6).res F8⟩
  case rest=>
   obtain⟨rfl,Bz,Fz⟩:=hcut;refine ‹∀(a:Act) (w:World),Code.wp Tryz.prog Code.ret _ a w->_› _ _ (wp_ret ?_);try simp only [Exit.then]
   change bodyPost Tryz.prog _ _ .ret _ _;refine bodyPost_ret (qx 2 41 ⟨w.heap.size+1,0,none⟩ _ 3 (.slice none 0 0) zr zr (qw Bz) zr) zr ?_;exact⟨_,[],rfl,rfl,Pr.nil,Fz⟩
theorem qib{S:Nat->Prop}{w:World}{x:St}{av uv kv:Value}(m:RE S w x av uv kv)(ok:OkS x)(ou:OkU x)(bk:x.broken=true->x.at_=5):Calls Tryz.prog 71 #[agE x av uv kv] w (vS S w (qU x) av uv kv):=by
 by_cases h4:x.at_=4
 ·exact esends4 m ok ou h4 (qia bk zw)
 ·exact qgp m ok h4
theorem yU(x:St):(qU x).1.all=x.all/\(qU x).1.unread=x.unread/\(qU x).1.heap=x.heap:=by
 have hr:∀ y,(qF y).all=y.all/\(qF y).unread=y.unread/\(qF y).heap=y.heap:=fun y=>by
  unfold qF
  (repeat' split) <;> exact⟨rfl,rfl,rfl⟩
 have hl:∀ y,(zX y).all=y.all/\(zX y).unread=y.unread/\(zX y).heap=y.heap:=fun y=>by
  unfold zX;split <;> exact⟨rfl,rfl,rfl⟩
 have hc:∀ y,(zi y).1.all=y.all/\(zi y).1.unread=y.unread/\(zi y).1.heap=y.heap:=fun y=>by
  unfold zi;split <;> exact⟨rfl,rfl,rfl⟩
 have hs:∀ y,(zO y).1.all=y.all/\(zO y).1.unread=y.unread/\(zO y).1.heap=y.heap:=fun y=>by
  rw [vP];unfold jg;dsimp only;split <;> exact⟨rfl,rfl,rfl⟩
 have hk:∀(k:Nat) (y:St),(zQ k y).1.all=y.all/\(zQ k y).1.unread=y.unread/\(zQ k y).1.heap=y.heap:=fun k=>by
  induction k with
  | zero=>exact fun y=>⟨rfl,rfl,rfl⟩
  | succ k ih=>
   intro y;by_cases h:0<zG y
   ·rw [xw k y h]
    exact⟨(ih _).1.trans (hs y).1,(ih _).2.1.trans (hs y).2.1,(ih _).2.2.trans (hs y).2.2⟩
   ·rw [jT _ y h]
    exact⟨rfl,rfl,rfl⟩
 by_cases h:x.at_=4
 ·rw [jC x h]
  exact⟨(hr _).1.trans ((hl _).1.trans ((hc _).1.trans (hk _ x).1)),(hr _).2.1.trans ((hl _).2.1.trans ((hc _).2.1.trans (hk _ x).2.1)),(hr _).2.2.trans ((hl _).2.2.trans ((hc _).2.2.trans (hk _ x).2.2))⟩
 ·rw [jD x h]
  exact hr x
theorem ecomes{S:Nat->Prop}{w:World}{x:St}{av uv kv:Value}(m:RE S w x av uv kv)(ok:Ok x)(ou:OkU x)(p:Prt)(f0:0<=p.flags)(f1:p.flags<=15)(s0:0<=p.seq)(s1:p.seq<4294967296)(k0:0<=p.ack)(k1:p.ack<4294967296)(r0:0<=p.win)(r1:p.win<65536)(hdl:p.d.length<=100)
  (DA:Option Addr) (dc:Nat) (T:Nat->Prop) (hd:Byt T w (.slice DA p.d.length dc) p.d) (hT:∀ b,T b->b<w.heap.size):Calls Tryz.prog 70 #[agE x av uv kv,agP p (.slice DA p.d.length dc)] w (EL S w (qV x p)):=by
 have a0:=ok.at0;have a5:=ok.at5;by_cases h1:x.at_=1
 ·exact ecomes1 m ok ou p f0 f1 s0 s1 k0 k1 r0 r1 hdl DA dc T hd hT h1
 by_cases h2:x.at_=2
 ·exact ecomes2 m ok ou p f0 f1 s0 s1 k0 k1 r0 r1 hdl DA dc T hd hT h2
 by_cases h3:x.at_=3
 ·exact ecomes3 m ok ou p f0 f1 s0 s1 k0 k1 r0 r1 hdl DA dc T hd hT h3
 by_cases h4:x.at_=4
 ·exact ecomes4 m ok ou p f0 f1 s0 s1 k0 k1 r0 r1 hdl DA dc T hd hT h4
 ·exact ecomes5 m ok ou p f0 f1 s0 s1 k0 k1 r0 r1 hdl DA dc T hd hT zw
end Go.Proofs.YtmgdbbbdhkfdmaaGreat
