import Derived.Test.YtmgdbbbdhkfdmaaGreatYS19
import Derived.Deep.DeepCutAuto
import Derived.Test.YtmgdbbbdhkfdmaaGreatYS16
import Derived.Test.YtmgdbbbdhkfdmaaGreatYS12
set_option linter.unusedSimpArgs false
set_option linter.unusedVariables false
namespace Go.Proofs.YtmgdbbbdhkfdmaaGreat
set_option maxRecDepth 100000
open Go.RowKit Go.Deep
set_option maxHeartbeats 16000000 in
theorem ecomes4{S:Nat→Prop}{w:World}{x:St}{av uv kv:Value}(m:RE S w x av uv kv)(ok:Ok x)(ou:OkU x)(p:Prt)(f0:0≤p.flags)(f1:p.flags≤15)(s0:0≤p.seq)(s1:p.seq<4294967296)(k0:0≤p.ack)(k1:p.ack<4294967296)(r0:0≤p.win)(r1:p.win<65536)(hdl:p.d.length≤100)
  (DA:Option Addr) (dc:Nat) (T:Nat→Prop) (hd:Byt T w (.slice DA p.d.length dc) p.d) (hT:∀ b,T b→b<w.heap.size) (hat:x.at_=4):Calls Tryz.prog 70 #[agE x av uv kv,agP p (.slice DA p.d.length dc)] w (EL S w (comesV x p)):=by
 have o1:=m.cells1
 obtain⟨pf,ps,pk,pw,pd⟩:=p
 dsimp only at f0 f1 s0 s1 k0 k1 r0 r1 hdl hd ⊢
 obtain⟨l0,b0⟩:=Lo.start2 w (arE x av uv kv) #[.int .i64 pf, .int .u32 ps, .int .u32 pk, .int .u16 pw, .slice DA pd.length dc]
 have hadd:=fun W=>eadd_any x.isn 1 W ou.i0 ou.i1 (by omega) (by omega)
 have hov:comesV x ⟨pf,ps,pk,pw,pd⟩=openV x ⟨pf,ps,pk,pw,pd⟩:=by unfold comesV;rw [hat];rfl
 generalize comesV x ⟨pf,ps,pk,pw,pd⟩=ov at *
 have hop:=fun W (g:Fr [] w W)=>eopen (m.fr g) ok ou ⟨pf,ps,pk,pw,pd⟩ f0 f1 s0 s1 k0 k1 r0 r1 hdl DA dc T (hd.fr g (by simp)) (fun b hb=>Nat.lt_of_lt_of_le (hT b hb) g.size)
 generalize openV x ⟨pf,ps,pk,pw,pd⟩=rv at *
 have HOP:=hI hop
 clear hop
 generalize ha1:add32 x.isn 1=a1 at *
 obtain⟨fs,hfs⟩:∃ fs,(pk == a1)=fs:=⟨_,rfl⟩
 have hfs':decide (pk=a1)=fs:=by rw [← hfs];simp [BEq.beq]
 have hfs2:fs=true↔pk=a1:=by rw [← hfs];simp
 have NSB:Hid (¬ S (w.heap.size+1+1)):=hI (fun hs=>by have:=m.pub _ hs;omega)
 have HFS:=hI hfs2
 have HA1:=hI ha1
 have HOV:=hI hov
 have HAdd:=hI hadd
 have M:=hI m
 have L0:=hI l0
 have B0:=hI b0
 have HAT:=hI hat
 clear ha1 hov hadd m l0 b0 hfs2 hd hT ok ou s0 s1
 go_enter Tryz.func70,Tryz.ntmps70
 go_upto_region 1 with fail
 generalize ((w.alloc (.cells (arE x av uv kv) 41)).alloc (.cells #[.int .i64 pf, .int .u32 ps, .int .u32 pk, .int .u16 pw, .slice DA pd.length dc] 49)).alloc (.cells endZ 41)=w1 at *
 have d0:w1.cell? ⟨w.heap.size+1,0,none⟩=some (.int .i64 pf):=by simpa using B0.out.cell 0
 go_upto_region 2 with fail
 have u2:∀ p:Grew w1,p.W.cell? ⟨w.heap.size+1,2,none⟩=some (.int .u32 pk):=Grew.cell (by simpa using B0.out.cell 2)
 have u0:∀ p:Grew w1,p.W.cell? ⟨w.heap.size,0,none⟩=some (.int .u32 x.isn):=Grew.cell (L0.out.s.cell 0)
 have hA':Hid (∀ p:Grew w1,Calls Tryz.prog 103 #[.int .u32 x.isn, .int .i64 1] p.W fun e w'=>e = .returned (.int .u32 a1)∧∃ q:Grew w1,w'=q.W):=hI (fun p=>grew_same (HAdd.out p.W))
 refine wp_region_grew (by kernel_rfl) (by kernel_rfl) ?_
 repeat (go_big_quiet_step (first|(go_at_call 103;exact hA'.out _)))
 refine wpQuiet_nil ?_
 intro W2 f2
 have L2:Hid (∀ W,Fr [] W2 W→Lo w W w.heap.size (w.heap.size+1+1) (arE x av uv kv)):=hI (fun W f=>(L0.out.grow f2).grow f)
 have B2:Hid (∀ W,Fr [] W2 W→Blk W (w.heap.size+1) 49 #[.int .i64 pf, .int .u32 ps, .int .u32 pk, .int .u16 pw, .slice DA pd.length dc]):=hI (fun W f=>(B0.out.fr f2 (by simp)).fr f (by simp))
 have c2:W2.cell? ⟨w.heap.size,2,none⟩=some (.int .i64 4):=by rw [← HAT.out];exact (L2.out _ (Fr.refl [] W2)).s.cell 2
 clear u2 u0 hA' f2 d0 L0 B0 hfs hfs' hat
 go_upto_region 28 with fail
 clear c2
 try dsimp only [Act.put]
 go_cut [5] (fun sl wx=>∃ S9 a9 u9 k9 L,L.map (·.1)=rv.2∧Ext w S S9∧RE S9 wx rv.1 a9 u9 k9∧Pr S9 wx sl L∧Blk wx (w.heap.size+1+1) 41 (arE rv.1 a9 u9 k9)∧Fr [w.heap.size+1+1] W2 wx)
 case first=>
  go_wp2_with (first
    | ((with_reducible refine gate_load 41 (.tmp 2) ?_);refine wpList_load_blk rfl 41 (.tmp 2) rfl w.heap.size 41 (arE x av uv kv) _ rfl (L2.out _ (by first|exact Fr.refl _ _|assumption)).s Tryz.underlying41 rfl (by kernel_rfl) ?_)
    | ((with_reducible refine gate_load 49 (.tmp 3) ?_);refine wpList_load_blk rfl 49 (.tmp 3) rfl (w.heap.size+1) 49 #[.int .i64 pf, .int .u32 ps, .int .u32 pk, .int .u16 pw, .slice DA pd.length dc] _ rfl (B2.out _ (by first|exact Fr.refl _ _|assumption)) Tryz.underlying49 rfl (by kernel_rfl) ?_)
    | (go_at_call 108;refine (HOP.out _ (L2.out _ (by first|exact Fr.refl _ _|assumption)).f).mono ?_;rintro e wq ⟨S9,a9,u9,k9,v9,Lq,rfl,hLq,x9,m9,pq,fq⟩;have fq':Fr [] W2 wq:=Fr.trans (show Fr [] W2 _ by first|exact Fr.refl _ _|assumption) fq (by simp);have ns9:¬ S9 (w.heap.size+1+1):=fun hs=>(x9.2 _ hs).elim (fun h=>NSB.out h) (fun h=>by have h1:=(L2.out _ (Fr.refl [] W2)).r.lt;have h2:=(show Fr [] W2 _ by first|exact Fr.refl _ _|assumption).size;omega);have x9':Ext w S S9:=ext_up x9 ((L2.out _ (by first|exact Fr.refl _ _|assumption)).f).size;have LQ:=hI (L2.out _ fq');have o2:=m9.cells1;have PQ:Hid (∀ W,Fr [w.heap.size+1+1] wq W→Pr S9 W v9 Lq):=hI (fun W f=>pq.fr f (fun y hy hs=>by simp at hy;subst hy;exact ns9 hs) (fun b hb hm=>by simp at hm;subst hm;exact own_ne pq.own (L2.out _ fq').r (by decide) (mem_ob.1 hb)) (fun _ h=>h));have M9:=hI m9;have NS9:=hI ns9;have X9:=hI x9';clear pq fq x9 m9 ns9 x9')
    | ((with_reducible refine gate_store 41 (.tmp 4) ?_);refine wpList_store_blk rfl 41 (.tmp 4) (.tmp 127) rfl (w.heap.size+1+1) 41 endZ (arE rv.1 a9 u9 k9) rfl rfl LQ.out.r rfl (by kernel_rfl) (by first|exact o1.out _|exact o2.out _|simp [Value.oneCell']) ?_;intro wz Bz Fz))
  go_meet
  exact⟨S9,a9,u9,k9,Lq,hLq,X9.out,M9.out.far Fz NS9.out,PQ.out _ Fz,Bz,(fq'.mono (by simp)).trans Fz (fun y hy => .inl hy)⟩
 case rest=>
  obtain⟨S9,a9,u9,k9,Ll,hLl,X9,M9,Pl,Bz,Fz⟩:=hcut
  have FW:=(L2.out _ (Fr.refl [] W2)).res Fz
  refine ‹∀(a:Act) (w:World),Code.wp Tryz.prog Code.ret _ a w→_› _ _ (wp_ret ?_)
  try simp only [Exit.then]
  change bodyPost Tryz.prog _ _ .ret _ _
  refine bodyPost_ret (results_ct 4 41 ⟨w.heap.size+1+1,0,none⟩ _ 5 u5 (by rfl) (by rfl) (end_load Bz) (by rfl)) (by rfl) ?_
  rw [HOV.out]
  exact⟨S9,a9,u9,k9,_,Ll,rfl,hLl,X9,M9,Pl,FW⟩
set_option maxHeartbeats 16000000 in
theorem ecomes3{S:Nat→Prop}{w:World}{x:St}{av uv kv:Value}(m:RE S w x av uv kv)(ok:Ok x)(ou:OkU x)(p:Prt)(f0:0≤p.flags)(f1:p.flags≤15)(s0:0≤p.seq)(s1:p.seq<4294967296)(k0:0≤p.ack)(k1:p.ack<4294967296)(r0:0≤p.win)(r1:p.win<65536)(hdl:p.d.length≤100)
  (DA:Option Addr) (dc:Nat) (T:Nat→Prop) (hd:Byt T w (.slice DA p.d.length dc) p.d) (hT:∀ b,T b→b<w.heap.size) (hat:x.at_=3):Calls Tryz.prog 70 #[agE x av uv kv,agP p (.slice DA p.d.length dc)] w (EL S w (comesV x p)):=by
 have o1:=m.cells1
 obtain⟨pf,ps,pk,pw,pd⟩:=p
 dsimp only at f0 f1 s0 s1 k0 k1 r0 r1 hdl hd ⊢
 obtain⟨l0,b0⟩:=Lo.start2 w (arE x av uv kv) #[.int .i64 pf, .int .u32 ps, .int .u32 pk, .int .u16 pw, .slice DA pd.length dc]
 have hadd:=fun W=>eadd_any x.isn 1 W ou.i0 ou.i1 (by omega) (by omega)
 have hov:comesV x ⟨pf,ps,pk,pw,pd⟩=heardV x ⟨pf,ps,pk,pw,pd⟩:=by unfold comesV;rw [hat];rfl
 generalize comesV x ⟨pf,ps,pk,pw,pd⟩=ov at *
 have hb:=fun W (g:Fr [] w W)=>ebegins ((m.to_ (y:={ x with peer:=ps,at_:=3 }) rfl rfl rfl).fr g) (ok.peer ps 3 (by decide) (by decide)).s ⟨ou.i0,ou.i1,s0,s1⟩
 have HB:=hI hb
 clear hb
 have ho:=fun W (g:Fr [] w W)=>eopens (m.fr g) ok.s pw r0 r1
 have mo0:RE S w (opensV x pw) av uv kv:=m.to_ rfl rfl rfl
 have hans:=fun W (g:Fr [] w W)=>eanswer (mo0.fr g) (Ok.opens ok pw).s ⟨ou.i0,ou.i1,ou.p0,ou.p1⟩
 have hop:=fun W (g:Fr [] w W)=>eopen (m.fr g) ok ou ⟨pf,ps,pk,pw,pd⟩ f0 f1 s0 s1 k0 k1 r0 r1 hdl DA dc T (hd.fr g (by simp)) (fun b hb=>Nat.lt_of_lt_of_le (hT b hb) g.size)
 have hop2:=fun W (g:Fr [] w W)=>eopen (mo0.fr g) (Ok.opens ok pw) ⟨ou.i0,ou.i1,ou.p0,ou.p1⟩ ⟨pf,ps,pk,pw,pd⟩ f0 f1 s0 s1 k0 k1 r0 r1 hdl DA dc T (hd.fr g (by simp)) (fun b hb=>Nat.lt_of_lt_of_le (hT b hb) g.size)
 have hmo:RE S w (shows (opensV x pw)) av uv kv:=m.to_ rfl rfl rfl
 have hhv:heardV x ⟨pf,ps,pk,pw,pd⟩=if pf=1 then listenV x ⟨pf,ps,pk,pw,pd⟩ else if pf=3∧ps=x.peer∧pk=add32 x.isn 1 then (shows (opensV x pw),[answerV (opensV x pw)]) else if has pf 8 then openV x ⟨pf,ps,pk,pw,pd⟩ else if has pf 1=true∨has pf 2=false∨pk≠add32 x.isn 1 then (x,[]) else openV (opensV x pw) ⟨pf,ps,pk,pw,pd⟩:=rfl
 rw [hhv] at hov
 clear hhv
 generalize openV x ⟨pf,ps,pk,pw,pd⟩=rv at *
 generalize opensV x pw=yo at *
 generalize openV yo ⟨pf,ps,pk,pw,pd⟩=rw_ at *
 have HO:=hI ho
 have HANS:=hI hans
 have HOP:=hI hop
 have HOP2:=hI hop2
 have MO:=hI hmo
 clear ho hans hop hop2 hmo mo0
 have e8:(pf / 8 == 1)=has pf 8:=by unfold has;rw [Bool.eq_iff_iff];simp;omega
 have eo1:(pf % 2 == 0)=!has pf 1:=by unfold has;rw [Bool.eq_iff_iff];simp;omega
 have eo2:(pf / 2 % 2 == 1)=has pf 2:=rfl
 generalize ha1:add32 x.isn 1=a1 at *
 obtain⟨fs,hfs⟩:∃ fs,(pk == a1)=fs:=⟨_,rfl⟩
 have hfs':decide (pk=a1)=fs:=by rw [← hfs];simp [BEq.beq]
 have hfs2:fs=true↔pk=a1:=by rw [← hfs];simp
 have NSB:Hid (¬ S (w.heap.size+1+1)):=hI (fun hs=>by have:=m.pub _ hs;omega)
 have HFS:=hI hfs2
 have HA1:=hI ha1
 have HOV:=hI hov
 have HAdd:=hI hadd
 have M:=hI m
 have L0:=hI l0
 have B0:=hI b0
 have HAT:=hI hat
 clear ha1 hov hadd m l0 b0 hfs2 hd hT ok ou s0 s1
 go_enter Tryz.func70,Tryz.ntmps70
 go_upto_region 1 with fail
 generalize ((w.alloc (.cells (arE x av uv kv) 41)).alloc (.cells #[.int .i64 pf, .int .u32 ps, .int .u32 pk, .int .u16 pw, .slice DA pd.length dc] 49)).alloc (.cells endZ 41)=w1 at *
 have d0:w1.cell? ⟨w.heap.size+1,0,none⟩=some (.int .i64 pf):=by simpa using B0.out.cell 0
 go_upto_region 2 with fail
 have u2:∀ p:Grew w1,p.W.cell? ⟨w.heap.size+1,2,none⟩=some (.int .u32 pk):=Grew.cell (by simpa using B0.out.cell 2)
 have u0:∀ p:Grew w1,p.W.cell? ⟨w.heap.size,0,none⟩=some (.int .u32 x.isn):=Grew.cell (L0.out.s.cell 0)
 have hA':Hid (∀ p:Grew w1,Calls Tryz.prog 103 #[.int .u32 x.isn, .int .i64 1] p.W fun e w'=>e = .returned (.int .u32 a1)∧∃ q:Grew w1,w'=q.W):=hI (fun p=>grew_same (HAdd.out p.W))
 refine wp_region_grew (by kernel_rfl) (by kernel_rfl) ?_
 repeat (go_big_quiet_step (first|(go_at_call 103;exact hA'.out _)))
 refine wpQuiet_nil ?_
 intro W2 f2
 have L2:Hid (∀ W,Fr [] W2 W→Lo w W w.heap.size (w.heap.size+1+1) (arE x av uv kv)):=hI (fun W f=>(L0.out.grow f2).grow f)
 have B2:Hid (∀ W,Fr [] W2 W→Blk W (w.heap.size+1) 49 #[.int .i64 pf, .int .u32 ps, .int .u32 pk, .int .u16 pw, .slice DA pd.length dc]):=hI (fun W f=>(B0.out.fr f2 (by simp)).fr f (by simp))
 have c2:W2.cell? ⟨w.heap.size,2,none⟩=some (.int .i64 3):=by rw [← HAT.out];exact (L2.out _ (Fr.refl [] W2)).s.cell 2
 clear u2 u0 hA' f2 d0 L0 B0 hfs hfs' hat
 have c1:W2.cell? ⟨w.heap.size,1,none⟩=some (.int .u32 x.peer):=(L2.out _ (Fr.refl [] W2)).s.cell 1
 have d1:W2.cell? ⟨w.heap.size+1,1,none⟩=some (.int .u32 ps):=by simpa using (B2.out _ (Fr.refl [] W2)).cell 1
 by_cases hf1:pf=1
 ·clear c1 d1 e8 eo1 eo2
  have e1:(pf == 1)=true:=by simpa using hf1
  have E1:=hI hf1
  clear hf1
  go_upto_region 19 with fail
  have d1:W2.cell? ⟨w.heap.size+1,1,none⟩=some (.int .u32 ps):=by simpa using (B2.out _ (Fr.refl [] W2)).cell 1
  clear c2
  have c1:W2.cell? ⟨w.heap.size,1,none⟩=some (.int .u32 x.peer):=(L2.out _ (Fr.refl [] W2)).s.cell 1
  have z1:=(L2.out _ (Fr.refl [] W2)).s.frozen 1
  have hlb:=(L2.out _ (Fr.refl [] W2)).s.lt
  go_upto_region 20 with fail
  have hset:Lo w (W2.setCell ⟨w.heap.size,1,none⟩ (.int .u32 ps)) w.heap.size (w.heap.size+1+1) (arE { x with peer:=ps,at_:=3 } av uv kv):=by
   have hh:=((L2.out _ (Fr.refl [] W2)).cell 1 (.int .u32 ps))
   have hat:=HAT.out
   simp only [arE,zqA,zqB,zqC] at hh ⊢
   rw [hat] at hh
   exact hh
  generalize W2.setCell ⟨w.heap.size,1,none⟩ (.int .u32 ps)=w3 at *
  have L3:Hid (∀ W,Fr [] w3 W→Lo w W w.heap.size (w.heap.size+1+1) (arE { x with peer:=ps,at_:=3 } av uv kv)):=hI (fun W f=>hset.grow f)
  clear hset
  clear c1 z1 hlb d1
  try dsimp only [Act.put]
  go_cut [5] (fun sl wx=>∃ L,L.map (·.1)=[beginsV { x with peer:=ps,at_:=3 }]∧Pr S wx sl L∧Blk wx (w.heap.size+1+1) 41 (arE (shows { x with peer:=ps,at_:=3 }) av uv kv)∧Fr [(w.heap.size+1+1)] w3 wx)
  case first=>
   go_wp2_with (first
     | ((with_reducible refine gate_load 41 (.tmp 2) ?_);refine wpList_load_blk rfl 41 (.tmp 2) rfl w.heap.size 41 (arE { x with peer:=ps,at_:=3 } av uv kv) _ rfl (L3.out _ (by first|exact Fr.refl _ _|assumption)).s Tryz.underlying41 rfl (by kernel_rfl) ?_)
     | (go_at_call 26;refine (HB.out _ (L3.out _ (by first|exact Fr.refl _ _|assumption)).f).mono ?_;rintro e wq ⟨vq,Lq,rfl,hLq,pq,fq⟩;have fq':Fr [] w3 wq:=Fr.trans (show Fr [] w3 _ by first|exact Fr.refl _ _|assumption) fq (by simp);have LQ:=hI (L3.out _ fq');have PQ:Hid (∀ W,Fr [(w.heap.size+1+1)] wq W→Pr S W vq Lq):=hI (fun W f=>pq.fr f (fun y hy hs=>by simp at hy;subst hy;exact NSB.out hs) (fun b hb hm=>by simp at hm;subst hm;exact own_ne pq.own (L3.out _ fq').r (by decide) (mem_ob.1 hb)) (fun _ h=>h));clear pq fq)
     | ((with_reducible refine gate_store 41 (.tmp 4) ?_);refine wpList_store_blk rfl 41 (.tmp 4) (.tmp 73) rfl (w.heap.size+1+1) 41 endZ (arE (shows { x with peer:=ps,at_:=3 }) av uv kv) rfl rfl LQ.out.r rfl (by kernel_rfl) (by first|exact o1.out _|exact o2.out _|simp [Value.oneCell']) ?_;intro wz Bz Fz))
   go_meet
   exact⟨_,hLq,PQ.out _ Fz,Bz,(fq'.mono (by simp)).trans Fz (fun y hy => .inl hy)⟩
  case rest=>
   obtain⟨Ll,hLl,Pl,Bz,Fz⟩:=hcut
   have FW:=(L3.out _ (Fr.refl [] w3)).res Fz
   refine ‹∀(a:Act) (w:World),Code.wp Tryz.prog Code.ret _ a w→_› _ _ (wp_ret ?_)
   try simp only [Exit.then]
   change bodyPost Tryz.prog _ _ .ret _ _
   refine bodyPost_ret (results_ct 4 41 ⟨(w.heap.size+1+1),0,none⟩ _ 5 u5 (by rfl) (by rfl) (end_load Bz) (by rfl)) (by rfl) ?_
   rw [HOV.out,if_pos E1.out]
   unfold listenV
   rw [if_pos E1.out]
   exact⟨S,_,_,_,_,Ll,rfl,hLl,Ext.refl w S,(M.out.to_ (y:=shows { x with peer:=ps,at_:=3 }) rfl rfl rfl).fr FW,Pl,FW⟩
 ·have e1:(pf == 1)=false:=by simpa using hf1
  have E1:=hI hf1
  clear hf1
  generalize hg8:has pf 8=h8 at *
  generalize hg1:has pf 1=h1 at *
  generalize hg2:has pf 2=h2 at *
  have G8:=hI hg8
  have G1:=hI hg1
  have G2:=hI hg2
  clear hg8 hg1 hg2
  by_cases hf3:pf=3
  ·have e3:(pf == 3)=true:=by simpa using hf3
   have E3:=hI hf3
   clear hf3
   by_cases hp:ps=x.peer
   ·have hp1:(ps == x.peer)=true:=by simpa using hp
    have HP:=hI hp
    clear hp
    cases fs
    ·have HN3:Hid (¬ (pf=3∧ps=x.peer∧pk=a1)):=hI (fun h=>by have:=HFS.out.2 h.2.2;cases this)
     cases h8
     ·cases h1
      ·cases h2
       ·go_upto_region 32 with fail
        try dsimp only [Act.put]
        go_cut [5] (fun sl wx=>sl = .slice none 0 0∧Blk wx (w.heap.size+1+1) 41 (arE x av uv kv)∧Fr [(w.heap.size+1+1)] W2 wx)
        case first=>
         go_wp2_with (first
           | ((with_reducible refine gate_load 41 (.tmp 2) ?_);refine wpList_load_blk rfl 41 (.tmp 2) rfl w.heap.size 41 (arE x av uv kv) _ rfl (L2.out _ (by first|exact Fr.refl _ _|assumption)).s Tryz.underlying41 rfl (by kernel_rfl) ?_)
           | ((with_reducible refine gate_store 41 (.tmp 4) ?_);refine wpList_store_blk rfl 41 (.tmp 4) (.tmp 166) rfl (w.heap.size+1+1) 41 endZ (arE x av uv kv) rfl rfl (L2.out _ (by first|exact Fr.refl _ _|assumption)).r rfl (by kernel_rfl) (by first|exact o1.out _|exact o2.out _|simp [Value.oneCell']) ?_;intro wz Bz Fz))
         go_meet
         exact⟨rfl,Bz,Fz⟩
        case rest=>
         obtain⟨rfl,Bz,Fz⟩:=hcut
         have FW:=(L2.out _ (Fr.refl [] W2)).res Fz
         refine ‹∀(a:Act) (w:World),Code.wp Tryz.prog Code.ret _ a w→_› _ _ (wp_ret ?_)
         try simp only [Exit.then]
         change bodyPost Tryz.prog _ _ .ret _ _
         refine bodyPost_ret (results_ct 4 41 ⟨(w.heap.size+1+1),0,none⟩ _ 5 (.slice none 0 0) (by rfl) (by rfl) (end_load Bz) (by rfl)) (by rfl) ?_
         rw [HOV.out,if_neg E1.out,if_neg HN3.out,if_neg (by simp),if_pos (.inr (.inl rfl))]
         exact⟨S,_,_,_,_,[],rfl,rfl,Ext.refl w S,M.out.fr FW,Pr.nil,FW⟩
       ·go_upto_region 32 with fail
        try dsimp only [Act.put]
        go_cut [5] (fun sl wx=>sl = .slice none 0 0∧Blk wx (w.heap.size+1+1) 41 (arE x av uv kv)∧Fr [(w.heap.size+1+1)] W2 wx)
        case first=>
         go_wp2_with (first
           | ((with_reducible refine gate_load 41 (.tmp 2) ?_);refine wpList_load_blk rfl 41 (.tmp 2) rfl w.heap.size 41 (arE x av uv kv) _ rfl (L2.out _ (by first|exact Fr.refl _ _|assumption)).s Tryz.underlying41 rfl (by kernel_rfl) ?_)
           | ((with_reducible refine gate_store 41 (.tmp 4) ?_);refine wpList_store_blk rfl 41 (.tmp 4) (.tmp 166) rfl (w.heap.size+1+1) 41 endZ (arE x av uv kv) rfl rfl (L2.out _ (by first|exact Fr.refl _ _|assumption)).r rfl (by kernel_rfl) (by first|exact o1.out _|exact o2.out _|simp [Value.oneCell']) ?_;intro wz Bz Fz))
         go_meet
         exact⟨rfl,Bz,Fz⟩
        case rest=>
         obtain⟨rfl,Bz,Fz⟩:=hcut
         have FW:=(L2.out _ (Fr.refl [] W2)).res Fz
         refine ‹∀(a:Act) (w:World),Code.wp Tryz.prog Code.ret _ a w→_› _ _ (wp_ret ?_)
         try simp only [Exit.then]
         change bodyPost Tryz.prog _ _ .ret _ _
         refine bodyPost_ret (results_ct 4 41 ⟨(w.heap.size+1+1),0,none⟩ _ 5 (.slice none 0 0) (by rfl) (by rfl) (end_load Bz) (by rfl)) (by rfl) ?_
         rw [HOV.out,if_neg E1.out,if_neg HN3.out,if_neg (by simp),if_pos (.inr (.inr (fun h=>by have:=HFS.out.2 h;cases this)))]
         exact⟨S,_,_,_,_,[],rfl,rfl,Ext.refl w S,M.out.fr FW,Pr.nil,FW⟩
      ·go_upto_region 32 with fail
       try dsimp only [Act.put]
       go_cut [5] (fun sl wx=>sl = .slice none 0 0∧Blk wx (w.heap.size+1+1) 41 (arE x av uv kv)∧Fr [(w.heap.size+1+1)] W2 wx)
       case first=>
        go_wp2_with (first
          | ((with_reducible refine gate_load 41 (.tmp 2) ?_);refine wpList_load_blk rfl 41 (.tmp 2) rfl w.heap.size 41 (arE x av uv kv) _ rfl (L2.out _ (by first|exact Fr.refl _ _|assumption)).s Tryz.underlying41 rfl (by kernel_rfl) ?_)
          | ((with_reducible refine gate_store 41 (.tmp 4) ?_);refine wpList_store_blk rfl 41 (.tmp 4) (.tmp 166) rfl (w.heap.size+1+1) 41 endZ (arE x av uv kv) rfl rfl (L2.out _ (by first|exact Fr.refl _ _|assumption)).r rfl (by kernel_rfl) (by first|exact o1.out _|exact o2.out _|simp [Value.oneCell']) ?_;intro wz Bz Fz))
        go_meet
        exact⟨rfl,Bz,Fz⟩
       case rest=>
        obtain⟨rfl,Bz,Fz⟩:=hcut
        have FW:=(L2.out _ (Fr.refl [] W2)).res Fz
        refine ‹∀(a:Act) (w:World),Code.wp Tryz.prog Code.ret _ a w→_› _ _ (wp_ret ?_)
        try simp only [Exit.then]
        change bodyPost Tryz.prog _ _ .ret _ _
        refine bodyPost_ret (results_ct 4 41 ⟨(w.heap.size+1+1),0,none⟩ _ 5 (.slice none 0 0) (by rfl) (by rfl) (end_load Bz) (by rfl)) (by rfl) ?_
        rw [HOV.out,if_neg E1.out,if_neg HN3.out,if_neg (by simp),if_pos (.inl rfl)]
        exact⟨S,_,_,_,_,[],rfl,rfl,Ext.refl w S,M.out.fr FW,Pr.nil,FW⟩
     ·go_upto_region 24 with fail
      clear c1 d1 c2
      try dsimp only [Act.put]
      go_cut [5] (fun sl wx=>∃ S9 a9 u9 k9 L,L.map (·.1)=rv.2∧Ext w S S9∧RE S9 wx rv.1 a9 u9 k9∧Pr S9 wx sl L∧Blk wx (w.heap.size+1+1) 41 (arE rv.1 a9 u9 k9)∧Fr [w.heap.size+1+1] W2 wx)
      case first=>
       go_wp2_with (first
         | ((with_reducible refine gate_load 41 (.tmp 2) ?_);refine wpList_load_blk rfl 41 (.tmp 2) rfl w.heap.size 41 (arE x av uv kv) _ rfl (L2.out _ (by first|exact Fr.refl _ _|assumption)).s Tryz.underlying41 rfl (by kernel_rfl) ?_)
         | ((with_reducible refine gate_load 49 (.tmp 3) ?_);refine wpList_load_blk rfl 49 (.tmp 3) rfl (w.heap.size+1) 49 #[.int .i64 pf, .int .u32 ps, .int .u32 pk, .int .u16 pw, .slice DA pd.length dc] _ rfl (B2.out _ (by first|exact Fr.refl _ _|assumption)) Tryz.underlying49 rfl (by kernel_rfl) ?_)
         | (go_at_call 108;refine (HOP.out _ (L2.out _ (by first|exact Fr.refl _ _|assumption)).f).mono ?_;rintro e wq ⟨S9,a9,u9,k9,v9,Lq,rfl,hLq,x9,m9,pq,fq⟩;have fq':Fr [] W2 wq:=Fr.trans (show Fr [] W2 _ by first|exact Fr.refl _ _|assumption) fq (by simp);have ns9:¬ S9 (w.heap.size+1+1):=fun hs=>(x9.2 _ hs).elim (fun h=>NSB.out h) (fun h=>by have h1:=(L2.out _ (Fr.refl [] W2)).r.lt;have h2:=(show Fr [] W2 _ by first|exact Fr.refl _ _|assumption).size;omega);have x9':Ext w S S9:=ext_up x9 ((L2.out _ (by first|exact Fr.refl _ _|assumption)).f).size;have LQ:=hI (L2.out _ fq');have o2:=m9.cells1;have PQ:Hid (∀ W,Fr [w.heap.size+1+1] wq W→Pr S9 W v9 Lq):=hI (fun W f=>pq.fr f (fun y hy hs=>by simp at hy;subst hy;exact ns9 hs) (fun b hb hm=>by simp at hm;subst hm;exact own_ne pq.own (L2.out _ fq').r (by decide) (mem_ob.1 hb)) (fun _ h=>h));have M9:=hI m9;have NS9:=hI ns9;have X9:=hI x9';clear pq fq x9 m9 ns9 x9')
         | ((with_reducible refine gate_store 41 (.tmp 4) ?_);refine wpList_store_blk rfl 41 (.tmp 4) (.tmp 100) rfl (w.heap.size+1+1) 41 endZ (arE rv.1 a9 u9 k9) rfl rfl LQ.out.r rfl (by kernel_rfl) (by first|exact o1.out _|exact o2.out _|simp [Value.oneCell']) ?_;intro wz Bz Fz))
       go_meet
       exact⟨S9,a9,u9,k9,Lq,hLq,X9.out,M9.out.far Fz NS9.out,PQ.out _ Fz,Bz,(fq'.mono (by simp)).trans Fz (fun y hy => .inl hy)⟩
      case rest=>
       obtain⟨S9,a9,u9,k9,Ll,hLl,X9,M9,Pl,Bz,Fz⟩:=hcut
       have FW:=(L2.out _ (Fr.refl [] W2)).res Fz
       refine ‹∀(a:Act) (w:World),Code.wp Tryz.prog Code.ret _ a w→_› _ _ (wp_ret ?_)
       try simp only [Exit.then]
       change bodyPost Tryz.prog _ _ .ret _ _
       refine bodyPost_ret (results_ct 4 41 ⟨w.heap.size+1+1,0,none⟩ _ 5 u5 (by rfl) (by rfl) (end_load Bz) (by rfl)) (by rfl) ?_
       rw [HOV.out,if_neg E1.out,if_neg HN3.out,if_pos rfl]
       exact⟨S9,a9,u9,k9,_,Ll,rfl,hLl,X9,M9,Pl,FW⟩
    ·have HN3:Hid (pf=3∧ps=x.peer∧pk=a1):=hI ⟨E3.out,HP.out,HFS.out.1 rfl⟩
     go_upto_region 22 with fail
     clear c1 d1 c2
     have dw:W2.cell? ⟨w.heap.size+1,3,none⟩=some (.int .u16 pw):=by simpa using (B2.out _ (Fr.refl [] W2)).cell 3
     try dsimp only [Act.put]
     go_cut [5] (fun sl wx=>∃ L,L.map (·.1)=[answerV yo]∧Pr S wx sl L∧Blk wx (w.heap.size+1+1) 41 (arE (shows yo) av uv kv)∧Fr [(w.heap.size+1+1)] W2 wx)
     case first=>
      go_wp2_with (first
        | ((with_reducible refine gate_load 41 (.tmp 2) ?_);refine wpList_load_blk rfl 41 (.tmp 2) rfl w.heap.size 41 (arE x av uv kv) _ rfl (L2.out _ (by first|exact Fr.refl _ _|assumption)).s Tryz.underlying41 rfl (by kernel_rfl) ?_)
        | (go_at_call 107;refine (HO.out _ (L2.out _ (by first|exact Fr.refl _ _|assumption)).f).mono ?_;rintro e wo ⟨rfl,fo⟩)
        | (go_at_call 83;refine (HANS.out _ (L2.out _ (by first|exact Fr.refl _ _|assumption)).f).mono ?_;rintro e wq ⟨vq,Lq,rfl,hLq,pq,fq⟩;have fq':Fr [] W2 wq:=Fr.trans (show Fr [] W2 _ by first|exact Fr.refl _ _|assumption) fq (by simp);have LQ:=hI (L2.out _ fq');have PQ:Hid (∀ W,Fr [(w.heap.size+1+1)] wq W→Pr S W vq Lq):=hI (fun W f=>pq.fr f (fun y hy hs=>by simp at hy;subst hy;exact NSB.out hs) (fun b hb hm=>by simp at hm;subst hm;exact own_ne pq.own (L2.out _ fq').r (by decide) (mem_ob.1 hb)) (fun _ h=>h));clear pq fq)
        | ((with_reducible refine gate_store 41 (.tmp 4) ?_);refine wpList_store_blk rfl 41 (.tmp 4) (.tmp 92) rfl (w.heap.size+1+1) 41 endZ (arE (shows yo) av uv kv) rfl rfl LQ.out.r rfl (by kernel_rfl) (by first|exact o1.out _|exact o2.out _|simp [Value.oneCell']) ?_;intro wz Bz Fz))
      go_meet
      exact⟨_,hLq,PQ.out _ Fz,Bz,(fq'.mono (by simp)).trans Fz (fun y hy => .inl hy)⟩
     case rest=>
      obtain⟨Ll,hLl,Pl,Bz,Fz⟩:=hcut
      have FW:=(L2.out _ (Fr.refl [] W2)).res Fz
      refine ‹∀(a:Act) (w:World),Code.wp Tryz.prog Code.ret _ a w→_› _ _ (wp_ret ?_)
      try simp only [Exit.then]
      change bodyPost Tryz.prog _ _ .ret _ _
      refine bodyPost_ret (results_ct 4 41 ⟨(w.heap.size+1+1),0,none⟩ _ 5 u5 (by rfl) (by rfl) (end_load Bz) (by rfl)) (by rfl) ?_
      rw [HOV.out,if_neg E1.out,if_pos HN3.out]
      exact⟨S,_,_,_,_,Ll,rfl,hLl,Ext.refl w S,MO.out.fr FW,Pl,FW⟩
   ·have hp1:(ps == x.peer)=false:=by simpa using hp
    have HP:=hI hp
    clear hp
    have HN3:Hid (¬ (pf=3∧ps=x.peer∧pk=a1)):=hI (fun h=>HP.out h.2.1)
    cases h8
    ·cases h1
     ·cases h2
      ·go_upto_region 32 with fail
       try dsimp only [Act.put]
       go_cut [5] (fun sl wx=>sl = .slice none 0 0∧Blk wx (w.heap.size+1+1) 41 (arE x av uv kv)∧Fr [(w.heap.size+1+1)] W2 wx)
       case first=>
        go_wp2_with (first
          | ((with_reducible refine gate_load 41 (.tmp 2) ?_);refine wpList_load_blk rfl 41 (.tmp 2) rfl w.heap.size 41 (arE x av uv kv) _ rfl (L2.out _ (by first|exact Fr.refl _ _|assumption)).s Tryz.underlying41 rfl (by kernel_rfl) ?_)
          | ((with_reducible refine gate_store 41 (.tmp 4) ?_);refine wpList_store_blk rfl 41 (.tmp 4) (.tmp 166) rfl (w.heap.size+1+1) 41 endZ (arE x av uv kv) rfl rfl (L2.out _ (by first|exact Fr.refl _ _|assumption)).r rfl (by kernel_rfl) (by first|exact o1.out _|exact o2.out _|simp [Value.oneCell']) ?_;intro wz Bz Fz))
        go_meet
        exact⟨rfl,Bz,Fz⟩
       case rest=>
        obtain⟨rfl,Bz,Fz⟩:=hcut
        have FW:=(L2.out _ (Fr.refl [] W2)).res Fz
        refine ‹∀(a:Act) (w:World),Code.wp Tryz.prog Code.ret _ a w→_› _ _ (wp_ret ?_)
        try simp only [Exit.then]
        change bodyPost Tryz.prog _ _ .ret _ _
        refine bodyPost_ret (results_ct 4 41 ⟨(w.heap.size+1+1),0,none⟩ _ 5 (.slice none 0 0) (by rfl) (by rfl) (end_load Bz) (by rfl)) (by rfl) ?_
        rw [HOV.out,if_neg E1.out,if_neg HN3.out,if_neg (by simp),if_pos (.inr (.inl rfl))]
        exact⟨S,_,_,_,_,[],rfl,rfl,Ext.refl w S,M.out.fr FW,Pr.nil,FW⟩
      ·cases fs
       ·go_upto_region 32 with fail
        try dsimp only [Act.put]
        go_cut [5] (fun sl wx=>sl = .slice none 0 0∧Blk wx (w.heap.size+1+1) 41 (arE x av uv kv)∧Fr [(w.heap.size+1+1)] W2 wx)
        case first=>
         go_wp2_with (first
           | ((with_reducible refine gate_load 41 (.tmp 2) ?_);refine wpList_load_blk rfl 41 (.tmp 2) rfl w.heap.size 41 (arE x av uv kv) _ rfl (L2.out _ (by first|exact Fr.refl _ _|assumption)).s Tryz.underlying41 rfl (by kernel_rfl) ?_)
           | ((with_reducible refine gate_store 41 (.tmp 4) ?_);refine wpList_store_blk rfl 41 (.tmp 4) (.tmp 166) rfl (w.heap.size+1+1) 41 endZ (arE x av uv kv) rfl rfl (L2.out _ (by first|exact Fr.refl _ _|assumption)).r rfl (by kernel_rfl) (by first|exact o1.out _|exact o2.out _|simp [Value.oneCell']) ?_;intro wz Bz Fz))
         go_meet
         exact⟨rfl,Bz,Fz⟩
        case rest=>
         obtain⟨rfl,Bz,Fz⟩:=hcut
         have FW:=(L2.out _ (Fr.refl [] W2)).res Fz
         refine ‹∀(a:Act) (w:World),Code.wp Tryz.prog Code.ret _ a w→_› _ _ (wp_ret ?_)
         try simp only [Exit.then]
         change bodyPost Tryz.prog _ _ .ret _ _
         refine bodyPost_ret (results_ct 4 41 ⟨(w.heap.size+1+1),0,none⟩ _ 5 (.slice none 0 0) (by rfl) (by rfl) (end_load Bz) (by rfl)) (by rfl) ?_
         rw [HOV.out,if_neg E1.out,if_neg HN3.out,if_neg (by simp),if_pos (.inr (.inr (fun h=>by have:=HFS.out.2 h;cases this)))]
         exact⟨S,_,_,_,_,[],rfl,rfl,Ext.refl w S,M.out.fr FW,Pr.nil,FW⟩
       ·go_upto_region 26 with fail
        clear c1 d1 c2
        have HN4:Hid (¬ (false=true∨true=false∨pk≠a1)):=hI (by rintro (h|h|h);cases h;cases h;exact h (HFS.out.1 rfl))
        go_cut [5] (fun sl wx=>∃ S9 a9 u9 k9 L,L.map (·.1)=rw_.2∧Ext w S S9∧RE S9 wx rw_.1 a9 u9 k9∧Pr S9 wx sl L∧Blk wx (w.heap.size+1+1) 41 (arE rw_.1 a9 u9 k9)∧Fr [w.heap.size+1+1] W2 wx)
        case first=>
         refine wp_region_held_drew (S:=fun W=>Blk W w.heap.size 41 (arE x av uv kv)∧Blk W (w.heap.size+1) 49 #[.int .i64 pf, .int .u32 ps, .int .u32 pk, .int .u16 pw, .slice DA pd.length dc]) (by kernel_rfl) ⟨(L2.out _ (Fr.refl [] W2).drew).s,B2.out _ (Fr.refl [] W2).drew⟩ (fun hH=>?_)
         have fd:Fr [] W2 W2.drew:=(Fr.refl [] W2).drew
         generalize W2.drew=wd at *
         refine Held.take 0 rfl (by kernel_rfl) (by kernel_rfl) (by kernel_rfl) (fun _ _ _ h=>h) (Held.y_blk rfl 41 (.tmp 2) rfl w.heap.size 41 (arE x av uv kv) _ rfl (fun _ hs=>hs.1) Tryz.underlying41 rfl (by kernel_rfl)) hH ?_
         try simp only [Act.put,zqA,zqB,zqC]
         refine Held.take 1 (v := .pointer (some ⟨w.heap.size+1,3,none⟩)) rfl (by kernel_rfl) (by kernel_rfl) (by kernel_rfl) (fun _ _ _ h=>h) (Or.inl ⟨rfl,fun (W:World) hs=>by go_simp⟩) hH ?_
         try simp only [Act.put,zqA,zqB,zqC]
         refine Held.take 2 (v := .int .u16 pw) rfl (by kernel_rfl) (by kernel_rfl) (by kernel_rfl) (fun _ _ _ h=>h) (Or.inl ⟨rfl,fun (W:World) hs=>by have d3:World.cell? W ⟨w.heap.size+1,3,none⟩=some (.int .u16 pw):=(by simpa using hs.2.cell 3);go_simp⟩) hH ?_
         try simp only [Act.put,zqA,zqB,zqC]
         refine Held.take 4 rfl (by kernel_rfl) (by kernel_rfl) (by kernel_rfl) (fun _ _ _ h=>h) (Held.y_blk rfl 49 (.tmp 3) rfl (w.heap.size+1) 49 #[.int .i64 pf, .int .u32 ps, .int .u32 pk, .int .u16 pw, .slice DA pd.length dc] _ rfl (fun _ hs=>hs.2) Tryz.underlying49 rfl (by kernel_rfl)) hH ?_
         try simp only [Act.put,zqA,zqB,zqC]
         refine Held.one (i:=3) (by kernel_rfl) rfl (fun K hK=>?_)
         go_simp
         go_at_call 107
         refine (HO.out _ (L2.out _ fd).f).mono ?_
         rintro e wo ⟨rfl,fo⟩
         have fo':Fr [] W2 wo:=fd.trans fo (by simp)
         clear fo fd
         try go_wp2_with fail
         refine hK.out _ _ ⟨(L2.out _ fo').s,B2.out _ fo'⟩ (fun hH2=>?_)
         clear hK K
         try simp only [Act.put,zqA,zqB,zqC]
         clear hH
         refine Held.one (i:=5) (by kernel_rfl) rfl (fun K hK=>?_)
         go_simp
         (go_at_call 108;refine (HOP2.out _ (L2.out _ fo').f).mono ?_;rintro e wq ⟨S9,a9,u9,k9,v9,Lq,rfl,hLq,x9,m9,pq,fq⟩;have fq':Fr [] W2 wq:=Fr.trans fo' fq (by simp);have ns9:¬ S9 (w.heap.size+1+1):=fun hs=>(x9.2 _ hs).elim (fun h=>NSB.out h) (fun h=>by have h1:=(L2.out _ (Fr.refl [] W2)).r.lt;have h2:=fo'.size;omega);have x9':Ext w S S9:=ext_up x9 ((L2.out _ fo').f).size;have LQ:=hI (L2.out _ fq');have o2:=m9.cells1;have PQ:Hid (∀ W,Fr [w.heap.size+1+1] wq W→Pr S9 W v9 Lq):=hI (fun W f=>pq.fr f (fun y hy hs=>by simp at hy;subst hy;exact ns9 hs) (fun b hb hm=>by simp at hm;subst hm;exact own_ne pq.own (L2.out _ fq').r (by decide) (mem_ob.1 hb)) (fun _ h=>h));have M9:=hI m9;have NS9:=hI ns9;have X9:=hI x9';clear pq fq x9 m9 ns9 x9')
         try go_wp2_with fail
         refine hK.out _ _ ⟨(L2.out _ fq').s,B2.out _ fq'⟩ (fun hH3=>?_)
         clear hK K
         try simp only [Act.put,zqA,zqB,zqC]
         clear hH2 fo'
         refine Held.take 6 (v:=agE rw_.1 a9 u9 k9) rfl (by kernel_rfl) (by kernel_rfl) (by kernel_rfl) (fun _ _ _ h=>h) (Or.inl ⟨rfl,fun (W:World) hs=>by go_simp⟩) hH3 ?_
         try simp only [Act.put,zqA,zqB,zqC]
         refine Held.take 7 (v:=v9) rfl (by kernel_rfl) (by kernel_rfl) (by kernel_rfl) (fun _ _ _ h=>h) (Or.inl ⟨rfl,fun (W:World) hs=>by go_simp⟩) hH3 ?_
         try simp only [Act.put,zqA,zqB,zqC]
         refine Held.one (i:=8) (by kernel_rfl) rfl (fun K hK=>?_)
         refine Held.st_blk rfl 41 (.tmp 4) (.tmp 120) rfl (w.heap.size+1+1) 41 endZ (arE rw_.1 a9 u9 k9) rfl rfl LQ.out.r rfl (by kernel_rfl) (by first|exact o1.out _|exact o2.out _|simp [Value.oneCell']) ?_
         intro wz Bz Fz
         refine hK.out _ _ ⟨(L2.out _ fq').s.fr Fz (by simp;omega),(B2.out _ fq').fr Fz (by simp)⟩ (fun hH4=>?_)
         clear hK K
         try simp only [Act.put,zqA,zqB,zqC]
         refine Held.take 9 (v:=v9) rfl (by kernel_rfl) (by kernel_rfl) (by kernel_rfl) (fun _ _ _ h=>h) (Or.inl ⟨rfl,fun (W:World) hs=>by go_simp⟩) hH4 ?_
         try simp only [Act.put,zqA,zqB,zqC]
         refine Held.done (by kernel_rfl) ?_
         go_wp2_with fail
         go_meet
         exact⟨S9,a9,u9,k9,Lq,hLq,X9.out,M9.out.far Fz NS9.out,PQ.out _ Fz,Bz,(fq'.mono (by simp)).trans Fz (fun y hy => .inl hy)⟩
        case rest=>
         obtain⟨S9,a9,u9,k9,Ll,hLl,X9,M9,Pl,Bz,Fz⟩:=hcut
         have FW:=(L2.out _ (Fr.refl [] W2)).res Fz
         refine ‹∀(a:Act) (w:World),Code.wp Tryz.prog Code.ret _ a w→_› _ _ (wp_ret ?_)
         try simp only [Exit.then]
         change bodyPost Tryz.prog _ _ .ret _ _
         refine bodyPost_ret (results_ct 4 41 ⟨w.heap.size+1+1,0,none⟩ _ 5 u5 (by rfl) (by rfl) (end_load Bz) (by rfl)) (by rfl) ?_
         rw [HOV.out,if_neg E1.out,if_neg HN3.out,if_neg (by simp),if_neg HN4.out]
         exact⟨S9,a9,u9,k9,_,Ll,rfl,hLl,X9,M9,Pl,FW⟩
     ·go_upto_region 32 with fail
      try dsimp only [Act.put]
      go_cut [5] (fun sl wx=>sl = .slice none 0 0∧Blk wx (w.heap.size+1+1) 41 (arE x av uv kv)∧Fr [(w.heap.size+1+1)] W2 wx)
      case first=>
       go_wp2_with (first
         | ((with_reducible refine gate_load 41 (.tmp 2) ?_);refine wpList_load_blk rfl 41 (.tmp 2) rfl w.heap.size 41 (arE x av uv kv) _ rfl (L2.out _ (by first|exact Fr.refl _ _|assumption)).s Tryz.underlying41 rfl (by kernel_rfl) ?_)
         | ((with_reducible refine gate_store 41 (.tmp 4) ?_);refine wpList_store_blk rfl 41 (.tmp 4) (.tmp 166) rfl (w.heap.size+1+1) 41 endZ (arE x av uv kv) rfl rfl (L2.out _ (by first|exact Fr.refl _ _|assumption)).r rfl (by kernel_rfl) (by first|exact o1.out _|exact o2.out _|simp [Value.oneCell']) ?_;intro wz Bz Fz))
       go_meet
       exact⟨rfl,Bz,Fz⟩
      case rest=>
       obtain⟨rfl,Bz,Fz⟩:=hcut
       have FW:=(L2.out _ (Fr.refl [] W2)).res Fz
       refine ‹∀(a:Act) (w:World),Code.wp Tryz.prog Code.ret _ a w→_› _ _ (wp_ret ?_)
       try simp only [Exit.then]
       change bodyPost Tryz.prog _ _ .ret _ _
       refine bodyPost_ret (results_ct 4 41 ⟨(w.heap.size+1+1),0,none⟩ _ 5 (.slice none 0 0) (by rfl) (by rfl) (end_load Bz) (by rfl)) (by rfl) ?_
       rw [HOV.out,if_neg E1.out,if_neg HN3.out,if_neg (by simp),if_pos (.inl rfl)]
       exact⟨S,_,_,_,_,[],rfl,rfl,Ext.refl w S,M.out.fr FW,Pr.nil,FW⟩
    ·go_upto_region 24 with fail
     clear c1 d1 c2
     try dsimp only [Act.put]
     go_cut [5] (fun sl wx=>∃ S9 a9 u9 k9 L,L.map (·.1)=rv.2∧Ext w S S9∧RE S9 wx rv.1 a9 u9 k9∧Pr S9 wx sl L∧Blk wx (w.heap.size+1+1) 41 (arE rv.1 a9 u9 k9)∧Fr [w.heap.size+1+1] W2 wx)
     case first=>
      go_wp2_with (first
        | ((with_reducible refine gate_load 41 (.tmp 2) ?_);refine wpList_load_blk rfl 41 (.tmp 2) rfl w.heap.size 41 (arE x av uv kv) _ rfl (L2.out _ (by first|exact Fr.refl _ _|assumption)).s Tryz.underlying41 rfl (by kernel_rfl) ?_)
        | ((with_reducible refine gate_load 49 (.tmp 3) ?_);refine wpList_load_blk rfl 49 (.tmp 3) rfl (w.heap.size+1) 49 #[.int .i64 pf, .int .u32 ps, .int .u32 pk, .int .u16 pw, .slice DA pd.length dc] _ rfl (B2.out _ (by first|exact Fr.refl _ _|assumption)) Tryz.underlying49 rfl (by kernel_rfl) ?_)
        | (go_at_call 108;refine (HOP.out _ (L2.out _ (by first|exact Fr.refl _ _|assumption)).f).mono ?_;rintro e wq ⟨S9,a9,u9,k9,v9,Lq,rfl,hLq,x9,m9,pq,fq⟩;have fq':Fr [] W2 wq:=Fr.trans (show Fr [] W2 _ by first|exact Fr.refl _ _|assumption) fq (by simp);have ns9:¬ S9 (w.heap.size+1+1):=fun hs=>(x9.2 _ hs).elim (fun h=>NSB.out h) (fun h=>by have h1:=(L2.out _ (Fr.refl [] W2)).r.lt;have h2:=(show Fr [] W2 _ by first|exact Fr.refl _ _|assumption).size;omega);have x9':Ext w S S9:=ext_up x9 ((L2.out _ (by first|exact Fr.refl _ _|assumption)).f).size;have LQ:=hI (L2.out _ fq');have o2:=m9.cells1;have PQ:Hid (∀ W,Fr [w.heap.size+1+1] wq W→Pr S9 W v9 Lq):=hI (fun W f=>pq.fr f (fun y hy hs=>by simp at hy;subst hy;exact ns9 hs) (fun b hb hm=>by simp at hm;subst hm;exact own_ne pq.own (L2.out _ fq').r (by decide) (mem_ob.1 hb)) (fun _ h=>h));have M9:=hI m9;have NS9:=hI ns9;have X9:=hI x9';clear pq fq x9 m9 ns9 x9')
        | ((with_reducible refine gate_store 41 (.tmp 4) ?_);refine wpList_store_blk rfl 41 (.tmp 4) (.tmp 100) rfl (w.heap.size+1+1) 41 endZ (arE rv.1 a9 u9 k9) rfl rfl LQ.out.r rfl (by kernel_rfl) (by first|exact o1.out _|exact o2.out _|simp [Value.oneCell']) ?_;intro wz Bz Fz))
      go_meet
      exact⟨S9,a9,u9,k9,Lq,hLq,X9.out,M9.out.far Fz NS9.out,PQ.out _ Fz,Bz,(fq'.mono (by simp)).trans Fz (fun y hy => .inl hy)⟩
     case rest=>
      obtain⟨S9,a9,u9,k9,Ll,hLl,X9,M9,Pl,Bz,Fz⟩:=hcut
      have FW:=(L2.out _ (Fr.refl [] W2)).res Fz
      refine ‹∀(a:Act) (w:World),Code.wp Tryz.prog Code.ret _ a w→_› _ _ (wp_ret ?_)
      try simp only [Exit.then]
      change bodyPost Tryz.prog _ _ .ret _ _
      refine bodyPost_ret (results_ct 4 41 ⟨w.heap.size+1+1,0,none⟩ _ 5 u5 (by rfl) (by rfl) (end_load Bz) (by rfl)) (by rfl) ?_
      rw [HOV.out,if_neg E1.out,if_neg HN3.out,if_pos rfl]
      exact⟨S9,a9,u9,k9,_,Ll,rfl,hLl,X9,M9,Pl,FW⟩
  ·have e3:(pf == 3)=false:=by simpa using hf3
   have E3:=hI hf3
   clear hf3
   have HN3:Hid (¬ (pf=3∧ps=x.peer∧pk=a1)):=hI (fun h=>E3.out h.1)
   cases h8
   ·cases h1
    ·cases h2
     ·go_upto_region 32 with fail
      try dsimp only [Act.put]
      go_cut [5] (fun sl wx=>sl = .slice none 0 0∧Blk wx (w.heap.size+1+1) 41 (arE x av uv kv)∧Fr [(w.heap.size+1+1)] W2 wx)
      case first=>
       go_wp2_with (first
         | ((with_reducible refine gate_load 41 (.tmp 2) ?_);refine wpList_load_blk rfl 41 (.tmp 2) rfl w.heap.size 41 (arE x av uv kv) _ rfl (L2.out _ (by first|exact Fr.refl _ _|assumption)).s Tryz.underlying41 rfl (by kernel_rfl) ?_)
         | ((with_reducible refine gate_store 41 (.tmp 4) ?_);refine wpList_store_blk rfl 41 (.tmp 4) (.tmp 166) rfl (w.heap.size+1+1) 41 endZ (arE x av uv kv) rfl rfl (L2.out _ (by first|exact Fr.refl _ _|assumption)).r rfl (by kernel_rfl) (by first|exact o1.out _|exact o2.out _|simp [Value.oneCell']) ?_;intro wz Bz Fz))
       go_meet
       exact⟨rfl,Bz,Fz⟩
      case rest=>
       obtain⟨rfl,Bz,Fz⟩:=hcut
       have FW:=(L2.out _ (Fr.refl [] W2)).res Fz
       refine ‹∀(a:Act) (w:World),Code.wp Tryz.prog Code.ret _ a w→_› _ _ (wp_ret ?_)
       try simp only [Exit.then]
       change bodyPost Tryz.prog _ _ .ret _ _
       refine bodyPost_ret (results_ct 4 41 ⟨(w.heap.size+1+1),0,none⟩ _ 5 (.slice none 0 0) (by rfl) (by rfl) (end_load Bz) (by rfl)) (by rfl) ?_
       rw [HOV.out,if_neg E1.out,if_neg HN3.out,if_neg (by simp),if_pos (.inr (.inl rfl))]
       exact⟨S,_,_,_,_,[],rfl,rfl,Ext.refl w S,M.out.fr FW,Pr.nil,FW⟩
     ·cases fs
      ·go_upto_region 32 with fail
       try dsimp only [Act.put]
       go_cut [5] (fun sl wx=>sl = .slice none 0 0∧Blk wx (w.heap.size+1+1) 41 (arE x av uv kv)∧Fr [(w.heap.size+1+1)] W2 wx)
       case first=>
        go_wp2_with (first
          | ((with_reducible refine gate_load 41 (.tmp 2) ?_);refine wpList_load_blk rfl 41 (.tmp 2) rfl w.heap.size 41 (arE x av uv kv) _ rfl (L2.out _ (by first|exact Fr.refl _ _|assumption)).s Tryz.underlying41 rfl (by kernel_rfl) ?_)
          | ((with_reducible refine gate_store 41 (.tmp 4) ?_);refine wpList_store_blk rfl 41 (.tmp 4) (.tmp 166) rfl (w.heap.size+1+1) 41 endZ (arE x av uv kv) rfl rfl (L2.out _ (by first|exact Fr.refl _ _|assumption)).r rfl (by kernel_rfl) (by first|exact o1.out _|exact o2.out _|simp [Value.oneCell']) ?_;intro wz Bz Fz))
        go_meet
        exact⟨rfl,Bz,Fz⟩
       case rest=>
        obtain⟨rfl,Bz,Fz⟩:=hcut
        have FW:=(L2.out _ (Fr.refl [] W2)).res Fz
        refine ‹∀(a:Act) (w:World),Code.wp Tryz.prog Code.ret _ a w→_› _ _ (wp_ret ?_)
        try simp only [Exit.then]
        change bodyPost Tryz.prog _ _ .ret _ _
        refine bodyPost_ret (results_ct 4 41 ⟨(w.heap.size+1+1),0,none⟩ _ 5 (.slice none 0 0) (by rfl) (by rfl) (end_load Bz) (by rfl)) (by rfl) ?_
        rw [HOV.out,if_neg E1.out,if_neg HN3.out,if_neg (by simp),if_pos (.inr (.inr (fun h=>by have:=HFS.out.2 h;cases this)))]
        exact⟨S,_,_,_,_,[],rfl,rfl,Ext.refl w S,M.out.fr FW,Pr.nil,FW⟩
      ·go_upto_region 26 with fail
       clear c1 d1 c2
       have HN4:Hid (¬ (false=true∨true=false∨pk≠a1)):=hI (by rintro (h|h|h);cases h;cases h;exact h (HFS.out.1 rfl))
       go_cut [5] (fun sl wx=>∃ S9 a9 u9 k9 L,L.map (·.1)=rw_.2∧Ext w S S9∧RE S9 wx rw_.1 a9 u9 k9∧Pr S9 wx sl L∧Blk wx (w.heap.size+1+1) 41 (arE rw_.1 a9 u9 k9)∧Fr [w.heap.size+1+1] W2 wx)
       case first=>
        refine wp_region_held_drew (S:=fun W=>Blk W w.heap.size 41 (arE x av uv kv)∧Blk W (w.heap.size+1) 49 #[.int .i64 pf, .int .u32 ps, .int .u32 pk, .int .u16 pw, .slice DA pd.length dc]) (by kernel_rfl) ⟨(L2.out _ (Fr.refl [] W2).drew).s,B2.out _ (Fr.refl [] W2).drew⟩ (fun hH=>?_)
        have fd:Fr [] W2 W2.drew:=(Fr.refl [] W2).drew
        generalize W2.drew=wd at *
        refine Held.take 0 rfl (by kernel_rfl) (by kernel_rfl) (by kernel_rfl) (fun _ _ _ h=>h) (Held.y_blk rfl 41 (.tmp 2) rfl w.heap.size 41 (arE x av uv kv) _ rfl (fun _ hs=>hs.1) Tryz.underlying41 rfl (by kernel_rfl)) hH ?_
        try simp only [Act.put,zqA,zqB,zqC]
        refine Held.take 1 (v := .pointer (some ⟨w.heap.size+1,3,none⟩)) rfl (by kernel_rfl) (by kernel_rfl) (by kernel_rfl) (fun _ _ _ h=>h) (Or.inl ⟨rfl,fun (W:World) hs=>by go_simp⟩) hH ?_
        try simp only [Act.put,zqA,zqB,zqC]
        refine Held.take 2 (v := .int .u16 pw) rfl (by kernel_rfl) (by kernel_rfl) (by kernel_rfl) (fun _ _ _ h=>h) (Or.inl ⟨rfl,fun (W:World) hs=>by have d3:World.cell? W ⟨w.heap.size+1,3,none⟩=some (.int .u16 pw):=(by simpa using hs.2.cell 3);go_simp⟩) hH ?_
        try simp only [Act.put,zqA,zqB,zqC]
        refine Held.take 4 rfl (by kernel_rfl) (by kernel_rfl) (by kernel_rfl) (fun _ _ _ h=>h) (Held.y_blk rfl 49 (.tmp 3) rfl (w.heap.size+1) 49 #[.int .i64 pf, .int .u32 ps, .int .u32 pk, .int .u16 pw, .slice DA pd.length dc] _ rfl (fun _ hs=>hs.2) Tryz.underlying49 rfl (by kernel_rfl)) hH ?_
        try simp only [Act.put,zqA,zqB,zqC]
        refine Held.one (i:=3) (by kernel_rfl) rfl (fun K hK=>?_)
        go_simp
        go_at_call 107
        refine (HO.out _ (L2.out _ fd).f).mono ?_
        rintro e wo ⟨rfl,fo⟩
        have fo':Fr [] W2 wo:=fd.trans fo (by simp)
        clear fo fd
        try go_wp2_with fail
        refine hK.out _ _ ⟨(L2.out _ fo').s,B2.out _ fo'⟩ (fun hH2=>?_)
        clear hK K
        try simp only [Act.put,zqA,zqB,zqC]
        clear hH
        refine Held.one (i:=5) (by kernel_rfl) rfl (fun K hK=>?_)
        go_simp
        (go_at_call 108;refine (HOP2.out _ (L2.out _ fo').f).mono ?_;rintro e wq ⟨S9,a9,u9,k9,v9,Lq,rfl,hLq,x9,m9,pq,fq⟩;have fq':Fr [] W2 wq:=Fr.trans fo' fq (by simp);have ns9:¬ S9 (w.heap.size+1+1):=fun hs=>(x9.2 _ hs).elim (fun h=>NSB.out h) (fun h=>by have h1:=(L2.out _ (Fr.refl [] W2)).r.lt;have h2:=fo'.size;omega);have x9':Ext w S S9:=ext_up x9 ((L2.out _ fo').f).size;have LQ:=hI (L2.out _ fq');have o2:=m9.cells1;have PQ:Hid (∀ W,Fr [w.heap.size+1+1] wq W→Pr S9 W v9 Lq):=hI (fun W f=>pq.fr f (fun y hy hs=>by simp at hy;subst hy;exact ns9 hs) (fun b hb hm=>by simp at hm;subst hm;exact own_ne pq.own (L2.out _ fq').r (by decide) (mem_ob.1 hb)) (fun _ h=>h));have M9:=hI m9;have NS9:=hI ns9;have X9:=hI x9';clear pq fq x9 m9 ns9 x9')
        try go_wp2_with fail
        refine hK.out _ _ ⟨(L2.out _ fq').s,B2.out _ fq'⟩ (fun hH3=>?_)
        clear hK K
        try simp only [Act.put,zqA,zqB,zqC]
        clear hH2 fo'
        refine Held.take 6 (v:=agE rw_.1 a9 u9 k9) rfl (by kernel_rfl) (by kernel_rfl) (by kernel_rfl) (fun _ _ _ h=>h) (Or.inl ⟨rfl,fun (W:World) hs=>by go_simp⟩) hH3 ?_
        try simp only [Act.put,zqA,zqB,zqC]
        refine Held.take 7 (v:=v9) rfl (by kernel_rfl) (by kernel_rfl) (by kernel_rfl) (fun _ _ _ h=>h) (Or.inl ⟨rfl,fun (W:World) hs=>by go_simp⟩) hH3 ?_
        try simp only [Act.put,zqA,zqB,zqC]
        refine Held.one (i:=8) (by kernel_rfl) rfl (fun K hK=>?_)
        refine Held.st_blk rfl 41 (.tmp 4) (.tmp 120) rfl (w.heap.size+1+1) 41 endZ (arE rw_.1 a9 u9 k9) rfl rfl LQ.out.r rfl (by kernel_rfl) (by first|exact o1.out _|exact o2.out _|simp [Value.oneCell']) ?_
        intro wz Bz Fz
        refine hK.out _ _ ⟨(L2.out _ fq').s.fr Fz (by simp;omega),(B2.out _ fq').fr Fz (by simp)⟩ (fun hH4=>?_)
        clear hK K
        try simp only [Act.put,zqA,zqB,zqC]
        refine Held.take 9 (v:=v9) rfl (by kernel_rfl) (by kernel_rfl) (by kernel_rfl) (fun _ _ _ h=>h) (Or.inl ⟨rfl,fun (W:World) hs=>by go_simp⟩) hH4 ?_
        try simp only [Act.put,zqA,zqB,zqC]
        refine Held.done (by kernel_rfl) ?_
        go_wp2_with fail
        go_meet
        exact⟨S9,a9,u9,k9,Lq,hLq,X9.out,M9.out.far Fz NS9.out,PQ.out _ Fz,Bz,(fq'.mono (by simp)).trans Fz (fun y hy => .inl hy)⟩
       case rest=>
        obtain⟨S9,a9,u9,k9,Ll,hLl,X9,M9,Pl,Bz,Fz⟩:=hcut
        have FW:=(L2.out _ (Fr.refl [] W2)).res Fz
        refine ‹∀(a:Act) (w:World),Code.wp Tryz.prog Code.ret _ a w→_› _ _ (wp_ret ?_)
        try simp only [Exit.then]
        change bodyPost Tryz.prog _ _ .ret _ _
        refine bodyPost_ret (results_ct 4 41 ⟨w.heap.size+1+1,0,none⟩ _ 5 u5 (by rfl) (by rfl) (end_load Bz) (by rfl)) (by rfl) ?_
        rw [HOV.out,if_neg E1.out,if_neg HN3.out,if_neg (by simp),if_neg HN4.out]
        exact⟨S9,a9,u9,k9,_,Ll,rfl,hLl,X9,M9,Pl,FW⟩
    ·go_upto_region 32 with fail
     try dsimp only [Act.put]
     go_cut [5] (fun sl wx=>sl = .slice none 0 0∧Blk wx (w.heap.size+1+1) 41 (arE x av uv kv)∧Fr [(w.heap.size+1+1)] W2 wx)
     case first=>
      go_wp2_with (first
        | ((with_reducible refine gate_load 41 (.tmp 2) ?_);refine wpList_load_blk rfl 41 (.tmp 2) rfl w.heap.size 41 (arE x av uv kv) _ rfl (L2.out _ (by first|exact Fr.refl _ _|assumption)).s Tryz.underlying41 rfl (by kernel_rfl) ?_)
        | ((with_reducible refine gate_store 41 (.tmp 4) ?_);refine wpList_store_blk rfl 41 (.tmp 4) (.tmp 166) rfl (w.heap.size+1+1) 41 endZ (arE x av uv kv) rfl rfl (L2.out _ (by first|exact Fr.refl _ _|assumption)).r rfl (by kernel_rfl) (by first|exact o1.out _|exact o2.out _|simp [Value.oneCell']) ?_;intro wz Bz Fz))
      go_meet
      exact⟨rfl,Bz,Fz⟩
     case rest=>
      obtain⟨rfl,Bz,Fz⟩:=hcut
      have FW:=(L2.out _ (Fr.refl [] W2)).res Fz
      refine ‹∀(a:Act) (w:World),Code.wp Tryz.prog Code.ret _ a w→_› _ _ (wp_ret ?_)
      try simp only [Exit.then]
      change bodyPost Tryz.prog _ _ .ret _ _
      refine bodyPost_ret (results_ct 4 41 ⟨(w.heap.size+1+1),0,none⟩ _ 5 (.slice none 0 0) (by rfl) (by rfl) (end_load Bz) (by rfl)) (by rfl) ?_
      rw [HOV.out,if_neg E1.out,if_neg HN3.out,if_neg (by simp),if_pos (.inl rfl)]
      exact⟨S,_,_,_,_,[],rfl,rfl,Ext.refl w S,M.out.fr FW,Pr.nil,FW⟩
   ·go_upto_region 24 with fail
    clear c1 d1 c2
    try dsimp only [Act.put]
    go_cut [5] (fun sl wx=>∃ S9 a9 u9 k9 L,L.map (·.1)=rv.2∧Ext w S S9∧RE S9 wx rv.1 a9 u9 k9∧Pr S9 wx sl L∧Blk wx (w.heap.size+1+1) 41 (arE rv.1 a9 u9 k9)∧Fr [w.heap.size+1+1] W2 wx)
    case first=>
     go_wp2_with (first
       | ((with_reducible refine gate_load 41 (.tmp 2) ?_);refine wpList_load_blk rfl 41 (.tmp 2) rfl w.heap.size 41 (arE x av uv kv) _ rfl (L2.out _ (by first|exact Fr.refl _ _|assumption)).s Tryz.underlying41 rfl (by kernel_rfl) ?_)
       | ((with_reducible refine gate_load 49 (.tmp 3) ?_);refine wpList_load_blk rfl 49 (.tmp 3) rfl (w.heap.size+1) 49 #[.int .i64 pf, .int .u32 ps, .int .u32 pk, .int .u16 pw, .slice DA pd.length dc] _ rfl (B2.out _ (by first|exact Fr.refl _ _|assumption)) Tryz.underlying49 rfl (by kernel_rfl) ?_)
       | (go_at_call 108;refine (HOP.out _ (L2.out _ (by first|exact Fr.refl _ _|assumption)).f).mono ?_;rintro e wq ⟨S9,a9,u9,k9,v9,Lq,rfl,hLq,x9,m9,pq,fq⟩;have fq':Fr [] W2 wq:=Fr.trans (show Fr [] W2 _ by first|exact Fr.refl _ _|assumption) fq (by simp);have ns9:¬ S9 (w.heap.size+1+1):=fun hs=>(x9.2 _ hs).elim (fun h=>NSB.out h) (fun h=>by have h1:=(L2.out _ (Fr.refl [] W2)).r.lt;have h2:=(show Fr [] W2 _ by first|exact Fr.refl _ _|assumption).size;omega);have x9':Ext w S S9:=ext_up x9 ((L2.out _ (by first|exact Fr.refl _ _|assumption)).f).size;have LQ:=hI (L2.out _ fq');have o2:=m9.cells1;have PQ:Hid (∀ W,Fr [w.heap.size+1+1] wq W→Pr S9 W v9 Lq):=hI (fun W f=>pq.fr f (fun y hy hs=>by simp at hy;subst hy;exact ns9 hs) (fun b hb hm=>by simp at hm;subst hm;exact own_ne pq.own (L2.out _ fq').r (by decide) (mem_ob.1 hb)) (fun _ h=>h));have M9:=hI m9;have NS9:=hI ns9;have X9:=hI x9';clear pq fq x9 m9 ns9 x9')
       | ((with_reducible refine gate_store 41 (.tmp 4) ?_);refine wpList_store_blk rfl 41 (.tmp 4) (.tmp 100) rfl (w.heap.size+1+1) 41 endZ (arE rv.1 a9 u9 k9) rfl rfl LQ.out.r rfl (by kernel_rfl) (by first|exact o1.out _|exact o2.out _|simp [Value.oneCell']) ?_;intro wz Bz Fz))
     go_meet
     exact⟨S9,a9,u9,k9,Lq,hLq,X9.out,M9.out.far Fz NS9.out,PQ.out _ Fz,Bz,(fq'.mono (by simp)).trans Fz (fun y hy => .inl hy)⟩
    case rest=>
     obtain⟨S9,a9,u9,k9,Ll,hLl,X9,M9,Pl,Bz,Fz⟩:=hcut
     have FW:=(L2.out _ (Fr.refl [] W2)).res Fz
     refine ‹∀(a:Act) (w:World),Code.wp Tryz.prog Code.ret _ a w→_› _ _ (wp_ret ?_)
     try simp only [Exit.then]
     change bodyPost Tryz.prog _ _ .ret _ _
     refine bodyPost_ret (results_ct 4 41 ⟨w.heap.size+1+1,0,none⟩ _ 5 u5 (by rfl) (by rfl) (end_load Bz) (by rfl)) (by rfl) ?_
     rw [HOV.out,if_neg E1.out,if_neg HN3.out,if_pos rfl]
     exact⟨S9,a9,u9,k9,_,Ll,rfl,hLl,X9,M9,Pl,FW⟩
end Go.Proofs.YtmgdbbbdhkfdmaaGreat
namespace Go.Proofs.YtmgdbbbdhkfdmaaGreat
set_option maxRecDepth 100000
open Go.RowKit
structure Kpt(x y:St):Prop where
 isn:y.isn=x.isn
 peer:y.peer=x.peer
 bk:(x.broken=true→x.at_=5)→(y.broken=true→y.at_=5)
theorem Kpt.refl(x:St):Kpt x x:=⟨rfl,rfl,fun h=>h⟩
theorem Kpt.trans{x y z:St}(h:Kpt x y)(g:Kpt y z):Kpt x z:=⟨g.isn.trans h.isn,g.peer.trans h.peer,fun b=>g.bk (h.bk b)⟩
theorem Kpt.same{x y:St}(h1:y.isn=x.isn)(h2:y.peer=x.peer)(h3:y.broken=x.broken)(h4:y.at_=x.at_):Kpt x y:=⟨h1,h2,fun h g=>by rw [h4];exact h (by rw [← h3];exact g)⟩
theorem Kpt.done(x:St)(b:Bool):Kpt x (doneV x b):=⟨rfl,rfl,fun _ _=>rfl⟩
theorem Kpt.shows(x:St):Kpt x (shows x) := .same rfl rfl rfl rfl
theorem Kpt.rests(x:St):Kpt x (restsV x):=by
 unfold restsV
 (repeat' split) <;> exact .same rfl rfl rfl rfl
theorem Kpt.send(x:St):Kpt x (sendV x).1:=by
 rw [sendV_eq]
 unfold timesV
 dsimp only
 split <;> exact .same rfl rfl rfl rfl
theorem Kpt.loop:∀(k:Nat) (x:St),Kpt x (loopV k x).1
 | 0,x => .refl x
 | k+1,x=>by
  by_cases h:0<nextV x
  ·rw [loop_go k x h];exact (Kpt.send x).trans (Kpt.loop k _)
  ·rw [loop_stop _ x h];exact .refl x
theorem Kpt.closes(x:St):Kpt x (closesV x).1:=by
 unfold closesV
 split
 ·exact .same rfl rfl rfl rfl
 ·exact .refl x
theorem Kpt.last(x:St):Kpt x (lastV x):=by
 unfold lastV
 split
 ·exact .done x _
 ·exact .refl x
theorem Kpt.sends(x:St):Kpt x (sendsV x).1:=by
 by_cases h:x.at_=4
 ·rw [sendsV_open x h];exact (((Kpt.loop _ x).trans (.closes _)).trans (.last _)).trans (.rests _)
 ·rw [sendsV_else x h];exact .rests x
theorem Kpt.acks(x:St)(p:Prt):Kpt x (acksV x p):=by
 unfold acksV acks2V
 (repeat' split) <;> exact .same rfl rfl rfl rfl
theorem Kpt.data(x:St)(p:Prt):Kpt x (dataV x p):=by
 rw [dataV_eq]
 split <;> exact .same rfl rfl rfl rfl
theorem Kpt.open_(x:St)(p:Prt):Kpt x (openV x p).1:=by
 unfold openV
 split
 ·split
  ·exact .done x _
  ·exact .refl x
 split
 ·exact .shows x
 split
 ·exact .refl x
 dsimp only
 split
 ·split
  ·exact .acks x p
  ·exact (Kpt.acks x p).trans (.data _ p)
 ·split
  ·exact (Kpt.acks x p).trans (.shows _)
  ·exact ((Kpt.acks x p).trans (.data _ p)).trans (.shows _)
structure Kqt(p:Prt)(x y:St):Prop where
 isn:y.isn=x.isn
 peer:y.peer=x.peer∨y.peer=p.seq
 bk:(x.broken=true→x.at_=5)→x.at_≠5→(y.broken=true→y.at_=5)
theorem Kpt.q{p:Prt}{x y:St}(h:Kpt x y):Kqt p x y:=⟨h.isn, .inl h.peer,fun b _=>h.bk b⟩
theorem not_bk{x:St}(b:x.broken=true→x.at_=5)(h:x.at_≠5):x.broken=false:=by
 rcases Bool.eq_false_or_eq_true x.broken with g|g
 ·exact absurd (b g) h
 ·exact g
theorem Kqt.listen(x:St)(p:Prt):Kqt p x (listenV x p).1:=by
 unfold listenV
 split
 ·refine⟨rfl, .inr rfl,fun b h g=>?_⟩
  have g':x.broken=true:=g
  rw [not_bk b h] at g'
  cases g'
 ·exact (Kpt.refl x).q
theorem Kqt.opens(x:St)(p:Prt)(q r:Int)(h:q=x.peer∨q=p.seq):Kqt p x (opensV { x with peer:=q } r):=⟨rfl,h,fun b h g=>by
 have g':x.broken=true:=g
 rw [not_bk b h] at g'
 cases g'⟩
theorem Kqt.then_{p:Prt}{x y z:St}(h:Kqt p x y)(g:Kpt y z):Kqt p x z:=⟨g.isn.trans h.isn,by rw [g.peer];exact h.peer,fun b n=>g.bk (h.bk b n)⟩
theorem Kqt.calls(x:St)(p:Prt):Kqt p x (callsV x p).1:=by
 unfold callsV
 split
 ·exact .listen x p
 split
 ·exact (Kpt.refl x).q
 split
 ·exact (Kqt.opens x p p.seq p.win (.inr rfl)).then_ (.shows _)
 split
 ·exact (Kpt.done x _).q
 ·exact (Kpt.refl x).q
theorem Kqt.heard(x:St)(p:Prt):Kqt p x (heardV x p).1:=by
 unfold heardV
 split
 ·exact .listen x p
 split
 ·exact (Kqt.opens x p x.peer p.win (.inl rfl)).then_ (.shows _)
 split
 ·exact (Kpt.open_ x p).q
 split
 ·exact (Kpt.refl x).q
 ·exact (Kqt.opens x p x.peer p.win (.inl rfl)).then_ (.open_ _ p)
theorem Kpt.ended(x:St)(p:Prt):Kpt x (endedV x p).1:=by
 unfold endedV
 split
 ·exact .refl x
 ·exact .shows x
theorem Kqt.comes(x:St)(p:Prt):Kqt p x (comesV x p).1∧(x.at_=5→Kpt x (comesV x p).1):=by
 unfold comesV
 split
 ·exact⟨.listen x p,fun h=>by omega⟩
 split
 ·exact⟨.calls x p,fun h=>by omega⟩
 split
 ·exact⟨.heard x p,fun h=>by omega⟩
 split
 ·exact⟨(Kpt.open_ x p).q,fun h=>by omega⟩
 ·exact⟨(Kpt.ended x p).q,fun _ => .ended x p⟩
theorem Kpt.again(x:St):Kpt x (againV x).1:=by
 unfold againV
 (repeat' split) <;> exact .same rfl rfl rfl rfl
structure Fine(x:St):Prop where
 ok:Ok x
 ou:OkU x
 rs:Rest x
 bk:x.broken=true→x.at_=5
theorem OkU.kpt{x y:St}(h:OkU x)(k:Kpt x y):OkU y:=h.of k.isn k.peer
theorem OkU.kqt{p:Prt}{x y:St}(h:OkU x)(k:Kqt p x y)(s0:0≤p.seq)(s1:p.seq<4294967296):OkU y:=by
 refine⟨by rw [k.isn];exact h.i0,by rw [k.isn];exact h.i1,?_,?_⟩
 ·rcases k.peer with e|e <;> rw [e]
  ·exact h.p0
  ·exact s0
 ·rcases k.peer with e|e <;> rw [e]
  ·exact h.p1
  ·exact s1
theorem comes_bk{x:St}(b:x.broken=true→x.at_=5)(p:Prt):(comesV x p).1.broken=true→(comesV x p).1.at_=5:=by
 by_cases h:x.at_=5
 ·exact ((Kqt.comes x p).2 h).bk b
 ·exact (Kqt.comes x p).1.bk b h
section
variable {x:St} (h:Fine x)
include h
theorem Fine.come(p:Prt)(s0:0≤p.seq)(s1:p.seq<4294967296):Fine (comeV x p).1:=by
 refine⟨h.ok.come p,?_,come_rest h.ok h.rs p,?_⟩
 ·unfold comeV
  split
  ·exact h.ou
  ·exact (h.ou.kqt (Kqt.comes x p).1 s0 s1).kpt (.sends _)
 ·unfold comeV
  split
  ·exact h.bk
  ·exact (Kpt.sends _).bk (comes_bk h.bk p)
theorem Fine.write(b:List Int)(hl:x.all.length+b.length≤1000000):Fine (writeV x b).1:=by
 have k:Kpt x (writeV x b).1:=by
  unfold writeV
  split
  ·exact .refl x
  split
  ·exact .refl x
  ·exact (Kpt.same rfl rfl rfl rfl:Kpt x { x with all:=x.all++b }).trans (.sends _)
 exact⟨h.ok.write b hl,h.ou.kpt k,write_rest h.ok h.rs b hl,k.bk h.bk⟩
theorem Fine.close:Fine (closeV x).1:=by
 have k:Kpt x (closeV x).1:=by
  unfold closeV
  split
  ·exact .refl x
  ·exact (Kpt.same rfl rfl rfl rfl:Kpt x { x with closing:=true }).trans (.sends _)
 exact⟨h.ok.close,h.ou.kpt k,close_rest h.ok h.rs,k.bk h.bk⟩
theorem Fine.reset:Fine (resetV x).1:=by
 have k:Kpt x (resetV x).1:=by
  unfold resetV
  split
  ·exact .refl x
  split
  ·exact ((Kpt.shows x).trans (.done _ _)).trans (.rests _)
  ·exact (Kpt.done x _).trans (.rests _)
 exact⟨h.ok.reset,h.ou.kpt k,reset_rest h.ok h.rs,k.bk h.bk⟩
theorem Fine.read:Fine (readV x).1:=by
 have k:Kpt x (readV x).1:=by
  unfold readV
  dsimp only
  split <;> exact .same rfl rfl rfl rfl
 exact⟨h.ok.read,h.ou.kpt k,read_rest h.rs,k.bk h.bk⟩
theorem Fine.tick(hn:x.now+1≤1000000):Fine (tickV x).1:=by
 obtain⟨t1,t2⟩:=Ok.tick h.ok h.rs hn
 have k:Kpt x (tickV x).1:=by
  unfold tickV
  dsimp only
  split
  ·split
   ·exact ((Kpt.same rfl rfl rfl rfl:Kpt x { x with now:=x.now+1,clk:=(Rto.lateV x.clk (x.now+1)).1,timed:=0 }).trans (.again _)).trans (.rests _)
   ·exact ((Kpt.same rfl rfl rfl rfl:Kpt x { x with now:=x.now+1,clk:=(Rto.lateV x.clk (x.now+1)).1 }).trans (.done _ _)).trans (.rests _)
  ·exact .same rfl rfl rfl rfl
 exact⟨t1,h.ou.kpt k,t2,k.bk h.bk⟩
end
theorem Fine.new(isn:Int)(b:Bool)(i0:0≤isn)(i1:isn<4294967296):Fine (newSV isn b).1:=by
 obtain⟨n1,n2⟩:=new_ok isn b
 have k:Kpt (newS isn (if b then 2 else 1)) (newSV isn b).1:=by
  unfold newSV
  cases b
  ·exact .refl _
  ·exact (Kpt.shows _).trans (.rests _)
 refine⟨n1,OkU.kpt ⟨i0,i1,by show (0:Int)≤0;decide,by show (0:Int)<4294967296;decide⟩ k,n2,k.bk (fun h=>by cases h)⟩
end Go.Proofs.YtmgdbbbdhkfdmaaGreat
