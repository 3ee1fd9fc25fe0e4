import Derived.Test.YtmgdbbbdhkfdmaaGreatYS15
import Derived.Deep.DeepCutAuto
import Derived.Test.YtmgdbbbdhkfdmaaGreatYS12
set_option linter.unusedSimpArgs false
set_option linter.unusedVariables false
namespace Go.Proofs.YtmgdbbbdhkfdmaaGreat
set_option maxRecDepth 100000
open Go.RowKit Go.Deep
def EL(S:Nat→Prop)(w:World)(r:St × List Prt)(e:Ending)(w':World):Prop:=
 ∃ S' av uv kv v L,e = .returned (.tuple #[agE r.1 av uv kv,v])∧L.map (·.1)=r.2∧Ext w S S'∧RE S' w' r.1 av uv kv∧Pr S' w' v L∧Fr [] w w'
theorem OkU.of{x y:St}(h:OkU x)(h1:y.isn=x.isn)(h2:y.peer=x.peer):OkU y:=⟨by rw [h1];exact h.i0,by rw [h1];exact h.i1,by rw [h2];exact h.p0,by rw [h2];exact h.p1⟩
theorem acks_num(x:St)(p:Prt):(acksV x p).isn=x.isn∧(acksV x p).peer=x.peer∧(acksV x p).all=x.all:=by
 unfold acksV acks2V
 (repeat' split) <;> exact⟨rfl,rfl,rfl⟩
theorem data_num(x:St)(p:Prt):(dataV x p).isn=x.isn∧(dataV x p).peer=x.peer:=by
 rw [dataV_eq]
 split <;> exact⟨rfl,rfl⟩
theorem RE.far{S:Nat→Prop}{w w':World}{x:St}{av uv kv:Value}{b:Nat}(m:RE S w x av uv kv)(f:Fr [b] w w')(h:¬ S b):RE S w' x av uv kv:=
 m.ext f (fun y hy=>by simp at hy;subst hy;exact h) (fun _ h=>h) (fun c hc=>Nat.lt_of_lt_of_le (m.pub c hc) f.size)
theorem EL.up{S S1:Nat→Prop}{w w1:World}{r:St × List Prt}{e:Ending}{w':World}(x1:Ext w S S1)(f:Fr [] w w1)(h:EL S1 w1 r e w'):EL S w r e w':=by
 obtain⟨S',av,uv,kv,v,L,h1,h2,h3,h4,h5,h6⟩:=h
 exact⟨S',av,uv,kv,v,L,h1,h2,x1.trans f.size h3,h4,h5,f.trans h6 (by simp)⟩
set_option maxHeartbeats 16000000 in
theorem eopen{S:Nat→Prop}{w:World}{x:St}{av uv kv:Value}(m:RE S w x av uv kv)(ok:Ok x)(ou:OkU x)(p:Prt)(f0:0≤p.flags)(f1:p.flags≤15)(s0:0≤p.seq)(s1:p.seq<4294967296)(k0:0≤p.ack)(k1:p.ack<4294967296)(r0:0≤p.win)(r1:p.win<65536)(hdl:p.d.length≤100)
  (DA:Option Addr) (dc:Nat) (T:Nat→Prop) (hd:Byt T w (.slice DA p.d.length dc) p.d) (hT:∀ b,T b→b<w.heap.size):Calls Tryz.prog 108 #[agE x av uv kv,agP p (.slice DA p.d.length dc)] w (EL S w (openV x p)):=by
 have o1:=m.cells1
 obtain⟨pf,ps,pk,pw,pd⟩:=p
 dsimp only at f0 f1 s0 s1 k0 k1 r0 r1 hdl hd ⊢
 have e8:(pf / 8 == 1)=has pf 8:=by unfold has;rw [Bool.eq_iff_iff];simp;omega
 have e1:(pf % 2 == 1)=has pf 1:=by unfold has;rw [Bool.eq_iff_iff];simp
 have e2:(pf / 2 % 2 == 0)=!has pf 2:=by unfold has;rw [Bool.eq_iff_iff];simp;omega
 have e4:(pf / 4 % 2 == 1)=has pf 4:=rfl
 have e5:(pf / 4 % 2 == 0)=!has pf 4:=by unfold has;rw [Bool.eq_iff_iff];simp;omega
 obtain⟨l0,b0⟩:=Lo.start2 w (arE x av uv kv) #[.int .i64 pf, .int .u32 ps, .int .u32 pk, .int .u16 pw, .slice DA pd.length dc]
 have hov:openV x ⟨pf,ps,pk,pw,pd⟩=if has pf 8 then (if ps=awaitedV x then doneV x true else x,[]) else if has pf 1 then (shows x,[answerV x]) else if !has pf 2 then (x,[]) else
  if pd.length=0∧has pf 4=false then ((if (acksV x ⟨pf,ps,pk,pw,pd⟩).ended then acksV x ⟨pf,ps,pk,pw,pd⟩ else dataV (acksV x ⟨pf,ps,pk,pw,pd⟩) ⟨pf,ps,pk,pw,pd⟩),[]) else (shows (if (acksV x ⟨pf,ps,pk,pw,pd⟩).ended then acksV x ⟨pf,ps,pk,pw,pd⟩ else dataV (acksV x ⟨pf,ps,pk,pw,pd⟩) ⟨pf,ps,pk,pw,pd⟩),[answerV (if (acksV x ⟨pf,ps,pk,pw,pd⟩).ended then acksV x ⟨pf,ps,pk,pw,pd⟩ else dataV (acksV x ⟨pf,ps,pk,pw,pd⟩) ⟨pf,ps,pk,pw,pd⟩)]):=rfl
 generalize openV x ⟨pf,ps,pk,pw,pd⟩=ov at *
 have haw:=fun W (g:Fr [] w W)=>eawaited (m.fr g) ok.s ou
 have han:=fun W (g:Fr [] w W)=>eanswer (m.fr g) ok.s ou
 have hak:=fun W (g:Fr [] w W)=>eacks (m.fr g) ok.s ou ⟨pf,ps,pk,pw,pd⟩ k0 k1 r0 r1 DA pd.length dc
 have y1n:=acks_num x ⟨pf,ps,pk,pw,pd⟩
 have y1s:=acks_same x ⟨pf,ps,pk,pw,pd⟩
 have oka:=Ok.acks ok ⟨pf,ps,pk,pw,pd⟩
 have m1:=m.to_ (y:=acksV x ⟨pf,ps,pk,pw,pd⟩) y1n.2.2 y1s.2.1 y1s.1
 have oua:=ou.of y1n.1 y1n.2.1
 generalize acksV x ⟨pf,ps,pk,pw,pd⟩=y1 at *
 have han1:=fun W (g:Fr [] w W)=>eanswer (m1.fr g) oka.s oua
 have hda:=fun W (g:Fr [] w W)=>edata (m1.fr g) oka.s oua ⟨pf,ps,pk,pw,pd⟩ s0 s1 hdl DA dc T (hd.fr g (by simp)) (fun b hb=>Nat.lt_of_lt_of_le (hT b hb) g.size)
 have okd:=Ok.data oka ⟨pf,ps,pk,pw,pd⟩ hdl
 have oud:=oua.of (data_num y1 ⟨pf,ps,pk,pw,pd⟩).1 (data_num y1 ⟨pf,ps,pk,pw,pd⟩).2
 dsimp only at hda hak
 generalize dataV y1 ⟨pf,ps,pk,pw,pd⟩=y2 at *
 have HOV:=hI hov
 clear hov
 have HAW:=hI haw
 have HAN:=hI han
 have HAK:=hI hak
 have HAN1:=hI han1
 have HDA:=hI hda
 have OKD:=hI okd.s
 have OUD:=hI oud
 have NSB:Hid (¬ S (w.heap.size+1+1)):=hI (fun hs=>by have:=m.pub _ hs;omega)
 have M:=hI m
 have M1:=hI m1
 have L0:=hI l0
 have B0:=hI b0
 clear haw han hak han1 hda m m1 l0 b0 ok ou oka oua okd oud hd hT y1n y1s
 go_enter Tryz.func108,Tryz.ntmps108
 go_upto_region 1 with fail
 generalize ((w.alloc (.cells (arE x av uv kv) 41)).alloc (.cells #[.int .i64 pf, .int .u32 ps, .int .u32 pk, .int .u16 pw, .slice DA pd.length dc] 49)).alloc (.cells endZ 41)=w1 at *
 have L1:Hid (∀ W,Fr [] w1 W→Lo w W w.heap.size (w.heap.size+1+1) (arE x av uv kv)):=hI (fun W f=>L0.out.grow f)
 have B1:Hid (∀ W,Fr [] w1 W→Blk W (w.heap.size+1) 49 #[.int .i64 pf, .int .u32 ps, .int .u32 pk, .int .u16 pw, .slice DA pd.length dc]):=hI (fun W f=>B0.out.fr f (by simp))
 have d0:w1.cell? ⟨w.heap.size+1,0,none⟩=some (.int .i64 pf):=by simpa using B0.out.cell 0
 clear L0 B0
 generalize has pf 8=h8 at *
 generalize has pf 1=h1 at *
 generalize has pf 2=h2 at *
 generalize has pf 4=h4 at *
 rcases Bool.eq_false_or_eq_true h8 with rfl|rfl
 ·go_upto_region 3 with fail
  clear d0
  have u1:∀ p:Grew w1,p.W.cell? ⟨w.heap.size+1,1,none⟩=some (.int .u32 ps):=Grew.cell (by simpa using (B1.out _ (Fr.refl [] w1)).cell 1)
  have gb:Hid (∀ p:Grew w1,Blk p.W w.heap.size 41 (arE x av uv kv)):=hI (fun p=>(L1.out _ p.fr).s)
  have hA':Hid (∀ p:Grew w1,Calls Tryz.prog 66 #[agE x av uv kv] p.W fun e w'=>e = .returned (.int .u32 (awaitedV x))∧∃ q:Grew w1,w'=q.W):=hI (fun p=>grew_call (HAW.out p.W (L1.out _ p.fr).f))
  generalize awaitedV x=aw at *
  by_cases hps:ps=aw
  ·have hp1:(ps == aw)=true:=by simpa using hps
   have hp2:decide (ps=aw)=true:=by simpa using hps
   have HPS:=hI hps
   clear hps
   refine wp_region_grew (by kernel_rfl) (by kernel_rfl) ?_
   repeat (first
    | ((with_reducible refine gateQ_load 41 (.tmp 2) ?_);refine wpQuiet_load_blk rfl 41 (.tmp 2) rfl w.heap.size 41 (arE x av uv kv) _ rfl (fun W hW=>by obtain⟨p,rfl⟩:=hW;exact gb.out p) Tryz.underlying41 rfl (by kernel_rfl) ?_;simp only [Act.put,zqA,zqB,zqC])
    | go_big_quiet_step (first|(go_at_call 66;exact hA'.out _)))
   refine wpQuiet_nil ?_
   intro W2 f2
   have L2:Hid (∀ W,Fr [] W2 W→Lo w W w.heap.size (w.heap.size+1+1) (arE x av uv kv)):=hI (fun W f=>(L1.out _ f2).grow f)
   clear u1 gb hA' f2
   go_upto_region 4 with fail
   have c2:W2.cell? ⟨w.heap.size,2,none⟩=some (.int .i64 x.at_):=(L2.out _ (Fr.refl [] W2)).s.cell 2
   have z2:=(L2.out _ (Fr.refl [] W2)).s.frozen 2
   have c3:W2.cell? ⟨w.heap.size,3,none⟩=some (.bool x.broken):=(L2.out _ (Fr.refl [] W2)).s.cell 3
   have z3:=(L2.out _ (Fr.refl [] W2)).s.frozen 3
   have hlb:=(L2.out _ (Fr.refl [] W2)).s.lt
   go_upto_region 5 with fail
   have hset:Lo w ((W2.setCell ⟨w.heap.size,2,none⟩ (.int .i64 5)).setCell ⟨w.heap.size,3,none⟩ (.bool true)) w.heap.size (w.heap.size+1+1) (arE (doneV x true) av uv kv):=by
    have hh:=(((L2.out _ (Fr.refl [] W2)).cell 2 (.int .i64 5)).cell 3 (.bool true))
    simp only [arE,zqA,zqB,zqC] at hh ⊢
    exact hh
   generalize (W2.setCell ⟨w.heap.size,2,none⟩ (.int .i64 5)).setCell ⟨w.heap.size,3,none⟩ (.bool true)=w3 at *
   have L3:Hid (∀ W,Fr [] w3 W→Lo w W w.heap.size (w.heap.size+1+1) (arE (doneV x true) av uv kv)):=hI (fun W f=>hset.grow f)
   clear hset
   clear c2 z2 c3 z3 hlb
   try dsimp only [Act.put]
   go_cut [5] (fun sl wx=>sl = .slice none 0 0∧Blk wx (w.heap.size+1+1) 41 (arE (doneV x true) av uv kv)∧Fr [(w.heap.size+1+1)] w3 wx)
   case first=>
    go_wp2_with (first
      | ((with_reducible refine gate_load 41 (.tmp 2) ?_);refine wpList_load_blk rfl 41 (.tmp 2) rfl w.heap.size 41 (arE (doneV x true) av uv kv) _ rfl (L3.out _ (by first|exact Fr.refl _ _|assumption)).s Tryz.underlying41 rfl (by kernel_rfl) ?_)
      | ((with_reducible refine gate_store 41 (.tmp 4) ?_);refine wpList_store_blk rfl 41 (.tmp 4) (.tmp 19) rfl (w.heap.size+1+1) 41 endZ (arE (doneV x true) av uv kv) rfl rfl (L3.out _ (by first|exact Fr.refl _ _|assumption)).r rfl (by kernel_rfl) (by first|exact o1.out _|exact o2.out _|simp [Value.oneCell']) ?_;intro wz Bz Fz))
    go_meet
    exact⟨rfl,Bz,Fz⟩
   case rest=>
    obtain⟨rfl,Bz,Fz⟩:=hcut
    have FW:=(L3.out _ (Fr.refl [] w3)).res Fz
    refine ‹∀(a:Act) (w:World),Code.wp Tryz.prog Code.ret _ a w→_› _ _ (wp_ret ?_)
    try simp only [Exit.then]
    change bodyPost Tryz.prog _ _ .ret _ _
    refine bodyPost_ret (results_ct 4 41 ⟨(w.heap.size+1+1),0,none⟩ _ 5 (.slice none 0 0) (by rfl) (by rfl) (end_load Bz) (by rfl)) (by rfl) ?_
    rw [HOV.out,if_pos rfl,if_pos HPS.out]
    exact⟨S,_,_,_,_,[],rfl,rfl,Ext.refl w S,(M.out.to_ (y:=doneV x true) rfl rfl rfl).fr FW,Pr.nil,FW⟩
  ·have hp1:(ps == aw)=false:=by simpa using hps
   have hp2:decide (ps=aw)=false:=by simpa using hps
   have HPS:=hI hps
   clear hps
   refine wp_region_grew (by kernel_rfl) (by kernel_rfl) ?_
   repeat (first
    | ((with_reducible refine gateQ_load 41 (.tmp 2) ?_);refine wpQuiet_load_blk rfl 41 (.tmp 2) rfl w.heap.size 41 (arE x av uv kv) _ rfl (fun W hW=>by obtain⟨p,rfl⟩:=hW;exact gb.out p) Tryz.underlying41 rfl (by kernel_rfl) ?_;simp only [Act.put,zqA,zqB,zqC])
    | go_big_quiet_step (first|(go_at_call 66;exact hA'.out _)))
   refine wpQuiet_nil ?_
   intro W2 f2
   have L2:Hid (∀ W,Fr [] W2 W→Lo w W w.heap.size (w.heap.size+1+1) (arE x av uv kv)):=hI (fun W f=>(L1.out _ f2).grow f)
   clear u1 gb hA' f2
   go_upto_region 5 with fail
   try dsimp only [Act.put]
   go_cut [5] (fun sl wx=>sl = .slice none 0 0∧Blk wx (w.heap.size+1+1) 41 (arE x av uv kv)∧Fr [(w.heap.size+1+1)] W2 wx)
   case first=>
    go_wp2_with (first
      | ((with_reducible refine gate_load 41 (.tmp 2) ?_);refine wpList_load_blk rfl 41 (.tmp 2) rfl w.heap.size 41 (arE x av uv kv) _ rfl (L2.out _ (by first|exact Fr.refl _ _|assumption)).s Tryz.underlying41 rfl (by kernel_rfl) ?_)
      | ((with_reducible refine gate_store 41 (.tmp 4) ?_);refine wpList_store_blk rfl 41 (.tmp 4) (.tmp 19) rfl (w.heap.size+1+1) 41 endZ (arE x av uv kv) rfl rfl (L2.out _ (by first|exact Fr.refl _ _|assumption)).r rfl (by kernel_rfl) (by first|exact o1.out _|exact o2.out _|simp [Value.oneCell']) ?_;intro wz Bz Fz))
    go_meet
    exact⟨rfl,Bz,Fz⟩
   case rest=>
    obtain⟨rfl,Bz,Fz⟩:=hcut
    have FW:=(L2.out _ (Fr.refl [] W2)).res Fz
    refine ‹∀(a:Act) (w:World),Code.wp Tryz.prog Code.ret _ a w→_› _ _ (wp_ret ?_)
    try simp only [Exit.then]
    change bodyPost Tryz.prog _ _ .ret _ _
    refine bodyPost_ret (results_ct 4 41 ⟨(w.heap.size+1+1),0,none⟩ _ 5 (.slice none 0 0) (by rfl) (by rfl) (end_load Bz) (by rfl)) (by rfl) ?_
    rw [HOV.out,if_pos rfl,if_neg HPS.out]
    exact⟨S,_,_,_,_,[],rfl,rfl,Ext.refl w S,M.out.fr FW,Pr.nil,FW⟩
 ·rcases Bool.eq_false_or_eq_true h1 with rfl|rfl
  ·go_upto_region 7 with fail
   clear d0
   try dsimp only [Act.put]
   go_cut [5] (fun sl wx=>∃ L,L.map (·.1)=[answerV x]∧Pr S wx sl L∧Blk wx (w.heap.size+1+1) 41 (arE (shows x) av uv kv)∧Fr [(w.heap.size+1+1)] w1 wx)
   case first=>
    go_wp2_with (first
      | ((with_reducible refine gate_load 41 (.tmp 2) ?_);refine wpList_load_blk rfl 41 (.tmp 2) rfl w.heap.size 41 (arE x av uv kv) _ rfl (L1.out _ (by first|exact Fr.refl _ _|assumption)).s Tryz.underlying41 rfl (by kernel_rfl) ?_)
      | (go_at_call 83;refine (HAN.out _ (L1.out _ (by first|exact Fr.refl _ _|assumption)).f).mono ?_;rintro e wq ⟨vq,Lq,rfl,hLq,pq,fq⟩;have fq':Fr [] w1 wq:=Fr.trans (show Fr [] w1 _ by first|exact Fr.refl _ _|assumption) fq (by simp);have LQ:=hI (L1.out _ fq');have PQ:Hid (∀ W,Fr [(w.heap.size+1+1)] wq W→Pr S W vq Lq):=hI (fun W f=>pq.fr f (fun y hy hs=>by simp at hy;subst hy;exact NSB.out hs) (fun b hb hm=>by simp at hm;subst hm;exact own_ne pq.own (L1.out _ fq').r (by decide) (mem_ob.1 hb)) (fun _ h=>h));clear pq fq)
      | ((with_reducible refine gate_store 41 (.tmp 4) ?_);refine wpList_store_blk rfl 41 (.tmp 4) (.tmp 25) rfl (w.heap.size+1+1) 41 endZ (arE (shows x) av uv kv) rfl rfl LQ.out.r rfl (by kernel_rfl) (by first|exact o1.out _|exact o2.out _|simp [Value.oneCell']) ?_;intro wz Bz Fz))
    go_meet
    exact⟨_,hLq,PQ.out _ Fz,Bz,(fq'.mono (by simp)).trans Fz (fun y hy => .inl hy)⟩
   case rest=>
    obtain⟨Ll,hLl,Pl,Bz,Fz⟩:=hcut
    have FW:=(L1.out _ (Fr.refl [] w1)).res Fz
    refine ‹∀(a:Act) (w:World),Code.wp Tryz.prog Code.ret _ a w→_› _ _ (wp_ret ?_)
    try simp only [Exit.then]
    change bodyPost Tryz.prog _ _ .ret _ _
    refine bodyPost_ret (results_ct 4 41 ⟨(w.heap.size+1+1),0,none⟩ _ 5 u5 (by rfl) (by rfl) (end_load Bz) (by rfl)) (by rfl) ?_
    rw [HOV.out,if_neg (by simp),if_pos rfl]
    exact⟨S,_,_,_,_,Ll,rfl,hLl,Ext.refl w S,(M.out.to_ (y:=shows x) rfl rfl rfl).fr FW,Pl,FW⟩
  ·rcases Bool.eq_false_or_eq_true h2 with rfl|rfl
   ·go_upto_region 10 with fail
    clear d0
    go_upto_region 11 with (first
   | ((with_reducible refine gate_load 41 (.tmp 2) ?_);refine wpList_load_blk rfl 41 (.tmp 2) rfl w.heap.size 41 (arE x av uv kv) _ rfl (L1.out _ (by first|exact Fr.refl _ _|assumption)).s Tryz.underlying41 rfl (by kernel_rfl) ?_)
   | ((with_reducible refine gate_load 49 (.tmp 3) ?_);refine wpList_load_blk rfl 49 (.tmp 3) rfl (w.heap.size+1) 49 #[.int .i64 pf, .int .u32 ps, .int .u32 pk, .int .u16 pw, .slice DA pd.length dc] _ rfl (B1.out _ (by first|exact Fr.refl _ _|assumption)) Tryz.underlying49 rfl (by kernel_rfl) ?_)
   | (go_at_call 122;refine (HAK.out _ (L1.out _ (by first|exact Fr.refl _ _|assumption)).f).mono ?_;rintro e w3 ⟨rfl,f3'⟩;have f3:Fr [] w1 w3:=Fr.trans (show Fr [] w1 _ by first|exact Fr.refl _ _|assumption) f3' (by simp);clear f3')
   | ((with_reducible refine gate_store 41 (.tmp 2) ?_);refine wpList_store_blk rfl 41 (.tmp 2) (.tmp 34) rfl w.heap.size 41 (arE x av uv kv) (arE y1 av uv kv) rfl rfl (L1.out _ f3).s rfl (by kernel_rfl) (by first|exact o1.out _|exact o2.out _|simp [Value.oneCell']) ?_;intro w4 B4 F4))
    have LA:Hid (∀ W,Fr [] w4 W→Lo w W w.heap.size (w.heap.size+1+1) (arE y1 av uv kv)):=hI (fun W f=>((L1.out _ f3).set F4 B4).grow f)
    have BA:Hid (∀ W,Fr [] w4 W→Blk W (w.heap.size+1) 49 #[.int .i64 pf, .int .u32 ps, .int .u32 pk, .int .u16 pw, .slice DA pd.length dc]):=hI (fun W f=>((B1.out _ f3).fr F4 (by simp)).fr f (by simp))
    clear F4 B4 L1 B1
    have c28:w4.cell? ⟨w.heap.size,28,none⟩=some (.bool y1.ended):=(LA.out _ (Fr.refl [] w4)).s.cell 28
    cases hen:y1.ended
    ·rw [hen] at c28
     have HEN:=hI hen
     clear hen
     go_upto_region 12 with fail
     clear c28
     go_upto_region 13 with (first
   | ((with_reducible refine gate_load 41 (.tmp 2) ?_);refine wpList_load_blk rfl 41 (.tmp 2) rfl w.heap.size 41 (arE y1 av uv kv) _ rfl (LA.out _ (by first|exact Fr.refl _ _|assumption)).s Tryz.underlying41 rfl (by kernel_rfl) ?_)
   | ((with_reducible refine gate_load 49 (.tmp 3) ?_);refine wpList_load_blk rfl 49 (.tmp 3) rfl (w.heap.size+1) 49 #[.int .i64 pf, .int .u32 ps, .int .u32 pk, .int .u16 pw, .slice DA pd.length dc] _ rfl (BA.out _ (by first|exact Fr.refl _ _|assumption)) Tryz.underlying49 rfl (by kernel_rfl) ?_)
   | (go_at_call 123;refine (HDA.out _ (LA.out _ (by first|exact Fr.refl _ _|assumption)).f).mono ?_;rintro e w5 ⟨S5,uv2,kv2,rfl,x5,m5,f5'⟩;have f5:Fr [] w4 w5:=Fr.trans (show Fr [] w4 _ by first|exact Fr.refl _ _|assumption) f5' (by simp);have ns5:¬ S5 w.heap.size:=fun hs=>(x5.2 _ hs).elim (fun h=>by have:=M.out.pub _ h;omega) (fun h=>by have h1:=(LA.out _ (Fr.refl [] w4)).s.lt;have h2:=(show Fr [] w4 _ by first|exact Fr.refl _ _|assumption).size;omega);have nsr5:¬ S5 (w.heap.size+1+1):=fun hs=>(x5.2 _ hs).elim (fun h=>by have:=M.out.pub _ h;omega) (fun h=>by have h1:=(LA.out _ (Fr.refl [] w4)).r.lt;have h2:=(show Fr [] w4 _ by first|exact Fr.refl _ _|assumption).size;omega);have NSR5:=hI nsr5;clear nsr5;have x5':Ext w S S5:=ext_up x5 (LA.out _ (by first|exact Fr.refl _ _|assumption)).f.size;have o3:=m5.cells1;have NS5:=hI ns5;have X5:=hI x5';have M5:=hI m5;clear f5' ns5 x5 x5' m5)
   | ((with_reducible refine gate_store 41 (.tmp 2) ?_);refine wpList_store_blk rfl 41 (.tmp 2) (.tmp 44) rfl w.heap.size 41 (arE y1 av uv kv) (arE y2 av uv2 kv2) rfl rfl (LA.out _ f5).s rfl (by kernel_rfl) (o3.out _) ?_;intro w6 B6 F6))
     have LD:Hid (∀ W,Fr [] w6 W→Lo w W w.heap.size (w.heap.size+1+1) (arE y2 av uv2 kv2)):=hI (fun W f=>((LA.out _ f5).set F6 B6).grow f)
     have BD:Hid (∀ W,Fr [] w6 W→Blk W (w.heap.size+1) 49 #[.int .i64 pf, .int .u32 ps, .int .u32 pk, .int .u16 pw, .slice DA pd.length dc]):=hI (fun W f=>((BA.out _ f5).fr F6 (by simp)).fr f (by simp))
     have M6:Hid (RE S5 w6 y2 av uv2 kv2):=hI (M5.out.far F6 NS5.out)
     have HAN2:Hid (∀ W,Fr [] w6 W→Calls Tryz.prog 83 #[agE y2 av uv2 kv2] W (EPart S5 W (shows y2,[answerV y2]) av uv2 kv2)):=hI (fun W g=>eanswer (M6.out.fr g) OKD.out OUD.out)
     have o1:=M6.out.cells1
     clear F6 B6 LA BA
     have d4:w6.cell? ⟨w.heap.size+1,4,none⟩=some (.slice DA pd.length dc):=by simpa using (BD.out _ (Fr.refl [] w6)).cell 4
     by_cases hz:pd.length=0
     ·have HZ0:=hI hz
      have hz1:((pd.length:Int) == 0)=true:=by rw [hz];rfl
      have hz2:(pd.length == 0)=true:=by rw [hz];rfl
      rcases Bool.eq_false_or_eq_true h4 with rfl|rfl
      ·go_upto_region 15 with fail
       clear hz hz1 hz2 d4
       try dsimp only [Act.put]
       go_cut [5] (fun sl wx=>∃ L,L.map (·.1)=[answerV y2]∧Pr S5 wx sl L∧Blk wx (w.heap.size+1+1) 41 (arE (shows y2) av uv2 kv2)∧Fr [(w.heap.size+1+1)] w6 wx)
       case first=>
        go_wp2_with (first
          | ((with_reducible refine gate_load 41 (.tmp 2) ?_);refine wpList_load_blk rfl 41 (.tmp 2) rfl w.heap.size 41 (arE y2 av uv2 kv2) _ rfl (LD.out _ (by first|exact Fr.refl _ _|assumption)).s Tryz.underlying41 rfl (by kernel_rfl) ?_)
          | (go_at_call 83;refine (HAN2.out _ (by first|exact Fr.refl _ _|assumption)).mono ?_;rintro e wq ⟨vq,Lq,rfl,hLq,pq,fq⟩;have fq':Fr [] w6 wq:=Fr.trans (show Fr [] w6 _ by first|exact Fr.refl _ _|assumption) fq (by simp);have LQ:=hI (LD.out _ fq');have PQ:Hid (∀ W,Fr [(w.heap.size+1+1)] wq W→Pr S5 W vq Lq):=hI (fun W f=>pq.fr f (fun y hy hs=>by simp at hy;subst hy;exact NSR5.out hs) (fun b hb hm=>by simp at hm;subst hm;exact own_ne pq.own (LD.out _ fq').r (by decide) (mem_ob.1 hb)) (fun _ h=>h));clear pq fq)
          | ((with_reducible refine gate_store 41 (.tmp 4) ?_);refine wpList_store_blk rfl 41 (.tmp 4) (.tmp 58) rfl (w.heap.size+1+1) 41 endZ (arE (shows y2) av uv2 kv2) rfl rfl LQ.out.r rfl (by kernel_rfl) (by first|exact o1.out _|exact o2.out _|simp [Value.oneCell']) ?_;intro wz Bz Fz))
        go_meet
        exact⟨_,hLq,PQ.out _ Fz,Bz,(fq'.mono (by simp)).trans Fz (fun y hy => .inl hy)⟩
       case rest=>
        obtain⟨Ll,hLl,Pl,Bz,Fz⟩:=hcut
        have FW:=(LD.out _ (Fr.refl [] w6)).res Fz
        refine ‹∀(a:Act) (w:World),Code.wp Tryz.prog Code.ret _ a w→_› _ _ (wp_ret ?_)
        try simp only [Exit.then]
        change bodyPost Tryz.prog _ _ .ret _ _
        refine bodyPost_ret (results_ct 4 41 ⟨(w.heap.size+1+1),0,none⟩ _ 5 u5 (by rfl) (by rfl) (end_load Bz) (by rfl)) (by rfl) ?_
        rw [HOV.out,if_neg (by simp),if_neg (by simp),if_neg (by simp),if_neg (by simp),if_neg (by rw [HEN.out];simp)]
        exact⟨S5,_,_,_,_,Ll,rfl,hLl,X5.out,(M6.out.to_ (y:=shows y2) rfl rfl rfl).far Fz NSR5.out,Pl,FW⟩
      ·go_upto_region 14 with fail
       clear hz hz1 hz2 d4
       try dsimp only [Act.put]
       go_cut [5] (fun sl wx=>sl = .slice none 0 0∧Blk wx (w.heap.size+1+1) 41 (arE y2 av uv2 kv2)∧Fr [(w.heap.size+1+1)] w6 wx)
       case first=>
        go_wp2_with (first
          | ((with_reducible refine gate_load 41 (.tmp 2) ?_);refine wpList_load_blk rfl 41 (.tmp 2) rfl w.heap.size 41 (arE y2 av uv2 kv2) _ rfl (LD.out _ (by first|exact Fr.refl _ _|assumption)).s Tryz.underlying41 rfl (by kernel_rfl) ?_)
          | ((with_reducible refine gate_store 41 (.tmp 4) ?_);refine wpList_store_blk rfl 41 (.tmp 4) (.tmp 55) rfl (w.heap.size+1+1) 41 endZ (arE y2 av uv2 kv2) rfl rfl (LD.out _ (by first|exact Fr.refl _ _|assumption)).r rfl (by kernel_rfl) (by first|exact o1.out _|exact o2.out _|simp [Value.oneCell']) ?_;intro wz Bz Fz))
        go_meet
        exact⟨rfl,Bz,Fz⟩
       case rest=>
        obtain⟨rfl,Bz,Fz⟩:=hcut
        have FW:=(LD.out _ (Fr.refl [] w6)).res Fz
        refine ‹∀(a:Act) (w:World),Code.wp Tryz.prog Code.ret _ a w→_› _ _ (wp_ret ?_)
        try simp only [Exit.then]
        change bodyPost Tryz.prog _ _ .ret _ _
        refine bodyPost_ret (results_ct 4 41 ⟨(w.heap.size+1+1),0,none⟩ _ 5 (.slice none 0 0) (by rfl) (by rfl) (end_load Bz) (by rfl)) (by rfl) ?_
        rw [HOV.out,if_neg (by simp),if_neg (by simp),if_neg (by simp),if_pos ⟨HZ0.out,rfl⟩,if_neg (by rw [HEN.out];simp)]
        exact⟨S5,_,_,_,_,[],rfl,rfl,X5.out,M6.out.far Fz NSR5.out,Pr.nil,FW⟩
     ·have HZ0:=hI hz
      have hz1:((pd.length:Int) == 0)=false:=by simpa using hz
      have hz2:(pd.length == 0)=false:=by simpa using hz
      go_upto_region 15 with fail
      clear hz hz1 hz2 d4
      try dsimp only [Act.put]
      go_cut [5] (fun sl wx=>∃ L,L.map (·.1)=[answerV y2]∧Pr S5 wx sl L∧Blk wx (w.heap.size+1+1) 41 (arE (shows y2) av uv2 kv2)∧Fr [(w.heap.size+1+1)] w6 wx)
      case first=>
       go_wp2_with (first
         | ((with_reducible refine gate_load 41 (.tmp 2) ?_);refine wpList_load_blk rfl 41 (.tmp 2) rfl w.heap.size 41 (arE y2 av uv2 kv2) _ rfl (LD.out _ (by first|exact Fr.refl _ _|assumption)).s Tryz.underlying41 rfl (by kernel_rfl) ?_)
         | (go_at_call 83;refine (HAN2.out _ (by first|exact Fr.refl _ _|assumption)).mono ?_;rintro e wq ⟨vq,Lq,rfl,hLq,pq,fq⟩;have fq':Fr [] w6 wq:=Fr.trans (show Fr [] w6 _ by first|exact Fr.refl _ _|assumption) fq (by simp);have LQ:=hI (LD.out _ fq');have PQ:Hid (∀ W,Fr [(w.heap.size+1+1)] wq W→Pr S5 W vq Lq):=hI (fun W f=>pq.fr f (fun y hy hs=>by simp at hy;subst hy;exact NSR5.out hs) (fun b hb hm=>by simp at hm;subst hm;exact own_ne pq.own (LD.out _ fq').r (by decide) (mem_ob.1 hb)) (fun _ h=>h));clear pq fq)
         | ((with_reducible refine gate_store 41 (.tmp 4) ?_);refine wpList_store_blk rfl 41 (.tmp 4) (.tmp 58) rfl (w.heap.size+1+1) 41 endZ (arE (shows y2) av uv2 kv2) rfl rfl LQ.out.r rfl (by kernel_rfl) (by first|exact o1.out _|exact o2.out _|simp [Value.oneCell']) ?_;intro wz Bz Fz))
       go_meet
       exact⟨_,hLq,PQ.out _ Fz,Bz,(fq'.mono (by simp)).trans Fz (fun y hy => .inl hy)⟩
      case rest=>
       obtain⟨Ll,hLl,Pl,Bz,Fz⟩:=hcut
       have FW:=(LD.out _ (Fr.refl [] w6)).res Fz
       refine ‹∀(a:Act) (w:World),Code.wp Tryz.prog Code.ret _ a w→_› _ _ (wp_ret ?_)
       try simp only [Exit.then]
       change bodyPost Tryz.prog _ _ .ret _ _
       refine bodyPost_ret (results_ct 4 41 ⟨(w.heap.size+1+1),0,none⟩ _ 5 u5 (by rfl) (by rfl) (end_load Bz) (by rfl)) (by rfl) ?_
       rw [HOV.out,if_neg (by simp),if_neg (by simp),if_neg (by simp),if_neg (fun h=>HZ0.out h.1),if_neg (by rw [HEN.out];simp)]
       exact⟨S5,_,_,_,_,Ll,rfl,hLl,X5.out,(M6.out.to_ (y:=shows y2) rfl rfl rfl).far Fz NSR5.out,Pl,FW⟩
    ·rw [hen] at c28
     have HEN:=hI hen
     clear hen
     go_upto_region 13 with fail
     clear c28
     have d4:w4.cell? ⟨w.heap.size+1,4,none⟩=some (.slice DA pd.length dc):=by simpa using (BA.out _ (Fr.refl [] w4)).cell 4
     by_cases hz:pd.length=0
     ·have HZ0:=hI hz
      have hz1:((pd.length:Int) == 0)=true:=by rw [hz];rfl
      have hz2:(pd.length == 0)=true:=by rw [hz];rfl
      rcases Bool.eq_false_or_eq_true h4 with rfl|rfl
      ·go_upto_region 15 with fail
       clear hz hz1 hz2 d4
       try dsimp only [Act.put]
       go_cut [5] (fun sl wx=>∃ L,L.map (·.1)=[answerV y1]∧Pr S wx sl L∧Blk wx (w.heap.size+1+1) 41 (arE (shows y1) av uv kv)∧Fr [(w.heap.size+1+1)] w4 wx)
       case first=>
        go_wp2_with (first
          | ((with_reducible refine gate_load 41 (.tmp 2) ?_);refine wpList_load_blk rfl 41 (.tmp 2) rfl w.heap.size 41 (arE y1 av uv kv) _ rfl (LA.out _ (by first|exact Fr.refl _ _|assumption)).s Tryz.underlying41 rfl (by kernel_rfl) ?_)
          | (go_at_call 83;refine (HAN1.out _ (LA.out _ (by first|exact Fr.refl _ _|assumption)).f).mono ?_;rintro e wq ⟨vq,Lq,rfl,hLq,pq,fq⟩;have fq':Fr [] w4 wq:=Fr.trans (show Fr [] w4 _ by first|exact Fr.refl _ _|assumption) fq (by simp);have LQ:=hI (LA.out _ fq');have PQ:Hid (∀ W,Fr [(w.heap.size+1+1)] wq W→Pr S W vq Lq):=hI (fun W f=>pq.fr f (fun y hy hs=>by simp at hy;subst hy;exact NSB.out hs) (fun b hb hm=>by simp at hm;subst hm;exact own_ne pq.own (LA.out _ fq').r (by decide) (mem_ob.1 hb)) (fun _ h=>h));clear pq fq)
          | ((with_reducible refine gate_store 41 (.tmp 4) ?_);refine wpList_store_blk rfl 41 (.tmp 4) (.tmp 58) rfl (w.heap.size+1+1) 41 endZ (arE (shows y1) av uv kv) rfl rfl LQ.out.r rfl (by kernel_rfl) (by first|exact o1.out _|exact o2.out _|simp [Value.oneCell']) ?_;intro wz Bz Fz))
        go_meet
        exact⟨_,hLq,PQ.out _ Fz,Bz,(fq'.mono (by simp)).trans Fz (fun y hy => .inl hy)⟩
       case rest=>
        obtain⟨Ll,hLl,Pl,Bz,Fz⟩:=hcut
        have FW:=(LA.out _ (Fr.refl [] w4)).res Fz
        refine ‹∀(a:Act) (w:World),Code.wp Tryz.prog Code.ret _ a w→_› _ _ (wp_ret ?_)
        try simp only [Exit.then]
        change bodyPost Tryz.prog _ _ .ret _ _
        refine bodyPost_ret (results_ct 4 41 ⟨(w.heap.size+1+1),0,none⟩ _ 5 u5 (by rfl) (by rfl) (end_load Bz) (by rfl)) (by rfl) ?_
        rw [HOV.out,if_neg (by simp),if_neg (by simp),if_neg (by simp),if_neg (by simp),if_pos HEN.out]
        exact⟨S,_,_,_,_,Ll,rfl,hLl,Ext.refl w S,(M1.out.to_ (y:=shows y1) rfl rfl rfl).fr FW,Pl,FW⟩
      ·go_upto_region 14 with fail
       clear hz hz1 hz2 d4
       try dsimp only [Act.put]
       go_cut [5] (fun sl wx=>sl = .slice none 0 0∧Blk wx (w.heap.size+1+1) 41 (arE y1 av uv kv)∧Fr [(w.heap.size+1+1)] w4 wx)
       case first=>
        go_wp2_with (first
          | ((with_reducible refine gate_load 41 (.tmp 2) ?_);refine wpList_load_blk rfl 41 (.tmp 2) rfl w.heap.size 41 (arE y1 av uv kv) _ rfl (LA.out _ (by first|exact Fr.refl _ _|assumption)).s Tryz.underlying41 rfl (by kernel_rfl) ?_)
          | ((with_reducible refine gate_store 41 (.tmp 4) ?_);refine wpList_store_blk rfl 41 (.tmp 4) (.tmp 55) rfl (w.heap.size+1+1) 41 endZ (arE y1 av uv kv) rfl rfl (LA.out _ (by first|exact Fr.refl _ _|assumption)).r rfl (by kernel_rfl) (by first|exact o1.out _|exact o2.out _|simp [Value.oneCell']) ?_;intro wz Bz Fz))
        go_meet
        exact⟨rfl,Bz,Fz⟩
       case rest=>
        obtain⟨rfl,Bz,Fz⟩:=hcut
        have FW:=(LA.out _ (Fr.refl [] w4)).res Fz
        refine ‹∀(a:Act) (w:World),Code.wp Tryz.prog Code.ret _ a w→_› _ _ (wp_ret ?_)
        try simp only [Exit.then]
        change bodyPost Tryz.prog _ _ .ret _ _
        refine bodyPost_ret (results_ct 4 41 ⟨(w.heap.size+1+1),0,none⟩ _ 5 (.slice none 0 0) (by rfl) (by rfl) (end_load Bz) (by rfl)) (by rfl) ?_
        rw [HOV.out,if_neg (by simp),if_neg (by simp),if_neg (by simp),if_pos ⟨HZ0.out,rfl⟩,if_pos HEN.out]
        exact⟨S,_,_,_,_,[],rfl,rfl,Ext.refl w S,M1.out.fr FW,Pr.nil,FW⟩
     ·have HZ0:=hI hz
      have hz1:((pd.length:Int) == 0)=false:=by simpa using hz
      have hz2:(pd.length == 0)=false:=by simpa using hz
      go_upto_region 15 with fail
      clear hz hz1 hz2 d4
      try dsimp only [Act.put]
      go_cut [5] (fun sl wx=>∃ L,L.map (·.1)=[answerV y1]∧Pr S wx sl L∧Blk wx (w.heap.size+1+1) 41 (arE (shows y1) av uv kv)∧Fr [(w.heap.size+1+1)] w4 wx)
      case first=>
       go_wp2_with (first
         | ((with_reducible refine gate_load 41 (.tmp 2) ?_);refine wpList_load_blk rfl 41 (.tmp 2) rfl w.heap.size 41 (arE y1 av uv kv) _ rfl (LA.out _ (by first|exact Fr.refl _ _|assumption)).s Tryz.underlying41 rfl (by kernel_rfl) ?_)
         | (go_at_call 83;refine (HAN1.out _ (LA.out _ (by first|exact Fr.refl _ _|assumption)).f).mono ?_;rintro e wq ⟨vq,Lq,rfl,hLq,pq,fq⟩;have fq':Fr [] w4 wq:=Fr.trans (show Fr [] w4 _ by first|exact Fr.refl _ _|assumption) fq (by simp);have LQ:=hI (LA.out _ fq');have PQ:Hid (∀ W,Fr [(w.heap.size+1+1)] wq W→Pr S W vq Lq):=hI (fun W f=>pq.fr f (fun y hy hs=>by simp at hy;subst hy;exact NSB.out hs) (fun b hb hm=>by simp at hm;subst hm;exact own_ne pq.own (LA.out _ fq').r (by decide) (mem_ob.1 hb)) (fun _ h=>h));clear pq fq)
         | ((with_reducible refine gate_store 41 (.tmp 4) ?_);refine wpList_store_blk rfl 41 (.tmp 4) (.tmp 58) rfl (w.heap.size+1+1) 41 endZ (arE (shows y1) av uv kv) rfl rfl LQ.out.r rfl (by kernel_rfl) (by first|exact o1.out _|exact o2.out _|simp [Value.oneCell']) ?_;intro wz Bz Fz))
       go_meet
       exact⟨_,hLq,PQ.out _ Fz,Bz,(fq'.mono (by simp)).trans Fz (fun y hy => .inl hy)⟩
      case rest=>
       obtain⟨Ll,hLl,Pl,Bz,Fz⟩:=hcut
       have FW:=(LA.out _ (Fr.refl [] w4)).res Fz
       refine ‹∀(a:Act) (w:World),Code.wp Tryz.prog Code.ret _ a w→_› _ _ (wp_ret ?_)
       try simp only [Exit.then]
       change bodyPost Tryz.prog _ _ .ret _ _
       refine bodyPost_ret (results_ct 4 41 ⟨(w.heap.size+1+1),0,none⟩ _ 5 u5 (by rfl) (by rfl) (end_load Bz) (by rfl)) (by rfl) ?_
       rw [HOV.out,if_neg (by simp),if_neg (by simp),if_neg (by simp),if_neg (fun h=>HZ0.out h.1),if_pos HEN.out]
       exact⟨S,_,_,_,_,Ll,rfl,hLl,Ext.refl w S,(M1.out.to_ (y:=shows y1) rfl rfl rfl).fr FW,Pl,FW⟩
   ·go_upto_region 9 with fail
    clear d0
    try dsimp only [Act.put]
    go_cut [5] (fun sl wx=>sl = .slice none 0 0∧Blk wx (w.heap.size+1+1) 41 (arE x av uv kv)∧Fr [(w.heap.size+1+1)] w1 wx)
    case first=>
     go_wp2_with (first
       | ((with_reducible refine gate_load 41 (.tmp 2) ?_);refine wpList_load_blk rfl 41 (.tmp 2) rfl w.heap.size 41 (arE x av uv kv) _ rfl (L1.out _ (by first|exact Fr.refl _ _|assumption)).s Tryz.underlying41 rfl (by kernel_rfl) ?_)
       | ((with_reducible refine gate_store 41 (.tmp 4) ?_);refine wpList_store_blk rfl 41 (.tmp 4) (.tmp 31) rfl (w.heap.size+1+1) 41 endZ (arE x av uv kv) rfl rfl (L1.out _ (by first|exact Fr.refl _ _|assumption)).r rfl (by kernel_rfl) (by first|exact o1.out _|exact o2.out _|simp [Value.oneCell']) ?_;intro wz Bz Fz))
     go_meet
     exact⟨rfl,Bz,Fz⟩
    case rest=>
     obtain⟨rfl,Bz,Fz⟩:=hcut
     have FW:=(L1.out _ (Fr.refl [] w1)).res Fz
     refine ‹∀(a:Act) (w:World),Code.wp Tryz.prog Code.ret _ a w→_› _ _ (wp_ret ?_)
     try simp only [Exit.then]
     change bodyPost Tryz.prog _ _ .ret _ _
     refine bodyPost_ret (results_ct 4 41 ⟨(w.heap.size+1+1),0,none⟩ _ 5 (.slice none 0 0) (by rfl) (by rfl) (end_load Bz) (by rfl)) (by rfl) ?_
     rw [HOV.out,if_neg (by simp),if_neg (by simp),if_pos (by simp)]
     exact⟨S,_,_,_,_,[],rfl,rfl,Ext.refl w S,M.out.fr FW,Pr.nil,FW⟩
theorem Pr.apart{S:Nat→Prop}{w:World}{H:Hd}{x:St}{v:Value}{L:List (Prt × Value)}(m:SI S w H x)(p:Pr S w v L):∀ b∈ob v,b∉H.own:=by
 intro b hb hm
 have hb:=mem_ob.1 hb
 obtain⟨ev,L',n⟩:=m.hp
 simp only [Hd.own,List.mem_cons,List.mem_append] at hm
 rcases hm with rfl|rfl|rfl|rfl|h|h|h
 ·exact own_ne p.own m.blk (by decide) hb
 ·exact own_ne p.own m.win (by decide) hb
 ·exact own_ne p.own m.clk (by decide) hb
 ·exact own_ne p.own n.blk (by decide) hb
 ·exact own_ne2 p.own n.kp.own (by decide) hb (mem_ob.1 h)
 ·exact own_ne2 p.own m.buf (by decide) hb (mem_ob.1 h)
 ·exact own_ne2 p.own m.unr (by decide) hb (mem_ob.1 h)
theorem Pr.lt{S:Nat→Prop}{w:World}{v:Value}{L:List (Prt × Value)}(p:Pr S w v L):∀ b∈ob v,b<w.heap.size:=fun b hb=>own_lt p.own (mem_ob.1 hb)
theorem SI.piece{S:Nat→Prop}{w:World}{H:Hd}{x:St}(m:SI S w H x){k n:Nat}(h0:0≤x.win.a)(hk:x.win.s=x.win.a+k)(h1:0<n)(h2:x.win.s+n≤x.all.length) :
  ∃ b c,H.bv = .slice (some ⟨b,0,none⟩) (bufV x).length c∧k+n≤(bufV x).length∧(bufV x).length≤c∧c≤maxLen∧Byt (fun y=>y∈ob H.bv) w (.slice (some ⟨b,k,none⟩) n (c - k)) ((x.all.drop x.win.s.toNat).take n):=by
 have hl:(bufV x).length=x.all.length - x.win.a.toNat:=by unfold bufV;rw [List.length_drop]
 have hln:k+n≤(bufV x).length:=by omega
 have hb:Byt (fun y=>y∈ob H.bv) w H.bv (bufV x):=Sl.of_own m.buf (fun b hb=>mem_ob.2 hb)
 rcases m.buf.2 with ⟨e,h⟩|⟨g,cap,cur,e,_,hg,h3,h4,_⟩
 ·omega
 ·refine⟨g,cap,e,hln,h3,h4,?_⟩
  rw [e] at hb ⊢
  have h5:=hb.cut (k:=k) (by omega)
  rw [if_neg (by omega)] at h5
  have h6:=h5.take (k:=n) (by rw [List.length_drop];omega)
  simp only [Option.map_some] at h6
  rw [add_lit',Nat.zero_add] at h6
  have h7:(bufV x).drop k=x.all.drop x.win.s.toNat:=by unfold bufV;rw [List.drop_drop];congr 1;omega
  rw [h7] at h6
  exact h6
def SPost(S:Nat→Prop)(w:World)(H:Hd)(v:Value)(L:List (Prt × Value))(r:St × List Prt)(e:Ending)(w':World):Prop:=
 ∃ S' v' L',e = .returned v'∧L'.map (·.1)=L.map (·.1)++r.2∧Ext w S S'∧SI S' w' H r.1∧Pr S' w' v' L'∧(∀ b∈ob v',(b∈ob v∨w.heap.size≤b)∧¬ S' b)∧Fr (ob v++H.own) w w'
def SendRel(S:Nat→Prop)(w:World)(H:Hd)(v:Value)(L:List (Prt × Value))(R:St × List Prt)(N:Nat)(s1:Value)(wr:World):Prop:=
 ∃ S' L' y k,SI S' wr H y∧OkS y∧Pr S' wr s1 L'∧(∀ b∈ob s1,(b∈ob v∨w.heap.size≤b)∧¬ S' b)∧Ext w S S'∧Fr (ob v++H.own) w wr∧y.all.length=N∧y.at_=4∧(N:Int) - y.win.s≤(k:Nat)∧(L'.length:Int)+(N - y.win.s)≤2000000 ∧
  (loopV k y).1=R.1∧L'.map (·.1)++(loopV k y).2=L.map (·.1)++R.2
def sentAt(g:Nat)(N:Nat)(w:World):Nat:=match w.cell? ⟨g,1,none⟩ with|some (.int _ s)=>(N - s).toNat|_=>0
theorem sentAt_eq{S:Nat→Prop}{w:World}{H:Hd}{x:St}(m:SI S w H x)(N:Nat):sentAt H.gw N w=((N:Int) - x.win.s).toNat:=by
 unfold sentAt
 rw [Win.Win.c1 m.win]
theorem app_part{S1:Nat→Prop}{w1 w2:World}{H:Hd}{x':St}{v v' dv:Value}{L:List (Prt × Value)}{p:Prt}(m1:SI S1 w1 H x')(p1:Pr S1 w1 v L)(hv:∀ b∈ob v,¬ S1 b)(by1:Byt S1 w1 dv p.d)
  (own:w2.ownsRow 0 49 5 v' (L.length+1) (prs L++[.int .i64 p.flags, .int .u32 p.seq, .int .u32 p.ack, .int .u16 p.win,dv])) (f:Fr (ob v) w1 w2) (hn:∀ b,v'.ownBlock=some b→v.ownBlock=some b∨(w1.heap.size≤b∧b<w2.heap.size)) :
  SI S1 w2 H x'∧Pr S1 w2 v' (L++[(p,dv)])∧(∀ b∈ob v',(b∈ob v∨w1.heap.size≤b)∧¬ S1 b):=by
 have hap:=Pr.apart m1 p1
 have hm:∀ y∈H.own,y∉ob v:=fun y hy hm=>hap y hm hy
 have hpub:∀ b,S1 b→b<w1.heap.size:=HP.pub' m1.hp
 have hmem:∀ {y},(y=H.g∨y=H.gw∨y=H.gc∨y=H.gh∨y∈ob H.kv∨y∈ob H.bv∨y∈ob H.uv)→y∉ob v:=fun {y} hy=>hm y (by
  simp only [Hd.own,List.mem_cons,List.mem_append];rcases hy with h|h|h|h|h|h|h <;> simp [h])
 refine⟨⟨m1.blk.fr f (hmem (by simp)),Blk.fr m1.win f (hmem (by simp)),Blk.fr m1.clk f (hmem (by simp)),m1.hp.ext' f (Ext.refl w1 S1) hv (fun y hy=>hmem (by rcases List.mem_cons.1 hy with h|h <;> simp [h])) (fun b hb=>Nat.lt_of_lt_of_le (hpub b hb) f.size),
  own_fr m1.buf f (fun b hb=>hmem (by simp [mem_ob.2 hb])),own_fr m1.unr f (fun b hb=>hmem (by simp [mem_ob.2 hb])),m1.nS,m1.bu⟩,p1.app own f hv by1,fun b hb=>?_⟩
 rcases hn b (mem_ob.1 hb) with h|h
 ·exact⟨.inl (mem_ob.2 h),hv b (mem_ob.2 h)⟩
 ·exact⟨.inr h.1,fun hs=>by have:=hpub b hs;omega⟩
theorem SI.sett{S:Nat→Prop}{w:World}{H:Hd}{x:St}(m:SI S w H x)(a b:Int):SI S ((w.setCell ⟨H.g,22,none⟩ (.int .i64 a)).setCell ⟨H.g,23,none⟩ (.int .i64 b)) H { x with timed:=a,since:=b }:=
 m.set (((Fr.refl [H.g] w).setCell (p:=⟨H.g,22,none⟩) (.inl (by simp)) _).setCell (p:=⟨H.g,23,none⟩) (.inl (by simp)) _) (by simpa using (m.blk.set_ 22 (.int .i64 a)).set_ 23 (.int .i64 b)) rfl rfl rfl rfl rfl
theorem SI.setfin{S:Nat→Prop}{w:World}{H:Hd}{x:St}(m:SI S w H x):SI S (w.setCell ⟨H.g,19,none⟩ (.bool true)) H { x with fin:=true }:=
 m.set ((Fr.refl [H.g] w).setCell (p:=⟨H.g,19,none⟩) (.inl (by simp)) _) (by simpa using m.blk.set_ 19 (.bool true)) rfl rfl rfl rfl rfl
end Go.Proofs.YtmgdbbbdhkfdmaaGreat
