import Derived.Test.YtmgdbbbdhkfdmaaGreatYC14
import Derived.Deep.DeepCutAuto
import Derived.Test.YtmgdbbbdhkfdmaaGreatYC11
import Derived.Deep.RegionHeldLaw
import Derived.Test.YtmgdbbbdhkfdmaaGreatYC10
import Derived.Test.YtmgdbbbdhkfdmaaGreatYC0
import Derived.Test.YtmgdbbbdhkfdmaaGreatYC2
set_option linter.unusedSimpArgs false
set_option linter.unusedVariables false
set_option maxHeartbeats 40000000
namespace Go.Proofs.YtmgdbbbdhkfdmaaGreat
set_option maxRecDepth 100000
open Go.RowKit Go.Deep
def EL(S:Nat->Prop)(w:World)(r:St × List Prt)(e:Ending)(w':World):Prop:=
 ∃ S' av uv kv v L,e = .returned (.tuple #[agE r.1 av uv kv,v])/\L.map (·.1)=r.2/\Ext w S S'/\RE S' w' r.1 av uv kv/\Pr S' w' v L/\Fr [] w w'
theorem OkU.of{x y:St}(h:OkU x)(h1:y.isn=x.isn)(h2:y.peer=x.peer):OkU y:=⟨by rw [h1];exact h.i0,by rw [h1];exact h.i1,by rw [h2];exact h.p0,by rw [h2];exact h.p1⟩
theorem qnl(x:St)(p:Prt):(zy x p).isn=x.isn/\(zy x p).peer=x.peer/\(zy x p).all=x.all:=by
 unfold zy qB
 (repeat' split) <;> exact⟨rfl,rfl,rfl⟩
theorem qgm(x:St)(p:Prt):(jv x p).isn=x.isn/\(jv x p).peer=x.peer:=by
 rw [xH];split <;> exact⟨rfl,rfl⟩
theorem RE.far{S:Nat->Prop}{w w':World}{x:St}{av uv kv:Value}{b:Nat}(m:RE S w x av uv kv)(f:Fr [b] w w')(h:¬ S b):RE S w' x av uv kv:=
 m.ext f (fun y hy=>by simp at hy;subst hy;exact h) (fun _ h=>h) (fun c hc=>Nat.lt_of_lt_of_le (m.pub c hc) f.size)
theorem EL.up{S S1:Nat->Prop}{w w1:World}{r:St × List Prt}{e:Ending}{w':World}(x1:Ext w S S1)(f:Fr [] w w1)(h:EL S1 w1 r e w'):EL S w r e w':=by
 obtain⟨S',av,uv,kv,v,L,h1,h2,h3,h4,h5,h6⟩:=h;exact⟨S',av,uv,kv,v,L,h1,h2,x1.trans f.size h3,h4,h5,f.trans h6 zs⟩
theorem eopen{S:Nat->Prop}{w:World}{x:St}{av uv kv:Value}(m:RE S w x av uv kv)(ok:Ok x)(ou:OkU x)(p:Prt)(f0:0<=p.flags)(f1:p.flags<=15)(s0:0<=p.seq)(s1:p.seq<4294967296)(k0:0<=p.ack)(k1:p.ack<4294967296)(r0:0<=p.win)(r1:p.win<65536)(hdl:p.d.length<=100)
  (DA:Option Addr) (dc:Nat) (T:Nat->Prop) (hd:Byt T w (.slice DA p.d.length dc) p.d) (hT:∀ b,T b->b<w.heap.size):Calls Tryz.prog 108 #[agE x av uv kv,agP p (.slice DA p.d.length dc)] w (EL S w (zN x p)):=by
 have o1:=m.qN;obtain⟨pf,ps,pk,pw,pd⟩:=p;dsimp only at f0 f1 s0 s1 k0 k1 r0 r1 hdl hd |-
 have e8:(pf / 8 == 1)=has pf 8:=by unfold has;rw [Bool.eq_iff_iff];simp;omega
 have e1:(pf % 2 == 1)=has pf 1:=by unfold has;rw [Bool.eq_iff_iff];simp
 have e2:(pf / 2 % 2 == 0)=!has pf 2:=by unfold has;rw [Bool.eq_iff_iff];simp;omega
 have e4:(pf / 4 % 2 == 1)=has pf 4:=rfl;have e5:(pf / 4 % 2 == 0)=!has pf 4:=by unfold has;rw [Bool.eq_iff_iff];simp;omega
 obtain⟨l0,b0⟩:=Lo.yx w (arE x av uv kv) #[.int .i64 pf, .int .u32 ps, .int .u32 pk, .int .u16 pw, .slice DA pd.length dc];have hov:zN x ⟨pf,ps,pk,pw,pd⟩=if has pf 8 then (if ps=ku x then kS x true else x,[]) else if has pf 1 then (shows x,[qJ x]) else if !has pf 2 then (x,[]) else
  if pd.length=0/\has pf 4=false then ((if (zy x ⟨pf,ps,pk,pw,pd⟩).ended then zy x ⟨pf,ps,pk,pw,pd⟩ else jv (zy x ⟨pf,ps,pk,pw,pd⟩) ⟨pf,ps,pk,pw,pd⟩),[]) else (shows (if (zy x ⟨pf,ps,pk,pw,pd⟩).ended then zy x ⟨pf,ps,pk,pw,pd⟩ else jv (zy x ⟨pf,ps,pk,pw,pd⟩) ⟨pf,ps,pk,pw,pd⟩),[qJ (if (zy x ⟨pf,ps,pk,pw,pd⟩).ended then zy x ⟨pf,ps,pk,pw,pd⟩ else jv (zy x ⟨pf,ps,pk,pw,pd⟩) ⟨pf,ps,pk,pw,pd⟩)]):=rfl
 generalize zN x ⟨pf,ps,pk,pw,pd⟩=ov at *
 have haw:=fun W (g:Fr [] w W)=>qam (m.fr g) ok.s ou;have han:=fun W (g:Fr [] w W)=>yz (m.fr g) ok.s ou;have hak:=fun W (g:Fr [] w W)=>eacks (m.fr g) ok.s ou ⟨pf,ps,pk,pw,pd⟩ k0 k1 r0 r1 DA pd.length dc;have y1n:=qnl x ⟨pf,ps,pk,pw,pd⟩;have y1s:=qdp x ⟨pf,ps,pk,pw,pd⟩;have oka:=Ok.acks ok ⟨pf,ps,pk,pw,pd⟩;have m1:=m.to_ (y:=zy x ⟨pf,ps,pk,pw,pd⟩) y1n.2.2 y1s.2.1 y1s.1;have oua:=ou.of y1n.1 y1n.2.1;generalize zy x ⟨pf,ps,pk,pw,pd⟩=y1 at *
 have han1:=fun W (g:Fr [] w W)=>yz (m1.fr g) oka.s oua;have hda:=fun W (g:Fr [] w W)=>edata (m1.fr g) oka.s oua ⟨pf,ps,pk,pw,pd⟩ s0 s1 hdl DA dc T (hd.fr g zs) (fun b hb=>Nat.lt_of_lt_of_le (hT b hb) g.size);have okd:=Ok.data oka ⟨pf,ps,pk,pw,pd⟩ hdl;have oud:=oua.of (qgm y1 ⟨pf,ps,pk,pw,pd⟩).1 (qgm y1 ⟨pf,ps,pk,pw,pd⟩).2;dsimp only at hda hak;generalize jv y1 ⟨pf,ps,pk,pw,pd⟩=y2 at *
 have HOV:=hI hov;clear hov;have HAW:=hI haw;have HAN:=hI han;have HAK:=hI hak;have HAN1:=hI han1;have HDA:=hI hda;have OKD:=hI okd.s;have OUD:=hI oud;have NSB:Hid (¬ S (w.heap.size+1+1)):=hI (fun hs=>by have:=m.pub _ hs;omega);have M:=hI m;have M1:=hI m1;have L0:=hI l0;have B0:=hI b0;clear haw han hak han1 hda m m1 l0 b0 ok ou oka oua okd oud hd hT y1n y1s;go_enter Tryz.func108,Tryz.ntmps108;go_upto_region 1 with fail
 generalize ((w.alloc (.cells (arE x av uv kv) 41)).alloc (.cells #[.int .i64 pf, .int .u32 ps, .int .u32 pk, .int .u16 pw, .slice DA pd.length dc] 49)).alloc (.cells qy 41)=w1 at *
 have L1:Hid (∀ W,Fr [] w1 W->Lo w W w.heap.size (w.heap.size+1+1) (arE x av uv kv)):=hI (fun W f=>L0.out.grow f);have B1:Hid (∀ W,Fr [] w1 W->Blk W (w.heap.size+1) 49 #[.int .i64 pf, .int .u32 ps, .int .u32 pk, .int .u16 pw, .slice DA pd.length dc]):=hI (fun W f=>B0.out.fr f zs);have d0:w1.cell? ⟨w.heap.size+1,0,none⟩=some (.int .i64 pf):=by simpa using B0.out.cell 0
 clear L0 B0;generalize has pf 8=h8 at *
 generalize has pf 1=h1 at *
 generalize has pf 2=h2 at *
 generalize has pf 4=h4 at *
 rcases Bool.eq_false_or_eq_true h8 with rfl|rfl
 ·go_upto_region 3 with fail
  clear d0;have u1:∀ p:Grew w1,p.W.cell? ⟨w.heap.size+1,1,none⟩=some (.int .u32 ps):=Grew.cell (by simpa using (B1.out _ (Fr.refl [] w1)).cell 1);have gb:Hid (∀ p:Grew w1,Blk p.W w.heap.size 41 (arE x av uv kv)):=hI (fun p=>(L1.out _ p.fr).s);have hA':Hid (∀ p:Grew w1,Calls Tryz.prog 66 #[agE x av uv kv] p.W fun e w'=>e = .returned (.int .u32 (ku x))/\∃ q:Grew w1,w'=q.W):=hI (fun p=>qG (HAW.out p.W (L1.out _ p.fr).f));generalize ku x=aw at *
  by_cases hps:ps=aw
  ·have hp1:(ps == aw)=true:=by simpa using hps
   have hp2:decide (ps=aw)=true:=by simpa using hps
   have HPS:=hI hps;clear hps;refine qg zk zk ?_;repeat (first
    | ((with_reducible refine kC 41 (.tmp 2) ?_);refine qH rfl 41 (.tmp 2) rfl w.heap.size 41 (arE x av uv kv) _ rfl (fun W hW=>by obtain⟨p,rfl⟩:=hW;exact gb.out p) Tryz.underlying41 rfl zk ?_;simp only [Act.put,zqA,zqB,zqC])
    | go_big_quiet_step (first|(go_at_call 66;exact hA'.out _)))
   refine wpQuiet_nil ?_;intro W2 f2;have L2:Hid (∀ W,Fr [] W2 W->Lo w W w.heap.size (w.heap.size+1+1) (arE x av uv kv)):=hI (fun W f=>(L1.out _ f2).grow f);clear u1 gb hA' f2;go_upto_region 4 with fail
   have c2:W2.cell? ⟨w.heap.size,2,none⟩=some (.int .i64 x.at_):=(L2.out _ (Fr.refl [] W2)).s.cell 2;have z2:=(L2.out _ (Fr.refl [] W2)).s.frozen 2;have c3:W2.cell? ⟨w.heap.size,3,none⟩=some (.bool x.broken):=(L2.out _ (Fr.refl [] W2)).s.cell 3;have z3:=(L2.out _ (Fr.refl [] W2)).s.frozen 3;have hlb:=(L2.out _ (Fr.refl [] W2)).s.lt;go_upto_region 5 with fail
   have hset:Lo w ((W2.setCell ⟨w.heap.size,2,none⟩ (.int .i64 5)).setCell ⟨w.heap.size,3,none⟩ (.bool true)) w.heap.size (w.heap.size+1+1) (arE (kS x true) av uv kv):=by
    have hh:=(((L2.out _ (Fr.refl [] W2)).cell 2 (.int .i64 5)).cell 3 (.bool true));simp only [arE,zqA,zqB,zqC] at hh |-
    exact hh
   generalize (W2.setCell ⟨w.heap.size,2,none⟩ (.int .i64 5)).setCell ⟨w.heap.size,3,none⟩ (.bool true)=w3 at *
   have L3:Hid (∀ W,Fr [] w3 W->Lo w W w.heap.size (w.heap.size+1+1) (arE (kS x true) av uv kv)):=hI (fun W f=>hset.grow f);clear hset;clear c2 z2 c3 z3 hlb;try dsimp only [Act.put]
   go_cut [5] (fun sl wx=>sl = .slice none 0 0/\Blk wx (w.heap.size+1+1) 41 (arE (kS x true) av uv kv)/\Fr [(w.heap.size+1+1)] w3 wx);case first=>
    go_wp2_with (first
      | ((with_reducible refine qj 41 (.tmp 2) ?_);refine qf rfl 41 (.tmp 2) rfl w.heap.size 41 (arE (kS x true) av uv kv) _ rfl (L3.out _ zf).s Tryz.underlying41 rfl zk ?_)|((with_reducible refine qi 41 (.tmp 4) ?_);refine qc rfl 41 (.tmp 4) (.tmp 19) rfl (w.heap.size+1+1) 41 qy (arE (kS x true) av uv kv) rfl rfl (L3.out _ zf).r rfl zk zq ?_;intro wz Bz Fz))
    go_meet;exact⟨rfl,Bz,Fz⟩
   case rest=>
    obtain⟨rfl,Bz,Fz⟩:=hcut;have FW:=(L3.out _ (Fr.refl [] w3)).res Fz;refine ‹∀(a:Act) (w:World),Code.wp Tryz.prog Code.ret _ a w->_› _ _ (wp_ret ?_);try simp only [Exit.then]
    change bodyPost Tryz.prog _ _ .ret _ _;refine bodyPost_ret (qx 4 41 ⟨(w.heap.size+1+1),0,none⟩ _ 5 (.slice none 0 0) zr zr (qw Bz) zr) zr ?_;rw [HOV.out,if_pos rfl,if_pos HPS.out];exact⟨S,_,_,_,_,[],rfl,rfl,Ext.refl w S,(M.out.to_ (y:=kS x true) rfl rfl rfl).fr FW,Pr.nil,FW⟩
  ·have hp1:(ps == aw)=false:=by simpa using hps
   have hp2:decide (ps=aw)=false:=by simpa using hps
   have HPS:=hI hps;clear hps;refine qg zk zk ?_;repeat (first
    | ((with_reducible refine kC 41 (.tmp 2) ?_);refine qH rfl 41 (.tmp 2) rfl w.heap.size 41 (arE x av uv kv) _ rfl (fun W hW=>by obtain⟨p,rfl⟩:=hW;exact gb.out p) Tryz.underlying41 rfl zk ?_;simp only [Act.put,zqA,zqB,zqC])
    | go_big_quiet_step (first|(go_at_call 66;exact hA'.out _)))
   refine wpQuiet_nil ?_;intro W2 f2;have L2:Hid (∀ W,Fr [] W2 W->Lo w W w.heap.size (w.heap.size+1+1) (arE x av uv kv)):=hI (fun W f=>(L1.out _ f2).grow f);clear u1 gb hA' f2;go_upto_region 5 with fail
   try dsimp only [Act.put]
   go_cut [5] (fun sl wx=>sl = .slice none 0 0/\Blk wx (w.heap.size+1+1) 41 (arE x av uv kv)/\Fr [(w.heap.size+1+1)] W2 wx);case first=>
    go_wp2_with (first
      | ((with_reducible refine qj 41 (.tmp 2) ?_);refine qf rfl 41 (.tmp 2) rfl w.heap.size 41 (arE x av uv kv) _ rfl (L2.out _ zf).s Tryz.underlying41 rfl zk ?_)|((with_reducible refine qi 41 (.tmp 4) ?_);refine qc rfl 41 (.tmp 4) (.tmp 19) rfl (w.heap.size+1+1) 41 qy (arE x av uv kv) rfl rfl (L2.out _ zf).r rfl zk zq ?_;intro wz Bz Fz))
    go_meet;exact⟨rfl,Bz,Fz⟩
   case rest=>
    obtain⟨rfl,Bz,Fz⟩:=hcut;have FW:=(L2.out _ (Fr.refl [] W2)).res Fz;refine ‹∀(a:Act) (w:World),Code.wp Tryz.prog Code.ret _ a w->_› _ _ (wp_ret ?_);try simp only [Exit.then]
    change bodyPost Tryz.prog _ _ .ret _ _;refine bodyPost_ret (qx 4 41 ⟨(w.heap.size+1+1),0,none⟩ _ 5 (.slice none 0 0) zr zr (qw Bz) zr) zr ?_;rw [HOV.out,if_pos rfl,if_neg HPS.out];exact⟨S,_,_,_,_,[],rfl,rfl,Ext.refl w S,M.out.fr FW,Pr.nil,FW⟩
 ·rcases Bool.eq_false_or_eq_true h1 with rfl|rfl
  ·go_upto_region 7 with fail
   clear d0;try dsimp only [Act.put]
   go_cut [5] (fun sl wx=>∃ L,L.map (·.1)=[qJ x]/\Pr S wx sl L/\Blk wx (w.heap.size+1+1) 41 (arE (shows x) av uv kv)/\Fr [(w.heap.size+1+1)] w1 wx);case first=>
    go_wp2_with (first
      | ((with_reducible refine qj 41 (.tmp 2) ?_);refine qf rfl 41 (.tmp 2) rfl w.heap.size 41 (arE x av uv kv) _ rfl (L1.out _ zf).s Tryz.underlying41 rfl zk ?_)|(go_at_call 83;refine (HAN.out _ (L1.out _ zf).f).mono ?_;rintro e wq ⟨vq,Lq,rfl,hLq,pq,fq⟩;have fq':Fr [] w1 wq:=Fr.trans (show Fr [] w1 _ by first|exact Fr.refl _ _|assumption) fq zs;have LQ:=hI (L1.out _ fq');have PQ:Hid (∀ W,Fr [(w.heap.size+1+1)] wq W->Pr S W vq Lq):=hI (fun W f=>pq.fr f (fun y hy hs=>by simp at hy;subst hy;exact NSB.out hs) (fun b hb hm=>by simp at hm;subst hm;exact own_ne pq.own (L1.out _ fq').r zd (qo.1 hb)) (fun _ h=>h));clear pq fq)|((with_reducible refine qi 41 (.tmp 4) ?_);refine qc rfl 41 (.tmp 4) (.tmp 25) rfl (w.heap.size+1+1) 41 qy (arE (shows x) av uv kv) rfl rfl LQ.out.r rfl zk zq ?_;intro wz Bz Fz))
    go_meet;exact⟨_,hLq,PQ.out _ Fz,Bz,(fq'.mono zs).trans Fz (fun y hy => .inl hy)⟩
   case rest=>
    obtain⟨Ll,hLl,Pl,Bz,Fz⟩:=hcut;have FW:=(L1.out _ (Fr.refl [] w1)).res Fz;refine ‹∀(a:Act) (w:World),Code.wp Tryz.prog Code.ret _ a w->_› _ _ (wp_ret ?_);try simp only [Exit.then]
    change bodyPost Tryz.prog _ _ .ret _ _;refine bodyPost_ret (qx 4 41 ⟨(w.heap.size+1+1),0,none⟩ _ 5 u5 zr zr (qw Bz) zr) zr ?_;rw [HOV.out,if_neg zs,if_pos rfl];exact⟨S,_,_,_,_,Ll,rfl,hLl,Ext.refl w S,(M.out.to_ (y:=shows x) rfl rfl rfl).fr FW,Pl,FW⟩
  ·rcases Bool.eq_false_or_eq_true h2 with rfl|rfl
   ·go_upto_region 10 with fail
    clear d0;go_upto_region 11 with (first
   | ((with_reducible refine qj 41 (.tmp 2) ?_);refine qf rfl 41 (.tmp 2) rfl w.heap.size 41 (arE x av uv kv) _ rfl (L1.out _ zf).s Tryz.underlying41 rfl zk ?_)|((with_reducible refine qj 49 (.tmp 3) ?_);refine qf rfl 49 (.tmp 3) rfl (w.heap.size+1) 49 #[.int .i64 pf, .int .u32 ps, .int .u32 pk, .int .u16 pw, .slice DA pd.length dc] _ rfl (B1.out _ zf) Tryz.underlying49 rfl zk ?_)|(go_at_call 122;refine (HAK.out _ (L1.out _ zf).f).mono ?_;rintro e w3 ⟨rfl,f3'⟩;have f3:Fr [] w1 w3:=Fr.trans (show Fr [] w1 _ by first|exact Fr.refl _ _|assumption) f3' zs;clear f3')|((with_reducible refine qi 41 (.tmp 2) ?_);refine qc rfl 41 (.tmp 2) (.tmp 34) rfl w.heap.size 41 (arE x av uv kv) (arE y1 av uv kv) rfl rfl (L1.out _ f3).s rfl zk zq ?_;intro w4 B4 F4))
    have LA:Hid (∀ W,Fr [] w4 W->Lo w W w.heap.size (w.heap.size+1+1) (arE y1 av uv kv)):=hI (fun W f=>((L1.out _ f3).set F4 B4).grow f);have BA:Hid (∀ W,Fr [] w4 W->Blk W (w.heap.size+1) 49 #[.int .i64 pf, .int .u32 ps, .int .u32 pk, .int .u16 pw, .slice DA pd.length dc]):=hI (fun W f=>((B1.out _ f3).fr F4 zs).fr f zs);clear F4 B4 L1 B1;have c28:w4.cell? ⟨w.heap.size,28,none⟩=some (.bool y1.ended):=(LA.out _ (Fr.refl [] w4)).s.cell 28;cases hen:y1.ended
    ·rw [hen] at c28
     have HEN:=hI hen;clear hen;go_upto_region 12 with fail
     clear c28;go_upto_region 13 with (first
   | ((with_reducible refine qj 41 (.tmp 2) ?_);refine qf rfl 41 (.tmp 2) rfl w.heap.size 41 (arE y1 av uv kv) _ rfl (LA.out _ zf).s Tryz.underlying41 rfl zk ?_)|((with_reducible refine qj 49 (.tmp 3) ?_);refine qf rfl 49 (.tmp 3) rfl (w.heap.size+1) 49 #[.int .i64 pf, .int .u32 ps, .int .u32 pk, .int .u16 pw, .slice DA pd.length dc] _ rfl (BA.out _ zf) Tryz.underlying49 rfl zk ?_)|(go_at_call 123;refine (HDA.out _ (LA.out _ zf).f).mono ?_;rintro e w5 ⟨S5,uv2,kv2,rfl,x5,m5,f5'⟩;have f5:Fr [] w4 w5:=Fr.trans (show Fr [] w4 _ by first|exact Fr.refl _ _|assumption) f5' zs;have ns5:¬ S5 w.heap.size:=fun hs=>(x5.2 _ hs).elim (fun h=>by have:=M.out.pub _ h;omega) (fun h=>by have h1:=(LA.out _ (Fr.refl [] w4)).s.lt;have h2:=(show Fr [] w4 _ by first|exact Fr.refl _ _|assumption).size;omega);have nsr5:¬ S5 (w.heap.size+1+1):=fun hs=>(x5.2 _ hs).elim (fun h=>by have:=M.out.pub _ h;omega) (fun h=>by have h1:=(LA.out _ (Fr.refl [] w4)).r.lt;have h2:=(show Fr [] w4 _ by first|exact Fr.refl _ _|assumption).size;omega);have NSR5:=hI nsr5;clear nsr5;have x5':Ext w S S5:=kM x5 (LA.out _ zf).f.size;have o3:=m5.qN;have NS5:=hI ns5;have X5:=hI x5';have M5:=hI m5;clear f5' ns5 x5 x5' m5)|((with_reducible refine qi 41 (.tmp 2) ?_);refine qc rfl 41 (.tmp 2) (.tmp 44) rfl w.heap.size 41 (arE y1 av uv kv) (arE y2 av uv2 kv2) rfl rfl (LA.out _ f5).s rfl zk (o3.out _) ?_;intro w6 B6 F6))
     have LD:Hid (∀ W,Fr [] w6 W->Lo w W w.heap.size (w.heap.size+1+1) (arE y2 av uv2 kv2)):=hI (fun W f=>((LA.out _ f5).set F6 B6).grow f);have BD:Hid (∀ W,Fr [] w6 W->Blk W (w.heap.size+1) 49 #[.int .i64 pf, .int .u32 ps, .int .u32 pk, .int .u16 pw, .slice DA pd.length dc]):=hI (fun W f=>((BA.out _ f5).fr F6 zs).fr f zs);have M6:Hid (RE S5 w6 y2 av uv2 kv2):=hI (M5.out.far F6 NS5.out);have HAN2:Hid (∀ W,Fr [] w6 W->Calls Tryz.prog 83 #[agE y2 av uv2 kv2] W (vS S5 W (shows y2,[qJ y2]) av uv2 kv2)):=hI (fun W g=>yz (M6.out.fr g) OKD.out OUD.out);have o1:=M6.out.qN;clear F6 B6 LA BA;have d4:w6.cell? ⟨w.heap.size+1,4,none⟩=some (.slice DA pd.length dc):=(by simpa using (BD.out _ (Fr.refl [] w6)).cell 4);by_cases hz:pd.length=0
     ·have HZ0:=hI hz
      have hz1:((pd.length:Int) == 0)=true:=(by rw [hz];rfl);have hz2:(pd.length == 0)=true:=(by rw [hz];rfl);rcases Bool.eq_false_or_eq_true h4 with rfl|rfl
      ·go_upto_region 15 with fail
       clear hz hz1 hz2 d4;try dsimp only [Act.put]
       go_cut [5] (fun sl wx=>∃ L,L.map (·.1)=[qJ y2]/\Pr S5 wx sl L/\Blk wx (w.heap.size+1+1) 41 (arE (shows y2) av uv2 kv2)/\Fr [(w.heap.size+1+1)] w6 wx);case first=>
        go_wp2_with (first
          | ((with_reducible refine qj 41 (.tmp 2) ?_);refine qf rfl 41 (.tmp 2) rfl w.heap.size 41 (arE y2 av uv2 kv2) _ rfl (LD.out _ zf).s Tryz.underlying41 rfl zk ?_)|(go_at_call 83;refine (HAN2.out _ zf).mono ?_;rintro e wq ⟨vq,Lq,rfl,hLq,pq,fq⟩;have fq':Fr [] w6 wq:=Fr.trans (show Fr [] w6 _ by first|exact Fr.refl _ _|assumption) fq zs;have LQ:=hI (LD.out _ fq');have PQ:Hid (∀ W,Fr [(w.heap.size+1+1)] wq W->Pr S5 W vq Lq):=hI (fun W f=>pq.fr f (fun y hy hs=>by simp at hy;subst hy;exact NSR5.out hs) (fun b hb hm=>by simp at hm;subst hm;exact own_ne pq.own (LD.out _ fq').r zd (qo.1 hb)) (fun _ h=>h));clear pq fq)|((with_reducible refine qi 41 (.tmp 4) ?_);refine qc rfl 41 (.tmp 4) (.tmp 58) rfl (w.heap.size+1+1) 41 qy (arE (shows y2) av uv2 kv2) rfl rfl LQ.out.r rfl zk zq ?_;intro wz Bz Fz))
        go_meet;exact⟨_,hLq,PQ.out _ Fz,Bz,(fq'.mono zs).trans Fz (fun y hy => .inl hy)⟩
       case rest=>
        obtain⟨Ll,hLl,Pl,Bz,Fz⟩:=hcut;have FW:=(LD.out _ (Fr.refl [] w6)).res Fz;refine ‹∀(a:Act) (w:World),Code.wp Tryz.prog Code.ret _ a w->_› _ _ (wp_ret ?_);try simp only [Exit.then]
        change bodyPost Tryz.prog _ _ .ret _ _;refine bodyPost_ret (qx 4 41 ⟨(w.heap.size+1+1),0,none⟩ _ 5 u5 zr zr (qw Bz) zr) zr ?_;rw [HOV.out,if_neg zs,if_neg zs,if_neg zs,if_neg zs,if_neg (by rw [HEN.out];simp)];exact⟨S5,_,_,_,_,Ll,rfl,hLl,X5.out,(M6.out.to_ (y:=shows y2) rfl rfl rfl).far Fz NSR5.out,Pl,FW⟩
      ·go_upto_region 14 with fail
       clear hz hz1 hz2 d4;try dsimp only [Act.put]
       go_cut [5] (fun sl wx=>sl = .slice none 0 0/\Blk wx (w.heap.size+1+1) 41 (arE y2 av uv2 kv2)/\Fr [(w.heap.size+1+1)] w6 wx);case first=>
        go_wp2_with (first
          | ((with_reducible refine qj 41 (.tmp 2) ?_);refine qf rfl 41 (.tmp 2) rfl w.heap.size 41 (arE y2 av uv2 kv2) _ rfl (LD.out _ zf).s Tryz.underlying41 rfl zk ?_)|((with_reducible refine qi 41 (.tmp 4) ?_);refine qc rfl 41 (.tmp 4) (.tmp 55) rfl (w.heap.size+1+1) 41 qy (arE y2 av uv2 kv2) rfl rfl (LD.out _ zf).r rfl zk zq ?_;intro wz Bz Fz))
        go_meet;exact⟨rfl,Bz,Fz⟩
       case rest=>
        obtain⟨rfl,Bz,Fz⟩:=hcut;have FW:=(LD.out _ (Fr.refl [] w6)).res Fz;refine ‹∀(a:Act) (w:World),Code.wp Tryz.prog Code.ret _ a w->_› _ _ (wp_ret ?_);try simp only [Exit.then]
        change bodyPost Tryz.prog _ _ .ret _ _;refine bodyPost_ret (qx 4 41 ⟨(w.heap.size+1+1),0,none⟩ _ 5 (.slice none 0 0) zr zr (qw Bz) zr) zr ?_;rw [HOV.out,if_neg zs,if_neg zs,if_neg zs,if_pos ⟨HZ0.out,rfl⟩,if_neg (by rw [HEN.out];simp)];exact⟨S5,_,_,_,_,[],rfl,rfl,X5.out,M6.out.far Fz NSR5.out,Pr.nil,FW⟩
     ·have HZ0:=hI hz
      have hz1:((pd.length:Int) == 0)=false:=(by simpa using hz);have hz2:(pd.length == 0)=false:=(by simpa using hz);go_upto_region 15 with fail
      clear hz hz1 hz2 d4;try dsimp only [Act.put]
      go_cut [5] (fun sl wx=>∃ L,L.map (·.1)=[qJ y2]/\Pr S5 wx sl L/\Blk wx (w.heap.size+1+1) 41 (arE (shows y2) av uv2 kv2)/\Fr [(w.heap.size+1+1)] w6 wx);case first=>
       go_wp2_with (first
         | ((with_reducible refine qj 41 (.tmp 2) ?_);refine qf rfl 41 (.tmp 2) rfl w.heap.size 41 (arE y2 av uv2 kv2) _ rfl (LD.out _ zf).s Tryz.underlying41 rfl zk ?_)|(go_at_call 83;refine (HAN2.out _ zf).mono ?_;rintro e wq ⟨vq,Lq,rfl,hLq,pq,fq⟩;have fq':Fr [] w6 wq:=Fr.trans (show Fr [] w6 _ by first|exact Fr.refl _ _|assumption) fq zs;have LQ:=hI (LD.out _ fq');have PQ:Hid (∀ W,Fr [(w.heap.size+1+1)] wq W->Pr S5 W vq Lq):=hI (fun W f=>pq.fr f (fun y hy hs=>by simp at hy;subst hy;exact NSR5.out hs) (fun b hb hm=>by simp at hm;subst hm;exact own_ne pq.own (LD.out _ fq').r zd (qo.1 hb)) (fun _ h=>h));clear pq fq)|((with_reducible refine qi 41 (.tmp 4) ?_);refine qc rfl 41 (.tmp 4) (.tmp 58) rfl (w.heap.size+1+1) 41 qy (arE (shows y2) av uv2 kv2) rfl rfl LQ.out.r rfl zk zq ?_;intro wz Bz Fz))
       go_meet;exact⟨_,hLq,PQ.out _ Fz,Bz,(fq'.mono zs).trans Fz (fun y hy => .inl hy)⟩
      case rest=>
       obtain⟨Ll,hLl,Pl,Bz,Fz⟩:=hcut;have FW:=(LD.out _ (Fr.refl [] w6)).res Fz;refine ‹∀(a:Act) (w:World),Code.wp Tryz.prog Code.ret _ a w->_› _ _ (wp_ret ?_);try simp only [Exit.then]
       change bodyPost Tryz.prog _ _ .ret _ _;refine bodyPost_ret (qx 4 41 ⟨(w.heap.size+1+1),0,none⟩ _ 5 u5 zr zr (qw Bz) zr) zr ?_;rw [HOV.out,if_neg zs,if_neg zs,if_neg zs,if_neg (fun h=>HZ0.out h.1),if_neg (by rw [HEN.out];simp)];exact⟨S5,_,_,_,_,Ll,rfl,hLl,X5.out,(M6.out.to_ (y:=shows y2) rfl rfl rfl).far Fz NSR5.out,Pl,FW⟩
    ·rw [hen] at c28
     have HEN:=hI hen;clear hen;go_upto_region 13 with fail
     clear c28;have d4:w4.cell? ⟨w.heap.size+1,4,none⟩=some (.slice DA pd.length dc):=(by simpa using (BA.out _ (Fr.refl [] w4)).cell 4);by_cases hz:pd.length=0
     ·have HZ0:=hI hz
      have hz1:((pd.length:Int) == 0)=true:=(by rw [hz];rfl);have hz2:(pd.length == 0)=true:=(by rw [hz];rfl);rcases Bool.eq_false_or_eq_true h4 with rfl|rfl
      ·go_upto_region 15 with fail
       clear hz hz1 hz2 d4;try dsimp only [Act.put]
       go_cut [5] (fun sl wx=>∃ L,L.map (·.1)=[qJ y1]/\Pr S wx sl L/\Blk wx (w.heap.size+1+1) 41 (arE (shows y1) av uv kv)/\Fr [(w.heap.size+1+1)] w4 wx);case first=>
        go_wp2_with (first
          | ((with_reducible refine qj 41 (.tmp 2) ?_);refine qf rfl 41 (.tmp 2) rfl w.heap.size 41 (arE y1 av uv kv) _ rfl (LA.out _ zf).s Tryz.underlying41 rfl zk ?_)|(go_at_call 83;refine (HAN1.out _ (LA.out _ zf).f).mono ?_;rintro e wq ⟨vq,Lq,rfl,hLq,pq,fq⟩;have fq':Fr [] w4 wq:=Fr.trans (show Fr [] w4 _ by first|exact Fr.refl _ _|assumption) fq zs;have LQ:=hI (LA.out _ fq');have PQ:Hid (∀ W,Fr [(w.heap.size+1+1)] wq W->Pr S W vq Lq):=hI (fun W f=>pq.fr f (fun y hy hs=>by simp at hy;subst hy;exact NSB.out hs) (fun b hb hm=>by simp at hm;subst hm;exact own_ne pq.own (LA.out _ fq').r zd (qo.1 hb)) (fun _ h=>h));clear pq fq)|((with_reducible refine qi 41 (.tmp 4) ?_);refine qc rfl 41 (.tmp 4) (.tmp 58) rfl (w.heap.size+1+1) 41 qy (arE (shows y1) av uv kv) rfl rfl LQ.out.r rfl zk zq ?_;intro wz Bz Fz))
        go_meet;exact⟨_,hLq,PQ.out _ Fz,Bz,(fq'.mono zs).trans Fz (fun y hy => .inl hy)⟩
       case rest=>
        obtain⟨Ll,hLl,Pl,Bz,Fz⟩:=hcut;have FW:=(LA.out _ (Fr.refl [] w4)).res Fz;refine ‹∀(a:Act) (w:World),Code.wp Tryz.prog Code.ret _ a w->_› _ _ (wp_ret ?_);try simp only [Exit.then]
        change bodyPost Tryz.prog _ _ .ret _ _;refine bodyPost_ret (qx 4 41 ⟨(w.heap.size+1+1),0,none⟩ _ 5 u5 zr zr (qw Bz) zr) zr ?_;rw [HOV.out,if_neg zs,if_neg zs,if_neg zs,if_neg zs,if_pos HEN.out];exact⟨S,_,_,_,_,Ll,rfl,hLl,Ext.refl w S,(M1.out.to_ (y:=shows y1) rfl rfl rfl).fr FW,Pl,FW⟩
      ·go_upto_region 14 with fail
       clear hz hz1 hz2 d4;try dsimp only [Act.put]
       go_cut [5] (fun sl wx=>sl = .slice none 0 0/\Blk wx (w.heap.size+1+1) 41 (arE y1 av uv kv)/\Fr [(w.heap.size+1+1)] w4 wx);case first=>
        go_wp2_with (first
          | ((with_reducible refine qj 41 (.tmp 2) ?_);refine qf rfl 41 (.tmp 2) rfl w.heap.size 41 (arE y1 av uv kv) _ rfl (LA.out _ zf).s Tryz.underlying41 rfl zk ?_)|((with_reducible refine qi 41 (.tmp 4) ?_);refine qc rfl 41 (.tmp 4) (.tmp 55) rfl (w.heap.size+1+1) 41 qy (arE y1 av uv kv) rfl rfl (LA.out _ zf).r rfl zk zq ?_;intro wz Bz Fz))
        go_meet;exact⟨rfl,Bz,Fz⟩
       case rest=>
        obtain⟨rfl,Bz,Fz⟩:=hcut;have FW:=(LA.out _ (Fr.refl [] w4)).res Fz;refine ‹∀(a:Act) (w:World),Code.wp Tryz.prog Code.ret _ a w->_› _ _ (wp_ret ?_);try simp only [Exit.then]
        change bodyPost Tryz.prog _ _ .ret _ _;refine bodyPost_ret (qx 4 41 ⟨(w.heap.size+1+1),0,none⟩ _ 5 (.slice none 0 0) zr zr (qw Bz) zr) zr ?_;rw [HOV.out,if_neg zs,if_neg zs,if_neg zs,if_pos ⟨HZ0.out,rfl⟩,if_pos HEN.out];exact⟨S,_,_,_,_,[],rfl,rfl,Ext.refl w S,M1.out.fr FW,Pr.nil,FW⟩
     ·have HZ0:=hI hz
      have hz1:((pd.length:Int) == 0)=false:=(by simpa using hz);have hz2:(pd.length == 0)=false:=(by simpa using hz);go_upto_region 15 with fail
      clear hz hz1 hz2 d4;try dsimp only [Act.put]
      go_cut [5] (fun sl wx=>∃ L,L.map (·.1)=[qJ y1]/\Pr S wx sl L/\Blk wx (w.heap.size+1+1) 41 (arE (shows y1) av uv kv)/\Fr [(w.heap.size+1+1)] w4 wx);case first=>
       go_wp2_with (first
         | ((with_reducible refine qj 41 (.tmp 2) ?_);refine qf rfl 41 (.tmp 2) rfl w.heap.size 41 (arE y1 av uv kv) _ rfl (LA.out _ zf).s Tryz.underlying41 rfl zk ?_)|(go_at_call 83;refine (HAN1.out _ (LA.out _ zf).f).mono ?_;rintro e wq ⟨vq,Lq,rfl,hLq,pq,fq⟩;have fq':Fr [] w4 wq:=Fr.trans (show Fr [] w4 _ by first|exact Fr.refl _ _|assumption) fq zs;have LQ:=hI (LA.out _ fq');have PQ:Hid (∀ W,Fr [(w.heap.size+1+1)] wq W->Pr S W vq Lq):=hI (fun W f=>pq.fr f (fun y hy hs=>by simp at hy;subst hy;exact NSB.out hs) (fun b hb hm=>by simp at hm;subst hm;exact own_ne pq.own (LA.out _ fq').r zd (qo.1 hb)) (fun _ h=>h));clear pq fq)|((with_reducible refine qi 41 (.tmp 4) ?_);refine qc rfl 41 (.tmp 4) (.tmp 58) rfl (w.heap.size+1+1) 41 qy (arE (shows y1) av uv kv) rfl rfl LQ.out.r rfl zk zq ?_;intro wz Bz Fz))
       go_meet;exact⟨_,hLq,PQ.out _ Fz,Bz,(fq'.mono zs).trans Fz (fun y hy => .inl hy)⟩
      case rest=>
       obtain⟨Ll,hLl,Pl,Bz,Fz⟩:=hcut;have FW:=(LA.out _ (Fr.refl [] w4)).res Fz;refine ‹∀(a:Act) (w:World),Code.wp Tryz.prog Code.ret _ a w->_› _ _ (wp_ret ?_);try simp only [Exit.then]
       change bodyPost Tryz.prog _ _ .ret _ _;refine bodyPost_ret (qx 4 41 ⟨(w.heap.size+1+1),0,none⟩ _ 5 u5 zr zr (qw Bz) zr) zr ?_;rw [HOV.out,if_neg zs,if_neg zs,if_neg zs,if_neg (fun h=>HZ0.out h.1),if_pos HEN.out];exact⟨S,_,_,_,_,Ll,rfl,hLl,Ext.refl w S,(M1.out.to_ (y:=shows y1) rfl rfl rfl).fr FW,Pl,FW⟩
   ·go_upto_region 9 with fail
    clear d0;try dsimp only [Act.put]
    go_cut [5] (fun sl wx=>sl = .slice none 0 0/\Blk wx (w.heap.size+1+1) 41 (arE x av uv kv)/\Fr [(w.heap.size+1+1)] w1 wx);case first=>
     go_wp2_with (first
       | ((with_reducible refine qj 41 (.tmp 2) ?_);refine qf rfl 41 (.tmp 2) rfl w.heap.size 41 (arE x av uv kv) _ rfl (L1.out _ zf).s Tryz.underlying41 rfl zk ?_)|((with_reducible refine qi 41 (.tmp 4) ?_);refine qc rfl 41 (.tmp 4) (.tmp 31) rfl (w.heap.size+1+1) 41 qy (arE x av uv kv) rfl rfl (L1.out _ zf).r rfl zk zq ?_;intro wz Bz Fz))
     go_meet;exact⟨rfl,Bz,Fz⟩
    case rest=>
     obtain⟨rfl,Bz,Fz⟩:=hcut;have FW:=(L1.out _ (Fr.refl [] w1)).res Fz;refine ‹∀(a:Act) (w:World),Code.wp Tryz.prog Code.ret _ a w->_› _ _ (wp_ret ?_);try simp only [Exit.then]
     change bodyPost Tryz.prog _ _ .ret _ _;refine bodyPost_ret (qx 4 41 ⟨(w.heap.size+1+1),0,none⟩ _ 5 (.slice none 0 0) zr zr (qw Bz) zr) zr ?_;rw [HOV.out,if_neg zs,if_neg zs,if_pos zs];exact⟨S,_,_,_,_,[],rfl,rfl,Ext.refl w S,M.out.fr FW,Pr.nil,FW⟩
theorem Pr.apart{S:Nat->Prop}{w:World}{H:Hd}{x:St}{v:Value}{L:List (Prt × Value)}(m:SI S w H x)(p:Pr S w v L):∀ b∈ob v,b∉H.own:=by
 intro b hb hm;have hb:=qo.1 hb;obtain⟨ev,L',n⟩:=m.hp;simp only [Hd.own,List.mem_cons,List.mem_append] at hm;rcases hm with rfl|rfl|rfl|rfl|h|h|h
 ·exact own_ne p.own m.blk zd hb
 ·exact own_ne p.own m.win zd hb
 ·exact own_ne p.own m.clk zd hb
 ·exact own_ne p.own n.blk zd hb
 ·exact jR p.own n.kp.own zd hb (qo.1 h)
 ·exact jR p.own m.buf zd hb (qo.1 h)
 ·exact jR p.own m.unr zd hb (qo.1 h)
theorem Pr.lt{S:Nat->Prop}{w:World}{v:Value}{L:List (Prt × Value)}(p:Pr S w v L):∀ b∈ob v,b<w.heap.size:=fun b hb=>kG p.own (qo.1 hb)
theorem SI.piece{S:Nat->Prop}{w:World}{H:Hd}{x:St}(m:SI S w H x){k n:Nat}(h0:0<=x.win.a)(hk:x.win.s=x.win.a+k)(h1:0<n)(h2:x.win.s+n<=x.all.length) :
  ∃ b c,H.bv = .slice (some ⟨b,0,none⟩) (kw x).length c/\k+n<=(kw x).length/\(kw x).length<=c/\c<=maxLen/\Byt (fun y=>y∈ob H.bv) w (.slice (some ⟨b,k,none⟩) n (c - k)) ((x.all.drop x.win.s.toNat).take n):=by
 have hl:(kw x).length=x.all.length - x.win.a.toNat:=by unfold kw;rw [List.length_drop]
 have hln:k+n<=(kw x).length:=zw;have hb:Byt (fun y=>y∈ob H.bv) w H.bv (kw x):=Sl.kW m.buf (fun b hb=>qo.2 hb);rcases m.buf.2 with ⟨e,h⟩|⟨g,cap,cur,e,_,hg,h3,h4,_⟩
 ·omega
 ·refine⟨g,cap,e,hln,h3,h4,?_⟩
  rw [e] at hb |-
  have h5:=hb.cut (k:=k) zw;rw [if_neg zw] at h5;have h6:=h5.take (k:=n) (by rw [List.length_drop];omega);simp only [Option.map_some] at h6;rw [jZ,Nat.zero_add] at h6;have h7:(kw x).drop k=x.all.drop x.win.s.toNat:=by unfold kw;rw [List.drop_drop];congr 1;omega
  rw [h7] at h6;exact h6
def qcu(S:Nat->Prop)(w:World)(H:Hd)(v:Value)(L:List (Prt × Value))(r:St × List Prt)(e:Ending)(w':World):Prop:=
 ∃ S' v' L',e = .returned v'/\L'.map (·.1)=L.map (·.1)++r.2/\Ext w S S'/\SI S' w' H r.1/\Pr S' w' v' L'/\(∀ b∈ob v',(b∈ob v\/w.heap.size<=b)/\¬ S' b)/\Fr (ob v++H.own) w w'
def qff(S:Nat->Prop)(w:World)(H:Hd)(v:Value)(L:List (Prt × Value))(R:St × List Prt)(N:Nat)(s1:Value)(wr:World):Prop:=
 ∃ S' L' y k,SI S' wr H y/\OkS y/\Pr S' wr s1 L'/\(∀ b∈ob s1,(b∈ob v\/w.heap.size<=b)/\¬ S' b)/\Ext w S S'/\Fr (ob v++H.own) w wr/\y.all.length=N/\y.at_=4/\(N:Int) - y.win.s<=(k:Nat)/\(L'.length:Int)+(N - y.win.s)<=2000000 /\
  (zQ k y).1=R.1/\L'.map (·.1)++(zQ k y).2=L.map (·.1)++R.2
def qab(g:Nat)(N:Nat)(w:World):Nat:=match w.cell? ⟨g,1,none⟩ with|some (.int _ s)=>(N - s).toNat|_=>0
theorem qbb{S:Nat->Prop}{w:World}{H:Hd}{x:St}(m:SI S w H x)(N:Nat):qab H.gw N w=((N:Int) - x.win.s).toNat:=by
 unfold qab;rw [Win.Win.c1 m.win]
theorem qgn{S1:Nat->Prop}{w1 w2:World}{H:Hd}{x':St}{v v' dv:Value}{L:List (Prt × Value)}{p:Prt}(m1:SI S1 w1 H x')(p1:Pr S1 w1 v L)(hv:∀ b∈ob v,¬ S1 b)(by1:Byt S1 w1 dv p.d)
  (own:w2.ownsRow 0 49 5 v' (L.length+1) (prs L++[.int .i64 p.flags, .int .u32 p.seq, .int .u32 p.ack, .int .u16 p.win,dv])) (f:Fr (ob v) w1 w2) (hn:∀ b,v'.ownBlock=some b->v.ownBlock=some b\/(w1.heap.size<=b/\b<w2.heap.size)) :
  SI S1 w2 H x'/\Pr S1 w2 v' (L++[(p,dv)])/\(∀ b∈ob v',(b∈ob v\/w1.heap.size<=b)/\¬ S1 b):=by
 have hap:=Pr.apart m1 p1;have hm:∀ y∈H.own,y∉ob v:=fun y hy hm=>hap y hm hy;have hpub:∀ b,S1 b->b<w1.heap.size:=HP.zA m1.hp;have hmem:∀ {y},(y=H.g\/y=H.gw\/y=H.gc\/y=H.gh\/y∈ob H.kv\/y∈ob H.bv\/y∈ob H.uv)->y∉ob v:=fun {y} hy=>hm y (by
  simp only [Hd.own,List.mem_cons,List.mem_append];rcases hy with h|h|h|h|h|h|h <;> simp [h])
 refine⟨⟨m1.blk.fr f (hmem zs),Blk.fr m1.win f (hmem zs),Blk.fr m1.clk f (hmem zs),m1.hp.ext' f (Ext.refl w1 S1) hv (fun y hy=>hmem (by rcases List.mem_cons.1 hy with h|h <;> simp [h])) (fun b hb=>Nat.lt_of_lt_of_le (hpub b hb) f.size),
  qA m1.buf f (fun b hb=>hmem (by simp [qo.2 hb])),qA m1.unr f (fun b hb=>hmem (by simp [qo.2 hb])),m1.nS,m1.bu⟩,p1.app own f hv by1,fun b hb=>?_⟩
 rcases hn b (qo.1 hb) with h|h
 ·exact⟨.inl (qo.2 h),hv b (qo.2 h)⟩
 ·exact⟨.inr h.1,fun hs=>by have:=hpub b hs;omega⟩
theorem SI.sett{S:Nat->Prop}{w:World}{H:Hd}{x:St}(m:SI S w H x)(a b:Int):SI S ((w.setCell ⟨H.g,22,none⟩ (.int .i64 a)).setCell ⟨H.g,23,none⟩ (.int .i64 b)) H { x with timed:=a,since:=b }:=
 m.set (((Fr.refl [H.g] w).setCell (p:=⟨H.g,22,none⟩) (.inl zs) _).setCell (p:=⟨H.g,23,none⟩) (.inl zs) _) (by simpa using (m.blk.qO 22 (.int .i64 a)).qO 23 (.int .i64 b)) rfl rfl rfl rfl rfl
theorem SI.setfin{S:Nat->Prop}{w:World}{H:Hd}{x:St}(m:SI S w H x):SI S (w.setCell ⟨H.g,19,none⟩ (.bool true)) H { x with fin:=true }:=
 m.set ((Fr.refl [H.g] w).setCell (p:=⟨H.g,19,none⟩) (.inl zs) _) (by simpa using m.blk.qO 19 (.bool true)) rfl rfl rfl rfl rfl
theorem alk{w:World}{b j:Nat}{v:Value}(h:w.cell? ⟨b,j,none⟩=some v)(o:Obj):(w.alloc o).cell? ⟨b,j,none⟩=some v:=ql ((Fr.refl [] w).alloc o) h
theorem qfg(p:Prt)(A:Option Addr)(n c:Nat):∀ u∈([.int .i64 p.flags, .int .u32 p.seq, .int .u32 p.ack, .int .u16 p.win, .slice A n c]:List Value),u.oneCell'=true:=by
 intro u hu;simp at hu;rcases hu with rfl|rfl|rfl|rfl|rfl <;> rfl
theorem jU{S1 S6:Nat->Prop}{w5 w6:World}{g:Nat}{p:Prt}{L1:List (Prt × Value)}{v dv:Value}(pr:Pr S1 w5 v L1)(f:Fr [g] w5 w6)(hn:∀ z∈ob v,z≠g)(by6:Byt S6 w6 dv p.d) :
  (w6.alloc (.cells #[.int .i64 p.flags, .int .u32 p.seq, .int .u32 p.ack, .int .u16 p.win,dv] 49)).ownsRow 0 49 5 v L1.length (prs L1) /\
  Sl (fun _=>True) (w6.alloc (.cells #[.int .i64 p.flags, .int .u32 p.seq, .int .u32 p.ack, .int .u16 p.win,dv] 49)) 5 (.slice (some ⟨w6.heap.size,0,none⟩) 1 1) 1 [.int .i64 p.flags, .int .u32 p.seq, .int .u32 p.ack, .int .u16 p.win,dv]:=
 ⟨qA (qA pr.own f (fun b hb=>by simpa using hn b (qo.2 hb))) ((Fr.refl [] w6).alloc _) zs,Sl.kW (qcg by6).own (fun _ _=>trivial)⟩
theorem qcv{S S1 S6:Nat->Prop}{w wr w5 W7 w8:World}{H:Hd}{v v1 v7:Value}{L L1:List (Prt × Value)}{R:St × List Prt}{N:Nat}{y:St}{k:Nat}{n:Int}{p:Prt}{dv:Value}
  (hs:y.all.length=N/\y.at_=4/\(N:Int) - y.win.s<=(k:Nat)/\(L1.length:Int)+(N - y.win.s)<=2000000/\(zQ k y).1=R.1/\L1.map (·.1)++(zQ k y).2=L.map (·.1)++R.2) (ok:OkS y) (hn:n=zG y) (hpos:0<n)
  (hv1:∀ b∈ob v1,(b∈ob v\/w.heap.size<=b)/\¬ S1 b) (x1:Ext w S S1) (f1:Fr (ob v++H.own) w wr) (f5:Fr [H.gw] wr w5) (x6:Ext w5.drew S1 S6) (f7:Fr (ob v1++H.own) w5 W7) (pr:Pr S6 W7 v7 (L1++[(p,dv)]))
  (hn7:∀ b∈ob v7,(b∈ob v1\/w5.heap.size<=b)/\¬ S6 b) {x7:St} (m7:SI S6 W7 H x7) (f8:Fr [H.g] W7 w8) (m8:SI S6 w8 H (zO y).1) (hp:(zO y).2=p):qff S w H v L R N v7 w8:=by
 obtain⟨h1,h2,h3,h4,h5,h6⟩:=hs;rw [hn] at hpos;obtain⟨o1,o2,o3⟩:=yS ok hpos;have hz1:=f1.size;have hz5:=f5.size;have hm:=ok.hm;have hw:=Win.Inv.bd ok.hw;obtain⟨b1,b2,b3⟩:=qbu hpos;have hx:Ext w S S6:=x1.trans (by show w.heap.size<=w5.heap.size;omega) (show Ext w5 S1 S6 from x6);have hat:(zO y).1.at_=4:=by rw [vP];unfold jg;dsimp only;split <;> exact h2
 obtain⟨j,rfl⟩:∃ j,k=j+1:=⟨k - 1,zw⟩;rw [xw j y hpos] at h5 h6;rw [hp] at h6;refine⟨S6,L1++[(p,dv)],(zO y).1,j,m8,o1,pr.fr f8 (fun z hz=>by simp at hz;subst hz;exact m8.nS _ (.inl rfl)) (fun z hz=>?_) (fun _ h=>h),fun b hb=>?_,hx,?_,by rw [o3];exact h1,hat,by rw [o2];omega,by rw [o2];simp;omega,h5,?_⟩
 ·simp
  rintro rfl;exact Pr.apart m7 pr _ hz zh
 ·obtain⟨q1,q2⟩:=hn7 b hb
  refine⟨?_,q2⟩;rcases q1 with q|q
  ·exact (hv1 b q).1
  ·exact .inr zw
 ·refine ((f1.trans (f5.mono (O':=ob v++H.own) zh) (fun y hy => .inl hy)).trans f7 (fun z hz=>?_)).trans f8 (fun z hz => .inl (by simp at hz;subst hz;simp [Hd.own]))
  rcases List.mem_append.1 hz with hz|hz
  ·rcases (hv1 z hz).1 with h|h
   ·exact .inl (List.mem_append_left _ h)
   ·exact .inr h
  ·exact .inl (List.mem_append_right _ hz)
 ·rw [List.map_append,List.append_assoc]
  exact h6
theorem Pr.yT{S:Nat->Prop}{w w':World}{H:Hd}{x:St}{v:Value}{L:List (Prt × Value)}{O:List Nat}(pr:Pr S w v L)(m:SI S w H x)(f:Fr O w w')(hO:∀ y∈O,y∈H.own):Pr S w' v L:=
 pr.fr f (fun y hy=>m.off y (hO y hy)) (fun b hb hm=>Pr.apart m pr b hb (hO b hm)) (fun _ h=>h)
theorem vX{S S5:Nat->Prop}{w w8 w9:World}{H:Hd}{v v5:Value}{L L5:List (Prt × Value)}{R:St × List Prt}{y3:St}(hL:L5.map (·.1)=L.map (·.1)++R.2)(hR:R.1=qF y3)(x5:Ext w S S5)(m8:SI S5 w8 H y3)(pr:Pr S5 w8 v5 L5)
  (hv5:∀ b∈ob v5,(b∈ob v\/w.heap.size<=b)/\¬ S5 b) (F:Fr (ob v++H.own) w w8) (m9:SI S5 w9 H (qF y3)) (f9:Fr [H.gc] w8 w9):qcu S w H v L R (.returned v5) w9:=
 ⟨S5,v5,L5,rfl,hL,x5,by rw [hR];exact m9,pr.yT m8 f9 zh,hv5,F.trans f9 (fun y hy => .inl (by simp at hy;subst hy;simp [Hd.own]))⟩
theorem xI{S:Nat->Prop}{w:World}{H:Hd}{x:St}(m:SI S w H x)(ok:OkS x){v:Value}{L:List (Prt × Value)}(pr:Pr S w v L)(hv:∀ b∈ob v,¬ S b)(hL:L.length<=1000000) :
  Calls Tryz.prog 56 #[ptr H.g,v] w (qcu S w H v L (qU x)):=by
 obtain⟨A,c,rfl,_,_⟩:=qY pr.own;by_cases h4:x.at_=4
 ·have hR:=jC x h4
  generalize qU x=R at *
  have hlo:=qfd x.all.length x ok;have hla:=qcq x.all.length x;have hrel:qff S w H (.slice A L.length c) L (zQ x.all.length x) x.all.length (.slice A L.length c) w:=
   ⟨S,L,x,x.all.length,m,ok,pr,fun b hb=>⟨.inl hb,hv b hb⟩,Ext.refl w S,Fr.refl _ w,rfl,h4,by have:=Win.Inv.bd ok.hw;omega,by have:=Win.Inv.bd ok.hw;have:=ok.hl;omega,rfl,rfl⟩
  have c0:=(qm m.blk).c0;rw [h4] at c0;generalize zQ x.all.length x=Y at *
  generalize hN:x.all.length=N at *
  have HR:=hI hR;have HLO:=hI hlo;have HLA:=hI hla;have HRel:=hI hrel;have HLt:=hI m.lt;have HNl:Hid (N<=1000000):=hI (by have:=ok.hl;omega);clear m pr hv hR hlo hla hrel ok;go_enter Tryz.func56,Tryz.ntmps56;go_wp2_with fail
  go_loopw [1] (fun s1 wr=>qff S w H (.slice A L.length c) L Y N s1 wr) (fun _ wr=>qab H.gw N wr);case atStart=>exact HRel.out
  case round=>
   obtain⟨S1,L1,y,k,m1,ok1,pr1,hv1,x1,f1,hN1,ha1,hk1,hl1,hy1,hy2⟩:=hrel;obtain⟨A1,c1,rfl,_,_⟩:=qY pr1.own;have cs:=qm m1.blk;have c7:=cs.c7;have c16:=cs.c16;rw [hN1] at c7;have hrm:=fun W (fW:Fr [] wr W)=>Win.qej H.gw y.win W 1000000000 (Int.le_refl _) ok1.hw (Blk.fr m1.win fW zs);have hnx:min 64 (min ((N:Int) - y.win.s) (Win.qK y.win))=zG y:=by unfold zG;rw [hN1]
   have hwb:=Win.Inv.bd ok1.hw;have hsw:IntKind.i64.wrap ((N:Int) - y.win.s)=(N:Int) - y.win.s:=IntWalk.i64_in _ (by have:=HNl.out;have:=ok1.hm;omega);have hsm:=qbb m1 N;have HS1:=hI (And.intro hN1 (And.intro ha1 (And.intro hk1 (And.intro hl1 (And.intro hy1 hy2)))));have M1:=hI m1;have OK1:=hI ok1;have PR1:=hI pr1;have HV1:=hI hv1;have X1:=hI x1;have F1:=hI f1;have HRM:=hI hrm;have HNX:=hI hnx;have HSM:=hI hsm;have HWB:=hI hwb;have HF1s:=hI f1.size;clear m1 ok1 pr1 hv1 x1 f1 hN1 ha1 hk1 hl1 hy1 hy2 cs hrm hnx hsm hwb;go_wp2_with fail
   refine (Win.kD H.gw y.win wr M1.out.win).mono ?_;rintro e w2 ⟨rfl,f2⟩;have d7:=ql f2 c7;have d16:=ql f2 c16;go_upto_region 4 with fail
   have f3:Fr [] wr (w2.alloc (.cells #[.int .i64 y.win.a, .int .i64 y.win.s, .int .i64 y.win.m, .int .i64 y.win.l] 32)):=f2.alloc _;have b3:=Blk.new w2 32 #[.int .i64 y.win.a, .int .i64 y.win.s, .int .i64 y.win.m, .int .i64 y.win.l];have HW3:=hI f2.size;generalize w2.alloc (.cells #[.int .i64 y.win.a, .int .i64 y.win.s, .int .i64 y.win.m, .int .i64 y.win.l] 32)=w3 at *
   have e1:w3.cell? ⟨w2.heap.size,1,none⟩=some (.int .i64 y.win.s):=by simpa using b3.cell 1
   have g1:=Grew.cell e1;have g7:=Grew.cell (ql f3 c7);have g16:=Grew.cell (ql f3 c16);have hRG:∀ p:Grew w3,Calls Tryz.prog 94 #[ptr H.gw] p.W fun e w'=>e = .returned (.int .i64 (Win.qK y.win))/\∃ q:Grew w3,w'=q.W:=fun p=>qG (HRM.out _ (f3.trans p.fr zs));have HRG:=hI hRG;have F3:=hI f3;have B3:=hI b3;clear hRG f3 b3 e1 f2 d7 d16 c7 c16;generalize Win.qK y.win=rm at *
   refine qg zk zk ?_;repeat (go_big_quiet_step ((go_at_call 94;exact HRG.out _)))
   refine wpQuiet_nil ?_;intro w4 f4;have F4:=hI (F3.out.trans f4 zs);have B4:=hI (B3.out.fr f4 zs);clear f4 g1 g7 g16 HRG F3 B3;have hbd:=qbu (x:=y);generalize hnn:min 64 (min ((N:Int) - y.win.s) rm)=n at *
   rw [<- HNX.out] at hbd;clear hnn;by_cases hpos:0<n
   ·have hd0:decide (n<=0)=false:=zv
    have m4:=M1.out.fr F4.out;have cs:=qm m4.blk;have c16:=cs.c16;obtain⟨nb1,nb2,nb3⟩:=hbd hpos;have htk:=qfc (v:=y.win) (n:=n) zw nb3;have hT:=Win.qlt H.gw y.win n w4 1000000000 (Int.le_refl _) OK1.out.hw m4.win;rw [htk] at hT;have HT:=hI hT;have M4:=hI m4;have HTK:=hI htk;clear hT m4 cs htk;go_wp2_with fail
    refine HT.out.mono ?_;rintro e w5 ⟨rfl,f5,W5⟩;have m5:=M4.out.setw f5 W5 rfl;have hy5:({ y with win:=⟨y.win.a,y.win.s+n,max y.win.m (y.win.s+n),y.win.l⟩ }:St)=jr y n:=(by unfold jr;rw [HTK.out]);rw [hy5] at m5;have hN1:=HS1.out.1;have hwb:=HWB.out;obtain⟨k',hk'⟩:∃ k':Nat,y.win.s=y.win.a+k':=⟨(y.win.s - y.win.a).toNat,zw⟩;obtain⟨nn,rfl⟩:∃ nn:Nat,n=nn:=⟨n.toNat,zw⟩;obtain⟨b,bc,hbv,q1,q2,q3,hby⟩:=M4.out.piece (k:=k') (n:=nn) hwb.1 hk' zw (by rw [hN1];rw [hN1] at nb2;omega);have b5:=B4.out.fr f5 (by have:=HLt.out H.gw zh;have:=HW3.out;have:=HF1s.out;simp;omega);have cs:=qm m5.blk;have c14:=cs.c14;have c22:=cs.c22;rw [hbv] at c14;have e0:w5.cell? ⟨w2.heap.size,0,none⟩=some (.int .i64 y.win.a):=(by simpa using b5.cell 0);unfold maxLen at q3;have s1:y.win.s - y.win.a=(k':Int):=zw;have s2:IntKind.i64.wrap (y.win.s - y.win.a)=(k':Int):=(by rw [s1];exact IntWalk.i64_in _ zw);have s3:IntKind.i64.wrap ((k':Int)+nn)=(k':Int)+nn:=IntWalk.i64_in _ zw;have s3':IntKind.i64.wrap (k':Int)=(k':Int):=IntWalk.i64_in _ zw;have s4:(0:Int)<=(k':Int):=zw;have s5:(k':Int)<=(k':Int)+nn:=zw;have s6:(k':Int)+nn<=(bc:Int):=zw;have s7:((k':Int)+nn).toNat=k'+nn:=zw;have s8:¬ bc=k':=zw;have s9:k'+nn - k'=nn:=zw;have HK':=hI hk';have HBV:=hI hbv;clear hk';have HSL:Hid (Byt (fun y=>y∈ob H.bv) w5 (.slice (some ⟨b,k',none⟩) nn (bc - k')) ((y.all.drop y.win.s.toNat).take nn)):=hI (hby.fr f5 (fun z hz hm=>by simp at hz;subst hz;exact own_ne M4.out.buf M4.out.win zd (qo.1 hm)));have M5:=hI m5;have F5:=hI f5;have B5:=hI b5
    clear m5 f5 b5 cs hby W5 hwb hN1 c16;have hnx:=HNX.out;have hse:=vP y;rw [<- hnx] at hse;have hnn:((nn:Int)).toNat=nn:=zw;rw [hnn] at hse;have hpt:∀ W,Fr [] w5 W->Calls Tryz.prog 79 #[ptr H.g, .int .i64 0, .int .i64 y.win.s, .slice (some ⟨b,k',none⟩) nn (bc - k')] W (qZ S1 W H (shows (jr y nn)) (kz (jr y nn) 2 y.win.s ((y.all.drop y.win.s.toNat).take nn))):=fun W fW=>
     yu (M5.out.fr fW) OK1.out.hi (by have:=OK1.out.hu;show y.unread.length<=100000;omega) 0 y.win.s (.inl rfl) (by have:=HWB.out;omega) (by have:=HWB.out;have:=OK1.out.hm;have:=OK1.out.hl;omega) _ _ _ (HSL.out.fr fW zs) (fun z hz=>by rintro rfl;exact M5.out.qfx _ hz rfl) zv
    generalize kz (jr y nn) 2 y.win.s ((y.all.drop y.win.s.toNat).take nn)=p at *
    have HSE:=hI hse;have HPt:=hI hpt;have K5:Hid (∀ W,Fr [] w5 W->W.cell? ⟨H.g,14,none⟩=some (.slice (some ⟨b,0,none⟩) (kw y).length bc)/\W.cell? ⟨w2.heap.size,0,none⟩=some (.int .i64 y.win.a)):=hI (fun W fW=>⟨ql fW c14,ql fW e0⟩);have NG:Hid (w2.heap.size≠H.g):=hI (by have:=HLt.out H.g zh;have:=HW3.out;have:=HF1s.out;omega);clear hse hpt hnx hnn;go_upto_region 7 with fail
    have hsA:(0:Int)<=(bc:Int):=zw;obtain⟨i0,hi0,hz0,hz1,hz2⟩:=info_parts jI;have HLM:Hid (L1.length+1<=maxLen):=hI (by unfold maxLen;have:=HS1.out.2.2.2.1;have:=HWB.out;have:=OK1.out.hm;have:=HS1.out.1;omega);have HLB:Hid ((L1.length+1) * 48<=140737488355328):=hI (by have:=HS1.out.2.2.2.1;have:=HWB.out;have:=OK1.out.hm;have:=HS1.out.1;omega);have PR5:Hid (Pr S1 w5 (.slice A1 L1.length c1) L1):=hI (PR1.out.fr (F4.out.mono (O':=[H.gw]) zs |>.trans F5.out (fun y hy => .inl hy)) (fun z hz=>by simp at hz;subst hz;exact M1.out.nS _ (.inr (.inl rfl))) (fun z hz=>by simp;rintro rfl;exact own_ne PR1.out.own M1.out.win zd (qo.1 hz)) (fun _ h=>h));have NAP:Hid (∀ z∈ob (.slice A1 L1.length c1),z≠H.g):=hI (fun z hz=>by rintro rfl;exact own_ne PR1.out.own M1.out.blk zd (qo.1 hz));have NAW:Hid (∀ z∈ob (.slice A1 L1.length c1),z≠w2.heap.size):=hI (fun z hz=>by have:=Pr.lt PR1.out z hz;have:=HW3.out;omega);have SEE7:Hid (∀(w6 W7:World) (o:Obj),Fr [H.g] w5 w6->w6.cell? ⟨H.g,14,none⟩=some (.slice (some ⟨b,0,none⟩) (kw y).length bc)->w6.cell? ⟨w2.heap.size,0,none⟩=some (.int .i64 y.win.a)->Fr (ob (.slice A1 L1.length c1)) (w6.alloc o) W7 ->
      W7.cell? ⟨H.g,14,none⟩=some (.slice (some ⟨b,0,none⟩) (kw y).length bc)/\W7.cell? ⟨w2.heap.size,0,none⟩=some (.int .i64 y.win.a)):=hI (fun w6 W7 o f6 a b f7=>keep2 f7 (alk a o) (alk b o) (fun hm=>NAP.out _ hm rfl) (fun hm=>NAW.out _ hm rfl))
    clear c14 e0;obtain⟨c14,e0⟩:=K5.out _ (Fr.refl [] w5)
    go_region_held_law (fun w'=>w'.cell? ⟨H.g,14,none⟩=some (.slice (some ⟨b,0,none⟩) (kw y).length bc)/\w'.cell? ⟨w2.heap.size,0,none⟩=some (.int .i64 y.win.a))
     (first
      | (with_reducible exact K5.out _ (Fr.refl [] w5).drew)|(with_reducible exact⟨s0,s1⟩)|(with_reducible exact⟨alk s0 _,alk s1 _⟩)
      | go_keep)
     (first
      | (go_at_call 79;refine (HPt.out _ (Fr.refl [] w5).drew).mono ?_;rintro e w6 ⟨S6,A6,c6,rfl,x6,by6,m6,f6⟩;have f6':Fr [H.g] w5 w6:=(Fr.refl [H.g] w5).drew.trans f6 (fun y hy => .inl hy);have s0:w6.cell? ⟨H.g,14,none⟩=some (.slice (some ⟨b,0,none⟩) (kw y).length bc):=(by rw [<- HBV.out];exact (qm m6.blk).c14);have s1:w6.cell? ⟨w2.heap.size,0,none⟩=some (.int .i64 y.win.a):=(by simpa using (B5.out.fr f6' (by simpa using NG.out)).cell 0);have X6:=hI x6;have Y6:=hI by6;have M6:=hI m6;have F6:=hI f6';have HW6:=hI (jU PR5.out f6' NAP.out by6);clear f6 f6' x6 by6 m6)|((refine zn _ zr (.tmp 48) (.tmp 67) 27 zr 49 i0 (.agg #[.int .i64 0, .int .u32 0, .int .u32 0, .int .u16 0, .slice none 0 0]) 5 48 Tryz.underlying27 hi0 hz0 hz1 hz2 zr zd (.slice A1 L1.length c1) L1.length (prs L1) zr HW6.out.1 (fun _=>True) (.slice (some ⟨w6.heap.size,0,none⟩) 1 1) 1 [.int .i64 p.flags, .int .u32 p.seq, .int .u32 p.ack, .int .u16 p.win, .slice A6 p.d.length c6] zr HW6.out.2 (qfg _ _ _ _) HLM.out HLB.out (L1.length+1) zr ?_);intro A7 c7 W7 h10 h11 h12;have H10:=hI h10;have H11:=hI h11;have H12:=hI h12;obtain⟨s0,s1⟩:=SEE7.out _ _ _ F6.out s0 s1 h11;clear h10 h11 h12))
    have m6a:=M6.out.fr ((Fr.refl [] w6).alloc (.cells #[.int .i64 p.flags, .int .u32 p.seq, .int .u32 p.ack, .int .u16 p.win, .slice A6 p.d.length c6] 49));have pr6:=PR5.out.fr (F6.out.alloc (.cells #[.int .i64 p.flags, .int .u32 p.seq, .int .u32 p.ack, .int .u16 p.win, .slice A6 p.d.length c6] 49)) (fun z hz=>by simp at hz;subst hz;exact M5.out.nS _ (.inl rfl)) (fun z hz=>by simpa using NAP.out z hz) X6.out.1;have hv6:∀ z∈ob (.slice A1 L1.length c1),¬ S6 z:=fun z hz=>X6.out.off (Pr.lt PR5.out z hz) (HV1.out z hz).2;obtain⟨m7,pr7,hn7⟩:=qgn m6a pr6 hv6 (Y6.out.fr ((Fr.refl [] w6).alloc _) zs) H10.out H11.out H12.out;have f7:Fr (ob (.slice A1 L1.length c1)++H.own) w5 W7:=((F6.out.alloc _).mono zh).trans (H11.out.mono (O':=ob (.slice A1 L1.length c1)++H.own) (fun y hy=>List.mem_append_left _ hy)) (fun y hy => .inl hy);have c22:=(qm m7.blk).c22;have c21:=(qm m7.blk).c21;have c23:=(qm m7.blk).c23;have hlt7:=m7.blk.lt;have z22:=m7.blk.frozen 22;have z23:=m7.blk.frozen 23;have hsn:IntKind.i64.wrap (y.win.s+nn)=y.win.s+nn:=IntWalk.i64_in _ (by have:=HWB.out;have:=OK1.out.hm;have:=OK1.out.hl;omega);have M7:=hI m7;have PR7:=hI pr7;have HN7:Hid (∀ b∈ob (.slice A7 (L1.length+1) c7),(b∈ob (.slice A1 L1.length c1)\/w5.heap.size<=b)/\¬ S6 b):=hI (fun b hb=>⟨(hn7 b hb).1.imp id (fun h=>by have:=F6.out.size;simp at h;omega),(hn7 b hb).2⟩);have F7:=hI f7;clear m6a pr6 hv6 m7 pr7 hn7 f7 s0 s1;change W7.cell? ⟨H.g,22,none⟩=some (.int .i64 y.timed) at c22;change W7.cell? ⟨H.g,21,none⟩=some (.int .i64 y.now) at c21
    change W7.cell? ⟨H.g,23,none⟩=some (.int .i64 y.since) at c23;by_cases ht:y.timed=0
    ·rw [ht] at c22
     go_wp2_with fail
     have m8:=M7.out.sett (y.win.s+nn) y.now;have f8:Fr [H.g] W7 ((W7.setCell ⟨H.g,22,none⟩ (.int .i64 (y.win.s+nn))).setCell ⟨H.g,23,none⟩ (.int .i64 y.now)):=((Fr.refl [H.g] W7).setCell (p:=⟨H.g,22,none⟩) (.inl zs) _).setCell (p:=⟨H.g,23,none⟩) (.inl zs) _;have hvy:({ shows (jr y nn) with timed:=y.win.s+nn,since:=y.now }:St)=(zO y).1:=by
      rw [HSE.out];show _=jg _ _;unfold jg;rw [if_pos (show (shows (jr y nn)).timed=0 from ht)];rfl
     rw [hvy] at m8;generalize (W7.setCell ⟨H.g,22,none⟩ (.int .i64 (y.win.s+nn))).setCell ⟨H.g,23,none⟩ (.int .i64 y.now)=w8 at *
     have hrl:=qcv HS1.out OK1.out HNX.out hpos HV1.out X1.out F1.out (F4.out.mono (O':=[H.gw]) zs |>.trans F5.out (fun y hy => .inl hy)) X6.out F7.out PR7.out HN7.out M7.out f8 m8 (by rw [HSE.out]);have HRL:=hI hrl;have HMS:Hid (qab H.gw N w8<qab H.gw N wr):=hI (by rw [HSM.out,qbb m8,(yS OK1.out (by rw [<- HNX.out];exact hpos)).2.1,<- HNX.out];have:=HS1.out.1;omega);clear m8 f8 hrl;go_roundw;case rel=>exact HRL.out
     case measure=>exact HMS.out
    ·have htd:decide (y.timed=0)=false:=by simpa using ht
     have htq:(y.timed == 0)=false:=(by simpa using ht);have hvy:shows (jr y nn)=(zO y).1:=by
      rw [HSE.out];show _=jg _ _;unfold jg;rw [if_neg (show ¬ (shows (jr y nn)).timed=0 from ht)]
     have m8:=M7.out;rw [hvy] at m8;have hrl:=qcv HS1.out OK1.out HNX.out hpos HV1.out X1.out F1.out (F4.out.mono (O':=[H.gw]) zs |>.trans F5.out (fun y hy => .inl hy)) X6.out F7.out PR7.out HN7.out M7.out (Fr.refl [H.g] W7) m8 (by rw [HSE.out]);have HRL:=hI hrl;have HMS:Hid (qab H.gw N W7<qab H.gw N wr):=hI (by rw [HSM.out,qbb m8,(yS OK1.out (by rw [<- HNX.out];exact hpos)).2.1,<- HNX.out];have:=HS1.out.1;omega);clear m8 hrl hvy;go_wp2_with fail
     go_roundw;case rel=>exact HRL.out
     case measure=>exact HMS.out
   ·have hd0:decide (n<=0)=true:=zv
    have hst:=jT k y (by rw [<- HNX.out];exact hpos);obtain⟨h1,h2,h3,h5,h6,h7⟩:=HS1.out;rw [hst] at h6 h7;simp only [List.append_nil] at h7;have hRR:=HR.out;rw [<- h6] at hRR;have HRR:=hI hRR;have HLM7:=hI h7;have hfv:xN y=(y.closing && decide (y.win.s=(N:Int)) && !y.fin):=(by unfold xN;rw [h1]);have hcv:zi y=if xN y then ({ shows y with fin:=true },[kz y 6 y.all.length []]) else (y,[]):=rfl;have hok2:=qdt OK1.out;have m4:=M1.out.fr F4.out;have cs:=qm m4.blk;have c7:=cs.c7;have c11:=cs.c11;have c16:=cs.c16;have c19:=cs.c19;rw [h1] at c7;have c12:=cs.c12;have c20:=cs.c20;have z19:=m4.blk.frozen 19;have pr4:=PR1.out.fr F4.out zs zs (fun _ h=>h);have hHS:∀ p:Grew w4,Calls Tryz.prog 48 #[ptr H.gw] p.W fun e w'=>e = .returned (.agg #[.int .i64 y.win.a, .int .i64 y.win.s, .int .i64 y.win.m, .int .i64 y.win.l])/\∃ q:Grew w4,w'=q.W:=fun p=>qG (Win.kD H.gw y.win _ (Blk.fr m4.win p.fr zs));have HHS:=hI hHS;have y7:=Grew.cell c7;have y11:=Grew.cell c11;have y16:=Grew.cell c16;have y19:=Grew.cell c19;have M4:=hI m4;have PR4:=hI pr4;have HFV:=hI hfv;have HCV:=hI hcv;have OK2:=hI hok2;have HH1:=hI h1;have HN5:=hI h5;have FW4:Hid (Fr (ob (.slice A L.length c)++H.own) w w4):=hI (F1.out.trans F4.out zs);clear hst h1 h2 h3 h5 h6 h7 hRR hfv hcv hok2 cs hHS m4 pr4 HRM HSM HLA HLO B4 hbd;go_wp2_with fail
    generalize hgf:xN y=fv at *
    have HGF:=hI hgf;clear hgf;go_cut [112] (fun s112 wx=>s112 = .bool fv/\Fr [] w4 wx);case first=>
     generalize y.closing=cl at *
     generalize y.fin=fi at *
     rcases Bool.eq_false_or_eq_true cl with rfl|rfl
     ·by_cases hsn:y.win.s=N
      ·have hsd:decide (y.win.s=(N:Int))=true:=by simpa using hsn
       have hsq:(y.win.s == (N:Int))=true:=(by simpa using hsn);rcases Bool.eq_false_or_eq_true fi with rfl|rfl;all_goals
        have hf:=HFV.out;rw [hsd] at hf;simp only [Bool.not_true,Bool.not_false,Bool.and_true,Bool.true_and,Bool.and_false,Bool.false_and] at hf;subst hf;have HSN:=hI hsn;clear hsn;refine qg zk zk ?_;repeat (go_big_quiet_step ((go_at_call 48;exact HHS.out _)))
        refine wpQuiet_nil ?_;intro w5 f5;go_wp2_with fail
        go_meet;first|exact⟨rfl,f5⟩|exact f5
      ·have hsd:decide (y.win.s=(N:Int))=false:=by simpa using hsn
       have hsq:(y.win.s == (N:Int))=false:=(by simpa using hsn);have hf:=HFV.out;rw [hsd] at hf;simp only [Bool.not_true,Bool.not_false,Bool.and_true,Bool.true_and,Bool.and_false,Bool.false_and] at hf;subst hf;refine qg zk zk ?_;repeat (go_big_quiet_step ((go_at_call 48;exact HHS.out _)))
       refine wpQuiet_nil ?_;intro w5 f5;go_wp2_with fail
       go_meet;first|exact⟨rfl,f5⟩|exact f5
     ·have hf:=HFV.out
      simp only [Bool.not_true,Bool.not_false,Bool.and_true,Bool.true_and,Bool.and_false,Bool.false_and] at hf;subst hf;refine qg zk zk ?_;repeat (go_big_quiet_step ((go_at_call 48;exact HHS.out _)))
      refine wpQuiet_nil ?_;intro w5 f5;go_wp2_with fail
      go_meet;first|exact⟨rfl,f5⟩|exact f5
    case rest=>
     obtain⟨rfl,fx⟩:=hcut;have m5:=M4.out.fr fx;have c7:=ql fx c7;have c12:=ql fx c12;have c20:=ql fx c20;have FX:=hI fx;have PR5:=hI (PR4.out.fr fx zs zs (fun _ h=>h));clear c11 c16 c19 y7 y11 y16 y19 fx z19;rcases Bool.eq_false_or_eq_true fv with rfl|rfl
     ·have hpt:Calls Tryz.prog 79 #[ptr H.g, .int .i64 4, .int .i64 y.all.length, .slice none 0 0] wc (qZ S1 wc H (shows y) (kz y 6 y.all.length [])):=yu m5 OK1.out.hi (by have:=OK1.out.hu;omega) 4 y.all.length (.inr (.inl rfl)) zw (by have:=OK1.out.hl;omega) _ [] (fun _=>False) Byt.nil zs zs
      have hcv:=HCV.out;rw [if_pos rfl] at hcv;generalize kz y 6 y.all.length []=p at *
      rw [HH1.out] at hpt;have HPt:=hI hpt;have M5:=hI m5;have HCV2:=hI hcv;obtain⟨i0,hi0,hz0,hz1,hz2⟩:=info_parts jI;have HLM:Hid (L1.length+1<=maxLen):=hI (by unfold maxLen;have:=HN5.out;have:=HWB.out;have:=OK1.out.hm;have:=HH1.out;omega);have HLB:Hid ((L1.length+1) * 48<=140737488355328):=hI (by have:=HN5.out;have:=HWB.out;have:=OK1.out.hm;have:=HH1.out;omega);have NAP:Hid (∀ z∈ob (.slice A1 L1.length c1),z≠H.g):=hI (fun z hz=>by rintro rfl;exact own_ne PR1.out.own M1.out.blk zd (qo.1 hz));clear hpt m5 hcv c12 c20;go_wp2_with fail
      refine HPt.out.mono ?_;rintro e w6 ⟨S6,A6,c6,rfl,x6,by6,m6,f6⟩;have HW6:=hI (jU PR5.out f6 NAP.out by6);have X6:=hI x6;have Y6:=hI by6;have M6:=hI m6;have F6:=hI f6;clear f6 x6 by6 m6 c7;go_upto_region 12 with (at_builtin;refine qE _ rfl (.tmp 113) (.tmp 121) 27 rfl 49 i0 (.agg #[.int .i64 0, .int .u32 0, .int .u32 0, .int .u16 0, .slice none 0 0]) 5 48 Tryz.underlying27 hi0 hz0 hz1 hz2 rfl zd (.slice A1 L1.length c1) L1.length (prs L1) zr HW6.out.1 (fun _=>True) (.slice (some ⟨w6.heap.size,0,none⟩) 1 1) 1 [.int .i64 p.flags, .int .u32 p.seq, .int .u32 p.ack, .int .u16 p.win, .slice A6 p.d.length c6] zr HW6.out.2 (qfg _ _ _ _) HLM.out HLB.out (L1.length+1) rfl ?_;intro A7 c7 W7 h10 h11 h12;have H10:=hI h10;have H11:=hI h11;have H12:=hI h12;clear h10 h11 h12)
      have m6a:=M6.out.fr ((Fr.refl [] w6).alloc (.cells #[.int .i64 p.flags, .int .u32 p.seq, .int .u32 p.ack, .int .u16 p.win, .slice A6 p.d.length c6] 49));have pr6:=PR5.out.fr (F6.out.alloc (.cells #[.int .i64 p.flags, .int .u32 p.seq, .int .u32 p.ack, .int .u16 p.win, .slice A6 p.d.length c6] 49)) (fun z hz=>by simp at hz;subst hz;exact M5.out.nS _ (.inl rfl)) (fun z hz=>by simpa using NAP.out z hz) X6.out.1;have hv6:∀ z∈ob (.slice A1 L1.length c1),¬ S6 z:=fun z hz=>X6.out.off (Pr.lt PR5.out z hz) (HV1.out z hz).2;obtain⟨m7,pr7,hn7⟩:=qgn m6a pr6 hv6 (Y6.out.fr ((Fr.refl [] w6).alloc _) zs) H10.out H11.out H12.out;have f7:Fr (ob (.slice A1 L1.length c1)++H.own) wc W7:=((F6.out.alloc _).mono zh).trans (H11.out.mono (O':=ob (.slice A1 L1.length c1)++H.own) (fun y hy=>List.mem_append_left _ hy)) (fun y hy => .inl hy);have c19:=(qm m7.blk).c19;have c12:=(qm m7.blk).c12;have c20:=(qm m7.blk).c20;have hlt7:=m7.blk.lt;have z19:=m7.blk.frozen 19;have M7:=hI m7;have PR7:=hI pr7;have HN7:=hI hn7;have F7:=hI f7;clear m6a pr6 hv6 m7 pr7 hn7 f7;go_upto_region 13 with fail
      have m8:=M7.out.setfin;have f8:Fr [H.g] W7 (W7.setCell ⟨H.g,19,none⟩ (.bool true)):=(Fr.refl [H.g] W7).setCell (p:=⟨H.g,19,none⟩) (.inl zs) _;generalize W7.setCell ⟨H.g,19,none⟩ (.bool true)=w8 at *
      have hok2:=OK2.out;rw [HCV2.out] at hok2;have hR8:R.1=qF (zX (zi y).1):=(by rw [HRR.out]);have hL8:(L1++[(p,Value.slice A6 p.d.length c6)]).map (·.1)=L.map (·.1)++R.2:=(by rw [HRR.out];dsimp only;rw [HCV2.out,List.map_append,HLM7.out,List.append_assoc];rfl);rw [HCV2.out] at hR8;dsimp only at hR8 hok2;have PR8:=hI (PR7.out.yT M7.out f8 zh);have hz4:=F4.out.size;have hzx:=FX.out.size;have hzf:=F1.out.size;have HV8:Hid (∀ b∈ob (.slice A7 (L1.length+1) c7),(b∈ob (.slice A L.length c)\/w.heap.size<=b)/\¬ S6 b):=hI (fun b hb=>by
       obtain⟨q1,q2⟩:=HN7.out b hb;refine⟨?_,q2⟩;rcases q1 with q|q
       ·exact (HV1.out b q).1
       ·have:=F6.out.size;simp at q;exact .inr zw)
      have X8:Hid (Ext w S S6):=hI (X1.out.trans zw X6.out);have F8:Hid (Fr (ob (.slice A L.length c)++H.own) w w8):=hI (((FW4.out.trans FX.out zs).trans F7.out (fun z hz=>by
       rcases List.mem_append.1 hz with hz|hz
       ·rcases (HV1.out z hz).1 with h|h
        ·exact .inl (List.mem_append_left _ h)
        ·exact .inr h
       ·exact .inl (List.mem_append_right _ hz))).trans f8 (fun z hz => .inl (by simp at hz;subst hz;simp [Hd.own])))
      have c12:=(qm m8.blk).c12;have c20:=(qm m8.blk).c20;have M8:=hI m8;have OK3:=hI hok2;have HR8:=hI hR8;have HL8:=hI hL8;clear OK2 hok2 hR8 hL8 m8 f8 F7 HN7 PR7 M7 c19 z19 hlt7 HCV2 HCV HRR;generalize hy2:({ shows y with fin:=true }:St)=y2 at *
      have OK2:=OK3;generalize hen:y2.ended=en at *
      generalize hac:y2.qp=ac at *
      rcases Bool.eq_false_or_eq_true en with rfl|rfl
      ·rcases Bool.eq_false_or_eq_true ac with rfl|rfl
       ·have hlv:zX y2=kS y2 false:=by unfold zX;rw [hen,hac];rfl
        go_wp2_with fail
        refine (xM M8.out false).mono ?_;rintro e w9 ⟨rfl,m9,f9⟩;have M9:=hI m9;have F9:=hI f9;clear m9 f9;go_wp2_with fail
        refine (jy M9.out OK2.out.hc _ _ _).mono ?_;rintro e wa ⟨rfl,ma,fa⟩;go_wp2_with fail
        go_ret;exact vX HL8.out (by rw [HR8.out,hlv]) X8.out M9.out (PR8.out.yT M8.out F9.out zh) HV8.out (F8.out.trans F9.out (fun y hy => .inl (by simp at hy;subst hy;simp [Hd.own]))) ma fa
       ·have hlv:zX y2=y2:=by unfold zX;rw [hen,hac];rfl
        go_wp2_with fail
        refine (jy M8.out OK2.out.hc _ _ _).mono ?_;rintro e wa ⟨rfl,ma,fa⟩;go_wp2_with fail
        go_ret;exact vX HL8.out (by rw [HR8.out,hlv]) X8.out M8.out PR8.out HV8.out F8.out ma fa
      ·have hlv:zX y2=y2:=by unfold zX;rw [hen];rfl
       go_wp2_with fail
       refine (jy M8.out OK2.out.hc _ _ _).mono ?_;rintro e wa ⟨rfl,ma,fa⟩;go_wp2_with fail
       go_ret;exact vX HL8.out (by rw [HR8.out,hlv]) X8.out M8.out PR8.out HV8.out F8.out ma fa
     ·have hcv:=HCV.out
      rw [if_neg zs] at hcv;have hok2:=OK2.out;rw [hcv] at hok2;have hR8:R.1=qF (zX (zi y).1):=(by rw [HRR.out]);have hL8:L1.map (·.1)=L.map (·.1)++R.2:=(by rw [HRR.out];dsimp only;rw [hcv,HLM7.out,List.append_nil]);rw [hcv] at hR8;dsimp only at hR8 hok2;have M8:=hI m5;have PR8:=PR5;have HV8:=HV1;have X8:=X1;have F8:=hI (FW4.out.trans FX.out zs);have OK3:=hI hok2;have HR8:=hI hR8;have HL8:=hI hL8;clear OK2 hok2 hR8 hL8 m5 hcv HCV HRR;generalize hy2:y=y2 at *
      have OK2:=OK3;generalize hen:y2.ended=en at *
      generalize hac:y2.qp=ac at *
      rcases Bool.eq_false_or_eq_true en with rfl|rfl
      ·rcases Bool.eq_false_or_eq_true ac with rfl|rfl
       ·have hlv:zX y2=kS y2 false:=by unfold zX;rw [hen,hac];rfl
        go_wp2_with fail
        refine (xM M8.out false).mono ?_;rintro e w9 ⟨rfl,m9,f9⟩;have M9:=hI m9;have F9:=hI f9;clear m9 f9;go_wp2_with fail
        refine (jy M9.out OK2.out.hc _ _ _).mono ?_;rintro e wa ⟨rfl,ma,fa⟩;go_wp2_with fail
        go_ret;exact vX HL8.out (by rw [HR8.out,hlv]) X8.out M9.out (PR8.out.yT M8.out F9.out zh) HV8.out (F8.out.trans F9.out (fun y hy => .inl (by simp at hy;subst hy;simp [Hd.own]))) ma fa
       ·have hlv:zX y2=y2:=by unfold zX;rw [hen,hac];rfl
        go_wp2_with fail
        refine (jy M8.out OK2.out.hc _ _ _).mono ?_;rintro e wa ⟨rfl,ma,fa⟩;go_wp2_with fail
        go_ret;exact vX HL8.out (by rw [HR8.out,hlv]) X8.out M8.out PR8.out HV8.out F8.out ma fa
      ·have hlv:zX y2=y2:=by unfold zX;rw [hen];rfl
       go_wp2_with fail
       refine (jy M8.out OK2.out.hc _ _ _).mono ?_;rintro e wa ⟨rfl,ma,fa⟩;go_wp2_with fail
       go_ret;exact vX HL8.out (by rw [HR8.out,hlv]) X8.out M8.out PR8.out HV8.out F8.out ma fa
 ·have hR:=jD x h4
  rw [hR];have c0:=(qm m.blk).c0;have hd:decide (x.at_=4)=false:=by simpa using h4
  have hq:(x.at_ == 4)=false:=by simpa using h4
  have hn:(x.at_ != 4)=true:=by simpa using h4
  have M:=hI m;have OK:=hI ok;have PR:=hI pr;have HV:=hI hv;clear m ok pr hv hR;go_enter Tryz.func56,Tryz.ntmps56;go_wp2_with fail
  refine (jy M.out OK.out.hc _ _ _).mono ?_;rintro e wa ⟨rfl,ma,fa⟩;go_wp2_with fail
  go_ret;exact vX (y3:=x) zs rfl (Ext.refl w S) M.out PR.out (fun b hb=>⟨.inl hb,HV.out b hb⟩) (Fr.refl _ w) ma fa
end Go.Proofs.YtmgdbbbdhkfdmaaGreat
