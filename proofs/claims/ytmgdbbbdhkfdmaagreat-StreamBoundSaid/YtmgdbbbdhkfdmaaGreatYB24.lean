import Derived.Test.YtmgdbbbdhkfdmaaGreatYB22
import Derived.Test.YtmgdbbbdhkfdmaaGreatYB21
import Derived.Test.YtmgdbbbdhkfdmaaGreatYB23
import Derived.Deep.DeepCutAuto
import Derived.Test.YtmgdbbbdhkfdmaaGreatYB0
import Derived.Still
set_option linter.unusedSimpArgs false
set_option linter.unusedVariables false
namespace Go.Proofs.YtmgdbbbdhkfdmaaGreat
set_option maxRecDepth 100000
open Go.RowKit Go.Deep
theorem loop_len:∀(k:Nat) (x:St),(loopV k x).2.length≤k
 | 0,x=>Nat.le_refl _
 | k+1,x=>by
  by_cases h:0<nextV x
  ·rw [loop_go k x h]
   have:=loop_len k (sendV x).1
   simp only [List.length_cons]
   omega
  ·rw [loop_stop _ x h]
   simp
theorem sends_len(x:St):(sendsV x).2.length≤x.all.length+1:=by
 by_cases h:x.at_=4
 ·rw [sendsV_open x h]
  have:=loop_len x.all.length x
  have h2:(closesV (loopV x.all.length x).1).2.length≤1:=by unfold closesV;split <;> simp
  simp only [List.length_append]
  omega
 ·rw [sendsV_else x h]
  simp
theorem Pr.cat{S:Nat→Prop}{w w':World}{v v1 v2:Value}{L1 L2:List (Prt × Value)}(own:w'.ownsRow 0 49 5 v (L1.length+L2.length) (prs L1++prs L2))(h1:Pr S w v1 L1)(h2:Pr S w v2 L2)(f:Fr [] w w'):Pr S w' v (L1++L2):=by
 refine⟨by rw [List.length_append,← prs_app];exact own,fun x hx=>?_⟩
 rcases List.mem_append.1 hx with h|h
 ·exact (h1.byt x h).fr f (by simp)
 ·exact (h2.byt x h).fr f (by simp)
set_option maxHeartbeats 16000000 in
theorem ecome{S:Nat→Prop}{w:World}{x:St}{av uv kv:Value}(m:RE S w x av uv kv)(ok:Ok x)(ou:OkU x)(bk:x.broken=true→x.at_=5)(p:Prt)(f0:0≤p.flags)(f1:p.flags≤15)(s0:0≤p.seq)(s1:p.seq<4294967296)(k0:0≤p.ack)(k1:p.ack<4294967296)(r0:0≤p.win)(r1:p.win<65536)(hdl:p.d.length≤100)
  (DA:Option Addr) (dc:Nat) (T:Nat→Prop) (hd:Byt T w (.slice DA p.d.length dc) p.d) (hT:∀ b,T b→b<w.heap.size):Calls Tryz.prog 29 #[agE x av uv kv,agP p (.slice DA p.d.length dc)] w (EL S w ((sendsV (comesV x p).1).1,(comesV x p).2++(sendsV (comesV x p).1).2)):=by
 have o1:=m.cells1
 have hcl:=comes_len x p
 have okY:=Ok.comes ok p hdl
 have ouY:=ou.kqt (Kqt.comes x p).1 s0 s1
 have bkY:=comes_bk bk p
 have hco:=fun W (g:Fr [] w W)=>ecomes (m.fr g) ok ou p f0 f1 s0 s1 k0 k1 r0 r1 hdl DA dc T (hd.fr g (by simp)) (fun b hb=>Nat.lt_of_lt_of_le (hT b hb) g.size)
 obtain⟨pf,ps,pk,pw,pd⟩:=p
 dsimp only at hdl hd hco ⊢
 obtain⟨l0,b0⟩:=Lo.start2 w (arE x av uv kv) #[.int .i64 pf, .int .u32 ps, .int .u32 pk, .int .u16 pw, .slice DA pd.length dc]
 generalize comesV x ⟨pf,ps,pk,pw,pd⟩=Y at *
 obtain⟨y,Yl⟩:=Y
 dsimp only at hcl okY ouY bkY hco ⊢
 have hsl:=sends_len y
 have hsn:=sends_num y
 have hes:=fun (S1:Nat→Prop) (W:World) (a1 u1 k1:Value) (m1:RE S1 W y a1 u1 k1)=>esends m1 okY.s ouY bkY
 have hyl:=okY.s.hl
 generalize sendsV y=R at *
 have HCO:=Lib.hid hco
 have HES:=Lib.hid hes
 have HSN:=Lib.hid hsn
 have HLE:Hid (Yl.length≤1∧R.2.length≤1000001):=Lib.hid ⟨hcl,by omega⟩
 have L0:=Lib.hid l0
 have B0:=Lib.hid b0
 have NS0:Hid (∀ b,S b→b<w.heap.size):=Lib.hid m.pub
 clear hco hes l0 b0 m ok ou bk okY ouY bkY hcl hsl hsn hyl hd hT f0 f1 s0 s1 k0 k1 r0 r1 hdl
 go_enter Tryz.func29,Tryz.ntmps29
 go_upto_region 1 with fail
 generalize ((w.alloc (.cells (arE x av uv kv) 41)).alloc (.cells #[.int .i64 pf, .int .u32 ps, .int .u32 pk, .int .u16 pw, .slice DA pd.length dc] 49)).alloc (.cells endZ 41)=w1 at *
 have L1:Hid (∀ W,Fr [] w1 W→Lo w W w.heap.size (w.heap.size+1+1) (arE x av uv kv)):=Lib.hid (fun W f=>L0.out.grow f)
 have B1:Hid (∀ W,Fr [] w1 W→Blk W (w.heap.size+1) 49 #[.int .i64 pf, .int .u32 ps, .int .u32 pk, .int .u16 pw, .slice DA pd.length dc]):=Lib.hid (fun W f=>B0.out.fr f (by simp))
 clear L0 B0
 go_upto_region 2 with (first
   | ((with_reducible refine gate_load 41 (.tmp 2) ?_);refine wpList_load_blk rfl 41 (.tmp 2) rfl w.heap.size 41 (arE x av uv kv) _ rfl (L1.out _ (by first|exact Fr.refl _ _|assumption)).s Tryz.underlying41 rfl (by kernel_rfl) ?_)
   | ((with_reducible refine gate_load 49 (.tmp 3) ?_);refine wpList_load_blk rfl 49 (.tmp 3) rfl (w.heap.size+1) 49 #[.int .i64 pf, .int .u32 ps, .int .u32 pk, .int .u16 pw, .slice DA pd.length dc] _ rfl (B1.out _ (by first|exact Fr.refl _ _|assumption)) Tryz.underlying49 rfl (by kernel_rfl) ?_)
   | (go_at_call 70;refine (HCO.out _ (L1.out _ (Fr.refl _ _)).f).mono ?_;rintro e w5 ⟨S1,a1,u1,k1,v1,Lc,rfl,hLc,x1,m1,p1,f5⟩;have o2:=m1.cells1)
   | ((with_reducible refine gate_store 41 (.tmp 6) ?_);refine wpList_store_blk rfl 41 (.tmp 6) (.tmp 13) rfl w5.heap.size 41 endZ (arE y a1 u1 k1) rfl rfl (Blk.new w5 41 endZ) rfl (by kernel_rfl) (by first|exact o1.out _|exact o2.out _|simp [Value.oneCell']) ?_;intro w6 B6 F6))
 have hpub:=m1.pub
 have NSB6:Hid (¬ S1 w5.heap.size):=Lib.hid (fun hs=>by have:=hpub _ hs;omega)
 have OB6:Hid (∀ b∈ob v1,b≠w5.heap.size):=Lib.hid (fun b hb=>by have:=own_lt p1.own (mem_ob.1 hb);omega)
 have hob1:∀ b∈ob v1,b<w5.heap.size:=fun b hb=>own_lt p1.own (mem_ob.1 hb)
 have fa:Fr [] w5 (w5.alloc (.cells endZ 41)):=(Fr.refl [] w5).alloc _
 have M6:=Lib.hid ((m1.fr fa).far F6 (fun hs=>by have:=hpub _ hs;omega))
 have P6:=Lib.hid ((p1.fr fa (by simp) (by simp) (fun _ h=>h)).fr F6 (fun z hz hs=>by simp at hz;subst hz;have:=hpub _ hs;omega) (fun b hb hm=>by simp at hm;have:=hob1 b hb;omega) (fun _ h=>h))
 have LL5:=L1.out _ f5
 have L6:Hid (Lo w w6 w.heap.size (w.heap.size+1+1) (arE x av uv kv)):=Lib.hid ((LL5.grow fa).far F6 (by have:=LL5.f.size;omega) (by have:=LL5.s.lt;omega) (by have:=LL5.r.lt;omega))
 have X6:Hid (Ext w S S1):=Lib.hid (ext_up x1 (by first|exact (L1.out _ (Fr.refl _ _)).f.size|exact Nat.le_refl _))
 have N6:Hid (w.heap.size+1+1<w5.heap.size):=Lib.hid LL5.r.lt
 have NSR:Hid (¬ S1 (w.heap.size+1+1)):=Lib.hid (fun hs=>(x1.2 _ hs).elim (fun h=>by have:=NS0.out _ h;omega) (fun h=>by have:=(L1.out _ (Fr.refl _ _)).r.lt;omega))
 have OBR:Hid (∀ b∈ob v1,b≠w.heap.size+1+1):=Lib.hid (fun b hb=>by rintro rfl;exact own_ne p1.own LL5.r (by decide) (mem_ob.1 hb))
 have HLc:=Lib.hid hLc
 have HES6:Hid (∀ W,Fr [] w6 W→Calls Tryz.prog 71 #[agE y a1 u1 k1] W (EPart S1 W R a1 u1 k1)):=Lib.hid (fun W f=>HES.out S1 W a1 u1 k1 (M6.out.fr f))
 obtain⟨A1,c1,rfl,hc1,hc2⟩:=own_form p1.own
 have hLcl:Hid (Lc.length=Yl.length):=Lib.hid (by have:=congrArg List.length hLc;simpa using this)
 have V6:Hid (∀ W,Fr [] w6 W→Blk W w5.heap.size 41 (arE y a1 u1 k1)):=Lib.hid (fun W f=>B6.fr f (by simp))
 generalize w5.heap.size=b6 at *
 clear hpub hob1 fa LL5 m1 p1 x1 f5 B6 F6 hLc HCO HES L1 B1 hc1 hc2
 go_upto_region 3 with (first
   | ((with_reducible refine gate_load 41 (.tmp 6) ?_);refine wpList_load_blk rfl 41 (.tmp 6) rfl b6 41 (arE y a1 u1 k1) _ rfl (V6.out _ (by first|exact Fr.refl _ _|assumption)) Tryz.underlying41 rfl (by kernel_rfl) ?_)
   | (go_at_call 71;refine (HES6.out _ (Fr.refl _ _)).mono ?_;rintro e w8 ⟨v2,Ls,rfl,hLs,p2,f8⟩)
   | ((with_reducible refine gate_store 41 (.tmp 6) ?_);refine wpList_store_blk rfl 41 (.tmp 6) (.tmp 18) rfl b6 41 (arE y a1 u1 k1) (arE R.1 a1 u1 k1) rfl rfl (V6.out _ f8) rfl (by kernel_rfl) (by first|exact o1.out _|exact o2.out _|simp [Value.oneCell']) ?_;intro w9 B9 F9))
 have p9:=p2.fr F9 (fun z hz hs=>by simp at hz;subst hz;exact NSB6.out hs) (fun b hb hm=>by simp at hm;subst hm;exact own_ne p2.own (V6.out _ f8) (by decide) (mem_ob.1 hb)) (fun _ h=>h)
 have q9:=(P6.out.fr f8 (by simp) (by simp) (fun _ h=>h)).fr F9 (fun z hz hs=>by simp at hz;subst hz;exact NSB6.out hs) (fun b hb hm=>by simp at hm;exact OB6.out b hb hm) (fun _ h=>h)
 have m9:=((M6.out.fr f8).far F9 NSB6.out).to_ (y:=R.1) HSN.out.1 HSN.out.2.1 HSN.out.2.2
 have L9:=Lib.hid ((L6.out.grow f8).far F9 (by have:=N6.out;omega) (by have:=N6.out;omega) (by have:=N6.out;omega))
 have V9:=Lib.hid B9
 obtain⟨A2,c2,rfl,hc3,hc4⟩:=own_form p2.own
 have hLsl:Hid (Ls.length=R.2.length):=Lib.hid (by have:=congrArg List.length hLs;simpa using this)
 have OBR2:Hid (∀ b∈ob (.slice A2 Ls.length c2),b≠w.heap.size+1+1):=Lib.hid (fun b hb=>by rintro rfl;exact own_ne p9.own L9.out.r (by decide) (mem_ob.1 hb))
 have HL12:Hid (Lc.map (·.1)++Ls.map (·.1)=Yl++R.2):=Lib.hid (by rw [HLc.out,hLs])
 have HN1:Hid (Lc.length≤1∧Ls.length≤1000001):=Lib.hid (by have:=HLE.out;have:=hLcl.out;have:=hLsl.out;omega)
 have Q9:=Lib.hid q9
 have P9:=Lib.hid p9
 have M9:=Lib.hid m9
 clear p2 f8 F9 B9 p9 q9 m9 hLs hLsl hLcl hc3 hc4 HLE HSN P6 M6 V6 L6 HES6 HLc
 go_cut [5] (fun sl wx=>∃ L,L.map (·.1)=Yl++R.2∧RE S1 wx R.1 a1 u1 k1∧Pr S1 wx sl L∧Blk wx (w.heap.size+1+1) 41 (arE R.1 a1 u1 k1)∧Fr [w.heap.size+1+1] w9 wx)
 case first=>
  obtain⟨i0,hi0,hz0,hz1,hz2⟩:=info_parts info_part
  refine wp_region_held_drew (S:=fun W=>Fr [w.heap.size+1+1] w9 W) (by kernel_rfl) (Fr.refl _ w9).drew (fun hH=>?_)
  have fd:Fr [] w9 w9.drew:=(Fr.refl [] w9).drew
  generalize w9.drew=wd at *
  refine Held.take 0 rfl (by kernel_rfl) (by kernel_rfl) (by kernel_rfl) (fun _ _ _ h=>h) (Held.y_blk rfl 41 (.tmp 6) rfl b6 41 (arE R.1 a1 u1 k1) _ rfl (fun _ hs=>V9.out.fr hs (by have:=N6.out;simp;omega)) Tryz.underlying41 rfl (by kernel_rfl)) hH ?_
  try simp only [Act.put,List.setIfInBounds_toArray,List.set_cons_zero,List.set_cons_succ]
  refine Held.take 1 (v := .slice A1 Lc.length c1) rfl (by kernel_rfl) (by kernel_rfl) (by kernel_rfl) (fun _ _ _ h=>h) (Or.inl ⟨rfl,fun (W:World) hs=>by go_simp⟩) hH ?_
  try simp only [Act.put,List.setIfInBounds_toArray,List.set_cons_zero,List.set_cons_succ]
  refine Held.take 3 (v := .slice A2 Ls.length c2) rfl (by kernel_rfl) (by kernel_rfl) (by kernel_rfl) (fun _ _ _ h=>h) (Or.inl ⟨rfl,fun (W:World) hs=>by go_simp⟩) hH ?_
  try simp only [Act.put,List.setIfInBounds_toArray,List.set_cons_zero,List.set_cons_succ]
  refine Held.one (i:=2) (by kernel_rfl) rfl (fun K hK=>?_)
  refine step_append_sl _ (by rfl) (.const (.slice none 0 0)) (.tmp 21) 27 (by rfl) 49 i0 (.agg #[.int .i64 0, .int .u32 0, .int .u32 0, .int .u16 0, .slice none 0 0]) 5 48 Tryz.underlying27 hi0 hz0 hz1 hz2 (by rfl) (by decide) (.slice none 0 0) 0 [] (by rfl) (World.ownsRow_nil _ 0 49 5) (fun _=>True) (.slice A1 Lc.length c1) Lc.length (prs Lc) (by rfl) (Sl.of_own (Q9.out.fr fd (by simp) (by simp) (fun _ h=>h)).own (fun _ _=>trivial)) Q9.out.one (by unfold maxLen;have:=HN1.out;omega) (by have:=HN1.out;omega) Lc.length (Nat.zero_add _) ?_
  intro A3 c3 wa g1 g2 g3
  refine hK.out _ _ ((fd.trans g2 (by simp [ob,Value.ownBlock])).mono (by simp)) (fun hA=>?_)
  clear hK K
  try simp only [Act.put,List.setIfInBounds_toArray,List.set_cons_zero,List.set_cons_succ]
  have fa:Fr [] w9 wa:=fd.trans g2 (by simp [ob,Value.ownBlock])
  clear hH
  refine Held.one (i:=4) (by kernel_rfl) rfl (fun K hK=>?_)
  refine step_append_sl _ (by rfl) (.tmp 22) (.tmp 23) 27 (by rfl) 49 i0 (.agg #[.int .i64 0, .int .u32 0, .int .u32 0, .int .u16 0, .slice none 0 0]) 5 48 Tryz.underlying27 hi0 hz0 hz1 hz2 (by rfl) (by decide) (.slice A3 Lc.length c3) Lc.length ([]++prs Lc) (by rfl) g1 (fun _=>True) (.slice A2 Ls.length c2) Ls.length (prs Ls) (by rfl) (Sl.of_own (P9.out.fr fa (by simp) (by simp) (fun _ h=>h)).own (fun _ _=>trivial)) P9.out.one (by unfold maxLen;have:=HN1.out;omega) (by have:=HN1.out;omega) (Lc.length+Ls.length) rfl ?_
  intro A4 c4 wb g4 g5 g6
  refine hK.out _ _ ((fa.trans g5 (fun b hb=>by rcases g3 b (mem_ob.1 hb) with h|h;(simp [Value.ownBlock] at h);exact .inr (Nat.le_trans fd.size h.1))).mono (by simp)) (fun hB=>?_)
  clear hK K
  try simp only [Act.put,List.setIfInBounds_toArray,List.set_cons_zero,List.set_cons_succ]
  have fb:Fr [] w9 wb:=fa.trans g5 (fun b hb=>by rcases g3 b (mem_ob.1 hb) with h|h;(simp [Value.ownBlock] at h);exact .inr (Nat.le_trans fd.size h.1))
  clear hA
  have pc:Pr S1 wb (.slice A4 (Lc.length+Ls.length) c4) (Lc++Ls):=Pr.cat (by rw [List.nil_append] at g4;exact g4) Q9.out P9.out fb
  have obc:∀ b∈ob (.slice A4 (Lc.length+Ls.length) c4),w9.heap.size≤b:=fun b hb=>by
   rcases g6 b (mem_ob.1 hb) with h|h
   ·rcases g3 b h with h1|h1
    ·simp [Value.ownBlock] at h1
    ·exact Nat.le_trans fd.size h1.1
   ·exact Nat.le_trans fa.size h.1
  refine Held.one (i:=5) (by kernel_rfl) rfl (fun K hK=>?_)
  refine Held.st_blk rfl 41 (.tmp 4) (.tmp 20) rfl (w.heap.size+1+1) 41 endZ (arE R.1 a1 u1 k1) rfl rfl (L9.out.r.fr fb (by simp)) rfl (by kernel_rfl) (by first|exact o1.out _|exact o2.out _|simp [Value.oneCell']) ?_
  intro wz Bz Fz
  refine hK.out _ _ (hB.trans Fz (fun z hz => .inl hz)) (fun hC=>?_)
  clear hK K
  try simp only [Act.put,List.setIfInBounds_toArray,List.set_cons_zero,List.set_cons_succ]
  refine Held.take 6 (v := .slice A4 (Lc.length+Ls.length) c4) rfl (by kernel_rfl) (by kernel_rfl) (by kernel_rfl) (fun _ _ _ h=>h) (Or.inl ⟨rfl,fun (W:World) hs=>by go_simp⟩) hC ?_
  try simp only [Act.put,List.setIfInBounds_toArray,List.set_cons_zero,List.set_cons_succ]
  refine Held.done (by kernel_rfl) ?_
  go_wp2_with fail
  go_meet
  have hrl:=L9.out.r.lt
  exact⟨Lc++Ls,by rw [List.map_append];exact HL12.out,(M9.out.fr fb).far Fz NSR.out,pc.fr Fz (fun z hz hs=>by simp at hz;subst hz;exact NSR.out hs) (fun b hb hm=>by simp at hm;have:=obc b hb;omega) (fun _ h=>h),Bz,hC⟩
 case rest=>
  obtain⟨L,hL,mz,pz,Bz,Fz⟩:=hcut
  have FW:=(L9.out).res Fz
  refine ‹∀(a:Act) (w:World),Code.wp Tryz.prog Code.ret _ a w→_› _ _ (wp_ret ?_)
  try simp only [Exit.then]
  change bodyPost Tryz.prog _ _ .ret _ _
  refine bodyPost_ret (results_ct 4 41 ⟨w.heap.size+1+1,0,none⟩ _ 5 u5 (by rfl) (by rfl) (end_load Bz) (by rfl)) (by rfl) ?_
  exact⟨S1,a1,u1,k1,_,L,rfl,hL,X6.out,mz,pz,FW⟩
def EL3(S:Nat→Prop)(w:World)(r:St × List Prt × Int)(e:Ending)(w':World):Prop:=
 ∃ S' av uv kv v L,e = .returned (.tuple #[agE r.1 av uv kv,v, .int .i64 r.2.2])∧L.map (·.1)=r.2.1∧Ext w S S'∧RE S' w' r.1 av uv kv∧Pr S' w' v L∧Fr [] w w'
set_option maxHeartbeats 16000000 in
theorem eclose{S:Nat→Prop}{w:World}{x:St}{av uv kv:Value}(m:RE S w x av uv kv)(ok:OkS x)(ou:OkU x)(bk:x.broken=true→x.at_=5):Calls Tryz.prog 33 #[agE x av uv kv] w (EL3 S w (closeV x)):=by
 have o1:=m.cells1
 have vo:=closeV_over x
 have vg:=closeV_go x
 have hov:overV x=(x.at_ == 5 || x.closing):=rfl
 have okc:OkS { x with closing:=true }:=⟨ok.hi,ok.hu,ok.hw,ok.hc,ok.hm,ok.hl,ok.n0,ok.n1,ok.s0,ok.s1⟩
 have hsn:=sends_num { x with closing:=true }
 have hes:=fun (S1:Nat→Prop) (W:World) (a1 u1 k1:Value) (m1:RE S1 W { x with closing:=true } a1 u1 k1)=>esends m1 okc ⟨ou.i0,ou.i1,ou.p0,ou.p1⟩ bk
 obtain⟨⟨aA,ac,rfl,_,_⟩,_,_⟩:=m.forms
 have l0:=Lo.start w (arE x (.slice aA x.all.length ac) uv kv)
 generalize closeV x=r at *
 generalize sendsV { x with closing:=true }=R at *
 have HES:=Lib.hid hes
 have HSN:=Lib.hid hsn
 have VO:=Lib.hid vo
 have VG:=Lib.hid vg
 have HOV:=Lib.hid hov
 have L0:=Lib.hid l0
 have M:=Lib.hid m
 clear hes hsn vo vg hov l0 m ok ou bk okc
 go_enter Tryz.func33,Tryz.ntmps33
 go_upto_region 1 with fail
 generalize (w.alloc (.cells (arE x (.slice aA x.all.length ac) uv kv) 41)).alloc (.cells endZ 41)=w1 at *
 have L1:Hid (∀ W,Fr [] w1 W→Lo w W w.heap.size (w.heap.size+1) (arE x (.slice aA x.all.length ac) uv kv)):=Lib.hid (fun W f=>L0.out.grow f)
 have c2:w1.cell? ⟨w.heap.size,2,none⟩=some (.int .i64 x.at_):=L0.out.s.cell 2
 have c25:w1.cell? ⟨w.heap.size,25,none⟩=some (.bool x.closing):=L0.out.s.cell 25
 clear L0
 by_cases h5:x.at_=5
 ·rw [h5] at c2
  have H5:=Lib.hid h5
  clear h5
  go_upto_region 2 with fail
  clear c2 c25
  go_cut [3,4] (fun sa sb wx=>sa = .slice none 0 0∧sb = .int .i64 260∧Blk wx (w.heap.size+1) 41 (arE x (.slice aA x.all.length ac) uv kv)∧Fr [(w.heap.size+1)] w1 wx)
  case first=>
   go_wp2_with (first
     | ((with_reducible refine gate_load 41 (.tmp 1) ?_);refine wpList_load_blk rfl 41 (.tmp 1) rfl w.heap.size 41 (arE x (.slice aA x.all.length ac) uv kv) _ rfl (L1.out _ (by first|exact Fr.refl _ _|assumption)).s Tryz.underlying41 rfl (by kernel_rfl) ?_)
     | ((with_reducible refine gate_store 41 (.tmp 2) ?_);refine wpList_store_blk rfl 41 (.tmp 2) (.tmp 14) rfl (w.heap.size+1) 41 endZ (arE x (.slice aA x.all.length ac) uv kv) rfl rfl (L1.out _ (by first|exact Fr.refl _ _|assumption)).r rfl (by kernel_rfl) (by first|exact o1.out _|exact o2.out _|simp [Value.oneCell']) ?_;intro wz Bz Fz))
   go_meet
   exact⟨rfl,rfl,Bz,Fz⟩
  case rest=>
   obtain⟨rfl,rfl,Bz,Fz⟩:=hcut
   have FW:=(L1.out _ (Fr.refl [] w1)).res Fz
   refine ‹∀(a:Act) (w:World),Code.wp Tryz.prog Code.ret _ a w→_› _ _ (wp_ret ?_)
   try simp only [Exit.then]
   change bodyPost Tryz.prog _ _ .ret _ _
   refine bodyPost_ret (results_ctt 2 41 ⟨w.heap.size+1,0,none⟩ _ 3 4 (.slice none 0 0) (.int .i64 260) (by rfl) (by rfl) (end_load Bz) (by rfl) (by rfl)) (by rfl) ?_
   rw [VO.out (by rw [HOV.out];simp [H5.out])]
   exact⟨S,_,_,_,_,[],rfl,rfl,Ext.refl w S,M.out.fr FW,Pr.nil,FW⟩
 ·have hd5:decide (x.at_=5)=false:=by simpa using h5
  have hq5:(x.at_ == 5)=false:=by simpa using h5
  have H5:=Lib.hid h5
  clear h5
  cases hcl:x.closing
  ·rw [hcl] at c25
   have HCL:=Lib.hid hcl
   clear hcl
   have z25:=(L1.out _ (Fr.refl [] w1)).s.frozen 25
   have hlb:=(L1.out _ (Fr.refl [] w1)).s.lt
   go_upto_region 4 with fail
   have hset:Lo w (w1.setCell ⟨w.heap.size,25,none⟩ (.bool true)) w.heap.size (w.heap.size+1) (arE { x with closing:=true } (.slice aA x.all.length ac) uv kv):=by
    have hh:=((L1.out _ (Fr.refl [] w1)).cell 25 (.bool true))
    simp only [arE,List.setIfInBounds_toArray,List.set_cons_zero,List.set_cons_succ] at hh ⊢
    exact hh
   generalize w1.setCell ⟨w.heap.size,25,none⟩ (.bool true)=w2 at *
   have L2:Hid (∀ W,Fr [] w2 W→Lo w W w.heap.size (w.heap.size+1) (arE { x with closing:=true } (.slice aA x.all.length ac) uv kv)):=Lib.hid (fun W f=>hset.grow f)
   have MS:Hid (RE S w2 { x with closing:=true } (.slice aA x.all.length ac) uv kv):=Lib.hid ((M.out.to_ (y:={ x with closing:=true }) rfl rfl rfl).fr hset.f)
   have XS:Hid (Ext w S S):=Lib.hid (Ext.refl w S)
   have NSR:Hid (¬ S (w.heap.size+1)):=Lib.hid (fun hs=>by have:=M.out.pub _ hs;omega)
   clear hset c2 c25 z25 hlb
   have HES0:Hid (∀ W,Fr [] w2 W→Calls Tryz.prog 71 #[agE { x with closing:=true } (.slice aA x.all.length ac) uv kv] W (EPart S W R (.slice aA x.all.length ac) uv kv)):=Lib.hid (fun W f=>HES.out S W _ _ _ (MS.out.fr f))
   go_upto_region 5 with (first
      | ((with_reducible refine gate_load 41 (.tmp 1) ?_);refine wpList_load_blk rfl 41 (.tmp 1) rfl w.heap.size 41 (arE { x with closing:=true } (.slice aA x.all.length ac) uv kv) _ rfl (L2.out _ (by first|exact Fr.refl _ _|assumption)).s Tryz.underlying41 rfl (by kernel_rfl) ?_)
      | (go_at_call 71;refine (HES0.out _ (Fr.refl _ _)).mono ?_;rintro e w8 ⟨v2,Ls,rfl,hLs,p2,f8⟩)
      | ((with_reducible refine gate_store 41 (.tmp 5) ?_);refine wpList_store_blk rfl 41 (.tmp 5) (.tmp 19) rfl w8.heap.size 41 endZ (arE R.1 (.slice aA x.all.length ac) uv kv) rfl rfl (Blk.new w8 41 endZ) rfl (by kernel_rfl) (by first|exact o1.out _|exact o2.out _|simp [Value.oneCell']) ?_;intro w9 B9 F9))
   have fa8:Fr [] w8 (w8.alloc (.cells endZ 41)):=(Fr.refl [] w8).alloc _
   have nsb:¬ S w8.heap.size:=fun hs=>by have h1:=MS.out.pub _ hs;have h2:=f8.size;omega
   have nob:∀ b∈ob v2,b≠w8.heap.size:=fun b hb=>by have:=own_lt p2.own (mem_ob.1 hb);omega
   have ll8:=L2.out _ f8
   have L9:=Lib.hid ((ll8.grow fa8).far F9 (by have:=ll8.f.size;omega) (by have:=ll8.s.lt;omega) (by have:=ll8.r.lt;omega))
   have P9:=Lib.hid ((p2.fr fa8 (by simp) (by simp) (fun _ h=>h)).fr F9 (fun z hz hs=>by simp at hz;subst hz;exact nsb hs) (fun b hb hm=>by simp at hm;exact nob b hb hm) (fun _ h=>h))
   have M9:Hid (RE S w9 R.1 (.slice aA x.all.length ac) uv kv):=Lib.hid ((((MS.out.fr f8).fr fa8).far F9 nsb).to_ HSN.out.1 HSN.out.2.1 HSN.out.2.2)
   have V9:=Lib.hid B9
   have HLs:=Lib.hid hLs
   have NOB:Hid (∀ b∈ob v2,b≠w.heap.size+1):=Lib.hid (fun b hb=>by rintro rfl;exact own_ne p2.own ll8.r (by decide) (mem_ob.1 hb))
   generalize w8.heap.size=b9 at *
   clear fa8 nsb nob ll8 p2 f8 B9 F9 hLs HES0
   obtain⟨A2,c2,rfl,_,_⟩:=own_form P9.out.own
   go_cut [3,4] (fun sa sb wx=>sa = .slice A2 Ls.length c2∧sb = .int .i64 0∧Blk wx (w.heap.size+1) 41 (arE R.1 (.slice aA x.all.length ac) uv kv)∧Fr [(w.heap.size+1)] w9 wx)
   case first=>
    go_wp2_with (first
      | ((with_reducible refine gate_load 41 (.tmp 5) ?_);refine wpList_load_blk rfl 41 (.tmp 5) rfl b9 41 (arE R.1 (.slice aA x.all.length ac) uv kv) _ rfl V9.out Tryz.underlying41 rfl (by kernel_rfl) ?_)
      | ((with_reducible refine gate_store 41 (.tmp 2) ?_);refine wpList_store_blk rfl 41 (.tmp 2) (.tmp 21) rfl (w.heap.size+1) 41 endZ (arE R.1 (.slice aA x.all.length ac) uv kv) rfl rfl L9.out.r rfl (by kernel_rfl) (by first|exact o1.out _|exact o2.out _|simp [Value.oneCell']) ?_;intro wz Bz Fz))
    go_meet
    exact⟨rfl,rfl,Bz,Fz⟩
   case rest=>
    obtain⟨rfl,rfl,Bz,Fz⟩:=hcut
    have FW:=L9.out.res Fz
    have hrl:=L9.out.r.lt
    refine ‹∀(a:Act) (w:World),Code.wp Tryz.prog Code.ret _ a w→_› _ _ (wp_ret ?_)
    try simp only [Exit.then]
    change bodyPost Tryz.prog _ _ .ret _ _
    refine bodyPost_ret (results_ctt 2 41 ⟨w.heap.size+1,0,none⟩ _ 3 4 (.slice A2 Ls.length c2) (.int .i64 0) (by rfl) (by rfl) (end_load Bz) (by rfl) (by rfl)) (by rfl) ?_
    rw [VG.out (by rw [HOV.out,HCL.out];simpa using H5.out)]
    exact⟨S,_,_,_,_,Ls,rfl,HLs.out,XS.out,M9.out.far Fz NSR.out,P9.out.fr Fz (fun z hz hs=>by simp at hz;subst hz;exact NSR.out hs) (fun b hb hm=>by simp at hm;exact NOB.out b hb hm) (fun _ h=>h),FW⟩
  ·rw [hcl] at c25
   have HCL:=Lib.hid hcl
   clear hcl
   go_upto_region 2 with fail
   clear c2 c25
   go_cut [3,4] (fun sa sb wx=>sa = .slice none 0 0∧sb = .int .i64 260∧Blk wx (w.heap.size+1) 41 (arE x (.slice aA x.all.length ac) uv kv)∧Fr [(w.heap.size+1)] w1 wx)
   case first=>
    go_wp2_with (first
      | ((with_reducible refine gate_load 41 (.tmp 1) ?_);refine wpList_load_blk rfl 41 (.tmp 1) rfl w.heap.size 41 (arE x (.slice aA x.all.length ac) uv kv) _ rfl (L1.out _ (by first|exact Fr.refl _ _|assumption)).s Tryz.underlying41 rfl (by kernel_rfl) ?_)
      | ((with_reducible refine gate_store 41 (.tmp 2) ?_);refine wpList_store_blk rfl 41 (.tmp 2) (.tmp 14) rfl (w.heap.size+1) 41 endZ (arE x (.slice aA x.all.length ac) uv kv) rfl rfl (L1.out _ (by first|exact Fr.refl _ _|assumption)).r rfl (by kernel_rfl) (by first|exact o1.out _|exact o2.out _|simp [Value.oneCell']) ?_;intro wz Bz Fz))
    go_meet
    exact⟨rfl,rfl,Bz,Fz⟩
   case rest=>
    obtain⟨rfl,rfl,Bz,Fz⟩:=hcut
    have FW:=(L1.out _ (Fr.refl [] w1)).res Fz
    refine ‹∀(a:Act) (w:World),Code.wp Tryz.prog Code.ret _ a w→_› _ _ (wp_ret ?_)
    try simp only [Exit.then]
    change bodyPost Tryz.prog _ _ .ret _ _
    refine bodyPost_ret (results_ctt 2 41 ⟨w.heap.size+1,0,none⟩ _ 3 4 (.slice none 0 0) (.int .i64 260) (by rfl) (by rfl) (end_load Bz) (by rfl) (by rfl)) (by rfl) ?_
    rw [VO.out (by rw [HOV.out];simp [HCL.out])]
    exact⟨S,_,_,_,_,[],rfl,rfl,Ext.refl w S,M.out.fr FW,Pr.nil,FW⟩
set_option maxHeartbeats 16000000 in
theorem ewrite{S:Nat→Prop}{w:World}{x:St}{av uv kv:Value}(m:RE S w x av uv kv)(ok:OkS x)(ou:OkU x)(bk:x.broken=true→x.at_=5)(b:List Int)(hal:x.all.length+b.length≤1000000)(A:Option Addr)(c:Nat)(T:Nat→Prop)(hd:Byt T w (.slice A b.length c) b) :
  Calls Tryz.prog 31 #[agE x av uv kv, .slice A b.length c] w (EL3 S w (writeV x b)):=by
 have o1:=m.cells1
 have vo:=writeV_over x b
 have vl:=writeV_long x b
 have vg:=writeV_go x b
 have hov:overV x=(x.at_ == 5 || x.closing):=rfl
 have hwb:=Win.Inv.bd ok.hw
 have hwm:=ok.hm
 have okc:OkS { x with all:=x.all++b }:=⟨ok.hi,ok.hu,ok.hw,ok.hc,by have:=ok.hm;simp only [List.length_append];omega,by simp only [List.length_append];omega,ok.n0,ok.n1,ok.s0,ok.s1⟩
 have hsn:=sends_num { x with all:=x.all++b }
 have hes:=fun (S1:Nat→Prop) (W:World) (a1 u1 k1:Value) (m1:RE S1 W { x with all:=x.all++b } a1 u1 k1)=>esends m1 okc ⟨ou.i0,ou.i1,ou.p0,ou.p1⟩ bk
 obtain⟨⟨aA,ac,rfl,_,_⟩,_,_⟩:=m.forms
 have l0:=Lo.start w (arE x (.slice aA x.all.length ac) uv kv)
 have q1:IntKind.i64.wrap ((x.all.length:Int)+b.length)=(x.all.length:Int)+b.length:=IntWalk.i64_in _ (by omega)
 have q2:IntKind.i64.wrap ((x.all.length:Int)+b.length - x.win.a)=(x.all.length:Int)+b.length - x.win.a:=IntWalk.i64_in _ (by omega)
 generalize writeV x b=r at *
 generalize sendsV { x with all:=x.all++b }=R at *
 have HES:=Lib.hid hes
 have HSN:=Lib.hid hsn
 have VO:=Lib.hid vo
 have VL:=Lib.hid vl
 have VG:=Lib.hid vg
 have HOV:=Lib.hid hov
 have L0:=Lib.hid l0
 have M:=Lib.hid m
 have HD:=Lib.hid hd
 have HAL:=Lib.hid hal
 clear hes hsn vo vl vg hov l0 m ok ou bk okc hd hal hwb hwm
 go_enter Tryz.func31,Tryz.ntmps31
 go_upto_region 1 with fail
 generalize (w.alloc (.cells (arE x (.slice aA x.all.length ac) uv kv) 41)).alloc (.cells endZ 41)=w1 at *
 have L1:Hid (∀ W,Fr [] w1 W→Lo w W w.heap.size (w.heap.size+1) (arE x (.slice aA x.all.length ac) uv kv)):=Lib.hid (fun W f=>L0.out.grow f)
 have c2:w1.cell? ⟨w.heap.size,2,none⟩=some (.int .i64 x.at_):=L0.out.s.cell 2
 have c25:w1.cell? ⟨w.heap.size,25,none⟩=some (.bool x.closing):=L0.out.s.cell 25
 clear L0
 by_cases h5:x.at_=5
 ·rw [h5] at c2
  have H5:=Lib.hid h5
  clear h5
  go_upto_region 2 with fail
  clear c2 c25
  go_cut [5,6] (fun sa sb wx=>sa = .slice none 0 0∧sb = .int .i64 260∧Blk wx (w.heap.size+1) 41 (arE x (.slice aA x.all.length ac) uv kv)∧Fr [(w.heap.size+1)] w1 wx)
  case first=>
   go_wp2_with (first
     | ((with_reducible refine gate_load 41 (.tmp 2) ?_);refine wpList_load_blk rfl 41 (.tmp 2) rfl w.heap.size 41 (arE x (.slice aA x.all.length ac) uv kv) _ rfl (L1.out _ (by first|exact Fr.refl _ _|assumption)).s Tryz.underlying41 rfl (by kernel_rfl) ?_)
     | ((with_reducible refine gate_store 41 (.tmp 4) ?_);refine wpList_store_blk rfl 41 (.tmp 4) (.tmp 16) rfl (w.heap.size+1) 41 endZ (arE x (.slice aA x.all.length ac) uv kv) rfl rfl (L1.out _ (by first|exact Fr.refl _ _|assumption)).r rfl (by kernel_rfl) (by first|exact o1.out _|exact o2.out _|simp [Value.oneCell']) ?_;intro wz Bz Fz))
   go_meet
   exact⟨rfl,rfl,Bz,Fz⟩
  case rest=>
   obtain⟨rfl,rfl,Bz,Fz⟩:=hcut
   have FW:=(L1.out _ (Fr.refl [] w1)).res Fz
   refine ‹∀(a:Act) (w:World),Code.wp Tryz.prog Code.ret _ a w→_› _ _ (wp_ret ?_)
   try simp only [Exit.then]
   change bodyPost Tryz.prog _ _ .ret _ _
   refine bodyPost_ret (results_ctt 4 41 ⟨w.heap.size+1,0,none⟩ _ 5 6 (.slice none 0 0) (.int .i64 260) (by rfl) (by rfl) (end_load Bz) (by rfl) (by rfl)) (by rfl) ?_
   rw [VO.out (by rw [HOV.out];simp [H5.out])]
   exact⟨S,_,_,_,_,[],rfl,rfl,Ext.refl w S,M.out.fr FW,Pr.nil,FW⟩
 ·have hd5:decide (x.at_=5)=false:=by simpa using h5
  have hq5:(x.at_ == 5)=false:=by simpa using h5
  have H5:=Lib.hid h5
  clear h5
  cases hcl:x.closing
  ·rw [hcl] at c25
   have HCL:=Lib.hid hcl
   clear hcl
   have c4:w1.cell? ⟨w.heap.size,4,none⟩=some (.slice aA x.all.length ac):=(L1.out _ (Fr.refl [] w1)).s.cell 4
   have c6:w1.cell? ⟨w.heap.size,6,none⟩=some (.int .i64 x.win.a):=(L1.out _ (Fr.refl [] w1)).s.cell 6
   have hover:Hid (overV x=false):=Lib.hid (by rw [HOV.out,HCL.out];simpa using H5.out)
   by_cases hlong:4096<(x.all.length:Int)+b.length - x.win.a
   ·have hg1:decide ((x.all.length:Int)+b.length - x.win.a > 4096)=true:=by simpa using hlong
    have hg2:decide (4096<(x.all.length:Int)+b.length - x.win.a)=true:=by simpa using hlong
    have HLG:=Lib.hid hlong
    clear hlong
    go_upto_region 4 with fail
    clear c2 c25 c4 c6 hg1 hg2
    go_cut [5,6] (fun sa sb wx=>sa = .slice none 0 0∧sb = .int .i64 3∧Blk wx (w.heap.size+1) 41 (arE x (.slice aA x.all.length ac) uv kv)∧Fr [(w.heap.size+1)] w1 wx)
    case first=>
     go_wp2_with (first
       | ((with_reducible refine gate_load 41 (.tmp 2) ?_);refine wpList_load_blk rfl 41 (.tmp 2) rfl w.heap.size 41 (arE x (.slice aA x.all.length ac) uv kv) _ rfl (L1.out _ (by first|exact Fr.refl _ _|assumption)).s Tryz.underlying41 rfl (by kernel_rfl) ?_)
       | ((with_reducible refine gate_store 41 (.tmp 4) ?_);refine wpList_store_blk rfl 41 (.tmp 4) (.tmp 28) rfl (w.heap.size+1) 41 endZ (arE x (.slice aA x.all.length ac) uv kv) rfl rfl (L1.out _ (by first|exact Fr.refl _ _|assumption)).r rfl (by kernel_rfl) (by first|exact o1.out _|exact o2.out _|simp [Value.oneCell']) ?_;intro wz Bz Fz))
     go_meet
     exact⟨rfl,rfl,Bz,Fz⟩
    case rest=>
     obtain⟨rfl,rfl,Bz,Fz⟩:=hcut
     have FW:=(L1.out _ (Fr.refl [] w1)).res Fz
     refine ‹∀(a:Act) (w:World),Code.wp Tryz.prog Code.ret _ a w→_› _ _ (wp_ret ?_)
     try simp only [Exit.then]
     change bodyPost Tryz.prog _ _ .ret _ _
     refine bodyPost_ret (results_ctt 4 41 ⟨w.heap.size+1,0,none⟩ _ 5 6 (.slice none 0 0) (.int .i64 3) (by rfl) (by rfl) (end_load Bz) (by rfl) (by rfl)) (by rfl) ?_
     rw [VL.out hover.out (by have:=HLG.out;omega)]
     exact⟨S,_,_,_,_,[],rfl,rfl,Ext.refl w S,M.out.fr FW,Pr.nil,FW⟩
   ·have hg1:decide ((x.all.length:Int)+b.length - x.win.a > 4096)=false:=by simpa using hlong
    have hg2:decide (4096<(x.all.length:Int)+b.length - x.win.a)=false:=by simpa using hlong
    have HLG:=Lib.hid hlong
    clear hlong
    go_upto_region 5 with fail
    clear c2 c25 c4 c6 hg1 hg2 q1 q2
    have i0p:=info_parts info_u8
    obtain⟨i0,hi0,hz0,hz1,hz2⟩:=i0p
    have BA:Hid (∀ W,Fr [] w1 W→Byt S W (.slice aA x.all.length ac) x.all):=Lib.hid (fun W f=>M.out.ba.fr ((L1.out _ f).f) (by simp))
    have BB:Hid (∀ W,Fr [] w1 W→Byt T W (.slice A b.length c) b):=Lib.hid (fun W f=>HD.out.fr ((L1.out _ f).f) (by simp))
    have HB1:Hid (0+x.all.length≤maxLen):=Lib.hid (by unfold maxLen;have:=HAL.out;omega)
    have HB2:Hid ((0+x.all.length) * 1≤140737488355328):=Lib.hid (by have:=HAL.out;omega)
    have HB3:Hid (x.all.length+b.length≤maxLen):=Lib.hid (by have:=HAL.out;unfold maxLen;omega)
    have HB4:Hid ((x.all.length+b.length) * 1≤140737488355328):=Lib.hid (by have:=HAL.out;omega)
    have c4:w1.cell? ⟨w.heap.size,4,none⟩=some (.slice aA x.all.length ac):=(L1.out _ (Fr.refl [] w1)).s.cell 4
    go_upto_region 6 with (first
      | (at_builtin;refine wpList_append_sl _ rfl (.const (.slice none 0 0)) (.tmp 30) 30 rfl 5 i0 (.int .u8 0) 1 1 Tryz.underlying30 hi0 hz0 hz1 hz2 rfl (by decide) (.slice none 0 0) 0 [] rfl (World.ownsRow_nil _ 0 5 1) S (.slice aA x.all.length ac) x.all.length (byts x.all) rfl (BA.out _ (Fr.refl [] w1)) (byts_one _) HB1.out HB2.out x.all.length (by simp) ?_;intro A6 c6 w8 h8 g8 k8;have G8:Fr [] w1 w8:=g8.mono (by simp [ob,Value.ownBlock]);have H8:=Lib.hid h8;have K8:Hid (∀ b,(Value.slice A6 x.all.length c6).ownBlock=some b→w1.heap.size≤b∧b<w8.heap.size):=Lib.hid (fun b hb=>by have:=k8 b hb;simp [Value.ownBlock] at this;exact this);clear h8 g8 k8)
      | (at_builtin;refine wpList_append_sl _ rfl (.tmp 31) (.tmp 32) 30 rfl 5 i0 (.int .u8 0) 1 1 Tryz.underlying30 hi0 hz0 hz1 hz2 rfl (by decide) (.slice A6 x.all.length c6) x.all.length ([]++byts x.all) rfl H8.out T (.slice A b.length c) b.length (byts b) rfl (BB.out _ G8) (byts_one _) HB3.out HB4.out (x.all.length+b.length) rfl ?_;intro A7 c7 w9 h9 g9 k9;have G9:Fr [] w1 w9:=G8.trans g9 (fun y hy => .inr (by have h1:=K8.out y (mem_ob.1 hy);omega));have l9:=L1.out _ G9;have c9:w9.cell? ⟨w.heap.size,4,none⟩=some (.slice aA x.all.length ac):=l9.s.cell 4;have z9:=l9.s.frozen 4;have hl9:=l9.s.lt;have H9:=Lib.hid h9;have K9:Hid (∀ b_,(Value.slice A7 (x.all.length+b.length) c7).ownBlock=some b_→w1.heap.size≤b_∧b_<w9.heap.size):=Lib.hid (fun b hb=>(k9 b hb).elim (fun h=>by have h1:=K8.out b h;have h2:=g9.size;omega) (fun h=>by have h2:=G8.size;omega));have L9:=Lib.hid l9;have GG9:=Lib.hid G9;clear h9 g9 k9 l9))
    have hset:Lo w (w9.setCell ⟨w.heap.size,4,none⟩ (.slice A7 (x.all.length+b.length) c7)) w.heap.size (w.heap.size+1) (arE { x with all:=x.all++b } (.slice A7 (x.all.length+b.length) c7) uv kv):=by
     have hh:=L9.out.cell 4 (.slice A7 (x.all.length+b.length) c7)
     simp only [arE,List.setIfInBounds_toArray,List.set_cons_zero,List.set_cons_succ] at hh ⊢
     exact hh
    have fs:Fr [w.heap.size] w9 (w9.setCell ⟨w.heap.size,4,none⟩ (.slice A7 (x.all.length+b.length) c7)):=(Fr.refl [w.heap.size] w9).setCell (p:=⟨w.heap.size,4,none⟩) (.inl (by simp)) _
    have hz1:=(L1.out _ (Fr.refl [] w1)).s.lt
    have hz2:=(L1.out _ (Fr.refl [] w1)).r.lt
    generalize w9.setCell ⟨w.heap.size,4,none⟩ (.slice A7 (x.all.length+b.length) c7)=w2 at *
    obtain⟨SS,hSS⟩:∃ SS:Nat→Prop,SS=fun y=>S y∨(Value.slice A7 (x.all.length+b.length) c7).ownBlock=some y:=⟨_,rfl⟩
    have hsub:∀ y,S y→SS y:=fun y h=>by rw [hSS];exact .inl h
    have hnew:∀ y,SS y→S y∨(w1.heap.size≤y∧y<w9.heap.size):=fun y h=>by
     rw [hSS] at h
     rcases h with h|h
     ·exact .inl h
     ·exact .inr (K9.out y h)
    have hge:w.heap.size≤w1.heap.size:=(L1.out _ (Fr.refl [] w1)).f.size
    have hS0:∀ y,S y→y<w.heap.size:=M.out.pub
    have XS:Hid (Ext w S SS):=Lib.hid ⟨hsub,fun y h=>(hnew y h).imp id (fun h=>by omega)⟩
    have NSR:Hid (¬ SS (w.heap.size+1)):=Lib.hid (fun hs=>(hnew _ hs).elim (fun h=>by have:=hS0 _ h;omega) (fun h=>by omega))
    have nsE:¬ SS w.heap.size:=fun hs=>(hnew _ hs).elim (fun h=>by have:=hS0 _ h;omega) (fun h=>by omega)
    have MS:Hid (RE SS w2 { x with all:=x.all++b } (.slice A7 (x.all.length+b.length) c7) uv kv):=Lib.hid (by
     have m9:=M.out.ext (S':=SS) L9.out.f (by simp) hsub (fun y h=>(hnew y h).elim (fun h=>by have:=hS0 _ h;have:=GG9.out.size;omega) (fun h=>h.2))
     have mz:=m9.far fs nsE
     have hb9:Byt SS w9 (.slice A7 (x.all.length+b.length) c7) (x.all++b):=by
      have h9:=H9.out
      rw [List.nil_append,byts_app,← List.length_append] at h9
      have:=Sl.of_own (S:=SS) h9 (fun y hy=>by rw [hSS];right;rw [← List.length_append];exact hy)
      rw [← List.length_append]
      exact this
     exact⟨hb9.fr fs (fun y hy=>by simp at hy;subst hy;exact nsE),mz.bu,mz.hp⟩)
    have L2:Hid (∀ W,Fr [] w2 W→Lo w W w.heap.size (w.heap.size+1) (arE { x with all:=x.all++b } (.slice A7 (x.all.length+b.length) c7) uv kv)):=Lib.hid (fun W f=>hset.grow f)
    have o2:=MS.out.cells1
    clear hset fs c9 z9 hl9 hz1 hz2 hSS hsub hnew hge hS0 nsE c4
    have HES0:Hid (∀ W,Fr [] w2 W→Calls Tryz.prog 71 #[agE { x with all:=x.all++b } (.slice A7 (x.all.length+b.length) c7) uv kv] W (EPart SS W R (.slice A7 (x.all.length+b.length) c7) uv kv)):=Lib.hid (fun W f=>HES.out SS W _ _ _ (MS.out.fr f))
    go_upto_region 7 with (first
       | ((with_reducible refine gate_load 41 (.tmp 2) ?_);refine wpList_load_blk rfl 41 (.tmp 2) rfl w.heap.size 41 (arE { x with all:=x.all++b } (.slice A7 (x.all.length+b.length) c7) uv kv) _ rfl (L2.out _ (by first|exact Fr.refl _ _|assumption)).s Tryz.underlying41 rfl (by kernel_rfl) ?_)
       | (go_at_call 71;refine (HES0.out _ (Fr.refl _ _)).mono ?_;rintro e w8 ⟨v2,Ls,rfl,hLs,p2,f8⟩)
       | ((with_reducible refine gate_store 41 (.tmp 7) ?_);refine wpList_store_blk rfl 41 (.tmp 7) (.tmp 38) rfl w8.heap.size 41 endZ (arE R.1 (.slice A7 (x.all.length+b.length) c7) uv kv) rfl rfl (Blk.new w8 41 endZ) rfl (by kernel_rfl) (by first|exact o1.out _|exact o2.out _|simp [Value.oneCell']) ?_;intro w9 B9 F9))
    have fa8:Fr [] w8 (w8.alloc (.cells endZ 41)):=(Fr.refl [] w8).alloc _
    have nsb:¬ SS w8.heap.size:=fun hs=>by have h1:=MS.out.pub _ hs;have h2:=f8.size;omega
    have nob:∀ b∈ob v2,b≠w8.heap.size:=fun b hb=>by have:=own_lt p2.own (mem_ob.1 hb);omega
    have ll8:=L2.out _ f8
    have L9:=Lib.hid ((ll8.grow fa8).far F9 (by have:=ll8.f.size;omega) (by have:=ll8.s.lt;omega) (by have:=ll8.r.lt;omega))
    have P9:=Lib.hid ((p2.fr fa8 (by simp) (by simp) (fun _ h=>h)).fr F9 (fun z hz hs=>by simp at hz;subst hz;exact nsb hs) (fun b hb hm=>by simp at hm;exact nob b hb hm) (fun _ h=>h))
    have M9:Hid (RE SS w9 R.1 (.slice A7 (x.all.length+b.length) c7) uv kv):=Lib.hid ((((MS.out.fr f8).fr fa8).far F9 nsb).to_ HSN.out.1 HSN.out.2.1 HSN.out.2.2)
    have V9:=Lib.hid B9
    have HLs:=Lib.hid hLs
    have NOB:Hid (∀ b∈ob v2,b≠w.heap.size+1):=Lib.hid (fun b hb=>by rintro rfl;exact own_ne p2.own ll8.r (by decide) (mem_ob.1 hb))
    generalize w8.heap.size=b9 at *
    clear fa8 nsb nob ll8 p2 f8 B9 F9 hLs HES0
    obtain⟨A2,c2,rfl,_,_⟩:=own_form P9.out.own
    go_cut [5,6] (fun sa sb wx=>sa = .slice A2 Ls.length c2∧sb = .int .i64 0∧Blk wx (w.heap.size+1) 41 (arE R.1 (.slice A7 (x.all.length+b.length) c7) uv kv)∧Fr [(w.heap.size+1)] w9 wx)
    case first=>
     go_wp2_with (first
       | ((with_reducible refine gate_load 41 (.tmp 7) ?_);refine wpList_load_blk rfl 41 (.tmp 7) rfl b9 41 (arE R.1 (.slice A7 (x.all.length+b.length) c7) uv kv) _ rfl V9.out Tryz.underlying41 rfl (by kernel_rfl) ?_)
       | ((with_reducible refine gate_store 41 (.tmp 4) ?_);refine wpList_store_blk rfl 41 (.tmp 4) (.tmp 40) rfl (w.heap.size+1) 41 endZ (arE R.1 (.slice A7 (x.all.length+b.length) c7) uv kv) rfl rfl L9.out.r rfl (by kernel_rfl) (by first|exact o1.out _|exact o2.out _|simp [Value.oneCell']) ?_;intro wz Bz Fz))
     go_meet
     exact⟨rfl,rfl,Bz,Fz⟩
    case rest=>
     obtain⟨rfl,rfl,Bz,Fz⟩:=hcut
     have FW:=L9.out.res Fz
     have hrl:=L9.out.r.lt
     refine ‹∀(a:Act) (w:World),Code.wp Tryz.prog Code.ret _ a w→_› _ _ (wp_ret ?_)
     try simp only [Exit.then]
     change bodyPost Tryz.prog _ _ .ret _ _
     refine bodyPost_ret (results_ctt 4 41 ⟨w.heap.size+1,0,none⟩ _ 5 6 (.slice A2 Ls.length c2) (.int .i64 0) (by rfl) (by rfl) (end_load Bz) (by rfl) (by rfl)) (by rfl) ?_
     rw [VG.out hover.out (by have:=HLG.out;omega)]
     exact⟨SS,_,_,_,_,Ls,rfl,HLs.out,XS.out,M9.out.far Fz NSR.out,P9.out.fr Fz (fun z hz hs=>by simp at hz;subst hz;exact NSR.out hs) (fun b hb hm=>by simp at hm;exact NOB.out b hb hm) (fun _ h=>h),FW⟩
  ·rw [hcl] at c25
   have HCL:=Lib.hid hcl
   clear hcl
   go_upto_region 2 with fail
   clear c2 c25
   go_cut [5,6] (fun sa sb wx=>sa = .slice none 0 0∧sb = .int .i64 260∧Blk wx (w.heap.size+1) 41 (arE x (.slice aA x.all.length ac) uv kv)∧Fr [(w.heap.size+1)] w1 wx)
   case first=>
    go_wp2_with (first
      | ((with_reducible refine gate_load 41 (.tmp 2) ?_);refine wpList_load_blk rfl 41 (.tmp 2) rfl w.heap.size 41 (arE x (.slice aA x.all.length ac) uv kv) _ rfl (L1.out _ (by first|exact Fr.refl _ _|assumption)).s Tryz.underlying41 rfl (by kernel_rfl) ?_)
      | ((with_reducible refine gate_store 41 (.tmp 4) ?_);refine wpList_store_blk rfl 41 (.tmp 4) (.tmp 16) rfl (w.heap.size+1) 41 endZ (arE x (.slice aA x.all.length ac) uv kv) rfl rfl (L1.out _ (by first|exact Fr.refl _ _|assumption)).r rfl (by kernel_rfl) (by first|exact o1.out _|exact o2.out _|simp [Value.oneCell']) ?_;intro wz Bz Fz))
    go_meet
    exact⟨rfl,rfl,Bz,Fz⟩
   case rest=>
    obtain⟨rfl,rfl,Bz,Fz⟩:=hcut
    have FW:=(L1.out _ (Fr.refl [] w1)).res Fz
    refine ‹∀(a:Act) (w:World),Code.wp Tryz.prog Code.ret _ a w→_› _ _ (wp_ret ?_)
    try simp only [Exit.then]
    change bodyPost Tryz.prog _ _ .ret _ _
    refine bodyPost_ret (results_ctt 4 41 ⟨w.heap.size+1,0,none⟩ _ 5 6 (.slice none 0 0) (.int .i64 260) (by rfl) (by rfl) (end_load Bz) (by rfl) (by rfl)) (by rfl) ?_
    rw [VO.out (by rw [HOV.out];simp [HCL.out])]
    exact⟨S,_,_,_,_,[],rfl,rfl,Ext.refl w S,M.out.fr FW,Pr.nil,FW⟩
abbrev stA(x:St):Array Value:=#[.int .i64 x.at_, .bool x.broken, .int .u32 x.peer, .int .i64 x.win.a, .int .i64 x.win.s, .int .i64 x.win.m, .int .i64 x.win.l, .int .i64 x.all.length, .int .i64 x.heap.next, .int .i64 x.unread.length, .int .i64 x.clk.wt, .bool x.closing, .bool x.ended]
abbrev stF(x:St):Array Value:=#[.int .i64 x.at_, .bool x.broken, .int .u32 x.peer, .int .i64 0, .int .i64 0, .int .i64 0, .int .i64 0, .int .i64 x.all.length, .int .i64 0, .int .i64 0, .int .i64 0, .bool x.closing, .bool x.ended]
theorem keepS{w:World}{g b:Nat}{v15 v16 v17 v18:Value}(h:w.cell? ⟨g,15,none⟩=some v15∧w.cell? ⟨g,16,none⟩=some v16∧w.cell? ⟨g,17,none⟩=some v17∧w.cell? ⟨g,18,none⟩=some v18)(n:g≠b)(j:Nat)(u:Value) :
  (w.setCell ⟨b,j,none⟩ u).cell? ⟨g,15,none⟩=some v15∧(w.setCell ⟨b,j,none⟩ u).cell? ⟨g,16,none⟩=some v16∧(w.setCell ⟨b,j,none⟩ u).cell? ⟨g,17,none⟩=some v17∧(w.setCell ⟨b,j,none⟩ u).cell? ⟨g,18,none⟩=some v18:=by
 have f:Fr [b] w (w.setCell ⟨b,j,none⟩ u):=(Fr.refl [b] w).setCell (p:=⟨b,j,none⟩) (.inl (by simp)) u
 have k:∀ {i:Nat} {v:Value},w.cell? ⟨g,i,none⟩=some v→(w.setCell ⟨b,j,none⟩ u).cell? ⟨g,i,none⟩=some v:=fun {i v} h=>(f.cell (p:=⟨g,i,none⟩) (World.block_lt_of_cell? w _ h) (by simpa using n)).trans h
 exact⟨k h.1,k h.2.1,k h.2.2.1,k h.2.2.2⟩
set_option maxHeartbeats 8000000 in
theorem state_si{S:Nat→Prop}{w:World}{H:Hd}{x:St}(m:SI S w H x)(ok:OkS x):Calls Tryz.prog 13 #[ptr H.g] w fun e w'=>e = .returned (.agg (stA x))∧Fr [] w w':=by
 have hgl:=m.blk.lt
 have f0:Fr [] w (w.alloc (.cells formZ 56)):=(Fr.refl [] w).alloc _
 have b0:Blk (w.alloc (.cells formZ 56)) w.heap.size 56 formZ:=Blk.new w _ _
 have m0:=m.fr f0
 have c16:=(scells m0.blk).c16
 have HS:=Lib.hid (snone_si H.g H.gw (w.alloc (.cells formZ 56)) c16)
 have OK:=Lib.hid ok
 clear m ok
 go_enter Tryz.func13,Tryz.ntmps13
 go_wp2_with fail
 refine HS.out.mono ?_
 rintro e w' ⟨rfl,rfl⟩
 have hs0:w.heap.size<(w.alloc (.cells formZ 56)).heap.size:=by simp
 generalize w.alloc (.cells formZ 56)=w0 at *
 have B:=m0.blk
 have q:∀ j v,(arS x H)[j]?=some v→w0.cell? ⟨H.g,j,none⟩=some v:=fun j v h=>(B.cell j).trans h
 have q0:=q 0 _ rfl
 have q1:=q 1 _ rfl
 have q2:=q 2 _ rfl
 have q3:=q 3 _ rfl
 have q4:=q 4 _ rfl
 have q5:=q 5 _ rfl
 have q6:=q 6 _ rfl
 have q7:=q 7 _ rfl
 have q8:=q 8 _ rfl
 have q9:=q 9 _ rfl
 have q10:=q 10 _ rfl
 have q11:=q 11 _ rfl
 have q12:=q 12 _ rfl
 have M0:=Lib.hid m0
 have F0:=Lib.hid f0
 have B0:=Lib.hid b0
 clear q B m0 f0 b0 HS
 go_upto_region 4 with fail
 have f1:Fr [] w0 (w0.alloc (.cells (stF x) 56)):=(Fr.refl [] w0).alloc _
 have b1:Blk (w0.alloc (.cells (stF x) 56)) w0.heap.size 56 (stF x):=Blk.new w0 _ _
 have m1:=M0.out.fr f1
 have hlt:=M0.out.lt
 have hbr:=B0.out.fr f1 (by simp)
 generalize w0.alloc (.cells (stF x) 56)=w1 at *
 have n1:H.g≠w0.heap.size:=by have:=hlt H.g (by simp [Hd.own]);omega
 have n2:w.heap.size≠w0.heap.size:=by omega
 have hbs:w.heap.size<w0.heap.size:=hs0
 generalize w0.heap.size=b3 at *
 have cs:=scells m1.blk
 have c15:=cs.c15
 have c16:=cs.c16
 have c17:=cs.c17
 have c18:=cs.c18
 obtain⟨uA,uc,huv,_,_⟩:=own_form m1.unr
 rw [huv] at c15
 have HSt:Hid (∀ W,Fr [] w1 W→Calls Tryz.prog 48 #[ptr H.gw] W _):=Lib.hid (fun W fW=>Win.state_win H.gw x.win W (Blk.fr m1.win fW (by simp)))
 have HNx:Hid (∀ W,Fr [] w1 W→Calls Tryz.prog 49 #[ptr H.gh] W _):=Lib.hid (fun W fW=>next_hp (m1.hp.ext' fW (Ext.refl w1 S) (by simp) (by simp) (fun b hb=>Nat.lt_of_lt_of_le (HP.pub' m1.hp b hb) fW.size)))
 have HWa:Hid (∀ W,Fr [] w1 W→Calls Tryz.prog 50 #[ptr H.gc] W _):=Lib.hid (fun W fW=>Rto.wait_clk H.gc x.clk W (Blk.fr m1.clk fW (by simp)) OK.out.hc)
 have SEE:Hid (∀ W,Fr [] w1 W→W.cell? ⟨H.g,15,none⟩=some (.slice uA x.unread.length uc)∧W.cell? ⟨H.g,16,none⟩=some (ptr H.gw)∧W.cell? ⟨H.g,17,none⟩=some (ptr H.gc)∧W.cell? ⟨H.g,18,none⟩=some (ptr H.gh)):=Lib.hid (fun W fW=>⟨fr_cell fW c15,fr_cell fW c16,fr_cell fW c17,fr_cell fW c18⟩)
 have BLK:Hid (∀ W,Fr [] w1 W→Blk W b3 56 (stF x)):=Lib.hid (fun W fW=>b1.fr fW (by simp))
 have F1:=Lib.hid (F0.out.trans f1 (by simp))
 have HBR:=Lib.hid hbr
 clear m1 cs hbr f1 b1 hlt
 clear q0 q1 q2 q3 q4 q5 q6 q7 q8 q9 q10 q11 q12
 have NB:Hid (H.g≠b3):=Lib.hid n1
 go_cut [] (fun wx=>Blk wx b3 56 (stA x)∧Fr [b3] w1 wx)
 case first=>
  go_region_held3 (fun w'=>w'.cell? ⟨H.g,15,none⟩=some (.slice uA x.unread.length uc)∧w'.cell? ⟨H.g,16,none⟩=some (ptr H.gw)∧w'.cell? ⟨H.g,17,none⟩=some (ptr H.gc)∧w'.cell? ⟨H.g,18,none⟩=some (ptr H.gh))
   (first
    | (with_reducible exact SEE.out _ f5)
    | (with_reducible exact SEE.out _ (Fr.refl [] w1).drew)
    | (with_reducible exact keepS (by assumption) NB.out _ _)
    | (with_reducible exact keepS (keepS (keepS (keepS (SEE.out _ f5) NB.out _ _) NB.out _ _) NB.out _ _) NB.out _ _)
    | (with_reducible exact keepS (keepS (keepS (keepS (keepS (SEE.out _ f5) NB.out _ _) NB.out _ _) NB.out _ _) NB.out _ _) NB.out _ _)
    | (with_reducible exact keepS (keepS (keepS (keepS (keepS (keepS (SEE.out _ f5) NB.out _ _) NB.out _ _) NB.out _ _) NB.out _ _) NB.out _ _) NB.out _ _)
    | (with_reducible exact keepS (keepS (keepS (keepS (keepS (keepS (keepS (SEE.out _ f5) NB.out _ _) NB.out _ _) NB.out _ _) NB.out _ _) NB.out _ _) NB.out _ _) NB.out _ _)
    | go_keep)
   (first
    | (go_at_call 48;refine (HSt.out _ (Fr.refl [] w1).drew).mono ?_;rintro e w5 ⟨rfl,f5'⟩;have f5:Fr [] w1 w5:=(Fr.refl [] w1).drew.trans f5' (by simp);have b5:=BLK.out _ f5;have k3:=b5.cell 3;have k4:=b5.cell 4;have k5:=b5.cell 5;have k6:=b5.cell 6;have k8:=b5.cell 8;have k9:=b5.cell 9;have k10:=b5.cell 10;have hl5:=b5.lt;have z3:=b5.frozen 3;have z4:=b5.frozen 4;have z5:=b5.frozen 5;have z6:=b5.frozen 6;have z8:=b5.frozen 8;have z9:=b5.frozen 9;have z10:=b5.frozen 10;simp at k3 k4 k5 k6 k8 k9 k10;clear f5' b5)
    | (go_at_call 49;refine (HNx.out _ f5).mono ?_;rintro e w' ⟨rfl,rfl⟩)
    | (go_at_call 49;refine (HNx.out _ (Fr.refl [] w1).drew).mono ?_;rintro e w' ⟨rfl,rfl⟩)
    | (go_at_call 50;refine (HWa.out _ f5).mono ?_;rintro e w' ⟨rfl,rfl⟩)
    | (go_at_call 50;refine (HWa.out _ (Fr.refl [] w1).drew).mono ?_;rintro e w' ⟨rfl,rfl⟩))
  all_goals
   go_wp2_with fail
   go_meet
   exact⟨((((((((BLK.out _ f5).set_ 3 (.int .i64 x.win.a)).set_ 4 (.int .i64 x.win.s)).set_ 5 (.int .i64 x.win.m)).set_ 6 (.int .i64 x.win.l)).set_ 8 (.int .i64 x.heap.next)).set_ 9 (.int .i64 x.unread.length)).set_ 10 (.int .i64 x.clk.wt)),
    (((((((f5.mono (O':=[b3]) (by simp)).setCell (p:=⟨b3,3,none⟩) (.inl (by simp)) _).setCell (p:=⟨b3,4,none⟩) (.inl (by simp)) _).setCell (p:=⟨b3,5,none⟩) (.inl (by simp)) _).setCell (p:=⟨b3,6,none⟩) (.inl (by simp)) _).setCell (p:=⟨b3,8,none⟩) (.inl (by simp)) _).setCell (p:=⟨b3,9,none⟩) (.inl (by simp)) _).setCell (p:=⟨b3,10,none⟩) (.inl (by simp)) _⟩
 case rest=>
  obtain⟨bx,fx⟩:=hcut
  have q:∀ j v,(stA x)[j]?=some v→wc.cell? ⟨b3,j,none⟩=some v:=fun j v h=>(bx.cell j).trans h
  have q0:=q 0 _ rfl
  have q1:=q 1 _ rfl
  have q2:=q 2 _ rfl
  have q3:=q 3 _ rfl
  have q4:=q 4 _ rfl
  have q5:=q 5 _ rfl
  have q6:=q 6 _ rfl
  have q7:=q 7 _ rfl
  have q8:=q 8 _ rfl
  have q9:=q 9 _ rfl
  have q10:=q 10 _ rfl
  have q11:=q 11 _ rfl
  have q12:=q 12 _ rfl
  have BR:=Lib.hid (HBR.out.fr fx (by simpa using n2))
  have FX:=Lib.hid (F1.out.trans fx (fun y hy => .inr (by simp at hy;omega)))
  clear q bx fx
  go_wp2_with ((with_reducible refine gate_store 56 (.tmp 2) ?_);refine wpList_store_blk rfl 56 (.tmp 2) (.tmp 35) rfl w.heap.size 56 formZ (stA x) rfl rfl BR.out rfl (by kernel_rfl) (by simp [Value.oneCell']) ?_;intro w3 B3 F3)
  have r:∀ j v,(stA x)[j]?=some v→w3.cell? ⟨w.heap.size,j,none⟩=some v:=fun j v h=>(B3.cell j).trans h
  have r0:=r 0 _ rfl
  have r1:=r 1 _ rfl
  have r2:=r 2 _ rfl
  have r3:=r 3 _ rfl
  have r4:=r 4 _ rfl
  have r5:=r 5 _ rfl
  have r6:=r 6 _ rfl
  have r7:=r 7 _ rfl
  have r8:=r 8 _ rfl
  have r9:=r 9 _ rfl
  have r10:=r 10 _ rfl
  have r11:=r 11 _ rfl
  have r12:=r 12 _ rfl
  refine bodyPost_ret (v := .agg (stA x)) (by simp [results,Tryz.results13,go_sem,r0,r1,r2,r3,r4,r5,r6,r7,r8,r9,r10,r11,r12]) rfl ?_
  exact⟨rfl,FX.out.trans F3 (by intro y hy;simp at hy;subst hy;exact .inr (Nat.le_refl _))⟩
end Go.Proofs.YtmgdbbbdhkfdmaaGreat
namespace Go.Proofs.YtmgdbbbdhkfdmaaGreat.Lex
set_option maxRecDepth 100000
open Go.RowKit Go.Deep
def back(md:Region.Mode)(o:Oper)(k:Nat):Bool:=o.after.all fun e=>!Region.binds md e || decide (e.on<k)
def pairs(md:Region.Mode)(ops:Array Oper):List Oper→Nat→Bool
 | [],_=>true
 | o::r,k=>back md o k && (r.all fun q=>q.after.any (fun e=>Region.binds md e && e.on == k) || o.apart ops q) && pairs md ops r (k+1)
structure Upto(n k:Nat)(s:Array Bool):Prop where
 sz:s.size=n
 yes:∀ i,i<k→i<n→s.getD i true=true∧s.getD i false=true
 no:∀ i,k≤i→i<n→s.getD i true=false
theorem Upto.next{n k:Nat}{s:Array Bool}(h:Upto n k s)(hk:k<n):Upto n (k+1) (s.setIfInBounds k true):=by
 refine⟨by simp [h.sz],fun i hi hn=>?_,fun i hi hn=>?_⟩
 ·by_cases e:k=i
  ·subst e
   have:k<s.size:=by rw [h.sz];exact hk
   simp [this]
  ·have h1:=h.yes i (by omega) hn
   exact⟨by rw [getD_set_ne true e];exact h1.1,by rw [getD_set_ne false e];exact h1.2⟩
 ·rw [getD_set_ne true (by omega)]
  exact h.no i (by omega) hn
theorem from_(md:Region.Mode)(l:List Oper):∀(r pre:List Oper) (s:Array Bool),l=pre++r→Upto l.length pre.length s→pairs md l.toArray r pre.length=true→Region.lexFrom md l.toArray r.length pre.length s=true
 | [],pre,s,hl,hs,_=>by
  simp only [List.append_nil] at hl
  show (Region.ready md l.toArray s).isEmpty=true
  rw [List.isEmpty_iff]
  apply List.eq_nil_iff_forall_not_mem.2
  intro j hj
  obtain⟨h1,o,ho,_⟩:=mem_ready.1 hj
  have hlt:j<l.length:=by
   have:=(Array.getElem?_eq_some_iff.1 ho).1
   simpa using this
  rw [(hs.yes j (by rw [← hl];exact hlt) hlt).1] at h1
  cases h1
 | o::r,pre,s,hl,hs,hp=>by
  unfold pairs at hp
  simp only [Bool.and_eq_true] at hp
  obtain⟨⟨hb,ha⟩,hr⟩:=hp
  have hn:l.length=pre.length+(r.length+1):=by rw [hl];simp
  have hk:pre.length<l.length:=by omega
  have hop:l.toArray[pre.length]?=some o:=by rw [hl];simp
  simp only [List.length_cons,Region.lexFrom,Bool.and_eq_true]
  refine⟨⟨?_,?_⟩,?_⟩
  ·rw [List.contains_iff_mem]
   refine mem_ready.2 ⟨hs.no _ (Nat.le_refl _) hk,o,hop,fun e he hbi=>?_⟩
   have h1:=Array.all_eq_true_iff_forall_mem.1 hb e he
   simp only [hbi,Bool.not_true,Bool.false_or,decide_eq_true_eq] at h1
   exact (hs.yes e.on h1 (by omega)).2
  ·unfold Region.free
   rw [hop]
   dsimp only
   rw [List.all_eq_true]
   intro j hj
   have hjn:j<l.length:=by simpa using hj
   rcases Nat.lt_trichotomy j pre.length with h|h|h
   ·rw [(hs.yes j h hjn).1];simp
   ·subst h;simp
   ·have hq:∃ q,l.toArray[j]?=some q∧q∈r:=by
     have e1:l.toArray[j]?=r[j - (pre.length+1)]?:=by
      rw [hl]
      simp only [List.getElem?_toArray]
      rw [List.getElem?_append_right (by omega)]
      rw [show j - pre.length=(j - (pre.length+1))+1 from by omega]
      simp
     have h2:j - (pre.length+1)<r.length:=by omega
     exact⟨r[j - (pre.length+1)],by rw [e1];exact List.getElem?_eq_getElem h2,List.getElem_mem h2⟩
    obtain⟨q,hq1,hq2⟩:=hq
    have h3:=List.all_eq_true.1 ha q hq2
    rw [hq1]
    dsimp only
    rw [h3]
    simp
  ·have:=from_ md l r (pre++[o]) (s.setIfInBounds pre.length true) (by rw [hl];simp) (by simpa using hs.next hk) (by simpa using hr)
   simpa using this
theorem lexB{md:Region.Mode}{l:List Oper}(h0:Region.noSelect l.toArray=true)(h:pairs md l.toArray l 0=true):Region.lexB md l.toArray=true:=by
 unfold Region.lexB
 rw [h0,Bool.true_and]
 have:=from_ md l l [] (Array.replicate l.toArray.size false) (by simp) ⟨by simp,fun i hi=>by simp at hi,fun i _ hi=>by simp [hi]⟩ h
 simpa using this
end Go.Proofs.YtmgdbbbdhkfdmaaGreat.Lex
namespace Go.Proofs.YtmgdbbbdhkfdmaaGreat
set_option maxRecDepth 100000
open Go.RowKit Go.Deep
theorem eqF13(a1 a3 a4 a5 a6 a7 a8 a9 a10 a11:Int)(b1 b2 b3:Bool)(w:World):(Op.equalIn 10000 56 (.agg #[.int .i64 a1, .bool b1, .int .u32 a3, .int .i64 a4, .int .i64 a5, .int .i64 a6, .int .i64 a7, .int .i64 a8, .int .i64 a9, .int .i64 a10, .int .i64 a11, .bool b2, .bool b3]) (.agg #[.int .i64 a1, .bool b1, .int .u32 a3, .int .i64 a4, .int .i64 a5, .int .i64 a6, .int .i64 a7, .int .i64 a8, .int .i64 a9, .int .i64 a10, .int .i64 a11, .bool b2, .bool b3])).run Tryz.prog w = .ok true w:=by
 have h1:Tryz.prog.stoodInHeld 56=false:=by kernel_rfl
 have h2:Tryz.prog.stoodInHeld 32=false:=by kernel_rfl
 simp [go_sem,h1,h2]
theorem eqgForm(op:BinOp)(x y:Operand)(xs ys:Array Value)(w:World):(eqGuard op 56 x y (.agg xs) (.agg ys)).run Tryz.prog w = .ok () w:=run_eqGuard_agg w op 56 x y xs ys (by kernel_rfl)
theorem neq_stA(x:St)(w:World):(binOp .neq 56 (.agg (stA x)) (.agg (stA x))).run Tryz.prog w = .ok (.bool false) w:=by
 rw [run_neq_struct,eqF13];rfl
theorem again_num(x:St):(againV x).1.all=x.all∧(againV x).1.unread=x.unread∧(againV x).1.heap=x.heap:=by
 unfold againV
 (repeat' split) <;> exact⟨rfl,rfl,rfl⟩
theorem rests_num(x:St):(restsV x).all=x.all∧(restsV x).unread=x.unread∧(restsV x).heap=x.heap:=by
 unfold restsV
 (repeat' split) <;> exact⟨rfl,rfl,rfl⟩
theorem form_load{w:World}{b:Nat}{x:St}(B:Blk w b 56 (stA x)):(loadVar 56 ⟨b,0,none⟩).run Tryz.prog w = .ok (.agg (stA x)) w:=blk_load 56 b 56 _ _ B Tryz.underlying56 rfl (by kernel_rfl)
section
variable {P:Program} {ops:Array Oper} {rest:List Oper} {op:Oper} {a:Act} {w:World} {Q:Exit→Act→World→Prop}
end
set_option maxHeartbeats 8000000 in
theorem estate{S:Nat→Prop}{w:World}{x:St}{av uv kv:Value}(m:RE S w x av uv kv):Calls Tryz.prog 14 #[agE x av uv kv] w fun e w'=>e = .returned (.agg (stA x))∧Fr [] w w':=by
 obtain⟨⟨aA,ac,rfl,_,_⟩,⟨uA,uc,rfl,_,_⟩,_⟩:=m.forms
 have f0:Fr [] w ((w.alloc (.cells (arE x (.slice aA x.all.length ac) (.slice uA x.unread.length uc) kv) 41)).alloc (.cells formZ 56)):=((Fr.refl [] w).alloc _).alloc _
 have b0:Blk ((w.alloc (.cells (arE x (.slice aA x.all.length ac) (.slice uA x.unread.length uc) kv) 41)).alloc (.cells formZ 56)) w.heap.size 41 (arE x (.slice aA x.all.length ac) (.slice uA x.unread.length uc) kv):=(Blk.new w 41 _).fr ((Fr.refl [] _).alloc _) (by simp)
 have b1:=Blk.new (w.alloc (.cells (arE x (.slice aA x.all.length ac) (.slice uA x.unread.length uc) kv) 41)) 56 formZ
 rw [World.size_alloc] at b1
 clear m
 go_enter Tryz.func14,Tryz.ntmps14
 go_upto_region 1 with fail
 generalize (w.alloc (.cells (arE x (.slice aA x.all.length ac) (.slice uA x.unread.length uc) kv) 41)).alloc (.cells formZ 56)=w1 at *
 have c:=ecells b0
 have c2:=c.c2
 have c3:=c.c3
 have c1:=c.c1
 have c4:=c.c4
 have c5:=c.c5
 have c22:=c.c22
 have c17:=c.c17
 have c25:=c.c25
 have c28:=c.c28
 have B0:=Lib.hid b0
 have B1:=Lib.hid b1
 clear c b0 b1
 go_wp2_with (first
   | ((with_reducible refine gate_load 32 (.tmp 9) ?_);refine wpList_load_in rfl 32 (.tmp 9) rfl w.heap.size 6 41 (arE x (.slice aA x.all.length ac) (.slice uA x.unread.length uc) kv) (arW x.win) _ rfl B0.out rfl Tryz.underlying32 rfl (by kernel_rfl) ?_)
   | ((with_reducible refine gate_store 56 (.tmp 2) ?_);refine wpList_store_blk rfl 56 (.tmp 2) (.tmp 27) rfl (w.heap.size+1) 56 formZ (stA x) rfl rfl B1.out rfl (by kernel_rfl) (by simp [Value.oneCell']) ?_;intro w3 B3 F3))
 refine bodyPost_ret (results_c 2 56 ⟨w.heap.size+1,0,none⟩ _ (by rfl) (by rfl) (form_load B3)) (by rfl) ?_
 exact⟨rfl,f0.trans F3 (fun y hy=>by simp at hy;subst hy;exact .inr (Nat.le_succ _))⟩
end Go.Proofs.YtmgdbbbdhkfdmaaGreat
