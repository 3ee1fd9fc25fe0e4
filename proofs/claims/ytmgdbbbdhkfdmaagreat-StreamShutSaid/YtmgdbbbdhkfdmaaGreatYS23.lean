import Derived.Test.YtmgdbbbdhkfdmaaGreatYS21
import Derived.Test.YtmgdbbbdhkfdmaaGreatYS20
import Derived.Test.YtmgdbbbdhkfdmaaGreatYS22
import Derived.Deep.DeepCutAuto
set_option linter.unusedSimpArgs false
set_option linter.unusedVariables false
namespace Go.Proofs.YtmgdbbbdhkfdmaaGreat
set_option maxRecDepth 100000
open Go.RowKit Go.Deep
theorem loop_len:∀(k:Nat) (x:St),(loopV k x).2.length≤k
 | 0,x=>Nat.le_refl _
 | k+1,x=>by
  by_cases h:0<nextV x
  ·rw [loop_go k x h]
   have:=loop_len k (sendV x).1
   simp only [List.length_cons]
   omega
  ·rw [loop_stop _ x h]
   simp
theorem sends_len(x:St):(sendsV x).2.length≤x.all.length+1:=by
 by_cases h:x.at_=4
 ·rw [sendsV_open x h]
  have:=loop_len x.all.length x
  have h2:(closesV (loopV x.all.length x).1).2.length≤1:=by unfold closesV;split <;> simp
  simp only [List.length_append]
  omega
 ·rw [sendsV_else x h]
  simp
theorem Pr.cat{S:Nat→Prop}{w w':World}{v v1 v2:Value}{L1 L2:List (Prt × Value)}(own:w'.ownsRow 0 49 5 v (L1.length+L2.length) (prs L1++prs L2))(h1:Pr S w v1 L1)(h2:Pr S w v2 L2)(f:Fr [] w w'):Pr S w' v (L1++L2):=by
 refine⟨by rw [List.length_append,← prs_app];exact own,fun x hx=>?_⟩
 rcases List.mem_append.1 hx with h|h
 ·exact (h1.byt x h).fr f (by simp)
 ·exact (h2.byt x h).fr f (by simp)
set_option maxHeartbeats 16000000 in
theorem ecome{S:Nat→Prop}{w:World}{x:St}{av uv kv:Value}(m:RE S w x av uv kv)(ok:Ok x)(ou:OkU x)(bk:x.broken=true→x.at_=5)(p:Prt)(f0:0≤p.flags)(f1:p.flags≤15)(s0:0≤p.seq)(s1:p.seq<4294967296)(k0:0≤p.ack)(k1:p.ack<4294967296)(r0:0≤p.win)(r1:p.win<65536)(hdl:p.d.length≤100)
  (DA:Option Addr) (dc:Nat) (T:Nat→Prop) (hd:Byt T w (.slice DA p.d.length dc) p.d) (hT:∀ b,T b→b<w.heap.size):Calls Tryz.prog 29 #[agE x av uv kv,agP p (.slice DA p.d.length dc)] w (EL S w ((sendsV (comesV x p).1).1,(comesV x p).2++(sendsV (comesV x p).1).2)):=by
 have o1:=m.cells1
 have hcl:=comes_len x p
 have okY:=Ok.comes ok p hdl
 have ouY:=ou.kqt (Kqt.comes x p).1 s0 s1
 have bkY:=comes_bk bk p
 have hco:=fun W (g:Fr [] w W)=>ecomes (m.fr g) ok ou p f0 f1 s0 s1 k0 k1 r0 r1 hdl DA dc T (hd.fr g (by simp)) (fun b hb=>Nat.lt_of_lt_of_le (hT b hb) g.size)
 obtain⟨pf,ps,pk,pw,pd⟩:=p
 dsimp only at hdl hd hco ⊢
 obtain⟨l0,b0⟩:=Lo.start2 w (arE x av uv kv) #[.int .i64 pf, .int .u32 ps, .int .u32 pk, .int .u16 pw, .slice DA pd.length dc]
 generalize comesV x ⟨pf,ps,pk,pw,pd⟩=Y at *
 obtain⟨y,Yl⟩:=Y
 dsimp only at hcl okY ouY bkY hco ⊢
 have hsl:=sends_len y
 have hsn:=sends_num y
 have hes:=fun (S1:Nat→Prop) (W:World) (a1 u1 k1:Value) (m1:RE S1 W y a1 u1 k1)=>esends m1 okY.s ouY bkY
 have hyl:=okY.s.hl
 generalize sendsV y=R at *
 have HCO:=hI hco
 have HES:=hI hes
 have HSN:=hI hsn
 have HLE:Hid (Yl.length≤1∧R.2.length≤1000001):=hI ⟨hcl,by omega⟩
 have L0:=hI l0
 have B0:=hI b0
 have NS0:Hid (∀ b,S b→b<w.heap.size):=hI m.pub
 clear hco hes l0 b0 m ok ou bk okY ouY bkY hcl hsl hsn hyl hd hT f0 f1 s0 s1 k0 k1 r0 r1 hdl
 go_enter Tryz.func29,Tryz.ntmps29
 go_upto_region 1 with fail
 generalize ((w.alloc (.cells (arE x av uv kv) 41)).alloc (.cells #[.int .i64 pf, .int .u32 ps, .int .u32 pk, .int .u16 pw, .slice DA pd.length dc] 49)).alloc (.cells endZ 41)=w1 at *
 have L1:Hid (∀ W,Fr [] w1 W→Lo w W w.heap.size (w.heap.size+1+1) (arE x av uv kv)):=hI (fun W f=>L0.out.grow f)
 have B1:Hid (∀ W,Fr [] w1 W→Blk W (w.heap.size+1) 49 #[.int .i64 pf, .int .u32 ps, .int .u32 pk, .int .u16 pw, .slice DA pd.length dc]):=hI (fun W f=>B0.out.fr f (by simp))
 clear L0 B0
 go_upto_region 2 with (first
   | ((with_reducible refine gate_load 41 (.tmp 2) ?_);refine wpList_load_blk rfl 41 (.tmp 2) rfl w.heap.size 41 (arE x av uv kv) _ rfl (L1.out _ (by first|exact Fr.refl _ _|assumption)).s Tryz.underlying41 rfl (by kernel_rfl) ?_)
   | ((with_reducible refine gate_load 49 (.tmp 3) ?_);refine wpList_load_blk rfl 49 (.tmp 3) rfl (w.heap.size+1) 49 #[.int .i64 pf, .int .u32 ps, .int .u32 pk, .int .u16 pw, .slice DA pd.length dc] _ rfl (B1.out _ (by first|exact Fr.refl _ _|assumption)) Tryz.underlying49 rfl (by kernel_rfl) ?_)
   | (go_at_call 70;refine (HCO.out _ (L1.out _ (Fr.refl _ _)).f).mono ?_;rintro e w5 ⟨S1,a1,u1,k1,v1,Lc,rfl,hLc,x1,m1,p1,f5⟩;have o2:=m1.cells1)
   | ((with_reducible refine gate_store 41 (.tmp 6) ?_);refine wpList_store_blk rfl 41 (.tmp 6) (.tmp 13) rfl w5.heap.size 41 endZ (arE y a1 u1 k1) rfl rfl (Blk.new w5 41 endZ) rfl (by kernel_rfl) (by first|exact o1.out _|exact o2.out _|simp [Value.oneCell']) ?_;intro w6 B6 F6))
 have hpub:=m1.pub
 have NSB6:Hid (¬ S1 w5.heap.size):=hI (fun hs=>by have:=hpub _ hs;omega)
 have OB6:Hid (∀ b∈ob v1,b≠w5.heap.size):=hI (fun b hb=>by have:=own_lt p1.own (mem_ob.1 hb);omega)
 have hob1:∀ b∈ob v1,b<w5.heap.size:=fun b hb=>own_lt p1.own (mem_ob.1 hb)
 have fa:Fr [] w5 (w5.alloc (.cells endZ 41)):=(Fr.refl [] w5).alloc _
 have M6:=hI ((m1.fr fa).far F6 (fun hs=>by have:=hpub _ hs;omega))
 have P6:=hI ((p1.fr fa (by simp) (by simp) (fun _ h=>h)).fr F6 (fun z hz hs=>by simp at hz;subst hz;have:=hpub _ hs;omega) (fun b hb hm=>by simp at hm;have:=hob1 b hb;omega) (fun _ h=>h))
 have LL5:=L1.out _ f5
 have L6:Hid (Lo w w6 w.heap.size (w.heap.size+1+1) (arE x av uv kv)):=hI ((LL5.grow fa).far F6 (by have:=LL5.f.size;omega) (by have:=LL5.s.lt;omega) (by have:=LL5.r.lt;omega))
 have X6:Hid (Ext w S S1):=hI (ext_up x1 (by first|exact (L1.out _ (Fr.refl _ _)).f.size|exact Nat.le_refl _))
 have N6:Hid (w.heap.size+1+1<w5.heap.size):=hI LL5.r.lt
 have NSR:Hid (¬ S1 (w.heap.size+1+1)):=hI (fun hs=>(x1.2 _ hs).elim (fun h=>by have:=NS0.out _ h;omega) (fun h=>by have:=(L1.out _ (Fr.refl _ _)).r.lt;omega))
 have OBR:Hid (∀ b∈ob v1,b≠w.heap.size+1+1):=hI (fun b hb=>by rintro rfl;exact own_ne p1.own LL5.r (by decide) (mem_ob.1 hb))
 have HLc:=hI hLc
 have HES6:Hid (∀ W,Fr [] w6 W→Calls Tryz.prog 71 #[agE y a1 u1 k1] W (EPart S1 W R a1 u1 k1)):=hI (fun W f=>HES.out S1 W a1 u1 k1 (M6.out.fr f))
 obtain⟨A1,c1,rfl,hc1,hc2⟩:=own_form p1.own
 have hLcl:Hid (Lc.length=Yl.length):=hI (by have:=congrArg List.length hLc;simpa using this)
 have V6:Hid (∀ W,Fr [] w6 W→Blk W w5.heap.size 41 (arE y a1 u1 k1)):=hI (fun W f=>B6.fr f (by simp))
 generalize w5.heap.size=b6 at *
 clear hpub hob1 fa LL5 m1 p1 x1 f5 B6 F6 hLc HCO HES L1 B1 hc1 hc2
 go_upto_region 3 with (first
   | ((with_reducible refine gate_load 41 (.tmp 6) ?_);refine wpList_load_blk rfl 41 (.tmp 6) rfl b6 41 (arE y a1 u1 k1) _ rfl (V6.out _ (by first|exact Fr.refl _ _|assumption)) Tryz.underlying41 rfl (by kernel_rfl) ?_)
   | (go_at_call 71;refine (HES6.out _ (Fr.refl _ _)).mono ?_;rintro e w8 ⟨v2,Ls,rfl,hLs,p2,f8⟩)
   | ((with_reducible refine gate_store 41 (.tmp 6) ?_);refine wpList_store_blk rfl 41 (.tmp 6) (.tmp 18) rfl b6 41 (arE y a1 u1 k1) (arE R.1 a1 u1 k1) rfl rfl (V6.out _ f8) rfl (by kernel_rfl) (by first|exact o1.out _|exact o2.out _|simp [Value.oneCell']) ?_;intro w9 B9 F9))
 have p9:=p2.fr F9 (fun z hz hs=>by simp at hz;subst hz;exact NSB6.out hs) (fun b hb hm=>by simp at hm;subst hm;exact own_ne p2.own (V6.out _ f8) (by decide) (mem_ob.1 hb)) (fun _ h=>h)
 have q9:=(P6.out.fr f8 (by simp) (by simp) (fun _ h=>h)).fr F9 (fun z hz hs=>by simp at hz;subst hz;exact NSB6.out hs) (fun b hb hm=>by simp at hm;exact OB6.out b hb hm) (fun _ h=>h)
 have m9:=((M6.out.fr f8).far F9 NSB6.out).to_ (y:=R.1) HSN.out.1 HSN.out.2.1 HSN.out.2.2
 have L9:=hI ((L6.out.grow f8).far F9 (by have:=N6.out;omega) (by have:=N6.out;omega) (by have:=N6.out;omega))
 have V9:=hI B9
 obtain⟨A2,c2,rfl,hc3,hc4⟩:=own_form p2.own
 have hLsl:Hid (Ls.length=R.2.length):=hI (by have:=congrArg List.length hLs;simpa using this)
 have OBR2:Hid (∀ b∈ob (.slice A2 Ls.length c2),b≠w.heap.size+1+1):=hI (fun b hb=>by rintro rfl;exact own_ne p9.own L9.out.r (by decide) (mem_ob.1 hb))
 have HL12:Hid (Lc.map (·.1)++Ls.map (·.1)=Yl++R.2):=hI (by rw [HLc.out,hLs])
 have HN1:Hid (Lc.length≤1∧Ls.length≤1000001):=hI (by have:=HLE.out;have:=hLcl.out;have:=hLsl.out;omega)
 have Q9:=hI q9
 have P9:=hI p9
 have M9:=hI m9
 clear p2 f8 F9 B9 p9 q9 m9 hLs hLsl hLcl hc3 hc4 HLE HSN P6 M6 V6 L6 HES6 HLc
 go_cut [5] (fun sl wx=>∃ L,L.map (·.1)=Yl++R.2∧RE S1 wx R.1 a1 u1 k1∧Pr S1 wx sl L∧Blk wx (w.heap.size+1+1) 41 (arE R.1 a1 u1 k1)∧Fr [w.heap.size+1+1] w9 wx)
 case first=>
  obtain⟨i0,hi0,hz0,hz1,hz2⟩:=info_parts info_part
  refine wp_region_held_drew (S:=fun W=>Fr [w.heap.size+1+1] w9 W) (by kernel_rfl) (Fr.refl _ w9).drew (fun hH=>?_)
  have fd:Fr [] w9 w9.drew:=(Fr.refl [] w9).drew
  generalize w9.drew=wd at *
  refine Held.take 0 rfl (by kernel_rfl) (by kernel_rfl) (by kernel_rfl) (fun _ _ _ h=>h) (Held.y_blk rfl 41 (.tmp 6) rfl b6 41 (arE R.1 a1 u1 k1) _ rfl (fun _ hs=>V9.out.fr hs (by have:=N6.out;simp;omega)) Tryz.underlying41 rfl (by kernel_rfl)) hH ?_
  try simp only [Act.put,zqA,zqB,zqC]
  refine Held.take 1 (v := .slice A1 Lc.length c1) rfl (by kernel_rfl) (by kernel_rfl) (by kernel_rfl) (fun _ _ _ h=>h) (Or.inl ⟨rfl,fun (W:World) hs=>by go_simp⟩) hH ?_
  try simp only [Act.put,zqA,zqB,zqC]
  refine Held.take 3 (v := .slice A2 Ls.length c2) rfl (by kernel_rfl) (by kernel_rfl) (by kernel_rfl) (fun _ _ _ h=>h) (Or.inl ⟨rfl,fun (W:World) hs=>by go_simp⟩) hH ?_
  try simp only [Act.put,zqA,zqB,zqC]
  refine Held.one (i:=2) (by kernel_rfl) rfl (fun K hK=>?_)
  refine step_append_sl _ (by rfl) (.const (.slice none 0 0)) (.tmp 21) 27 (by rfl) 49 i0 (.agg #[.int .i64 0, .int .u32 0, .int .u32 0, .int .u16 0, .slice none 0 0]) 5 48 Tryz.underlying27 hi0 hz0 hz1 hz2 (by rfl) (by decide) (.slice none 0 0) 0 [] (by rfl) (World.ownsRow_nil _ 0 49 5) (fun _=>True) (.slice A1 Lc.length c1) Lc.length (prs Lc) (by rfl) (Sl.of_own (Q9.out.fr fd (by simp) (by simp) (fun _ h=>h)).own (fun _ _=>trivial)) Q9.out.one (by unfold maxLen;have:=HN1.out;omega) (by have:=HN1.out;omega) Lc.length (Nat.zero_add _) ?_
  intro A3 c3 wa g1 g2 g3
  refine hK.out _ _ ((fd.trans g2 (by simp [ob,Value.ownBlock])).mono (by simp)) (fun hA=>?_)
  clear hK K
  try simp only [Act.put,zqA,zqB,zqC]
  have fa:Fr [] w9 wa:=fd.trans g2 (by simp [ob,Value.ownBlock])
  clear hH
  refine Held.one (i:=4) (by kernel_rfl) rfl (fun K hK=>?_)
  refine step_append_sl _ (by rfl) (.tmp 22) (.tmp 23) 27 (by rfl) 49 i0 (.agg #[.int .i64 0, .int .u32 0, .int .u32 0, .int .u16 0, .slice none 0 0]) 5 48 Tryz.underlying27 hi0 hz0 hz1 hz2 (by rfl) (by decide) (.slice A3 Lc.length c3) Lc.length ([]++prs Lc) (by rfl) g1 (fun _=>True) (.slice A2 Ls.length c2) Ls.length (prs Ls) (by rfl) (Sl.of_own (P9.out.fr fa (by simp) (by simp) (fun _ h=>h)).own (fun _ _=>trivial)) P9.out.one (by unfold maxLen;have:=HN1.out;omega) (by have:=HN1.out;omega) (Lc.length+Ls.length) rfl ?_
  intro A4 c4 wb g4 g5 g6
  refine hK.out _ _ ((fa.trans g5 (fun b hb=>by rcases g3 b (mem_ob.1 hb) with h|h;(simp [Value.ownBlock] at h);exact .inr (Nat.le_trans fd.size h.1))).mono (by simp)) (fun hB=>?_)
  clear hK K
  try simp only [Act.put,zqA,zqB,zqC]
  have fb:Fr [] w9 wb:=fa.trans g5 (fun b hb=>by rcases g3 b (mem_ob.1 hb) with h|h;(simp [Value.ownBlock] at h);exact .inr (Nat.le_trans fd.size h.1))
  clear hA
  have pc:Pr S1 wb (.slice A4 (Lc.length+Ls.length) c4) (Lc++Ls):=Pr.cat (by rw [List.nil_append] at g4;exact g4) Q9.out P9.out fb
  have obc:∀ b∈ob (.slice A4 (Lc.length+Ls.length) c4),w9.heap.size≤b:=fun b hb=>by
   rcases g6 b (mem_ob.1 hb) with h|h
   ·rcases g3 b h with h1|h1
    ·simp [Value.ownBlock] at h1
    ·exact Nat.le_trans fd.size h1.1
   ·exact Nat.le_trans fa.size h.1
  refine Held.one (i:=5) (by kernel_rfl) rfl (fun K hK=>?_)
  refine Held.st_blk rfl 41 (.tmp 4) (.tmp 20) rfl (w.heap.size+1+1) 41 endZ (arE R.1 a1 u1 k1) rfl rfl (L9.out.r.fr fb (by simp)) rfl (by kernel_rfl) (by first|exact o1.out _|exact o2.out _|simp [Value.oneCell']) ?_
  intro wz Bz Fz
  refine hK.out _ _ (hB.trans Fz (fun z hz => .inl hz)) (fun hC=>?_)
  clear hK K
  try simp only [Act.put,zqA,zqB,zqC]
  refine Held.take 6 (v := .slice A4 (Lc.length+Ls.length) c4) rfl (by kernel_rfl) (by kernel_rfl) (by kernel_rfl) (fun _ _ _ h=>h) (Or.inl ⟨rfl,fun (W:World) hs=>by go_simp⟩) hC ?_
  try simp only [Act.put,zqA,zqB,zqC]
  refine Held.done (by kernel_rfl) ?_
  go_wp2_with fail
  go_meet
  have hrl:=L9.out.r.lt
  exact⟨Lc++Ls,by rw [List.map_append];exact HL12.out,(M9.out.fr fb).far Fz NSR.out,pc.fr Fz (fun z hz hs=>by simp at hz;subst hz;exact NSR.out hs) (fun b hb hm=>by simp at hm;have:=obc b hb;omega) (fun _ h=>h),Bz,hC⟩
 case rest=>
  obtain⟨L,hL,mz,pz,Bz,Fz⟩:=hcut
  have FW:=(L9.out).res Fz
  refine ‹∀(a:Act) (w:World),Code.wp Tryz.prog Code.ret _ a w→_› _ _ (wp_ret ?_)
  try simp only [Exit.then]
  change bodyPost Tryz.prog _ _ .ret _ _
  refine bodyPost_ret (results_ct 4 41 ⟨w.heap.size+1+1,0,none⟩ _ 5 u5 (by rfl) (by rfl) (end_load Bz) (by rfl)) (by rfl) ?_
  exact⟨S1,a1,u1,k1,_,L,rfl,hL,X6.out,mz,pz,FW⟩
def EL3(S:Nat→Prop)(w:World)(r:St × List Prt × Int)(e:Ending)(w':World):Prop:=
 ∃ S' av uv kv v L,e = .returned (.tuple #[agE r.1 av uv kv,v, .int .i64 r.2.2])∧L.map (·.1)=r.2.1∧Ext w S S'∧RE S' w' r.1 av uv kv∧Pr S' w' v L∧Fr [] w w'
set_option maxHeartbeats 16000000 in
theorem ewrite{S:Nat→Prop}{w:World}{x:St}{av uv kv:Value}(m:RE S w x av uv kv)(ok:OkS x)(ou:OkU x)(bk:x.broken=true→x.at_=5)(b:List Int)(hal:x.all.length+b.length≤1000000)(A:Option Addr)(c:Nat)(T:Nat→Prop)(hd:Byt T w (.slice A b.length c) b) :
  Calls Tryz.prog 31 #[agE x av uv kv, .slice A b.length c] w (EL3 S w (writeV x b)):=by
 have o1:=m.cells1
 have vo:=writeV_over x b
 have vl:=writeV_long x b
 have vg:=writeV_go x b
 have hov:overV x=(x.at_ == 5 || x.closing):=rfl
 have hwb:=Win.Inv.bd ok.hw
 have hwm:=ok.hm
 have okc:OkS { x with all:=x.all++b }:=⟨ok.hi,ok.hu,ok.hw,ok.hc,by have:=ok.hm;simp only [List.length_append];omega,by simp only [List.length_append];omega,ok.n0,ok.n1,ok.s0,ok.s1⟩
 have hsn:=sends_num { x with all:=x.all++b }
 have hes:=fun (S1:Nat→Prop) (W:World) (a1 u1 k1:Value) (m1:RE S1 W { x with all:=x.all++b } a1 u1 k1)=>esends m1 okc ⟨ou.i0,ou.i1,ou.p0,ou.p1⟩ bk
 obtain⟨⟨aA,ac,rfl,_,_⟩,_,_⟩:=m.forms
 have l0:=Lo.start w (arE x (.slice aA x.all.length ac) uv kv)
 have q1:IntKind.i64.wrap ((x.all.length:Int)+b.length)=(x.all.length:Int)+b.length:=IntWalk.i64_in _ (by omega)
 have q2:IntKind.i64.wrap ((x.all.length:Int)+b.length - x.win.a)=(x.all.length:Int)+b.length - x.win.a:=IntWalk.i64_in _ (by omega)
 generalize writeV x b=r at *
 generalize sendsV { x with all:=x.all++b }=R at *
 have HES:=hI hes
 have HSN:=hI hsn
 have VO:=hI vo
 have VL:=hI vl
 have VG:=hI vg
 have HOV:=hI hov
 have L0:=hI l0
 have M:=hI m
 have HD:=hI hd
 have HAL:=hI hal
 clear hes hsn vo vl vg hov l0 m ok ou bk okc hd hal hwb hwm
 go_enter Tryz.func31,Tryz.ntmps31
 go_upto_region 1 with fail
 generalize (w.alloc (.cells (arE x (.slice aA x.all.length ac) uv kv) 41)).alloc (.cells endZ 41)=w1 at *
 have L1:Hid (∀ W,Fr [] w1 W→Lo w W w.heap.size (w.heap.size+1) (arE x (.slice aA x.all.length ac) uv kv)):=hI (fun W f=>L0.out.grow f)
 have c2:w1.cell? ⟨w.heap.size,2,none⟩=some (.int .i64 x.at_):=L0.out.s.cell 2
 have c25:w1.cell? ⟨w.heap.size,25,none⟩=some (.bool x.closing):=L0.out.s.cell 25
 clear L0
 by_cases h5:x.at_=5
 ·rw [h5] at c2
  have H5:=hI h5
  clear h5
  go_upto_region 2 with fail
  clear c2 c25
  go_cut [5,6] (fun sa sb wx=>sa = .slice none 0 0∧sb = .int .i64 260∧Blk wx (w.heap.size+1) 41 (arE x (.slice aA x.all.length ac) uv kv)∧Fr [(w.heap.size+1)] w1 wx)
  case first=>
   go_wp2_with (first
     | ((with_reducible refine gate_load 41 (.tmp 2) ?_);refine wpList_load_blk rfl 41 (.tmp 2) rfl w.heap.size 41 (arE x (.slice aA x.all.length ac) uv kv) _ rfl (L1.out _ (by first|exact Fr.refl _ _|assumption)).s Tryz.underlying41 rfl (by kernel_rfl) ?_)
     | ((with_reducible refine gate_store 41 (.tmp 4) ?_);refine wpList_store_blk rfl 41 (.tmp 4) (.tmp 16) rfl (w.heap.size+1) 41 endZ (arE x (.slice aA x.all.length ac) uv kv) rfl rfl (L1.out _ (by first|exact Fr.refl _ _|assumption)).r rfl (by kernel_rfl) (by first|exact o1.out _|exact o2.out _|simp [Value.oneCell']) ?_;intro wz Bz Fz))
   go_meet
   exact⟨rfl,rfl,Bz,Fz⟩
  case rest=>
   obtain⟨rfl,rfl,Bz,Fz⟩:=hcut
   have FW:=(L1.out _ (Fr.refl [] w1)).res Fz
   refine ‹∀(a:Act) (w:World),Code.wp Tryz.prog Code.ret _ a w→_› _ _ (wp_ret ?_)
   try simp only [Exit.then]
   change bodyPost Tryz.prog _ _ .ret _ _
   refine bodyPost_ret (results_ctt 4 41 ⟨w.heap.size+1,0,none⟩ _ 5 6 (.slice none 0 0) (.int .i64 260) (by rfl) (by rfl) (end_load Bz) (by rfl) (by rfl)) (by rfl) ?_
   rw [VO.out (by rw [HOV.out];simp [H5.out])]
   exact⟨S,_,_,_,_,[],rfl,rfl,Ext.refl w S,M.out.fr FW,Pr.nil,FW⟩
 ·have hd5:decide (x.at_=5)=false:=by simpa using h5
  have hq5:(x.at_ == 5)=false:=by simpa using h5
  have H5:=hI h5
  clear h5
  cases hcl:x.closing
  ·rw [hcl] at c25
   have HCL:=hI hcl
   clear hcl
   have c4:w1.cell? ⟨w.heap.size,4,none⟩=some (.slice aA x.all.length ac):=(L1.out _ (Fr.refl [] w1)).s.cell 4
   have c6:w1.cell? ⟨w.heap.size,6,none⟩=some (.int .i64 x.win.a):=(L1.out _ (Fr.refl [] w1)).s.cell 6
   have hover:Hid (overV x=false):=hI (by rw [HOV.out,HCL.out];simpa using H5.out)
   by_cases hlong:4096<(x.all.length:Int)+b.length - x.win.a
   ·have hg1:decide ((x.all.length:Int)+b.length - x.win.a > 4096)=true:=by simpa using hlong
    have hg2:decide (4096<(x.all.length:Int)+b.length - x.win.a)=true:=by simpa using hlong
    have HLG:=hI hlong
    clear hlong
    go_upto_region 4 with fail
    clear c2 c25 c4 c6 hg1 hg2
    go_cut [5,6] (fun sa sb wx=>sa = .slice none 0 0∧sb = .int .i64 3∧Blk wx (w.heap.size+1) 41 (arE x (.slice aA x.all.length ac) uv kv)∧Fr [(w.heap.size+1)] w1 wx)
    case first=>
     go_wp2_with (first
       | ((with_reducible refine gate_load 41 (.tmp 2) ?_);refine wpList_load_blk rfl 41 (.tmp 2) rfl w.heap.size 41 (arE x (.slice aA x.all.length ac) uv kv) _ rfl (L1.out _ (by first|exact Fr.refl _ _|assumption)).s Tryz.underlying41 rfl (by kernel_rfl) ?_)
       | ((with_reducible refine gate_store 41 (.tmp 4) ?_);refine wpList_store_blk rfl 41 (.tmp 4) (.tmp 28) rfl (w.heap.size+1) 41 endZ (arE x (.slice aA x.all.length ac) uv kv) rfl rfl (L1.out _ (by first|exact Fr.refl _ _|assumption)).r rfl (by kernel_rfl) (by first|exact o1.out _|exact o2.out _|simp [Value.oneCell']) ?_;intro wz Bz Fz))
     go_meet
     exact⟨rfl,rfl,Bz,Fz⟩
    case rest=>
     obtain⟨rfl,rfl,Bz,Fz⟩:=hcut
     have FW:=(L1.out _ (Fr.refl [] w1)).res Fz
     refine ‹∀(a:Act) (w:World),Code.wp Tryz.prog Code.ret _ a w→_› _ _ (wp_ret ?_)
     try simp only [Exit.then]
     change bodyPost Tryz.prog _ _ .ret _ _
     refine bodyPost_ret (results_ctt 4 41 ⟨w.heap.size+1,0,none⟩ _ 5 6 (.slice none 0 0) (.int .i64 3) (by rfl) (by rfl) (end_load Bz) (by rfl) (by rfl)) (by rfl) ?_
     rw [VL.out hover.out (by have:=HLG.out;omega)]
     exact⟨S,_,_,_,_,[],rfl,rfl,Ext.refl w S,M.out.fr FW,Pr.nil,FW⟩
   ·have hg1:decide ((x.all.length:Int)+b.length - x.win.a > 4096)=false:=by simpa using hlong
    have hg2:decide (4096<(x.all.length:Int)+b.length - x.win.a)=false:=by simpa using hlong
    have HLG:=hI hlong
    clear hlong
    go_upto_region 5 with fail
    clear c2 c25 c4 c6 hg1 hg2 q1 q2
    have i0p:=info_parts info_u8
    obtain⟨i0,hi0,hz0,hz1,hz2⟩:=i0p
    have BA:Hid (∀ W,Fr [] w1 W→Byt S W (.slice aA x.all.length ac) x.all):=hI (fun W f=>M.out.ba.fr ((L1.out _ f).f) (by simp))
    have BB:Hid (∀ W,Fr [] w1 W→Byt T W (.slice A b.length c) b):=hI (fun W f=>HD.out.fr ((L1.out _ f).f) (by simp))
    have HB1:Hid (0+x.all.length≤maxLen):=hI (by unfold maxLen;have:=HAL.out;omega)
    have HB2:Hid ((0+x.all.length) * 1≤140737488355328):=hI (by have:=HAL.out;omega)
    have HB3:Hid (x.all.length+b.length≤maxLen):=hI (by have:=HAL.out;unfold maxLen;omega)
    have HB4:Hid ((x.all.length+b.length) * 1≤140737488355328):=hI (by have:=HAL.out;omega)
    have c4:w1.cell? ⟨w.heap.size,4,none⟩=some (.slice aA x.all.length ac):=(L1.out _ (Fr.refl [] w1)).s.cell 4
    go_upto_region 6 with (first
      | (at_builtin;refine wpList_append_sl _ rfl (.const (.slice none 0 0)) (.tmp 30) 30 rfl 5 i0 (.int .u8 0) 1 1 Tryz.underlying30 hi0 hz0 hz1 hz2 rfl (by decide) (.slice none 0 0) 0 [] rfl (World.ownsRow_nil _ 0 5 1) S (.slice aA x.all.length ac) x.all.length (byts x.all) rfl (BA.out _ (Fr.refl [] w1)) (byts_one _) HB1.out HB2.out x.all.length (by simp) ?_;intro A6 c6 w8 h8 g8 k8;have G8:Fr [] w1 w8:=g8.mono (by simp [ob,Value.ownBlock]);have H8:=hI h8;have K8:Hid (∀ b,(Value.slice A6 x.all.length c6).ownBlock=some b→w1.heap.size≤b∧b<w8.heap.size):=hI (fun b hb=>by have:=k8 b hb;simp [Value.ownBlock] at this;exact this);clear h8 g8 k8)
      | (at_builtin;refine wpList_append_sl _ rfl (.tmp 31) (.tmp 32) 30 rfl 5 i0 (.int .u8 0) 1 1 Tryz.underlying30 hi0 hz0 hz1 hz2 rfl (by decide) (.slice A6 x.all.length c6) x.all.length ([]++byts x.all) rfl H8.out T (.slice A b.length c) b.length (byts b) rfl (BB.out _ G8) (byts_one _) HB3.out HB4.out (x.all.length+b.length) rfl ?_;intro A7 c7 w9 h9 g9 k9;have G9:Fr [] w1 w9:=G8.trans g9 (fun y hy => .inr (by have h1:=K8.out y (mem_ob.1 hy);omega));have l9:=L1.out _ G9;have c9:w9.cell? ⟨w.heap.size,4,none⟩=some (.slice aA x.all.length ac):=l9.s.cell 4;have z9:=l9.s.frozen 4;have hl9:=l9.s.lt;have H9:=hI h9;have K9:Hid (∀ b_,(Value.slice A7 (x.all.length+b.length) c7).ownBlock=some b_→w1.heap.size≤b_∧b_<w9.heap.size):=hI (fun b hb=>(k9 b hb).elim (fun h=>by have h1:=K8.out b h;have h2:=g9.size;omega) (fun h=>by have h2:=G8.size;omega));have L9:=hI l9;have GG9:=hI G9;clear h9 g9 k9 l9))
    have hset:Lo w (w9.setCell ⟨w.heap.size,4,none⟩ (.slice A7 (x.all.length+b.length) c7)) w.heap.size (w.heap.size+1) (arE { x with all:=x.all++b } (.slice A7 (x.all.length+b.length) c7) uv kv):=by
     have hh:=L9.out.cell 4 (.slice A7 (x.all.length+b.length) c7)
     simp only [arE,zqA,zqB,zqC] at hh ⊢
     exact hh
    have fs:Fr [w.heap.size] w9 (w9.setCell ⟨w.heap.size,4,none⟩ (.slice A7 (x.all.length+b.length) c7)):=(Fr.refl [w.heap.size] w9).setCell (p:=⟨w.heap.size,4,none⟩) (.inl (by simp)) _
    have hz1:=(L1.out _ (Fr.refl [] w1)).s.lt
    have hz2:=(L1.out _ (Fr.refl [] w1)).r.lt
    generalize w9.setCell ⟨w.heap.size,4,none⟩ (.slice A7 (x.all.length+b.length) c7)=w2 at *
    obtain⟨SS,hSS⟩:∃ SS:Nat→Prop,SS=fun y=>S y∨(Value.slice A7 (x.all.length+b.length) c7).ownBlock=some y:=⟨_,rfl⟩
    have hsub:∀ y,S y→SS y:=fun y h=>by rw [hSS];exact .inl h
    have hnew:∀ y,SS y→S y∨(w1.heap.size≤y∧y<w9.heap.size):=fun y h=>by
     rw [hSS] at h
     rcases h with h|h
     ·exact .inl h
     ·exact .inr (K9.out y h)
    have hge:w.heap.size≤w1.heap.size:=(L1.out _ (Fr.refl [] w1)).f.size
    have hS0:∀ y,S y→y<w.heap.size:=M.out.pub
    have XS:Hid (Ext w S SS):=hI ⟨hsub,fun y h=>(hnew y h).imp id (fun h=>by omega)⟩
    have NSR:Hid (¬ SS (w.heap.size+1)):=hI (fun hs=>(hnew _ hs).elim (fun h=>by have:=hS0 _ h;omega) (fun h=>by omega))
    have nsE:¬ SS w.heap.size:=fun hs=>(hnew _ hs).elim (fun h=>by have:=hS0 _ h;omega) (fun h=>by omega)
    have MS:Hid (RE SS w2 { x with all:=x.all++b } (.slice A7 (x.all.length+b.length) c7) uv kv):=hI (by
     have m9:=M.out.ext (S':=SS) L9.out.f (by simp) hsub (fun y h=>(hnew y h).elim (fun h=>by have:=hS0 _ h;have:=GG9.out.size;omega) (fun h=>h.2))
     have mz:=m9.far fs nsE
     have hb9:Byt SS w9 (.slice A7 (x.all.length+b.length) c7) (x.all++b):=by
      have h9:=H9.out
      rw [List.nil_append,byts_app,← List.length_append] at h9
      have:=Sl.of_own (S:=SS) h9 (fun y hy=>by rw [hSS];right;rw [← List.length_append];exact hy)
      rw [← List.length_append]
      exact this
     exact⟨hb9.fr fs (fun y hy=>by simp at hy;subst hy;exact nsE),mz.bu,mz.hp⟩)
    have L2:Hid (∀ W,Fr [] w2 W→Lo w W w.heap.size (w.heap.size+1) (arE { x with all:=x.all++b } (.slice A7 (x.all.length+b.length) c7) uv kv)):=hI (fun W f=>hset.grow f)
    have o2:=MS.out.cells1
    clear hset fs c9 z9 hl9 hz1 hz2 hSS hsub hnew hge hS0 nsE c4
    have HES0:Hid (∀ W,Fr [] w2 W→Calls Tryz.prog 71 #[agE { x with all:=x.all++b } (.slice A7 (x.all.length+b.length) c7) uv kv] W (EPart SS W R (.slice A7 (x.all.length+b.length) c7) uv kv)):=hI (fun W f=>HES.out SS W _ _ _ (MS.out.fr f))
    go_upto_region 7 with (first
       | ((with_reducible refine gate_load 41 (.tmp 2) ?_);refine wpList_load_blk rfl 41 (.tmp 2) rfl w.heap.size 41 (arE { x with all:=x.all++b } (.slice A7 (x.all.length+b.length) c7) uv kv) _ rfl (L2.out _ (by first|exact Fr.refl _ _|assumption)).s Tryz.underlying41 rfl (by kernel_rfl) ?_)
       | (go_at_call 71;refine (HES0.out _ (Fr.refl _ _)).mono ?_;rintro e w8 ⟨v2,Ls,rfl,hLs,p2,f8⟩)
       | ((with_reducible refine gate_store 41 (.tmp 7) ?_);refine wpList_store_blk rfl 41 (.tmp 7) (.tmp 38) rfl w8.heap.size 41 endZ (arE R.1 (.slice A7 (x.all.length+b.length) c7) uv kv) rfl rfl (Blk.new w8 41 endZ) rfl (by kernel_rfl) (by first|exact o1.out _|exact o2.out _|simp [Value.oneCell']) ?_;intro w9 B9 F9))
    have fa8:Fr [] w8 (w8.alloc (.cells endZ 41)):=(Fr.refl [] w8).alloc _
    have nsb:¬ SS w8.heap.size:=fun hs=>by have h1:=MS.out.pub _ hs;have h2:=f8.size;omega
    have nob:∀ b∈ob v2,b≠w8.heap.size:=fun b hb=>by have:=own_lt p2.own (mem_ob.1 hb);omega
    have ll8:=L2.out _ f8
    have L9:=hI ((ll8.grow fa8).far F9 (by have:=ll8.f.size;omega) (by have:=ll8.s.lt;omega) (by have:=ll8.r.lt;omega))
    have P9:=hI ((p2.fr fa8 (by simp) (by simp) (fun _ h=>h)).fr F9 (fun z hz hs=>by simp at hz;subst hz;exact nsb hs) (fun b hb hm=>by simp at hm;exact nob b hb hm) (fun _ h=>h))
    have M9:Hid (RE SS w9 R.1 (.slice A7 (x.all.length+b.length) c7) uv kv):=hI ((((MS.out.fr f8).fr fa8).far F9 nsb).to_ HSN.out.1 HSN.out.2.1 HSN.out.2.2)
    have V9:=hI B9
    have HLs:=hI hLs
    have NOB:Hid (∀ b∈ob v2,b≠w.heap.size+1):=hI (fun b hb=>by rintro rfl;exact own_ne p2.own ll8.r (by decide) (mem_ob.1 hb))
    generalize w8.heap.size=b9 at *
    clear fa8 nsb nob ll8 p2 f8 B9 F9 hLs HES0
    obtain⟨A2,c2,rfl,_,_⟩:=own_form P9.out.own
    go_cut [5,6] (fun sa sb wx=>sa = .slice A2 Ls.length c2∧sb = .int .i64 0∧Blk wx (w.heap.size+1) 41 (arE R.1 (.slice A7 (x.all.length+b.length) c7) uv kv)∧Fr [(w.heap.size+1)] w9 wx)
    case first=>
     go_wp2_with (first
       | ((with_reducible refine gate_load 41 (.tmp 7) ?_);refine wpList_load_blk rfl 41 (.tmp 7) rfl b9 41 (arE R.1 (.slice A7 (x.all.length+b.length) c7) uv kv) _ rfl V9.out Tryz.underlying41 rfl (by kernel_rfl) ?_)
       | ((with_reducible refine gate_store 41 (.tmp 4) ?_);refine wpList_store_blk rfl 41 (.tmp 4) (.tmp 40) rfl (w.heap.size+1) 41 endZ (arE R.1 (.slice A7 (x.all.length+b.length) c7) uv kv) rfl rfl L9.out.r rfl (by kernel_rfl) (by first|exact o1.out _|exact o2.out _|simp [Value.oneCell']) ?_;intro wz Bz Fz))
     go_meet
     exact⟨rfl,rfl,Bz,Fz⟩
    case rest=>
     obtain⟨rfl,rfl,Bz,Fz⟩:=hcut
     have FW:=L9.out.res Fz
     have hrl:=L9.out.r.lt
     refine ‹∀(a:Act) (w:World),Code.wp Tryz.prog Code.ret _ a w→_› _ _ (wp_ret ?_)
     try simp only [Exit.then]
     change bodyPost Tryz.prog _ _ .ret _ _
     refine bodyPost_ret (results_ctt 4 41 ⟨w.heap.size+1,0,none⟩ _ 5 6 (.slice A2 Ls.length c2) (.int .i64 0) (by rfl) (by rfl) (end_load Bz) (by rfl) (by rfl)) (by rfl) ?_
     rw [VG.out hover.out (by have:=HLG.out;omega)]
     exact⟨SS,_,_,_,_,Ls,rfl,HLs.out,XS.out,M9.out.far Fz NSR.out,P9.out.fr Fz (fun z hz hs=>by simp at hz;subst hz;exact NSR.out hs) (fun b hb hm=>by simp at hm;exact NOB.out b hb hm) (fun _ h=>h),FW⟩
  ·rw [hcl] at c25
   have HCL:=hI hcl
   clear hcl
   go_upto_region 2 with fail
   clear c2 c25
   go_cut [5,6] (fun sa sb wx=>sa = .slice none 0 0∧sb = .int .i64 260∧Blk wx (w.heap.size+1) 41 (arE x (.slice aA x.all.length ac) uv kv)∧Fr [(w.heap.size+1)] w1 wx)
   case first=>
    go_wp2_with (first
      | ((with_reducible refine gate_load 41 (.tmp 2) ?_);refine wpList_load_blk rfl 41 (.tmp 2) rfl w.heap.size 41 (arE x (.slice aA x.all.length ac) uv kv) _ rfl (L1.out _ (by first|exact Fr.refl _ _|assumption)).s Tryz.underlying41 rfl (by kernel_rfl) ?_)
      | ((with_reducible refine gate_store 41 (.tmp 4) ?_);refine wpList_store_blk rfl 41 (.tmp 4) (.tmp 16) rfl (w.heap.size+1) 41 endZ (arE x (.slice aA x.all.length ac) uv kv) rfl rfl (L1.out _ (by first|exact Fr.refl _ _|assumption)).r rfl (by kernel_rfl) (by first|exact o1.out _|exact o2.out _|simp [Value.oneCell']) ?_;intro wz Bz Fz))
    go_meet
    exact⟨rfl,rfl,Bz,Fz⟩
   case rest=>
    obtain⟨rfl,rfl,Bz,Fz⟩:=hcut
    have FW:=(L1.out _ (Fr.refl [] w1)).res Fz
    refine ‹∀(a:Act) (w:World),Code.wp Tryz.prog Code.ret _ a w→_› _ _ (wp_ret ?_)
    try simp only [Exit.then]
    change bodyPost Tryz.prog _ _ .ret _ _
    refine bodyPost_ret (results_ctt 4 41 ⟨w.heap.size+1,0,none⟩ _ 5 6 (.slice none 0 0) (.int .i64 260) (by rfl) (by rfl) (end_load Bz) (by rfl) (by rfl)) (by rfl) ?_
    rw [VO.out (by rw [HOV.out];simp [HCL.out])]
    exact⟨S,_,_,_,_,[],rfl,rfl,Ext.refl w S,M.out.fr FW,Pr.nil,FW⟩
def AgPost(S:Nat→Prop)(w:World)(H:Hd)(x':St)(p:Prt)(e:Ending)(w':World):Prop:=
 ∃ S' A c,e = .returned (agP p (.slice A p.d.length c))∧Ext w S S'∧Byt S' w' (.slice A p.d.length c) p.d∧SI S' w' H x'∧Fr [H.g,H.gw] w w'
theorem SI.head{S:Nat→Prop}{w:World}{H:Hd}{x:St}(m:SI S w H x){n:Nat}(h0:0≤x.win.a)(h1:0<n)(h2:x.win.a+n≤x.all.length) :
  ∃ b c,H.bv = .slice (some ⟨b,0,none⟩) (bufV x).length c∧n≤(bufV x).length∧(bufV x).length≤c∧c≤maxLen∧Byt (fun y=>y∈ob H.bv) w (.slice (some ⟨b,0,none⟩) n c) ((x.all.drop x.win.a.toNat).take n):=by
 have hl:(bufV x).length=x.all.length - x.win.a.toNat:=by unfold bufV;rw [List.length_drop]
 have hb:Byt (fun y=>y∈ob H.bv) w H.bv (bufV x):=Sl.of_own m.buf (fun b hb=>mem_ob.2 hb)
 rcases m.buf.2 with ⟨e,h⟩|⟨g,cap,cur,e,_,hg,h3,h4,_⟩
 ·omega
 ·refine⟨g,cap,e,by omega,h3,h4,?_⟩
  rw [e] at hb ⊢
  exact hb.take (k:=n) (by omega)
theorem again_end{S S5:Nat→Prop}{w W0 w5:World}{H:Hd}{x x':St}{p:Prt}{A:Option Addr}{c:Nat}(m:SI S w H x)(f0:Fr [] w W0)(hr:w.heap.size<W0.heap.size)(x5:Ext W0 S S5)(by5:Byt S5 w5 (.slice A p.d.length c) p.d)(m5:SI S5 w5 H x')(f5:Fr [H.g,H.gw] W0 w5)
  (hb:Blk W0 w.heap.size 49 prt0) :
  AgPost S w H x' p (.returned (agP p (.slice A p.d.length c))) (((((w5.setCell ⟨w.heap.size,0,none⟩ (.int .i64 p.flags)).setCell ⟨w.heap.size,1,none⟩ (.int .u32 p.seq)).setCell ⟨w.heap.size,2,none⟩ (.int .u32 p.ack)).setCell ⟨w.heap.size,3,none⟩ (.int .u16 p.win)).setCell ⟨w.heap.size,4,none⟩ (.slice A p.d.length c)) ∧
  Blk (((((w5.setCell ⟨w.heap.size,0,none⟩ (.int .i64 p.flags)).setCell ⟨w.heap.size,1,none⟩ (.int .u32 p.seq)).setCell ⟨w.heap.size,2,none⟩ (.int .u32 p.ack)).setCell ⟨w.heap.size,3,none⟩ (.int .u16 p.win)).setCell ⟨w.heap.size,4,none⟩ (.slice A p.d.length c)) w.heap.size 49 #[.int .i64 p.flags, .int .u32 p.seq, .int .u32 p.ack, .int .u16 p.win, .slice A p.d.length c]:=by
 have hne:∀ y∈H.own,y≠w.heap.size:=fun y hy=>by have:=m.lt y hy;omega
 have b5:Blk w5 w.heap.size 49 prt0:=hb.fr f5 (by simp;exact⟨fun e=>hne H.g (by simp [Hd.own]) e.symm,fun e=>hne H.gw (by simp [Hd.own]) e.symm⟩)
 have hnS:¬ S5 w.heap.size:=fun hs=>by
  rcases x5.2 _ hs with h|h
  ·have:=HP.pub' m.hp _ h;omega
  ·omega
 have f6:=fr5 (b:=w.heap.size) (Fr.refl [w.heap.size] w5) (.inl (by simp)) (.int .i64 p.flags) (.int .u32 p.seq) (.int .u32 p.ack) (.int .u16 p.win) (.slice A p.d.length c)
 exact⟨⟨S5,A,c,rfl,ext_up x5 f0.size,by5.fr f6 (fun y hy=>by simp at hy;subst hy;exact hnS),m5.far f6 hnS hne,((f0.mono (by simp)).trans f5 (fun y hy => .inl hy)).trans f6 (fun y hy => .inr (by simp at hy;omega))⟩,set5 b5 _ _ _ _ _⟩
theorem againV_beg(x:St)(h:x.at_≠4):againV x=(shows x,beginsV x):=by unfold againV;rw [if_pos h]
theorem againV_data(x:St)(h:x.at_=4)(n:Int)(hn:n=min 64 (x.win.m - x.win.a))(hp:0<n):againV x=(shows x,partV x 2 x.win.a ((x.all.drop x.win.a.toNat).take n.toNat)):=by
 subst hn;unfold againV;rw [if_neg (by simp [h]),if_pos hp]
theorem againV_fin(x:St)(h:x.at_=4)(n:Int)(hn:n=min 64 (x.win.m - x.win.a))(hp:¬ 0<n)(hf:x.fin=true):againV x=(shows x,partV x 6 x.all.length []):=by
 subst hn;unfold againV;rw [if_neg (by simp [h]),if_neg hp,if_pos hf]
theorem againV_probe(x:St)(h:x.at_=4)(n:Int)(hn:n=min 64 (x.win.m - x.win.a))(hp:¬ 0<n)(hf:x.fin=false) :
  againV x=(shows { x with win:=(Win.probeV x.win).1 },partV { x with win:=(Win.probeV x.win).1 } 2 (Win.probeV x.win).2.1 ((x.all.drop x.win.a.toNat).take 1)):=by
 subst hn;unfold againV;rw [if_neg (by simp [h]),if_neg hp,if_neg (by simp [hf])]
set_option maxHeartbeats 8000000 in
theorem again_si{S:Nat→Prop}{w:World}{H:Hd}{x:St}(m:SI S w H x)(ok:Ok x)(hw:waitsV x=true) :
  Calls Tryz.prog 75 #[ptr H.g] w (AgPost S w H (againV x).1 (againV x).2):=by
 have v0:=againV_beg x
 have v1:=againV_data x
 have v2:=againV_fin x
 have v3:=againV_probe x
 have hpr:=again_probe ok hw
 have hgl:=m.blk.lt
 have f0:Fr [] w (w.alloc (.cells prt0 49)):=(Fr.refl [] w).alloc _
 have b0:Blk (w.alloc (.cells prt0 49)) w.heap.size 49 prt0:=Blk.new w _ _
 have hr:w.heap.size<(w.alloc (.cells prt0 49)).heap.size:=by simp
 have m0:=m.fr f0
 generalize againV x=r at *
 have hwb:=Win.Inv.bd ok.s.hw
 have hml:=ok.s.hm
 have hal:=ok.s.hl
 have M:=hI m
 have OK:=hI ok
 have V0:=hI v0
 have V1:=hI v1
 have V2:=hI v2
 have V3:=hI v3
 have HPR:=hI hpr
 have HWB:=hI hwb
 have HML:=hI hml
 have HAL:=hI hal
 clear m ok v0 v1 v2 v3 hpr hwb hml hal
 go_enter Tryz.func75,Tryz.ntmps75
 go_upto_region 1 with fail
 generalize w.alloc (.cells prt0 49)=w0 at *
 have c16:=(scells m0.blk).c16
 have M0:=hI m0
 have F0:=hI f0
 have B0:=hI b0
 have HRr:=hI hr
 clear m0 f0 b0 hr
 go_wp2_with fail
 refine (Win.state_win H.gw x.win w0 M0.out.win).mono ?_
 rintro e w1 ⟨rfl,f1⟩
 go_upto_region 2 with fail
 have f2:Fr [] w0 (w1.alloc (.cells #[.int .i64 x.win.a, .int .i64 x.win.s, .int .i64 x.win.m, .int .i64 x.win.l] 32)):=f1.alloc _
 have b2:=Blk.new w1 32 #[.int .i64 x.win.a, .int .i64 x.win.s, .int .i64 x.win.m, .int .i64 x.win.l]
 generalize w1.alloc (.cells #[.int .i64 x.win.a, .int .i64 x.win.s, .int .i64 x.win.m, .int .i64 x.win.l] 32)=w2 at *
 have p0:w2.cell? ⟨w1.heap.size,0,none⟩=some (.int .i64 x.win.a):=by simpa using b2.cell 0
 have p2:w2.cell? ⟨w1.heap.size,2,none⟩=some (.int .i64 x.win.m):=by simpa using b2.cell 2
 have hsub:IntKind.i64.wrap (x.win.m - x.win.a)=x.win.m - x.win.a:=IntWalk.i64_in _ (by have:=HWB.out;have:=HML.out;have:=HAL.out;omega)
 have m2:=M0.out.fr f2
 have cs:=scells m2.blk
 have c0:=cs.c0
 have c7:=cs.c7
 have c14:=cs.c14
 have c16:=cs.c16
 have c19:=cs.c19
 have F2:=hI (F0.out.trans f2 (by simp))
 have B2:=hI (B0.out.fr f2 (by simp))
 have HR2:Hid (w.heap.size<w2.heap.size):=hI (Nat.lt_of_lt_of_le HRr.out f2.size)
 have M2:=hI m2
 clear f1 f2 b2 m2 cs
 generalize hb1:w1.heap.size=b1 at *
 clear hb1
 have HG2:Hid (w.heap.size∉[H.g,H.gw]):=hI (by have h1:=M.out.lt H.g (by simp [Hd.own]);have h2:=M.out.lt H.gw (by simp [Hd.own]);simp;omega)
 obtain⟨y0,y1,y2,y3,y4⟩:=cells5 B2.out
 obtain⟨z0,z1,z2,z3,z4⟩:=free5 B2.out
 have hbd:min 64 (x.win.m - x.win.a)≤64∧min 64 (x.win.m - x.win.a)≤x.win.m - x.win.a:=by omega
 by_cases h4:x.at_=4
 ·rw [h4] at c0
  have HH4:=hI h4
  go_upto_region 5 with fail
  have hn:min 64 (x.win.m - x.win.a)=min 64 (x.win.m - x.win.a):=rfl
  generalize hnn:min 64 (x.win.m - x.win.a)=n at *
  have HNN:=hI hnn.symm
  clear hnn hn h4
  by_cases hpos:0<n
  ·have hd0:decide (0<n)=true:=by simpa using hpos
   have hd1:decide (n > 0)=true:=by simpa using hpos
   have hv:=V1.out HH4.out n rfl hpos
   obtain⟨nn,rfl⟩:∃ nn:Nat,n=nn:=⟨n.toNat,by omega⟩
   have hnn:((nn:Int)).toNat=nn:=by omega
   rw [hnn] at hv
   obtain⟨b,bc,hbv,q1,q2,q3,hby⟩:=M2.out.head (n:=nn) HWB.out.1 (by omega) (by have:=HML.out;omega)
   rw [hbv] at c14
   unfold maxLen at q3
   have hpt:Calls Tryz.prog 79 #[ptr H.g, .int .i64 0, .int .i64 x.win.a, .slice (some ⟨b,0,none⟩) nn bc] w2.drew (PartPost S w2.drew H (shows x) (partV x 2 x.win.a ((x.all.drop x.win.a.toNat).take nn))):=
    part_si (M2.out.fr (Fr.refl [] w2).drew) OK.out.s.hi (by have:=OK.out.s.hu;omega) 0 x.win.a (.inl rfl) HWB.out.1 (by have:=HWB.out;have:=HML.out;have:=HAL.out;omega) _ _ _ (hby.fr (Fr.refl [] w2).drew (by simp)) (fun z hz=>by rintro rfl;exact M2.out.ne_b _ hz rfl) (by simp;omega)
   generalize partV x 2 x.win.a ((x.all.drop x.win.a.toNat).take nn)=p at *
   have HPT:=hI hpt
   have HV:=hI hv
   have s4:(0:Int)≤(nn:Int):=by omega
   have s6:(nn:Int)≤(bc:Int):=by omega
   clear hpt hv hby hbd
   go_upto_region 6 with fail
   go_still_tail 9,(by kernel_rfl)
   change wpList Tryz.prog _ _ _ _ w2.drew
   go_wp2_with fail
   refine HPT.out.mono ?_
   rintro e w3 ⟨S3,A3,c3,rfl,x3,by3,m3,f3⟩
   have f3w:Fr [H.g,H.gw] w2 w3:=((Fr.refl [H.g] w2).drew.trans f3 (fun y hy => .inl hy)).mono (by simp)
   have x3:Ext w2 S S3:=x3
   clear f3
   have b3:=B2.out.fr f3w HG2.out
   have hend:=again_end (p:=p) M.out F2.out HR2.out x3 by3 m3 f3w B2.out
   obtain⟨y0,y1,y2,y3,y4⟩:=cells5 b3
   obtain⟨z0,z1,z2,z3,z4⟩:=free5 b3
   obtain⟨r0,r1,r2,r3,r4⟩:=cells5 hend.2
   have HE:=hI hend.1
   clear hend x3 by3 m3 f3w b3
   go_wp2_with fail
   refine bodyPost_ret (v := .agg #[.int .i64 p.flags, .int .u32 p.seq, .int .u32 p.ack, .int .u16 p.win, .slice A3 p.d.length c3]) (by simp [results,Tryz.results75,go_sem,r0,r1,r2,r3,r4]) rfl ?_
   rw [HV.out]
   exact HE.out
  ·have hd0:decide (0<n)=false:=by simpa using hpos
   have hd1:decide (n > 0)=false:=by simpa using hpos
   rcases Bool.eq_false_or_eq_true x.fin with hfi|hfi
   all_goals rw [hfi] at c19
   ·have hpt:Calls Tryz.prog 79 #[ptr H.g, .int .i64 4, .int .i64 x.all.length, .slice none 0 0] w2 (PartPost S w2 H (shows x) (partV x 6 x.all.length [])):=part_si M2.out OK.out.s.hi (by have:=OK.out.s.hu;omega) 4 x.all.length (.inr (.inl rfl)) (by omega) (by have:=HAL.out;omega) _ [] (fun _=>False) Byt.nil (by simp) (by simp)
    have hv:=V2.out HH4.out n rfl (by omega) hfi
    generalize partV x 6 x.all.length []=p at *
    have HPT:=hI hpt
    have HV:=hI hv
    clear hpt hv
    go_wp2_with fail
    refine HPT.out.mono ?_
    rintro e w3 ⟨S3,A3,c3,rfl,x3,by3,m3,f3⟩
    have f3w:=f3.mono (O':=[H.g,H.gw]) (by simp)
    clear f3
    have b3:=B2.out.fr f3w HG2.out
    have hend:=again_end (p:=p) M.out F2.out HR2.out x3 by3 m3 f3w B2.out
    obtain⟨y0,y1,y2,y3,y4⟩:=cells5 b3
    obtain⟨z0,z1,z2,z3,z4⟩:=free5 b3
    obtain⟨r0,r1,r2,r3,r4⟩:=cells5 hend.2
    have HE:=hI hend.1
    clear hend x3 by3 m3 f3w b3
    go_wp2_with fail
    refine bodyPost_ret (v := .agg #[.int .i64 p.flags, .int .u32 p.seq, .int .u32 p.ack, .int .u16 p.win, .slice A3 p.d.length c3]) (by simp [results,Tryz.results75,go_sem,r0,r1,r2,r3,r4]) rfl ?_
    rw [HV.out]
    exact HE.out
   ·have hprb:=HPR.out HH4.out (by omega) hfi
    have hv:=V3.out HH4.out n rfl (by omega) hfi
    have hpw:=Win.probe_win H.gw x.win w2 1000000000 (Int.le_refl _) OK.out.s.hw M2.out.win
    obtain⟨hz,hza⟩:=hprb
    have hpv:Win.probeV x.win=(⟨x.win.a,x.win.s,max x.win.m (x.win.a+1),x.win.l⟩,x.win.a,0):=by unfold Win.probeV;rw [if_pos hz]
    rw [hpv] at hpw
    have HPW:=hI hpw
    obtain⟨b,bc,hbv,q1,q2,q3,hby⟩:=M2.out.head (n:=1) HWB.out.1 (by omega) (by omega)
    rw [hbv] at c14
    unfold maxLen at q3
    have HBV:=hI hbv
    have HBY:=hI hby
    rw [hpv] at hv
    dsimp only at hv
    generalize hx':({ x with win:=⟨x.win.a,x.win.s,max x.win.m (x.win.a+1),x.win.l⟩ }:St)=x' at *
    have HX:=hI hx'
    generalize hpp:partV x' 2 x.win.a ((x.all.drop x.win.a.toNat).take 1)=p at *
    have HPP:=hI hpp
    have HV:=hI hv
    have s6:(1:Int)≤(bc:Int):=by omega
    have HZA:=hI hza
    clear hpv hpw hbv hby hv hbd hz hx' hpp hza
    go_wp2_with fail
    refine HPW.out.mono ?_
    rintro e w3 ⟨rfl,f3,W3⟩
    have m3:=M2.out.setw f3 W3 rfl
    have c14':w3.cell? ⟨H.g,14,none⟩=some (.slice (some ⟨b,0,none⟩) (bufV x).length bc):=by rw [← HBV.out];exact (scells m3.blk).c14
    have hlt3:=m3.blk.lt
    rw [HX.out] at m3
    have F3:=hI f3
    have hpt:Calls Tryz.prog 79 #[ptr H.g, .int .i64 0, .int .i64 x.win.a, .slice (some ⟨b,0,none⟩) 1 bc] w3 (PartPost S w3 H (shows x') p):=by
     have h:=part_si m3 (by rw [← HX.out];exact OK.out.s.hi) (by rw [← HX.out];have:=OK.out.s.hu;show x.unread.length≤100000;omega) 0 x.win.a (.inl rfl) HWB.out.1 (by have:=HWB.out;have:=HML.out;have:=HAL.out;omega) _ _ _ (HBY.out.fr f3 (fun z hz hm=>by simp at hz;subst hz;exact own_ne M2.out.buf M2.out.win (by decide) (mem_ob.1 hm))) (fun z hz=>by rintro rfl;exact M2.out.ne_b _ hz rfl) (by simp;omega)
     rw [← HPP.out]
     exact h
    have HPT:=hI hpt
    clear hpt m3 f3 W3 c14
    go_wp2_with fail
    refine HPT.out.mono ?_
    rintro e w4 ⟨S3,A3,c3,rfl,x3,by3,m3,f3⟩
    have f3w:Fr [H.g,H.gw] w2 w4:=(F3.out.mono (by simp)).trans (f3.mono (O':=[H.g,H.gw]) (by simp)) (fun y hy => .inl hy)
    have x3:=ext_up x3 F3.out.size
    clear f3
    have b3:=B2.out.fr f3w HG2.out
    have hend:=again_end (p:=p) M.out F2.out HR2.out x3 by3 m3 f3w B2.out
    obtain⟨y0,y1,y2,y3,y4⟩:=cells5 b3
    obtain⟨z0,z1,z2,z3,z4⟩:=free5 b3
    obtain⟨r0,r1,r2,r3,r4⟩:=cells5 hend.2
    have HE:=hI hend.1
    clear hend x3 by3 m3 f3w b3
    go_wp2_with fail
    refine bodyPost_ret (v := .agg #[.int .i64 p.flags, .int .u32 p.seq, .int .u32 p.ack, .int .u16 p.win, .slice A3 p.d.length c3]) (by simp [results,Tryz.results75,go_sem,r0,r1,r2,r3,r4]) rfl ?_
    rw [HV.out]
    exact HE.out
 ·have hd:decide (x.at_=4)=false:=by simpa using h4
  have hq:(x.at_ == 4)=false:=by simpa using h4
  have hnq:(x.at_ != 4)=true:=by simpa using h4
  have hbg:=begins_si M2.out OK.out.s.hi (by have:=OK.out.s.hu;omega)
  have HV:=hI (V0.out h4)
  generalize beginsV x=p at *
  go_wp2_with fail
  refine hbg.mono ?_
  rintro e w3 ⟨S3,A3,c3,rfl,x3,by3,m3,f3⟩
  have f3w:=f3.mono (O':=[H.g,H.gw]) (by simp)
  clear f3 hbg hbd
  have b3:=B2.out.fr f3w HG2.out
  have hend:=again_end (p:=p) M.out F2.out HR2.out x3 by3 m3 f3w B2.out
  obtain⟨y0,y1,y2,y3,y4⟩:=cells5 b3
  obtain⟨z0,z1,z2,z3,z4⟩:=free5 b3
  obtain⟨r0,r1,r2,r3,r4⟩:=cells5 hend.2
  have HE:=hI hend.1
  clear hend x3 by3 m3 f3w b3
  go_wp2_with fail
  refine bodyPost_ret (v := .agg #[.int .i64 p.flags, .int .u32 p.seq, .int .u32 p.ack, .int .u16 p.win, .slice A3 p.d.length c3]) (by simp [results,Tryz.results75,go_sem,r0,r1,r2,r3,r4]) rfl ?_
  rw [HV.out]
  exact HE.out
theorem tickV_not(x:St)(h:Rto.dueV x.clk (x.now+1)=false):tickV x=({ x with now:=x.now+1 },[]):=by unfold tickV;dsimp only;rw [if_neg (by simp [h])]
theorem tickV_more(x:St)(h:Rto.dueV x.clk (x.now+1)=true)(hm:(Rto.lateV x.clk (x.now+1)).2.1=true) :
  tickV x=(restsV (againV { x with now:=x.now+1,clk:=(Rto.lateV x.clk (x.now+1)).1,timed:=0 }).1,[(againV { x with now:=x.now+1,clk:=(Rto.lateV x.clk (x.now+1)).1,timed:=0 }).2]):=by
 unfold tickV;dsimp only;rw [if_pos h,if_pos hm]
theorem tickV_end(x:St)(h:Rto.dueV x.clk (x.now+1)=true)(hm:(Rto.lateV x.clk (x.now+1)).2.1=false) :
  tickV x=(restsV (doneV { x with now:=x.now+1,clk:=(Rto.lateV x.clk (x.now+1)).1 } true),[]):=by
 unfold tickV;dsimp only;rw [if_pos h,if_neg (by simp [hm])]
theorem SI.setnow{S:Nat→Prop}{w:World}{H:Hd}{x:St}(m:SI S w H x)(n:Int):SI S (w.setCell ⟨H.g,21,none⟩ (.int .i64 n)) H { x with now:=n }:=
 m.set ((Fr.refl [H.g] w).setCell (p:=⟨H.g,21,none⟩) (.inl (by simp)) _) (by simpa using m.blk.set_ 21 (.int .i64 n)) rfl rfl rfl rfl rfl
theorem SI.settimed{S:Nat→Prop}{w:World}{H:Hd}{x:St}(m:SI S w H x)(n:Int):SI S (w.setCell ⟨H.g,22,none⟩ (.int .i64 n)) H { x with timed:=n }:=
 m.set ((Fr.refl [H.g] w).setCell (p:=⟨H.g,22,none⟩) (.inl (by simp)) _) (by simpa using m.blk.set_ 22 (.int .i64 n)) rfl rfl rfl rfl rfl
theorem late_ok{x:St}(ok:Ok x)(hn:x.now+1≤1000000):Ok { x with now:=x.now+1,clk:=(Rto.lateV x.clk (x.now+1)).1 }∧Ok { x with now:=x.now+1,clk:=(Rto.lateV x.clk (x.now+1)).1,timed:=0 }:=by
 have h1:Ok { x with now:=x.now+1,clk:=(Rto.lateV x.clk (x.now+1)).1 }:=⟨⟨ok.s.hi,ok.s.hu,ok.s.hw,Rto.late_inv ok.s.hc _,ok.s.hm,ok.s.hl,by have:=ok.s.n0;simp only [];omega,by simp only [];omega,ok.s.s0,ok.s.s1⟩,ok.at0,ok.at5,ok.un,ok.kb,hn⟩
 exact⟨h1,⟨⟨h1.s.hi,h1.s.hu,h1.s.hw,h1.s.hc,h1.s.hm,h1.s.hl,h1.s.n0,h1.s.n1,h1.s.s0,h1.s.s1⟩,h1.at0,h1.at5,h1.un,h1.kb,h1.nb⟩⟩
theorem lpost_ag_rests{S S5:Nat→Prop}{w w4 w5 w7:World}{H:Hd}{y z:St}{p:Prt}{A:Option Addr}{c:Nat}(f0:Fr H.own w w4)(x5:Ext w4 S S5)(by5:Byt S5 w5 (.slice A p.d.length c) p.d)(m5:SI S5 w5 H y)(f5:Fr H.own w4 w5)
  (m7:SI S5 w7 H z) (f7:Fr [H.gc] (w5.alloc (.cells #[.int .i64 p.flags, .int .u32 p.seq, .int .u32 p.ack, .int .u16 p.win, .slice A p.d.length c] 49)) w7):LPost S w H (z,[p]) (.returned (.slice (some ⟨w5.heap.size,0,none⟩) 1 1)) w7:=by
 have m6:=m5.fr ((Fr.refl [] w5).alloc (.cells #[.int .i64 p.flags, .int .u32 p.seq, .int .u32 p.ack, .int .u16 p.win, .slice A p.d.length c] 49))
 have hz0:=f0.size
 have hz5:=f5.size
 have hp:∀ b,S5 b→b<w5.heap.size:=HP.pub' m5.hp
 refine⟨S5,H,_,[(p, .slice A p.d.length c)],rfl,rfl,ext_up x5 hz0,Hd.like.rfl' w H,m7,(pr_one by5).own_fr' m6 f7 (by simp [Hd.own]),?_,((f0.trans f5 (fun y hy => .inl hy)).alloc _).trans f7 (fun y hy => .inl (by simp at hy;subst hy;simp [Hd.own]))⟩
 intro b hb
 simp [ob,Value.ownBlock] at hb
 subst hb
 exact⟨by omega,fun hs=>by have:=hp _ hs;omega⟩
set_option maxHeartbeats 8000000 in
theorem tick_si{S:Nat→Prop}{w:World}{H:Hd}{x:St}(m:SI S w H x)(ok:Ok x)(hr:Rest x)(hn:x.now+1≤1000000):Calls Tryz.prog 34 #[ptr H.g] w (CPost S w H ((tickV x).1,(tickV x).2,0)):=by
 have v0:=tickV_not x
 have v1:=tickV_more x
 have v2:=tickV_end x
 have hrw:Rto.dueV x.clk (x.now+1)=true→waitsV x=true:=fun h=>hr.symm.trans (due_rn h)
 have c16:=(scells m.blk).c16
 have c21:=(scells m.blk).c21
 have z21:=m.blk.frozen 21
 have hlt:=m.blk.lt
 have n0:=ok.s.n0
 have hw1:IntKind.i64.wrap (x.now+1)=x.now+1:=IntWalk.i64_in _ (by omega)
 generalize tickV x=r at *
 have M:=hI m
 have OK:=hI ok
 have V0:=hI v0
 have V1:=hI v1
 have V2:=hI v2
 have HRW:=hI hrw
 clear m ok v0 v1 v2 hr hrw
 go_enter Tryz.func34,Tryz.ntmps34
 go_wp2_with fail
 refine (snone_si H.g H.gw w c16).mono ?_
 rintro e w' ⟨rfl,rfl⟩
 go_upto_region 4 with fail
 have m1:=M.out.setnow (x.now+1)
 have f1:Fr [H.g] w (w.setCell ⟨H.g,21,none⟩ (.int .i64 (x.now+1))):=(Fr.refl [H.g] w).setCell (p:=⟨H.g,21,none⟩) (.inl (by simp)) _
 generalize w.setCell ⟨H.g,21,none⟩ (.int .i64 (x.now+1))=w1 at *
 have d17:w1.cell? ⟨H.g,17,none⟩=some (ptr H.gc):=(scells m1.blk).c17
 have d21:w1.cell? ⟨H.g,21,none⟩=some (.int .i64 (x.now+1)):=(scells m1.blk).c21
 have g17:=Grew.cell d17
 have g21:=Grew.cell d21
 have hdu:∀ p:Grew w1,Calls Tryz.prog 72 #[ptr H.gc, .int .i64 (x.now+1)] p.W fun e w'=>e = .returned (.bool (Rto.dueV x.clk (x.now+1)))∧∃ q:Grew w1,w'=q.W:=fun p=>grew_call (Rto.due_fr H.gc x.clk (x.now+1) p.W (Blk.fr m1.clk p.fr (by simp)) OK.out.s.hc)
 have HDU:=hI hdu
 have M1:=hI m1
 have F1:=hI f1
 clear hdu m1 f1 c16 c21 z21 hlt d17 d21
 generalize hdv:Rto.dueV x.clk (x.now+1)=du at *
 refine wp_region_grew (by kernel_rfl) (by kernel_rfl) ?_
 repeat (go_big_quiet_step ((go_at_call 72;exact HDU.out _)))
 refine wpQuiet_nil ?_
 intro w2 f2
 have m2:=M1.out.fr f2
 have F2:Hid (Fr [H.g] w w2):=hI (F1.out.trans f2 (by simp))
 have M2:=hI m2
 clear f2 g17 g21 HDU m2 hdv
 rcases Bool.eq_false_or_eq_true du with rfl|rfl
 ·have d17:w2.cell? ⟨H.g,17,none⟩=some (ptr H.gc):=(scells M2.out.blk).c17
  have d21:w2.cell? ⟨H.g,21,none⟩=some (.int .i64 (x.now+1)):=(scells M2.out.blk).c21
  have hla:=Rto.late_clk H.gc x.clk (x.now+1) w2.drew (Blk.fr M2.out.clk (Fr.refl [] w2).drew (by simp)) OK.out.s.hc
  have HLA:=hI hla
  clear hla
  go_upto_region 6 with fail
  go_region_held3 (fun w'=>w'.cell? ⟨H.g,17,none⟩=some (ptr H.gc)∧w'.cell? ⟨H.g,21,none⟩=some (.int .i64 (x.now+1)))
   (first
    | (with_reducible exact⟨s0,s1⟩)
    | go_keep)
   (first
    | (go_at_call 73;refine HLA.out.mono ?_;rintro e w3 ⟨rfl,f3,C3⟩;have f3':Fr [H.gc] w2 w3:=(Fr.refl [H.gc] w2).drew.trans f3 (fun y hy => .inl hy);have m3:=M2.out.setc f3' C3;have d3:=scells m3.blk;have s0:w3.cell? ⟨H.g,17,none⟩=some (ptr H.gc):=d3.c17;have s1:w3.cell? ⟨H.g,21,none⟩=some (.int .i64 (x.now+1)):=d3.c21;have M3:=hI m3;have F3:=hI f3';clear m3 d3 f3 f3' C3))
  have F3':Hid (Fr H.own w w3):=hI ((F2.out.mono (by simp [Hd.own])).trans (F3.out.mono (O':=H.own) (by simp [Hd.own])) (fun y hy => .inl hy))
  have ok3:=late_ok OK.out hn
  have hw3:=HRW.out (by trivial)
  generalize hlv:Rto.lateV x.clk (x.now+1)=lv at *
  obtain⟨ck,mo,er⟩:=lv
  dsimp only at M3 ok3
  have OK3:=hI ok3
  have HW3:=hI hw3
  clear d17 d21 s0 s1 HLA ok3 hw3 hlv HRW F3 hw1 n0
  have c22:=(scells M3.out.blk).c22
  have z22:=M3.out.blk.frozen 22
  have hlt3:=M3.out.blk.lt
  dsimp only
  rcases Bool.eq_false_or_eq_true mo with rfl|rfl
  ·go_upto_region 11 with fail
   have m4:=M3.out.settimed 0
   have f4:Fr [H.g] w3 (w3.setCell ⟨H.g,22,none⟩ (.int .i64 0)):=(Fr.refl [H.g] w3).setCell (p:=⟨H.g,22,none⟩) (.inl (by simp)) _
   generalize w3.setCell ⟨H.g,22,none⟩ (.int .i64 0)=w4 at *
   have F4:Hid (Fr H.own w w4):=hI (F3'.out.trans (f4.mono (O':=H.own) (by simp [Hd.own])) (fun y hy => .inl hy))
   have hag:=again_si m4 OK3.out.2 HW3.out
   have hv:=V1.out (by trivial) (by trivial)
   have hokA:=Ok.again OK3.out.2 HW3.out
   dsimp only at hag hv hokA
   generalize againV { x with now:=x.now+1,clk:=ck,timed:=0 }=ag at *
   obtain⟨y,p⟩:=ag
   dsimp only at hag hv hokA
   have HAG:=hI hag
   have HV:=hI hv
   have OKA:=hI hokA
   clear hag hv hokA m4 f4 c22 z22
   go_wp2_with fail
   refine HAG.out.mono ?_
   rintro e w5 ⟨S5,A5,c5,rfl,x5,by5,m5,f5⟩
   have X5:=hI x5
   have BY5:=hI by5
   have M5:=hI m5
   have F5:=hI (f5.mono (O':=H.own) (by simp [Hd.own]))
   have m6:=m5.fr ((Fr.refl [] w5).alloc (.cells #[.int .i64 p.flags, .int .u32 p.seq, .int .u32 p.ack, .int .u16 p.win, .slice A5 p.d.length c5] 49))
   have M6:=hI m6
   clear x5 by5 m5 f5 m6
   go_wp2_with fail
   refine (rests_si M6.out OKA.out.s.hc (some ⟨w5.heap.size,0,none⟩) 1 1).mono ?_
   rintro e w7 ⟨rfl,m7,f7⟩
   have hfin:=lpost_ag_rests F4.out X5.out BY5.out M5.out F5.out m7 f7
   have HF:=hI hfin
   clear hfin m7 f7
   go_wp2_with fail
   go_ret2
   rw [HV.out]
   exact⟨_,rfl,HF.out⟩
  ·have hv:=V2.out (by trivial) (by trivial)
   have HV:=hI hv
   clear hv
   go_wp2_with fail
   refine (done_si M3.out true).mono ?_
   rintro e w4 ⟨rfl,m4,f4⟩
   have M4:=hI m4
   have F4:Hid (Fr H.own w w4):=hI (F3'.out.trans (f4.mono (O':=H.own) (by simp [Hd.own])) (fun y hy => .inl hy))
   clear m4 f4
   go_wp2_with fail
   refine (rests_si M4.out (OK3.out.1.done true).s.hc none 0 0).mono ?_
   rintro e w5 ⟨rfl,m5,f5⟩
   have M5:=hI m5
   have F5:Hid (Fr H.own w w5):=hI (F4.out.trans (f5.mono (O':=H.own) (by simp [Hd.own])) (fun y hy => .inl hy))
   clear m5 f5
   go_wp2_with fail
   go_ret2
   rw [HV.out]
   exact c_nil M5.out F5.out
 ·go_wp2_with fail
  go_ret2
  rw [V0.out (by trivial)]
  exact c_nil M2.out (F2.out.mono (by simp [Hd.own]))
end Go.Proofs.YtmgdbbbdhkfdmaaGreat
