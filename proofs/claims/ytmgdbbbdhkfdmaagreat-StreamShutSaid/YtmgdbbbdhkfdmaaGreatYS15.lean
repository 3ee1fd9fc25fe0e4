import Derived.Test.YtmgdbbbdhkfdmaaGreatYS11
import Derived.Test.YtmgdbbbdhkfdmaaGreatYS12
import Derived.Test.YtmgdbbbdhkfdmaaGreatYS14
import Derived.Deep.DeepCutAuto
set_option linter.unusedSimpArgs false
set_option linter.unusedVariables false
namespace Go.Proofs.YtmgdbbbdhkfdmaaGreat
set_option maxRecDepth 100000
open Go.RowKit Go.Deep
theorem ref_any(seq near:Int)(w:World)(h0:0≤seq)(h1:seq<4294967296)(h2:0≤near) :
  Calls Tryz.prog 134 #[.int .u32 seq, .int .i64 near] w fun e w'=>e = .returned (.tuple #[.int .i64 (Sne.nearV seq near).1, .int .i64 (Sne.nearV seq near).2])∧w=w':=by
 by_cases h:near≤4611686018427387904
 ·exact Sne.ref_yes seq near w h0 h1 h2 h
 ·exact Sne.ref_no seq near w (.inr (by omega))
theorem fin_eq(h:Hp)(hi:Inv h):(finI h.fin == h.next)=isFin h:=by
 have:=hi.n0
 unfold isFin finI
 cases h.fin with
 | none=>simp;omega
 | some a=>rfl
def EDPost(S:Nat→Prop)(w:World)(y:St)(av:Value)(e:Ending)(w':World):Prop:=
 ∃ S' uv kv,e = .returned (agE y av uv kv)∧Ext w S S'∧RE S' w' y av uv kv∧Fr [] w w'
theorem RPx.end_{S:Nat→Prop}{w:World}{kv:Value}{h:Hp}{L:List (Pc × Value)}(r:RPx S w kv h L)(a:Int):RPx S w kv (endV h a).1 L:=
 ⟨r.kp,by rw [(endV_same h a).2];exact r.kept,r.offk,r.pub⟩
theorem RE.heap_{S:Nat→Prop}{w:World}{x:St}{av uv kv kv':Value}{h:Hp}{L:List (Pc × Value)}(m:RE S w x av uv kv)(r:RPx S w kv' h L)(b:Bool):RE S w { x with heap:=h,ended:=b } av uv kv':=⟨m.ba,m.bu,L,r⟩
theorem edata_post{S S5:Nat→Prop}{w w5 W:World}{x:St}{av uv kv5:Value}{h2:Hp}{t:List Int}{A7:Option Addr}{n c7:Nat}{O:List Nat}{e0:Bool}(m5:RE S5 w5 { x with heap:=h2,ended:=e0 } av uv kv5)(x5:Ext w S S5)(z5:w.heap.size≤w5.heap.size)(F:Fr O w5 W)(hO:∀ b∈O,¬ S5 b)
  (own:W.ownsRow 0 5 1 (.slice A7 n c7) n (byts t)) (n7:∀ b,(Value.slice A7 n c7).ownBlock=some b→w5.heap.size≤b) (hn:n=t.length) (b:Bool):∃ S',Ext w S S'∧RE S' W { x with heap:=h2,unread:=t,ended:=b } av (.slice A7 n c7) kv5:=by
 subst hn
 have e6:Ext w5 S5 (fun b=>S5 b∨(Value.slice A7 t.length c7).ownBlock=some b):=⟨fun b h => .inl h,fun b h=>h.imp id (n7 b)⟩
 have hz:=F.size
 have m6:=m5.ext F hO (S':=fun b=>S5 b∨(Value.slice A7 t.length c7).ownBlock=some b) (fun b h => .inl h) (fun b hb=>by
  rcases hb with hb|hb
  ·have:=m5.pub b hb;omega
  ·exact own_lt own hb)
 exact⟨_,x5.trans z5 e6,⟨m6.ba,Sl.of_own own (fun b hb => .inr hb),m6.hp⟩⟩
set_option maxHeartbeats 16000000 in
theorem edata{S:Nat→Prop}{w:World}{x:St}{av uv kv:Value}(m:RE S w x av uv kv)(ok:OkS x)(ou:OkU x)(p:Prt)(k0:0≤p.seq)(k1:p.seq<4294967296)(hdl:p.d.length≤100)(DA:Option Addr)(dc:Nat)(T:Nat→Prop)(hd:Byt T w (.slice DA p.d.length dc) p.d)(hT:∀ b,T b→b<w.heap.size) :
  Calls Tryz.prog 123 #[agE x av uv kv,agP p (.slice DA p.d.length dc), .bool (has p.flags 4)] w (EDPost S w (dataV x p) av):=by
 have o1:=m.cells1
 have o2:=m.cells2
 obtain⟨⟨aA,ac,rfl,hn1,hn2⟩,⟨uA,uc,rfl,hn3,hn4⟩,_⟩:=m.forms
 obtain⟨pf,ps,pk,pw,pd⟩:=p
 dsimp only at k0 k1 hd hdl ⊢
 have i0:=ou.p0
 have i1:=ou.p1
 have hu:=ok.hu
 have q0:=ok.hi.n0
 have q1:=ok.hi.n1
 have v1:IntKind.i64.wrap x.peer=x.peer:=IntWalk.i64_in _ (by omega)
 have v2:IntKind.i64.wrap (4294967296 - x.peer)=4294967296 - x.peer:=IntWalk.i64_in _ (by omega)
 have v3:IntKind.i64.wrap (4294967296 - x.peer - 1)=4294967296 - x.peer - 1:=IntWalk.i64_in _ (by omega)
 have v4:IntKind.i64.wrap (4294967296 - x.peer - 1+4294967296)=4294967296 - x.peer - 1+4294967296:=IntWalk.i64_in _ (by omega)
 have hpb:=place_bd ps x.peer x.heap.next q0
 have v5:IntKind.i64.wrap (placeV ps x.peer x.heap.next+(pd.length:Int))=placeV ps x.peer x.heap.next+pd.length:=IntWalk.i64_in _ (by omega)
 have v6:IntKind.i64.wrap (1024 - (x.unread.length:Int))=1024 - x.unread.length:=IntWalk.i64_in _ (by omega)
 have hq:add32 ps (4294967296 - x.peer - 1+4294967296)=(ps - x.peer - 1) % 4294967296:=by unfold add32;omega
 have hadd:=fun W=>eadd_any ps (4294967296 - x.peer - 1+4294967296) W k0 k1 (by omega) (by omega)
 rw [hq] at hadd
 have hne:=fun W=>ref_any ((ps - x.peer - 1) % 4294967296) x.heap.next W (by omega) (by omega) q0
 have hpl:(Sne.nearV ((ps - x.peer - 1) % 4294967296) x.heap.next).1=placeV ps x.peer x.heap.next:=rfl
 rw [hpl] at hne
 obtain⟨LL,r0⟩:=m.hp
 have hen:=fun W (f:Fr [] w W)=>rends (r0.ext f (by simp) (S':=S) (fun _ h=>h) (fun b hb=>Nat.lt_of_lt_of_le (m.pub b hb) f.size)) ok.hi (placeV ps x.peer x.heap.next+pd.length)
 have hdv:=dataV_eq x ⟨pf,ps,pk,pw,pd⟩
 have hr1:RPx S w kv (data1V x ⟨pf,ps,pk,pw,pd⟩) LL:=by unfold data1V;split;exact r0.end_ _;exact r0
 have hi1:Inv (data1V x ⟨pf,ps,pk,pw,pd⟩):=by unfold data1V;split;exact end_inv ok.hi _;exact ok.hi
 have hd1v:data1V x ⟨pf,ps,pk,pw,pd⟩=if has pf 4 then (endV x.heap (placeV ps x.peer x.heap.next+pd.length)).1 else x.heap:=rfl
 have hnx:(data1V x ⟨pf,ps,pk,pw,pd⟩).next=x.heap.next:=(data1_same x _).1
 have hpt:=fun W (f:Fr [] w W)=>rput_any (hr1.ext f (by simp) (S':=S) (fun _ h=>h) (fun b hb=>Nat.lt_of_lt_of_le (m.pub b hb) f.size)) hi1 (placeV ps x.peer x.heap.next) _ _ T (hd.fr f (by simp)) (by omega)
 have hi2:Inv (putV (data1V x ⟨pf,ps,pk,pw,pd⟩) (placeV ps x.peer x.heap.next) pd).1:=put_inv hi1 _ _
 have hout:(putV (data1V x ⟨pf,ps,pk,pw,pd⟩) (placeV ps x.peer x.heap.next) pd).2.1.length≤5000:=by
  have h2:=put_out (data1V x ⟨pf,ps,pk,pw,pd⟩) (placeV ps x.peer x.heap.next) pd
  have h3:=sum_le _ hi1
  omega
 obtain⟨l0,b0⟩:=Lo.start2 w (arE x (.slice aA x.all.length ac) (.slice uA x.unread.length uc) kv) #[.int .i64 pf, .int .u32 ps, .int .u32 pk, .int .u16 pw, .slice DA pd.length dc]
 dsimp only at hdv hnx
 generalize dataV x ⟨pf,ps,pk,pw,pd⟩=yv at *
 generalize hh1:data1V x ⟨pf,ps,pk,pw,pd⟩=h1 at *
 clear hh1
 generalize placeV ps x.peer x.heap.next=a at *
 generalize putV h1 a pd=pt at *
 obtain⟨h2,out,e2⟩:=pt
 dsimp only at hdv hpt hi2 hout
 have v7:IntKind.i64.wrap (a+(pd.length:Int) - h1.next)=a+pd.length - h1.next:=IntWalk.i64_in _ (by omega)
 have hf1:=fin_eq h1 hi1
 have hf2:=fin_eq h2 hi2
 have hf1':decide (finI h1.fin=h1.next)=isFin h1:=by rw [← hf1];simp [BEq.beq]
 have hf2':decide (finI h2.fin=h2.next)=isFin h2:=by rw [← hf2];simp [BEq.beq]
 have hv1:(0<pd.length∧a+pd.length - h1.next≤1024 - x.unread.length)→yv={ x with heap:=h2,unread:=x.unread++out,ended:=isFin h2 }:=fun h=>by rw [hdv,if_pos h]
 have hv0:¬ (0<pd.length∧a+pd.length - h1.next≤1024 - x.unread.length)→yv={ x with heap:=h1,ended:=isFin h1 }:=fun h=>by rw [hdv,if_neg h]
 generalize (Sne.nearV ((ps - x.peer - 1) % 4294967296) x.heap.next).2=ne2 at *
 generalize (ps - x.peer - 1) % 4294967296=pz at *
 have HAd:=hI hadd
 have HNe:=hI hne
 have HEn:=hI hen
 have HPt:=hI hpt
 have HV1:=hI hv1
 have HV0:=hI hv0
 have HD1:=hI hd1v
 have HR1:=hI hr1
 have HOUT:=hI hout
 have HNX:=hI hnx
 have L0:=hI l0
 have B0:=hI b0
 have M:=hI m
 clear hadd hne hen hpt hdv hv1 hv0 hd1v hr1 hi1 hi2 hout l0 b0 m r0 ok ou i0 i1 q0 q1 hq hpl hpb hnx hd hT
 go_enter Tryz.func123,Tryz.ntmps123
 go_upto_region 1 with fail
 generalize ((w.alloc (.cells (arE x (.slice aA x.all.length ac) (.slice uA x.unread.length uc) kv) 41)).alloc (.cells #[.int .i64 pf, .int .u32 ps, .int .u32 pk, .int .u16 pw, .slice DA pd.length dc] 49)).alloc (.cells endZ 41)=w1 at *
 have c:=ecells L0.out.s
 have u1:=Grew.cell c.c1
 have u22:=Grew.cell c.c22
 have u2:∀ p:Grew w1,p.W.cell? ⟨w.heap.size+1,1,none⟩=some (.int .u32 ps):=Grew.cell (by simpa using B0.out.cell 1)
 have hA':Hid (∀ p:Grew w1,Calls Tryz.prog 103 #[.int .u32 ps, .int .i64 (4294967296 - x.peer - 1+4294967296)] p.W fun e w'=>e = .returned (.int .u32 pz)∧∃ q:Grew w1,w'=q.W):=hI (fun p=>grew_same (HAd.out p.W))
 have hN':Hid (∀ p:Grew w1,Calls Tryz.prog 134 #[.int .u32 pz, .int .i64 x.heap.next] p.W fun e w'=>e = .returned (.tuple #[.int .i64 a, .int .i64 ne2])∧∃ q:Grew w1,w'=q.W):=hI (fun p=>grew_same (HNe.out p.W))
 clear c
 refine wp_region_grew (by kernel_rfl) (by kernel_rfl) ?_
 repeat (go_big_quiet_step (first|(go_at_call 103;exact hA'.out _)|(go_at_call 134;exact hN'.out _)))
 refine wpQuiet_nil ?_
 intro W1 f1
 have L1:Hid (∀ W,Fr [] W1 W→Lo w W w.heap.size (w.heap.size+1+1) (arE x (.slice aA x.all.length ac) (.slice uA x.unread.length uc) kv)):=hI (fun W f=>(L0.out.grow f1).grow f)
 have B1:Hid (∀ W,Fr [] W1 W→Blk W (w.heap.size+1) 49 #[.int .i64 pf, .int .u32 ps, .int .u32 pk, .int .u16 pw, .slice DA pd.length dc]):=hI (fun W f=>(B0.out.fr f1 (by simp)).fr f (by simp))
 clear u1 u22 u2 hA' hN' f1 L0 B0
 have d4:W1.cell? ⟨w.heap.size+1,4,none⟩=some (.slice DA pd.length dc):=by simpa using (B1.out _ (Fr.refl [] W1)).cell 4
 generalize hfl:has pf 4=fl at *
 clear hfl
 rcases Bool.eq_false_or_eq_true fl with rfl|rfl
 ·have he:=HD1.out
  rw [if_pos rfl] at he
  rw [← he] at HEn
  clear he HD1
  go_upto_region 4 with fail
  clear d4
  go_upto_region 5 with (first
   | ((with_reducible refine gate_load 39 (.tmp 36) ?_);refine wpList_load_in rfl 39 (.tmp 36) rfl w.heap.size 21 41 (arE x (.slice aA x.all.length ac) (.slice uA x.unread.length uc) kv) (arH x.heap kv) _ rfl (L1.out _ (by first|exact Fr.refl _ _|assumption)).s rfl Tryz.underlying39 rfl (by kernel_rfl) ?_)
   | (go_at_call 136;refine (HEn.out _ (L1.out _ (by first|exact Fr.refl _ _|assumption)).f).mono ?_;rintro e w3 ⟨rfl,f3⟩;have f3':Fr [] W1 w3:=Fr.trans (show Fr [] W1 _ by first|exact Fr.refl _ _|assumption) f3 (by simp))
   | ((with_reducible refine gate_store 39 (.tmp 10) ?_);refine wpList_store_blk rfl 39 (.tmp 10) (.tmp 42) rfl w3.heap.size 39 #[.int .i64 0, .int .i64 0, .slice none 0 0, .int .i64 0] (arH h1 kv) rfl rfl (Blk.new w3 39 #[.int .i64 0, .int .i64 0, .slice none 0 0, .int .i64 0]) rfl (by kernel_rfl) (by first|exact o1.out _|exact o2.out _|simp [Value.oneCell']) ?_;intro w4 B4 F4))
  have l3:=L1.out _ f3'
  have l4:Lo w w4 w.heap.size (w.heap.size+1+1) (arE x (.slice aA x.all.length ac) (.slice uA x.unread.length uc) kv):=(l3.grow ((Fr.refl [] w3).alloc (.cells #[.int .i64 0, .int .i64 0, .slice none 0 0, .int .i64 0] 39))).far F4 (by have:=l3.f.size;omega) (by have:=l3.s.lt;omega) (by have:=l3.r.lt;omega)
  have b4:Blk w4 (w.heap.size+1) 49 #[.int .i64 pf, .int .u32 ps, .int .u32 pk, .int .u16 pw, .slice DA pd.length dc]:=((B1.out _ f3').fr ((Fr.refl [] w3).alloc (.cells #[.int .i64 0, .int .i64 0, .slice none 0 0, .int .i64 0] 39)) (by simp)).fr F4 (by have:=l3.r.lt;simp;omega)
  have n4:w.heap.size+1+1<w3.heap.size:=l3.r.lt
  generalize w3.heap.size=b10 at *
  have L4:=hI l4
  have V4:=hI B4
  have P4:=hI b4
  clear l3 l4 b4 B4 F4 f3 f3'
  go_upto_region 6 with (first
   | ((with_reducible refine gate_load 39 (.tmp 10) ?_);refine wpList_load_blk rfl 39 (.tmp 10) rfl b10 39 (arH h1 kv) _ rfl V4.out Tryz.underlying39 rfl (by kernel_rfl) ?_)
   | ((with_reducible refine gate_store 39 (.tmp 45) ?_);refine wpList_store_in rfl 39 (.tmp 45) (.tmp 44) rfl w.heap.size 21 41 (arE x (.slice aA x.all.length ac) (.slice uA x.unread.length uc) kv) (arH h1 kv) (arE { x with heap:=h1 } (.slice aA x.all.length ac) (.slice uA x.unread.length uc) kv) rfl rfl L4.out.s (by simp) (by kernel_rfl) (by first|exact o1.out _|exact o2.out _|simp [Value.oneCell']) (heap_in _ _ _ _ _ _) ?_;intro wh Bh Fh))
  have LH:Hid (∀ W,Fr [] wh W→Lo w W w.heap.size (w.heap.size+1+1) (arE { x with heap:=h1 } (.slice aA x.all.length ac) (.slice uA x.unread.length uc) kv)):=hI (fun W f=>(L4.out.set Fh Bh).grow f)
  have PH:Hid (∀ W,Fr [] wh W→Blk W (w.heap.size+1) 49 #[.int .i64 pf, .int .u32 ps, .int .u32 pk, .int .u16 pw, .slice DA pd.length dc]):=hI (fun W f=>(P4.out.fr Fh (by simp)).fr f (by simp))
  clear Fh Bh L4 V4 P4 L1 B1
  have d4:wh.cell? ⟨w.heap.size+1,4,none⟩=some (.slice DA pd.length dc):=by simpa using (PH.out _ (Fr.refl [] wh)).cell 4
  have c22:wh.cell? ⟨w.heap.size,22,none⟩=some (.int .i64 h1.next):=(LH.out _ (Fr.refl [] wh)).s.cell 22
  have c5:wh.cell? ⟨w.heap.size,5,none⟩=some (.slice uA x.unread.length uc):=(LH.out _ (Fr.refl [] wh)).s.cell 5
  by_cases hno:0<pd.length∧a+pd.length - h1.next≤1024 - x.unread.length
  ·have HNO:=hI hno
   obtain⟨t1,t2⟩:=hno
   have hd1:decide (0<(pd.length:Int))=true:=decide_eq_true (by omega)
   have hd2:decide ((pd.length:Int) > 0)=true:=decide_eq_true (by omega)
   have hd3:decide (a+(pd.length:Int) - h1.next≤1024 - (x.unread.length:Int))=true:=decide_eq_true (by omega)
   go_upto_region 7 with fail
   clear c22 c5 hd1 hd2 hd3 t1 t2
   have i0p:=info_parts info_u8
   obtain⟨i0,hi0,hz0,hz1,hz2⟩:=i0p
   go_upto_region 8 with (first
      | ((with_reducible refine gate_load 39 (.tmp 63) ?_);refine wpList_load_in rfl 39 (.tmp 63) rfl w.heap.size 21 41 (arE { x with heap:=h1 } (.slice aA x.all.length ac) (.slice uA x.unread.length uc) kv) (arH h1 kv) _ rfl (LH.out _ (by first|exact Fr.refl _ _|assumption)).s rfl Tryz.underlying39 rfl (by kernel_rfl) ?_)
      | (go_at_call 137;refine (HPt.out _ (LH.out _ (by first|exact Fr.refl _ _|assumption)).f).mono ?_;rintro e w5 ⟨S5,kv5,A5,c5,L5,rfl,x5,by5,r5,f5⟩;have f5':Fr [] wh w5:=Fr.trans (show Fr [] wh _ by first|exact Fr.refl _ _|assumption) f5 (by simp);have ns5:∀ b,w.heap.size≤b→b<wh.heap.size→¬ S5 b:=fun b h1 h2 hs=>(x5.2 b hs).elim (fun h=>by have:=M.out.pub b h;omega) (fun h=>by have:=(show Fr [] wh _ by first|exact Fr.refl _ _|assumption).size;omega);have x5':Ext w S S5:=ext_up x5 (LH.out _ (by first|exact Fr.refl _ _|assumption)).f.size;obtain⟨KA5,KC5,rfl,_,_⟩:=r5.kp.form;have X5:=hI x5';have BY5:=hI by5;have R5:=hI r5;have NS5:=hI ns5;clear x5 x5' by5 r5 f5 ns5)
      | ((with_reducible refine gate_store 39 (.tmp 12) ?_);refine wpList_store_blk rfl 39 (.tmp 12) (.tmp 69) rfl w5.heap.size 39 #[.int .i64 0, .int .i64 0, .slice none 0 0, .int .i64 0] (arH h2 (.slice KA5 L5.length KC5)) rfl rfl (Blk.new w5 39 #[.int .i64 0, .int .i64 0, .slice none 0 0, .int .i64 0]) rfl (by kernel_rfl) (by first|exact o1.out _|exact o2.out _|simp [Value.oneCell']) ?_;intro w6 B6 F6))
   have l5:=LH.out _ f5'
   have l6:Lo w w6 w.heap.size (w.heap.size+1+1) (arE { x with heap:=h1 } (.slice aA x.all.length ac) (.slice uA x.unread.length uc) kv):=(l5.grow ((Fr.refl [] w5).alloc (.cells #[.int .i64 0, .int .i64 0, .slice none 0 0, .int .i64 0] 39))).far F6 (by have:=l5.f.size;omega) (by have:=l5.s.lt;omega) (by have:=l5.r.lt;omega)
   have n6:w.heap.size+1+1<w5.heap.size:=l5.r.lt
   have F56:Fr [] w5 w6:=((Fr.refl [] w5).alloc _).trans F6 (fun y hy => .inr (by simp at hy;omega))
   have ZW5:Hid (w.heap.size≤w5.heap.size):=hI l5.f.size
   have M5:Hid (RE S5 w5 { x with heap:=h2,ended:=x.ended } (.slice aA x.all.length ac) (.slice uA x.unread.length uc) (.slice KA5 L5.length KC5)):=hI (by
    have m5:=M.out.ext l5.f (by simp) (S':=S5) X5.out.1 R5.out.pub
    exact⟨m5.ba,m5.bu,L5,R5.out⟩)
   have NSO:Hid (∀ b∈[w.heap.size,w.heap.size+1+1],¬ S5 b):=hI (fun b hb=>by
    have h1:=(LH.out _ (Fr.refl [] wh)).s.lt
    have h2:=(LH.out _ (Fr.refl [] wh)).r.lt
    simp at hb
    rcases hb with rfl|rfl
    ·exact NS5.out _ (by omega) h1
    ·exact NS5.out _ (by omega) h2)
   have L6:=hI l6
   have V6:=hI B6
   clear l5 l6 B6 F6 f5' R5
   go_upto_region 9 with (first
      | ((with_reducible refine gate_load 39 (.tmp 12) ?_);refine wpList_load_blk rfl 39 (.tmp 12) rfl w5.heap.size 39 (arH h2 (.slice KA5 L5.length KC5)) _ rfl V6.out Tryz.underlying39 rfl (by kernel_rfl) ?_)
      | ((with_reducible refine gate_store 39 (.tmp 73) ?_);refine wpList_store_in rfl 39 (.tmp 73) (.tmp 72) rfl w.heap.size 21 41 (arE { x with heap:=h1 } (.slice aA x.all.length ac) (.slice uA x.unread.length uc) kv) (arH h2 (.slice KA5 L5.length KC5)) (arE { x with heap:=h2 } (.slice aA x.all.length ac) (.slice uA x.unread.length uc) (.slice KA5 L5.length KC5)) rfl rfl L6.out.s (by simp) (by kernel_rfl) (by first|exact o1.out _|exact o2.out _|simp [Value.oneCell']) (heap_in _ _ _ _ _ _) ?_;intro w7 B7 F7))
   have l7:Lo w w7 w.heap.size (w.heap.size+1+1) (arE { x with heap:=h2 } (.slice aA x.all.length ac) (.slice uA x.unread.length uc) (.slice KA5 L5.length KC5)):=L6.out.set F7 B7
   have F57:Fr [w.heap.size] w5 w7:=(F56.mono (by simp)).trans F7 (fun y hy => .inl hy)
   have L7:Hid (∀ W,Fr [] w7 W→Lo w W w.heap.size (w.heap.size+1+1) (arE { x with heap:=h2 } (.slice aA x.all.length ac) (.slice uA x.unread.length uc) (.slice KA5 L5.length KC5))):=hI (fun W f=>l7.grow f)
   have FH57:=hI F57
   have BU7:Hid (∀ W,Fr [] w7 W→Byt S5 W (.slice uA x.unread.length uc) x.unread):=hI (fun W f=>(M5.out.bu.fr F57 (fun b hb=>NSO.out b (by simp at hb;simp [hb]))).fr f (by simp))
   have BO7:Hid (∀ W,Fr [] w7 W→Byt S5 W (.slice A5 out.length c5) out):=hI (fun W f=>(BY5.out.fr F57 (fun b hb=>NSO.out b (by simp at hb;simp [hb]))).fr f (by simp))
   clear l7 F57 F7 B7 L6 V6 F56
   have HB1:Hid (0+x.unread.length≤maxLen):=hI (by unfold maxLen;omega)
   have HB2:Hid ((0+x.unread.length) * 1≤140737488355328):=hI (by omega)
   have HB3:Hid (x.unread.length+out.length≤maxLen):=hI (by have:=HOUT.out;unfold maxLen;omega)
   have HB4:Hid ((x.unread.length+out.length) * 1≤140737488355328):=hI (by have:=HOUT.out;omega)
   have c5':w7.cell? ⟨w.heap.size,5,none⟩=some (.slice uA x.unread.length uc):=(L7.out _ (Fr.refl [] w7)).s.cell 5
   go_upto_region 10 with (first
      | (at_builtin;refine wpList_append_sl _ rfl (.const (.slice none 0 0)) (.tmp 75) 30 rfl 5 i0 (.int .u8 0) 1 1 Tryz.underlying30 hi0 hz0 hz1 hz2 rfl (by decide) (.slice none 0 0) 0 [] rfl (World.ownsRow_nil _ 0 5 1) S5 (.slice uA x.unread.length uc) x.unread.length (byts x.unread) rfl (BU7.out _ (Fr.refl [] w7)) (byts_one _) HB1.out HB2.out x.unread.length (by simp) ?_;intro A6 c6 w8 h8 g8 k8;have G8:Fr [] w7 w8:=g8.mono (by simp [ob,Value.ownBlock]);have H8:=hI h8;have K8:Hid (∀ b,(Value.slice A6 x.unread.length c6).ownBlock=some b→w7.heap.size≤b∧b<w8.heap.size):=hI (fun b hb=>by have:=k8 b hb;simp [Value.ownBlock] at this;exact this);clear h8 g8 k8)
      | (at_builtin;refine wpList_append_sl _ rfl (.tmp 76) (.tmp 77) 30 rfl 5 i0 (.int .u8 0) 1 1 Tryz.underlying30 hi0 hz0 hz1 hz2 rfl (by decide) (.slice A6 x.unread.length c6) x.unread.length ([]++byts x.unread) rfl H8.out S5 (.slice A5 out.length c5) out.length (byts out) rfl (BO7.out _ G8) (byts_one _) HB3.out HB4.out (x.unread.length+out.length) rfl ?_;intro A7 c7 w9 h9 g9 k9;have l9:Lo w w9 w.heap.size (w.heap.size+1+1) (arE { x with heap:=h2 } (.slice aA x.all.length ac) (.slice uA x.unread.length uc) (.slice KA5 L5.length KC5)):=⟨((L7.out _ G8).f).trans g9 (fun y hy => .inr (by have h1:=K8.out y (mem_ob.1 hy);have h2:=(L7.out _ (Fr.refl [] w7)).f.size;omega)),(L7.out _ G8).s.fr g9 (fun hm=>by have h1:=K8.out _ (mem_ob.1 hm);have h2:=(L7.out _ (Fr.refl [] w7)).s.lt;omega),(L7.out _ G8).r.fr g9 (fun hm=>by have h1:=K8.out _ (mem_ob.1 hm);have h2:=(L7.out _ (Fr.refl [] w7)).r.lt;omega),Nat.le_refl _,by omega,by omega⟩;have c9:w9.cell? ⟨w.heap.size,5,none⟩=some (.slice uA x.unread.length uc):=l9.s.cell 5;have z9:=l9.s.frozen 5;have hl9:=l9.s.lt;have G9:Hid (Fr [] w7 w9):=hI (G8.trans g9 (fun y hy => .inr (by have h1:=K8.out y (mem_ob.1 hy);omega)));have H9:=hI h9;have K9:Hid (∀ b,(Value.slice A7 (x.unread.length+out.length) c7).ownBlock=some b→w7.heap.size≤b∧b<w9.heap.size):=hI (fun b hb=>(k9 b hb).elim (fun h=>by have h1:=K8.out b h;have h2:=g9.size;omega) (fun h=>by have h2:=G8.size;omega));have L9:=hI l9;clear h9 g9 k9 l9))
   have la:Lo w (w9.setCell ⟨w.heap.size,5,none⟩ (.slice A7 (x.unread.length+out.length) c7)) w.heap.size (w.heap.size+1+1) (arE { x with heap:=h2,unread:=x.unread++out } (.slice aA x.all.length ac) (.slice A7 (x.unread.length+out.length) c7) (.slice KA5 L5.length KC5)):=by
    have hh:=L9.out.cell 5 (.slice A7 (x.unread.length+out.length) c7)
    simp only [arE,zqA,zqB,zqC] at hh ⊢
    exact hh
   have FA:Hid (Fr [w.heap.size] w9 (w9.setCell ⟨w.heap.size,5,none⟩ (.slice A7 (x.unread.length+out.length) c7))):=hI ((Fr.refl [w.heap.size] w9).setCell (p:=⟨w.heap.size,5,none⟩) (.inl (by simp)) _)
   generalize w9.setCell ⟨w.heap.size,5,none⟩ (.slice A7 (x.unread.length+out.length) c7)=wa at *
   have c22:wa.cell? ⟨w.heap.size,22,none⟩=some (.int .i64 h2.next):=la.s.cell 22
   have c24:wa.cell? ⟨w.heap.size,24,none⟩=some (.int .i64 (finI h2.fin)):=la.s.cell 24
   have c28:wa.cell? ⟨w.heap.size,28,none⟩=some (.bool x.ended):=la.s.cell 28
   have z28:=la.s.frozen 28
   have hlz:=la.s.lt
   have LA:=hI la
   clear la c9 z9 hl9 c5'
   go_upto_region 11 with fail
   have ln:Lo w (wa.setCell ⟨w.heap.size,28,none⟩ (.bool (isFin h2))) w.heap.size (w.heap.size+1+1) (arE { x with heap:=h2,unread:=x.unread++out,ended:=isFin h2 } (.slice aA x.all.length ac) (.slice A7 (x.unread.length+out.length) c7) (.slice KA5 L5.length KC5)):=by
    have hh:=LA.out.cell 28 (.bool (isFin h2))
    simp only [arE,zqA,zqB,zqC] at hh ⊢
    exact hh
   have FN:Hid (Fr [w.heap.size] w9 (wa.setCell ⟨w.heap.size,28,none⟩ (.bool (isFin h2)))):=hI (FA.out.trans ((Fr.refl [w.heap.size] wa).setCell (p:=⟨w.heap.size,28,none⟩) (.inl (by simp)) (.bool (isFin h2))) (fun y hy => .inl hy))
   generalize wa.setCell ⟨w.heap.size,28,none⟩ (.bool (isFin h2))=wn at *
   have LN:Hid (∀ W,Fr [] wn W→Lo w W w.heap.size (w.heap.size+1+1) (arE { x with heap:=h2,unread:=x.unread++out,ended:=isFin h2 } (.slice aA x.all.length ac) (.slice A7 (x.unread.length+out.length) c7) (.slice KA5 L5.length KC5))):=hI (fun W f=>ln.grow f)
   have F5N:Hid (Fr [w.heap.size] w5 wn):=hI ((FH57.out.trans G9.out (by simp)).trans FN.out (fun y hy => .inl hy))
   clear ln c22 c24 c28 z28 hlz FA
   try dsimp only [Act.put]
   go_cut [] (fun wx=>Blk wx (w.heap.size+1+1) 41 (arE { x with heap:=h2,unread:=x.unread++out,ended:=isFin h2 } (.slice aA x.all.length ac) (.slice A7 (x.unread.length+out.length) c7) (.slice KA5 L5.length KC5))∧Fr [w.heap.size+1+1] wn wx)
   case first=>
    go_wp2_with (first
      | ((with_reducible refine gate_load 41 (.tmp 3) ?_);refine wpList_load_blk rfl 41 (.tmp 3) rfl w.heap.size 41 (arE { x with heap:=h2,unread:=x.unread++out,ended:=isFin h2 } (.slice aA x.all.length ac) (.slice A7 (x.unread.length+out.length) c7) (.slice KA5 L5.length KC5)) _ rfl (LN.out _ (by first|exact Fr.refl _ _|assumption)).s Tryz.underlying41 rfl (by kernel_rfl) ?_)
      | ((with_reducible refine gate_store 41 (.tmp 6) ?_);refine wpList_store_blk rfl 41 (.tmp 6) (.tmp 88) rfl (w.heap.size+1+1) 41 endZ (arE { x with heap:=h2,unread:=x.unread++out,ended:=isFin h2 } (.slice aA x.all.length ac) (.slice A7 (x.unread.length+out.length) c7) (.slice KA5 L5.length KC5)) rfl rfl (LN.out _ (by first|exact Fr.refl _ _|assumption)).r rfl (by kernel_rfl) (by first|exact o1.out _|exact o2.out _|simp [Value.oneCell']) ?_;intro wz Bz Fz))
    go_meet
    exact⟨Bz,Fz⟩
   case rest=>
    obtain⟨Bz,Fz⟩:=hcut
    have FW:=(LN.out _ (Fr.refl [] wn)).res Fz
    have F5Z:Fr [w.heap.size,w.heap.size+1+1] w5 _:=(F5N.out.mono (by simp)).trans (Fz.mono (by simp)) (fun y hy => .inl hy)
    have own9:=own_fr H9.out FN.out (fun b hb hm=>by simp at hm;subst hm;have h1:=K9.out _ hb;have h2:=(L7.out _ (Fr.refl [] w7)).s.lt;omega)
    have ownz:=own_fr own9 Fz (fun b hb hm=>by simp at hm;subst hm;have h1:=K9.out _ hb;have h2:=(L7.out _ (Fr.refl [] w7)).r.lt;omega)
    rw [List.nil_append,byts_app] at ownz
    obtain⟨S9,e9,m9⟩:=edata_post (b:=isFin h2) M5.out X5.out ZW5.out F5Z NSO.out ownz (fun b hb=>by have h1:=K9.out _ hb;have h2:=FH57.out.size;omega) (by simp)
    refine ‹∀(a:Act) (w:World),Code.wp Tryz.prog Code.ret _ a w→_› _ _ (wp_ret ?_)
    try simp only [Exit.then]
    change bodyPost Tryz.prog _ _ .ret _ _
    refine bodyPost_ret (results_c 6 41 ⟨w.heap.size+1+1,0,none⟩ _ (by rfl) (by rfl) (end_load Bz)) (by rfl) ?_
    rw [HV1.out HNO.out]
    exact⟨S9,_,_,rfl,e9,m9,FW⟩
  ·have HNO:=hI hno
   by_cases t1:0<pd.length
   ·have hd1:decide (0<(pd.length:Int))=true:=decide_eq_true (by omega)
    have hd2:decide ((pd.length:Int) > 0)=true:=decide_eq_true (by omega)
    have t2:¬ (a+(pd.length:Int) - h1.next≤1024 - (x.unread.length:Int)):=fun h=>hno ⟨t1,h⟩
    clear hno
    go_upto_region 10 with fail
    clear c22 c5 hd1 hd2 t1 t2
    have c22:wh.cell? ⟨w.heap.size,22,none⟩=some (.int .i64 h1.next):=(LH.out _ (Fr.refl [] wh)).s.cell 22
    have c24:wh.cell? ⟨w.heap.size,24,none⟩=some (.int .i64 (finI h1.fin)):=(LH.out _ (Fr.refl [] wh)).s.cell 24
    have c28:wh.cell? ⟨w.heap.size,28,none⟩=some (.bool x.ended):=(LH.out _ (Fr.refl [] wh)).s.cell 28
    have z28:=(LH.out _ (Fr.refl [] wh)).s.frozen 28
    have hlz:=(LH.out _ (Fr.refl [] wh)).s.lt
    go_upto_region 11 with fail
    have ln:Lo w (wh.setCell ⟨w.heap.size,28,none⟩ (.bool (isFin h1))) w.heap.size (w.heap.size+1+1) (arE { x with heap:=h1,ended:=isFin h1 } (.slice aA x.all.length ac) (.slice uA x.unread.length uc) kv):=by
     have hh:=(LH.out _ (Fr.refl [] wh)).cell 28 (.bool (isFin h1))
     simp only [arE,zqA,zqB,zqC] at hh ⊢
     exact hh
    generalize wh.setCell ⟨w.heap.size,28,none⟩ (.bool (isFin h1))=wn at *
    have LN:Hid (∀ W,Fr [] wn W→Lo w W w.heap.size (w.heap.size+1+1) (arE { x with heap:=h1,ended:=isFin h1 } (.slice aA x.all.length ac) (.slice uA x.unread.length uc) kv)):=hI (fun W f=>ln.grow f)
    clear ln c22 c24 c28 z28 hlz
    try dsimp only [Act.put]
    go_cut [] (fun wx=>Blk wx (w.heap.size+1+1) 41 (arE { x with heap:=h1,ended:=isFin h1 } (.slice aA x.all.length ac) (.slice uA x.unread.length uc) kv)∧Fr [] w wx)
    case first=>
     go_wp2_with (first
       | ((with_reducible refine gate_load 41 (.tmp 3) ?_);refine wpList_load_blk rfl 41 (.tmp 3) rfl w.heap.size 41 (arE { x with heap:=h1,ended:=isFin h1 } (.slice aA x.all.length ac) (.slice uA x.unread.length uc) kv) _ rfl (LN.out _ (by first|exact Fr.refl _ _|assumption)).s Tryz.underlying41 rfl (by kernel_rfl) ?_)
       | ((with_reducible refine gate_store 41 (.tmp 6) ?_);refine wpList_store_blk rfl 41 (.tmp 6) (.tmp 88) rfl (w.heap.size+1+1) 41 endZ (arE { x with heap:=h1,ended:=isFin h1 } (.slice aA x.all.length ac) (.slice uA x.unread.length uc) kv) rfl rfl (LN.out _ (by first|exact Fr.refl _ _|assumption)).r rfl (by kernel_rfl) (by first|exact o1.out _|exact o2.out _|simp [Value.oneCell']) ?_;intro wz Bz Fz))
     go_meet
     exact⟨Bz,(LN.out _ (Fr.refl [] wn)).res Fz⟩
    case rest=>
     obtain⟨Bz,Fz⟩:=hcut
     refine ‹∀(a:Act) (w:World),Code.wp Tryz.prog Code.ret _ a w→_› _ _ (wp_ret ?_)
     try simp only [Exit.then]
     change bodyPost Tryz.prog _ _ .ret _ _
     refine bodyPost_ret (results_c 6 41 ⟨(w.heap.size+1+1),0,none⟩ _ (by rfl) (by rfl) (end_load Bz)) (by rfl) ?_
     rw [HV0.out HNO.out]
     exact⟨S,_,_,rfl,Ext.refl w S,RE.ext (M.out.heap_ HR1.out _) Fz (by simp) (fun _ h=>h) (fun b hb=>Nat.lt_of_lt_of_le (M.out.pub b hb) Fz.size),Fz⟩
   ·have hd1:decide (0<(pd.length:Int))=false:=decide_eq_false (by omega)
    have hd2:decide ((pd.length:Int) > 0)=false:=decide_eq_false (by omega)
    clear hno
    go_upto_region 10 with fail
    clear c22 c5 hd1 hd2 t1
    have c22:wh.cell? ⟨w.heap.size,22,none⟩=some (.int .i64 h1.next):=(LH.out _ (Fr.refl [] wh)).s.cell 22
    have c24:wh.cell? ⟨w.heap.size,24,none⟩=some (.int .i64 (finI h1.fin)):=(LH.out _ (Fr.refl [] wh)).s.cell 24
    have c28:wh.cell? ⟨w.heap.size,28,none⟩=some (.bool x.ended):=(LH.out _ (Fr.refl [] wh)).s.cell 28
    have z28:=(LH.out _ (Fr.refl [] wh)).s.frozen 28
    have hlz:=(LH.out _ (Fr.refl [] wh)).s.lt
    go_upto_region 11 with fail
    have ln:Lo w (wh.setCell ⟨w.heap.size,28,none⟩ (.bool (isFin h1))) w.heap.size (w.heap.size+1+1) (arE { x with heap:=h1,ended:=isFin h1 } (.slice aA x.all.length ac) (.slice uA x.unread.length uc) kv):=by
     have hh:=(LH.out _ (Fr.refl [] wh)).cell 28 (.bool (isFin h1))
     simp only [arE,zqA,zqB,zqC] at hh ⊢
     exact hh
    generalize wh.setCell ⟨w.heap.size,28,none⟩ (.bool (isFin h1))=wn at *
    have LN:Hid (∀ W,Fr [] wn W→Lo w W w.heap.size (w.heap.size+1+1) (arE { x with heap:=h1,ended:=isFin h1 } (.slice aA x.all.length ac) (.slice uA x.unread.length uc) kv)):=hI (fun W f=>ln.grow f)
    clear ln c22 c24 c28 z28 hlz
    try dsimp only [Act.put]
    go_cut [] (fun wx=>Blk wx (w.heap.size+1+1) 41 (arE { x with heap:=h1,ended:=isFin h1 } (.slice aA x.all.length ac) (.slice uA x.unread.length uc) kv)∧Fr [] w wx)
    case first=>
     go_wp2_with (first
       | ((with_reducible refine gate_load 41 (.tmp 3) ?_);refine wpList_load_blk rfl 41 (.tmp 3) rfl w.heap.size 41 (arE { x with heap:=h1,ended:=isFin h1 } (.slice aA x.all.length ac) (.slice uA x.unread.length uc) kv) _ rfl (LN.out _ (by first|exact Fr.refl _ _|assumption)).s Tryz.underlying41 rfl (by kernel_rfl) ?_)
       | ((with_reducible refine gate_store 41 (.tmp 6) ?_);refine wpList_store_blk rfl 41 (.tmp 6) (.tmp 88) rfl (w.heap.size+1+1) 41 endZ (arE { x with heap:=h1,ended:=isFin h1 } (.slice aA x.all.length ac) (.slice uA x.unread.length uc) kv) rfl rfl (LN.out _ (by first|exact Fr.refl _ _|assumption)).r rfl (by kernel_rfl) (by first|exact o1.out _|exact o2.out _|simp [Value.oneCell']) ?_;intro wz Bz Fz))
     go_meet
     exact⟨Bz,(LN.out _ (Fr.refl [] wn)).res Fz⟩
    case rest=>
     obtain⟨Bz,Fz⟩:=hcut
     refine ‹∀(a:Act) (w:World),Code.wp Tryz.prog Code.ret _ a w→_› _ _ (wp_ret ?_)
     try simp only [Exit.then]
     change bodyPost Tryz.prog _ _ .ret _ _
     refine bodyPost_ret (results_c 6 41 ⟨(w.heap.size+1+1),0,none⟩ _ (by rfl) (by rfl) (end_load Bz)) (by rfl) ?_
     rw [HV0.out HNO.out]
     exact⟨S,_,_,rfl,Ext.refl w S,RE.ext (M.out.heap_ HR1.out _) Fz (by simp) (fun _ h=>h) (fun b hb=>Nat.lt_of_lt_of_le (M.out.pub b hb) Fz.size),Fz⟩
 ·have he:=HD1.out
  rw [if_neg (by simp)] at he
  subst he
  clear HEn
  go_upto_region 6 with fail
  have LH:Hid (∀ W,Fr [] W1 W→Lo w W w.heap.size (w.heap.size+1+1) (arE { x with heap:=x.heap } (.slice aA x.all.length ac) (.slice uA x.unread.length uc) kv)):=L1
  clear L1
  have c22:W1.cell? ⟨w.heap.size,22,none⟩=some (.int .i64 x.heap.next):=(LH.out _ (Fr.refl [] W1)).s.cell 22
  have c5:W1.cell? ⟨w.heap.size,5,none⟩=some (.slice uA x.unread.length uc):=(LH.out _ (Fr.refl [] W1)).s.cell 5
  by_cases hno:0<pd.length∧a+pd.length - x.heap.next≤1024 - x.unread.length
  ·have HNO:=hI hno
   obtain⟨t1,t2⟩:=hno
   have hd1:decide (0<(pd.length:Int))=true:=decide_eq_true (by omega)
   have hd2:decide ((pd.length:Int) > 0)=true:=decide_eq_true (by omega)
   have hd3:decide (a+(pd.length:Int) - x.heap.next≤1024 - (x.unread.length:Int))=true:=decide_eq_true (by omega)
   go_upto_region 7 with fail
   clear c22 c5 hd1 hd2 hd3 t1 t2
   have i0p:=info_parts info_u8
   obtain⟨i0,hi0,hz0,hz1,hz2⟩:=i0p
   go_upto_region 8 with (first
      | ((with_reducible refine gate_load 39 (.tmp 63) ?_);refine wpList_load_in rfl 39 (.tmp 63) rfl w.heap.size 21 41 (arE { x with heap:=x.heap } (.slice aA x.all.length ac) (.slice uA x.unread.length uc) kv) (arH x.heap kv) _ rfl (LH.out _ (by first|exact Fr.refl _ _|assumption)).s rfl Tryz.underlying39 rfl (by kernel_rfl) ?_)
      | (go_at_call 137;refine (HPt.out _ (LH.out _ (by first|exact Fr.refl _ _|assumption)).f).mono ?_;rintro e w5 ⟨S5,kv5,A5,c5,L5,rfl,x5,by5,r5,f5⟩;have f5':Fr [] W1 w5:=Fr.trans (show Fr [] W1 _ by first|exact Fr.refl _ _|assumption) f5 (by simp);have ns5:∀ b,w.heap.size≤b→b<W1.heap.size→¬ S5 b:=fun b h1 h2 hs=>(x5.2 b hs).elim (fun h=>by have:=M.out.pub b h;omega) (fun h=>by have:=(show Fr [] W1 _ by first|exact Fr.refl _ _|assumption).size;omega);have x5':Ext w S S5:=ext_up x5 (LH.out _ (by first|exact Fr.refl _ _|assumption)).f.size;obtain⟨KA5,KC5,rfl,_,_⟩:=r5.kp.form;have X5:=hI x5';have BY5:=hI by5;have R5:=hI r5;have NS5:=hI ns5;clear x5 x5' by5 r5 f5 ns5)
      | ((with_reducible refine gate_store 39 (.tmp 12) ?_);refine wpList_store_blk rfl 39 (.tmp 12) (.tmp 69) rfl w5.heap.size 39 #[.int .i64 0, .int .i64 0, .slice none 0 0, .int .i64 0] (arH h2 (.slice KA5 L5.length KC5)) rfl rfl (Blk.new w5 39 #[.int .i64 0, .int .i64 0, .slice none 0 0, .int .i64 0]) rfl (by kernel_rfl) (by first|exact o1.out _|exact o2.out _|simp [Value.oneCell']) ?_;intro w6 B6 F6))
   have l5:=LH.out _ f5'
   have l6:Lo w w6 w.heap.size (w.heap.size+1+1) (arE { x with heap:=x.heap } (.slice aA x.all.length ac) (.slice uA x.unread.length uc) kv):=(l5.grow ((Fr.refl [] w5).alloc (.cells #[.int .i64 0, .int .i64 0, .slice none 0 0, .int .i64 0] 39))).far F6 (by have:=l5.f.size;omega) (by have:=l5.s.lt;omega) (by have:=l5.r.lt;omega)
   have n6:w.heap.size+1+1<w5.heap.size:=l5.r.lt
   have F56:Fr [] w5 w6:=((Fr.refl [] w5).alloc _).trans F6 (fun y hy => .inr (by simp at hy;omega))
   have ZW5:Hid (w.heap.size≤w5.heap.size):=hI l5.f.size
   have M5:Hid (RE S5 w5 { x with heap:=h2,ended:=x.ended } (.slice aA x.all.length ac) (.slice uA x.unread.length uc) (.slice KA5 L5.length KC5)):=hI (by
    have m5:=M.out.ext l5.f (by simp) (S':=S5) X5.out.1 R5.out.pub
    exact⟨m5.ba,m5.bu,L5,R5.out⟩)
   have NSO:Hid (∀ b∈[w.heap.size,w.heap.size+1+1],¬ S5 b):=hI (fun b hb=>by
    have h1:=(LH.out _ (Fr.refl [] W1)).s.lt
    have h2:=(LH.out _ (Fr.refl [] W1)).r.lt
    simp at hb
    rcases hb with rfl|rfl
    ·exact NS5.out _ (by omega) h1
    ·exact NS5.out _ (by omega) h2)
   have L6:=hI l6
   have V6:=hI B6
   clear l5 l6 B6 F6 f5' R5
   go_upto_region 9 with (first
      | ((with_reducible refine gate_load 39 (.tmp 12) ?_);refine wpList_load_blk rfl 39 (.tmp 12) rfl w5.heap.size 39 (arH h2 (.slice KA5 L5.length KC5)) _ rfl V6.out Tryz.underlying39 rfl (by kernel_rfl) ?_)
      | ((with_reducible refine gate_store 39 (.tmp 73) ?_);refine wpList_store_in rfl 39 (.tmp 73) (.tmp 72) rfl w.heap.size 21 41 (arE { x with heap:=x.heap } (.slice aA x.all.length ac) (.slice uA x.unread.length uc) kv) (arH h2 (.slice KA5 L5.length KC5)) (arE { x with heap:=h2 } (.slice aA x.all.length ac) (.slice uA x.unread.length uc) (.slice KA5 L5.length KC5)) rfl rfl L6.out.s (by simp) (by kernel_rfl) (by first|exact o1.out _|exact o2.out _|simp [Value.oneCell']) (heap_in _ _ _ _ _ _) ?_;intro w7 B7 F7))
   have l7:Lo w w7 w.heap.size (w.heap.size+1+1) (arE { x with heap:=h2 } (.slice aA x.all.length ac) (.slice uA x.unread.length uc) (.slice KA5 L5.length KC5)):=L6.out.set F7 B7
   have F57:Fr [w.heap.size] w5 w7:=(F56.mono (by simp)).trans F7 (fun y hy => .inl hy)
   have L7:Hid (∀ W,Fr [] w7 W→Lo w W w.heap.size (w.heap.size+1+1) (arE { x with heap:=h2 } (.slice aA x.all.length ac) (.slice uA x.unread.length uc) (.slice KA5 L5.length KC5))):=hI (fun W f=>l7.grow f)
   have FH57:=hI F57
   have BU7:Hid (∀ W,Fr [] w7 W→Byt S5 W (.slice uA x.unread.length uc) x.unread):=hI (fun W f=>(M5.out.bu.fr F57 (fun b hb=>NSO.out b (by simp at hb;simp [hb]))).fr f (by simp))
   have BO7:Hid (∀ W,Fr [] w7 W→Byt S5 W (.slice A5 out.length c5) out):=hI (fun W f=>(BY5.out.fr F57 (fun b hb=>NSO.out b (by simp at hb;simp [hb]))).fr f (by simp))
   clear l7 F57 F7 B7 L6 V6 F56
   have HB1:Hid (0+x.unread.length≤maxLen):=hI (by unfold maxLen;omega)
   have HB2:Hid ((0+x.unread.length) * 1≤140737488355328):=hI (by omega)
   have HB3:Hid (x.unread.length+out.length≤maxLen):=hI (by have:=HOUT.out;unfold maxLen;omega)
   have HB4:Hid ((x.unread.length+out.length) * 1≤140737488355328):=hI (by have:=HOUT.out;omega)
   have c5':w7.cell? ⟨w.heap.size,5,none⟩=some (.slice uA x.unread.length uc):=(L7.out _ (Fr.refl [] w7)).s.cell 5
   go_upto_region 10 with (first
      | (at_builtin;refine wpList_append_sl _ rfl (.const (.slice none 0 0)) (.tmp 75) 30 rfl 5 i0 (.int .u8 0) 1 1 Tryz.underlying30 hi0 hz0 hz1 hz2 rfl (by decide) (.slice none 0 0) 0 [] rfl (World.ownsRow_nil _ 0 5 1) S5 (.slice uA x.unread.length uc) x.unread.length (byts x.unread) rfl (BU7.out _ (Fr.refl [] w7)) (byts_one _) HB1.out HB2.out x.unread.length (by simp) ?_;intro A6 c6 w8 h8 g8 k8;have G8:Fr [] w7 w8:=g8.mono (by simp [ob,Value.ownBlock]);have H8:=hI h8;have K8:Hid (∀ b,(Value.slice A6 x.unread.length c6).ownBlock=some b→w7.heap.size≤b∧b<w8.heap.size):=hI (fun b hb=>by have:=k8 b hb;simp [Value.ownBlock] at this;exact this);clear h8 g8 k8)
      | (at_builtin;refine wpList_append_sl _ rfl (.tmp 76) (.tmp 77) 30 rfl 5 i0 (.int .u8 0) 1 1 Tryz.underlying30 hi0 hz0 hz1 hz2 rfl (by decide) (.slice A6 x.unread.length c6) x.unread.length ([]++byts x.unread) rfl H8.out S5 (.slice A5 out.length c5) out.length (byts out) rfl (BO7.out _ G8) (byts_one _) HB3.out HB4.out (x.unread.length+out.length) rfl ?_;intro A7 c7 w9 h9 g9 k9;have l9:Lo w w9 w.heap.size (w.heap.size+1+1) (arE { x with heap:=h2 } (.slice aA x.all.length ac) (.slice uA x.unread.length uc) (.slice KA5 L5.length KC5)):=⟨((L7.out _ G8).f).trans g9 (fun y hy => .inr (by have h1:=K8.out y (mem_ob.1 hy);have h2:=(L7.out _ (Fr.refl [] w7)).f.size;omega)),(L7.out _ G8).s.fr g9 (fun hm=>by have h1:=K8.out _ (mem_ob.1 hm);have h2:=(L7.out _ (Fr.refl [] w7)).s.lt;omega),(L7.out _ G8).r.fr g9 (fun hm=>by have h1:=K8.out _ (mem_ob.1 hm);have h2:=(L7.out _ (Fr.refl [] w7)).r.lt;omega),Nat.le_refl _,by omega,by omega⟩;have c9:w9.cell? ⟨w.heap.size,5,none⟩=some (.slice uA x.unread.length uc):=l9.s.cell 5;have z9:=l9.s.frozen 5;have hl9:=l9.s.lt;have G9:Hid (Fr [] w7 w9):=hI (G8.trans g9 (fun y hy => .inr (by have h1:=K8.out y (mem_ob.1 hy);omega)));have H9:=hI h9;have K9:Hid (∀ b,(Value.slice A7 (x.unread.length+out.length) c7).ownBlock=some b→w7.heap.size≤b∧b<w9.heap.size):=hI (fun b hb=>(k9 b hb).elim (fun h=>by have h1:=K8.out b h;have h2:=g9.size;omega) (fun h=>by have h2:=G8.size;omega));have L9:=hI l9;clear h9 g9 k9 l9))
   have la:Lo w (w9.setCell ⟨w.heap.size,5,none⟩ (.slice A7 (x.unread.length+out.length) c7)) w.heap.size (w.heap.size+1+1) (arE { x with heap:=h2,unread:=x.unread++out } (.slice aA x.all.length ac) (.slice A7 (x.unread.length+out.length) c7) (.slice KA5 L5.length KC5)):=by
    have hh:=L9.out.cell 5 (.slice A7 (x.unread.length+out.length) c7)
    simp only [arE,zqA,zqB,zqC] at hh ⊢
    exact hh
   have FA:Hid (Fr [w.heap.size] w9 (w9.setCell ⟨w.heap.size,5,none⟩ (.slice A7 (x.unread.length+out.length) c7))):=hI ((Fr.refl [w.heap.size] w9).setCell (p:=⟨w.heap.size,5,none⟩) (.inl (by simp)) _)
   generalize w9.setCell ⟨w.heap.size,5,none⟩ (.slice A7 (x.unread.length+out.length) c7)=wa at *
   have c22:wa.cell? ⟨w.heap.size,22,none⟩=some (.int .i64 h2.next):=la.s.cell 22
   have c24:wa.cell? ⟨w.heap.size,24,none⟩=some (.int .i64 (finI h2.fin)):=la.s.cell 24
   have c28:wa.cell? ⟨w.heap.size,28,none⟩=some (.bool x.ended):=la.s.cell 28
   have z28:=la.s.frozen 28
   have hlz:=la.s.lt
   have LA:=hI la
   clear la c9 z9 hl9 c5'
   go_upto_region 11 with fail
   have ln:Lo w (wa.setCell ⟨w.heap.size,28,none⟩ (.bool (isFin h2))) w.heap.size (w.heap.size+1+1) (arE { x with heap:=h2,unread:=x.unread++out,ended:=isFin h2 } (.slice aA x.all.length ac) (.slice A7 (x.unread.length+out.length) c7) (.slice KA5 L5.length KC5)):=by
    have hh:=LA.out.cell 28 (.bool (isFin h2))
    simp only [arE,zqA,zqB,zqC] at hh ⊢
    exact hh
   have FN:Hid (Fr [w.heap.size] w9 (wa.setCell ⟨w.heap.size,28,none⟩ (.bool (isFin h2)))):=hI (FA.out.trans ((Fr.refl [w.heap.size] wa).setCell (p:=⟨w.heap.size,28,none⟩) (.inl (by simp)) (.bool (isFin h2))) (fun y hy => .inl hy))
   generalize wa.setCell ⟨w.heap.size,28,none⟩ (.bool (isFin h2))=wn at *
   have LN:Hid (∀ W,Fr [] wn W→Lo w W w.heap.size (w.heap.size+1+1) (arE { x with heap:=h2,unread:=x.unread++out,ended:=isFin h2 } (.slice aA x.all.length ac) (.slice A7 (x.unread.length+out.length) c7) (.slice KA5 L5.length KC5))):=hI (fun W f=>ln.grow f)
   have F5N:Hid (Fr [w.heap.size] w5 wn):=hI ((FH57.out.trans G9.out (by simp)).trans FN.out (fun y hy => .inl hy))
   clear ln c22 c24 c28 z28 hlz FA
   try dsimp only [Act.put]
   go_cut [] (fun wx=>Blk wx (w.heap.size+1+1) 41 (arE { x with heap:=h2,unread:=x.unread++out,ended:=isFin h2 } (.slice aA x.all.length ac) (.slice A7 (x.unread.length+out.length) c7) (.slice KA5 L5.length KC5))∧Fr [w.heap.size+1+1] wn wx)
   case first=>
    go_wp2_with (first
      | ((with_reducible refine gate_load 41 (.tmp 3) ?_);refine wpList_load_blk rfl 41 (.tmp 3) rfl w.heap.size 41 (arE { x with heap:=h2,unread:=x.unread++out,ended:=isFin h2 } (.slice aA x.all.length ac) (.slice A7 (x.unread.length+out.length) c7) (.slice KA5 L5.length KC5)) _ rfl (LN.out _ (by first|exact Fr.refl _ _|assumption)).s Tryz.underlying41 rfl (by kernel_rfl) ?_)
      | ((with_reducible refine gate_store 41 (.tmp 6) ?_);refine wpList_store_blk rfl 41 (.tmp 6) (.tmp 88) rfl (w.heap.size+1+1) 41 endZ (arE { x with heap:=h2,unread:=x.unread++out,ended:=isFin h2 } (.slice aA x.all.length ac) (.slice A7 (x.unread.length+out.length) c7) (.slice KA5 L5.length KC5)) rfl rfl (LN.out _ (by first|exact Fr.refl _ _|assumption)).r rfl (by kernel_rfl) (by first|exact o1.out _|exact o2.out _|simp [Value.oneCell']) ?_;intro wz Bz Fz))
    go_meet
    exact⟨Bz,Fz⟩
   case rest=>
    obtain⟨Bz,Fz⟩:=hcut
    have FW:=(LN.out _ (Fr.refl [] wn)).res Fz
    have F5Z:Fr [w.heap.size,w.heap.size+1+1] w5 _:=(F5N.out.mono (by simp)).trans (Fz.mono (by simp)) (fun y hy => .inl hy)
    have own9:=own_fr H9.out FN.out (fun b hb hm=>by simp at hm;subst hm;have h1:=K9.out _ hb;have h2:=(L7.out _ (Fr.refl [] w7)).s.lt;omega)
    have ownz:=own_fr own9 Fz (fun b hb hm=>by simp at hm;subst hm;have h1:=K9.out _ hb;have h2:=(L7.out _ (Fr.refl [] w7)).r.lt;omega)
    rw [List.nil_append,byts_app] at ownz
    obtain⟨S9,e9,m9⟩:=edata_post (b:=isFin h2) M5.out X5.out ZW5.out F5Z NSO.out ownz (fun b hb=>by have h1:=K9.out _ hb;have h2:=FH57.out.size;omega) (by simp)
    refine ‹∀(a:Act) (w:World),Code.wp Tryz.prog Code.ret _ a w→_› _ _ (wp_ret ?_)
    try simp only [Exit.then]
    change bodyPost Tryz.prog _ _ .ret _ _
    refine bodyPost_ret (results_c 6 41 ⟨w.heap.size+1+1,0,none⟩ _ (by rfl) (by rfl) (end_load Bz)) (by rfl) ?_
    rw [HV1.out HNO.out]
    exact⟨S9,_,_,rfl,e9,m9,FW⟩
  ·have HNO:=hI hno
   by_cases t1:0<pd.length
   ·have hd1:decide (0<(pd.length:Int))=true:=decide_eq_true (by omega)
    have hd2:decide ((pd.length:Int) > 0)=true:=decide_eq_true (by omega)
    have t2:¬ (a+(pd.length:Int) - x.heap.next≤1024 - (x.unread.length:Int)):=fun h=>hno ⟨t1,h⟩
    clear hno
    go_upto_region 10 with fail
    clear c22 c5 hd1 hd2 t1 t2
    have c22:W1.cell? ⟨w.heap.size,22,none⟩=some (.int .i64 x.heap.next):=(LH.out _ (Fr.refl [] W1)).s.cell 22
    have c24:W1.cell? ⟨w.heap.size,24,none⟩=some (.int .i64 (finI x.heap.fin)):=(LH.out _ (Fr.refl [] W1)).s.cell 24
    have c28:W1.cell? ⟨w.heap.size,28,none⟩=some (.bool x.ended):=(LH.out _ (Fr.refl [] W1)).s.cell 28
    have z28:=(LH.out _ (Fr.refl [] W1)).s.frozen 28
    have hlz:=(LH.out _ (Fr.refl [] W1)).s.lt
    go_upto_region 11 with fail
    have ln:Lo w (W1.setCell ⟨w.heap.size,28,none⟩ (.bool (isFin x.heap))) w.heap.size (w.heap.size+1+1) (arE { x with heap:=x.heap,ended:=isFin x.heap } (.slice aA x.all.length ac) (.slice uA x.unread.length uc) kv):=by
     have hh:=(LH.out _ (Fr.refl [] W1)).cell 28 (.bool (isFin x.heap))
     simp only [arE,zqA,zqB,zqC] at hh ⊢
     exact hh
    generalize W1.setCell ⟨w.heap.size,28,none⟩ (.bool (isFin x.heap))=wn at *
    have LN:Hid (∀ W,Fr [] wn W→Lo w W w.heap.size (w.heap.size+1+1) (arE { x with heap:=x.heap,ended:=isFin x.heap } (.slice aA x.all.length ac) (.slice uA x.unread.length uc) kv)):=hI (fun W f=>ln.grow f)
    clear ln c22 c24 c28 z28 hlz
    try dsimp only [Act.put]
    go_cut [] (fun wx=>Blk wx (w.heap.size+1+1) 41 (arE { x with heap:=x.heap,ended:=isFin x.heap } (.slice aA x.all.length ac) (.slice uA x.unread.length uc) kv)∧Fr [] w wx)
    case first=>
     go_wp2_with (first
       | ((with_reducible refine gate_load 41 (.tmp 3) ?_);refine wpList_load_blk rfl 41 (.tmp 3) rfl w.heap.size 41 (arE { x with heap:=x.heap,ended:=isFin x.heap } (.slice aA x.all.length ac) (.slice uA x.unread.length uc) kv) _ rfl (LN.out _ (by first|exact Fr.refl _ _|assumption)).s Tryz.underlying41 rfl (by kernel_rfl) ?_)
       | ((with_reducible refine gate_store 41 (.tmp 6) ?_);refine wpList_store_blk rfl 41 (.tmp 6) (.tmp 88) rfl (w.heap.size+1+1) 41 endZ (arE { x with heap:=x.heap,ended:=isFin x.heap } (.slice aA x.all.length ac) (.slice uA x.unread.length uc) kv) rfl rfl (LN.out _ (by first|exact Fr.refl _ _|assumption)).r rfl (by kernel_rfl) (by first|exact o1.out _|exact o2.out _|simp [Value.oneCell']) ?_;intro wz Bz Fz))
     go_meet
     exact⟨Bz,(LN.out _ (Fr.refl [] wn)).res Fz⟩
    case rest=>
     obtain⟨Bz,Fz⟩:=hcut
     refine ‹∀(a:Act) (w:World),Code.wp Tryz.prog Code.ret _ a w→_› _ _ (wp_ret ?_)
     try simp only [Exit.then]
     change bodyPost Tryz.prog _ _ .ret _ _
     refine bodyPost_ret (results_c 6 41 ⟨(w.heap.size+1+1),0,none⟩ _ (by rfl) (by rfl) (end_load Bz)) (by rfl) ?_
     rw [HV0.out HNO.out]
     exact⟨S,_,_,rfl,Ext.refl w S,RE.ext (M.out.heap_ HR1.out _) Fz (by simp) (fun _ h=>h) (fun b hb=>Nat.lt_of_lt_of_le (M.out.pub b hb) Fz.size),Fz⟩
   ·have hd1:decide (0<(pd.length:Int))=false:=decide_eq_false (by omega)
    have hd2:decide ((pd.length:Int) > 0)=false:=decide_eq_false (by omega)
    clear hno
    go_upto_region 10 with fail
    clear c22 c5 hd1 hd2 t1
    have c22:W1.cell? ⟨w.heap.size,22,none⟩=some (.int .i64 x.heap.next):=(LH.out _ (Fr.refl [] W1)).s.cell 22
    have c24:W1.cell? ⟨w.heap.size,24,none⟩=some (.int .i64 (finI x.heap.fin)):=(LH.out _ (Fr.refl [] W1)).s.cell 24
    have c28:W1.cell? ⟨w.heap.size,28,none⟩=some (.bool x.ended):=(LH.out _ (Fr.refl [] W1)).s.cell 28
    have z28:=(LH.out _ (Fr.refl [] W1)).s.frozen 28
    have hlz:=(LH.out _ (Fr.refl [] W1)).s.lt
    go_upto_region 11 with fail
    have ln:Lo w (W1.setCell ⟨w.heap.size,28,none⟩ (.bool (isFin x.heap))) w.heap.size (w.heap.size+1+1) (arE { x with heap:=x.heap,ended:=isFin x.heap } (.slice aA x.all.length ac) (.slice uA x.unread.length uc) kv):=by
     have hh:=(LH.out _ (Fr.refl [] W1)).cell 28 (.bool (isFin x.heap))
     simp only [arE,zqA,zqB,zqC] at hh ⊢
     exact hh
    generalize W1.setCell ⟨w.heap.size,28,none⟩ (.bool (isFin x.heap))=wn at *
    have LN:Hid (∀ W,Fr [] wn W→Lo w W w.heap.size (w.heap.size+1+1) (arE { x with heap:=x.heap,ended:=isFin x.heap } (.slice aA x.all.length ac) (.slice uA x.unread.length uc) kv)):=hI (fun W f=>ln.grow f)
    clear ln c22 c24 c28 z28 hlz
    try dsimp only [Act.put]
    go_cut [] (fun wx=>Blk wx (w.heap.size+1+1) 41 (arE { x with heap:=x.heap,ended:=isFin x.heap } (.slice aA x.all.length ac) (.slice uA x.unread.length uc) kv)∧Fr [] w wx)
    case first=>
     go_wp2_with (first
       | ((with_reducible refine gate_load 41 (.tmp 3) ?_);refine wpList_load_blk rfl 41 (.tmp 3) rfl w.heap.size 41 (arE { x with heap:=x.heap,ended:=isFin x.heap } (.slice aA x.all.length ac) (.slice uA x.unread.length uc) kv) _ rfl (LN.out _ (by first|exact Fr.refl _ _|assumption)).s Tryz.underlying41 rfl (by kernel_rfl) ?_)
       | ((with_reducible refine gate_store 41 (.tmp 6) ?_);refine wpList_store_blk rfl 41 (.tmp 6) (.tmp 88) rfl (w.heap.size+1+1) 41 endZ (arE { x with heap:=x.heap,ended:=isFin x.heap } (.slice aA x.all.length ac) (.slice uA x.unread.length uc) kv) rfl rfl (LN.out _ (by first|exact Fr.refl _ _|assumption)).r rfl (by kernel_rfl) (by first|exact o1.out _|exact o2.out _|simp [Value.oneCell']) ?_;intro wz Bz Fz))
     go_meet
     exact⟨Bz,(LN.out _ (Fr.refl [] wn)).res Fz⟩
    case rest=>
     obtain⟨Bz,Fz⟩:=hcut
     refine ‹∀(a:Act) (w:World),Code.wp Tryz.prog Code.ret _ a w→_› _ _ (wp_ret ?_)
     try simp only [Exit.then]
     change bodyPost Tryz.prog _ _ .ret _ _
     refine bodyPost_ret (results_c 6 41 ⟨(w.heap.size+1+1),0,none⟩ _ (by rfl) (by rfl) (end_load Bz)) (by rfl) ?_
     rw [HV0.out HNO.out]
     exact⟨S,_,_,rfl,Ext.refl w S,RE.ext (M.out.heap_ HR1.out _) Fz (by simp) (fun _ h=>h) (fun b hb=>Nat.lt_of_lt_of_le (M.out.pub b hb) Fz.size),Fz⟩
end Go.Proofs.YtmgdbbbdhkfdmaaGreat
