import Derived.Test.YtmgdbbbdhkfdmaaGreatYC26
import Derived.Deep.DeepCutAuto
import Derived.Deep.Fields
import Derived.Deep.Slices
import Derived.Test.YtmgdbbbdhkfdmaaGreatYC10
import Derived.Test.YtmgdbbbdhkfdmaaGreatYC0
set_option linter.unusedSimpArgs false
set_option linter.unusedVariables false
set_option maxHeartbeats 40000000
namespace Go.Proofs.YtmgdbbbdhkfdmaaGreat
set_option maxRecDepth 100000
open Go.RowKit Go.Deep
namespace Held
theorem qof{P:Program}{ops:Array Oper}{op:Oper}{a:Act}{w:World}{K:Act->World->Prop}{Q:Exit->Act->World->Prop}{E:Prop}(hgd:op.guard=none)(ty:TypeId)(x:Operand)(ho:op.op = .load ty x)(b:Nat)(t:TypeId)(cs:Array Value)(d:TypeDesc)
  (hx:a.eval x = .pointer (some ⟨b,0,none⟩)) (hB:Blk w b t cs) (hu:P.underlying ty=some d) (hd:d.isRow=true) (hi:(P.info? ty).map (·.size)=some cs.size) (h:K (a.put op.dst (.agg cs)) w):if Region.wanted op (yielded ops a.tmps)=true then Oper.wp P op a w K Q else E:=by
 have hw:Region.wanted op (yielded ops a.tmps)=true:=by simp [Region.wanted,hgd]
 rw [if_pos hw];have hl:(Instr.loadAt ty (.pointer (some ⟨b,0,none⟩))).run P w = .ok (.agg cs) w:=by
  simp only [Instr.loadAt,Instr.sureAddr,Sem.run_bind,Sem.run_pure,Result.andThen_ok,xY ty b t cs d hB hu hd hi]
 unfold Oper.wp;simp only [execOp,ho,hx,hl,Sem.run_bind,Sem.run_pure,Result.andThen_ok];exact h
end Held
def qip(w:World)(b9 b14 gc gs gd n1 n:Nat)(f:Nat->AC)(xm:St)(am um km:Value)(s15:Value)(wr:World):Prop:=
 ∃ k S Hs H Hd' x av uv kv,k<=n/\s15 = .int .i64 (k:Nat)/\H.g=gc/\Hs.g=gs/\Hd'.g=gd/\x=qjo f k xm/\Mid w wr b9 b14 (n1+k) S Hs H Hd' xm x am um km av uv kv
def qiq(w:World)(b9 gs gc n1 n:Nat)(f:Nat->AC)(xm xe:St)(s18:Value)(wr:World):Prop:=
 ∃ k S H Hc x av uv kv,k<=n/\s18 = .int .i64 (k:Nat)/\H.g=gs/\Hc.g=gc/\b9∉Hc.own/\x=qjo f k xm/\xn w wr b9 (n1+k) S H x av uv kv/\Oth w wr S H Hc xe
theorem copies_any(isn:Int)(i0:0<=isn)(i1:isn<4294967296)(w:World)(A1:Option Addr)(n1 c1:Nat)(f1:Nat->AC)(h1:qdi w w.heap.size A1 n1 f1)(hn1:n1<=maxLen)(A:Option Addr)(n c:Nat)(f:Nat->AC)(h:qdi w w.heap.size A n f)(hn:n<=maxLen) :
  Calls Tryz.prog 3 #[.int .u32 isn, .slice A1 n1 c1, .slice A n c] w fun e w'=>e = .returned (.bool true)/\Fr [] w w':=by
 have hfew1:=qjn w w.heap.size A1 n1 c1 f1 h1 (Nat.le_refl _) hn1;have hfew2:=fun W (fW:Fr [] w W)=>qjn W w.heap.size A n c f (h.fr fW (Nat.le_refl _) zs) fW.size hn;unfold maxLen at hn hn1;have H1:=hI h1;have H0:=hI h;have HF1:=hI hfew1;have HF2:=hI hfew2;clear h1 h hfew1 hfew2;go_enter Tryz.func3,Tryz.ntmps3;go_wp2_with fail
 refine HF1.out.mono ?_;rintro e wa ⟨few1,rfl,fa,hf1⟩;rcases Bool.eq_false_or_eq_true few1 with rfl|rfl
 ·obtain⟨_,hd1⟩:=hf1 rfl
  have HD1:=hI hd1;have FA:=hI fa;clear hf1 hd1 fa HF1;go_wp2_with fail
  refine (HF2.out _ FA.out).mono ?_;rintro e w1 ⟨few2,rfl,fb,hf2⟩;rcases Bool.eq_false_or_eq_true few2 with rfl|rfl
  ·obtain⟨_,hd2⟩:=hf2 rfl
   have HD:=hI hd2;have f1_:=FA.out.trans fb zs;have FB:=hI f1_;clear hf2 hd2 fb HF2 FA f1_;have wsum:IntKind.i64.wrap ((n1:Int)+(n:Int))=(n1:Int)+(n:Int):=IntWalk.i64_in _ zw;by_cases h60:60<n1+n
   ·have e1:decide ((n1:Int)+(n:Int) > 60)=true:=by simp only [decide_eq_true_eq];omega
    have e2:decide ((60:Int)<(n1:Int)+(n:Int))=true:=(by simp only [decide_eq_true_eq];omega);go_wp2_with fail
    refine (yX _).mono ?_;rintro e wk ⟨rfl,fk⟩;have fe:=(FB.out).trans fk zs;clear fk;go_wp2_with fail
    go_ret;exact⟨rfl,fe⟩
   ·have e1:decide ((n1:Int)+(n:Int) > 60)=false:=by simp only [decide_eq_false_iff_not];omega
    have e2:decide ((60:Int)<(n1:Int)+(n:Int))=false:=(by simp only [decide_eq_false_iff_not];omega);have hle:n1+n<=60:=zw;clear h60;have f1_:=FB.out;have F1:=hI f1_;have HFINE:=hI (Fine.new isn false i0 i1);have HALL:=hI (all_new isn false);have hnew:=qil (fun b=>b<w.heap.size) isn false w1 (fun b hb=>Nat.lt_of_lt_of_le hb f1_.size);have hen:=fun (S2:Nat->Prop) (W:World) (hp:∀ b,S2 b->b<W.heap.size)=>enew S2 isn i0 i1 false W hp;generalize jf isn false=R at *
    obtain⟨x,Rl⟩:=R;have HNEW:=hI hnew;have HEN:=hI hen;clear f1_ hnew hen;go_upto_region 4 with (go_at_call 8;refine HNEW.out.mono ?_;rintro e w2 ⟨S2,H,v2,L2,rfl,hL2,x2,ma,pr2,n2,f2,la⟩)
    have HEN2:=hI (HEN.out S2 w2 (HP.zA ma.hp));have MA:=hI ma;have PR2:=hI pr2;have X2:=hI x2;have F2:=hI f2;have LA:=hI la;have HL2:=hI hL2;clear ma pr2 x2 f2 la n2 hL2 HNEW HEN;go_upto_region 5 with (first
     | (go_at_call 9;refine HEN2.out.mono ?_;rintro e w3 ⟨S3,av,uv,kv,v3,L3,rfl,hL3,x3,r3,p3,f3⟩;have o1:=r3.qN)|((with_reducible refine qi 41 (.tmp 9) ?_);refine qc rfl 41 (.tmp 9) (.tmp 44) rfl w3.heap.size 41 qy (arE x av uv kv) rfl rfl (Blk.new w3 41 qy) rfl zk zq ?_;intro w4 B4 F4))
    have fa:Fr [] w3 (w3.alloc (.cells qy 41)):=(Fr.refl [] w3).alloc _;have f24:Fr [] w2 w4:=(f3.trans fa zs).trans F4 (fun b hb => .inr (by simp at hb;have:=f3.size;omega));have ns9:¬ S3 w3.heap.size:=fun hs=>by have:=r3.pub _ hs;omega
    have m4:SI S3 w4 H x:=(MA.out.ext f3 x3 r3.pub).fr fa |>.far F4 ns9 (fun y hy=>by have:=MA.out.lt y hy;have:=f3.size;omega);have r4:RE S3 w4 x av uv kv:=(r3.fr fa).far F4 ns9;have p34:=(p3.fr fa zs zs (fun _ h=>h)).fr F4 (fun z hz hs=>by simp at hz;subst hz;exact ns9 hs) (fun b hb hm=>by simp at hm;have:=kG p3.own (qo.1 hb);omega) (fun _ h=>h);have p24:=PR2.out.fr f24 zs zs (fun _ h=>h);have hz1:=F1.out.size;have hz2:=F2.out.size;have hz3:=f3.size;have ip:xn w w4 w3.heap.size 0 S3 H x av uv kv:=⟨m4,r4,HFINE.out,by rw [HALL.out.1];simp,by rw [HALL.out.2];simp,fun b hb=>by have:=LA.out b hb;omega,B4,fun hb=>by have:=MA.out.lt _ hb;omega,ns9,fun b hb=>x3.1 b (X2.out.1 b hb),(F1.out.trans F2.out zs).trans f24 zs,zw⟩;have IP:=hI ip;obtain⟨g,hg⟩:∃ g,H.g=g:=⟨_,rfl⟩;rw [hg];have HG:=hI hg;generalize w3.heap.size=b9 at *
    clear fa f24 ns9 m4 r4 p34 p24 ip hz1 hz2 hz3 f3 x3 r3 p3 B4 F4 hL3 MA PR2 X2 F2 LA HL2 HEN2 HFINE HALL hg F1 FB;have hst:qfo w b9 g n1 (.int .i64 (0:Nat)) w4:=⟨0,S3,H,x,av,uv,kv,Nat.zero_le _,rfl,HG.out,IP.out⟩;have HST:=hI hst;clear hst HG IP o1;go_wp2_with fail
    go_loopw [11] (fun s11 wr=>qfo w b9 g n1 s11 wr) (fun s11 _=>n1 - (intOf s11).toNat);case atStart=>exact HST.out
    case round=>
     obtain⟨k,S,H,x,av,uv,kv,hk,rfl,hg,ip⟩:=hrel;have IP:=hI ip;have HG:=hI hg;clear HST;by_cases hkn:k<n1
     ·have hacts:∀ W,Fr (b9::H.own) wr W->qdi W w.heap.size A1 n1 f1:=fun W fW=>(H1.out.fr ip.f (Nat.le_refl _) zs).fr fW ip.f.size (fun b hb=>by first|exact ip.la b hb|(rcases List.mem_cons.1 hb with rfl|hb;exact ip.n0;exact ip.la b hb))
      obtain⟨hnum,ab,ao,pA,pc,dA,dc,rfl,hab,hcell,hpb,hdb⟩:=hacts wr (Fr.refl _ _) k hkn;have hcells:∀ W,Fr (b9::H.own) wr W->∀ j v,(arA (f1 k) pA pc dA dc)[j]?=some v->W.cell? ⟨ab,ao+k * 8+j,none⟩=some v:=fun W fW j v hj=>(fW.cell (p:=⟨ab,ao+k * 8+j,none⟩) (by have:=ip.f.size;show ab<_;omega) (fun hm=>by
       have:w.heap.size<=ab:=(by first|exact ip.la _ hm|(rcases List.mem_cons.1 hm with hq|hq;(dsimp only at hq;rw [hq];exact ip.n0);exact ip.la _ hq));omega)).trans (hcell j v hj)
      have haok:=hnum.ok (HD1.out k hkn).2 (HD1.out k hkn).1;have hdo:=fun W (fW:Fr [] wr W)=>qdd (ip.m.fr fW) (ip.r.fr fW) ip.fx (f1 k) haok (by have:=ip.al;omega) (by have:=ip.nw;omega) pA pc dA dc ((hpb.mono ip.s0).fr fW zs) ((hdb.mono ip.s0).fr fW zs);rw [hg] at hdo;generalize hyy:jc x (f1 k)=y at *
      have HYY:=hI hyy;have HDO:Hid (∀ W,Fr [] wr W->Calls Tryz.prog 10 #[ptr g,agE x av uv kv, .agg (arA (f1 k) pA pc dA dc)] W (jM S W H y)):=hI hdo;have HC:=hI hcells;have HAOK:=hI haok;have HLT:Hid (∀ b∈H.own,b<wr.heap.size):=hI ip.m.lt;have HSP:Hid (∀ b,S b->b<wr.heap.size):=hI (HP.zA ip.m.hp);have o1:=ip.r.qN;have dk:decide ((k:Int)<(n1:Int))=true:=(by simpa using hkn);clear hacts hnum hcell hpb hdb hcells haok hdo hyy ip hg;go_upto_region 8 with fail
      refine wp_region_held_drew (S:=fun W=>Fr (b9::H.own) wr W) zk (Fr.refl _ wr).drew (fun hH=>?_);have fd:Fr [] wr wr.drew:=(Fr.refl [] wr).drew;generalize wr.drew=wd at *
      refine Held.take 0 (v:=ptr g) rfl zk zk zk (fun _ _ _ h=>h) (Or.inl ⟨rfl,fun (W:World) hs=>by go_simp⟩) hH ?_;try simp only [Act.put,zqA,zqB,zqC]
      refine Held.take 2 (v := .slice (some ⟨ab,ao,none⟩) n1 c1) rfl zk zk zk (fun _ _ _ h=>h) (Or.inl ⟨rfl,fun (W:World) hs=>by go_simp⟩) hH ?_;try simp only [Act.put,zqA,zqB,zqC]
      refine Held.take 3 (v := .int .i64 (k:Nat)) rfl zk zk zk (fun _ _ _ h=>h) (Or.inl ⟨rfl,fun (W:World) hs=>by go_simp⟩) hH ?_;try simp only [Act.put,zqA,zqB,zqC]
      refine Held.take 4 (v := .pointer (some ⟨ab,ao+k * 8,none⟩)) rfl zk zk zk (fun _ _ _ h=>h) (Or.inl ⟨rfl,fun (W:World) hs=>by go_simp⟩) hH ?_;try simp only [Act.put,zqA,zqB,zqC]
      refine Held.take 5 (v := .agg #[.int .i64 (f1 k).kind, .int .i64 (f1 k).p.flags, .int .u32 (f1 k).p.seq, .int .u32 (f1 k).p.ack, .int .u16 (f1 k).p.win, .slice pA (f1 k).p.d.length pc, .bool (f1 k).near, .slice dA (f1 k).d.length dc]) rfl zk zk zk (fun _ _ _ h=>h) (Or.inl ⟨rfl,fun (W:World) hs=>by have d:=qfm (HC.out W hs);obtain⟨d0,d1,d2,d3,d4,d5,d6,d7⟩:=d;go_simp⟩) hH ?_;try simp only [Act.put,zqA,zqB,zqC]
      refine Held.one (i:=1) zk rfl (fun K hK=>?_);refine Held.qof rfl 41 (.tmp 9) rfl b9 41 (arE x av uv kv) _ rfl (IP.out.b.fr fd zs) Tryz.underlying41 rfl zk ?_;refine hK.out _ _ hH (fun _=>?_);clear hK K;try simp only [Act.put,zqA,zqB,zqC]
      refine Held.one (i:=6) zk rfl (fun K hK=>?_);go_simp;go_at_call 10;refine (HDO.out wd fd).mono ?_;rintro e w5 ⟨S5,H5,a2,u2,k2,rfl,e5,lk5,m5,r5,f5⟩;have o2:=r5.qN;have fd5:Fr (b9::H.own) wr w5:=(fd.mono zs).trans f5 (fun b hb => .inl (List.mem_cons_of_mem _ hb));have B5:=(IP.out.b.fr fd zs).fr f5 IP.out.nb;try go_wp2_with fail
      refine hK.out _ _ fd5 (fun h5=>?_);clear hK K hH;try simp only [Act.put,zqA,zqB,zqC]
      refine Held.take 7 (v := .tuple #[agE y a2 u2 k2, .bool true]) rfl zk zk zk (fun _ _ _ h=>h) (Or.inl ⟨rfl,fun (W:World) hs=>by go_simp⟩) h5 ?_;try simp only [Act.put,zqA,zqB,zqC]
      refine Held.take 8 (v:=agE y a2 u2 k2) rfl zk zk zk (fun _ _ _ h=>h) (Or.inl ⟨rfl,fun (W:World) hs=>by go_simp⟩) h5 ?_;try simp only [Act.put,zqA,zqB,zqC]
      refine Held.take 9 (v := .bool true) rfl zk zk zk (fun _ _ _ h=>h) (Or.inl ⟨rfl,fun (W:World) hs=>by go_simp⟩) h5 ?_;try simp only [Act.put,zqA,zqB,zqC]
      refine Held.one (i:=10) zk rfl (fun K hK=>?_);refine Held.vY rfl 41 (.tmp 9) (.tmp 60) rfl b9 41 (arE x av uv kv) (arE y a2 u2 k2) rfl rfl B5 rfl zk (o2.out _) ?_;intro wz Bz Fz;refine hK.out _ _ (h5.trans Fz (fun z hz => .inl (by simp at hz;simp [hz]))) (fun h7=>?_);clear hK K;try simp only [Act.put,zqA,zqB,zqC]
      refine Held.done zk ?_;have hz5:=fd.size;have hip:=IP.out.step1 HAOK.out zw HYY.out.symm (kM e5 hz5) ⟨lk5.g,lk5.gw,lk5.gc,lk5.gh,fun b hb=>(lk5.own b hb).imp id (fun h=>by omega)⟩ m5 r5 ((fd.mono zs).trans f5 (fun b hb => .inl hb)) Fz Bz;have HREL:Hid (qfo w b9 g n1 (.int .i64 ((k+1:Nat):Int)) wz):=hI ⟨k+1,S5,H5,y,a2,u2,k2,zw,rfl,lk5.g.trans HG.out,hip⟩;clear hip e5 lk5 m5 r5 f5 fd fd5 h5 h7 Fz Bz B5 HDO HC IP HAOK HLT HSP HYY o1 o2;go_wp2_with fail
      go_roundw;case rel=>simpa using HREL.out
      case measure=>simp [intOf];omega
     ·obtain rfl:n1=k:=zw
      have hfx:=hI ip.fx;have o1:=ip.r.qN;clear hg ip;go_wp2_with fail
      have hcp:=fun (W:World) (m:SI S W H x)=>copy_si m hfx.out.ok.s;rw [HG.out] at hcp;have HCP:=hI hcp;clear hcp;refine (HCP.out _ IP.out.m).mono ?_;rintro e wc ⟨Hc,rfl,mc,fc,lc⟩;have MC:=hI mc;have FC:=hI fc;have LC:=hI lc;clear mc fc lc;go_wp2_with fail
      refine (HCP.out _ (IP.out.m.fr FC.out)).mono ?_;rintro e wd ⟨Hd',rfl,md,fdd,ld⟩;have MD:=hI md;have FD:=hI fdd;have LD:=hI ld;clear md fdd ld;have V9:Hid (∀ W,Fr [] wd W->Blk W b9 41 (arE x av uv kv)):=hI (fun W fW=>((IP.out.b.fr FC.out zs).fr FD.out zs).fr fW zs);go_upto_region 11 with (first
         | ((with_reducible refine qj 41 (.tmp 9) ?_);refine qf rfl 41 (.tmp 9) rfl b9 41 (arE x av uv kv) _ rfl (V9.out _ zf) Tryz.underlying41 rfl zk ?_)|((with_reducible refine qi 41 (.tmp 14) ?_);refine qc rfl 41 (.tmp 14) (.tmp 66) rfl wd.heap.size 41 qy (arE x av uv kv) rfl rfl (Blk.new wd 41 qy) rfl zk zq ?_;intro w6 B6 F6))
      have hmid:=qlo IP.out MC.out FC.out LC.out MD.out FD.out LD.out F6 B6;have MID:=hI hmid;have HXX:Hid (x.all.length<=5000 * n1/\x.now<=n1/\w.heap.size<=b9):=hI ⟨IP.out.al,IP.out.nw,IP.out.n0⟩;generalize wd.heap.size=b14 at *
      obtain⟨gc,hgc⟩:∃ gc,Hc.g=gc:=⟨_,rfl⟩;obtain⟨gd,hgd⟩:∃ gd,Hd'.g=gd:=⟨_,rfl⟩;rw [hgc,hgd];have hst:qip w b9 b14 gc g gd n1 n f x av uv kv (.int .i64 (0:Nat)) w6:=⟨0,S,H,Hc,Hd',x,av,uv,kv,Nat.zero_le _,rfl,hgc,HG.out,hgd,rfl,MID.out⟩;have HST:=hI hst;clear hst hgc hgd hmid MID MC FC LC MD FD LD V9 B6 F6 HCP IP o1;have HFX:=hI hfx.out;have HAL:=hI (show x.all.length<=5000 * n1/\x.now<=n1/\w.heap.size<=b9 from HXX.out);clear hfx HXX;generalize x=xm at *
      generalize av=am at *
      generalize uv=um at *
      generalize kv=km at *
      go_wp2_with fail
      go_loopw [15] (fun s15 wr=>qip w b9 b14 gc g gd n1 n f xm am um km s15 wr) (fun s15 _=>n - (intOf s15).toNat);case atStart=>exact HST.out
      case round=>
       obtain⟨k,S,Hs,H,Hd',x,av,uv,kv,hk,rfl,hg,hgs,hgd,hx,mid⟩:=hrel;have MID:=hI mid;have ip:=mid.p;have IP:=hI ip;have HG:=hI hg;have HGS:=hI hgs;have HGD:=hI hgd;have HXE:=hI hx;clear HST mid hgs hgd hx;by_cases hkn:k<n
       ·have hacts:∀ W,Fr H.own wr W->qdi W w.heap.size A n f:=fun W fW=>(H0.out.fr ip.f (Nat.le_refl _) zs).fr fW ip.f.size (fun b hb=>by first|exact ip.la b hb|(rcases List.mem_cons.1 hb with rfl|hb;exact ip.n0;exact ip.la b hb))
        obtain⟨hnum,ab,ao,pA,pc,dA,dc,rfl,hab,hcell,hpb,hdb⟩:=hacts wr (Fr.refl _ _) k hkn;have hcells:∀ W,Fr H.own wr W->∀ j v,(arA (f k) pA pc dA dc)[j]?=some v->W.cell? ⟨ab,ao+k * 8+j,none⟩=some v:=fun W fW j v hj=>(fW.cell (p:=⟨ab,ao+k * 8+j,none⟩) (by have:=ip.f.size;show ab<_;omega) (fun hm=>by
         have:w.heap.size<=ab:=(by first|exact ip.la _ hm|(rcases List.mem_cons.1 hm with hq|hq;(dsimp only at hq;rw [hq];exact ip.n0);exact ip.la _ hq));omega)).trans (hcell j v hj)
        have haok:=hnum.ok (HD.out k hkn).2 (HD.out k hkn).1;have hdo:=fun W (fW:Fr [] wr W)=>qdd (ip.m.fr fW) (ip.r.fr fW) ip.fx (f k) haok (by have:=ip.al;omega) (by have:=ip.nw;omega) pA pc dA dc ((hpb.mono ip.s0).fr fW zs) ((hdb.mono ip.s0).fr fW zs);rw [hg] at hdo;generalize hyy:jc x (f k)=y at *
        have HYY:=hI hyy;have HDO:Hid (∀ W,Fr [] wr W->Calls Tryz.prog 10 #[ptr gc,agE x av uv kv, .agg (arA (f k) pA pc dA dc)] W (jM S W H y)):=hI hdo;have HC:=hI hcells;have HAOK:=hI haok;have HLT:Hid (∀ b∈H.own,b<wr.heap.size):=hI ip.m.lt;have HSP:Hid (∀ b,S b->b<wr.heap.size):=hI (HP.zA ip.m.hp);have o1:=ip.r.qN;have dk:decide ((k:Int)<(n:Int))=true:=(by simpa using hkn);clear hacts hnum hcell hpb hdb hcells haok hdo hyy ip hg;go_upto_region 14 with fail
        go_cut [16,17] (fun s12 s13 wx=>∃ wz b12 S5 H5 a2 u2 k2,wz=wx/\s12=ptr b12/\s13 = .bool true/\qfn w wr wx b14 b12 S S5 H H5 y a2 u2 k2 (arE x av uv kv));case first=>
         refine wp_region_held_drew (S:=fun W=>Fr H.own wr W) zk (Fr.refl _ wr).drew (fun hH=>?_);have fd:Fr [] wr wr.drew:=(Fr.refl [] wr).drew;generalize wr.drew=wd at *
         refine Held.take 0 (v:=ptr gc) rfl zk zk zk (fun _ _ _ h=>h) (Or.inl ⟨rfl,fun (W:World) hs=>by go_simp⟩) hH ?_;try simp only [Act.put,zqA,zqB,zqC]
         refine Held.take 1 rfl zk zk zk (fun _ _ _ h=>h) (Held.yc rfl 41 (.tmp 14) rfl b14 41 (arE x av uv kv) _ rfl (fun _ hs=>IP.out.b.fr hs IP.out.nb) Tryz.underlying41 rfl zk) hH ?_;try simp only [Act.put,zqA,zqB,zqC]
         refine Held.take 2 (v := .slice (some ⟨ab,ao,none⟩) n c) rfl zk zk zk (fun _ _ _ h=>h) (Or.inl ⟨rfl,fun (W:World) hs=>by go_simp⟩) hH ?_;try simp only [Act.put,zqA,zqB,zqC]
         refine Held.take 3 (v := .int .i64 (k:Nat)) rfl zk zk zk (fun _ _ _ h=>h) (Or.inl ⟨rfl,fun (W:World) hs=>by go_simp⟩) hH ?_;try simp only [Act.put,zqA,zqB,zqC]
         refine Held.take 4 (v := .pointer (some ⟨ab,ao+k * 8,none⟩)) rfl zk zk zk (fun _ _ _ h=>h) (Or.inl ⟨rfl,fun (W:World) hs=>by go_simp⟩) hH ?_;try simp only [Act.put,zqA,zqB,zqC]
         refine Held.take 5 (v := .agg #[.int .i64 (f k).kind, .int .i64 (f k).p.flags, .int .u32 (f k).p.seq, .int .u32 (f k).p.ack, .int .u16 (f k).p.win, .slice pA (f k).p.d.length pc, .bool (f k).near, .slice dA (f k).d.length dc]) rfl zk zk zk (fun _ _ _ h=>h) (Or.inl ⟨rfl,fun (W:World) hs=>by have d:=qfm (HC.out W hs);obtain⟨d0,d1,d2,d3,d4,d5,d6,d7⟩:=d;go_simp⟩) hH ?_;try simp only [Act.put,zqA,zqB,zqC]
         refine Held.two (i:=6) (j:=10) zk rfl rfl (fun K hK=>?_) (fun K hK=>?_);all_goals rw [if_pos zr]
         ·go_simp
          go_at_call 10;refine (HDO.out wd fd).mono ?_;rintro e w5 ⟨S5,H5,a2,u2,k2,rfl,e5,lk5,m5,r5,f5⟩;have o2:=r5.qN;have fd5:Fr H.own wr w5:=(fd.mono zs).trans f5 (fun b hb => .inl hb);try go_wp2_with fail
          refine hK.out _ _ fd5 (fun h5=>?_);clear hK K hH;try simp only [Act.put,zqA,zqB,zqC]
          refine Held.take 7 (v := .tuple #[agE y a2 u2 k2, .bool true]) rfl zk zk zk (fun _ _ _ h=>h) (Or.inl ⟨rfl,fun (W:World) hs=>by go_simp⟩) h5 ?_;try simp only [Act.put,zqA,zqB,zqC]
          refine Held.take 8 (v:=agE y a2 u2 k2) rfl zk zk zk (fun _ _ _ h=>h) (Or.inl ⟨rfl,fun (W:World) hs=>by go_simp⟩) h5 ?_;try simp only [Act.put,zqA,zqB,zqC]
          refine Held.take 9 (v := .bool true) rfl zk zk zk (fun _ _ _ h=>h) (Or.inl ⟨rfl,fun (W:World) hs=>by go_simp⟩) h5 ?_;try simp only [Act.put,zqA,zqB,zqC]
          refine Held.one (i:=10) zk rfl (fun K hK=>?_);go_simp;try go_wp2_with fail
          refine hK.out _ _ (h5.alloc _) (fun h6=>?_);clear hK K;try simp only [Act.put,zqA,zqB,zqC]
          refine Held.one (i:=11) zk rfl (fun K hK=>?_);refine Held.vY rfl 41 (.tmp 16) (.tmp 81) rfl w5.heap.size 41 qy (arE y a2 u2 k2) rfl rfl (Blk.new w5 41 qy) rfl zk (o2.out _) ?_;intro wz Bz Fz;refine hK.out _ _ (h6.trans Fz (fun z hz => .inr (by simp at hz;have:=fd5.size;omega))) (fun h7=>?_);clear hK K;try simp only [Act.put,zqA,zqB,zqC]
          refine Held.take 12 (v := .bool true) rfl zk zk zk (fun _ _ _ h=>h) (Or.inl ⟨rfl,fun (W:World) hs=>by go_simp⟩) h7 ?_;try simp only [Act.put,zqA,zqB,zqC]
          refine Held.done zk ?_;go_wp2_with fail
          go_meet;exact⟨_,_,S5,H5,a2,u2,k2,rfl,rfl,rfl,mid_a e5 lk5 m5 r5 f5 fd IP.out.b IP.out.nb IP.out.f.size Bz Fz⟩
         ·go_simp
          try go_wp2_with fail
          refine hK.out _ _ (hH.alloc _) (fun h5=>?_);clear hK K;try simp only [Act.put,zqA,zqB,zqC]
          refine Held.one (i:=6) zk rfl (fun K hK=>?_);go_simp;go_at_call 10;refine (HDO.out (wd.alloc (.cells qy 41)) (fd.alloc _)).mono ?_;rintro e w5 ⟨S5,H5,a2,u2,k2,rfl,e5,lk5,m5,r5,f5⟩;have o2:=r5.qN;have fd5:Fr H.own wr w5:=((fd.alloc _).mono zs).trans f5 (fun b hb => .inl hb);have Ba:Blk w5 wd.heap.size 41 qy:=(Blk.new wd 41 qy).fr f5 (fun hb=>by have:=HLT.out _ hb;have:=fd.size;omega);try go_wp2_with fail
          refine hK.out _ _ fd5 (fun h6=>?_);clear hK K hH h5;try simp only [Act.put,zqA,zqB,zqC]
          refine Held.take 7 (v := .tuple #[agE y a2 u2 k2, .bool true]) rfl zk zk zk (fun _ _ _ h=>h) (Or.inl ⟨rfl,fun (W:World) hs=>by go_simp⟩) h6 ?_;try simp only [Act.put,zqA,zqB,zqC]
          refine Held.take 8 (v:=agE y a2 u2 k2) rfl zk zk zk (fun _ _ _ h=>h) (Or.inl ⟨rfl,fun (W:World) hs=>by go_simp⟩) h6 ?_;try simp only [Act.put,zqA,zqB,zqC]
          refine Held.take 9 (v := .bool true) rfl zk zk zk (fun _ _ _ h=>h) (Or.inl ⟨rfl,fun (W:World) hs=>by go_simp⟩) h6 ?_;try simp only [Act.put,zqA,zqB,zqC]
          refine Held.one (i:=11) zk rfl (fun K hK=>?_);refine Held.vY rfl 41 (.tmp 16) (.tmp 81) rfl wd.heap.size 41 qy (arE y a2 u2 k2) rfl rfl Ba rfl zk (o2.out _) ?_;intro wz Bz Fz;refine hK.out _ _ (h6.trans Fz (fun z hz => .inr (by simp at hz;have:=fd.size;omega))) (fun h7=>?_);clear hK K;try simp only [Act.put,zqA,zqB,zqC]
          refine Held.take 12 (v := .bool true) rfl zk zk zk (fun _ _ _ h=>h) (Or.inl ⟨rfl,fun (W:World) hs=>by go_simp⟩) h7 ?_;try simp only [Act.put,zqA,zqB,zqC]
          refine Held.done zk ?_;go_wp2_with fail
          go_meet;exact⟨_,_,S5,H5,a2,u2,k2,rfl,rfl,rfl,mid_b e5 lk5 m5 r5 f5 fd IP.out.b IP.out.nb IP.out.f.size HSP.out HLT.out Bz Fz⟩
        case rest=>
         obtain⟨wz,b12,S5,H5,a2,u2,k2,rfl,rfl,rfl,pm⟩:=hcut;have o2:=pm.r.qN;have PM:=hI pm;clear pm HDO HC HLT HSP;go_upto_region 17 with fail
         go_upto_region 13 with (first
          | ((with_reducible refine qj 41 (.tmp 16) ?_);refine qf rfl 41 (.tmp 16) rfl b12 41 (arE y a2 u2 k2) _ rfl PM.out.B12 Tryz.underlying41 rfl zk ?_)|((with_reducible refine qi 41 (.tmp 14) ?_);refine qc rfl 41 (.tmp 14) (.tmp 85) rfl b14 41 (arE x av uv kv) (arE y a2 u2 k2) rfl rfl PM.out.B9 rfl zk (o2.out _) ?_;intro wy By Fy))
         have hmid:=MID.out.step HAOK.out zw HYY.out.symm PM.out.e PM.out.lk PM.out.m PM.out.r PM.out.f (Fy.mono zs) ⟨PM.out.n12.1,PM.out.n12.2.1,PM.out.nw⟩ By;have HREL:Hid (qip w b9 b14 gc g gd n1 n f xm am um km (.int .i64 ((k+1:Nat):Int)) wy):=hI ⟨k+1,S5,Hs,H5,Hd',y,a2,u2,k2,zw,rfl,PM.out.lk.g.trans HG.out,HGS.out,HGD.out,by rw [<- HYY.out,HXE.out];rfl,hmid⟩;clear hmid By Fy;go_wp2_with fail
         go_roundw;case rel=>simpa using HREL.out
         case measure=>simp [intOf];omega
       ·obtain rfl:n=k:=zw
        have SSD:Hid (∀ W,Fr [] wr W->Calls Tryz.prog 12 #[ptr g,ptr gd] W fun e w'=>e = .returned (.bool true)/\Fr [] W w'):=hI (fun W f=>by have:=qjm (MID.out.s.m.fr f) (MID.out.d.m.fr f) HFX.out.ok.s;rw [HGS.out,HGD.out] at this;exact this);have SIs:Hid (∀ W,Fr [] wr W->Calls Tryz.prog 13 #[ptr g] W fun e w'=>e = .returned (.agg (stA xm))/\Fr [] W w'):=hI (fun W f=>by have:=qoa (MID.out.s.m.fr f) HFX.out.ok.s;rw [HGS.out] at this;exact this);have REs:Hid (∀ W,Fr [] wr W->Calls Tryz.prog 14 #[agE xm am um km] W fun e w'=>e = .returned (.agg (stA xm))/\Fr [] W w'):=hI (fun W f=>estate (MID.out.r.fr f));have V9:Hid (∀ W,Fr [] wr W->Blk W b9 41 (arE xm am um km)):=hI (fun W f=>MID.out.b.fr f zs);have HT:=hI (MID.out.turn HFX.out HAL.out.1 HAL.out.2.1 HAL.out.2.2);have ETOP:Hid (x=qjo f n xm):=HXE;clear ip hg IP;go_upto_region 18 with fail
        refine wp_region_held_drew (S:=fun W=>Fr [] wr W) zk (Fr.refl _ wr).drew (fun hH=>?_);have fd:Fr [] wr wr.drew:=(Fr.refl [] wr).drew;generalize wr.drew=wd at *
        have hWW0:=fd;refine Held.take 0 (v:=ptr g) rfl zk zk zk (fun _ _ _ h=>h) (Or.inl ⟨rfl,fun (W:World) hs=>by go_simp⟩) hH ?_;try simp only [Act.put,zqA,zqB,zqC]
        refine Held.take 1 (v:=ptr gd) rfl zk zk zk (fun _ _ _ h=>h) (Or.inl ⟨rfl,fun (W:World) hs=>by go_simp⟩) hH ?_;try simp only [Act.put,zqA,zqB,zqC]
        refine Held.one (i:=2) zk rfl (fun K hK=>?_);go_simp;go_at_call 12;refine (SSD.out _ fd).mono ?_;rintro e ws ⟨rfl,fs⟩;try go_wp2_with fail
        refine hK.out _ _ (hH.trans fs zs) (fun h3=>?_);clear hK K;try simp only [Act.put,zqA,zqB,zqC]
        have hWW:=fd.trans fs zs;refine Held.take 3 (v := .bool false) rfl zk zk zk (fun _ _ _ h=>h) (Or.inl ⟨rfl,fun (W:World) hs=>by go_simp⟩) h3 ?_;try simp only [Act.put,zqA,zqB,zqC]
        refine Held.take 4 (v := .bool false) rfl zk zk zk (fun _ _ _ h=>h) (Or.inl ⟨rfl,fun (W:World) hs=>by go_simp⟩) h3 ?_;try simp only [Act.put,zqA,zqB,zqC]
        refine Held.take 5 (v:=ptr g) rfl zk zk zk (fun _ _ _ h=>h) (Or.inl ⟨rfl,fun (W:World) hs=>by go_simp⟩) h3 ?_;try simp only [Act.put,zqA,zqB,zqC]
        refine Held.take 7 rfl zk zk zk (fun _ _ _ h=>h) (Held.yc rfl 41 (.tmp 9) rfl b9 41 (arE xm am um km) _ rfl (fun _ hs=>V9.out _ hs) Tryz.underlying41 rfl zk) h3 ?_;try simp only [Act.put,zqA,zqB,zqC]
        refine Held.one (i:=6) zk rfl (fun K hK=>?_);rw [if_pos zr];go_simp;go_at_call 13;refine ((SIs.out _ hWW).mono ?_);rintro e wu ⟨rfl,fu⟩;try go_wp2_with fail
        refine hK.out _ _ (h3.trans fu zs) (fun hu=>?_);clear hK K;try simp only [Act.put,zqA,zqB,zqC]
        have hWU:=hWW.trans fu zs;refine Held.one (i:=8) zk rfl (fun K hK=>?_);rw [if_pos zr];go_simp;go_at_call 14;refine ((REs.out _ hWU).mono ?_);rintro e wv ⟨rfl,fv⟩;try go_wp2_with fail
        refine hK.out _ _ (hu.trans fv zs) (fun hv=>?_);clear hK K;try simp only [Act.put,zqA,zqB,zqC]
        have hWV:=hWU.trans fv zs;refine Held.take 9 (v := .bool false) rfl zk zk zk (fun _ _ _ h=>h) (Or.inl ⟨rfl,fun (W:World) hs=>by have d1:=neq_stA xm W;have d2:=qjl;go_simp⟩) hv ?_;try simp only [Act.put,zqA,zqB,zqC]
        refine Held.take 10 (v := .bool false) rfl zk zk zk (fun _ _ _ h=>h) (Or.inl ⟨rfl,fun (W:World) hs=>by go_simp⟩) hv ?_;try simp only [Act.put,zqA,zqB,zqC]
        refine Held.done zk ?_;have hst:qiq w b9 g gc n1 n f xm x (.int .i64 (0:Nat)) wv:=⟨0,S,Hs,H,xm,am,um,km,Nat.zero_le _,rfl,HGS.out,HG.out,MID.out.nc,rfl,by
         have q:=HT.out.1;exact⟨q.m.fr hWV,q.r.fr hWV,q.fx,q.al,q.nw,q.la,q.b.fr hWV zs,q.nb,q.ns,q.s0,q.f.trans hWV zs,q.n0⟩,HT.out.2.fr hWV zs zs⟩
        have HST:=hI hst;clear hst hv hu hWV hWU hWW fv fu h3 hH fd fs hWW0 SSD SIs REs V9 HT MID HGS HGD HG HXE HFX HAL;generalize x=xe at *
        go_wp2_with fail
        go_loopw [18] (fun s18 wr=>qiq w b9 g gc n1 n f xm xe s18 wr) (fun s18 _=>n - (intOf s18).toNat);case atStart=>exact HST.out
        case round=>
         obtain⟨k,S,H,Hc,x,av,uv,kv,hk,rfl,hg,hgc,hnc,hx,ip,oth⟩:=hrel;have IP:=hI ip;have HG:=hI hg;have HGC:=hI hgc;have HNC:=hI hnc;have HXE:=hI hx;have OTH:=hI oth;clear HST hgc hnc hx oth;by_cases hkn:k<n
         ·have hacts:∀ W,Fr (b9::H.own) wr W->qdi W w.heap.size A n f:=fun W fW=>(H0.out.fr ip.f (Nat.le_refl _) zs).fr fW ip.f.size (fun b hb=>by first|exact ip.la b hb|(rcases List.mem_cons.1 hb with rfl|hb;exact ip.n0;exact ip.la b hb))
          obtain⟨hnum,ab,ao,pA,pc,dA,dc,rfl,hab,hcell,hpb,hdb⟩:=hacts wr (Fr.refl _ _) k hkn;have hcells:∀ W,Fr (b9::H.own) wr W->∀ j v,(arA (f k) pA pc dA dc)[j]?=some v->W.cell? ⟨ab,ao+k * 8+j,none⟩=some v:=fun W fW j v hj=>(fW.cell (p:=⟨ab,ao+k * 8+j,none⟩) (by have:=ip.f.size;show ab<_;omega) (fun hm=>by
           have:w.heap.size<=ab:=(by first|exact ip.la _ hm|(rcases List.mem_cons.1 hm with hq|hq;(dsimp only at hq;rw [hq];exact ip.n0);exact ip.la _ hq));omega)).trans (hcell j v hj)
          have haok:=hnum.ok (HD.out k hkn).2 (HD.out k hkn).1;have hdo:=fun W (fW:Fr [] wr W)=>qdd (ip.m.fr fW) (ip.r.fr fW) ip.fx (f k) haok (by have:=ip.al;omega) (by have:=ip.nw;omega) pA pc dA dc ((hpb.mono ip.s0).fr fW zs) ((hdb.mono ip.s0).fr fW zs);rw [hg] at hdo;generalize hyy:jc x (f k)=y at *
          have HYY:=hI hyy;have HDO:Hid (∀ W,Fr [] wr W->Calls Tryz.prog 10 #[ptr g,agE x av uv kv, .agg (arA (f k) pA pc dA dc)] W (jM S W H y)):=hI hdo;have HC:=hI hcells;have HAOK:=hI haok;have HLT:Hid (∀ b∈H.own,b<wr.heap.size):=hI ip.m.lt;have HSP:Hid (∀ b,S b->b<wr.heap.size):=hI (HP.zA ip.m.hp);have o1:=ip.r.qN;have dk:decide ((k:Int)<(n:Int))=true:=(by simpa using hkn);clear hacts hnum hcell hpb hdb hcells haok hdo hyy ip hg;go_upto_region 23 with fail
          refine wp_region_held_drew (S:=fun W=>Fr (b9::H.own) wr W) zk (Fr.refl _ wr).drew (fun hH=>?_);have fd:Fr [] wr wr.drew:=(Fr.refl [] wr).drew;generalize wr.drew=wd at *
          refine Held.take 0 (v:=ptr g) rfl zk zk zk (fun _ _ _ h=>h) (Or.inl ⟨rfl,fun (W:World) hs=>by go_simp⟩) hH ?_;try simp only [Act.put,zqA,zqB,zqC]
          refine Held.take 2 (v := .slice (some ⟨ab,ao,none⟩) n c) rfl zk zk zk (fun _ _ _ h=>h) (Or.inl ⟨rfl,fun (W:World) hs=>by go_simp⟩) hH ?_;try simp only [Act.put,zqA,zqB,zqC]
          refine Held.take 3 (v := .int .i64 (k:Nat)) rfl zk zk zk (fun _ _ _ h=>h) (Or.inl ⟨rfl,fun (W:World) hs=>by go_simp⟩) hH ?_;try simp only [Act.put,zqA,zqB,zqC]
          refine Held.take 4 (v := .pointer (some ⟨ab,ao+k * 8,none⟩)) rfl zk zk zk (fun _ _ _ h=>h) (Or.inl ⟨rfl,fun (W:World) hs=>by go_simp⟩) hH ?_;try simp only [Act.put,zqA,zqB,zqC]
          refine Held.take 5 (v := .agg #[.int .i64 (f k).kind, .int .i64 (f k).p.flags, .int .u32 (f k).p.seq, .int .u32 (f k).p.ack, .int .u16 (f k).p.win, .slice pA (f k).p.d.length pc, .bool (f k).near, .slice dA (f k).d.length dc]) rfl zk zk zk (fun _ _ _ h=>h) (Or.inl ⟨rfl,fun (W:World) hs=>by have d:=qfm (HC.out W hs);obtain⟨d0,d1,d2,d3,d4,d5,d6,d7⟩:=d;go_simp⟩) hH ?_;try simp only [Act.put,zqA,zqB,zqC]
          refine Held.one (i:=1) zk rfl (fun K hK=>?_);refine Held.qof rfl 41 (.tmp 9) rfl b9 41 (arE x av uv kv) _ rfl (IP.out.b.fr fd zs) Tryz.underlying41 rfl zk ?_;refine hK.out _ _ hH (fun _=>?_);clear hK K;try simp only [Act.put,zqA,zqB,zqC]
          refine Held.one (i:=6) zk rfl (fun K hK=>?_);go_simp;go_at_call 10;refine (HDO.out wd fd).mono ?_;rintro e w5 ⟨S5,H5,a2,u2,k2,rfl,e5,lk5,m5,r5,f5⟩;have o2:=r5.qN;have fd5:Fr (b9::H.own) wr w5:=(fd.mono zs).trans f5 (fun b hb => .inl (List.mem_cons_of_mem _ hb));have B5:=(IP.out.b.fr fd zs).fr f5 IP.out.nb;try go_wp2_with fail
          refine hK.out _ _ fd5 (fun h5=>?_);clear hK K hH;try simp only [Act.put,zqA,zqB,zqC]
          refine Held.take 7 (v := .tuple #[agE y a2 u2 k2, .bool true]) rfl zk zk zk (fun _ _ _ h=>h) (Or.inl ⟨rfl,fun (W:World) hs=>by go_simp⟩) h5 ?_;try simp only [Act.put,zqA,zqB,zqC]
          refine Held.take 8 (v:=agE y a2 u2 k2) rfl zk zk zk (fun _ _ _ h=>h) (Or.inl ⟨rfl,fun (W:World) hs=>by go_simp⟩) h5 ?_;try simp only [Act.put,zqA,zqB,zqC]
          refine Held.take 9 (v := .bool true) rfl zk zk zk (fun _ _ _ h=>h) (Or.inl ⟨rfl,fun (W:World) hs=>by go_simp⟩) h5 ?_;try simp only [Act.put,zqA,zqB,zqC]
          refine Held.one (i:=10) zk rfl (fun K hK=>?_);refine Held.vY rfl 41 (.tmp 9) (.tmp 111) rfl b9 41 (arE x av uv kv) (arE y a2 u2 k2) rfl rfl B5 rfl zk (o2.out _) ?_;intro wz Bz Fz;refine hK.out _ _ (h5.trans Fz (fun z hz => .inl (by simp at hz;simp [hz]))) (fun h7=>?_);clear hK K;try simp only [Act.put,zqA,zqB,zqC]
          refine Held.done zk ?_;have hz5:=fd.size;have hfw:Fr H.own wr w5:=(fd.mono zs).trans f5 (fun b hb => .inl hb);have hlk:Hd.like wr H H5:=⟨lk5.g,lk5.gw,lk5.gc,lk5.gh,fun b hb=>(lk5.own b hb).imp id (fun h=>by omega)⟩;have hip:=IP.out.step1 HAOK.out zw HYY.out.symm (kM e5 hz5) hlk m5 r5 hfw Fz Bz;have hot:=(OTH.out.step IP.out.m (kM e5 hz5) hlk hfw (HP.zA m5.hp)).fr Fz (fun y hy=>by simp at hy;rw [hy];exact HNC.out) (fun y hy=>by simp at hy;rw [hy];exact hip.ns);have HREL:Hid (qiq w b9 g gc n1 n f xm xe (.int .i64 ((k+1:Nat):Int)) wz):=hI ⟨k+1,S5,H5,Hc,y,a2,u2,k2,zw,rfl,lk5.g.trans HG.out,HGC.out,HNC.out,by rw [<- HYY.out,HXE.out];rfl,hip,hot⟩;clear hip hot hfw hlk e5 lk5 m5 r5 f5 fd fd5 h5 h7 Fz Bz B5 HDO HC IP HAOK HLT HSP HYY o1 o2;go_wp2_with fail
          go_roundw;case rel=>simpa using HREL.out
          case measure=>simp [intOf];omega
         ·obtain rfl:n=k:=zw
          have hxx:x=xe:=(by rw [HXE.out,ETOP.out]);have SSE:Hid (∀ W,Fr [] wr W->Calls Tryz.prog 12 #[ptr g,ptr gc] W fun e w'=>e = .returned (.bool true)/\Fr [] W w'):=hI (fun W fW=>by
           have m2:=OTH.out.m.fr fW;rw [<- hxx] at m2;have:=qjm (IP.out.m.fr fW) m2 IP.out.fx.ok.s;rw [HG.out,HGC.out] at this;exact this)
          have FWR:=hI IP.out.f;clear hg ip hxx;go_wp2_with fail
          refine (SSE.out _ (Fr.refl _ _)).mono ?_;rintro e ws ⟨rfl,fs⟩;have FS:=hI (FWR.out.trans fs zs);clear fs;go_wp2_with fail
          refine (yX _).mono ?_;rintro e wk ⟨rfl,fk⟩;have fe:=FS.out.trans fk zs;clear fk;go_wp2_with fail
          go_ret;exact⟨rfl,fe⟩
  ·clear hf2 HF2
   have FB:=hI (FA.out.trans fb zs);clear fb;go_wp2_with fail
   refine (yX _).mono ?_;rintro e wk ⟨rfl,fk⟩;have fe:=(FB.out).trans fk zs;clear fk;go_wp2_with fail
   go_ret;exact⟨rfl,fe⟩
 ·clear hf1 HF1 HF2
  have FB:=hI fa;clear fa;go_wp2_with fail
  refine (yX _).mono ?_;rintro e wk ⟨rfl,fk⟩;have fe:=(FB.out).trans fk zs;clear fk;go_wp2_with fail
  go_ret;exact⟨rfl,fe⟩
end Go.Proofs.YtmgdbbbdhkfdmaaGreat
namespace Go.Proofs.YtmgdbbbdhkfdmaaGreat
set_option maxRecDepth 100000
open Go.RowKit Go.ChangeShapes Go.WideShapes Go.Deep
section
variable {H:Type} {enc:TypeId × Value->H} {w:World} {base:Nat} {spare:Nat->Bool} {held:Bool}
theorem qde{fuel:Nat}{v:Value}{x:DataW H × List MemPlace}(h:DataW.trod enc Tryz.prog w base spare held fuel 30 [v]=some x):∃(d:List Int) (A:Option Addr) (c:Nat),v = .slice A d.length c/\Byt (fun b=>b<w.heap.size) w (.slice A d.length c) d:=by
 have h0:=h;have key:∃ d:List Int,Byt (fun b=>b<w.heap.size) w v d:=by
  rcases Go.Deep.open_slice1 Tryz.underlying30 zk h with ⟨hcs,_⟩|⟨a,l,c,m,n,V,D,Pl,hcs,_,hl,hm,hmm,_,hcell⟩
  ·simp at hcs
   subst hcs;exact⟨[],Byt.nil⟩
  ·simp at hcs
   subst hcs;obtain⟨qq,hr,_,_⟩:=reads_ints Tryz.underlying30 Tryz.underlying5 zk h0;refine⟨(List.range l).map qq,?_⟩;unfold Byt;rw [show ((List.range l).map qq).length=l by simp];refine⟨by simp [kE],some a,c,rfl,hl,hm,fun h1=>?_⟩;obtain⟨ad,e,hb,hc⟩:=hr 0 h1;injection e with e;subst e;obtain⟨b,o,spot⟩:=a;have hsp:spot=none:=by simpa [Addr.add] using World.cell?_spot hc
   subst hsp;refine⟨b,o,rfl,hb,fun j u hj=>?_⟩;have hjl:j<l:=by
    rcases Nat.lt_or_ge j l with h'|h'
    ·exact h'
    ·simp [kE,List.getElem?_eq_none (show (List.range l).length<=j by simpa using h')] at hj
   obtain⟨ad',e',_,hc'⟩:=hr j hjl;injection e' with e';subst e';rw [jZ] at hc';rw [hc',<- hj];simp [kE,hjl]
 obtain⟨d,hd⟩:=key;obtain⟨A,c,e,_,_⟩:=hd.form;subst e;exact⟨d,A,c,rfl,hd⟩
theorem qir{fuel:Nat}{cs:List Value}{x:DataW H × List MemPlace}(h:DataW.trod enc Tryz.prog w base spare held fuel 49 cs=some x) :
  ∃(fl sq ak wi:Int) (A:Option Addr) (c:Nat) (d:List Int),cs=[.int .i64 fl, .int .u32 sq, .int .u32 ak, .int .u16 wi, .slice A d.length c]/\(0<=sq/\sq<4294967296)/\(0<=ak/\ak<4294967296)/\(0<=wi/\wi<65536)/\Byt (fun b=>b<w.heap.size) w (.slice A d.length c) d:=by
 have hu:∃ f0 f1 f2 f3 f4:Field,Tryz.prog.underlying 49=some (.struct #[f0,f1,f2,f3,f4])/\f0.type=46/\f1.type=22/\f2.type=22/\f3.type=47/\f4.type=30/\oneCellFields Tryz.prog #[f0,f1,f2,f3,f4]=true:=⟨_,_,_,_,_,Tryz.underlying49,rfl,rfl,rfl,rfl,rfl,zk⟩;obtain⟨f0,f1,f2,f3,f4,hs,t0,t1,t2,t3,t4,hone⟩:=hu;obtain⟨xs,n,_,_,hl,hlen,hf⟩:=DataW.trod_struct hs h;rw [show Tryz.prog.cellsOf 49=5 by kernel_rfl] at hl
 match cs,hl,xs,hlen with
 | [c0,c1,c2,c3,c4],_,[y0,y1,y2,y3,y4],_=>
  have g0:=hf 0 f0 rfl;have g1:=hf 1 f1 rfl;have g2:=hf 2 f2 rfl;have g3:=hf 3 f3 rfl;have g4:=hf 4 f4 rfl;have k:=hone_of hone;obtain⟨a0,b0⟩:=k 0 f0 rfl;obtain⟨a1,b1⟩:=k 1 f1 rfl;obtain⟨a2,b2⟩:=k 2 f2 rfl;obtain⟨a3,b3⟩:=k 3 f3 rfl;obtain⟨a4,b4⟩:=k 4 f4 rfl;rw [a0,b0,t0] at g0;rw [a1,b1,t1] at g1;rw [a2,b2,t2] at g2;rw [a3,b3,t3] at g3;rw [a4,b4,t4] at g4;obtain⟨q0,e0,_,_⟩:=DataW.trod_int Tryz.underlying46 (x:=y0) (cs:=[c0]) g0;obtain⟨q1,e1,_,w1⟩:=DataW.trod_int Tryz.underlying22 (x:=y1) (cs:=[c1]) g1;obtain⟨q2,e2,_,w2⟩:=DataW.trod_int Tryz.underlying22 (x:=y2) (cs:=[c2]) g2;obtain⟨q3,e3,_,w3⟩:=DataW.trod_int Tryz.underlying47 (x:=y3) (cs:=[c3]) g3;obtain⟨d,A,c,e4,hd⟩:=qde (x:=y4) (v:=c4) g4;simp only [List.cons.injEq,and_true] at e0 e1 e2 e3;subst e0 e1 e2 e3 e4;exact⟨q0,q1,q2,q3,A,c,d,rfl,wf_u32 w1,wf_u32 w2,wf_u16 w3,hd⟩
theorem qlp{fuel:Nat}{cs:List Value}{x:DataW H × List MemPlace}(h:DataW.trod enc Tryz.prog w base spare held fuel 51 cs=some x) :
  ∃(a:AC) (pA:Option Addr) (pc:Nat) (dA:Option Addr) (dc:Nat),cs.toArray=arA a pA pc dA dc/\ANum a/\Byt (fun b=>b<w.heap.size) w (.slice pA a.p.d.length pc) a.p.d/\Byt (fun b=>b<w.heap.size) w (.slice dA a.d.length dc) a.d:=by
 have hu:∃ f0 f1 f2 f3:Field,Tryz.prog.underlying 51=some (.struct #[f0,f1,f2,f3])/\(f0.type=3/\f0.offset=0)/\(f1.type=49/\f1.offset=1)/\(f2.type=4/\f2.offset=6)/\(f3.type=30/\f3.offset=7):=⟨_,_,_,_,Tryz.underlying51,⟨rfl,rfl⟩,⟨rfl,rfl⟩,⟨rfl,rfl⟩,⟨rfl,rfl⟩⟩;obtain⟨f0,f1,f2,f3,hs,⟨t0,a0⟩,⟨t1,a1⟩,⟨t2,a2⟩,⟨t3,a3⟩⟩:=hu;obtain⟨xs,n,_,_,hl,hlen,hf⟩:=DataW.trod_struct hs h;rw [show Tryz.prog.cellsOf 51=8 by kernel_rfl] at hl
 match cs,hl,xs,hlen with
 | [c0,c1,c2,c3,c4,c5,c6,c7],_,[y0,y1,y2,y3],_=>
  have g0:=hf 0 f0 rfl;have g1:=hf 1 f1 rfl;have g2:=hf 2 f2 rfl;have g3:=hf 3 f3 rfl;rw [a0,t0,show Tryz.prog.cellsOf 3=1 by kernel_rfl] at g0;rw [a1,t1,show Tryz.prog.cellsOf 49=5 by kernel_rfl] at g1;rw [a2,t2,show Tryz.prog.cellsOf 4=1 by kernel_rfl] at g2;rw [a3,t3,show Tryz.prog.cellsOf 30=1 by kernel_rfl] at g3;obtain⟨q0,e0,_,_⟩:=DataW.trod_int Tryz.underlying3 (x:=y0) (cs:=[c0]) g0;obtain⟨fl,sq,ak,wi,pA,pc,pd,e1,n1,n2,n3,hp⟩:=qir (x:=y1) (cs:=[c1,c2,c3,c4,c5]) g1;obtain⟨q2,e2,_⟩:=DataW.trod_bool Tryz.underlying4 (x:=y2) (cs:=[c6]) g2;obtain⟨d,dA,dc,e3,hd⟩:=qde (x:=y3) (v:=c7) g3;simp only [List.cons.injEq,and_true] at e0 e1 e2;obtain⟨rfl,rfl,rfl,rfl,rfl⟩:=e1;subst e0 e2 e3;exact⟨⟨q0,⟨fl,sq,ak,wi,pd⟩,q2,d⟩,pA,pc,dA,dc,rfl,⟨n1.1,n1.2,n2.1,n2.2,n3.1,n3.2⟩,hp,hd⟩
end
theorem reads_acts{H:Type}{enc:TypeId × Value->H}{w:World}{base:Nat}{spare:Nat->Bool}{held:Bool}{fuel:Nat}{a:Option Addr}{len cap:Nat}{x:DataW H × List MemPlace}
  (h:DataW.trod enc Tryz.prog w base spare held fuel 23 [.slice a len cap]=some x):len<=maxLen/\∃ f,qdi w w.heap.size a len f:=by
 rcases open_slice Tryz.underlying23 h with ⟨hcs,_⟩|⟨ad,l,c,m,n,D,Pl,hcs,hb,hl,hm,hmm,hx,hi⟩
 ·simp at hcs
  obtain⟨rfl,rfl,rfl⟩:=hcs;exact⟨by simp [maxLen],fun _=>⟨0,⟨0,0,0,0,[]⟩,false,[]⟩,fun i hi=>absurd hi zw⟩
 ·simp at hcs
  obtain⟨rfl,rfl,rfl⟩:=hcs;have hlm:len<=m:=by rw [hmm];split <;> omega
  refine⟨zw,?_⟩;have hsp0:0<len->ad.spot=none:=fun hl0=>by
   obtain⟨cs',hc,ht⟩:=hi 0 zw;rw [show Tryz.prog.cellsOf 51=8 by kernel_rfl] at hc;obtain⟨_,hcl,hat⟩:=World.cells?_some hc;have h1:=hat 0 zw;rw [List.getElem?_eq_getElem zw,Nat.zero_mul,add_add'] at h1;have h9:=World.cell?_spot h1;simpa [Addr.add] using h9
  have key:∀ i,∃ p:AC,i<len->ANum p/\∃ b o pA pc dA dc,some ad=some ⟨b,o,none⟩/\b<w.heap.size/\(∀ j v,(arA p pA pc dA dc)[j]?=some v->w.cell? ⟨b,o+i * 8+j,none⟩=some v)/\Byt (fun b=>b<w.heap.size) w (.slice pA p.p.d.length pc) p.p.d/\Byt (fun b=>b<w.heap.size) w (.slice dA p.d.length dc) p.d:=by
   intro i;by_cases hil:i<len
   ·obtain⟨cs',hc,ht⟩:=hi i zw
    rw [show Tryz.prog.cellsOf 51=8 by kernel_rfl] at hc;obtain⟨p,pA,pc,dA,dc,e,hn,h1,h2⟩:=qlp ht;obtain⟨_,hcl,hat⟩:=World.cells?_some hc;refine⟨p,fun _=>⟨hn,?_⟩⟩;have hv:∀ j v,(arA p pA pc dA dc)[j]?=some v->w.cell? ((ad.add (i * 8)).add j)=some v:=by
     intro j v hj;rw [<- e,List.getElem?_toArray] at hj;have hj8:j<8:=(by rw [<- hcl];exact (List.getElem?_eq_some_iff.1 hj).1);rw [hat j hj8,hj]
    obtain⟨b,o,spot⟩:=ad;have h0:=hv 0 _ rfl;rw [add_add'] at h0;have hsp:spot=none:=hsp0 zw;subst hsp;have hlt:=World.block_lt_of_cell? w _ h0;rw [block_add] at hlt;refine⟨b,o,pA,pc,dA,dc,rfl,hlt,fun j v hj=>?_,h1,h2⟩;have:=hv j v hj;rw [add_add',jZ] at this;rw [<- this,Nat.add_assoc]
   ·exact⟨⟨0,⟨0,0,0,0,[]⟩,false,[]⟩,fun h=>absurd h hil⟩
  obtain⟨F,hF⟩:=Classical.axiomOfChoice key;exact⟨F,fun i hi=>hF i hi⟩
end Go.Proofs.YtmgdbbbdhkfdmaaGreat
