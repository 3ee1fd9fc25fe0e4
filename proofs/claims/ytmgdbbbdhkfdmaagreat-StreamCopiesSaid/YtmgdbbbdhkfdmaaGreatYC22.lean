import Derived.Test.YtmgdbbbdhkfdmaaGreatYC21
import Derived.Test.YtmgdbbbdhkfdmaaGreatYC20
import Derived.Deep.DeepCutAuto
import Derived.Test.YtmgdbbbdhkfdmaaGreatYC0
import Derived.Still
import Derived.Test.YtmgdbbbdhkfdmaaGreatYC2
set_option linter.unusedSimpArgs false
set_option linter.unusedVariables false
set_option maxHeartbeats 40000000
namespace Go.Proofs.YtmgdbbbdhkfdmaaGreat
set_option maxRecDepth 100000
open Go.RowKit Go.Deep
theorem qny{S:Nat->Prop}{w:World}{H:Hd}{x:St}(m:SI S w H x)(ok:OkS x):Calls Tryz.prog 36 #[ptr H.g] w (xq S w H (jo x)):=by
 have v5:=qbl x;have v3:=qbm x;have ve:=qbn x;have hwb:=Win.Inv.bd ok.hw;have hml:=ok.hm;have hal:=ok.hl;have ho:=qav x.fin;have ha:IntKind.i64.wrap (x.win.m+one x.fin)=x.win.m+one x.fin:=IntWalk.i64_in _ zw;have hpt:∀ W,Fr [] w W->Calls Tryz.prog 79 #[ptr H.g, .int .i64 8, .int .i64 (x.win.m+one x.fin), .slice none 0 0] W (qZ S W H (shows x) (kz x (2+8) (x.win.m+one x.fin) [])):=fun W fW=>yu (m.fr fW) ok.hi (by have:=ok.hu;omega) 8 _ (.inr (.inr rfl)) zw zw _ [] (fun _=>False) Byt.nil zs zs;have hd:(kz x (2+8) (x.win.m+one x.fin) []).d=[]:=rfl;have he:kz x 10 (x.win.m+one x.fin) []=kz x (2+8) (x.win.m+one x.fin) []:=rfl;rw [he] at v3;generalize kz x (2+8) (x.win.m+one x.fin) []=p at *
 obtain⟨pf,ps,pk,pw,pd⟩:=p;dsimp only at hd;subst hd;have cs:=qm m.blk;have c16:=cs.c16;have c0:=cs.c0;generalize jo x=r at *
 have M:=hI m;have HC:Hid (Rto.Inv x.clk):=hI ok.hc;have V5:=hI v5;have V3:=hI v3;have VE:=hI ve;have HPART:=hI hpt;have HSN:=hI (jY H.g H.gw w c16);clear m ok v5 v3 ve hwb hml hal ho hpt cs he;by_cases h5:x.at_=5
 ·rw [h5] at c0
  have H5:=hI h5;clear h5;go_enter Tryz.func36,Tryz.ntmps36;go_wp2_with (go_at_call 39;refine HSN.out.mono ?_;rintro e w' ⟨rfl,rfl⟩)
  go_ret2
  rw [V5.out H5.out];exact qdx M.out (Fr.refl _ _)
 ·have hd5:decide (x.at_=5)=false:=by simpa using h5
  have hq5:(x.at_ == 5)=false:=by simpa using h5
  have H5:=hI h5;clear h5;by_cases h3:x.at_=3
  ·have hd3:decide (x.at_=3)=true:=by simpa using h3
   have hq3:(x.at_ == 3)=true:=by simpa using h3
   have H3:=hI h3;clear h3;go_enter Tryz.func36,Tryz.ntmps36;go_upto_region 7 with (go_at_call 39;refine HSN.out.mono ?_;rintro e w' ⟨rfl,rfl⟩)
   have m3:=M.out;have HPt:Hid (∀ W,Fr [] w W->Calls Tryz.prog 79 #[ptr H.g, .int .i64 8, .int .i64 (x.win.m+one x.fin), .slice none 0 0] W (qZ S W H (shows x) ⟨pf,ps,pk,pw,[]⟩)):=HPART;have HSt:Hid (∀ W,Fr [] w W->Calls Tryz.prog 48 #[ptr H.gw] W _):=hI (fun W fW=>Win.kD H.gw x.win W (Blk.fr m3.win fW zs));have HFl:Hid (∀ W,Calls Tryz.prog 80 #[.bool x.fin] W _):=hI (fun W=>qak x.fin W);have c19:=(qm m3.blk).c19;clear m3;obtain⟨i0,hi0,hz0,hz1,hz2⟩:=info_parts jI;refine wp_region_held_drew (S:=fun W=>W.cell? ⟨H.g,16,none⟩=some (ptr H.gw)/\W.cell? ⟨H.g,19,none⟩=some (.bool x.fin)) zk ⟨ql (Fr.refl [] w).drew c16,ql (Fr.refl [] w).drew c19⟩ (fun hH=>?_);have fd:Fr [] w w.drew:=(Fr.refl [] w).drew;generalize w.drew=wd at *
   refine Held.take 0 (v:=(.slice none 0 0)) rfl zk zk zk (fun _ _ _ h=>h) (Or.inl ⟨rfl,fun (W:World) hs=>by go_simp⟩) hH ?_;try simp only [Act.put,zqA,zqB,zqC]
   refine Held.take 1 (v:=ptr H.g) rfl zk zk zk (fun _ _ _ h=>h) (Or.inl ⟨rfl,fun (W:World) hs=>by go_simp⟩) hH ?_;try simp only [Act.put,zqA,zqB,zqC]
   refine Held.take 2 (v:=ptr H.g) rfl zk zk zk (fun _ _ _ h=>h) (Or.inl ⟨rfl,fun (W:World) hs=>by go_simp⟩) hH ?_;try simp only [Act.put,zqA,zqB,zqC]
   refine Held.take 3 (v:=ptr H.g) rfl zk zk zk (fun _ _ _ h=>h) (Or.inl ⟨rfl,fun (W:World) hs=>by go_simp⟩) hH ?_;try simp only [Act.put,zqA,zqB,zqC]
   refine Held.take 4 (v := .pointer (some ⟨H.g,16,none⟩)) rfl zk zk zk (fun _ _ _ h=>h) (Or.inl ⟨rfl,fun (W:World) hs=>by go_simp⟩) hH ?_;try simp only [Act.put,zqA,zqB,zqC]
   refine Held.take 5 (v:=ptr H.gw) rfl zk zk zk (fun _ _ _ h=>h) (Or.inl ⟨rfl,fun (W:World) hs=>by have d:=hs.1;go_simp⟩) hH ?_;try simp only [Act.put,zqA,zqB,zqC]
   refine Held.take 8 (v:=ptr H.g) rfl zk zk zk (fun _ _ _ h=>h) (Or.inl ⟨rfl,fun (W:World) hs=>by go_simp⟩) hH ?_;try simp only [Act.put,zqA,zqB,zqC]
   refine Held.take 9 (v:=ptr H.g) rfl zk zk zk (fun _ _ _ h=>h) (Or.inl ⟨rfl,fun (W:World) hs=>by go_simp⟩) hH ?_;try simp only [Act.put,zqA,zqB,zqC]
   refine Held.take 10 (v := .pointer (some ⟨H.g,19,none⟩)) rfl zk zk zk (fun _ _ _ h=>h) (Or.inl ⟨rfl,fun (W:World) hs=>by go_simp⟩) hH ?_;try simp only [Act.put,zqA,zqB,zqC]
   refine Held.take 11 (v := .bool x.fin) rfl zk zk zk (fun _ _ _ h=>h) (Or.inl ⟨rfl,fun (W:World) hs=>by have d:=hs.2;go_simp⟩) hH ?_;try simp only [Act.put,zqA,zqB,zqC]
   refine Held.one (i:=6) zk rfl (fun K hK=>?_);go_simp;go_at_call 48;refine (HSt.out _ fd).mono ?_;rintro e w3 ⟨rfl,f3'⟩;have f3:Fr [] w w3:=fd.trans f3' zs;try go_wp2_with fail
   refine hK.out _ _ ⟨ql f3 c16,ql f3 c19⟩ (fun h3=>?_);clear hK K;try simp only [Act.put,zqA,zqB,zqC]
   clear hH f3' fd;refine Held.take 7 (v := .int .i64 x.win.m) rfl zk zk zk (fun _ _ _ h=>h) (Or.inl ⟨rfl,fun (W:World) hs=>by go_simp⟩) h3 ?_;try simp only [Act.put,zqA,zqB,zqC]
   refine Held.one (i:=12) zk rfl (fun K hK=>?_);go_simp;go_at_call 80;refine (HFl.out _).mono ?_;rintro e w4 ⟨rfl,rfl⟩;try go_wp2_with fail
   refine hK.out _ _ h3 (fun h4=>?_);clear hK K;try simp only [Act.put,zqA,zqB,zqC]
   refine Held.take 13 (v := .int .i64 (x.win.m+one x.fin)) rfl zk zk zk (fun _ _ _ h=>h) (Or.inl ⟨rfl,fun (W:World) hs=>by go_simp⟩) h4 ?_;try simp only [Act.put,zqA,zqB,zqC]
   refine Held.one (i:=14) zk rfl (fun K hK=>?_);go_simp;go_at_call 79;refine (HPt.out _ f3).mono ?_;rintro e w5 ⟨S5,A5,c5,rfl,x5,by5,m5,f5⟩;try go_wp2_with fail
   refine hK.out _ _ ⟨(qm m5.blk).c16,(qm m5.blk).c19⟩ (fun h5=>?_);clear hK K;try simp only [Act.put,zqA,zqB,zqC]
   clear h3 h4;refine Held.one (i:=15) zk rfl (fun K hK=>?_);go_simp;try go_wp2_with fail
   refine hK.out _ _ ⟨ql ((Fr.refl [] w5).alloc _) h5.1,ql ((Fr.refl [] w5).alloc _) h5.2⟩ (fun h6=>?_);clear hK K;try simp only [Act.put,zqA,zqB,zqC]
   have hw5:=jU (S1:=S5) (p:=⟨pf,ps,pk,pw,[]⟩) (Pr.nil (w:=w5)) (Fr.refl [H.g] w5) zb by5;refine Held.one (i:=16) zk rfl (fun K hK=>?_);refine zn _ zr (.tmp 30) (.tmp 45) 27 zr 49 i0 (.agg #[.int .i64 0, .int .u32 0, .int .u32 0, .int .u16 0, .slice none 0 0]) 5 48 Tryz.underlying27 hi0 hz0 hz1 hz2 zr zd (.slice none 0 0) 0 [] zr hw5.1 (fun _=>True) (.slice (some ⟨w5.heap.size,0,none⟩) 1 1) 1 [.int .i64 pf, .int .u32 ps, .int .u32 pk, .int .u16 pw, .slice A5 0 c5] zr hw5.2 (qfg ⟨pf,ps,pk,pw,[]⟩ _ _ _) (by unfold maxLen;omega) zw 1 rfl ?_;intro A7 c7 w7 g1 g2 g3;refine hK.out _ _ ⟨ql (g2.mono (O':=[]) zb) h6.1,ql (g2.mono (O':=[]) zb) h6.2⟩ (fun h7=>?_);clear hK K;try simp only [Act.put,zqA,zqB,zqC]
   refine Held.take 17 (v := .slice A7 1 c7) rfl zk zk zk (fun _ _ _ h=>h) (Or.inl ⟨rfl,fun (W:World) hs=>by go_simp⟩) h7 ?_;try simp only [Act.put,zqA,zqB,zqC]
   refine Held.done zk ?_;have fa:Fr [] w5 w7:=((Fr.refl [] w5).alloc _).trans (g2.mono (O':=[]) zb) zs;have hz3:=f3.size;have hz5:=f5.size;have n7:∀ b∈ob (.slice A7 1 c7),w.heap.size<=b/\¬ S5 b:=fun b hb=>by
    rcases g3 b (qo.1 hb) with h|h
    ·simp [Value.ownBlock] at h
    ·have h1:=h.1
     simp at h1;exact⟨zw,fun hs=>by have:=HP.zA m5.hp b hs;omega⟩
   have X5:=hI (kM x5 f3.size);have m7:=m5.fr fa;have P7:Hid (Pr S5 w7 (.slice A7 1 c7) [(⟨pf,ps,pk,pw,[]⟩, .slice A5 0 c5)]):=hI (Pr.app (L:=[]) (Pr.nil (w:=w5.alloc (.cells (arP ⟨pf,ps,pk,pw,[]⟩ (.slice A5 0 c5)) 49))) g1 g2 zb (by5.fr ((Fr.refl [] w5).alloc _) zs));have F7:Hid (Fr [H.g] w w7):=hI (((f3.mono zs).trans f5 (fun y hy => .inl hy)).trans fa zs);have N7:=hI n7;have M7:=hI m7;clear fa hz3 hz5 n7 m7 x5 by5 m5 f5 f3 g1 g2 g3 h5 h6 h7 hw5 c16 c19;go_wp2_with (first
    | (go_at_call 74;refine (xM M7.out true).mono ?_;rintro e w8 ⟨rfl,m8,f8⟩)|(go_at_call 22;refine (jy m8 HC.out A7 1 c7).mono ?_;rintro e w9 ⟨rfl,m9,f9⟩))
   go_ret2
   rw [V3.out (.inl H3.out)];have m5:=M7.out;have p5:=P7.out;have o8:=m5.off H.g zh;have o9:=m8.off H.gc zh;have e8:∀ b∈ob (.slice A7 1 c7),b≠H.g:=fun b hb=>by rintro rfl;exact own_ne p5.own m5.blk zd (qo.1 hb)
   have e9:∀ b∈ob (.slice A7 1 c7),b≠H.gc:=fun b hb=>by rintro rfl;exact own_ne p5.own m5.clk zd (qo.1 hb)
   refine⟨_,rfl,S5,H,_,_,rfl,rfl,X5.out,Hd.like.rfl' w H,m9,(p5.fr f8 (fun y hy=>by simp at hy;subst hy;exact o8) (fun b hb hm=>by simp at hm;exact e8 b hb hm) (fun _ h=>h)).fr f9 (fun y hy=>by simp at hy;subst hy;exact o9) (fun b hb hm=>by simp at hm;exact e9 b hb hm) (fun _ h=>h),N7.out,?_⟩;exact ((F7.out.mono (O':=H.own) zh).trans (f8.mono (O':=H.own) zh) (fun y hy => .inl hy)).trans (f9.mono (O':=H.own) zh) (fun y hy => .inl hy)
  ·have hd3:decide (x.at_=3)=false:=by simpa using h3
   have hq3:(x.at_ == 3)=false:=by simpa using h3
   have H3:=hI h3;clear h3;by_cases h4:x.at_=4
   ·have hd4:decide (x.at_=4)=true:=by simpa using h4
    have hq4:(x.at_ == 4)=true:=(by simpa using h4);have H4:=hI h4;clear h4;go_enter Tryz.func36,Tryz.ntmps36;go_upto_region 7 with (go_at_call 39;refine HSN.out.mono ?_;rintro e w' ⟨rfl,rfl⟩)
    have m3:=M.out;have HPt:Hid (∀ W,Fr [] w W->Calls Tryz.prog 79 #[ptr H.g, .int .i64 8, .int .i64 (x.win.m+one x.fin), .slice none 0 0] W (qZ S W H (shows x) ⟨pf,ps,pk,pw,[]⟩)):=HPART;have HSt:Hid (∀ W,Fr [] w W->Calls Tryz.prog 48 #[ptr H.gw] W _):=hI (fun W fW=>Win.kD H.gw x.win W (Blk.fr m3.win fW zs));have HFl:Hid (∀ W,Calls Tryz.prog 80 #[.bool x.fin] W _):=hI (fun W=>qak x.fin W);have c19:=(qm m3.blk).c19;clear m3;obtain⟨i0,hi0,hz0,hz1,hz2⟩:=info_parts jI;refine wp_region_held_drew (S:=fun W=>W.cell? ⟨H.g,16,none⟩=some (ptr H.gw)/\W.cell? ⟨H.g,19,none⟩=some (.bool x.fin)) zk ⟨ql (Fr.refl [] w).drew c16,ql (Fr.refl [] w).drew c19⟩ (fun hH=>?_);have fd:Fr [] w w.drew:=(Fr.refl [] w).drew;generalize w.drew=wd at *
    refine Held.take 0 (v:=(.slice none 0 0)) rfl zk zk zk (fun _ _ _ h=>h) (Or.inl ⟨rfl,fun (W:World) hs=>by go_simp⟩) hH ?_;try simp only [Act.put,zqA,zqB,zqC]
    refine Held.take 1 (v:=ptr H.g) rfl zk zk zk (fun _ _ _ h=>h) (Or.inl ⟨rfl,fun (W:World) hs=>by go_simp⟩) hH ?_;try simp only [Act.put,zqA,zqB,zqC]
    refine Held.take 2 (v:=ptr H.g) rfl zk zk zk (fun _ _ _ h=>h) (Or.inl ⟨rfl,fun (W:World) hs=>by go_simp⟩) hH ?_;try simp only [Act.put,zqA,zqB,zqC]
    refine Held.take 3 (v:=ptr H.g) rfl zk zk zk (fun _ _ _ h=>h) (Or.inl ⟨rfl,fun (W:World) hs=>by go_simp⟩) hH ?_;try simp only [Act.put,zqA,zqB,zqC]
    refine Held.take 4 (v := .pointer (some ⟨H.g,16,none⟩)) rfl zk zk zk (fun _ _ _ h=>h) (Or.inl ⟨rfl,fun (W:World) hs=>by go_simp⟩) hH ?_;try simp only [Act.put,zqA,zqB,zqC]
    refine Held.take 5 (v:=ptr H.gw) rfl zk zk zk (fun _ _ _ h=>h) (Or.inl ⟨rfl,fun (W:World) hs=>by have d:=hs.1;go_simp⟩) hH ?_;try simp only [Act.put,zqA,zqB,zqC]
    refine Held.take 8 (v:=ptr H.g) rfl zk zk zk (fun _ _ _ h=>h) (Or.inl ⟨rfl,fun (W:World) hs=>by go_simp⟩) hH ?_;try simp only [Act.put,zqA,zqB,zqC]
    refine Held.take 9 (v:=ptr H.g) rfl zk zk zk (fun _ _ _ h=>h) (Or.inl ⟨rfl,fun (W:World) hs=>by go_simp⟩) hH ?_;try simp only [Act.put,zqA,zqB,zqC]
    refine Held.take 10 (v := .pointer (some ⟨H.g,19,none⟩)) rfl zk zk zk (fun _ _ _ h=>h) (Or.inl ⟨rfl,fun (W:World) hs=>by go_simp⟩) hH ?_;try simp only [Act.put,zqA,zqB,zqC]
    refine Held.take 11 (v := .bool x.fin) rfl zk zk zk (fun _ _ _ h=>h) (Or.inl ⟨rfl,fun (W:World) hs=>by have d:=hs.2;go_simp⟩) hH ?_;try simp only [Act.put,zqA,zqB,zqC]
    refine Held.one (i:=6) zk rfl (fun K hK=>?_);go_simp;go_at_call 48;refine (HSt.out _ fd).mono ?_;rintro e w3 ⟨rfl,f3'⟩;have f3:Fr [] w w3:=fd.trans f3' zs;try go_wp2_with fail
    refine hK.out _ _ ⟨ql f3 c16,ql f3 c19⟩ (fun h3=>?_);clear hK K;try simp only [Act.put,zqA,zqB,zqC]
    clear hH f3' fd;refine Held.take 7 (v := .int .i64 x.win.m) rfl zk zk zk (fun _ _ _ h=>h) (Or.inl ⟨rfl,fun (W:World) hs=>by go_simp⟩) h3 ?_;try simp only [Act.put,zqA,zqB,zqC]
    refine Held.one (i:=12) zk rfl (fun K hK=>?_);go_simp;go_at_call 80;refine (HFl.out _).mono ?_;rintro e w4 ⟨rfl,rfl⟩;try go_wp2_with fail
    refine hK.out _ _ h3 (fun h4=>?_);clear hK K;try simp only [Act.put,zqA,zqB,zqC]
    refine Held.take 13 (v := .int .i64 (x.win.m+one x.fin)) rfl zk zk zk (fun _ _ _ h=>h) (Or.inl ⟨rfl,fun (W:World) hs=>by go_simp⟩) h4 ?_;try simp only [Act.put,zqA,zqB,zqC]
    refine Held.one (i:=14) zk rfl (fun K hK=>?_);go_simp;go_at_call 79;refine (HPt.out _ f3).mono ?_;rintro e w5 ⟨S5,A5,c5,rfl,x5,by5,m5,f5⟩;try go_wp2_with fail
    refine hK.out _ _ ⟨(qm m5.blk).c16,(qm m5.blk).c19⟩ (fun h5=>?_);clear hK K;try simp only [Act.put,zqA,zqB,zqC]
    clear h3 h4;refine Held.one (i:=15) zk rfl (fun K hK=>?_);go_simp;try go_wp2_with fail
    refine hK.out _ _ ⟨ql ((Fr.refl [] w5).alloc _) h5.1,ql ((Fr.refl [] w5).alloc _) h5.2⟩ (fun h6=>?_);clear hK K;try simp only [Act.put,zqA,zqB,zqC]
    have hw5:=jU (S1:=S5) (p:=⟨pf,ps,pk,pw,[]⟩) (Pr.nil (w:=w5)) (Fr.refl [H.g] w5) zb by5;refine Held.one (i:=16) zk rfl (fun K hK=>?_);refine zn _ zr (.tmp 30) (.tmp 45) 27 zr 49 i0 (.agg #[.int .i64 0, .int .u32 0, .int .u32 0, .int .u16 0, .slice none 0 0]) 5 48 Tryz.underlying27 hi0 hz0 hz1 hz2 zr zd (.slice none 0 0) 0 [] zr hw5.1 (fun _=>True) (.slice (some ⟨w5.heap.size,0,none⟩) 1 1) 1 [.int .i64 pf, .int .u32 ps, .int .u32 pk, .int .u16 pw, .slice A5 0 c5] zr hw5.2 (qfg ⟨pf,ps,pk,pw,[]⟩ _ _ _) (by unfold maxLen;omega) zw 1 rfl ?_;intro A7 c7 w7 g1 g2 g3;refine hK.out _ _ ⟨ql (g2.mono (O':=[]) zb) h6.1,ql (g2.mono (O':=[]) zb) h6.2⟩ (fun h7=>?_);clear hK K;try simp only [Act.put,zqA,zqB,zqC]
    refine Held.take 17 (v := .slice A7 1 c7) rfl zk zk zk (fun _ _ _ h=>h) (Or.inl ⟨rfl,fun (W:World) hs=>by go_simp⟩) h7 ?_;try simp only [Act.put,zqA,zqB,zqC]
    refine Held.done zk ?_;have fa:Fr [] w5 w7:=((Fr.refl [] w5).alloc _).trans (g2.mono (O':=[]) zb) zs;have hz3:=f3.size;have hz5:=f5.size;have n7:∀ b∈ob (.slice A7 1 c7),w.heap.size<=b/\¬ S5 b:=fun b hb=>by
     rcases g3 b (qo.1 hb) with h|h
     ·simp [Value.ownBlock] at h
     ·have h1:=h.1
      simp at h1;exact⟨zw,fun hs=>by have:=HP.zA m5.hp b hs;omega⟩
    have X5:=hI (kM x5 f3.size);have m7:=m5.fr fa;have P7:Hid (Pr S5 w7 (.slice A7 1 c7) [(⟨pf,ps,pk,pw,[]⟩, .slice A5 0 c5)]):=hI (Pr.app (L:=[]) (Pr.nil (w:=w5.alloc (.cells (arP ⟨pf,ps,pk,pw,[]⟩ (.slice A5 0 c5)) 49))) g1 g2 zb (by5.fr ((Fr.refl [] w5).alloc _) zs));have F7:Hid (Fr [H.g] w w7):=hI (((f3.mono zs).trans f5 (fun y hy => .inl hy)).trans fa zs);have N7:=hI n7;have M7:=hI m7;clear fa hz3 hz5 n7 m7 x5 by5 m5 f5 f3 g1 g2 g3 h5 h6 h7 hw5 c16 c19;go_wp2_with (first
     | (go_at_call 74;refine (xM M7.out true).mono ?_;rintro e w8 ⟨rfl,m8,f8⟩)|(go_at_call 22;refine (jy m8 HC.out A7 1 c7).mono ?_;rintro e w9 ⟨rfl,m9,f9⟩))
    go_ret2
    rw [V3.out (.inr H4.out)];have m5:=M7.out;have p5:=P7.out;have o8:=m5.off H.g zh;have o9:=m8.off H.gc zh;have e8:∀ b∈ob (.slice A7 1 c7),b≠H.g:=fun b hb=>by rintro rfl;exact own_ne p5.own m5.blk zd (qo.1 hb)
    have e9:∀ b∈ob (.slice A7 1 c7),b≠H.gc:=fun b hb=>by rintro rfl;exact own_ne p5.own m5.clk zd (qo.1 hb)
    refine⟨_,rfl,S5,H,_,_,rfl,rfl,X5.out,Hd.like.rfl' w H,m9,(p5.fr f8 (fun y hy=>by simp at hy;subst hy;exact o8) (fun b hb hm=>by simp at hm;exact e8 b hb hm) (fun _ h=>h)).fr f9 (fun y hy=>by simp at hy;subst hy;exact o9) (fun b hb hm=>by simp at hm;exact e9 b hb hm) (fun _ h=>h),N7.out,?_⟩;exact ((F7.out.mono (O':=H.own) zh).trans (f8.mono (O':=H.own) zh) (fun y hy => .inl hy)).trans (f9.mono (O':=H.own) zh) (fun y hy => .inl hy)
   ·have hd4:decide (x.at_=4)=false:=by simpa using h4
    have hq4:(x.at_ == 4)=false:=(by simpa using h4);have HN:Hid (¬ (x.at_=3\/x.at_=4)):=hI (fun h=>h.elim H3.out h4);clear h4;go_enter Tryz.func36,Tryz.ntmps36;go_wp2_with (first
     | (go_at_call 39;refine HSN.out.mono ?_;rintro e w' ⟨rfl,rfl⟩)|(go_at_call 74;refine (xM M.out true).mono ?_;rintro e w8 ⟨rfl,m8,f8⟩)|(go_at_call 22;refine (jy m8 HC.out none 0 0).mono ?_;rintro e w9 ⟨rfl,m9,f9⟩))
    go_ret2
    rw [VE.out H5.out HN.out];exact⟨_,rfl,kJ m9 ((f8.mono (O':=H.own) zh).trans (f9.mono (O':=H.own) zh) (fun y hy => .inl hy))⟩
theorem copy_si{S:Nat->Prop}{w:World}{H:Hd}{x:St}(m:SI S w H x)(ok:OkS x):Calls Tryz.prog 11 #[ptr H.g] w fun e w'=>∃ H',e = .returned (ptr H'.g)/\SI S w' H' x/\Fr [] w w'/\∀ b∈H'.own,w.heap.size<=b:=by
 have hpub:∀ b,S b->b<w.heap.size:=HP.zA m.hp;have hal:=ok.hl;have hul:=ok.hu;have hbl:(kw x).length<=1000000:=by unfold kw;rw [List.length_drop];omega
 obtain⟨bA,bc,hbv,_,_⟩:=qY m.buf;obtain⟨uA,uc,huv,_,_⟩:=qY m.unr;have hcb:=fun W (f:Fr [] w W)=>kZ (S:=fun b=>H.bv.ownBlock=some b) (l:=kw x) W (Sl.kW (qA m.buf f zs) (fun _ h=>h)) hbl;have hcu:=fun W (f:Fr [] w W)=>kZ (S:=fun b=>H.uv.ownBlock=some b) (l:=x.unread) W (Sl.kW (qA m.unr f zs) (fun _ h=>h)) zw;have hcw:=fun W (f:Fr [] w W)=>Win.qlu H.gw x.win W (Blk.fr m.win f zs);have hcc:=fun W (f:Fr [] w W)=>Rto.qlz H.gc x.clk W (Blk.fr m.clk f zs) ok.hc;have hch:=fun W (f:Fr [] w W)=>copy_hp (m.hp.ext' f (Ext.refl w S) zs zs (fun b hb=>Nat.lt_of_lt_of_le (hpub b hb) f.size)) ok.hi;have c16:=(qm m.blk).c16;have HSN:=hI (jY H.g H.gw w c16);obtain⟨g,gw,gc,gh,bv,uv,kv⟩:=H;dsimp only at hbv huv hcb hcu hcw hcc hch;subst hbv huv;have hpb:∀ W W' v,W'.ownsRow 0 5 1 v (kw x).length (kE (kw x))->Fr [] W W'->True:=fun _ _ _ _ _=>trivial;clear hpb;generalize hbb:kw x=bl at *
 have HBB:=hI hbb;generalize hbn:bl.length=bn at *
 generalize hun:x.unread.length=un at *
 have B0:Hid (Blk w g 74 #[.int .i64 x.at_, .bool x.broken, .int .u32 x.peer, .int .i64 0, .int .i64 0, .int .i64 0, .int .i64 0, .int .i64 x.all.length, .int .i64 0, .int .i64 0, .int .i64 0, .bool x.closing, .bool x.ended, .int .u32 x.isn,(.slice bA bn bc),(.slice uA un uc),ptr gw,ptr gc,ptr gh, .bool x.fin, .bool x.qp, .int .i64 x.now, .int .i64 x.timed, .int .i64 x.since, .int .i64 x.shown]):=hI (by have:=m.blk;simp only [arS,hun] at this;exact this);have HBN:=hI hbn;have HUN:=hI hun;have HCB:=hI hcb;have HCU:=hI hcu;have HCW:=hI hcw;have HCC:=hI hcc;have HCH:=hI hch;have HPUB:=hI hpub;clear m ok hpub hal hul hbl hcb hcu hcw hcc hch c16 hbb hbn hun;go_enter Tryz.func11,Tryz.ntmps11;go_upto_region 3 with (go_at_call 39;refine HSN.out.mono ?_;rintro e w' ⟨rfl,rfl⟩)
 go_upto_region 4 with (first
   | ((with_reducible refine qj 74 (.tmp 7) ?_);refine qf rfl 74 (.tmp 7) rfl g 74 #[.int .i64 x.at_, .bool x.broken, .int .u32 x.peer, .int .i64 0, .int .i64 0, .int .i64 0, .int .i64 0, .int .i64 x.all.length, .int .i64 0, .int .i64 0, .int .i64 0, .bool x.closing, .bool x.ended, .int .u32 x.isn,(.slice bA bn bc),(.slice uA un uc),ptr gw,ptr gc,ptr gh, .bool x.fin, .bool x.qp, .int .i64 x.now, .int .i64 x.timed, .int .i64 x.since, .int .i64 x.shown] _ rfl B0.out Tryz.underlying74 rfl zk ?_)|((with_reducible refine qi 74 (.tmp 3) ?_);refine qc rfl 74 (.tmp 3) (.tmp 8) rfl w.heap.size 74 #[.int .i64 0, .bool false, .int .u32 0, .int .i64 0, .int .i64 0, .int .i64 0, .int .i64 0, .int .i64 0, .int .i64 0, .int .i64 0, .int .i64 0, .bool false, .bool false, .int .u32 0, .slice none 0 0, .slice none 0 0, .pointer none, .pointer none, .pointer none, .bool false, .bool false, .int .i64 0, .int .i64 0, .int .i64 0, .int .i64 0] #[.int .i64 x.at_, .bool x.broken, .int .u32 x.peer, .int .i64 0, .int .i64 0, .int .i64 0, .int .i64 0, .int .i64 x.all.length, .int .i64 0, .int .i64 0, .int .i64 0, .bool x.closing, .bool x.ended, .int .u32 x.isn,(.slice bA bn bc),(.slice uA un uc),ptr gw,ptr gc,ptr gh, .bool x.fin, .bool x.qp, .int .i64 x.now, .int .i64 x.timed, .int .i64 x.since, .int .i64 x.shown] rfl rfl (Blk.new w 74 #[.int .i64 0, .bool false, .int .u32 0, .int .i64 0, .int .i64 0, .int .i64 0, .int .i64 0, .int .i64 0, .int .i64 0, .int .i64 0, .int .i64 0, .bool false, .bool false, .int .u32 0, .slice none 0 0, .slice none 0 0, .pointer none, .pointer none, .pointer none, .bool false, .bool false, .int .i64 0, .int .i64 0, .int .i64 0, .int .i64 0]) rfl zk zo ?_;intro w3 B3 F3))
 have f3:Fr [] w w3:=((Fr.refl [] w).alloc (.cells #[.int .i64 0, .bool false, .int .u32 0, .int .i64 0, .int .i64 0, .int .i64 0, .int .i64 0, .int .i64 0, .int .i64 0, .int .i64 0, .int .i64 0, .bool false, .bool false, .int .u32 0, .slice none 0 0, .slice none 0 0, .pointer none, .pointer none, .pointer none, .bool false, .bool false, .int .i64 0, .int .i64 0, .int .i64 0, .int .i64 0] 74)).trans F3 (fun y hy => .inr (by simp at hy;omega));have hgl:=B0.out.lt;have hz3:w.heap.size<w3.heap.size:=B3.lt;generalize hg2:w.heap.size=g2 at *
 have hgn:g≠g2:=zw;have b3:Blk w3 g 74 #[.int .i64 x.at_, .bool x.broken, .int .u32 x.peer, .int .i64 0, .int .i64 0, .int .i64 0, .int .i64 0, .int .i64 x.all.length, .int .i64 0, .int .i64 0, .int .i64 0, .bool x.closing, .bool x.ended, .int .u32 x.isn,(.slice bA bn bc),(.slice uA un uc),ptr gw,ptr gc,ptr gh, .bool x.fin, .bool x.qp, .int .i64 x.now, .int .i64 x.timed, .int .i64 x.since, .int .i64 x.shown]:=B0.out.fr f3 zs;have F30:=hI f3;have HG2:=hI hg2;clear F3 f3 hg2;refine wp_region_held_drew (S:=fun W=>Blk W g 74 #[.int .i64 x.at_, .bool x.broken, .int .u32 x.peer, .int .i64 0, .int .i64 0, .int .i64 0, .int .i64 0, .int .i64 x.all.length, .int .i64 0, .int .i64 0, .int .i64 0, .bool x.closing, .bool x.ended, .int .u32 x.isn,(.slice bA bn bc),(.slice uA un uc),ptr gw,ptr gc,ptr gh, .bool x.fin, .bool x.qp, .int .i64 x.now, .int .i64 x.timed, .int .i64 x.since, .int .i64 x.shown]) zk (b3.fr (Fr.refl [] w3).drew zs) (fun hH=>?_);have fd:Fr [] w3 w3.drew:=(Fr.refl [] w3).drew;generalize w3.drew=wd at *
 refine Held.take 0 (v:=ptr g) rfl zk zk zk (fun _ _ _ h=>h) (Or.inl ⟨rfl,fun (W:World) hs=>by go_simp⟩) hH ?_;try simp only [Act.put,zqA,zqB,zqC]
 refine Held.take 1 (v:=ptr g) rfl zk zk zk (fun _ _ _ h=>h) (Or.inl ⟨rfl,fun (W:World) hs=>by go_simp⟩) hH ?_;try simp only [Act.put,zqA,zqB,zqC]
 refine Held.take 2 (v := .pointer (some ⟨g,14,none⟩)) rfl zk zk zk (fun _ _ _ h=>h) (Or.inl ⟨rfl,fun (W:World) hs=>by go_simp⟩) hH ?_;try simp only [Act.put,zqA,zqB,zqC]
 refine Held.take 3 (v:=(.slice bA bn bc)) rfl zk zk zk (fun _ _ _ h=>h) (Or.inl ⟨rfl,fun (W:World) hs=>by have d:World.cell? W ⟨g,14,none⟩=some (.slice bA bn bc):=(by simpa using hs.cell 14);go_simp⟩) hH ?_;try simp only [Act.put,zqA,zqB,zqC]
 refine Held.take 5 (v:=ptr g) rfl zk zk zk (fun _ _ _ h=>h) (Or.inl ⟨rfl,fun (W:World) hs=>by go_simp⟩) hH ?_;try simp only [Act.put,zqA,zqB,zqC]
 refine Held.take 6 (v:=ptr g) rfl zk zk zk (fun _ _ _ h=>h) (Or.inl ⟨rfl,fun (W:World) hs=>by go_simp⟩) hH ?_;try simp only [Act.put,zqA,zqB,zqC]
 refine Held.take 7 (v := .pointer (some ⟨g,15,none⟩)) rfl zk zk zk (fun _ _ _ h=>h) (Or.inl ⟨rfl,fun (W:World) hs=>by go_simp⟩) hH ?_;try simp only [Act.put,zqA,zqB,zqC]
 refine Held.take 8 (v:=(.slice uA un uc)) rfl zk zk zk (fun _ _ _ h=>h) (Or.inl ⟨rfl,fun (W:World) hs=>by have d:World.cell? W ⟨g,15,none⟩=some (.slice uA un uc):=(by simpa using hs.cell 15);go_simp⟩) hH ?_;try simp only [Act.put,zqA,zqB,zqC]
 have B3d:=B3.fr fd zs;have fw3:=F30.out.trans fd zs;refine Held.one (i:=4) zk rfl (fun K hK=>?_);go_simp;go_at_call 40;refine (HCB.out _ fw3).mono ?_;rintro e w4 ⟨A4,c4,rfl,o4,f4,n4⟩;have fw4:=fw3.trans f4 zs;try go_wp2_with fail
 refine hK.out _ _ (hH.fr f4 zs) (fun h4=>?_);clear hK K;try simp only [Act.put,zqA,zqB,zqC]
 refine Held.one (i:=9) zk rfl (fun K hK=>?_);go_simp;go_at_call 40;refine (HCU.out _ fw4).mono ?_;rintro e w5 ⟨A5,c5,rfl,o5,f5,n5⟩;have fw5:=fw4.trans f5 zs;try go_wp2_with fail
 refine hK.out _ _ (h4.fr f5 zs) (fun h5=>?_);clear hK K;try simp only [Act.put,zqA,zqB,zqC]
 have B5:=(B3d.fr f4 zs).fr f5 zs;have o4':=qA o4 f5 zs;clear hH h4;refine Held.take 10 (v := .pointer (some ⟨g2,14,none⟩)) rfl zk zk zk (fun _ _ _ h=>h) (Or.inl ⟨rfl,fun (W:World) hs=>by go_simp⟩) h5 ?_;try simp only [Act.put,zqA,zqB,zqC]
 refine Held.one (i:=11) zk rfl (fun K hK=>?_);have zc:=B5.cell 14;have zfx:=B5.frozen 14;have zl:=B5.lt;simp only [List.getElem?_toArray,List.getElem?_cons_zero,List.getElem?_cons_succ] at zc;go_simp;try go_wp2_with fail
 have B6:=B5.qO 14 (.slice A4 bn c4);have F6:=(Fr.refl [g2] w5).setCell (p:=⟨g2,14,none⟩) (.inl zs) (.slice A4 bn c4);refine hK.out _ _ (h5.fr F6 (by simpa using hgn)) (fun h6=>?_);clear hK K zc zfx zl;generalize w5.setCell ⟨g2,14,none⟩ (.slice A4 bn c4)=w6 at *
 simp only [zqA,zqB,zqC] at B6;try simp only [Act.put,zqA,zqB,zqC]
 refine Held.take 12 (v := .pointer (some ⟨g2,15,none⟩)) rfl zk zk zk (fun _ _ _ h=>h) (Or.inl ⟨rfl,fun (W:World) hs=>by go_simp⟩) h6 ?_;try simp only [Act.put,zqA,zqB,zqC]
 refine Held.one (i:=13) zk rfl (fun K hK=>?_);have zc:=B6.cell 15;have zfx:=B6.frozen 15;have zl:=B6.lt;simp only [List.getElem?_toArray,List.getElem?_cons_zero,List.getElem?_cons_succ] at zc;go_simp;try go_wp2_with fail
 have B7:=B6.qO 15 (.slice A5 un c5);have F7:=(Fr.refl [g2] w6).setCell (p:=⟨g2,15,none⟩) (.inl zs) (.slice A5 un c5);refine hK.out _ _ (h6.fr F7 (by simpa using hgn)) (fun h7=>?_);clear hK K zc zfx zl;generalize w6.setCell ⟨g2,15,none⟩ (.slice A5 un c5)=w7 at *
 simp only [zqA,zqB,zqC] at B7;try simp only [Act.put,zqA,zqB,zqC]
 refine Held.done zk ?_;have f07:Fr [] w w7:=(fw5.trans F6 (fun y hy => .inr (by simp at hy;have:=HG2.out;omega))).trans F7 (fun y hy => .inr (by simp at hy;have:=HG2.out;omega));have ow4:=qA (qA o4' F6 (fun b hb=>by simp;rintro rfl;exact own_ne o4' B5 zd hb)) F7 (fun b hb=>by simp;rintro rfl;exact own_ne o4' B5 zd hb);have ow5:=qA (qA o5 F6 (fun b hb=>by simp;rintro rfl;exact own_ne o5 B5 zd hb)) F7 (fun b hb=>by simp;rintro rfl;exact own_ne o5 B5 zd hb);have zz4:=fw3.size;have zz5:=fw4.size;have N4:Hid (∀ b∈ob (.slice A4 bn c4),w.heap.size<=b):=hI (fun b hb=>by have:=n4 b (qo.1 hb);omega);have N5:Hid (∀ b∈ob (.slice A5 un c5),w.heap.size<=b):=hI (fun b hb=>by have:=n5 b (qo.1 hb);omega);have N45:Hid (∀ b∈ob (.slice A4 bn c4),b∉ob (.slice A5 un c5)):=hI (fun b hb hc=>by have h1:=n5 b (qo.1 hc);have h2:=kG o4 (qo.1 hb);omega);have OW4:=hI ow4;have OW5:=hI ow5;have F07:=hI f07;have b7:=hI h7;have C7:=hI B7;clear zz4 zz5 n4 n5 o4 o5 o4' f07 ow4 ow5 f4 f5 F6 F7 B5 B6 B7 B3d B3 b3 h5 h6 h7 fw3 fw4 fw5 fd HCB HCU F30;have fz:Fr [] w w7:=F07.out;go_upto_region 5 with fail
 have b3:=b7.out;have C70:=C7.out;refine wp_region_held_drew (S:=fun W=>Blk W g 74 #[.int .i64 x.at_, .bool x.broken, .int .u32 x.peer, .int .i64 0, .int .i64 0, .int .i64 0, .int .i64 0, .int .i64 x.all.length, .int .i64 0, .int .i64 0, .int .i64 0, .bool x.closing, .bool x.ended, .int .u32 x.isn,(.slice bA bn bc),(.slice uA un uc),ptr gw,ptr gc,ptr gh, .bool x.fin, .bool x.qp, .int .i64 x.now, .int .i64 x.timed, .int .i64 x.since, .int .i64 x.shown]) zk (b3.fr (Fr.refl [] w7).drew zs) (fun hH=>?_);have fd:Fr [] w7 w7.drew:=(Fr.refl [] w7).drew;generalize w7.drew=wd at *
 refine Held.take 0 (v:=ptr g) rfl zk zk zk (fun _ _ _ h=>h) (Or.inl ⟨rfl,fun (W:World) hs=>by go_simp⟩) hH ?_;try simp only [Act.put,zqA,zqB,zqC]
 refine Held.take 1 (v:=ptr g) rfl zk zk zk (fun _ _ _ h=>h) (Or.inl ⟨rfl,fun (W:World) hs=>by go_simp⟩) hH ?_;try simp only [Act.put,zqA,zqB,zqC]
 refine Held.take 2 (v := .pointer (some ⟨g,16,none⟩)) rfl zk zk zk (fun _ _ _ h=>h) (Or.inl ⟨rfl,fun (W:World) hs=>by go_simp⟩) hH ?_;try simp only [Act.put,zqA,zqB,zqC]
 refine Held.take 3 (v:=ptr gw) rfl zk zk zk (fun _ _ _ h=>h) (Or.inl ⟨rfl,fun (W:World) hs=>by have d:World.cell? W ⟨g,16,none⟩=some (ptr gw):=(by simpa using hs.cell 16);go_simp⟩) hH ?_;try simp only [Act.put,zqA,zqB,zqC]
 refine Held.take 5 (v:=ptr g) rfl zk zk zk (fun _ _ _ h=>h) (Or.inl ⟨rfl,fun (W:World) hs=>by go_simp⟩) hH ?_;try simp only [Act.put,zqA,zqB,zqC]
 refine Held.take 6 (v:=ptr g) rfl zk zk zk (fun _ _ _ h=>h) (Or.inl ⟨rfl,fun (W:World) hs=>by go_simp⟩) hH ?_;try simp only [Act.put,zqA,zqB,zqC]
 refine Held.take 7 (v := .pointer (some ⟨g,17,none⟩)) rfl zk zk zk (fun _ _ _ h=>h) (Or.inl ⟨rfl,fun (W:World) hs=>by go_simp⟩) hH ?_;try simp only [Act.put,zqA,zqB,zqC]
 refine Held.take 8 (v:=ptr gc) rfl zk zk zk (fun _ _ _ h=>h) (Or.inl ⟨rfl,fun (W:World) hs=>by have d:World.cell? W ⟨g,17,none⟩=some (ptr gc):=(by simpa using hs.cell 17);go_simp⟩) hH ?_;try simp only [Act.put,zqA,zqB,zqC]
 refine Held.take 10 (v:=ptr g) rfl zk zk zk (fun _ _ _ h=>h) (Or.inl ⟨rfl,fun (W:World) hs=>by go_simp⟩) hH ?_;try simp only [Act.put,zqA,zqB,zqC]
 refine Held.take 11 (v:=ptr g) rfl zk zk zk (fun _ _ _ h=>h) (Or.inl ⟨rfl,fun (W:World) hs=>by go_simp⟩) hH ?_;try simp only [Act.put,zqA,zqB,zqC]
 refine Held.take 12 (v := .pointer (some ⟨g,18,none⟩)) rfl zk zk zk (fun _ _ _ h=>h) (Or.inl ⟨rfl,fun (W:World) hs=>by go_simp⟩) hH ?_;try simp only [Act.put,zqA,zqB,zqC]
 refine Held.take 13 (v:=ptr gh) rfl zk zk zk (fun _ _ _ h=>h) (Or.inl ⟨rfl,fun (W:World) hs=>by have d:World.cell? W ⟨g,18,none⟩=some (ptr gh):=(by simpa using hs.cell 18);go_simp⟩) hH ?_;try simp only [Act.put,zqA,zqB,zqC]
 have fw7:=fz.trans fd zs;refine Held.one (i:=4) zk rfl (fun K hK=>?_);go_simp;go_at_call 41;refine (HCW.out _ fw7).mono ?_;rintro e w8 ⟨rfl,f8,iw,lw⟩;have fw8:=fw7.trans f8 zs;try go_wp2_with fail
 refine hK.out _ _ (hH.fr f8 zs) (fun h8=>?_);clear hK K;try simp only [Act.put,zqA,zqB,zqC]
 refine Held.one (i:=9) zk rfl (fun K hK=>?_);go_simp;go_at_call 42;refine (HCC.out _ fw8).mono ?_;rintro e w9 ⟨rfl,f9,ic,lc⟩;have fw9:=fw8.trans f9 zs;try go_wp2_with fail
 refine hK.out _ _ (h8.fr f9 zs) (fun h9=>?_);clear hK K;try simp only [Act.put,zqA,zqB,zqC]
 refine Held.one (i:=14) zk rfl (fun K hK=>?_);go_simp;go_at_call 43;refine (HCH.out _ fw9).mono ?_;rintro e wa ⟨kv2,rfl,ih,fa,nh,lh⟩;have fwa:=fw9.trans fa zs;try go_wp2_with fail
 refine hK.out _ _ (h9.fr fa zs) (fun ha=>?_);clear hK K;try simp only [Act.put,zqA,zqB,zqC]
 have Ba:=(((C70.fr fd zs).fr f8 zs).fr f9 zs).fr fa zs;have iw2:Win.Win wa wd.heap.size x.win true:=Blk.fr (Blk.fr iw f9 zs) fa zs;have ic2:Rto.Clk wa w8.heap.size x.clk:=Blk.fr ic fa zs;have zdx:=fw7.size;have z8:=fw8.size;have z9:=fw9.size;generalize hgw2:wd.heap.size=gw2 at *
 generalize hgc2:w8.heap.size=gc2 at *
 generalize hgh2:w9.heap.size=gh2 at *
 refine Held.take 15 (v := .pointer (some ⟨g2,16,none⟩)) rfl zk zk zk (fun _ _ _ h=>h) (Or.inl ⟨rfl,fun (W:World) hs=>by go_simp⟩) ha ?_;try simp only [Act.put,zqA,zqB,zqC]
 refine Held.one (i:=16) zk rfl (fun K hK=>?_);have zc:=Ba.cell 16;have zfx:=Ba.frozen 16;have zl:=Ba.lt;simp only [List.getElem?_toArray,List.getElem?_cons_zero,List.getElem?_cons_succ] at zc;go_simp;try go_wp2_with fail
 have Bb:=Ba.qO 16 (ptr gw2);have Fb:=(Fr.refl [g2] wa).setCell (p:=⟨g2,16,none⟩) (.inl zs) (ptr gw2);refine hK.out _ _ (ha.fr Fb (by simpa using hgn)) (fun hb=>?_);clear hK K zc zfx zl;generalize wa.setCell ⟨g2,16,none⟩ (ptr gw2)=wb at *
 simp only [zqA,zqB,zqC] at Bb;try simp only [Act.put,zqA,zqB,zqC]
 refine Held.take 17 (v := .pointer (some ⟨g2,17,none⟩)) rfl zk zk zk (fun _ _ _ h=>h) (Or.inl ⟨rfl,fun (W:World) hs=>by go_simp⟩) hb ?_;try simp only [Act.put,zqA,zqB,zqC]
 refine Held.one (i:=18) zk rfl (fun K hK=>?_);have zc:=Bb.cell 17;have zfx:=Bb.frozen 17;have zl:=Bb.lt;simp only [List.getElem?_toArray,List.getElem?_cons_zero,List.getElem?_cons_succ] at zc;go_simp;try go_wp2_with fail
 have Bc:=Bb.qO 17 (ptr gc2);have Fc:=(Fr.refl [g2] wb).setCell (p:=⟨g2,17,none⟩) (.inl zs) (ptr gc2);refine hK.out _ _ (hb.fr Fc (by simpa using hgn)) (fun hc=>?_);clear hK K zc zfx zl;generalize wb.setCell ⟨g2,17,none⟩ (ptr gc2)=wc at *
 simp only [zqA,zqB,zqC] at Bc;try simp only [Act.put,zqA,zqB,zqC]
 refine Held.take 19 (v := .pointer (some ⟨g2,18,none⟩)) rfl zk zk zk (fun _ _ _ h=>h) (Or.inl ⟨rfl,fun (W:World) hs=>by go_simp⟩) hc ?_;try simp only [Act.put,zqA,zqB,zqC]
 refine Held.one (i:=20) zk rfl (fun K hK=>?_);have zc:=Bc.cell 18;have zfx:=Bc.frozen 18;have zl:=Bc.lt;simp only [List.getElem?_toArray,List.getElem?_cons_zero,List.getElem?_cons_succ] at zc;go_simp;try go_wp2_with fail
 have Be:=Bc.qO 18 (ptr gh2);have Fe:=(Fr.refl [g2] wc).setCell (p:=⟨g2,18,none⟩) (.inl zs) (ptr gh2);refine hK.out _ _ (hc.fr Fe (by simpa using hgn)) (fun he=>?_);clear hK K zc zfx zl;generalize wc.setCell ⟨g2,18,none⟩ (ptr gh2)=we at *
 simp only [zqA,zqB,zqC] at Be;try simp only [Act.put,zqA,zqB,zqC]
 refine Held.done zk ?_;have fse:Fr [g2] wa we:=(Fb.trans Fc (fun y hy => .inl hy)).trans Fe (fun y hy => .inl hy);have f7a:Fr [] w7 wa:=((fd.trans f8 zs).trans f9 zs).trans fa zs;have iw3:Win.Win we gw2 x.win true:=Blk.fr iw2 fse (by simpa using kP iw2 Ba zd);have ic3:Rto.Clk we gc2 x.clk:=Blk.fr ic2 fse (by simpa using kP ic2 Ba zd);have hkne:∀ y∈gh2::ob kv2,y≠g2:=fun y hy=>by
  obtain⟨ev,L,n⟩:=ih;rcases List.mem_cons.1 hy with rfl|hy
  ·exact kP n.blk Ba zd
  ·rintro rfl;exact own_ne n.kp.own Ba zd (qo.1 hy)
 have nsg:∀ b,w.heap.size<=b->¬ S b:=fun b hb hs=>by have:=HPUB.out b hs;have:=HG2.out;omega
 have hg2':=HG2.out;have ih3:=ih.ext' fse (Ext.refl wa S) (fun y hy=>by simp at hy;subst hy;exact nsg _ zw) (fun y hy=>by simpa using hkne y hy) (fun b hb=>Nat.lt_of_lt_of_le (HP.zA ih b hb) fse.size);have o4a:=qA OW4.out f7a zs;have o5a:=qA OW5.out f7a zs;have o4e:=qA o4a fse (fun b hb=>by simp;rintro rfl;exact own_ne o4a Ba zd hb);have o5e:=qA o5a fse (fun b hb=>by simp;rintro rfl;exact own_ne o5a Ba zd hb);have SI_:SI S we ⟨g2,gw2,gc2,gh2, .slice A4 bn c4, .slice A5 un c5,kv2⟩ x:=by
  refine⟨by simp only [arS,HUN.out];exact Be,iw3,ic3,ih3,by rw [HBB.out,HBN.out];exact o4e,by rw [HUN.out];exact o5e,fun y hy=>?_,N45.out⟩;rcases hy with rfl|rfl|rfl|h|h
  ·exact nsg _ zw
  ·exact nsg _ zw
  ·exact nsg _ zw
  ·exact nsg _ (N4.out y h)
  ·exact nsg _ (N5.out y h)
 have FZ:Fr [] w we:=fwa.trans fse (fun y hy => .inr (by simp at hy;omega));have OWN:∀ b∈Hd.own ⟨g2,gw2,gc2,gh2, .slice A4 bn c4, .slice A5 un c5,kv2⟩,w.heap.size<=b:=fun b hb=>by
  simp only [Hd.own,List.mem_cons,List.mem_append] at hb;rcases hb with rfl|rfl|rfl|rfl|h|h|h
  ·omega
  ·omega
  ·omega
  ·omega
  ·have:=nh b (qo.1 h);omega
  ·exact N4.out b h
  ·exact N5.out b h
 have SIH:=hI SI_;have FZH:=hI FZ;have OWNH:=hI OWN;clear SI_ FZ OWN o4e o5e o4a o5a ih3 hg2' nsg hkne ic3 iw3 f7a fse Fb Fc Fe Ba Bb Bc Be hb hc he ha h8 h9 iw iw2 ic ic2 ih nh C70 b3;go_wp2_with fail
 go_ret;exact⟨⟨g2,gw2,gc2,gh2, .slice A4 bn c4, .slice A5 un c5,kv2⟩,rfl,SIH.out,FZH.out,OWNH.out⟩
theorem qec(x:St)(h:Rto.xh x.clk (x.now+1)=false):jG x=({ x with now:=x.now+1 },[]):=by unfold jG;dsimp only;rw [if_neg (by simp [h])]
theorem qda(x:St)(h:Rto.xh x.clk (x.now+1)=true)(hm:(Rto.jB x.clk (x.now+1)).2.1=true) :
  jG x=(qF (zx { x with now:=x.now+1,clk:=(Rto.jB x.clk (x.now+1)).1,timed:=0 }).1,[(zx { x with now:=x.now+1,clk:=(Rto.jB x.clk (x.now+1)).1,timed:=0 }).2]):=by
 unfold jG;dsimp only;rw [if_pos h,if_pos hm]
theorem qed(x:St)(h:Rto.xh x.clk (x.now+1)=true)(hm:(Rto.jB x.clk (x.now+1)).2.1=false) :
  jG x=(qF (kS { x with now:=x.now+1,clk:=(Rto.jB x.clk (x.now+1)).1 } true),[]):=by
 unfold jG;dsimp only;rw [if_pos h,if_neg (by simp [hm])]
theorem SI.setnow{S:Nat->Prop}{w:World}{H:Hd}{x:St}(m:SI S w H x)(n:Int):SI S (w.setCell ⟨H.g,21,none⟩ (.int .i64 n)) H { x with now:=n }:=
 m.set ((Fr.refl [H.g] w).setCell (p:=⟨H.g,21,none⟩) (.inl zs) _) (by simpa using m.blk.qO 21 (.int .i64 n)) rfl rfl rfl rfl rfl
theorem SI.qnz{S:Nat->Prop}{w:World}{H:Hd}{x:St}(m:SI S w H x)(n:Int):SI S (w.setCell ⟨H.g,22,none⟩ (.int .i64 n)) H { x with timed:=n }:=
 m.set ((Fr.refl [H.g] w).setCell (p:=⟨H.g,22,none⟩) (.inl zs) _) (by simpa using m.blk.qO 22 (.int .i64 n)) rfl rfl rfl rfl rfl
theorem qjk{x:St}(ok:Ok x)(hn:x.now+1<=1000000):Ok { x with now:=x.now+1,clk:=(Rto.jB x.clk (x.now+1)).1 }/\Ok { x with now:=x.now+1,clk:=(Rto.jB x.clk (x.now+1)).1,timed:=0 }:=by
 have h1:Ok { x with now:=x.now+1,clk:=(Rto.jB x.clk (x.now+1)).1 }:=⟨⟨ok.s.hi,ok.s.hu,ok.s.hw,Rto.qfs ok.s.hc _,ok.s.hm,ok.s.hl,by have:=ok.s.n0;simp only [];omega,by simp only [];omega,ok.s.s0,ok.s.s1⟩,ok.at0,ok.at5,ok.un,ok.kb,hn⟩;exact⟨h1,⟨⟨h1.s.hi,h1.s.hu,h1.s.hw,h1.s.hc,h1.s.hm,h1.s.hl,h1.s.n0,h1.s.n1,h1.s.s0,h1.s.s1⟩,h1.at0,h1.at5,h1.un,h1.kb,h1.nb⟩⟩
theorem qdb{S S5:Nat->Prop}{w w4 w5 w7:World}{H:Hd}{y z:St}{p:Prt}{A:Option Addr}{c:Nat}(f0:Fr H.own w w4)(x5:Ext w4 S S5)(by5:Byt S5 w5 (.slice A p.d.length c) p.d)(m5:SI S5 w5 H y)(f5:Fr H.own w4 w5)
  (m7:SI S5 w7 H z) (f7:Fr [H.gc] (w5.alloc (.cells #[.int .i64 p.flags, .int .u32 p.seq, .int .u32 p.ack, .int .u16 p.win, .slice A p.d.length c] 49)) w7):zS S w H (z,[p]) (.returned (.slice (some ⟨w5.heap.size,0,none⟩) 1 1)) w7:=by
 have m6:=m5.fr ((Fr.refl [] w5).alloc (.cells #[.int .i64 p.flags, .int .u32 p.seq, .int .u32 p.ack, .int .u16 p.win, .slice A p.d.length c] 49));have hz0:=f0.size;have hz5:=f5.size;have hp:∀ b,S5 b->b<w5.heap.size:=HP.zA m5.hp;refine⟨S5,H,_,[(p, .slice A p.d.length c)],rfl,rfl,kM x5 hz0,Hd.like.rfl' w H,m7,(qcg by5).yT m6 f7 zh,?_,((f0.trans f5 (fun y hy => .inl hy)).alloc _).trans f7 (fun y hy => .inl (by simp at hy;subst hy;simp [Hd.own]))⟩;intro b hb;simp [ob,Value.ownBlock] at hb;subst hb;exact⟨zw,fun hs=>by have:=hp _ hs;omega⟩
theorem tick_si{S:Nat->Prop}{w:World}{H:Hd}{x:St}(m:SI S w H x)(ok:Ok x)(hr:Rest x)(hn:x.now+1<=1000000):Calls Tryz.prog 34 #[ptr H.g] w (xq S w H ((jG x).1,(jG x).2,0)):=by
 have v0:=qec x;have v1:=qda x;have v2:=qed x;have hrw:Rto.xh x.clk (x.now+1)=true->kT x=true:=fun h=>hr.symm.trans (qhv h);have c16:=(qm m.blk).c16;have c21:=(qm m.blk).c21;have z21:=m.blk.frozen 21;have hlt:=m.blk.lt;have n0:=ok.s.n0;have hw1:IntKind.i64.wrap (x.now+1)=x.now+1:=IntWalk.i64_in _ zw;generalize jG x=r at *
 have M:=hI m;have OK:=hI ok;have V0:=hI v0;have V1:=hI v1;have V2:=hI v2;have HRW:=hI hrw;clear m ok v0 v1 v2 hr hrw;go_enter Tryz.func34,Tryz.ntmps34;go_wp2_with fail
 refine (jY H.g H.gw w c16).mono ?_;rintro e w' ⟨rfl,rfl⟩;go_upto_region 4 with fail
 have m1:=M.out.setnow (x.now+1);have f1:Fr [H.g] w (w.setCell ⟨H.g,21,none⟩ (.int .i64 (x.now+1))):=(Fr.refl [H.g] w).setCell (p:=⟨H.g,21,none⟩) (.inl zs) _;generalize w.setCell ⟨H.g,21,none⟩ (.int .i64 (x.now+1))=w1 at *
 have d17:w1.cell? ⟨H.g,17,none⟩=some (ptr H.gc):=(qm m1.blk).c17;have d21:w1.cell? ⟨H.g,21,none⟩=some (.int .i64 (x.now+1)):=(qm m1.blk).c21;have g17:=Grew.cell d17;have g21:=Grew.cell d21;have hdu:∀ p:Grew w1,Calls Tryz.prog 72 #[ptr H.gc, .int .i64 (x.now+1)] p.W fun e w'=>e = .returned (.bool (Rto.xh x.clk (x.now+1)))/\∃ q:Grew w1,w'=q.W:=fun p=>qG (Rto.qlw H.gc x.clk (x.now+1) p.W (Blk.fr m1.clk p.fr zs) OK.out.s.hc);have HDU:=hI hdu;have M1:=hI m1;have F1:=hI f1;clear hdu m1 f1 c16 c21 z21 hlt d17 d21;generalize hdv:Rto.xh x.clk (x.now+1)=du at *
 refine qg zk zk ?_;repeat (go_big_quiet_step ((go_at_call 72;exact HDU.out _)))
 refine wpQuiet_nil ?_;intro w2 f2;have m2:=M1.out.fr f2;have F2:Hid (Fr [H.g] w w2):=hI (F1.out.trans f2 zs);have M2:=hI m2;clear f2 g17 g21 HDU m2 hdv;rcases Bool.eq_false_or_eq_true du with rfl|rfl
 ·have d17:w2.cell? ⟨H.g,17,none⟩=some (ptr H.gc):=(qm M2.out.blk).c17
  have d21:w2.cell? ⟨H.g,21,none⟩=some (.int .i64 (x.now+1)):=(qm M2.out.blk).c21;have hla:=Rto.qma H.gc x.clk (x.now+1) w2.drew (Blk.fr M2.out.clk (Fr.refl [] w2).drew zs) OK.out.s.hc;have HLA:=hI hla;clear hla;go_upto_region 6 with fail
  go_region_held3 (fun w'=>w'.cell? ⟨H.g,17,none⟩=some (ptr H.gc)/\w'.cell? ⟨H.g,21,none⟩=some (.int .i64 (x.now+1)))
   (first
    | (with_reducible exact⟨s0,s1⟩)
    | go_keep)
   (first
    | (go_at_call 73;refine HLA.out.mono ?_;rintro e w3 ⟨rfl,f3,C3⟩;have f3':Fr [H.gc] w2 w3:=(Fr.refl [H.gc] w2).drew.trans f3 (fun y hy => .inl hy);have m3:=M2.out.zB f3' C3;have d3:=qm m3.blk;have s0:w3.cell? ⟨H.g,17,none⟩=some (ptr H.gc):=d3.c17;have s1:w3.cell? ⟨H.g,21,none⟩=some (.int .i64 (x.now+1)):=d3.c21;have M3:=hI m3;have F3:=hI f3';clear m3 d3 f3 f3' C3))
  have F3':Hid (Fr H.own w w3):=hI ((F2.out.mono zh).trans (F3.out.mono (O':=H.own) zh) (fun y hy => .inl hy));have ok3:=qjk OK.out hn;have hw3:=HRW.out zt;generalize hlv:Rto.jB x.clk (x.now+1)=lv at *
  obtain⟨ck,mo,er⟩:=lv;dsimp only at M3 ok3;have OK3:=hI ok3;have HW3:=hI hw3;clear d17 d21 s0 s1 HLA ok3 hw3 hlv HRW F3 hw1 n0;have c22:=(qm M3.out.blk).c22;have z22:=M3.out.blk.frozen 22;have hlt3:=M3.out.blk.lt;dsimp only;rcases Bool.eq_false_or_eq_true mo with rfl|rfl
  ·go_upto_region 11 with fail
   have m4:=M3.out.qnz 0;have f4:Fr [H.g] w3 (w3.setCell ⟨H.g,22,none⟩ (.int .i64 0)):=(Fr.refl [H.g] w3).setCell (p:=⟨H.g,22,none⟩) (.inl zs) _;generalize w3.setCell ⟨H.g,22,none⟩ (.int .i64 0)=w4 at *
   have F4:Hid (Fr H.own w w4):=hI (F3'.out.trans (f4.mono (O':=H.own) zh) (fun y hy => .inl hy));have hag:=qnx m4 OK3.out.2 HW3.out;have hv:=V1.out zt zt;have hokA:=Ok.again OK3.out.2 HW3.out;dsimp only at hag hv hokA;generalize zx { x with now:=x.now+1,clk:=ck,timed:=0 }=ag at *
   obtain⟨y,p⟩:=ag;dsimp only at hag hv hokA;have HAG:=hI hag;have HV:=hI hv;have OKA:=hI hokA;clear hag hv hokA m4 f4 c22 z22;go_wp2_with fail
   refine HAG.out.mono ?_;rintro e w5 ⟨S5,A5,c5,rfl,x5,by5,m5,f5⟩;have X5:=hI x5;have BY5:=hI by5;have M5:=hI m5;have F5:=hI (f5.mono (O':=H.own) zh);have m6:=m5.fr ((Fr.refl [] w5).alloc (.cells #[.int .i64 p.flags, .int .u32 p.seq, .int .u32 p.ack, .int .u16 p.win, .slice A5 p.d.length c5] 49));have M6:=hI m6;clear x5 by5 m5 f5 m6;go_wp2_with fail
   refine (jy M6.out OKA.out.s.hc (some ⟨w5.heap.size,0,none⟩) 1 1).mono ?_;rintro e w7 ⟨rfl,m7,f7⟩;have hfin:=qdb F4.out X5.out BY5.out M5.out F5.out m7 f7;have HF:=hI hfin;clear hfin m7 f7;go_wp2_with fail
   go_ret2
   rw [HV.out];exact⟨_,rfl,HF.out⟩
  ·have hv:=V2.out zt zt
   have HV:=hI hv;clear hv;go_wp2_with fail
   refine (xM M3.out true).mono ?_;rintro e w4 ⟨rfl,m4,f4⟩;have M4:=hI m4;have F4:Hid (Fr H.own w w4):=hI (F3'.out.trans (f4.mono (O':=H.own) zh) (fun y hy => .inl hy));clear m4 f4;go_wp2_with fail
   refine (jy M4.out (OK3.out.1.done true).s.hc none 0 0).mono ?_;rintro e w5 ⟨rfl,m5,f5⟩;have M5:=hI m5;have F5:Hid (Fr H.own w w5):=hI (F4.out.trans (f5.mono (O':=H.own) zh) (fun y hy => .inl hy));clear m5 f5;go_wp2_with fail
   go_ret2
   rw [HV.out];exact qdx M5.out F5.out
 ·go_wp2_with fail
  go_ret2
  rw [V0.out zt];exact qdx M2.out (F2.out.mono zh)
abbrev stA(x:St):Array Value:=#[.int .i64 x.at_, .bool x.broken, .int .u32 x.peer, .int .i64 x.win.a, .int .i64 x.win.s, .int .i64 x.win.m, .int .i64 x.win.l, .int .i64 x.all.length, .int .i64 x.heap.next, .int .i64 x.unread.length, .int .i64 x.clk.wt, .bool x.closing, .bool x.ended]
abbrev stF(x:St):Array Value:=#[.int .i64 x.at_, .bool x.broken, .int .u32 x.peer, .int .i64 0, .int .i64 0, .int .i64 0, .int .i64 0, .int .i64 x.all.length, .int .i64 0, .int .i64 0, .int .i64 0, .bool x.closing, .bool x.ended]
theorem jQ{w:World}{g b:Nat}{v15 v16 v17 v18:Value}(h:w.cell? ⟨g,15,none⟩=some v15/\w.cell? ⟨g,16,none⟩=some v16/\w.cell? ⟨g,17,none⟩=some v17/\w.cell? ⟨g,18,none⟩=some v18)(n:g≠b)(j:Nat)(u:Value) :
  (w.setCell ⟨b,j,none⟩ u).cell? ⟨g,15,none⟩=some v15/\(w.setCell ⟨b,j,none⟩ u).cell? ⟨g,16,none⟩=some v16/\(w.setCell ⟨b,j,none⟩ u).cell? ⟨g,17,none⟩=some v17/\(w.setCell ⟨b,j,none⟩ u).cell? ⟨g,18,none⟩=some v18:=by
 have f:Fr [b] w (w.setCell ⟨b,j,none⟩ u):=(Fr.refl [b] w).setCell (p:=⟨b,j,none⟩) (.inl zs) u;have k:∀ {i:Nat} {v:Value},w.cell? ⟨g,i,none⟩=some v->(w.setCell ⟨b,j,none⟩ u).cell? ⟨g,i,none⟩=some v:=fun {i v} h=>(f.cell (p:=⟨g,i,none⟩) (World.block_lt_of_cell? w _ h) (by simpa using n)).trans h;exact⟨k h.1,k h.2.1,k h.2.2.1,k h.2.2.2⟩
theorem qoa{S:Nat->Prop}{w:World}{H:Hd}{x:St}(m:SI S w H x)(ok:OkS x):Calls Tryz.prog 13 #[ptr H.g] w fun e w'=>e = .returned (.agg (stA x))/\Fr [] w w':=by
 have hgl:=m.blk.lt;have f0:Fr [] w (w.alloc (.cells yA 56)):=(Fr.refl [] w).alloc _;have b0:Blk (w.alloc (.cells yA 56)) w.heap.size 56 yA:=Blk.new w _ _;have m0:=m.fr f0;have c16:=(qm m0.blk).c16;have HS:=hI (jY H.g H.gw (w.alloc (.cells yA 56)) c16);have OK:=hI ok;clear m ok;go_enter Tryz.func13,Tryz.ntmps13;go_wp2_with fail
 refine HS.out.mono ?_;rintro e w' ⟨rfl,rfl⟩;have hs0:w.heap.size<(w.alloc (.cells yA 56)).heap.size:=zs;generalize w.alloc (.cells yA 56)=w0 at *
 have B:=m0.blk;have q:∀ j v,(arS x H)[j]?=some v->w0.cell? ⟨H.g,j,none⟩=some v:=fun j v h=>(B.cell j).trans h;have q0:=q 0 _ rfl;have q1:=q 1 _ rfl;have q2:=q 2 _ rfl;have q3:=q 3 _ rfl;have q4:=q 4 _ rfl;have q5:=q 5 _ rfl;have q6:=q 6 _ rfl;have q7:=q 7 _ rfl;have q8:=q 8 _ rfl;have q9:=q 9 _ rfl;have q10:=q 10 _ rfl;have q11:=q 11 _ rfl;have q12:=q 12 _ rfl;have M0:=hI m0;have F0:=hI f0;have B0:=hI b0;clear q B m0 f0 b0 HS;go_upto_region 4 with fail
 have f1:Fr [] w0 (w0.alloc (.cells (stF x) 56)):=(Fr.refl [] w0).alloc _;have b1:Blk (w0.alloc (.cells (stF x) 56)) w0.heap.size 56 (stF x):=Blk.new w0 _ _;have m1:=M0.out.fr f1;have hlt:=M0.out.lt;have hbr:=B0.out.fr f1 zs;generalize w0.alloc (.cells (stF x) 56)=w1 at *
 have n1:H.g≠w0.heap.size:=by have:=hlt H.g zh;omega
 have n2:w.heap.size≠w0.heap.size:=zw;have hbs:w.heap.size<w0.heap.size:=hs0;generalize w0.heap.size=b3 at *
 have cs:=qm m1.blk;have c15:=cs.c15;have c16:=cs.c16;have c17:=cs.c17;have c18:=cs.c18;obtain⟨uA,uc,huv,_,_⟩:=qY m1.unr;rw [huv] at c15;have HSt:Hid (∀ W,Fr [] w1 W->Calls Tryz.prog 48 #[ptr H.gw] W _):=hI (fun W fW=>Win.kD H.gw x.win W (Blk.fr m1.win fW zs));have HNx:Hid (∀ W,Fr [] w1 W->Calls Tryz.prog 49 #[ptr H.gh] W _):=hI (fun W fW=>qai (m1.hp.ext' fW (Ext.refl w1 S) zs zs (fun b hb=>Nat.lt_of_lt_of_le (HP.zA m1.hp b hb) fW.size)));have HWa:Hid (∀ W,Fr [] w1 W->Calls Tryz.prog 50 #[ptr H.gc] W _):=hI (fun W fW=>Rto.qlx H.gc x.clk W (Blk.fr m1.clk fW zs) OK.out.hc);have SEE:Hid (∀ W,Fr [] w1 W->W.cell? ⟨H.g,15,none⟩=some (.slice uA x.unread.length uc)/\W.cell? ⟨H.g,16,none⟩=some (ptr H.gw)/\W.cell? ⟨H.g,17,none⟩=some (ptr H.gc)/\W.cell? ⟨H.g,18,none⟩=some (ptr H.gh)):=hI (fun W fW=>⟨ql fW c15,ql fW c16,ql fW c17,ql fW c18⟩);have BLK:Hid (∀ W,Fr [] w1 W->Blk W b3 56 (stF x)):=hI (fun W fW=>b1.fr fW zs);have F1:=hI (F0.out.trans f1 zs);have HBR:=hI hbr;clear m1 cs hbr f1 b1 hlt;clear q0 q1 q2 q3 q4 q5 q6 q7 q8 q9 q10 q11 q12;have NB:Hid (H.g≠b3):=hI n1;go_cut [] (fun wx=>Blk wx b3 56 (stA x)/\Fr [b3] w1 wx);case first=>
  go_region_held3 (fun w'=>w'.cell? ⟨H.g,15,none⟩=some (.slice uA x.unread.length uc)/\w'.cell? ⟨H.g,16,none⟩=some (ptr H.gw)/\w'.cell? ⟨H.g,17,none⟩=some (ptr H.gc)/\w'.cell? ⟨H.g,18,none⟩=some (ptr H.gh))
   (first
    | (with_reducible exact SEE.out _ f5)|(with_reducible exact SEE.out _ (Fr.refl [] w1).drew)|(with_reducible exact jQ (by assumption) NB.out _ _)|(with_reducible exact jQ (jQ (jQ (jQ (SEE.out _ f5) NB.out _ _) NB.out _ _) NB.out _ _) NB.out _ _)|(with_reducible exact jQ (jQ (jQ (jQ (jQ (SEE.out _ f5) NB.out _ _) NB.out _ _) NB.out _ _) NB.out _ _) NB.out _ _)|(with_reducible exact jQ (jQ (jQ (jQ (jQ (jQ (SEE.out _ f5) NB.out _ _) NB.out _ _) NB.out _ _) NB.out _ _) NB.out _ _) NB.out _ _)|(with_reducible exact jQ (jQ (jQ (jQ (jQ (jQ (jQ (SEE.out _ f5) NB.out _ _) NB.out _ _) NB.out _ _) NB.out _ _) NB.out _ _) NB.out _ _) NB.out _ _)
    | go_keep)
   (first
    | (go_at_call 48;refine (HSt.out _ (Fr.refl [] w1).drew).mono ?_;rintro e w5 ⟨rfl,f5'⟩;have f5:Fr [] w1 w5:=(Fr.refl [] w1).drew.trans f5' zs;have b5:=BLK.out _ f5;have k3:=b5.cell 3;have k4:=b5.cell 4;have k5:=b5.cell 5;have k6:=b5.cell 6;have k8:=b5.cell 8;have k9:=b5.cell 9;have k10:=b5.cell 10;have hl5:=b5.lt;have z3:=b5.frozen 3;have z4:=b5.frozen 4;have z5:=b5.frozen 5;have z6:=b5.frozen 6;have z8:=b5.frozen 8;have z9:=b5.frozen 9;have z10:=b5.frozen 10;simp at k3 k4 k5 k6 k8 k9 k10;clear f5' b5)|(go_at_call 49;refine (HNx.out _ f5).mono ?_;rintro e w' ⟨rfl,rfl⟩)|(go_at_call 49;refine (HNx.out _ (Fr.refl [] w1).drew).mono ?_;rintro e w' ⟨rfl,rfl⟩)|(go_at_call 50;refine (HWa.out _ f5).mono ?_;rintro e w' ⟨rfl,rfl⟩)|(go_at_call 50;refine (HWa.out _ (Fr.refl [] w1).drew).mono ?_;rintro e w' ⟨rfl,rfl⟩))
  all_goals
   go_wp2_with fail
   go_meet;exact⟨((((((((BLK.out _ f5).qO 3 (.int .i64 x.win.a)).qO 4 (.int .i64 x.win.s)).qO 5 (.int .i64 x.win.m)).qO 6 (.int .i64 x.win.l)).qO 8 (.int .i64 x.heap.next)).qO 9 (.int .i64 x.unread.length)).qO 10 (.int .i64 x.clk.wt)),
    (((((((f5.mono (O':=[b3]) zs).setCell (p:=⟨b3,3,none⟩) (.inl zs) _).setCell (p:=⟨b3,4,none⟩) (.inl zs) _).setCell (p:=⟨b3,5,none⟩) (.inl zs) _).setCell (p:=⟨b3,6,none⟩) (.inl zs) _).setCell (p:=⟨b3,8,none⟩) (.inl zs) _).setCell (p:=⟨b3,9,none⟩) (.inl zs) _).setCell (p:=⟨b3,10,none⟩) (.inl zs) _⟩
 case rest=>
  obtain⟨bx,fx⟩:=hcut;have q:∀ j v,(stA x)[j]?=some v->wc.cell? ⟨b3,j,none⟩=some v:=fun j v h=>(bx.cell j).trans h;have q0:=q 0 _ rfl;have q1:=q 1 _ rfl;have q2:=q 2 _ rfl;have q3:=q 3 _ rfl;have q4:=q 4 _ rfl;have q5:=q 5 _ rfl;have q6:=q 6 _ rfl;have q7:=q 7 _ rfl;have q8:=q 8 _ rfl;have q9:=q 9 _ rfl;have q10:=q 10 _ rfl;have q11:=q 11 _ rfl;have q12:=q 12 _ rfl;have BR:=hI (HBR.out.fr fx (by simpa using n2));have FX:=hI (F1.out.trans fx (fun y hy => .inr (by simp at hy;omega)));clear q bx fx;go_wp2_with ((with_reducible refine qi 56 (.tmp 2) ?_);refine qc rfl 56 (.tmp 2) (.tmp 35) rfl w.heap.size 56 yA (stA x) rfl rfl BR.out rfl zk zo ?_;intro w3 B3 F3)
  have r:∀ j v,(stA x)[j]?=some v->w3.cell? ⟨w.heap.size,j,none⟩=some v:=fun j v h=>(B3.cell j).trans h;have r0:=r 0 _ rfl;have r1:=r 1 _ rfl;have r2:=r 2 _ rfl;have r3:=r 3 _ rfl;have r4:=r 4 _ rfl;have r5:=r 5 _ rfl;have r6:=r 6 _ rfl;have r7:=r 7 _ rfl;have r8:=r 8 _ rfl;have r9:=r 9 _ rfl;have r10:=r 10 _ rfl;have r11:=r 11 _ rfl;have r12:=r 12 _ rfl;refine bodyPost_ret (v := .agg (stA x)) (by simp [results,Tryz.results13,go_sem,r0,r1,r2,r3,r4,r5,r6,r7,r8,r9,r10,r11,r12]) rfl ?_;exact⟨rfl,FX.out.trans F3 (by intro y hy;simp at hy;subst hy;exact .inr (Nat.le_refl _))⟩
end Go.Proofs.YtmgdbbbdhkfdmaaGreat
namespace Go.Proofs.YtmgdbbbdhkfdmaaGreat.Lex
set_option maxRecDepth 100000
open Go.RowKit Go.Deep
def back(md:Region.Mode)(o:Oper)(k:Nat):Bool:=o.after.all fun e=>!Region.binds md e || decide (e.on<k)
def pairs(md:Region.Mode)(ops:Array Oper):List Oper->Nat->Bool
 | [],_=>true
 | o::r,k=>back md o k && (r.all fun q=>q.after.any (fun e=>Region.binds md e && e.on == k) || o.apart ops q) && pairs md ops r (k+1)
structure Upto(n k:Nat)(s:Array Bool):Prop where
 sz:s.size=n
 yes:∀ i,i<k->i<n->s.getD i true=true/\s.getD i false=true
 no:∀ i,k<=i->i<n->s.getD i true=false
theorem Upto.next{n k:Nat}{s:Array Bool}(h:Upto n k s)(hk:k<n):Upto n (k+1) (s.setIfInBounds k true):=by
 refine⟨by simp [h.sz],fun i hi hn=>?_,fun i hi hn=>?_⟩
 ·by_cases e:k=i
  ·subst e
   have:k<s.size:=by rw [h.sz];exact hk
   simp [this]
  ·have h1:=h.yes i zw hn
   exact⟨by rw [getD_set_ne true e];exact h1.1,by rw [getD_set_ne false e];exact h1.2⟩
 ·rw [getD_set_ne true zw]
  exact h.no i zw hn
theorem from_(md:Region.Mode)(l:List Oper):∀(r pre:List Oper) (s:Array Bool),l=pre++r->Upto l.length pre.length s->pairs md l.toArray r pre.length=true->Region.lexFrom md l.toArray r.length pre.length s=true
 | [],pre,s,hl,hs,_=>by
  simp only [List.append_nil] at hl;show (Region.ready md l.toArray s).isEmpty=true;rw [List.isEmpty_iff];apply List.eq_nil_iff_forall_not_mem.2;intro j hj;obtain⟨h1,o,ho,_⟩:=mem_ready.1 hj;have hlt:j<l.length:=by
   have:=(Array.getElem?_eq_some_iff.1 ho).1;simpa using this
  rw [(hs.yes j (by rw [<- hl];exact hlt) hlt).1] at h1;cases h1
 | o::r,pre,s,hl,hs,hp=>by
  unfold pairs at hp;simp only [Bool.and_eq_true] at hp;obtain⟨⟨hb,ha⟩,hr⟩:=hp;have hn:l.length=pre.length+(r.length+1):=by rw [hl];simp
  have hk:pre.length<l.length:=zw;have hop:l.toArray[pre.length]?=some o:=by rw [hl];simp
  simp only [List.length_cons,Region.lexFrom,Bool.and_eq_true];refine⟨⟨?_,?_⟩,?_⟩
  ·rw [List.contains_iff_mem]
   refine mem_ready.2 ⟨hs.no _ (Nat.le_refl _) hk,o,hop,fun e he hbi=>?_⟩;have h1:=Array.all_eq_true_iff_forall_mem.1 hb e he;simp only [hbi,Bool.not_true,Bool.false_or,decide_eq_true_eq] at h1;exact (hs.yes e.on h1 zw).2
  ·unfold Region.free
   rw [hop];dsimp only;rw [List.all_eq_true];intro j hj;have hjn:j<l.length:=by simpa using hj
   rcases Nat.lt_trichotomy j pre.length with h|h|h
   ·rw [(hs.yes j h hjn).1];simp
   ·subst h;simp
   ·have hq:∃ q,l.toArray[j]?=some q/\q∈r:=by
     have e1:l.toArray[j]?=r[j - (pre.length+1)]?:=by
      rw [hl];simp only [List.getElem?_toArray];rw [List.getElem?_append_right zw];rw [show j - pre.length=(j - (pre.length+1))+1 from by omega];simp
     have h2:j - (pre.length+1)<r.length:=zw;exact⟨r[j - (pre.length+1)],by rw [e1];exact List.getElem?_eq_getElem h2,List.getElem_mem h2⟩
    obtain⟨q,hq1,hq2⟩:=hq;have h3:=List.all_eq_true.1 ha q hq2;rw [hq1];dsimp only;rw [h3];simp
  ·have:=from_ md l r (pre++[o]) (s.setIfInBounds pre.length true) (by rw [hl];simp) (by simpa using hs.next hk) (by simpa using hr)
   simpa using this
theorem lexB{md:Region.Mode}{l:List Oper}(h0:Region.noSelect l.toArray=true)(h:pairs md l.toArray l 0=true):Region.lexB md l.toArray=true:=by
 unfold Region.lexB;rw [h0,Bool.true_and];have:=from_ md l l [] (Array.replicate l.toArray.size false) zs ⟨zs,fun i hi=>by simp at hi,fun i _ hi=>by simp [hi]⟩ h;simpa using this
end Go.Proofs.YtmgdbbbdhkfdmaaGreat.Lex
