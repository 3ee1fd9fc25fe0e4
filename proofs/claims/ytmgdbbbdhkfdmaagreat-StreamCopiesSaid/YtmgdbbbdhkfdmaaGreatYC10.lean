import Derived.Test.YtmgdbbbdhkfdmaaGreatYC9
import Derived.Test.YtmgdbbbdhkfdmaaGreatYC4
import Derived.Deep.DeepCutAuto
import Derived.Test.YtmgdbbbdhkfdmaaGreatYC0
set_option linter.unusedSimpArgs false
set_option linter.unusedVariables false
set_option maxHeartbeats 40000000
namespace Go.Proofs.YtmgdbbbdhkfdmaaGreat
set_option maxRecDepth 100000
open Go.RowKit Go.Deep
theorem xB(w:World):(Instr.alloc 41 true (.tuple #[])).run Tryz.prog w = .ok (.pointer (some ⟨w.heap.size,0,none⟩)) (w.alloc (.cells qy 41)):=by
 unfold Instr.alloc;go_simp
theorem vT(w:World):(Instr.alloc 49 true (.tuple #[])).run Tryz.prog w = .ok (.pointer (some ⟨w.heap.size,0,none⟩)) (w.alloc (.cells zJ 49)):=by
 unfold Instr.alloc;go_simp
theorem vU(p:Prt)(A:Option Addr)(n c:Nat)(w:World):(Instr.buildSlice 27 1 #[(0, .agg (arP p (.slice A n c)))]).run Tryz.prog w = .ok (.slice (some ⟨w.heap.size,0,none⟩) 1 1) (w.alloc (.cells (arP p (.slice A n c)) 49)):=by
 unfold Instr.buildSlice;go_simp
theorem qba{S:Nat->Prop}{w:World}{b:Nat}{p:Prt}{dv:Value}(B:Blk w b 49 (arP p dv))(h:Byt S w dv p.d):Pr S w (.slice (some ⟨b,0,none⟩) 1 1) [(p,dv)]:=
 ⟨⟨by simp [prs], .inr ⟨b,1,arP p dv,rfl,Nat.zero_le _,B,zs,by simp [maxLen],by simp [prs]⟩⟩,fun x hx=>by
  simp at hx;subst hx;exact h⟩
theorem RE.qN{S:Nat->Prop}{w:World}{x:St}{av uv kv:Value}(m:RE S w x av uv kv):Hid (∀ y,(arE y av uv kv).all (·.oneCell')=true):=by
 obtain⟨⟨_,_,rfl,_,_⟩,⟨_,_,rfl,_,_⟩,⟨_,_,_,rfl⟩⟩:=m.forms;exact hI (fun y=>by simp [Value.oneCell'])
theorem zq{P:Prop}(h:P:=by first|(refine Hid.out (p:=∀y,(arE y _ _ _).all (·.oneCell')=true) (by assumption) _)|simp [Value.oneCell']):P:=h
theorem RE.cells2{S:Nat->Prop}{w:World}{x:St}{av uv kv:Value}(m:RE S w x av uv kv):Hid (∀ h:Hp,(arH h kv).all (·.oneCell')=true):=by
 obtain⟨_,_,⟨_,_,_,rfl⟩⟩:=m.forms;exact hI (fun h=>by simp [Value.oneCell'])
theorem zp{P:Prop}(h:P:=by first|(refine Hid.out (p:=∀y,(arE y _ _ _).all (·.oneCell')=true) (by assumption) _)|(refine Hid.out (p:=∀h,(arH h _).all (·.oneCell')=true) (by assumption) _)|simp [Value.oneCell']):P:=h
def vS(S:Nat->Prop)(w:World)(r:St × List Prt)(av uv kv:Value)(e:Ending)(w':World):Prop:=
 ∃ v L,e = .returned (.tuple #[agE r.1 av uv kv,v])/\L.map (·.1)=r.2/\Pr S w' v L/\Fr [] w w'
theorem Lo.yx(w:World)(cs ps:Array Value):Lo w (((w.alloc (.cells cs 41)).alloc (.cells ps 49)).alloc (.cells qy 41)) w.heap.size (w.heap.size+1+1) cs/\Blk (((w.alloc (.cells cs 41)).alloc (.cells ps 49)).alloc (.cells qy 41)) (w.heap.size+1) 49 ps:=by
 have b2:=Blk.new ((w.alloc (.cells cs 41)).alloc (.cells ps 49)) 41 qy;have b1:=Blk.new (w.alloc (.cells cs 41)) 49 ps;rw [World.size_alloc,World.size_alloc] at b2;rw [World.size_alloc] at b1;exact⟨⟨(((Fr.refl [] w).alloc _).alloc _).alloc _,(Blk.new w 41 cs).fr (((Fr.refl [] _).alloc _).alloc _) zs,b2,Nat.le_refl _,zw,zw⟩,b1.fr ((Fr.refl [] _).alloc _) zs⟩
theorem vV(y:St)(av uv kv:Value)(c:Rto.Ck):((arE y av uv kv).toList.take 10++(arC c).toList++(arE y av uv kv).toList.drop (10+(arC c).size)).toArray=arE { y with clk:=c } av uv kv:=rfl
theorem qfa(y:St)(av uv kv:Value)(c:Win.Wn):((arE y av uv kv).toList.take 6++(arW c).toList++(arE y av uv kv).toList.drop (6+(arW c).size)).toArray=arE { y with win:=c } av uv kv:=rfl
theorem qfb(y:St)(av uv kv kv':Value)(h:Hp):((arE y av uv kv).toList.take 21++(arH h kv').toList++(arE y av uv kv).toList.drop (21+(arH h kv').size)).toArray=arE { y with heap:=h } av uv kv':=rfl
theorem yz{S:Nat->Prop}{w:World}{x:St}{av uv kv:Value}(m:RE S w x av uv kv)(ok:OkS x)(ou:OkU x):Calls Tryz.prog 83 #[agE x av uv kv] w (vS S w (shows x,[qJ x]) av uv kv):=by
 have o1:=m.qN;have hwb:=Win.Inv.bd ok.hw;have hml:=ok.hm;have hal:=ok.hl;have hob:=qav x.fin;have hwr:IntKind.i64.wrap (x.win.m+one x.fin)=x.win.m+one x.fin:=IntWalk.i64_in _ zw;have hp:=fun W (g:Fr [] w W)=>qbh (m.fr g) ok ou 2 (x.win.m+one x.fin) zw zw none 0 0 [];have hone:=fun W=>qce x.fin W;have l0:=Lo.start w (arE x av uv kv);have hav:kz x 2 (x.win.m+one x.fin) []=qJ x:=rfl;have hd:(qJ x).d=[]:=rfl;rw [hav] at hp;clear hav;generalize qJ x=pt at *
 obtain⟨pf,ps,pk,pw,pd⟩:=pt;dsimp only at hd;subst hd;have HP:=hI hp;have HO:=hI hone;have L0:=hI l0;clear hp hone l0 m ok ou hwb hml hal hob;go_enter Tryz.func83,Tryz.ntmps83;go_upto_region 1 with fail
 generalize (w.alloc (.cells (arE x av uv kv) 41)).alloc (.cells qy 41)=w1 at *
 have c:=jK L0.out.s;have hR:∀ i,(⟨w.heap.size,i,none⟩:Addr).block∉([]:List Nat):=fun i=>by simp
 refine Lay.kK [⟨.new 12,41,arE (shows x) av uv kv,some 14⟩,⟨.new 13,49,arP ⟨pf,ps,pk,pw,[]⟩ (.slice none 0 0),some 15⟩] [] [13,15] zk zk (fun β=>by kernel_rfl) rfl ⟨trivial,trivial,trivial⟩ ?hh1;apply Exists.intro;refine⟨?h1,?hO1,?hI1,?hQ1⟩;case h1=>
  intro β X hX hN;have g8:∀ p:Lay.GX [] w1 X,p.W.cell? ⟨w.heap.size,8,none⟩=some (.int .i64 x.win.m):=Lay.GX.cell c.c8 (hR _);have g26:∀ p:Lay.GX [] w1 X,p.W.cell? ⟨w.heap.size,26,none⟩=some (.bool x.fin):=Lay.GX.cell c.c26 (hR _);have gb:Hid (∀ p:Lay.GX [] w1 X,Blk p.W w.heap.size 41 (arE x av uv kv)):=hI (fun p=>L0.out.s.fr p.fr zs);have gf:Hid (∀ p:Lay.GX [] w1 X,Fr [] w p.W):=hI (fun p=>L0.out.f.trans p.fr zs);have h1':Hid (∀ p:Lay.GX [] w1 X,Calls Tryz.prog 82 #[.bool x.fin] p.W fun e w'=>e = .returned (.int .i64 (one x.fin))/\∃ q:Lay.GX [] w1 X,w'=q.W):=hI (fun p=>Lay.GX.same (HO.out p.W));have h2':Hid (∀ p:Lay.GX [] w1 X,Calls Tryz.prog 81 #[agE x av uv kv, .int .i64 2, .int .i64 (x.win.m+one x.fin), .slice none 0 0] p.W fun e w'=>e = .returned (.tuple #[agE (shows x) av uv kv,agP ⟨pf,ps,pk,pw,[]⟩ (.slice none 0 0)])/\∃ q:Lay.GX [] w1 X,w'=q.W):=hI (fun p=>Lay.GX.call hX (HP.out p.W (gf.out p)));simp only [Lay.jF,Lay.lays,Lay.lay,Lay.eff,Lay.xJ,if_true,if_false,Bool.false_eq_true,reduceIte];repeat (first
   | ((with_reducible refine kC 41 (.tmp 1) ?_);refine qH rfl 41 (.tmp 1) rfl w.heap.size 41 (arE x av uv kv) _ rfl (fun W hW=>by obtain⟨p,rfl⟩:=hW;exact gb.out p) Tryz.underlying41 rfl zk ?_;simp only [Act.put,zqA,zqB,zqC])
   | go_big_quiet_step (first|(go_at_call 82;exact h1'.out _)|(go_at_call 81;exact h2'.out _)))
  exact wpQuiet_nil rfl
 case hO1=>exact⟨Lay.xk rfl rfl xB rfl rfl rfl rfl zk zq (fun β=>rfl) (fun β=>rfl) zk,Lay.xk rfl rfl vT rfl rfl rfl rfl zk zq (fun β=>rfl) (fun β=>rfl) zk,trivial⟩
 case hI1=>exact⟨fun _ _=>rfl,fun _ _=>rfl,trivial⟩
 case hQ1=>
  intro β W hf hl;obtain⟨⟨B1,N1⟩,⟨B2,N2⟩,_⟩:=hl;have L1:=L0.out.grow hf;change Blk W (β 12) 41 (arE (shows x) av uv kv) at B1;change Blk W (β 13) 49 (arP ⟨pf,ps,pk,pw,[]⟩ (.slice none 0 0)) at B2;change w1.heap.size<=β 12 at N1;change w1.heap.size<=β 13 at N2;have hs1:=L0.out.s.lt;have hs2:=L0.out.r.lt;generalize β 12=b4 at *
  generalize β 13=b5 at *
  clear c hR;go_upto_region 2 with fail
  refine Lay.kK [⟨.new 2,49,arP ⟨pf,ps,pk,pw,[]⟩ (.slice none 0 0),none⟩,⟨.fix (w.heap.size+1),41,arE (shows x) av uv kv,some 3⟩] [w.heap.size+1] [] zk zk (fun β=>by kernel_rfl) rfl ⟨trivial,⟨zs,_,L1.r,rfl,zs,zs⟩,trivial⟩ ?hh2;apply Exists.intro;refine⟨?h2,?hO2,?hI2,?hQ2⟩;case h2=>
   intro β X hX hN;have gb:Hid (∀ p:Lay.GX [w.heap.size+1] W X,Blk p.W b4 41 (arE (shows x) av uv kv)):=hI (fun p=>(B1).fr p.fr (by simp <;> omega));have gp:Hid (∀ p:Lay.GX [w.heap.size+1] W X,Blk p.W b5 49 (arP ⟨pf,ps,pk,pw,[]⟩ (.slice none 0 0))):=hI (fun p=>(B2).fr p.fr (by simp <;> omega));simp only [Lay.jF,Lay.lays,Lay.lay,Lay.eff,Lay.xJ,if_true,if_false,Bool.false_eq_true,reduceIte];repeat (first
    | ((with_reducible refine kC 41 (.tmp 4) ?_);refine qH rfl 41 (.tmp 4) rfl b4 41 (arE (shows x) av uv kv) _ rfl (fun W hW=>by obtain⟨p,rfl⟩:=hW;exact gb.out p) Tryz.underlying41 rfl zk ?_;simp only [Act.put,zqA,zqB,zqC])|((with_reducible refine kC 49 (.tmp 5) ?_);refine qH rfl 49 (.tmp 5) rfl b5 49 (arP ⟨pf,ps,pk,pw,[]⟩ (.slice none 0 0)) _ rfl (fun W hW=>by obtain⟨p,rfl⟩:=hW;exact gp.out p) Tryz.underlying49 rfl zk ?_;simp only [Act.put,zqA,zqB,zqC])
    | go_big_quiet_step (fail))
   exact wpQuiet_nil rfl
  case hO2=>exact⟨Lay.xZ rfl rfl (vU _ _ _ _) (fun β=>rfl),Lay.yJ rfl rfl rfl zk zq (fun β=>rfl) (fun β=>rfl),trivial⟩
  case hI2=>exact trivial
  case hQ2=>
   intro β2 W2 hf2 hl2;obtain⟨⟨B3,_⟩,⟨B4,_⟩,_⟩:=hl2;change Blk W2 (β2 2) 49 (arP ⟨pf,ps,pk,pw,[]⟩ (.slice none 0 0)) at B3;have F2:=L1.res hf2;go_wp2_with fail
   refine bodyPost_ret (qx 2 41 ⟨w.heap.size+1,0,none⟩ _ 3 (.slice (some ⟨β2 2,0,none⟩) 1 1) zr zr (qw B4) zr) zr ?_;exact⟨_,_,rfl,rfl,qba B3 Byt.nil,F2⟩
theorem qmy{S:Nat->Prop}{w:World}{x:St}{av uv kv:Value}(m:RE S w x av uv kv)(ok:OkS x)(ou:OkU x)(h3:x.at_=3):Calls Tryz.prog 26 #[agE x av uv kv] w (vS S w (shows x,[zg x]) av uv kv):=by
 have o1:=m.qN;have hr:=fun W (g:Fr [] w W)=>qjb (m.fr g) ok;have l0:=Lo.start w (arE x av uv kv);have haw:=fun W (g:Fr [] w W)=>qam ((m.to_ (y:=shows x) rfl rfl rfl).fr g) ok.qhp ⟨ou.i0,ou.i1,ou.p0,ou.p1⟩;have hrb:=qal x;have hw16:IntKind.u16.wrap (qK x)=qK x:=by rw [qcc];omega
 have haa:ku (shows x)=ku x:=rfl;have hsv:shows x={ x with shown:=qK x }:=rfl;have hbv:zg x=if x.at_=3 then ⟨3,x.isn,ku x,qK x,[]⟩ else ⟨1,x.isn,0,qK x,[]⟩:=rfl;rw [haa] at haw;rw [hbv];rw [hsv] at haw |-
 clear hbv hsv haa;generalize ku x=aw at *
 generalize qK x=rv at *
 have HRm:=hI hr;have HAw:=hI haw;have L0:=hI l0;clear hr haw l0 m ok ou;rw [if_pos h3];have H3:=hI h3;clear h3;go_enter Tryz.func26,Tryz.ntmps26;go_upto_region 1 with fail
 generalize (w.alloc (.cells (arE x av uv kv) 41)).alloc (.cells qy 41)=w1 at *
 have LB:Hid (∀ W,Fr [] w1 W->Lo w W w.heap.size (w.heap.size+1) (arE x av uv kv)):=hI (fun W f=>L0.out.grow f);go_upto_region 2 with (first
   | ((with_reducible refine qj 41 (.tmp 1) ?_);refine qf rfl 41 (.tmp 1) rfl w.heap.size 41 (arE x av uv kv) _ rfl (LB.out _ zf).s Tryz.underlying41 rfl zk ?_)|(go_at_call 65;refine (HRm.out _ (LB.out _ (Fr.refl _ _)).f).mono ?_;rintro e w5 ⟨rfl,f5⟩;have c5:w5.cell? ⟨w.heap.size,32,none⟩=some (.int .i64 x.shown):=(LB.out _ f5).s.cell 32;have z5:=(LB.out _ f5).s.frozen 32;have hl5:=(LB.out _ f5).s.lt))
 have l2:Lo w (w5.setCell ⟨w.heap.size,32,none⟩ (.int .i64 rv)) w.heap.size (w.heap.size+1) (arE { x with shown:=rv } av uv kv):=(LB.out _ f5).cell 32 (.int .i64 rv);generalize w5.setCell ⟨w.heap.size,32,none⟩ (.int .i64 rv)=w2 at *
 clear c5 z5 hl5;have c:=jK l2.s;have c0:=c.c0;have c2:=c.c2;have c32:=c.c32;have L2:=hI l2;clear c l2;go_upto_region 3 with (first
   | ((with_reducible refine qi 49 (.tmp 4) ?_);refine qc rfl 49 (.tmp 4) (.tmp 13) rfl w2.heap.size 49 zJ (arP ⟨1,x.isn,0,rv,[]⟩ (.slice none 0 0)) rfl rfl (Blk.new w2 49 zJ) rfl zk zq ?_;intro w3 B3 F3))
 have L3:Lo w w3 w.heap.size (w.heap.size+1) (arE { x with shown:=rv } av uv kv):=(L2.out.grow ((Fr.refl [] w2).alloc (.cells zJ 49))).far F3 (by have:=L2.out.f.size;omega) (by have:=L2.out.s.lt;omega) (by have:=L2.out.r.lt;omega);have N3:w.heap.size+1<w2.heap.size:=L2.out.r.lt;generalize w2.heap.size=b4 at *
 clear F3 L2 c0 c32 c2;have c2:w3.cell? ⟨w.heap.size,2,none⟩=some (.int .i64 3):=by rw [<- H3.out];exact L3.s.cell 2
 have LC:Hid (∀ W,Fr [] w3 W->Lo w W w.heap.size (w.heap.size+1) (arE { x with shown:=rv } av uv kv)):=hI (fun W f=>L3.grow f);have B3':=hI B3;clear L3 B3;go_upto_region 5 with (first
   | ((with_reducible refine qj 41 (.tmp 1) ?_);refine qf rfl 41 (.tmp 1) rfl w.heap.size 41 (arE { x with shown:=rv } av uv kv) _ rfl (LC.out _ zf).s Tryz.underlying41 rfl zk ?_)|(go_at_call 66;refine (HAw.out _ (LC.out _ (Fr.refl _ _)).f).mono ?_;rintro e w6 ⟨rfl,f6⟩;have b6:=B3'.out.fr f6 zs;have q0:=b6.cell 0;have q2:=b6.cell 2;have z0:=b6.frozen 0;have z2:=b6.frozen 2;have hl6:=b6.lt;simp at q0 q2))
 have L4:Lo w ((w6.setCell ⟨b4,0,none⟩ (.int .i64 3)).setCell ⟨b4,2,none⟩ (.int .u32 aw)) w.heap.size (w.heap.size+1) (arE { x with shown:=rv } av uv kv):=(LC.out _ f6).far (b:=b4) (((Fr.refl [b4] w6).setCell (p:=⟨b4,0,none⟩) (.inl zs) _).setCell (p:=⟨b4,2,none⟩) (.inl zs) _) zw zw zw;have B4:Blk ((w6.setCell ⟨b4,0,none⟩ (.int .i64 3)).setCell ⟨b4,2,none⟩ (.int .u32 aw)) b4 49 (arP ⟨3,x.isn,aw,rv,[]⟩ (.slice none 0 0)):=by simpa using (b6.qO 0 (.int .i64 3)).qO 2 (.int .u32 aw)
 generalize (w6.setCell ⟨b4,0,none⟩ (.int .i64 3)).setCell ⟨b4,2,none⟩ (.int .u32 aw)=w7 at *
 clear b6 q0 q2 z0 z2 hl6;refine Lay.kK [⟨.new 2,49,arP ⟨3,x.isn,aw,rv,[]⟩ (.slice none 0 0),none⟩,⟨.fix (w.heap.size+1),41,arE { x with shown:=rv } av uv kv,some 3⟩] [w.heap.size+1] [] zk zk (fun β=>by kernel_rfl) rfl ⟨trivial,⟨zs,_,L4.r,rfl,zs,zs⟩,trivial⟩ ?hh3;apply Exists.intro;refine⟨?h3,?hO3,?hI3,?hQ3⟩;case h3=>
  intro β X hX hN;have gb:Hid (∀ p:Lay.GX [w.heap.size+1] w7 X,Blk p.W w.heap.size 41 (arE { x with shown:=rv } av uv kv)):=hI (fun p=>(L4.s).fr p.fr (by simp <;> omega));have gp:Hid (∀ p:Lay.GX [w.heap.size+1] w7 X,Blk p.W b4 49 (arP ⟨3,x.isn,aw,rv,[]⟩ (.slice none 0 0))):=hI (fun p=>(B4).fr p.fr (by simp <;> omega));simp only [Lay.jF,Lay.lays,Lay.lay,Lay.eff,Lay.xJ,if_true,if_false,Bool.false_eq_true,reduceIte];repeat (first
   | ((with_reducible refine kC 41 (.tmp 1) ?_);refine qH rfl 41 (.tmp 1) rfl w.heap.size 41 (arE { x with shown:=rv } av uv kv) _ rfl (fun W hW=>by obtain⟨p,rfl⟩:=hW;exact gb.out p) Tryz.underlying41 rfl zk ?_;simp only [Act.put,zqA,zqB,zqC])|((with_reducible refine kC 49 (.tmp 4) ?_);refine qH rfl 49 (.tmp 4) rfl b4 49 (arP ⟨3,x.isn,aw,rv,[]⟩ (.slice none 0 0)) _ rfl (fun W hW=>by obtain⟨p,rfl⟩:=hW;exact gp.out p) Tryz.underlying49 rfl zk ?_;simp only [Act.put,zqA,zqB,zqC])
   | go_big_quiet_step (fail))
  exact wpQuiet_nil rfl
 case hO3=>exact⟨Lay.xZ rfl rfl (vU _ _ _ _) (fun β=>rfl),Lay.yJ rfl rfl rfl zk zq (fun β=>rfl) (fun β=>rfl),trivial⟩
 case hI3=>exact trivial
 case hQ3=>
  intro β2 W2 hf2 hl2;obtain⟨⟨B5,_⟩,⟨B6,_⟩,_⟩:=hl2;change Blk W2 (β2 2) 49 (arP ⟨3,x.isn,aw,rv,[]⟩ (.slice none 0 0)) at B5;have F2:=(L4).res hf2;go_wp2_with fail
  refine bodyPost_ret (qx 2 41 ⟨w.heap.size+1,0,none⟩ _ 3 (.slice (some ⟨β2 2,0,none⟩) 1 1) zr zr (qw B6) zr) zr ?_;exact⟨_,_,rfl,rfl,qba B5 Byt.nil,F2⟩
theorem qmz{S:Nat->Prop}{w:World}{x:St}{av uv kv:Value}(m:RE S w x av uv kv)(ok:OkS x)(ou:OkU x)(h3:x.at_≠3):Calls Tryz.prog 26 #[agE x av uv kv] w (vS S w (shows x,[zg x]) av uv kv):=by
 have o1:=m.qN;have hr:=fun W (g:Fr [] w W)=>qjb (m.fr g) ok;have l0:=Lo.start w (arE x av uv kv);have haw:=fun W (g:Fr [] w W)=>qam ((m.to_ (y:=shows x) rfl rfl rfl).fr g) ok.qhp ⟨ou.i0,ou.i1,ou.p0,ou.p1⟩;have hrb:=qal x;have hw16:IntKind.u16.wrap (qK x)=qK x:=by rw [qcc];omega
 have haa:ku (shows x)=ku x:=rfl;have hsv:shows x={ x with shown:=qK x }:=rfl;have hbv:zg x=if x.at_=3 then ⟨3,x.isn,ku x,qK x,[]⟩ else ⟨1,x.isn,0,qK x,[]⟩:=rfl;rw [haa] at haw;rw [hbv];rw [hsv] at haw |-
 clear hbv hsv haa;generalize ku x=aw at *
 generalize qK x=rv at *
 have HRm:=hI hr;have HAw:=hI haw;have L0:=hI l0;clear hr haw l0 m ok ou;rw [if_neg h3];have h3d:decide (x.at_=3)=false:=by simpa using h3
 have h3q:(x.at_ == 3)=false:=by simpa using h3
 go_enter Tryz.func26,Tryz.ntmps26;go_upto_region 1 with fail
 generalize (w.alloc (.cells (arE x av uv kv) 41)).alloc (.cells qy 41)=w1 at *
 have LB:Hid (∀ W,Fr [] w1 W->Lo w W w.heap.size (w.heap.size+1) (arE x av uv kv)):=hI (fun W f=>L0.out.grow f);go_upto_region 2 with (first
   | ((with_reducible refine qj 41 (.tmp 1) ?_);refine qf rfl 41 (.tmp 1) rfl w.heap.size 41 (arE x av uv kv) _ rfl (LB.out _ zf).s Tryz.underlying41 rfl zk ?_)|(go_at_call 65;refine (HRm.out _ (LB.out _ (Fr.refl _ _)).f).mono ?_;rintro e w5 ⟨rfl,f5⟩;have c5:w5.cell? ⟨w.heap.size,32,none⟩=some (.int .i64 x.shown):=(LB.out _ f5).s.cell 32;have z5:=(LB.out _ f5).s.frozen 32;have hl5:=(LB.out _ f5).s.lt))
 have l2:Lo w (w5.setCell ⟨w.heap.size,32,none⟩ (.int .i64 rv)) w.heap.size (w.heap.size+1) (arE { x with shown:=rv } av uv kv):=(LB.out _ f5).cell 32 (.int .i64 rv);generalize w5.setCell ⟨w.heap.size,32,none⟩ (.int .i64 rv)=w2 at *
 clear c5 z5 hl5;have c:=jK l2.s;have c0:=c.c0;have c2:=c.c2;have c32:=c.c32;have L2:=hI l2;clear c l2;go_upto_region 3 with (first
   | ((with_reducible refine qi 49 (.tmp 4) ?_);refine qc rfl 49 (.tmp 4) (.tmp 13) rfl w2.heap.size 49 zJ (arP ⟨1,x.isn,0,rv,[]⟩ (.slice none 0 0)) rfl rfl (Blk.new w2 49 zJ) rfl zk zq ?_;intro w3 B3 F3))
 have L3:Lo w w3 w.heap.size (w.heap.size+1) (arE { x with shown:=rv } av uv kv):=(L2.out.grow ((Fr.refl [] w2).alloc (.cells zJ 49))).far F3 (by have:=L2.out.f.size;omega) (by have:=L2.out.s.lt;omega) (by have:=L2.out.r.lt;omega);have N3:w.heap.size+1<w2.heap.size:=L2.out.r.lt;generalize w2.heap.size=b4 at *
 clear F3 L2 c0 c32 c2;have c2:w3.cell? ⟨w.heap.size,2,none⟩=some (.int .i64 x.at_):=L3.s.cell 2;have L3':=hI L3;have B3':=hI B3;clear L3 B3;go_upto_region 5 with fail
 refine Lay.kK [⟨.new 2,49,arP ⟨1,x.isn,0,rv,[]⟩ (.slice none 0 0),none⟩,⟨.fix (w.heap.size+1),41,arE { x with shown:=rv } av uv kv,some 3⟩] [w.heap.size+1] [] zk zk (fun β=>by kernel_rfl) rfl ⟨trivial,⟨zs,_,L3'.out.r,rfl,zs,zs⟩,trivial⟩ ?hh4;apply Exists.intro;refine⟨?h4,?hO4,?hI4,?hQ4⟩;case h4=>
  intro β X hX hN;have gb:Hid (∀ p:Lay.GX [w.heap.size+1] w3 X,Blk p.W w.heap.size 41 (arE { x with shown:=rv } av uv kv)):=hI (fun p=>(L3'.out.s).fr p.fr (by simp <;> omega));have gp:Hid (∀ p:Lay.GX [w.heap.size+1] w3 X,Blk p.W b4 49 (arP ⟨1,x.isn,0,rv,[]⟩ (.slice none 0 0))):=hI (fun p=>(B3'.out).fr p.fr (by simp <;> omega));simp only [Lay.jF,Lay.lays,Lay.lay,Lay.eff,Lay.xJ,if_true,if_false,Bool.false_eq_true,reduceIte];repeat (first
   | ((with_reducible refine kC 41 (.tmp 1) ?_);refine qH rfl 41 (.tmp 1) rfl w.heap.size 41 (arE { x with shown:=rv } av uv kv) _ rfl (fun W hW=>by obtain⟨p,rfl⟩:=hW;exact gb.out p) Tryz.underlying41 rfl zk ?_;simp only [Act.put,zqA,zqB,zqC])|((with_reducible refine kC 49 (.tmp 4) ?_);refine qH rfl 49 (.tmp 4) rfl b4 49 (arP ⟨1,x.isn,0,rv,[]⟩ (.slice none 0 0)) _ rfl (fun W hW=>by obtain⟨p,rfl⟩:=hW;exact gp.out p) Tryz.underlying49 rfl zk ?_;simp only [Act.put,zqA,zqB,zqC])
   | go_big_quiet_step (fail))
  exact wpQuiet_nil rfl
 case hO4=>exact⟨Lay.xZ rfl rfl (vU _ _ _ _) (fun β=>rfl),Lay.yJ rfl rfl rfl zk zq (fun β=>rfl) (fun β=>rfl),trivial⟩
 case hI4=>exact trivial
 case hQ4=>
  intro β2 W2 hf2 hl2;obtain⟨⟨B5,_⟩,⟨B6,_⟩,_⟩:=hl2;change Blk W2 (β2 2) 49 (arP ⟨1,x.isn,0,rv,[]⟩ (.slice none 0 0)) at B5;have F2:=(L3'.out).res hf2;go_wp2_with fail
  refine bodyPost_ret (qx 2 41 ⟨w.heap.size+1,0,none⟩ _ 3 (.slice (some ⟨β2 2,0,none⟩) 1 1) zr zr (qw B6) zr) zr ?_;exact⟨_,_,rfl,rfl,qba B5 Byt.nil,F2⟩
theorem qao{S:Nat->Prop}{w:World}{x:St}{av uv kv:Value}(m:RE S w x av uv kv)(ok:OkS x)(ou:OkU x):Calls Tryz.prog 26 #[agE x av uv kv] w (vS S w (shows x,[zg x]) av uv kv):=by
 by_cases h:x.at_=3
 ·exact qmy m ok ou h
 ·exact qmz m ok ou h
theorem qna{S:Nat->Prop}{w:World}{x:St}{av uv kv:Value}(m:RE S w x av uv kv)(ok:OkS x)(r:Int)(r0:0<=r)(r1:r<65536):Calls Tryz.prog 107 #[agE x av uv kv, .int .u16 r] w fun e w'=>e = .returned (agE (zu x r) av uv kv)/\Fr [] w w':=by
 have o1:=m.qN;have hA:=fun W=>Win.rack x.win 0 r W 1000000000 (Int.le_refl _) ok.hw;have hS:=fun W=>Rto.qiw x.clk W ok.hc;have l0:=Lo.start w (arE x av uv kv);have hov:zu x r={ x with at_:=4,win:=(Win.je x.win 0 r).1,clk:=Rto.qW x.clk }:=rfl;have hcv:IntKind.i64.wrap r=r:=IntWalk.i64_in _ zw;rw [hov];clear hov;generalize Win.je x.win 0 r=ak at *
 generalize Rto.qW x.clk=ck at *
 obtain⟨⟨ka,ks,km,kl⟩,mo,er⟩:=ak;obtain⟨f0,l0',m0,t0,is0,tm0,sp0,wt0,si0,tr0,rn0⟩:=ck;dsimp only at *
 have HA:=hI hA;have HS:=hI hS;have L0:=hI l0;clear hA hS l0 m ok;go_enter Tryz.func107,Tryz.ntmps107;go_upto_region 1 with fail
 generalize (w.alloc (.cells (arE x av uv kv) 41)).alloc (.cells qy 41)=w1 at *
 have c2:w1.cell? ⟨w.heap.size,2,none⟩=some (.int .i64 x.at_):=L0.out.s.cell 2;have z2:=L0.out.s.frozen 2;have hl1:=L0.out.s.lt;go_upto_region 2 with fail
 have l1:Lo w (w1.setCell ⟨w.heap.size,2,none⟩ (.int .i64 4)) w.heap.size (w.heap.size+1) (arE { x with at_:=4 } av uv kv):=L0.out.cell 2 (.int .i64 4);generalize w1.setCell ⟨w.heap.size,2,none⟩ (.int .i64 4)=w2 at *
 have LB:Hid (∀ W,Fr [] w2 W->Lo w W w.heap.size (w.heap.size+1) (arE { x with at_:=4 } av uv kv)):=hI (fun W f=>l1.grow f);clear c2 z2 hl1 l1;go_upto_region 3 with (first
   | ((with_reducible refine qj 32 (.tmp 10) ?_);refine qC rfl 32 (.tmp 10) rfl w.heap.size 6 41 (arE { x with at_:=4 } av uv kv) (arW x.win) _ rfl (LB.out _ zf).s rfl Tryz.underlying32 rfl zk ?_)|(go_at_call 121;refine (HA.out _).mono ?_;rintro e w5 ⟨rfl,f5⟩)|((with_reducible refine qi 32 (.tmp 5) ?_);refine qc rfl 32 (.tmp 5) (.tmp 15) rfl w5.heap.size 32 #[.int .i64 0, .int .i64 0, .int .i64 0, .int .i64 0] #[.int .i64 ka, .int .i64 ks, .int .i64 km, .int .i64 kl] rfl rfl (Blk.new w5 32 #[.int .i64 0, .int .i64 0, .int .i64 0, .int .i64 0]) rfl zk zq ?_;intro w6 B6 F6))
 have l6:Lo w w6 w.heap.size (w.heap.size+1) (arE { x with at_:=4 } av uv kv):=(LB.out _ (f5.alloc (.cells #[.int .i64 0, .int .i64 0, .int .i64 0, .int .i64 0] 32))).far F6 (by have:=(LB.out _ f5).f.size;omega) (by have:=(LB.out _ f5).s.lt;omega) (by have:=(LB.out _ f5).r.lt;omega);have n6:w.heap.size+1<w5.heap.size:=(LB.out _ f5).r.lt;generalize w5.heap.size=b5 at *
 clear F6;have LC:Hid (∀ W,Fr [] w6 W->Lo w W w.heap.size (w.heap.size+1) (arE { x with at_:=4 } av uv kv)):=hI (fun W f=>l6.grow f);have BC:Hid (∀ W,Fr [] w6 W->Blk W b5 32 #[.int .i64 ka, .int .i64 ks, .int .i64 km, .int .i64 kl]):=hI (fun W f=>B6.fr f zs);clear l6 B6;go_cut [] (fun wx=>Lo w wx w.heap.size (w.heap.size+1) (arE { x with at_:=4,win:=⟨ka,ks,km,kl⟩,clk:=⟨f0,l0',m0,t0,is0,tm0,sp0,wt0,si0,tr0,rn0⟩ } av uv kv));case first=>
  have c:=jK (LC.out _ (Fr.refl [] w6)).s;have b:=BC.out _ (Fr.refl [] w6);have k10:=c.c10;have k11:=c.c11;have k12:=c.c12;have k13:=c.c13;have k14:=c.c14;have k15:=c.c15;have k16:=c.c16;have k17:=c.c17;have k18:=c.c18;have k19:=c.c19;have k20:=c.c20;have j0:=b.cell 0;have j1:=b.cell 1;have j2:=b.cell 2;have j3:=b.cell 3;simp at j0 j1 j2 j3;clear c b
  go_region_law (first|(go_simp;go_at_call 69;refine (HS.out _).mono ?_;rintro e w7 ⟨rfl,f7⟩;have f7':Fr [] w6 w7:=(Fr.refl [] w6).drew.trans f7 zs;have l7:=LC.out _ f7';have c:=jK l7.s;have k6:=c.c6;have k7:=c.c7;have k8:=c.c8;have k9:=c.c9;have k10:=c.c10;have k11:=c.c11;have k12:=c.c12;have k13:=c.c13;have k14:=c.c14;have k15:=c.c15;have k16:=c.c16;have k17:=c.c17;have k18:=c.c18;have k19:=c.c19;have k20:=c.c20;have zz:=l7.s.frozen;have hl:=l7.s.lt;have b:=BC.out _ f7';have j0:=b.cell 0;have j1:=b.cell 1;have j2:=b.cell 2;have j3:=b.cell 3;simp at j0 j1 j2 j3;have L7:=hI l7;clear c b l7 f7))
  all_goals
   go_wp2_with fail
   go_meet;have hh:=(((((((((((((((L7.out.cell 6 (.int .i64 ka)).cell 7 (.int .i64 ks)).cell 8 (.int .i64 km)).cell 9 (.int .i64 kl)).cell 10 (.int .i64 f0)).cell 11 (.int .i64 l0')).cell 12 (.int .i64 m0)).cell 13 (.int .i64 t0)).cell 14 (.bool is0)).cell 15 (.int .i64 tm0)).cell 16 (.int .i64 sp0)).cell 17 (.int .i64 wt0)).cell 18 (.int .i64 si0)).cell 19 (.int .i64 tr0)).cell 20 (.bool rn0));simp only [arE,zqA,zqB,zqC] at hh |-
   exact hh
 case rest=>
  have LD:Hid (∀ W,Fr [] wc W->Lo w W w.heap.size (w.heap.size+1) (arE { x with at_:=4,win:=⟨ka,ks,km,kl⟩,clk:=⟨f0,l0',m0,t0,is0,tm0,sp0,wt0,si0,tr0,rn0⟩ } av uv kv)):=hI (fun W f=>hcut.grow f);clear hcut LB LC BC;go_wp2_with (first
   | ((with_reducible refine qj 41 (.tmp 2) ?_);refine qf rfl 41 (.tmp 2) rfl w.heap.size 41 (arE { x with at_:=4,win:=⟨ka,ks,km,kl⟩,clk:=⟨f0,l0',m0,t0,is0,tm0,sp0,wt0,si0,tr0,rn0⟩ } av uv kv) _ rfl (LD.out _ zf).s Tryz.underlying41 rfl zk ?_)|((with_reducible refine qi 41 (.tmp 4) ?_);refine qc rfl 41 (.tmp 4) (.tmp 24) rfl (w.heap.size+1) 41 qy (arE { x with at_:=4,win:=⟨ka,ks,km,kl⟩,clk:=⟨f0,l0',m0,t0,is0,tm0,sp0,wt0,si0,tr0,rn0⟩ } av uv kv) rfl rfl (LD.out _ zf).r rfl zk zq ?_;intro w9 B9 F9))
  refine bodyPost_ret (kF 4 41 ⟨w.heap.size+1,0,none⟩ _ zr zr (qw B9)) zr ?_;exact⟨rfl,(LD.out _ (Fr.refl _ _)).res F9⟩
end Go.Proofs.YtmgdbbbdhkfdmaaGreat
