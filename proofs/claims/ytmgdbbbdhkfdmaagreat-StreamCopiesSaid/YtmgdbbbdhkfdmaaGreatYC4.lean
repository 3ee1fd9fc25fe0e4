import Derived.Test.YtmgdbbbdhkfdmaaGreatYC3
import Derived.Deep.DeepCutAuto
import Derived.Test.YtmgdbbbdhkfdmaaGreatYC2
import Derived.Test.YtmgdbbbdhkfdmaaGreatYC0
set_option linter.unusedSimpArgs false
set_option linter.unusedVariables false
set_option maxHeartbeats 40000000
namespace Go.Proofs.YtmgdbbbdhkfdmaaGreat
set_option maxRecDepth 100000
open Go.RowKit Go.Deep
def prs:List (Prt × Value)->List Value
 | []=>[]
 | x::L => .int .i64 x.1.flags :: .int .u32 x.1.seq :: .int .u32 x.1.ack :: .int .u16 x.1.win::x.2::prs L
theorem qet:∀ L M,prs L++prs M=prs (L++M)
 | [],_=>rfl
 | x::L,M=>by simp only [prs,List.cons_append,qet L M]
structure Pr(S:Nat->Prop)(w:World)(v:Value)(L:List (Prt × Value)):Prop where
 own:w.ownsRow 0 49 5 v L.length (prs L)
 byt:∀ x∈L,Byt S w x.2 x.1.d
theorem Pr.nil{S:Nat->Prop}{w:World}:Pr S w (.slice none 0 0) []:=⟨World.ownsRow_nil _ 0 49 5,zs⟩
theorem Pr.one{S:Nat->Prop}{w:World}{v:Value}{L:List (Prt × Value)}(h:Pr S w v L):∀ u∈prs L,u.oneCell'=true:=by
 have hb:=h.byt;clear h
 induction L with
 | nil=>simp [prs]
 | cons x L ih=>
  intro u hu;simp only [prs,List.mem_cons] at hu;rcases hu with rfl|rfl|rfl|rfl|rfl|hu
  ·rfl
  ·rfl
  ·rfl
  ·rfl
  ·exact (hb x zs).one
  ·exact ih (fun y hy=>hb y (List.mem_cons_of_mem _ hy)) u hu
theorem Pr.fr{S S':Nat->Prop}{w w':World}{v:Value}{L:List (Prt × Value)}{O:List Nat}(h:Pr S w v L)(f:Fr O w w')(hO:∀ x∈O,¬ S x)(hn:∀ b∈ob v,b∉O)(hS:∀ b,S b->S' b):Pr S' w' v L:=
 ⟨qA h.own f (fun b hb=>hn b (qo.2 hb)),fun x hx=>((h.byt x hx).fr f hO).mono hS⟩
theorem qcg{S:Nat->Prop}{w:World}{p:Prt}{dv:Value}(h:Byt S w dv p.d) :
  Pr S (w.alloc (.cells #[.int .i64 p.flags, .int .u32 p.seq, .int .u32 p.ack, .int .u16 p.win,dv] 49)) (.slice (some ⟨w.heap.size,0,none⟩) 1 1) [(p,dv)]:=
 ⟨⟨by simp [prs], .inr ⟨w.heap.size,1,#[.int .i64 p.flags, .int .u32 p.seq, .int .u32 p.ack, .int .u16 p.win,dv],rfl,Nat.zero_le _,Blk.new w 49 _,zs,by simp [maxLen],by simp [prs]⟩⟩,fun x hx=>by
  simp at hx;subst hx;exact h.fr ((Fr.refl [] w).alloc _) zs⟩
structure Hd.like(w:World)(H H':Hd):Prop where
 g:H'.g=H.g
 gw:H'.gw=H.gw
 gc:H'.gc=H.gc
 gh:H'.gh=H.gh
 own:∀ b∈H'.own,b∈H.own\/w.heap.size<=b
theorem Hd.like.rfl'(w:World)(H:Hd):Hd.like w H H:=⟨rfl,rfl,rfl,rfl,fun b h => .inl h⟩
def zS(S:Nat->Prop)(w:World)(H:Hd)(r:St × List Prt)(e:Ending)(w':World):Prop:=
 ∃ S' H' v L,e = .returned v/\L.map (·.1)=r.2/\Ext w S S'/\Hd.like w H H'/\SI S' w' H' r.1/\Pr S' w' v L/\(∀ b∈ob v,w.heap.size<=b/\¬ S' b)/\Fr H.own w w'
theorem kJ{S:Nat->Prop}{w w':World}{H:Hd}{x':St}(m:SI S w' H x')(f:Fr H.own w w'):zS S w H (x',[]) (.returned (.slice none 0 0)) w':=
 ⟨S,H,_,[],rfl,rfl,Ext.refl w S,Hd.like.rfl' w H,m,Pr.nil,zb,f⟩
theorem jH{S S0:Nat->Prop}{w w0 w1:World}{H H0:Hd}{x':St}{p:Prt}{A:Option Addr}{c:Nat}{v:Value}(e0:Ext w S S0)(hl:Hd.like w H H0)(f0:Fr H.own w w0)(h:qZ S0 w0 H0 x' p (.returned v) w1)(hv:v=agP p (.slice A p.d.length c)) :
  zS S w H (x',[p]) (.returned (.slice (some ⟨w1.heap.size,0,none⟩) 1 1)) (w1.alloc (.cells #[.int .i64 p.flags, .int .u32 p.seq, .int .u32 p.ack, .int .u16 p.win, .slice A p.d.length c] 49)):=by
 obtain⟨S1,A1,c1,e,x1,by1,m1,f1⟩:=h;subst hv;injection e with e;injection e with e;have ea:(Value.slice A p.d.length c) = .slice A1 p.d.length c1:=by simpa using congrArg (fun a=>a.toList.getD 4 undef) e
 rw [ea];have hg:H.g∈H.own:=zh;have hz0:=f0.size;have hz1:=f1.size;have hp:∀ b,S1 b->b<w1.heap.size:=HP.zA m1.hp;refine⟨S1,H0,_,[(p, .slice A1 p.d.length c1)],rfl,rfl,e0.trans hz0 x1,hl,m1.fr ((Fr.refl [] w1).alloc _),qcg by1,?_,(f0.trans (f1.mono (O':=H.own) (fun y hy=>by simp at hy;subst hy;rw [hl.g];exact hg)) (fun y hy => .inl hy)).alloc _⟩;intro b hb;simp [ob,Value.ownBlock] at hb;subst hb;exact⟨zw,fun hs=>by have:=hp _ hs;omega⟩
abbrev arP(p:Prt)(dv:Value):Array Value:=#[.int .i64 p.flags, .int .u32 p.seq, .int .u32 p.ack, .int .u16 p.win,dv]
theorem qay{S:Nat->Prop}{w:World}{H:Hd}{x:St}(m:SI S w H x)(hi:Inv x.heap)(hu:x.unread.length<=100000)(p:Prt)(A:Option Addr)(c:Nat) :
  Calls Tryz.prog 51 #[ptr H.g,agP p (.slice A p.d.length c)] w (zS S w H (kU x p)):=by
 obtain⟨fl,sq,ak,wi,d⟩:=p;dsimp only;have hgl:=m.blk.lt;have f0:Fr [] w (w.alloc (.cells (arP ⟨fl,sq,ak,wi,d⟩ (.slice A d.length c)) 49)):=(Fr.refl [] w).alloc _;have b0:Blk (w.alloc (.cells (arP ⟨fl,sq,ak,wi,d⟩ (.slice A d.length c)) 49)) w.heap.size 49 (arP ⟨fl,sq,ak,wi,d⟩ (.slice A d.length c)):=Blk.new w _ _;have m0:=m.fr f0;have M:=hI m;by_cases hfl:fl=1
 ·have hv:kU x ⟨fl,sq,ak,wi,d⟩=(shows { x with peer:=sq,at_:=3 },[zg { x with peer:=sq,at_:=3 }]):=by unfold kU;rw [if_pos hfl]
  rw [hv];clear hv;subst hfl;go_enter Tryz.func51,Tryz.ntmps51;go_upto_region 1 with fail
  generalize w.alloc (.cells (arP ⟨1,sq,ak,wi,d⟩ (.slice A d.length c)) 49)=w0 at *
  obtain⟨y0,y1,y2,y3,y4⟩:=cells5 b0;have cs:=qm m0.blk;have c0:=cs.c0;have c2:=cs.c2;have z0:=m0.blk.frozen 0;have z2:=m0.blk.frozen 2;have ng:H.g≠w.heap.size:=zw;have M0:=hI m0;have F0:=hI f0;clear m m0 f0 b0 cs;go_wp2_with fail
  have f1:Fr [H.g] w0 ((w0.setCell ⟨H.g,2,none⟩ (.int .u32 sq)).setCell ⟨H.g,0,none⟩ (.int .i64 3)):=((Fr.refl [H.g] w0).setCell (p:=⟨H.g,2,none⟩) (.inl zs) _).setCell (p:=⟨H.g,0,none⟩) (.inl zs) _;have B1:Blk ((w0.setCell ⟨H.g,2,none⟩ (.int .u32 sq)).setCell ⟨H.g,0,none⟩ (.int .i64 3)) H.g 74 (arS { x with peer:=sq,at_:=3 } H):=by simpa using (M0.out.blk.qO 2 (.int .u32 sq)).qO 0 (.int .i64 3)
  have m1:=M0.out.set (x':={ x with peer:=sq,at_:=3 }) f1 B1 rfl rfl rfl rfl rfl;generalize (w0.setCell ⟨H.g,2,none⟩ (.int .u32 sq)).setCell ⟨H.g,0,none⟩ (.int .i64 3)=w1 at *
  refine (qax m1 hi hu).mono ?_;rintro e w2 ⟨S2,A2,c2',rfl,x2,by2,m2,f2⟩;have hp:=jH (Ext.refl w S) (Hd.like.rfl' w H) ((F0.out.mono zs).trans (f1.mono (O':=H.own) zh) (fun y hy => .inl hy)) (⟨S2,A2,c2',rfl,x2,by2,m2,f2⟩:qZ S w1 H _ _ (.returned (agP (zg { x with peer:=sq,at_:=3 }) (.slice A2 _ c2'))) w2) rfl;have HP:=hI hp;clear hp x2 by2 m2 f2 m1 f1 B1 c0 c2 z0 z2 y0 y1 y2 y3 y4;go_wp2_with fail
  go_ret;exact HP.out
 ·have hv:kU x ⟨fl,sq,ak,wi,d⟩=(x,[]):=by unfold kU;rw [if_neg hfl]
  rw [hv];clear hv;go_enter Tryz.func51,Tryz.ntmps51;go_wp2_with fail
  go_ret;exact kJ (M.out.fr f0) (f0.mono zs)
theorem qdm(a b near:Int)(w:World)(h2:-9223372036854775808<=near)(h3:near<=9223372036854775807):Calls Tryz.prog 114 #[.int .u32 a, .int .u32 b, .int .i64 near] w fun e w'=>e = .returned (.int .i64 (kL a b near))/\Fr [] w w':=by
 have hn:=Sne.qkd ((a - b - 1) % 4294967296) near w zw zw h2 h3;have he:kL a b near=(Sne.jX ((a - b - 1) % 4294967296) near).1:=rfl;rw [he];have hq:((a - b) % 4294967296 - 1) % 4294967296=(a - b - 1) % 4294967296:=zw;generalize (Sne.jX ((a - b - 1) % 4294967296) near).1=v at *
 generalize (Sne.jX ((a - b - 1) % 4294967296) near).2=v2 at *
 generalize (a - b - 1) % 4294967296=q at *
 have HN:=hI hn;clear hn;go_enter Tryz.func114,Tryz.ntmps114;go_wp2_with fail
 refine HN.out.mono ?_;rintro e w1 ⟨rfl,f1⟩;go_wp2_with fail
 go_ret;exact⟨rfl,f1⟩
theorem qkj{B:Int}{v:Win.Wn}(h:Win.Inv B v)(u r:Int):v.a<=(Win.je v u r).1.a/\(Win.je v u r).1.a=v.a+(Win.je v u r).2.1/\(Win.je v u r).1.a<=v.m\/((Win.je v u r).1=v/\(Win.je v u r).2.1=0):=by
 have hb:=Win.Inv.bd h;unfold Win.je
 (repeat' split)
 ·exact .inr ⟨rfl,rfl⟩
 ·exact .inr ⟨rfl,rfl⟩
 ·exact .inr ⟨rfl,rfl⟩
 ·left
  simp only [];omega
theorem SI.qp{S:Nat->Prop}{w w1 w2:World}{H:Hd}{x:St}{v:Win.Wn}{A:Option Addr}{c k:Nat}(m:SI S w H x)(f:Fr [H.gw] w w1)(C:Win.Win w1 H.gw v true)(hk:v.a.toNat=x.win.a.toNat+k)
  (f2:Fr [] w1 w2) (own:w2.ownsRow 0 5 1 (.slice A ((kw x).drop k).length c) ((kw x).drop k).length (kE ((kw x).drop k))) (fb:∀ b,(Value.slice A ((kw x).drop k).length c).ownBlock=some b->w1.heap.size<=b) :
  SI S (w2.setCell ⟨H.g,14,none⟩ (.slice A ((kw x).drop k).length c)) ⟨H.g,H.gw,H.gc,H.gh, .slice A ((kw x).drop k).length c,H.uv,H.kv⟩ { x with win:=v }/\Fr [H.g,H.gw] w (w2.setCell ⟨H.g,14,none⟩ (.slice A ((kw x).drop k).length c)):=by
 have hO:∀ y∈[H.gw],¬ S y:=fun y hy=>by simp at hy;subst hy;exact m.nS _ (.inr (.inl rfl))
 have nk:∀ y∈H.gh::ob H.kv,y≠H.gw:=by
  obtain⟨ev,L,n⟩:=m.hp;intro y hy;rcases List.mem_cons.1 hy with rfl|hy
  ·exact kP n.blk m.win zd
  ·rintro rfl;exact own_ne n.kp.own m.win zd (qo.1 hy)
 have hz:=f.size;have f3:Fr [H.g] w2 (w2.setCell ⟨H.g,14,none⟩ (.slice A ((kw x).drop k).length c)):=(Fr.refl [H.g] w2).setCell (p:=⟨H.g,14,none⟩) (.inl zs) _;have F:Fr [H.g,H.gw] w (w2.setCell ⟨H.g,14,none⟩ (.slice A ((kw x).drop k).length c)):=((f.mono zs).trans (f2.mono (O':=[H.g,H.gw]) zs) (fun y hy => .inl hy)).trans (f3.mono (O':=[H.g,H.gw]) zs) (fun y hy => .inl hy);have hO3:∀ y∈[H.g],¬ S y:=fun y hy=>by simp at hy;subst hy;exact m.nS _ (.inl rfl)
 have B2:Blk w2 H.g 74 (arS x H):=(m.blk.fr f (by simpa using fun e=>m.qeq e.symm)).fr f2 zs;have hbuf:kw { x with win:=v }=(kw x).drop k:=by unfold kw;rw [List.drop_drop,hk]
 have hun:=qA (qA m.unr f (fun b hb=>by simp;rintro rfl;exact own_ne m.unr m.win zd hb)) f2 zs;have hp1:=m.hp.ext' f (Ext.refl w S) hO (fun y hy=>by simpa using nk y hy) (fun b hb=>Nat.lt_of_lt_of_le (HP.zA m.hp b hb) f.size);have hp2:=hp1.ext' f2 (Ext.refl w1 S) zs zs (fun b hb=>Nat.lt_of_lt_of_le (HP.zA hp1 b hb) f2.size);have hgx:∀ y∈H.gh::ob H.kv,y∉[H.g]:=fun y hy=>by simpa using m.ne_h y hy
 have hpub:∀ b,S b->b<w.heap.size:=HP.zA m.hp;refine⟨⟨by simpa using B2.qO 14 (.slice A ((kw x).drop k).length c),Blk.fr (Blk.fr C f2 zs) f3 (by simpa using m.qeq),Blk.fr (Blk.fr (Blk.fr m.clk f (by simpa using kP m.clk m.win zd)) f2 zs) f3 (by simpa using m.xR),
  hp2.ext' f3 (Ext.refl w2 S) hO3 hgx (fun b hb=>Nat.lt_of_lt_of_le (HP.zA hp2 b hb) f3.size),by rw [hbuf];exact qA own f3 (fun b hb=>by simp;rintro rfl;exact own_ne own B2 zd hb),qA hun f3 (fun b hb=>by simpa using m.qer b (qo.2 hb)),fun y hy=>?_,fun y hy hu=>?_⟩,F⟩
 ·rcases hy with h|h|h|h|h
  ·exact m.nS y (.inl h)
  ·exact m.nS y (.inr (.inl h))
  ·exact m.nS y (.inr (.inr (.inl h)))
  ·have h1:=fb y (qo.1 h)
   intro hs;have:=hpub y hs;omega
  ·exact m.nS y (.inr (.inr (.inr (.inr h))))
 ·have h1:=fb y (qo.1 hy)
  have h2:=kG m.unr (qo.1 hu);omega
end Go.Proofs.YtmgdbbbdhkfdmaaGreat
