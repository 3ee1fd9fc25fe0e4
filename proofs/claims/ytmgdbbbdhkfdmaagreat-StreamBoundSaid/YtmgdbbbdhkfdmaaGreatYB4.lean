import Derived.Test.YtmgdbbbdhkfdmaaGreatYB3
import Derived.Deep.DeepCutAuto
set_option linter.unusedSimpArgs false
set_option linter.unusedVariables false
namespace Go.Proofs.YtmgdbbbdhkfdmaaGreat
set_option maxRecDepth 100000
open Go.RowKit Go.Deep
def prs:List (Prt × Value)→List Value
 | []=>[]
 | x::L => .int .i64 x.1.flags :: .int .u32 x.1.seq :: .int .u32 x.1.ack :: .int .u16 x.1.win::x.2::prs L
theorem prs_app:∀ L M,prs L++prs M=prs (L++M)
 | [],_=>rfl
 | x::L,M=>by simp only [prs,List.cons_append,prs_app L M]
structure Pr(S:Nat→Prop)(w:World)(v:Value)(L:List (Prt × Value)):Prop where
 own:w.ownsRow 0 49 5 v L.length (prs L)
 byt:∀ x∈L,Byt S w x.2 x.1.d
theorem Pr.nil{S:Nat→Prop}{w:World}:Pr S w (.slice none 0 0) []:=⟨World.ownsRow_nil _ 0 49 5,by simp⟩
theorem Pr.one{S:Nat→Prop}{w:World}{v:Value}{L:List (Prt × Value)}(h:Pr S w v L):∀ u∈prs L,u.oneCell'=true:=by
 have hb:=h.byt
 clear h
 induction L with
 | nil=>simp [prs]
 | cons x L ih=>
  intro u hu
  simp only [prs,List.mem_cons] at hu
  rcases hu with rfl|rfl|rfl|rfl|rfl|hu
  ·rfl
  ·rfl
  ·rfl
  ·rfl
  ·exact (hb x (by simp)).one
  ·exact ih (fun y hy=>hb y (List.mem_cons_of_mem _ hy)) u hu
theorem Pr.fr{S S':Nat→Prop}{w w':World}{v:Value}{L:List (Prt × Value)}{O:List Nat}(h:Pr S w v L)(f:Fr O w w')(hO:∀ x∈O,¬ S x)(hn:∀ b∈ob v,b∉O)(hS:∀ b,S b→S' b):Pr S' w' v L:=
 ⟨own_fr h.own f (fun b hb=>hn b (mem_ob.2 hb)),fun x hx=>((h.byt x hx).fr f hO).mono hS⟩
theorem pr_one{S:Nat→Prop}{w:World}{p:Prt}{dv:Value}(h:Byt S w dv p.d) :
  Pr S (w.alloc (.cells #[.int .i64 p.flags, .int .u32 p.seq, .int .u32 p.ack, .int .u16 p.win,dv] 49)) (.slice (some ⟨w.heap.size,0,none⟩) 1 1) [(p,dv)]:=
 ⟨⟨by simp [prs], .inr ⟨w.heap.size,1,#[.int .i64 p.flags, .int .u32 p.seq, .int .u32 p.ack, .int .u16 p.win,dv],rfl,Nat.zero_le _,Blk.new w 49 _,by simp,by simp [maxLen],by simp [prs]⟩⟩,fun x hx=>by
  simp at hx
  subst hx
  exact h.fr ((Fr.refl [] w).alloc _) (by simp)⟩
structure Hd.like(w:World)(H H':Hd):Prop where
 g:H'.g=H.g
 gw:H'.gw=H.gw
 gc:H'.gc=H.gc
 gh:H'.gh=H.gh
 own:∀ b∈H'.own,b∈H.own∨w.heap.size≤b
theorem Hd.like.rfl'(w:World)(H:Hd):Hd.like w H H:=⟨rfl,rfl,rfl,rfl,fun b h => .inl h⟩
def LPost(S:Nat→Prop)(w:World)(H:Hd)(r:St × List Prt)(e:Ending)(w':World):Prop:=
 ∃ S' H' v L,e = .returned v∧L.map (·.1)=r.2∧Ext w S S'∧Hd.like w H H'∧SI S' w' H' r.1∧Pr S' w' v L∧(∀ b∈ob v,w.heap.size≤b∧¬ S' b)∧Fr H.own w w'
theorem lpost_nil{S:Nat→Prop}{w w':World}{H:Hd}{x':St}(m:SI S w' H x')(f:Fr H.own w w'):LPost S w H (x',[]) (.returned (.slice none 0 0)) w':=
 ⟨S,H,_,[],rfl,rfl,Ext.refl w S,Hd.like.rfl' w H,m,Pr.nil,by simp [ob,Value.ownBlock],f⟩
theorem lpost_one{S S0:Nat→Prop}{w w0 w1:World}{H H0:Hd}{x':St}{p:Prt}{A:Option Addr}{c:Nat}{v:Value}(e0:Ext w S S0)(hl:Hd.like w H H0)(f0:Fr H.own w w0)(h:PartPost S0 w0 H0 x' p (.returned v) w1)(hv:v=agP p (.slice A p.d.length c)) :
  LPost S w H (x',[p]) (.returned (.slice (some ⟨w1.heap.size,0,none⟩) 1 1)) (w1.alloc (.cells #[.int .i64 p.flags, .int .u32 p.seq, .int .u32 p.ack, .int .u16 p.win, .slice A p.d.length c] 49)):=by
 obtain⟨S1,A1,c1,e,x1,by1,m1,f1⟩:=h
 subst hv
 injection e with e
 injection e with e
 have ea:(Value.slice A p.d.length c) = .slice A1 p.d.length c1:=by simpa using congrArg (fun a=>a.toList.getD 4 undef) e
 rw [ea]
 have hg:H.g∈H.own:=by simp [Hd.own]
 have hz0:=f0.size
 have hz1:=f1.size
 have hp:∀ b,S1 b→b<w1.heap.size:=HP.pub' m1.hp
 refine⟨S1,H0,_,[(p, .slice A1 p.d.length c1)],rfl,rfl,e0.trans hz0 x1,hl,m1.fr ((Fr.refl [] w1).alloc _),pr_one by1,?_,(f0.trans (f1.mono (O':=H.own) (fun y hy=>by simp at hy;subst hy;rw [hl.g];exact hg)) (fun y hy => .inl hy)).alloc _⟩
 intro b hb
 simp [ob,Value.ownBlock] at hb
 subst hb
 exact⟨by omega,fun hs=>by have:=hp _ hs;omega⟩
abbrev arP(p:Prt)(dv:Value):Array Value:=#[.int .i64 p.flags, .int .u32 p.seq, .int .u32 p.ack, .int .u16 p.win,dv]
set_option maxHeartbeats 4000000 in
theorem listen_si{S:Nat→Prop}{w:World}{H:Hd}{x:St}(m:SI S w H x)(hi:Inv x.heap)(hu:x.unread.length≤100000)(p:Prt)(A:Option Addr)(c:Nat) :
  Calls Tryz.prog 51 #[ptr H.g,agP p (.slice A p.d.length c)] w (LPost S w H (listenV x p)):=by
 obtain⟨fl,sq,ak,wi,d⟩:=p
 dsimp only
 have hgl:=m.blk.lt
 have f0:Fr [] w (w.alloc (.cells (arP ⟨fl,sq,ak,wi,d⟩ (.slice A d.length c)) 49)):=(Fr.refl [] w).alloc _
 have b0:Blk (w.alloc (.cells (arP ⟨fl,sq,ak,wi,d⟩ (.slice A d.length c)) 49)) w.heap.size 49 (arP ⟨fl,sq,ak,wi,d⟩ (.slice A d.length c)):=Blk.new w _ _
 have m0:=m.fr f0
 have M:=Lib.hid m
 by_cases hfl:fl=1
 ·have hv:listenV x ⟨fl,sq,ak,wi,d⟩=(shows { x with peer:=sq,at_:=3 },[beginsV { x with peer:=sq,at_:=3 }]):=by unfold listenV;rw [if_pos hfl]
  rw [hv]
  clear hv
  subst hfl
  go_enter Tryz.func51,Tryz.ntmps51
  go_upto_region 1 with fail
  generalize w.alloc (.cells (arP ⟨1,sq,ak,wi,d⟩ (.slice A d.length c)) 49)=w0 at *
  obtain⟨y0,y1,y2,y3,y4⟩:=cells5 b0
  have cs:=scells m0.blk
  have c0:=cs.c0
  have c2:=cs.c2
  have z0:=m0.blk.frozen 0
  have z2:=m0.blk.frozen 2
  have ng:H.g≠w.heap.size:=by omega
  have M0:=Lib.hid m0
  have F0:=Lib.hid f0
  clear m m0 f0 b0 cs
  go_wp2_with fail
  have f1:Fr [H.g] w0 ((w0.setCell ⟨H.g,2,none⟩ (.int .u32 sq)).setCell ⟨H.g,0,none⟩ (.int .i64 3)):=((Fr.refl [H.g] w0).setCell (p:=⟨H.g,2,none⟩) (.inl (by simp)) _).setCell (p:=⟨H.g,0,none⟩) (.inl (by simp)) _
  have B1:Blk ((w0.setCell ⟨H.g,2,none⟩ (.int .u32 sq)).setCell ⟨H.g,0,none⟩ (.int .i64 3)) H.g 74 (arS { x with peer:=sq,at_:=3 } H):=by simpa using (M0.out.blk.set_ 2 (.int .u32 sq)).set_ 0 (.int .i64 3)
  have m1:=M0.out.set (x':={ x with peer:=sq,at_:=3 }) f1 B1 rfl rfl rfl rfl rfl
  generalize (w0.setCell ⟨H.g,2,none⟩ (.int .u32 sq)).setCell ⟨H.g,0,none⟩ (.int .i64 3)=w1 at *
  refine (begins_si m1 hi hu).mono ?_
  rintro e w2 ⟨S2,A2,c2',rfl,x2,by2,m2,f2⟩
  have hp:=lpost_one (Ext.refl w S) (Hd.like.rfl' w H) ((F0.out.mono (by simp)).trans (f1.mono (O':=H.own) (by simp [Hd.own])) (fun y hy => .inl hy)) (⟨S2,A2,c2',rfl,x2,by2,m2,f2⟩:PartPost S w1 H _ _ (.returned (agP (beginsV { x with peer:=sq,at_:=3 }) (.slice A2 _ c2'))) w2) rfl
  have HP:=Lib.hid hp
  clear hp x2 by2 m2 f2 m1 f1 B1 c0 c2 z0 z2 y0 y1 y2 y3 y4
  go_wp2_with fail
  go_ret
  exact HP.out
 ·have hv:listenV x ⟨fl,sq,ak,wi,d⟩=(x,[]):=by unfold listenV;rw [if_neg hfl]
  rw [hv]
  clear hv
  go_enter Tryz.func51,Tryz.ntmps51
  go_wp2_with fail
  go_ret
  exact lpost_nil (M.out.fr f0) (f0.mono (by simp))
theorem place_any(a b near:Int)(w:World)(h2:-9223372036854775808≤near)(h3:near≤9223372036854775807):Calls Tryz.prog 114 #[.int .u32 a, .int .u32 b, .int .i64 near] w fun e w'=>e = .returned (.int .i64 (placeV a b near))∧Fr [] w w':=by
 have hn:=Sne.near_walk ((a - b - 1) % 4294967296) near w (by omega) (by omega) h2 h3
 have he:placeV a b near=(Sne.nearV ((a - b - 1) % 4294967296) near).1:=rfl
 rw [he]
 have hq:((a - b) % 4294967296 - 1) % 4294967296=(a - b - 1) % 4294967296:=by omega
 generalize (Sne.nearV ((a - b - 1) % 4294967296) near).1=v at *
 generalize (Sne.nearV ((a - b - 1) % 4294967296) near).2=v2 at *
 generalize (a - b - 1) % 4294967296=q at *
 have HN:=Lib.hid hn
 clear hn
 go_enter Tryz.func114,Tryz.ntmps114
 go_wp2_with fail
 refine HN.out.mono ?_
 rintro e w1 ⟨rfl,f1⟩
 go_wp2_with fail
 go_ret
 exact⟨rfl,f1⟩
theorem ack_facts{B:Int}{v:Win.Wn}(h:Win.Inv B v)(u r:Int):v.a≤(Win.ackV v u r).1.a∧(Win.ackV v u r).1.a=v.a+(Win.ackV v u r).2.1∧(Win.ackV v u r).1.a≤v.m∨((Win.ackV v u r).1=v∧(Win.ackV v u r).2.1=0):=by
 have hb:=Win.Inv.bd h
 unfold Win.ackV
 (repeat' split)
 ·exact .inr ⟨rfl,rfl⟩
 ·exact .inr ⟨rfl,rfl⟩
 ·exact .inr ⟨rfl,rfl⟩
 ·left
  simp only []
  omega
theorem SI.acked{S:Nat→Prop}{w w1 w2:World}{H:Hd}{x:St}{v:Win.Wn}{A:Option Addr}{c k:Nat}(m:SI S w H x)(f:Fr [H.gw] w w1)(C:Win.Win w1 H.gw v true)(hk:v.a.toNat=x.win.a.toNat+k)
  (f2:Fr [] w1 w2) (own:w2.ownsRow 0 5 1 (.slice A ((bufV x).drop k).length c) ((bufV x).drop k).length (byts ((bufV x).drop k))) (fb:∀ b,(Value.slice A ((bufV x).drop k).length c).ownBlock=some b→w1.heap.size≤b) :
  SI S (w2.setCell ⟨H.g,14,none⟩ (.slice A ((bufV x).drop k).length c)) ⟨H.g,H.gw,H.gc,H.gh, .slice A ((bufV x).drop k).length c,H.uv,H.kv⟩ { x with win:=v }∧Fr [H.g,H.gw] w (w2.setCell ⟨H.g,14,none⟩ (.slice A ((bufV x).drop k).length c)):=by
 have hO:∀ y∈[H.gw],¬ S y:=fun y hy=>by simp at hy;subst hy;exact m.nS _ (.inr (.inl rfl))
 have nk:∀ y∈H.gh::ob H.kv,y≠H.gw:=by
  obtain⟨ev,L,n⟩:=m.hp
  intro y hy
  rcases List.mem_cons.1 hy with rfl|hy
  ·exact blk_ne n.blk m.win (by decide)
  ·rintro rfl;exact own_ne n.kp.own m.win (by decide) (mem_ob.1 hy)
 have hz:=f.size
 have f3:Fr [H.g] w2 (w2.setCell ⟨H.g,14,none⟩ (.slice A ((bufV x).drop k).length c)):=(Fr.refl [H.g] w2).setCell (p:=⟨H.g,14,none⟩) (.inl (by simp)) _
 have F:Fr [H.g,H.gw] w (w2.setCell ⟨H.g,14,none⟩ (.slice A ((bufV x).drop k).length c)):=((f.mono (by simp)).trans (f2.mono (O':=[H.g,H.gw]) (by simp)) (fun y hy => .inl hy)).trans (f3.mono (O':=[H.g,H.gw]) (by simp)) (fun y hy => .inl hy)
 have hO3:∀ y∈[H.g],¬ S y:=fun y hy=>by simp at hy;subst hy;exact m.nS _ (.inl rfl)
 have B2:Blk w2 H.g 74 (arS x H):=(m.blk.fr f (by simpa using fun e=>m.ne_w e.symm)).fr f2 (by simp)
 have hbuf:bufV { x with win:=v }=(bufV x).drop k:=by unfold bufV;rw [List.drop_drop,hk]
 have hun:=own_fr (own_fr m.unr f (fun b hb=>by simp;rintro rfl;exact own_ne m.unr m.win (by decide) hb)) f2 (by simp)
 have hp1:=m.hp.ext' f (Ext.refl w S) hO (fun y hy=>by simpa using nk y hy) (fun b hb=>Nat.lt_of_lt_of_le (HP.pub' m.hp b hb) f.size)
 have hp2:=hp1.ext' f2 (Ext.refl w1 S) (by simp) (by simp) (fun b hb=>Nat.lt_of_lt_of_le (HP.pub' hp1 b hb) f2.size)
 have hgx:∀ y∈H.gh::ob H.kv,y∉[H.g]:=fun y hy=>by simpa using m.ne_h y hy
 have hpub:∀ b,S b→b<w.heap.size:=HP.pub' m.hp
 refine⟨⟨by simpa using B2.set_ 14 (.slice A ((bufV x).drop k).length c),Blk.fr (Blk.fr C f2 (by simp)) f3 (by simpa using m.ne_w),Blk.fr (Blk.fr (Blk.fr m.clk f (by simpa using blk_ne m.clk m.win (by decide))) f2 (by simp)) f3 (by simpa using m.ne_c),
  hp2.ext' f3 (Ext.refl w2 S) hO3 hgx (fun b hb=>Nat.lt_of_lt_of_le (HP.pub' hp2 b hb) f3.size),by rw [hbuf];exact own_fr own f3 (fun b hb=>by simp;rintro rfl;exact own_ne own B2 (by decide) hb),own_fr hun f3 (fun b hb=>by simpa using m.ne_u b (mem_ob.2 hb)),fun y hy=>?_,fun y hy hu=>?_⟩,F⟩
 ·rcases hy with h|h|h|h|h
  ·exact m.nS y (.inl h)
  ·exact m.nS y (.inr (.inl h))
  ·exact m.nS y (.inr (.inr (.inl h)))
  ·have h1:=fb y (mem_ob.1 h)
   intro hs
   have:=hpub y hs
   omega
  ·exact m.nS y (.inr (.inr (.inr (.inr h))))
 ·have h1:=fb y (mem_ob.1 hy)
  have h2:=own_lt m.unr (mem_ob.1 hu)
  omega
end Go.Proofs.YtmgdbbbdhkfdmaaGreat
