import Derived.Test.YtmgdbbbdhkfdmaaGreatYS4
import Derived.Test.YtmgdbbbdhkfdmaaGreatYS9
import Derived.Test.YtmgdbbbdhkfdmaaGreatYS3
import Derived.Test.YtmgdbbbdhkfdmaaGreatYS2
import Derived.Deep.DeepCutAuto
set_option linter.unusedSimpArgs false
set_option linter.unusedVariables false
namespace Go.Proofs.YtmgdbbbdhkfdmaaGreat
set_option maxRecDepth 100000
open Go.RowKit
theorem info_part:(Tryz.prog.info? 49).map (fun i=>(i.zero,i.size,i.bytes))=some (some (.agg #[.int .i64 0, .int .u32 0, .int .u32 0, .int .u16 0, .slice none 0 0]),5,48):=by kernel_rfl
theorem Pr.app{S:Nat→Prop}{w w':World}{v v' dv:Value}{L:List (Prt × Value)}{p:Prt}(h:Pr S w v L)(own:w'.ownsRow 0 49 5 v' (L.length+1) (prs L++[.int .i64 p.flags, .int .u32 p.seq, .int .u32 p.ack, .int .u16 p.win,dv]))(f:Fr (ob v) w w')(hv:∀ b∈ob v,¬ S b)(hb:Byt S w dv p.d):Pr S w' v' (L++[(p,dv)]):=by
 refine⟨?_,fun x hx=>?_⟩
 ·rw [List.length_append,← prs_app]
  exact own
 ·rcases List.mem_append.1 hx with hx|hx
  ·exact (h.byt x hx).fr f hv
  ·rw [List.mem_singleton] at hx
   subst hx
   exact hb.fr f hv
end Go.Proofs.YtmgdbbbdhkfdmaaGreat
namespace Go.Proofs.YtmgdbbbdhkfdmaaGreat
set_option maxRecDepth 100000
open Go.RowKit
theorem next_bd{x:St}(h:0<nextV x):nextV x≤64∧nextV x≤x.all.length - x.win.s∧nextV x≤x.win.l - x.win.s:=by
 unfold nextV Win.roomV at *
 omega
theorem take_eq{v:Win.Wn}{n:Int}(h0:0≤n)(h1:n≤v.l - v.s):Win.takeV v n=(⟨v.a,v.s+n,max v.m (v.s+n),v.l⟩,v.s,0):=by
 unfold Win.takeV
 rw [if_neg (by omega),if_neg (by unfold Win.roomV;omega)]
def takesV(x:St)(n:Int):St:={ x with win:=(Win.takeV x.win n).1 }
def timesV(x:St)(p:Int):St:=if x.timed=0 then { x with timed:=p,since:=x.now } else x
theorem sendV_eq(x:St):sendV x=(timesV (shows (takesV x (nextV x))) (x.win.s+nextV x),partV (takesV x (nextV x)) 2 x.win.s ((x.all.drop x.win.s.toNat).take (nextV x).toNat)):=rfl
theorem takes_ok{x:St}(ok:OkS x)(h:0<nextV x):OkS (takesV x (nextV x))∧(takesV x (nextV x)).win.s=x.win.s+nextV x∧(takesV x (nextV x)).win.a=x.win.a∧x.win.s+nextV x≤x.all.length:=by
 obtain⟨b1,b2,b3⟩:=next_bd h
 have hw:=Win.Inv.bd ok.hw
 have hm:=ok.hm
 unfold takesV
 rw [take_eq (by omega) b3]
 refine⟨⟨ok.hi,ok.hu,⟨hw.1,?_,?_,?_,hw.2.2.2.2⟩,ok.hc,?_,ok.hl,ok.n0,ok.n1,ok.s0,ok.s1⟩,rfl,rfl,by omega⟩
 all_goals (simp only [];omega)
theorem shows_ok{x:St}(ok:OkS x):OkS (shows x):=⟨ok.hi,ok.hu,ok.hw,ok.hc,ok.hm,ok.hl,ok.n0,ok.n1,ok.s0,ok.s1⟩
theorem times_ok{x:St}(ok:OkS x)(p:Int):OkS (timesV x p):=by
 unfold timesV
 split
 ·exact⟨ok.hi,ok.hu,ok.hw,ok.hc,ok.hm,ok.hl,ok.n0,ok.n1,ok.n0,ok.n1⟩
 ·exact ok
theorem times_same(x:St)(p:Int):(timesV x p).win=x.win∧(timesV x p).all=x.all:=by unfold timesV;split <;> exact⟨rfl,rfl⟩
theorem send_ok{x:St}(ok:OkS x)(h:0<nextV x):OkS (sendV x).1∧(sendV x).1.win.s=x.win.s+nextV x∧(sendV x).1.all=x.all:=by
 rw [sendV_eq]
 obtain⟨k,e1,e2,e3⟩:=takes_ok ok h
 have t:=times_same (shows (takesV x (nextV x))) (x.win.s+nextV x)
 exact⟨times_ok (shows_ok k) _,by show (timesV _ _).win.s=_;rw [t.1];exact e1,by show (timesV _ _).all=_;rw [t.2];rfl⟩
theorem loop_stop(k:Nat)(x:St)(h:¬ 0<nextV x):loopV k x=(x,[]):=by
 cases k with
 | zero=>rfl
 | succ k=>unfold loopV;rw [if_neg h]
theorem loop_go(k:Nat)(x:St)(h:0<nextV x):loopV (k+1) x=((loopV k (sendV x).1).1,(sendV x).2::(loopV k (sendV x).1).2):=by
 conv=>lhs;unfold loopV
 rw [if_pos h]
theorem loop_ok:∀(k:Nat) (x:St),OkS x→OkS (loopV k x).1
 | 0,x,ok=>ok
 | k+1,x,ok=>by
  by_cases h:0<nextV x
  ·rw [loop_go k x h];exact loop_ok k _ (send_ok ok h).1
  ·rw [loop_stop _ x h];exact ok
theorem loop_all:∀(k:Nat) (x:St),(loopV k x).1.all=x.all∧(loopV k x).1.at_=x.at_∧(loopV k x).1.heap=x.heap∧(loopV k x).1.clk=x.clk
 | 0,x=>⟨rfl,rfl,rfl,rfl⟩
 | k+1,x=>by
  by_cases h:0<nextV x
  ·rw [loop_go k x h]
   obtain⟨a,b,c,d⟩:=loop_all k (sendV x).1
   have e:(sendV x).1.all=x.all∧(sendV x).1.at_=x.at_∧(sendV x).1.heap=x.heap∧(sendV x).1.clk=x.clk:=by
    rw [sendV_eq];unfold timesV;dsimp only;split <;> exact⟨rfl,rfl,rfl,rfl⟩
   exact⟨a.trans e.1,b.trans e.2.1,c.trans e.2.2.1,d.trans e.2.2.2⟩
  ·rw [loop_stop _ x h];exact⟨rfl,rfl,rfl,rfl⟩
def finsV(x:St):Bool:=x.closing && decide (x.win.s=x.all.length) && !x.fin
def closesV(x:St):St × List Prt:=if finsV x then ({ shows x with fin:=true },[partV x 6 x.all.length []]) else (x,[])
def lastV(x:St):St:=if x.ended && x.acked then doneV x false else x
theorem sendsV_open(x:St)(h:x.at_=4):sendsV x=(restsV (lastV (closesV (loopV x.all.length x).1).1),(loopV x.all.length x).2++(closesV (loopV x.all.length x).1).2):=by
 unfold sendsV
 rw [if_pos h]
 unfold closesV lastV finsV
 dsimp only
 split <;> rfl
theorem sendsV_else(x:St)(h:x.at_≠4):sendsV x=(restsV x,[]):=by unfold sendsV;rw [if_neg h]
theorem closes_ok{x:St}(ok:OkS x):OkS (closesV x).1:=by
 unfold closesV
 split
 ·exact⟨ok.hi,ok.hu,ok.hw,ok.hc,ok.hm,ok.hl,ok.n0,ok.n1,ok.s0,ok.s1⟩
 ·exact ok
theorem done_ok{x:St}(ok:OkS x)(b:Bool):OkS (doneV x b):=⟨ok.hi,ok.hu,ok.hw,ok.hc,ok.hm,ok.hl,ok.n0,ok.n1,ok.s0,ok.s1⟩
theorem rests_ok{x:St}(ok:OkS x):OkS (restsV x):=by
 unfold restsV
 split
 ·exact⟨ok.hi,ok.hu,ok.hw,Rto.start_inv ok.hc _,ok.hm,ok.hl,ok.n0,ok.n1,ok.s0,ok.s1⟩
 split
 ·exact⟨ok.hi,ok.hu,ok.hw,Rto.stop_inv ok.hc,ok.hm,ok.hl,ok.n0,ok.n1,ok.s0,ok.s1⟩
 ·exact ok
end Go.Proofs.YtmgdbbbdhkfdmaaGreat
namespace Go.Proofs.YtmgdbbbdhkfdmaaGreat
set_option maxRecDepth 100000
open Go.RowKit
theorem bst_is(is:Pc→Bool)(lt:Pc→Pc→Bool)(l:List Pc):∀ k,0≤bestV is lt l k→is (l.getD (bestV is lt l k).toNat default)=true
 | 0=>by simp [bestV]
 | k+1=>by
  rw [best_succ]
  by_cases h:(is (l.getD k default) && (decide (bestV is lt l k<0) || lt (l.getD k default) (l.getD (bestV is lt l k).toNat default)))=true
  ·rw [if_pos h]
   intro _
   rw [Bool.and_eq_true] at h
   simpa using h.1
  ·rw [if_neg h]
   exact bst_is is lt l k
theorem ready_early{next:Int}{l:List Pc}(h:0≤readyV next l):(l.getD (readyV next l).toNat default).at_≤next:=by
 have:early next (l.getD (readyV next l).toNat default)=true:=bst_is (early next) ahead l l.length h
 exact of_decide_eq_true this
theorem take_kb{p:Pc}{next B:Int}(h1:next≤B)(hp:p.at_+p.d.length≤B)(ha:p.at_≤next):next≤(takeV next p).2∧(takeV next p).2≤B∧((takeV next p).1.length:Int)=(takeV next p).2 - next:=by
 unfold takeV Pc.beh
 by_cases hb:p.at_+p.d.length≤next
 ·rw [if_pos hb]
  exact⟨Int.le_refl _,h1,by simp⟩
 ·rw [if_neg hb]
  refine⟨by simp only [];omega,hp,?_⟩
  simp only [List.length_drop]
  omega
theorem drain_kb(B:Int):∀(n:Nat) (next:Int) (l:List Pc),next≤B→(∀ p∈l,p.at_+p.d.length≤B) →
  next≤(drainV n next l).1∧(drainV n next l).1≤B∧((drainV n next l).2.2.length:Int)=(drainV n next l).1 - next
 | 0,next,l,h1,_=>⟨Int.le_refl _,h1,by simp [drainV]⟩
 | n+1,next,l,h1,hs=>by
  unfold drainV
  by_cases hr:readyV next l<0
  ·rw [if_pos hr]
   exact⟨Int.le_refl _,h1,by simp⟩
  ·rw [if_neg hr]
   have hb:=ready_bd next l
   have hlt:(readyV next l).toNat<l.length:=by omega
   have hp:=hs _ (getD_mem hlt)
   obtain⟨t1,t2,t3⟩:=take_kb h1 hp (ready_early (by omega))
   generalize hpp:l.getD (readyV next l).toNat default=p at *
   obtain⟨d1,d2,d3⟩:=drain_kb B n (takeV next p).2 (l.eraseIdx (readyV next l).toNat) t2 (fun q hq=>hs q (List.mem_of_mem_eraseIdx hq))
   refine⟨by simp only [];omega,d2,?_⟩
   simp only [List.length_append]
   omega
theorem put_kb{h:Hp}{B a:Int}{d:List Int}(h1:h.next≤B)(hk:∀ p∈h.kept,p.at_+p.d.length≤B)(ha:a+d.length≤B) :
  h.next≤(putV h a d).1.next∧(putV h a d).1.next≤B∧((putV h a d).2.1.length:Int)=(putV h a d).1.next - h.next∧∀ p∈(putV h a d).1.kept,p.at_+p.d.length≤B:=by
 have h0:h.next≤h.next∧h.next≤B∧((([]:List Int).length:Nat):Int)=h.next - h.next∧∀ p∈h.kept,p.at_+p.d.length≤B:=⟨Int.le_refl _,h1,by simp,hk⟩
 unfold putV
 split
 ·exact h0
 split
 ·exact h0
 split
 ·exact h0
 rename_i g1 g2 g3
 split
 ·rename_i g4
  obtain⟨d1,d2,d3⟩:=drain_kb B h.kept.length (a+d.length) h.kept ha hk
  refine⟨by simp only [];omega,d2,?_,fun p hp=>hk p (drain_mem _ _ _ _ hp)⟩
  simp only [List.length_append,List.length_drop]
  omega
 split
 ·exact h0
 split
 ·exact h0
 ·refine⟨Int.le_refl _,h1,by simp,fun p hp=>?_⟩
  rcases List.mem_append.1 hp with hp|hp
  ·exact hk p hp
  ·rw [List.mem_singleton] at hp
   subst hp
   exact ha
theorem endV_same(h:Hp)(a:Int):(endV h a).1.next=h.next∧(endV h a).1.kept=h.kept:=by
 unfold endV
 (repeat' split) <;> exact⟨rfl,rfl⟩
structure Ok(x:St):Prop where
 s:OkS x
 at0:1≤x.at_
 at5:x.at_≤5
 un:(x.unread.length:Int)≤x.heap.next
 kb:∀ p∈x.heap.kept,p.at_+p.d.length≤x.heap.next - x.unread.length+1024
 nb:x.now≤1000000
theorem ack_inv{v:Win.Wn}(h:Win.Inv 1000000000 v)(hm:v.m≤1000000)(u r:Int):Win.Inv 1000000000 (Win.ackV v u r).1:=by
 have hb:=Win.Inv.bd h
 unfold Win.ackV
 split
 ·exact h
 split
 ·exact h
 split
 ·exact h
 ·refine⟨?_,?_,?_,?_,?_⟩ <;> simp only [] <;> omega
theorem okS_win{x:St}(ok:OkS x){v:Win.Wn}(h:Win.Inv 1000000000 v)(hm:v.m≤x.all.length):OkS { x with win:=v }:=⟨ok.hi,ok.hu,h,ok.hc,hm,ok.hl,ok.n0,ok.n1,ok.s0,ok.s1⟩
theorem data1_same(x:St)(p:Prt):(data1V x p).next=x.heap.next∧(data1V x p).kept=x.heap.kept:=by
 unfold data1V
 split
 ·exact endV_same _ _
 ·exact⟨rfl,rfl⟩
section
variable {x:St} (ok:Ok x)
include ok
theorem Ok.shows:Ok (shows x):=⟨shows_ok ok.s,ok.at0,ok.at5,ok.un,ok.kb,ok.nb⟩
theorem Ok.done(b:Bool):Ok (doneV x b):=⟨done_ok ok.s b,by show (1:Int)≤5;decide,by show (5:Int)≤5;decide,ok.un,ok.kb,ok.nb⟩
theorem Ok.peer(q a:Int)(h0:1≤a)(h5:a≤5):Ok { x with peer:=q,at_:=a }:=⟨⟨ok.s.hi,ok.s.hu,ok.s.hw,ok.s.hc,ok.s.hm,ok.s.hl,ok.s.n0,ok.s.n1,ok.s.s0,ok.s.s1⟩,h0,h5,ok.un,ok.kb,ok.nb⟩
theorem Ok.peer'(q:Int):Ok { x with peer:=q }:=⟨⟨ok.s.hi,ok.s.hu,ok.s.hw,ok.s.hc,ok.s.hm,ok.s.hl,ok.s.n0,ok.s.n1,ok.s.s0,ok.s.s1⟩,ok.at0,ok.at5,ok.un,ok.kb,ok.nb⟩
theorem Ok.opens(r:Int):Ok (opensV x r):=
 ⟨⟨ok.s.hi,ok.s.hu,ack_inv ok.s.hw (by have:=ok.s.hm;have:=ok.s.hl;omega) 0 r,Rto.stop_inv ok.s.hc,by show (Win.ackV x.win 0 r).1.m≤_;rw [ack_m];exact ok.s.hm,ok.s.hl,ok.s.n0,ok.s.n1,ok.s.s0,ok.s.s1⟩,by show (1:Int)≤4;decide,by show (4:Int)≤5;decide,ok.un,ok.kb,ok.nb⟩
theorem Ok.acks(p:Prt):Ok (acksV x p):=by
 have hw:=ack_inv ok.s.hw (by have:=ok.s.hm;have:=ok.s.hl;omega) (uptoV x p) p.win
 have hm:(Win.ackV x.win (uptoV x p) p.win).1.m≤x.all.length:=by rw [ack_m];exact ok.s.hm
 unfold acksV
 generalize (Win.ackV x.win (uptoV x p) p.win).1=v at *
 generalize (Win.ackV x.win (uptoV x p) p.win).2.1=more
 unfold acks2V
 split
 ·exact⟨okS_win ok.s hw hm,ok.at0,ok.at5,ok.un,ok.kb,ok.nb⟩
 split
 ·exact⟨⟨ok.s.hi,ok.s.hu,hw,Rto.stop_inv (Rto.sample_inv ok.s.hc _),hm,ok.s.hl,ok.s.n0,ok.s.n1,ok.s.s0,ok.s.s1⟩,ok.at0,ok.at5,ok.un,ok.kb,ok.nb⟩
 ·exact⟨⟨ok.s.hi,ok.s.hu,hw,Rto.stop_inv ok.s.hc,hm,ok.s.hl,ok.s.n0,ok.s.n1,ok.s.s0,ok.s.s1⟩,ok.at0,ok.at5,ok.un,ok.kb,ok.nb⟩
theorem Ok.data(p:Prt)(hd:p.d.length≤100):Ok (dataV x p):=by
 have hi:=ok.s.hi
 have h1:Inv (data1V x p):=by unfold data1V;split;exact end_inv hi _;exact hi
 obtain⟨e1,e2⟩:=data1_same x p
 have hu:=ok.s.hu
 rw [dataV_eq]
 split
 ·rename_i g
  obtain⟨g1,g2⟩:=g
  have hk:=put_kb (h:=data1V x p) (B:=x.heap.next - x.unread.length+1024) (a:=placeV p.seq x.peer x.heap.next) (d:=p.d) (by omega) (by rw [e2];exact ok.kb) (by omega)
  have hi2:=put_inv h1 (placeV p.seq x.peer x.heap.next) p.d
  have hun:=ok.un
  generalize putV (data1V x p) (placeV p.seq x.peer x.heap.next) p.d=t at *
  obtain⟨k1,k2,k3,k4⟩:=hk
  rw [e1] at k1 k3
  refine⟨⟨hi2,?_,ok.s.hw,ok.s.hc,ok.s.hm,ok.s.hl,ok.s.n0,ok.s.n1,ok.s.s0,ok.s.s1⟩,ok.at0,ok.at5,?_,?_,ok.nb⟩
  ·simp only [List.length_append];omega
  ·simp only [List.length_append];omega
  ·intro q hq
   have:=k4 q hq
   simp only [List.length_append]
   omega
 ·refine⟨⟨h1,hu,ok.s.hw,ok.s.hc,ok.s.hm,ok.s.hl,ok.s.n0,ok.s.n1,ok.s.s0,ok.s.s1⟩,ok.at0,ok.at5,by show _≤(data1V x p).next;rw [e1];exact ok.un,?_,ok.nb⟩
  show ∀ q∈(data1V x p).kept,_≤(data1V x p).next - _+_
  rw [e1,e2]
  exact ok.kb
theorem Ok.open_(p:Prt)(hd:p.d.length≤100):Ok (openV x p).1:=by
 unfold openV
 split
 ·split
  ·exact ok.done true
  ·exact ok
 split
 ·exact ok.shows
 split
 ·exact ok
 dsimp only
 have h1:=ok.acks p
 split
 ·split
  ·exact h1
  ·exact h1.data p hd
 ·split
  ·exact h1.shows
  ·exact (h1.data p hd).shows
theorem Ok.listen(p:Prt):Ok (listenV x p).1:=by
 unfold listenV
 split
 ·exact (ok.peer p.seq 3 (by decide) (by decide)).shows
 ·exact ok
theorem Ok.calls(p:Prt):Ok (callsV x p).1:=by
 unfold callsV
 split
 ·exact ok.listen p
 split
 ·exact ok
 split
 ·exact ((ok.peer' p.seq).opens p.win).shows
 split
 ·exact ok.done true
 ·exact ok
theorem Ok.heard(p:Prt)(hd:p.d.length≤100):Ok (heardV x p).1:=by
 unfold heardV
 split
 ·exact ok.listen p
 split
 ·exact (ok.opens p.win).shows
 split
 ·exact ok.open_ p hd
 split
 ·exact ok
 ·exact (ok.opens p.win).open_ p hd
theorem Ok.ended(p:Prt):Ok (endedV x p).1:=by
 unfold endedV
 split
 ·exact ok
 ·exact ok.shows
theorem Ok.comes(p:Prt)(hd:p.d.length≤100):Ok (comesV x p).1:=by
 unfold comesV
 split
 ·exact ok.listen p
 split
 ·exact ok.calls p
 split
 ·exact ok.heard p hd
 split
 ·exact ok.open_ p hd
 ·exact ok.ended p
theorem Ok.rests:Ok (restsV x):=by
 have h:=rests_ok ok.s
 unfold restsV at h ⊢
 split
 ·rw [if_pos (by assumption)] at h
  exact⟨h,ok.at0,ok.at5,ok.un,ok.kb,ok.nb⟩
 rw [if_neg (by assumption)] at h
 split
 ·rw [if_pos (by assumption)] at h
  exact⟨h,ok.at0,ok.at5,ok.un,ok.kb,ok.nb⟩
 ·exact ok
theorem Ok.send(h:0<nextV x):Ok (sendV x).1:=by
 have hs:=(send_ok ok.s h).1
 have e:(sendV x).1.at_=x.at_∧(sendV x).1.heap=x.heap∧(sendV x).1.unread=x.unread∧(sendV x).1.now=x.now:=by
  rw [sendV_eq];unfold timesV;dsimp only;split <;> exact⟨rfl,rfl,rfl,rfl⟩
 exact⟨hs,by rw [e.1];exact ok.at0,by rw [e.1];exact ok.at5,by rw [e.2.1,e.2.2.1];exact ok.un,by rw [e.2.1,e.2.2.1];exact ok.kb,by rw [e.2.2.2];exact ok.nb⟩
end
theorem Ok.loop:∀(k:Nat) (x:St),Ok x→Ok (loopV k x).1
 | 0,x,ok=>ok
 | k+1,x,ok=>by
  by_cases h:0<nextV x
  ·rw [loop_go k x h];exact Ok.loop k _ (ok.send h)
  ·rw [loop_stop _ x h];exact ok
section
variable {x:St} (ok:Ok x)
include ok
theorem Ok.closes:Ok (closesV x).1:=by
 have h:=closes_ok ok.s
 unfold closesV at h ⊢
 split
 ·rw [if_pos (by assumption)] at h
  exact⟨h,ok.at0,ok.at5,ok.un,ok.kb,ok.nb⟩
 ·exact ok
theorem Ok.last:Ok (lastV x):=by
 unfold lastV
 split
 ·exact ok.done _
 ·exact ok
theorem Ok.sends:Ok (sendsV x).1:=by
 by_cases h:x.at_=4
 ·rw [sendsV_open x h];exact (Ok.loop _ x ok).closes.last.rests
 ·rw [sendsV_else x h];exact ok.rests
theorem Ok.come(p:Prt):Ok (comeV x p).1:=by
 unfold comeV
 split
 ·exact ok
 ·exact (ok.comes p (by omega)).sends
theorem Ok.write(b:List Int)(hl:x.all.length+b.length≤1000000):Ok (writeV x b).1:=by
 unfold writeV
 split
 ·exact ok
 split
 ·exact ok
 ·refine Ok.sends ⟨⟨ok.s.hi,ok.s.hu,ok.s.hw,ok.s.hc,?_,?_,ok.s.n0,ok.s.n1,ok.s.s0,ok.s.s1⟩,ok.at0,ok.at5,ok.un,ok.kb,ok.nb⟩
  ·have:=ok.s.hm;simp only [List.length_append];omega
  ·simp only [List.length_append];omega
theorem Ok.close:Ok (closeV x).1:=by
 unfold closeV
 split
 ·exact ok
 ·exact Ok.sends ⟨⟨ok.s.hi,ok.s.hu,ok.s.hw,ok.s.hc,ok.s.hm,ok.s.hl,ok.s.n0,ok.s.n1,ok.s.s0,ok.s.s1⟩,ok.at0,ok.at5,ok.un,ok.kb,ok.nb⟩
theorem Ok.reset:Ok (resetV x).1:=by
 unfold resetV
 split
 ·exact ok
 split
 ·exact (ok.shows.done true).rests
 ·exact (ok.done true).rests
theorem Ok.read:Ok (readV x).1:=by
 have h0:Ok { x with unread:=[] }:=⟨⟨ok.s.hi,by simp,ok.s.hw,ok.s.hc,ok.s.hm,ok.s.hl,ok.s.n0,ok.s.n1,ok.s.s0,ok.s.s1⟩,ok.at0,ok.at5,by have:=ok.un;simp;omega,fun p hp=>by have:=ok.kb p hp;have:=ok.un;simp;omega,ok.nb⟩
 unfold readV
 dsimp only
 split
 ·exact h0.shows
 ·exact h0
end
def Rest(x:St):Prop:=x.clk.rn=waitsV x
theorem stop_rn(c:Rto.Ck):(Rto.stopV c).rn=false:=rfl
theorem start_rn{c:Rto.Ck}{n:Int}(h0:0≤n)(h1:n≤2147483647)(hr:c.rn=false):(Rto.startV c n).1.rn=true:=by
 unfold Rto.startV
 have:Rto.mayV c n=true:=by unfold Rto.mayV;simp [h0,h1,hr]
 rw [if_pos this]
theorem rests_rest{x:St}(ok:Ok x):Rest (restsV x):=by
 unfold Rest restsV
 by_cases hw:waitsV x=true
 ·by_cases hr:x.clk.rn=true
  ·rw [hw,hr]
   simp only [Bool.not_true,Bool.and_false,Bool.false_and,Bool.false_eq_true,if_false,reduceIte]
   exact hr.trans hw.symm
  ·have hr:x.clk.rn=false:=by simpa using hr
   rw [hw,hr]
   simp only [Bool.not_false,Bool.and_true,reduceIte]
   exact (start_rn ok.s.n0 (by have:=ok.nb;omega) hr).trans hw.symm
 ·have hw:waitsV x=false:=by simpa using hw
  by_cases hr:x.clk.rn=true
  ·rw [hw,hr]
   simp only [Bool.not_true,Bool.not_false,Bool.and_true,Bool.and_false,Bool.false_eq_true,if_false,reduceIte]
   exact (stop_rn _).trans hw.symm
  ·have hr:x.clk.rn=false:=by simpa using hr
   rw [hw,hr]
   simp only [Bool.and_false,Bool.false_and,Bool.false_eq_true,if_false,reduceIte]
   exact hr.trans hw.symm
theorem sends_rest{x:St}(ok:Ok x):Rest (sendsV x).1:=by
 by_cases h:x.at_=4
 ·rw [sendsV_open x h];exact rests_rest (Ok.loop _ x ok).closes.last
 ·rw [sendsV_else x h];exact rests_rest ok
theorem come_rest{x:St}(ok:Ok x)(r:Rest x)(p:Prt):Rest (comeV x p).1:=by
 unfold comeV
 split
 ·exact r
 ·exact sends_rest (ok.comes p (by omega))
theorem write_rest{x:St}(ok:Ok x)(r:Rest x)(b:List Int)(hl:x.all.length+b.length≤1000000):Rest (writeV x b).1:=by
 unfold writeV
 split
 ·exact r
 split
 ·exact r
 ·refine sends_rest ⟨⟨ok.s.hi,ok.s.hu,ok.s.hw,ok.s.hc,?_,?_,ok.s.n0,ok.s.n1,ok.s.s0,ok.s.s1⟩,ok.at0,ok.at5,ok.un,ok.kb,ok.nb⟩
  ·have:=ok.s.hm;simp only [List.length_append];omega
  ·simp only [List.length_append];omega
theorem close_rest{x:St}(ok:Ok x)(r:Rest x):Rest (closeV x).1:=by
 unfold closeV
 split
 ·exact r
 ·exact sends_rest ⟨⟨ok.s.hi,ok.s.hu,ok.s.hw,ok.s.hc,ok.s.hm,ok.s.hl,ok.s.n0,ok.s.n1,ok.s.s0,ok.s.s1⟩,ok.at0,ok.at5,ok.un,ok.kb,ok.nb⟩
theorem reset_rest{x:St}(ok:Ok x)(r:Rest x):Rest (resetV x).1:=by
 unfold resetV
 split
 ·exact r
 split
 ·exact rests_rest (ok.shows.done true)
 ·exact rests_rest (ok.done true)
theorem read_rest{x:St}(r:Rest x):Rest (readV x).1:=by
 unfold readV
 dsimp only
 split
 ·exact r
 ·exact r
theorem again_probe{x:St}(ok:Ok x)(hw:waitsV x=true)(h4:x.at_=4)(hn:¬ 0<min 64 (x.win.m - x.win.a))(hf:x.fin=false):Win.zeroV x.win=true∧x.win.a<x.all.length:=by
 unfold waitsV at hw
 have e:decide (x.win.a<x.win.m)=false:=by simp;omega
 rw [h4,hf,e] at hw
 simpa using hw
theorem Ok.again{x:St}(ok:Ok x)(hw:waitsV x=true):Ok (againV x).1:=by
 unfold againV
 split
 ·exact ok.shows
 rename_i h4
 split
 ·exact ok.shows
 rename_i hn
 split
 ·exact ok.shows
 rename_i hf
 obtain⟨z1,z2⟩:=again_probe ok hw (by omega) hn (by simpa using hf)
 have hb:=Win.Inv.bd ok.s.hw
 have hz:x.win.l=x.win.a∧x.win.m=x.win.a:=by unfold Win.zeroV at z1;simpa using z1
 have hv:(Win.probeV x.win).1=⟨x.win.a,x.win.s,max x.win.m (x.win.a+1),x.win.l⟩:=by unfold Win.probeV;rw [if_pos z1]
 refine Ok.shows ⟨okS_win ok.s ?_ ?_,ok.at0,ok.at5,ok.un,ok.kb,ok.nb⟩
 ·rw [hv];refine⟨?_,?_,?_,?_,?_⟩ <;> simp only [] <;> omega
 ·rw [hv];simp only [];omega
theorem due_rn{c:Rto.Ck}{n:Int}(h:Rto.dueV c n=true):c.rn=true:=by
 unfold Rto.dueV at h
 simp at h
 exact h.2.1
theorem Ok.tick{x:St}(ok:Ok x)(r:Rest x)(hn:x.now+1≤1000000):Ok (tickV x).1∧Rest (tickV x).1:=by
 have h0:Ok { x with now:=x.now+1 }:=⟨⟨ok.s.hi,ok.s.hu,ok.s.hw,ok.s.hc,ok.s.hm,ok.s.hl,by have:=ok.s.n0;simp only [];omega,by simp only [];omega,ok.s.s0,ok.s.s1⟩,ok.at0,ok.at5,ok.un,ok.kb,hn⟩
 unfold tickV
 dsimp only
 split
 ·rename_i hd
  have hw:waitsV x=true:=r.symm.trans (due_rn hd)
  have h1:Ok { x with now:=x.now+1,clk:=(Rto.lateV x.clk (x.now+1)).1 }:=⟨⟨ok.s.hi,ok.s.hu,ok.s.hw,Rto.late_inv ok.s.hc _,ok.s.hm,ok.s.hl,by have:=ok.s.n0;simp only [];omega,by simp only [];omega,ok.s.s0,ok.s.s1⟩,ok.at0,ok.at5,ok.un,ok.kb,hn⟩
  split
  ·have h2:Ok (againV { x with now:=x.now+1,clk:=(Rto.lateV x.clk (x.now+1)).1,timed:=0 }).1:=Ok.again ⟨⟨h1.s.hi,h1.s.hu,h1.s.hw,h1.s.hc,h1.s.hm,h1.s.hl,h1.s.n0,h1.s.n1,h1.s.s0,h1.s.s1⟩,h1.at0,h1.at5,h1.un,h1.kb,h1.nb⟩ hw
   exact⟨h2.rests,rests_rest h2⟩
  ·exact⟨(h1.done true).rests,rests_rest (h1.done true)⟩
 ·exact⟨h0,r⟩
theorem Ok.new(isn:Int)(a:Int)(h0:1≤a)(h5:a≤5):Ok (newS isn a):=
 ⟨⟨new_inv (by omega) (by omega),by simp [newS],(by show Win.Inv 1000000000 ⟨0,0,0,0⟩;exact⟨by decide,by decide,by decide,by decide,by decide⟩),Rto.new_inv (by omega) (by omega) (by omega) (by omega) (by omega) (by omega),by simp [newS],by simp [newS],by simp [newS],by simp [newS],by simp [newS],by simp [newS]⟩,h0,h5,by simp [newS,newV],by simp [newS,newV],by simp [newS]⟩
theorem new_ok(isn:Int)(b:Bool):Ok (newSV isn b).1∧Rest (newSV isn b).1:=by
 unfold newSV
 cases b
 ·exact⟨Ok.new isn 1 (by decide) (by decide),rfl⟩
 ·have h:=(Ok.new isn 2 (by decide) (by decide)).shows
  exact⟨h.rests,rests_rest h⟩
end Go.Proofs.YtmgdbbbdhkfdmaaGreat
namespace Go.Proofs.YtmgdbbbdhkfdmaaGreat
set_option maxRecDepth 100000
open Go.RowKit Go.Deep
theorem bne_of{x y:Int}{b:Bool}(h:(x == y)=b):(x != y)=!b:=by simp only [bne,h]
def REndsPost(w:World)(v:Value)(err:Int)(e:Ending)(w':World):Prop:=e = .returned (.tuple #[v, .int .i64 err])∧Fr [] w w'
def REndsIf(w:World)(a:Int)(l:List Pc)(v1 v2:Value)(e:Ending)(w':World):Prop:=REndsPost w (if l.any (over a)=true then v1 else v2) (if l.any (over a)=true then 250 else 0) e w'
def REndsRel(w:World)(ar:Array Value)(a:Int)(l:List Pc)(s6:Value)(wr:World):Prop:=
 ∃ k:Nat,k≤l.length∧s6 = .int .i64 k∧(l.take k).any (over a)=false∧Fr [] w wr∧Blk wr w.heap.size 39 ar∧Blk wr (w.heap.size+1) 39 (arR 0 0 (.slice none 0 0) 0)
set_option maxHeartbeats 2000000 in
theorem rends_0(S:Nat→Prop)(w:World)(m n f:Int)(kv:Value)(L:List (Pc × Value))(h:Kp 162 S w kv L)(hl:L.length≤64)(a:Int)(h0:a<0) :
  Calls Tryz.prog 136 #[agR m n kv f, .int .i64 a] w (REndsPost w (agR m n kv f) 2):=by
 obtain⟨KA,KC,rfl,hKn,hKc⟩:=h.form
 have K:=hI h
 have b0:=(Blk.new w 39 (arR m n (.slice KA L.length KC) f)).alloc (.cells (arR 0 0 (.slice none 0 0) 0) 39)
 have b1:Blk ((w.alloc (.cells (arR m n (.slice KA L.length KC) f) 39)).alloc (.cells (arR 0 0 (.slice none 0 0) 0) 39)) (w.heap.size+1) 39 (arR 0 0 (.slice none 0 0) 0):=by simpa using Blk.new (w.alloc (.cells (arR m n (.slice KA L.length KC) f) 39)) 39 (arR 0 0 (.slice none 0 0) 0)
 have f0:Fr [] w ((w.alloc (.cells (arR m n (.slice KA L.length KC) f) 39)).alloc (.cells (arR 0 0 (.slice none 0 0) 0) 39)):=((Fr.refl _ _).alloc _).alloc _
 have B0:=hI b0
 have B1:=hI b1
 have F0:=hI f0
 clear h b0 b1 f0
 go_enter Tryz.func136,Tryz.ntmps136
 go_wp2_with ((with_reducible refine gate_store 39 (.tmp 4) ?_);refine wpList_store_blk rfl 39 (.tmp 4) (.tmp 13) rfl (w.heap.size+1) 39 (arR 0 0 (.slice none 0 0) 0) (arR m n (.slice KA L.length KC) f) rfl rfl B1.out rfl (by kernel_rfl) (by simp [Value.oneCell']) ?_;intro w2 B3 F3)
 obtain⟨r0,r1,r2,r3⟩:=cells4 B3
 refine bodyPost_ret (v := .tuple #[agR m n (.slice KA L.length KC) f, .int .i64 2]) (by simp [results,Tryz.results136,go_sem,r0,r1,r2,r3]) rfl ?_
 exact⟨rfl,F0.out.trans F3 (by simp)⟩
set_option maxHeartbeats 2000000 in
theorem rends_1(S:Nat→Prop)(w:World)(m n f:Int)(kv:Value)(L:List (Pc × Value))(h:Kp 162 S w kv L)(hl:L.length≤64)(a:Int)(h0:4611686018427387904<a) :
  Calls Tryz.prog 136 #[agR m n kv f, .int .i64 a] w (REndsPost w (agR m n kv f) 2):=by
 obtain⟨KA,KC,rfl,hKn,hKc⟩:=h.form
 have K:=hI h
 have b0:=(Blk.new w 39 (arR m n (.slice KA L.length KC) f)).alloc (.cells (arR 0 0 (.slice none 0 0) 0) 39)
 have b1:Blk ((w.alloc (.cells (arR m n (.slice KA L.length KC) f) 39)).alloc (.cells (arR 0 0 (.slice none 0 0) 0) 39)) (w.heap.size+1) 39 (arR 0 0 (.slice none 0 0) 0):=by simpa using Blk.new (w.alloc (.cells (arR m n (.slice KA L.length KC) f) 39)) 39 (arR 0 0 (.slice none 0 0) 0)
 have f0:Fr [] w ((w.alloc (.cells (arR m n (.slice KA L.length KC) f) 39)).alloc (.cells (arR 0 0 (.slice none 0 0) 0) 39)):=((Fr.refl _ _).alloc _).alloc _
 have B0:=hI b0
 have B1:=hI b1
 have F0:=hI f0
 clear h b0 b1 f0
 go_enter Tryz.func136,Tryz.ntmps136
 go_wp2_with ((with_reducible refine gate_store 39 (.tmp 4) ?_);refine wpList_store_blk rfl 39 (.tmp 4) (.tmp 13) rfl (w.heap.size+1) 39 (arR 0 0 (.slice none 0 0) 0) (arR m n (.slice KA L.length KC) f) rfl rfl B1.out rfl (by kernel_rfl) (by simp [Value.oneCell']) ?_;intro w2 B3 F3)
 obtain⟨r0,r1,r2,r3⟩:=cells4 B3
 refine bodyPost_ret (v := .tuple #[agR m n (.slice KA L.length KC) f, .int .i64 2]) (by simp [results,Tryz.results136,go_sem,r0,r1,r2,r3]) rfl ?_
 exact⟨rfl,F0.out.trans F3 (by simp)⟩
set_option maxHeartbeats 2000000 in
theorem rends_2(S:Nat→Prop)(w:World)(m n f:Int)(kv:Value)(L:List (Pc × Value))(h:Kp 162 S w kv L)(hl:L.length≤64)(a:Int)(h0:0≤a)(h1:a≤4611686018427387904)(h2:0≤f)(h3:(f == a)=false)(h3b:(f != a)=true) :
  Calls Tryz.prog 136 #[agR m n kv f, .int .i64 a] w (REndsPost w (agR m n kv f) 250):=by
 obtain⟨KA,KC,rfl,hKn,hKc⟩:=h.form
 have K:=hI h
 have b0:=(Blk.new w 39 (arR m n (.slice KA L.length KC) f)).alloc (.cells (arR 0 0 (.slice none 0 0) 0) 39)
 have b1:Blk ((w.alloc (.cells (arR m n (.slice KA L.length KC) f) 39)).alloc (.cells (arR 0 0 (.slice none 0 0) 0) 39)) (w.heap.size+1) 39 (arR 0 0 (.slice none 0 0) 0):=by simpa using Blk.new (w.alloc (.cells (arR m n (.slice KA L.length KC) f) 39)) 39 (arR 0 0 (.slice none 0 0) 0)
 have f0:Fr [] w ((w.alloc (.cells (arR m n (.slice KA L.length KC) f) 39)).alloc (.cells (arR 0 0 (.slice none 0 0) 0) 39)):=((Fr.refl _ _).alloc _).alloc _
 have B0:=hI b0
 have B1:=hI b1
 have F0:=hI f0
 clear h b0 b1 f0
 go_enter Tryz.func136,Tryz.ntmps136
 go_wp2_with ((with_reducible refine gate_store 39 (.tmp 4) ?_);refine wpList_store_blk rfl 39 (.tmp 4) (.tmp 29) rfl (w.heap.size+1) 39 (arR 0 0 (.slice none 0 0) 0) (arR m n (.slice KA L.length KC) f) rfl rfl B1.out rfl (by kernel_rfl) (by simp [Value.oneCell']) ?_;intro w2 B3 F3)
 obtain⟨r0,r1,r2,r3⟩:=cells4 B3
 refine bodyPost_ret (v := .tuple #[agR m n (.slice KA L.length KC) f, .int .i64 250]) (by simp [results,Tryz.results136,go_sem,r0,r1,r2,r3]) rfl ?_
 exact⟨rfl,F0.out.trans F3 (by simp)⟩
set_option maxHeartbeats 2000000 in
theorem rends_3(S:Nat→Prop)(w:World)(m n f:Int)(kv:Value)(L:List (Pc × Value))(h:Kp 162 S w kv L)(hl:L.length≤64)(a:Int)(h0:0≤a)(h1:a≤4611686018427387904)(h2:f<0)(h4:a<n) :
  Calls Tryz.prog 136 #[agR m n kv f, .int .i64 a] w (REndsPost w (agR m n kv f) 250):=by
 obtain⟨KA,KC,rfl,hKn,hKc⟩:=h.form
 have K:=hI h
 have b0:=(Blk.new w 39 (arR m n (.slice KA L.length KC) f)).alloc (.cells (arR 0 0 (.slice none 0 0) 0) 39)
 have b1:Blk ((w.alloc (.cells (arR m n (.slice KA L.length KC) f) 39)).alloc (.cells (arR 0 0 (.slice none 0 0) 0) 39)) (w.heap.size+1) 39 (arR 0 0 (.slice none 0 0) 0):=by simpa using Blk.new (w.alloc (.cells (arR m n (.slice KA L.length KC) f) 39)) 39 (arR 0 0 (.slice none 0 0) 0)
 have f0:Fr [] w ((w.alloc (.cells (arR m n (.slice KA L.length KC) f) 39)).alloc (.cells (arR 0 0 (.slice none 0 0) 0) 39)):=((Fr.refl _ _).alloc _).alloc _
 have B0:=hI b0
 have B1:=hI b1
 have F0:=hI f0
 clear h b0 b1 f0
 go_enter Tryz.func136,Tryz.ntmps136
 go_wp2_with ((with_reducible refine gate_store 39 (.tmp 4) ?_);refine wpList_store_blk rfl 39 (.tmp 4) (.tmp 29) rfl (w.heap.size+1) 39 (arR 0 0 (.slice none 0 0) 0) (arR m n (.slice KA L.length KC) f) rfl rfl B1.out rfl (by kernel_rfl) (by simp [Value.oneCell']) ?_;intro w2 B3 F3)
 obtain⟨r0,r1,r2,r3⟩:=cells4 B3
 refine bodyPost_ret (v := .tuple #[agR m n (.slice KA L.length KC) f, .int .i64 250]) (by simp [results,Tryz.results136,go_sem,r0,r1,r2,r3]) rfl ?_
 exact⟨rfl,F0.out.trans F3 (by simp)⟩
set_option maxHeartbeats 2000000 in
theorem rends_4(S:Nat→Prop)(w:World)(m n f:Int)(kv:Value)(L:List (Pc × Value))(h:Kp 162 S w kv L)(hl:L.length≤64)(a:Int)(h0:0≤a)(h1:a≤4611686018427387904)(h2:0≤f)(h3:(f == a)=true)(h3b:(f != a)=false)(h4:a<n) :
  Calls Tryz.prog 136 #[agR m n kv f, .int .i64 a] w (REndsPost w (agR m n kv f) 250):=by
 obtain⟨KA,KC,rfl,hKn,hKc⟩:=h.form
 have K:=hI h
 have b0:=(Blk.new w 39 (arR m n (.slice KA L.length KC) f)).alloc (.cells (arR 0 0 (.slice none 0 0) 0) 39)
 have b1:Blk ((w.alloc (.cells (arR m n (.slice KA L.length KC) f) 39)).alloc (.cells (arR 0 0 (.slice none 0 0) 0) 39)) (w.heap.size+1) 39 (arR 0 0 (.slice none 0 0) 0):=by simpa using Blk.new (w.alloc (.cells (arR m n (.slice KA L.length KC) f) 39)) 39 (arR 0 0 (.slice none 0 0) 0)
 have f0:Fr [] w ((w.alloc (.cells (arR m n (.slice KA L.length KC) f) 39)).alloc (.cells (arR 0 0 (.slice none 0 0) 0) 39)):=((Fr.refl _ _).alloc _).alloc _
 have B0:=hI b0
 have B1:=hI b1
 have F0:=hI f0
 clear h b0 b1 f0
 go_enter Tryz.func136,Tryz.ntmps136
 go_wp2_with ((with_reducible refine gate_store 39 (.tmp 4) ?_);refine wpList_store_blk rfl 39 (.tmp 4) (.tmp 29) rfl (w.heap.size+1) 39 (arR 0 0 (.slice none 0 0) 0) (arR m n (.slice KA L.length KC) f) rfl rfl B1.out rfl (by kernel_rfl) (by simp [Value.oneCell']) ?_;intro w2 B3 F3)
 obtain⟨r0,r1,r2,r3⟩:=cells4 B3
 refine bodyPost_ret (v := .tuple #[agR m n (.slice KA L.length KC) f, .int .i64 250]) (by simp [results,Tryz.results136,go_sem,r0,r1,r2,r3]) rfl ?_
 exact⟨rfl,F0.out.trans F3 (by simp)⟩
set_option maxHeartbeats 2000000 in
theorem rends_5(S:Nat→Prop)(w:World)(m n f:Int)(kv:Value)(L:List (Pc × Value))(h:Kp 162 S w kv L)(hl:L.length≤64)(a:Int)(hpc:∀ x∈L,0≤x.1.at_∧x.1.at_≤4611686018427387904∧1≤x.1.d.length∧x.1.d.length≤64)(h0:0≤a)(h1:a≤4611686018427387904)(h2:f<0)(h4:n≤a) :
  Calls Tryz.prog 136 #[agR m n kv f, .int .i64 a] w (REndsIf w a (L.map (·.1)) (agR m n kv f) (agR m n kv a)):=by
 obtain⟨KA,KC,rfl,hKn,hKc⟩:=h.form
 have K:=hI h
 have b0:=(Blk.new w 39 (arR m n (.slice KA L.length KC) f)).alloc (.cells (arR 0 0 (.slice none 0 0) 0) 39)
 have b1:Blk ((w.alloc (.cells (arR m n (.slice KA L.length KC) f) 39)).alloc (.cells (arR 0 0 (.slice none 0 0) 0) 39)) (w.heap.size+1) 39 (arR 0 0 (.slice none 0 0) 0):=by simpa using Blk.new (w.alloc (.cells (arR m n (.slice KA L.length KC) f) 39)) 39 (arR 0 0 (.slice none 0 0) 0)
 have f0:Fr [] w ((w.alloc (.cells (arR m n (.slice KA L.length KC) f) 39)).alloc (.cells (arR 0 0 (.slice none 0 0) 0) 39)):=((Fr.refl _ _).alloc _).alloc _
 have B0:=hI b0
 have B1:=hI b1
 have F0:=hI f0
 have HPC:=hI hpc
 clear h b0 b1 f0 hpc
 go_enter Tryz.func136,Tryz.ntmps136
 go_wp2
 go_loopw [6] (fun s6 wr=>REndsRel w (arR m n (.slice KA L.length KC) f) a (L.map (·.1)) s6 wr) (fun s6 _=>L.length - (intOf s6).toNat)
 case atStart=>exact⟨0,by omega,rfl,rfl,F0.out,B0.out,B1.out⟩
 case round=>
  obtain⟨k,hk,rfl,hany,fk,bx,bz⟩:=hrel
  rw [List.length_map] at hk
  obtain⟨c0,c1,c2,c3⟩:=cells4 bx
  have HA:=hI hany
  clear hany
  have Fk:=hI fk
  have Bx:=hI bx
  have Bz:=hI bz
  by_cases hlt:k<L.length
  ·obtain⟨b,_,x,hv,hx,d0,d1,hby⟩:=(K.out.fr fk (by simp) (by simp)).at_ hlt
   injection hv with hv _ hc
   subst hv hc
   obtain⟨A,c,hxv,_,_⟩:=hby.form
   rw [hxv] at d1
   have hp:=HPC.out x (List.mem_of_getElem? hx)
   have hg:(L.map (·.1))[k]?=some x.1:=by simp [hx]
   have x0:=Grew.cell c2
   have x1:=Grew.cell d0
   have x2:=Grew.cell d1
   have hov:over a x.1=decide (a<x.1.at_+(x.1.d.length:Int)):=rfl
   have HG:=hI hg
   have HO:=hI hov
   clear hov hg hx hxv hby fk bx bz
   obtain⟨hp0,hp1,hp2,hp3⟩:=hp
   by_cases ho:a<x.1.at_+(x.1.d.length:Int)
   ·go_upto_region 8 with fail
    refine wp_region_grew (by kernel_rfl) (by kernel_rfl) ?_
    repeat (go_big_quiet_step (fail))
    refine wpQuiet_nil ?_
    intro W1 f1
    have bz1:=Bz.out.fr f1 (by simp)
    obtain⟨e0,e1,e2,e3⟩:=cells4 (Bx.out.fr f1 (by simp))
    have F1:=hI (Fk.out.trans f1 (by simp))
    have BZ1:=hI bz1
    clear bz1 f1 x0 x1 x2
    go_wp2_with ((with_reducible refine gate_store 39 (.tmp 4) ?_);refine wpList_store_blk rfl 39 (.tmp 4) (.tmp 53) rfl (w.heap.size+1) 39 (arR 0 0 (.slice none 0 0) 0) (arR m n (.slice (some ⟨b,0,none⟩) L.length KC) f) rfl rfl BZ1.out rfl (by kernel_rfl) (by simp [Value.oneCell']) ?_;intro w2 B3 F3)
    obtain⟨r0,r1,r2,r3⟩:=cells4 B3
    refine bodyPost_ret (v := .tuple #[agR m n (.slice (some ⟨b,0,none⟩) L.length KC) f, .int .i64 250]) (by simp [results,Tryz.results136,go_sem,r0,r1,r2,r3]) rfl ?_
    have hyes:(L.map (·.1)).any (over a)=true:=List.any_eq_true.2 ⟨x.1,List.mem_of_getElem? HG.out,by rw [HO.out];simpa using ho⟩
    unfold REndsIf
    rw [hyes]
    exact⟨rfl,F1.out.trans F3 (by simp)⟩
   ·go_upto_region 8 with fail
    refine wp_region_grew (by kernel_rfl) (by kernel_rfl) ?_
    repeat (go_big_quiet_step (fail))
    refine wpQuiet_nil ?_
    intro W1 f1
    go_wp2_with fail
    go_roundw
    case rel=>exact⟨k+1,by simp;omega,by go_num,by rw [any_take _ _ _ _ HG.out,HA.out,HO.out];simpa using ho,Fk.out.trans f1 (by simp),Bx.out.fr f1 (by simp),Bz.out.fr f1 (by simp)⟩
    case measure=>simp [intOf];omega
  ·obtain rfl:L.length=k:=by omega
   have hno:(L.map (·.1)).any (over a)=false:=by
    have:=HA.out
    rwa [List.take_of_length_le (by simp)] at this
   have HN:=hI hno
   have bxl:=bx.lt
   have bxf:=bx.frozen 3
   have bs:=bx.set_ 3 (.int .i64 a)
   have fs:=(Fr.refl [w.heap.size] wr).setCell (p:=⟨w.heap.size,3,none⟩) (.inl (by simp)) (.int .i64 a)
   have bz2:=hI (bz.fr fs (by simp))
   have F2:=hI (Fk.out.trans fs (by simp))
   clear hno fk bx bz bs fs
   go_wp2_with ((with_reducible refine gate_store 39 (.tmp 4) ?_);refine wpList_store_blk rfl 39 (.tmp 4) (.tmp 56) rfl (w.heap.size+1) 39 (arR 0 0 (.slice none 0 0) 0) (arR m n (.slice KA L.length KC) a) rfl rfl bz2.out rfl (by kernel_rfl) (by simp [Value.oneCell']) ?_;intro w2 B3 F3)
   obtain⟨r0,r1,r2,r3⟩:=cells4 B3
   refine bodyPost_ret (v := .tuple #[agR m n (.slice KA L.length KC) a, .int .i64 0]) (by simp [results,Tryz.results136,go_sem,r0,r1,r2,r3]) rfl ?_
   unfold REndsIf
   rw [HN.out]
   exact⟨rfl,F2.out.trans F3 (by simp)⟩
set_option maxHeartbeats 2000000 in
theorem rends_6(S:Nat→Prop)(w:World)(m n f:Int)(kv:Value)(L:List (Pc × Value))(h:Kp 162 S w kv L)(hl:L.length≤64)(a:Int)(hpc:∀ x∈L,0≤x.1.at_∧x.1.at_≤4611686018427387904∧1≤x.1.d.length∧x.1.d.length≤64)(h0:0≤a)(h1:a≤4611686018427387904)(h2:0≤f)(h3:(f == a)=true)(h3b:(f != a)=false)(h4:n≤a) :
  Calls Tryz.prog 136 #[agR m n kv f, .int .i64 a] w (REndsIf w a (L.map (·.1)) (agR m n kv f) (agR m n kv a)):=by
 obtain⟨KA,KC,rfl,hKn,hKc⟩:=h.form
 have K:=hI h
 have b0:=(Blk.new w 39 (arR m n (.slice KA L.length KC) f)).alloc (.cells (arR 0 0 (.slice none 0 0) 0) 39)
 have b1:Blk ((w.alloc (.cells (arR m n (.slice KA L.length KC) f) 39)).alloc (.cells (arR 0 0 (.slice none 0 0) 0) 39)) (w.heap.size+1) 39 (arR 0 0 (.slice none 0 0) 0):=by simpa using Blk.new (w.alloc (.cells (arR m n (.slice KA L.length KC) f) 39)) 39 (arR 0 0 (.slice none 0 0) 0)
 have f0:Fr [] w ((w.alloc (.cells (arR m n (.slice KA L.length KC) f) 39)).alloc (.cells (arR 0 0 (.slice none 0 0) 0) 39)):=((Fr.refl _ _).alloc _).alloc _
 have B0:=hI b0
 have B1:=hI b1
 have F0:=hI f0
 have HPC:=hI hpc
 clear h b0 b1 f0 hpc
 go_enter Tryz.func136,Tryz.ntmps136
 go_wp2
 go_loopw [6] (fun s6 wr=>REndsRel w (arR m n (.slice KA L.length KC) f) a (L.map (·.1)) s6 wr) (fun s6 _=>L.length - (intOf s6).toNat)
 case atStart=>exact⟨0,by omega,rfl,rfl,F0.out,B0.out,B1.out⟩
 case round=>
  obtain⟨k,hk,rfl,hany,fk,bx,bz⟩:=hrel
  rw [List.length_map] at hk
  obtain⟨c0,c1,c2,c3⟩:=cells4 bx
  have HA:=hI hany
  clear hany
  have Fk:=hI fk
  have Bx:=hI bx
  have Bz:=hI bz
  by_cases hlt:k<L.length
  ·obtain⟨b,_,x,hv,hx,d0,d1,hby⟩:=(K.out.fr fk (by simp) (by simp)).at_ hlt
   injection hv with hv _ hc
   subst hv hc
   obtain⟨A,c,hxv,_,_⟩:=hby.form
   rw [hxv] at d1
   have hp:=HPC.out x (List.mem_of_getElem? hx)
   have hg:(L.map (·.1))[k]?=some x.1:=by simp [hx]
   have x0:=Grew.cell c2
   have x1:=Grew.cell d0
   have x2:=Grew.cell d1
   have hov:over a x.1=decide (a<x.1.at_+(x.1.d.length:Int)):=rfl
   have HG:=hI hg
   have HO:=hI hov
   clear hov hg hx hxv hby fk bx bz
   obtain⟨hp0,hp1,hp2,hp3⟩:=hp
   by_cases ho:a<x.1.at_+(x.1.d.length:Int)
   ·go_upto_region 8 with fail
    refine wp_region_grew (by kernel_rfl) (by kernel_rfl) ?_
    repeat (go_big_quiet_step (fail))
    refine wpQuiet_nil ?_
    intro W1 f1
    have bz1:=Bz.out.fr f1 (by simp)
    obtain⟨e0,e1,e2,e3⟩:=cells4 (Bx.out.fr f1 (by simp))
    have F1:=hI (Fk.out.trans f1 (by simp))
    have BZ1:=hI bz1
    clear bz1 f1 x0 x1 x2
    go_wp2_with ((with_reducible refine gate_store 39 (.tmp 4) ?_);refine wpList_store_blk rfl 39 (.tmp 4) (.tmp 53) rfl (w.heap.size+1) 39 (arR 0 0 (.slice none 0 0) 0) (arR m n (.slice (some ⟨b,0,none⟩) L.length KC) f) rfl rfl BZ1.out rfl (by kernel_rfl) (by simp [Value.oneCell']) ?_;intro w2 B3 F3)
    obtain⟨r0,r1,r2,r3⟩:=cells4 B3
    refine bodyPost_ret (v := .tuple #[agR m n (.slice (some ⟨b,0,none⟩) L.length KC) f, .int .i64 250]) (by simp [results,Tryz.results136,go_sem,r0,r1,r2,r3]) rfl ?_
    have hyes:(L.map (·.1)).any (over a)=true:=List.any_eq_true.2 ⟨x.1,List.mem_of_getElem? HG.out,by rw [HO.out];simpa using ho⟩
    unfold REndsIf
    rw [hyes]
    exact⟨rfl,F1.out.trans F3 (by simp)⟩
   ·go_upto_region 8 with fail
    refine wp_region_grew (by kernel_rfl) (by kernel_rfl) ?_
    repeat (go_big_quiet_step (fail))
    refine wpQuiet_nil ?_
    intro W1 f1
    go_wp2_with fail
    go_roundw
    case rel=>exact⟨k+1,by simp;omega,by go_num,by rw [any_take _ _ _ _ HG.out,HA.out,HO.out];simpa using ho,Fk.out.trans f1 (by simp),Bx.out.fr f1 (by simp),Bz.out.fr f1 (by simp)⟩
    case measure=>simp [intOf];omega
  ·obtain rfl:L.length=k:=by omega
   have hno:(L.map (·.1)).any (over a)=false:=by
    have:=HA.out
    rwa [List.take_of_length_le (by simp)] at this
   have HN:=hI hno
   have bxl:=bx.lt
   have bxf:=bx.frozen 3
   have bs:=bx.set_ 3 (.int .i64 a)
   have fs:=(Fr.refl [w.heap.size] wr).setCell (p:=⟨w.heap.size,3,none⟩) (.inl (by simp)) (.int .i64 a)
   have bz2:=hI (bz.fr fs (by simp))
   have F2:=hI (Fk.out.trans fs (by simp))
   clear hno fk bx bz bs fs
   go_wp2_with ((with_reducible refine gate_store 39 (.tmp 4) ?_);refine wpList_store_blk rfl 39 (.tmp 4) (.tmp 56) rfl (w.heap.size+1) 39 (arR 0 0 (.slice none 0 0) 0) (arR m n (.slice KA L.length KC) a) rfl rfl bz2.out rfl (by kernel_rfl) (by simp [Value.oneCell']) ?_;intro w2 B3 F3)
   obtain⟨r0,r1,r2,r3⟩:=cells4 B3
   refine bodyPost_ret (v := .tuple #[agR m n (.slice KA L.length KC) a, .int .i64 0]) (by simp [results,Tryz.results136,go_sem,r0,r1,r2,r3]) rfl ?_
   unfold REndsIf
   rw [HN.out]
   exact⟨rfl,F2.out.trans F3 (by simp)⟩
theorem rends{S:Nat→Prop}{w:World}{kv:Value}{h:Hp}{L:List (Pc × Value)}(r:RPx S w kv h L)(hi:Inv h)(a:Int):Calls Tryz.prog 136 #[agH h kv, .int .i64 a] w (REndsPost w (agH (endV h a).1 kv) (endV h a).2):=by
 have hL:L.length≤64:=by have h1:=hi.len;have h2:=hi.m1;rw [r.kept,List.length_map] at h1;omega
 have hpc:∀ x∈L,0≤x.1.at_∧x.1.at_≤4611686018427387904∧1≤x.1.d.length∧x.1.d.length≤64:=fun x hx=>hi.pc x.1 (by rw [r.kept];exact List.mem_map.2 ⟨x,hx,rfl⟩)
 unfold endV
 by_cases g0:a<0
 ·rw [if_pos (.inl g0)]
  exact rends_0 S w _ _ _ kv L r.kp hL a g0
 by_cases g1:4611686018427387904<a
 ·rw [if_pos (.inr g1)]
  exact rends_1 S w _ _ _ kv L r.kp hL a g1
 rw [if_neg (by omega)]
 have hfin:=hi.fin
 cases hf:h.fin with
 | none=>
  have e1:other none a=false:=rfl
  rw [e1,Bool.false_or]
  by_cases g4:a<h.next
  ·rw [if_pos (by simp [g4])]
   unfold agH
   rw [hf]
   exact rends_3 S w _ _ _ kv L r.kp hL a (by omega) (by omega) (by decide) g4
  ·have e2:decide (a<h.next)=false:=by simpa using g4
   rw [e2,Bool.false_or]
   have:=rends_5 S w h.most h.next (-1) kv L r.kp hL a hpc (by omega) (by omega) (by decide) (by omega)
   unfold REndsIf at this
   rw [← r.kept] at this
   unfold agH
   rw [hf]
   split
   ·rename_i hc
    rw [if_pos hc,if_pos hc] at this
    dsimp only
    rw [hf]
    exact this
   ·rename_i hc
    rw [if_neg hc,if_neg hc] at this
    exact this
 | some fa=>
  have hfa:=hfin fa hf
  have e1:other (some fa) a=!(fa == a):=rfl
  rw [e1]
  cases hfb:(fa == a)
  ·rw [if_pos (by simp)]
   unfold agH
   rw [hf]
   exact rends_2 S w _ _ _ kv L r.kp hL a (by omega) (by omega) hfa.1 hfb (bne_of hfb)
  ·rw [Bool.not_true,Bool.false_or]
   by_cases g4:a<h.next
   ·rw [if_pos (by simp [g4])]
    unfold agH
    rw [hf]
    exact rends_4 S w _ _ _ kv L r.kp hL a (by omega) (by omega) hfa.1 hfb (bne_of hfb) g4
   ·have e2:decide (a<h.next)=false:=by simpa using g4
    rw [e2,Bool.false_or]
    have:=rends_6 S w h.most h.next fa kv L r.kp hL a hpc (by omega) (by omega) hfa.1 hfb (bne_of hfb) (by omega)
    unfold REndsIf at this
    rw [← r.kept] at this
    unfold agH
    rw [hf]
    split
    ·rename_i hc
     rw [if_pos hc,if_pos hc] at this
     dsimp only
     rw [hf]
     exact this
    ·rename_i hc
     rw [if_neg hc,if_neg hc] at this
     exact this
end Go.Proofs.YtmgdbbbdhkfdmaaGreat
