import Derived.Test.YtmgdbbbdhkfdmaaGreatYC11
import Derived.Test.YtmgdbbbdhkfdmaaGreatYC2
import Derived.Deep.DeepCutAuto
import Derived.Test.YtmgdbbbdhkfdmaaGreatYC0
set_option linter.unusedSimpArgs false
set_option linter.unusedVariables false
set_option maxHeartbeats 40000000
namespace Go.Proofs.YtmgdbbbdhkfdmaaGreat
set_option maxRecDepth 100000
open Go.RowKit
theorem qnd(is:Pc->Bool)(lt:Pc->Pc->Bool)(l:List Pc):∀ k,0<=zK is lt l k->is (l.getD (zK is lt l k).toNat default)=true
 | 0=>by simp [zK]
 | k+1=>by
  rw [xy];by_cases h:(is (l.getD k default) && (decide (zK is lt l k<0) || lt (l.getD k default) (l.getD (zK is lt l k).toNat default)))=true
  ·rw [if_pos h]
   intro _;rw [Bool.and_eq_true] at h;simpa using h.1
  ·rw [if_neg h]
   exact qnd is lt l k
theorem qgf{next:Int}{l:List Pc}(h:0<=kQ next l):(l.getD (kQ next l).toNat default).at_<=next:=by
 have:early next (l.getD (kQ next l).toNat default)=true:=qnd (early next) ahead l l.length h;exact of_decide_eq_true this
theorem take_kb{p:Pc}{next B:Int}(h1:next<=B)(hp:p.at_+p.d.length<=B)(ha:p.at_<=next):next<=(qQ next p).2/\(qQ next p).2<=B/\((qQ next p).1.length:Int)=(qQ next p).2 - next:=by
 unfold qQ Pc.beh;by_cases hb:p.at_+p.d.length<=next
 ·rw [if_pos hb]
  exact⟨Int.le_refl _,h1,zs⟩
 ·rw [if_neg hb]
  refine⟨by simp only [];omega,hp,?_⟩;simp only [List.length_drop];omega
theorem qgg(B:Int):∀(n:Nat) (next:Int) (l:List Pc),next<=B->(∀ p∈l,p.at_+p.d.length<=B) ->
  next<=(qX n next l).1/\(qX n next l).1<=B/\((qX n next l).2.2.length:Int)=(qX n next l).1 - next
 | 0,next,l,h1,_=>⟨Int.le_refl _,h1,by simp [qX]⟩
 | n+1,next,l,h1,hs=>by
  unfold qX;by_cases hr:kQ next l<0
  ·rw [if_pos hr]
   exact⟨Int.le_refl _,h1,zs⟩
  ·rw [if_neg hr]
   have hb:=yE next l;have hlt:(kQ next l).toNat<l.length:=zw;have hp:=hs _ (getD_mem hlt);obtain⟨t1,t2,t3⟩:=take_kb h1 hp (qgf zw);generalize hpp:l.getD (kQ next l).toNat default=p at *
   obtain⟨d1,d2,d3⟩:=qgg B n (qQ next p).2 (l.eraseIdx (kQ next l).toNat) t2 (fun q hq=>hs q (List.mem_of_mem_eraseIdx hq));refine⟨by simp only [];omega,d2,?_⟩;simp only [List.length_append];omega
theorem put_kb{h:Hp}{B a:Int}{d:List Int}(h1:h.next<=B)(hk:∀ p∈h.kept,p.at_+p.d.length<=B)(ha:a+d.length<=B) :
  h.next<=(jS h a d).1.next/\(jS h a d).1.next<=B/\((jS h a d).2.1.length:Int)=(jS h a d).1.next - h.next/\∀ p∈(jS h a d).1.kept,p.at_+p.d.length<=B:=by
 have h0:h.next<=h.next/\h.next<=B/\((([]:List Int).length:Nat):Int)=h.next - h.next/\∀ p∈h.kept,p.at_+p.d.length<=B:=⟨Int.le_refl _,h1,zs,hk⟩;unfold jS;split
 ·exact h0
 split
 ·exact h0
 split
 ·exact h0
 rename_i g1 g2 g3;split
 ·rename_i g4
  obtain⟨d1,d2,d3⟩:=qgg B h.kept.length (a+d.length) h.kept ha hk;refine⟨by simp only [];omega,d2,?_,fun p hp=>hk p (qat _ _ _ _ hp)⟩;simp only [List.length_append,List.length_drop];omega
 split
 ·exact h0
 split
 ·exact h0
 ·refine⟨Int.le_refl _,h1,zs,fun p hp=>?_⟩
  rcases List.mem_append.1 hp with hp|hp
  ·exact hk p hp
  ·rw [List.mem_singleton] at hp
   subst hp;exact ha
theorem qdu(h:Hp)(a:Int):(yD h a).1.next=h.next/\(yD h a).1.kept=h.kept:=by
 unfold yD
 (repeat' split) <;> exact⟨rfl,rfl⟩
structure Ok(x:St):Prop where
 s:OkS x
 at0:1<=x.at_
 at5:x.at_<=5
 un:(x.unread.length:Int)<=x.heap.next
 kb:∀ p∈x.heap.kept,p.at_+p.d.length<=x.heap.next - x.unread.length+1024
 nb:x.now<=1000000
theorem qje{v:Win.Wn}(h:Win.Inv 1000000000 v)(hm:v.m<=1000000)(u r:Int):Win.Inv 1000000000 (Win.je v u r).1:=by
 have hb:=Win.Inv.bd h;unfold Win.je;split
 ·exact h
 split
 ·exact h
 split
 ·exact h
 ·refine⟨?_,?_,?_,?_,?_⟩ <;> simp only [] <;> omega
theorem qfe{x:St}(ok:OkS x){v:Win.Wn}(h:Win.Inv 1000000000 v)(hm:v.m<=x.all.length):OkS { x with win:=v }:=⟨ok.hi,ok.hu,h,ok.hc,hm,ok.hl,ok.n0,ok.n1,ok.s0,ok.s1⟩
theorem qcr(x:St)(p:Prt):(kV x p).next=x.heap.next/\(kV x p).kept=x.heap.kept:=by
 unfold kV;split
 ·exact qdu _ _
 ·exact⟨rfl,rfl⟩
section
variable {x:St} (ok:Ok x)
include ok
theorem Ok.shows:Ok (shows x):=⟨qge ok.s,ok.at0,ok.at5,ok.un,ok.kb,ok.nb⟩
theorem Ok.done(b:Bool):Ok (kS x b):=⟨done_ok ok.s b,by show (1:Int)<=5;decide,by show (5:Int)<=5;decide,ok.un,ok.kb,ok.nb⟩
theorem Ok.peer(q a:Int)(h0:1<=a)(h5:a<=5):Ok { x with peer:=q,at_:=a }:=⟨⟨ok.s.hi,ok.s.hu,ok.s.hw,ok.s.hc,ok.s.hm,ok.s.hl,ok.s.n0,ok.s.n1,ok.s.s0,ok.s.s1⟩,h0,h5,ok.un,ok.kb,ok.nb⟩
theorem Ok.peer'(q:Int):Ok { x with peer:=q }:=⟨⟨ok.s.hi,ok.s.hu,ok.s.hw,ok.s.hc,ok.s.hm,ok.s.hl,ok.s.n0,ok.s.n1,ok.s.s0,ok.s.s1⟩,ok.at0,ok.at5,ok.un,ok.kb,ok.nb⟩
theorem Ok.opens(r:Int):Ok (zu x r):=
 ⟨⟨ok.s.hi,ok.s.hu,qje ok.s.hw (by have:=ok.s.hm;have:=ok.s.hl;omega) 0 r,Rto.yC ok.s.hc,by show (Win.je x.win 0 r).1.m<=_;rw [qbf];exact ok.s.hm,ok.s.hl,ok.s.n0,ok.s.n1,ok.s.s0,ok.s.s1⟩,by show (1:Int)<=4;decide,by show (4:Int)<=5;decide,ok.un,ok.kb,ok.nb⟩
theorem Ok.acks(p:Prt):Ok (zy x p):=by
 have hw:=qje ok.s.hw (by have:=ok.s.hm;have:=ok.s.hl;omega) (vF x p) p.win;have hm:(Win.je x.win (vF x p) p.win).1.m<=x.all.length:=by rw [qbf];exact ok.s.hm
 unfold zy;generalize (Win.je x.win (vF x p) p.win).1=v at *
 generalize (Win.je x.win (vF x p) p.win).2.1=more;unfold qB;split
 ·exact⟨qfe ok.s hw hm,ok.at0,ok.at5,ok.un,ok.kb,ok.nb⟩
 split
 ·exact⟨⟨ok.s.hi,ok.s.hu,hw,Rto.yC (Rto.kY ok.s.hc _),hm,ok.s.hl,ok.s.n0,ok.s.n1,ok.s.s0,ok.s.s1⟩,ok.at0,ok.at5,ok.un,ok.kb,ok.nb⟩
 ·exact⟨⟨ok.s.hi,ok.s.hu,hw,Rto.yC ok.s.hc,hm,ok.s.hl,ok.s.n0,ok.s.n1,ok.s.s0,ok.s.s1⟩,ok.at0,ok.at5,ok.un,ok.kb,ok.nb⟩
theorem Ok.data(p:Prt)(hd:p.d.length<=100):Ok (jv x p):=by
 have hi:=ok.s.hi;have h1:Inv (kV x p):=by unfold kV;split;exact qbs hi _;exact hi
 obtain⟨e1,e2⟩:=qcr x p;have hu:=ok.s.hu;rw [xH];split
 ·rename_i g
  obtain⟨g1,g2⟩:=g;have hk:=put_kb (h:=kV x p) (B:=x.heap.next - x.unread.length+1024) (a:=kL p.seq x.peer x.heap.next) (d:=p.d) zw (by rw [e2];exact ok.kb) zw;have hi2:=qel h1 (kL p.seq x.peer x.heap.next) p.d;have hun:=ok.un;generalize jS (kV x p) (kL p.seq x.peer x.heap.next) p.d=t at *
  obtain⟨k1,k2,k3,k4⟩:=hk;rw [e1] at k1 k3;refine⟨⟨hi2,?_,ok.s.hw,ok.s.hc,ok.s.hm,ok.s.hl,ok.s.n0,ok.s.n1,ok.s.s0,ok.s.s1⟩,ok.at0,ok.at5,?_,?_,ok.nb⟩
  ·simp only [List.length_append];omega
  ·simp only [List.length_append];omega
  ·intro q hq
   have:=k4 q hq;simp only [List.length_append];omega
 ·refine⟨⟨h1,hu,ok.s.hw,ok.s.hc,ok.s.hm,ok.s.hl,ok.s.n0,ok.s.n1,ok.s.s0,ok.s.s1⟩,ok.at0,ok.at5,by show _<=(kV x p).next;rw [e1];exact ok.un,?_,ok.nb⟩
  show ∀ q∈(kV x p).kept,_<=(kV x p).next - _+_;rw [e1,e2];exact ok.kb
theorem Ok.open_(p:Prt)(hd:p.d.length<=100):Ok (zN x p).1:=by
 unfold zN;split
 ·split
  ·exact ok.done true
  ·exact ok
 split
 ·exact ok.shows
 split
 ·exact ok
 dsimp only;have h1:=ok.acks p;split
 ·split
  ·exact h1
  ·exact h1.data p hd
 ·split
  ·exact h1.shows
  ·exact (h1.data p hd).shows
theorem Ok.listen(p:Prt):Ok (kU x p).1:=by
 unfold kU;split
 ·exact (ok.peer p.seq 3 zd zd).shows
 ·exact ok
theorem Ok.calls(p:Prt):Ok (zH x p).1:=by
 unfold zH;split
 ·exact ok.listen p
 split
 ·exact ok
 split
 ·exact ((ok.peer' p.seq).opens p.win).shows
 split
 ·exact ok.done true
 ·exact ok
theorem Ok.heard(p:Prt)(hd:p.d.length<=100):Ok (jl x p).1:=by
 unfold jl;split
 ·exact ok.listen p
 split
 ·exact (ok.opens p.win).shows
 split
 ·exact ok.open_ p hd
 split
 ·exact ok
 ·exact (ok.opens p.win).open_ p hd
theorem Ok.ended(p:Prt):Ok (jm x p).1:=by
 unfold jm;split
 ·exact ok
 ·exact ok.shows
theorem Ok.comes(p:Prt)(hd:p.d.length<=100):Ok (qV x p).1:=by
 unfold qV;split
 ·exact ok.listen p
 split
 ·exact ok.calls p
 split
 ·exact ok.heard p hd
 split
 ·exact ok.open_ p hd
 ·exact ok.ended p
theorem Ok.rests:Ok (qF x):=by
 have h:=qnc ok.s;unfold qF at h |-
 split
 ·rw [if_pos (by assumption)] at h
  exact⟨h,ok.at0,ok.at5,ok.un,ok.kb,ok.nb⟩
 rw [if_neg (by assumption)] at h;split
 ·rw [if_pos (by assumption)] at h
  exact⟨h,ok.at0,ok.at5,ok.un,ok.kb,ok.nb⟩
 ·exact ok
theorem Ok.send(h:0<zG x):Ok (zO x).1:=by
 have hs:=(yS ok.s h).1;have e:(zO x).1.at_=x.at_/\(zO x).1.heap=x.heap/\(zO x).1.unread=x.unread/\(zO x).1.now=x.now:=by
  rw [vP];unfold jg;dsimp only;split <;> exact⟨rfl,rfl,rfl,rfl⟩
 exact⟨hs,by rw [e.1];exact ok.at0,by rw [e.1];exact ok.at5,by rw [e.2.1,e.2.2.1];exact ok.un,by rw [e.2.1,e.2.2.1];exact ok.kb,by rw [e.2.2.2];exact ok.nb⟩
end
theorem Ok.loop:∀(k:Nat) (x:St),Ok x->Ok (zQ k x).1
 | 0,x,ok=>ok
 | k+1,x,ok=>by
  by_cases h:0<zG x
  ·rw [xw k x h];exact Ok.loop k _ (ok.send h)
  ·rw [jT _ x h];exact ok
section
variable {x:St} (ok:Ok x)
include ok
theorem Ok.closes:Ok (zi x).1:=by
 have h:=qdt ok.s;unfold zi at h |-
 split
 ·rw [if_pos (by assumption)] at h
  exact⟨h,ok.at0,ok.at5,ok.un,ok.kb,ok.nb⟩
 ·exact ok
theorem Ok.last:Ok (zX x):=by
 unfold zX;split
 ·exact ok.done _
 ·exact ok
theorem Ok.sends:Ok (qU x).1:=by
 by_cases h:x.at_=4
 ·rw [jC x h];exact (Ok.loop _ x ok).closes.last.rests
 ·rw [jD x h];exact ok.rests
theorem Ok.come(p:Prt):Ok (zF x p).1:=by
 unfold zF;split
 ·exact ok
 ·exact (ok.comes p zw).sends
theorem Ok.write(b:List Int)(hl:x.all.length+b.length<=1000000):Ok (zZ x b).1:=by
 unfold zZ;split
 ·exact ok
 split
 ·exact ok
 ·refine Ok.sends ⟨⟨ok.s.hi,ok.s.hu,ok.s.hw,ok.s.hc,?_,?_,ok.s.n0,ok.s.n1,ok.s.s0,ok.s.s1⟩,ok.at0,ok.at5,ok.un,ok.kb,ok.nb⟩
  ·have:=ok.s.hm;simp only [List.length_append];omega
  ·simp only [List.length_append];omega
theorem Ok.close:Ok (jE x).1:=by
 unfold jE;split
 ·exact ok
 ·exact Ok.sends ⟨⟨ok.s.hi,ok.s.hu,ok.s.hw,ok.s.hc,ok.s.hm,ok.s.hl,ok.s.n0,ok.s.n1,ok.s.s0,ok.s.s1⟩,ok.at0,ok.at5,ok.un,ok.kb,ok.nb⟩
theorem Ok.reset:Ok (jo x).1:=by
 unfold jo;split
 ·exact ok
 split
 ·exact (ok.shows.done true).rests
 ·exact (ok.done true).rests
theorem Ok.read:Ok (zV x).1:=by
 have h0:Ok { x with unread:=[] }:=⟨⟨ok.s.hi,zs,ok.s.hw,ok.s.hc,ok.s.hm,ok.s.hl,ok.s.n0,ok.s.n1,ok.s.s0,ok.s.s1⟩,ok.at0,ok.at5,by have:=ok.un;simp;omega,fun p hp=>by have:=ok.kb p hp;have:=ok.un;simp;omega,ok.nb⟩;unfold zV;dsimp only;split
 ·exact h0.shows
 ·exact h0
end
def Rest(x:St):Prop:=x.clk.rn=kT x
theorem stop_rn(c:Rto.Ck):(Rto.qW c).rn=false:=rfl
theorem qne{c:Rto.Ck}{n:Int}(h0:0<=n)(h1:n<=2147483647)(hr:c.rn=false):(Rto.jW c n).1.rn=true:=by
 unfold Rto.jW;have:Rto.jP c n=true:=by unfold Rto.jP;simp [h0,h1,hr]
 rw [if_pos this]
theorem vz{x:St}(ok:Ok x):Rest (qF x):=by
 unfold Rest qF;by_cases hw:kT x=true
 ·by_cases hr:x.clk.rn=true
  ·rw [hw,hr]
   simp only [Bool.not_true,Bool.and_false,Bool.false_and,Bool.false_eq_true,if_false,reduceIte];exact hr.trans hw.symm
  ·have hr:x.clk.rn=false:=by simpa using hr
   rw [hw,hr];simp only [Bool.not_false,Bool.and_true,reduceIte];exact (qne ok.s.n0 (by have:=ok.nb;omega) hr).trans hw.symm
 ·have hw:kT x=false:=by simpa using hw
  by_cases hr:x.clk.rn=true
  ·rw [hw,hr]
   simp only [Bool.not_true,Bool.not_false,Bool.and_true,Bool.and_false,Bool.false_eq_true,if_false,reduceIte];exact (stop_rn _).trans hw.symm
  ·have hr:x.clk.rn=false:=by simpa using hr
   rw [hw,hr];simp only [Bool.and_false,Bool.false_and,Bool.false_eq_true,if_false,reduceIte];exact hr.trans hw.symm
theorem qaa{x:St}(ok:Ok x):Rest (qU x).1:=by
 by_cases h:x.at_=4
 ·rw [jC x h];exact vz (Ok.loop _ x ok).closes.last
 ·rw [jD x h];exact vz ok
theorem qkt{x:St}(ok:Ok x)(r:Rest x)(p:Prt):Rest (zF x p).1:=by
 unfold zF;split
 ·exact r
 ·exact qaa (ok.comes p zw)
theorem write_rest{x:St}(ok:Ok x)(r:Rest x)(b:List Int)(hl:x.all.length+b.length<=1000000):Rest (zZ x b).1:=by
 unfold zZ;split
 ·exact r
 split
 ·exact r
 ·refine qaa ⟨⟨ok.s.hi,ok.s.hu,ok.s.hw,ok.s.hc,?_,?_,ok.s.n0,ok.s.n1,ok.s.s0,ok.s.s1⟩,ok.at0,ok.at5,ok.un,ok.kb,ok.nb⟩
  ·have:=ok.s.hm;simp only [List.length_append];omega
  ·simp only [List.length_append];omega
theorem qht{x:St}(ok:Ok x)(r:Rest x):Rest (jE x).1:=by
 unfold jE;split
 ·exact r
 ·exact qaa ⟨⟨ok.s.hi,ok.s.hu,ok.s.hw,ok.s.hc,ok.s.hm,ok.s.hl,ok.s.n0,ok.s.n1,ok.s.s0,ok.s.s1⟩,ok.at0,ok.at5,ok.un,ok.kb,ok.nb⟩
theorem qhu{x:St}(ok:Ok x)(r:Rest x):Rest (jo x).1:=by
 unfold jo;split
 ·exact r
 split
 ·exact vz (ok.shows.done true)
 ·exact vz (ok.done true)
theorem qku{x:St}(r:Rest x):Rest (zV x).1:=by
 unfold zV;dsimp only;split
 ·exact r
 ·exact r
theorem yL{x:St}(ok:Ok x)(hw:kT x=true)(h4:x.at_=4)(hn:¬ 0<min 64 (x.win.m - x.win.a))(hf:x.fin=false):Win.zeroV x.win=true/\x.win.a<x.all.length:=by
 unfold kT at hw;have e:decide (x.win.a<x.win.m)=false:=zv;rw [h4,hf,e] at hw;simpa using hw
theorem Ok.again{x:St}(ok:Ok x)(hw:kT x=true):Ok (zx x).1:=by
 unfold zx;split
 ·exact ok.shows
 rename_i h4;split
 ·exact ok.shows
 rename_i hn;split
 ·exact ok.shows
 rename_i hf;obtain⟨z1,z2⟩:=yL ok hw zw hn (by simpa using hf);have hb:=Win.Inv.bd ok.s.hw;have hz:x.win.l=x.win.a/\x.win.m=x.win.a:=by unfold Win.zeroV at z1;simpa using z1
 have hv:(Win.kX x.win).1=⟨x.win.a,x.win.s,max x.win.m (x.win.a+1),x.win.l⟩:=by unfold Win.kX;rw [if_pos z1]
 refine Ok.shows ⟨qfe ok.s ?_ ?_,ok.at0,ok.at5,ok.un,ok.kb,ok.nb⟩
 ·rw [hv];refine⟨?_,?_,?_,?_,?_⟩ <;> simp only [] <;> omega
 ·rw [hv];simp only [];omega
theorem qhv{c:Rto.Ck}{n:Int}(h:Rto.xh c n=true):c.rn=true:=by
 unfold Rto.xh at h;simp at h;exact h.2.1
theorem Ok.tick{x:St}(ok:Ok x)(r:Rest x)(hn:x.now+1<=1000000):Ok (jG x).1/\Rest (jG x).1:=by
 have h0:Ok { x with now:=x.now+1 }:=⟨⟨ok.s.hi,ok.s.hu,ok.s.hw,ok.s.hc,ok.s.hm,ok.s.hl,by have:=ok.s.n0;simp only [];omega,by simp only [];omega,ok.s.s0,ok.s.s1⟩,ok.at0,ok.at5,ok.un,ok.kb,hn⟩;unfold jG;dsimp only;split
 ·rename_i hd
  have hw:kT x=true:=r.symm.trans (qhv hd);have h1:Ok { x with now:=x.now+1,clk:=(Rto.jB x.clk (x.now+1)).1 }:=⟨⟨ok.s.hi,ok.s.hu,ok.s.hw,Rto.qfs ok.s.hc _,ok.s.hm,ok.s.hl,by have:=ok.s.n0;simp only [];omega,by simp only [];omega,ok.s.s0,ok.s.s1⟩,ok.at0,ok.at5,ok.un,ok.kb,hn⟩;split
  ·have h2:Ok (zx { x with now:=x.now+1,clk:=(Rto.jB x.clk (x.now+1)).1,timed:=0 }).1:=Ok.again ⟨⟨h1.s.hi,h1.s.hu,h1.s.hw,h1.s.hc,h1.s.hm,h1.s.hl,h1.s.n0,h1.s.n1,h1.s.s0,h1.s.s1⟩,h1.at0,h1.at5,h1.un,h1.kb,h1.nb⟩ hw
   exact⟨h2.rests,vz h2⟩
  ·exact⟨(h1.done true).rests,vz (h1.done true)⟩
 ·exact⟨h0,r⟩
theorem Ok.new(isn:Int)(a:Int)(h0:1<=a)(h5:a<=5):Ok (jq isn a):=
 ⟨⟨qah zw zw,by simp [jq],(by show Win.Inv 1000000000 ⟨0,0,0,0⟩;exact⟨zd,zd,zd,zd,zd⟩),Rto.qah zw zw zw zw zw zw,by simp [jq],by simp [jq],by simp [jq],by simp [jq],by simp [jq],by simp [jq]⟩,h0,h5,by simp [jq,xC],by simp [jq,xC],by simp [jq]⟩
theorem qhw(isn:Int)(b:Bool):Ok (jf isn b).1/\Rest (jf isn b).1:=by
 unfold jf;cases b
 ·exact⟨Ok.new isn 1 zd zd,rfl⟩
 ·have h:=(Ok.new isn 2 zd zd).shows
  exact⟨h.rests,vz h⟩
end Go.Proofs.YtmgdbbbdhkfdmaaGreat
namespace Go.Proofs.YtmgdbbbdhkfdmaaGreat
set_option maxRecDepth 100000
open Go.RowKit Go.Deep
theorem qhx{x y:Int}{b:Bool}(h:(x == y)=b):(x != y)=!b:=by simp only [bne,h]
def vW(w:World)(v:Value)(err:Int)(e:Ending)(w':World):Prop:=e = .returned (.tuple #[v, .int .i64 err])/\Fr [] w w'
def xO(w:World)(a:Int)(l:List Pc)(v1 v2:Value)(e:Ending)(w':World):Prop:=vW w (if l.any (over a)=true then v1 else v2) (if l.any (over a)=true then 250 else 0) e w'
def qgh(w:World)(ar:Array Value)(a:Int)(l:List Pc)(s6:Value)(wr:World):Prop:=
 ∃ k:Nat,k<=l.length/\s6 = .int .i64 k/\(l.take k).any (over a)=false/\Fr [] w wr/\Blk wr w.heap.size 39 ar/\Blk wr (w.heap.size+1) 39 (arR 0 0 (.slice none 0 0) 0)
theorem rends_0(S:Nat->Prop)(w:World)(m n f:Int)(kv:Value)(L:List (Pc × Value))(h:Kp 162 S w kv L)(hl:L.length<=64)(a:Int)(h0:a<0) :
  Calls Tryz.prog 136 #[agR m n kv f, .int .i64 a] w (vW w (agR m n kv f) 2):=by
 obtain⟨KA,KC,rfl,hKn,hKc⟩:=h.form;have K:=hI h;have b0:=(Blk.new w 39 (arR m n (.slice KA L.length KC) f)).alloc (.cells (arR 0 0 (.slice none 0 0) 0) 39);have b1:Blk ((w.alloc (.cells (arR m n (.slice KA L.length KC) f) 39)).alloc (.cells (arR 0 0 (.slice none 0 0) 0) 39)) (w.heap.size+1) 39 (arR 0 0 (.slice none 0 0) 0):=by simpa using Blk.new (w.alloc (.cells (arR m n (.slice KA L.length KC) f) 39)) 39 (arR 0 0 (.slice none 0 0) 0)
 have f0:Fr [] w ((w.alloc (.cells (arR m n (.slice KA L.length KC) f) 39)).alloc (.cells (arR 0 0 (.slice none 0 0) 0) 39)):=((Fr.refl _ _).alloc _).alloc _;have B0:=hI b0;have B1:=hI b1;have F0:=hI f0;clear h b0 b1 f0;go_enter Tryz.func136,Tryz.ntmps136;go_wp2_with ((with_reducible refine qi 39 (.tmp 4) ?_);refine qc rfl 39 (.tmp 4) (.tmp 13) rfl (w.heap.size+1) 39 (arR 0 0 (.slice none 0 0) 0) (arR m n (.slice KA L.length KC) f) rfl rfl B1.out rfl zk zo ?_;intro w2 B3 F3)
 obtain⟨r0,r1,r2,r3⟩:=cells4 B3;refine bodyPost_ret (v := .tuple #[agR m n (.slice KA L.length KC) f, .int .i64 2]) (by simp [results,Tryz.results136,go_sem,r0,r1,r2,r3]) rfl ?_;exact⟨rfl,F0.out.trans F3 zs⟩
theorem rends_1(S:Nat->Prop)(w:World)(m n f:Int)(kv:Value)(L:List (Pc × Value))(h:Kp 162 S w kv L)(hl:L.length<=64)(a:Int)(h0:4611686018427387904<a) :
  Calls Tryz.prog 136 #[agR m n kv f, .int .i64 a] w (vW w (agR m n kv f) 2):=by
 obtain⟨KA,KC,rfl,hKn,hKc⟩:=h.form;have K:=hI h;have b0:=(Blk.new w 39 (arR m n (.slice KA L.length KC) f)).alloc (.cells (arR 0 0 (.slice none 0 0) 0) 39);have b1:Blk ((w.alloc (.cells (arR m n (.slice KA L.length KC) f) 39)).alloc (.cells (arR 0 0 (.slice none 0 0) 0) 39)) (w.heap.size+1) 39 (arR 0 0 (.slice none 0 0) 0):=by simpa using Blk.new (w.alloc (.cells (arR m n (.slice KA L.length KC) f) 39)) 39 (arR 0 0 (.slice none 0 0) 0)
 have f0:Fr [] w ((w.alloc (.cells (arR m n (.slice KA L.length KC) f) 39)).alloc (.cells (arR 0 0 (.slice none 0 0) 0) 39)):=((Fr.refl _ _).alloc _).alloc _;have B0:=hI b0;have B1:=hI b1;have F0:=hI f0;clear h b0 b1 f0;go_enter Tryz.func136,Tryz.ntmps136;go_wp2_with ((with_reducible refine qi 39 (.tmp 4) ?_);refine qc rfl 39 (.tmp 4) (.tmp 13) rfl (w.heap.size+1) 39 (arR 0 0 (.slice none 0 0) 0) (arR m n (.slice KA L.length KC) f) rfl rfl B1.out rfl zk zo ?_;intro w2 B3 F3)
 obtain⟨r0,r1,r2,r3⟩:=cells4 B3;refine bodyPost_ret (v := .tuple #[agR m n (.slice KA L.length KC) f, .int .i64 2]) (by simp [results,Tryz.results136,go_sem,r0,r1,r2,r3]) rfl ?_;exact⟨rfl,F0.out.trans F3 zs⟩
theorem rends_2(S:Nat->Prop)(w:World)(m n f:Int)(kv:Value)(L:List (Pc × Value))(h:Kp 162 S w kv L)(hl:L.length<=64)(a:Int)(h0:0<=a)(h1:a<=4611686018427387904)(h2:0<=f)(h3:(f == a)=false)(h3b:(f != a)=true) :
  Calls Tryz.prog 136 #[agR m n kv f, .int .i64 a] w (vW w (agR m n kv f) 250):=by
 obtain⟨KA,KC,rfl,hKn,hKc⟩:=h.form;have K:=hI h;have b0:=(Blk.new w 39 (arR m n (.slice KA L.length KC) f)).alloc (.cells (arR 0 0 (.slice none 0 0) 0) 39);have b1:Blk ((w.alloc (.cells (arR m n (.slice KA L.length KC) f) 39)).alloc (.cells (arR 0 0 (.slice none 0 0) 0) 39)) (w.heap.size+1) 39 (arR 0 0 (.slice none 0 0) 0):=by simpa using Blk.new (w.alloc (.cells (arR m n (.slice KA L.length KC) f) 39)) 39 (arR 0 0 (.slice none 0 0) 0)
 have f0:Fr [] w ((w.alloc (.cells (arR m n (.slice KA L.length KC) f) 39)).alloc (.cells (arR 0 0 (.slice none 0 0) 0) 39)):=((Fr.refl _ _).alloc _).alloc _;have B0:=hI b0;have B1:=hI b1;have F0:=hI f0;clear h b0 b1 f0;go_enter Tryz.func136,Tryz.ntmps136;go_wp2_with ((with_reducible refine qi 39 (.tmp 4) ?_);refine qc rfl 39 (.tmp 4) (.tmp 29) rfl (w.heap.size+1) 39 (arR 0 0 (.slice none 0 0) 0) (arR m n (.slice KA L.length KC) f) rfl rfl B1.out rfl zk zo ?_;intro w2 B3 F3)
 obtain⟨r0,r1,r2,r3⟩:=cells4 B3;refine bodyPost_ret (v := .tuple #[agR m n (.slice KA L.length KC) f, .int .i64 250]) (by simp [results,Tryz.results136,go_sem,r0,r1,r2,r3]) rfl ?_;exact⟨rfl,F0.out.trans F3 zs⟩
theorem rends_3(S:Nat->Prop)(w:World)(m n f:Int)(kv:Value)(L:List (Pc × Value))(h:Kp 162 S w kv L)(hl:L.length<=64)(a:Int)(h0:0<=a)(h1:a<=4611686018427387904)(h2:f<0)(h4:a<n) :
  Calls Tryz.prog 136 #[agR m n kv f, .int .i64 a] w (vW w (agR m n kv f) 250):=by
 obtain⟨KA,KC,rfl,hKn,hKc⟩:=h.form;have K:=hI h;have b0:=(Blk.new w 39 (arR m n (.slice KA L.length KC) f)).alloc (.cells (arR 0 0 (.slice none 0 0) 0) 39);have b1:Blk ((w.alloc (.cells (arR m n (.slice KA L.length KC) f) 39)).alloc (.cells (arR 0 0 (.slice none 0 0) 0) 39)) (w.heap.size+1) 39 (arR 0 0 (.slice none 0 0) 0):=by simpa using Blk.new (w.alloc (.cells (arR m n (.slice KA L.length KC) f) 39)) 39 (arR 0 0 (.slice none 0 0) 0)
 have f0:Fr [] w ((w.alloc (.cells (arR m n (.slice KA L.length KC) f) 39)).alloc (.cells (arR 0 0 (.slice none 0 0) 0) 39)):=((Fr.refl _ _).alloc _).alloc _;have B0:=hI b0;have B1:=hI b1;have F0:=hI f0;clear h b0 b1 f0;go_enter Tryz.func136,Tryz.ntmps136;go_wp2_with ((with_reducible refine qi 39 (.tmp 4) ?_);refine qc rfl 39 (.tmp 4) (.tmp 29) rfl (w.heap.size+1) 39 (arR 0 0 (.slice none 0 0) 0) (arR m n (.slice KA L.length KC) f) rfl rfl B1.out rfl zk zo ?_;intro w2 B3 F3)
 obtain⟨r0,r1,r2,r3⟩:=cells4 B3;refine bodyPost_ret (v := .tuple #[agR m n (.slice KA L.length KC) f, .int .i64 250]) (by simp [results,Tryz.results136,go_sem,r0,r1,r2,r3]) rfl ?_;exact⟨rfl,F0.out.trans F3 zs⟩
theorem rends_4(S:Nat->Prop)(w:World)(m n f:Int)(kv:Value)(L:List (Pc × Value))(h:Kp 162 S w kv L)(hl:L.length<=64)(a:Int)(h0:0<=a)(h1:a<=4611686018427387904)(h2:0<=f)(h3:(f == a)=true)(h3b:(f != a)=false)(h4:a<n) :
  Calls Tryz.prog 136 #[agR m n kv f, .int .i64 a] w (vW w (agR m n kv f) 250):=by
 obtain⟨KA,KC,rfl,hKn,hKc⟩:=h.form;have K:=hI h;have b0:=(Blk.new w 39 (arR m n (.slice KA L.length KC) f)).alloc (.cells (arR 0 0 (.slice none 0 0) 0) 39);have b1:Blk ((w.alloc (.cells (arR m n (.slice KA L.length KC) f) 39)).alloc (.cells (arR 0 0 (.slice none 0 0) 0) 39)) (w.heap.size+1) 39 (arR 0 0 (.slice none 0 0) 0):=by simpa using Blk.new (w.alloc (.cells (arR m n (.slice KA L.length KC) f) 39)) 39 (arR 0 0 (.slice none 0 0) 0)
 have f0:Fr [] w ((w.alloc (.cells (arR m n (.slice KA L.length KC) f) 39)).alloc (.cells (arR 0 0 (.slice none 0 0) 0) 39)):=((Fr.refl _ _).alloc _).alloc _;have B0:=hI b0;have B1:=hI b1;have F0:=hI f0;clear h b0 b1 f0;go_enter Tryz.func136,Tryz.ntmps136;go_wp2_with ((with_reducible refine qi 39 (.tmp 4) ?_);refine qc rfl 39 (.tmp 4) (.tmp 29) rfl (w.heap.size+1) 39 (arR 0 0 (.slice none 0 0) 0) (arR m n (.slice KA L.length KC) f) rfl rfl B1.out rfl zk zo ?_;intro w2 B3 F3)
 obtain⟨r0,r1,r2,r3⟩:=cells4 B3;refine bodyPost_ret (v := .tuple #[agR m n (.slice KA L.length KC) f, .int .i64 250]) (by simp [results,Tryz.results136,go_sem,r0,r1,r2,r3]) rfl ?_;exact⟨rfl,F0.out.trans F3 zs⟩
theorem rends_5(S:Nat->Prop)(w:World)(m n f:Int)(kv:Value)(L:List (Pc × Value))(h:Kp 162 S w kv L)(hl:L.length<=64)(a:Int)(hpc:∀ x∈L,0<=x.1.at_/\x.1.at_<=4611686018427387904/\1<=x.1.d.length/\x.1.d.length<=64)(h0:0<=a)(h1:a<=4611686018427387904)(h2:f<0)(h4:n<=a) :
  Calls Tryz.prog 136 #[agR m n kv f, .int .i64 a] w (xO w a (L.map (·.1)) (agR m n kv f) (agR m n kv a)):=by
 obtain⟨KA,KC,rfl,hKn,hKc⟩:=h.form;have K:=hI h;have b0:=(Blk.new w 39 (arR m n (.slice KA L.length KC) f)).alloc (.cells (arR 0 0 (.slice none 0 0) 0) 39);have b1:Blk ((w.alloc (.cells (arR m n (.slice KA L.length KC) f) 39)).alloc (.cells (arR 0 0 (.slice none 0 0) 0) 39)) (w.heap.size+1) 39 (arR 0 0 (.slice none 0 0) 0):=by simpa using Blk.new (w.alloc (.cells (arR m n (.slice KA L.length KC) f) 39)) 39 (arR 0 0 (.slice none 0 0) 0)
 have f0:Fr [] w ((w.alloc (.cells (arR m n (.slice KA L.length KC) f) 39)).alloc (.cells (arR 0 0 (.slice none 0 0) 0) 39)):=((Fr.refl _ _).alloc _).alloc _;have B0:=hI b0;have B1:=hI b1;have F0:=hI f0;have HPC:=hI hpc;clear h b0 b1 f0 hpc;go_enter Tryz.func136,Tryz.ntmps136;go_wp2
 go_loopw [6] (fun s6 wr=>qgh w (arR m n (.slice KA L.length KC) f) a (L.map (·.1)) s6 wr) (fun s6 _=>L.length - (intOf s6).toNat);case atStart=>exact⟨0,zw,rfl,rfl,F0.out,B0.out,B1.out⟩
 case round=>
  obtain⟨k,hk,rfl,hany,fk,bx,bz⟩:=hrel;rw [List.length_map] at hk;obtain⟨c0,c1,c2,c3⟩:=cells4 bx;have HA:=hI hany;clear hany;have Fk:=hI fk;have Bx:=hI bx;have Bz:=hI bz;by_cases hlt:k<L.length
  ·obtain⟨b,_,x,hv,hx,d0,d1,hby⟩:=(K.out.fr fk zs zs).at_ hlt
   injection hv with hv _ hc;subst hv hc;obtain⟨A,c,hxv,_,_⟩:=hby.form;rw [hxv] at d1;have hp:=HPC.out x (List.mem_of_getElem? hx);have hg:(L.map (·.1))[k]?=some x.1:=by simp [hx]
   have x0:=Grew.cell c2;have x1:=Grew.cell d0;have x2:=Grew.cell d1;have hov:over a x.1=decide (a<x.1.at_+(x.1.d.length:Int)):=rfl;have HG:=hI hg;have HO:=hI hov;clear hov hg hx hxv hby fk bx bz;obtain⟨hp0,hp1,hp2,hp3⟩:=hp;by_cases ho:a<x.1.at_+(x.1.d.length:Int)
   ·go_upto_region 8 with fail
    refine qg zk zk ?_;repeat (go_big_quiet_step (fail))
    refine wpQuiet_nil ?_;intro W1 f1;have bz1:=Bz.out.fr f1 zs;obtain⟨e0,e1,e2,e3⟩:=cells4 (Bx.out.fr f1 zs);have F1:=hI (Fk.out.trans f1 zs);have BZ1:=hI bz1;clear bz1 f1 x0 x1 x2;go_wp2_with ((with_reducible refine qi 39 (.tmp 4) ?_);refine qc rfl 39 (.tmp 4) (.tmp 53) rfl (w.heap.size+1) 39 (arR 0 0 (.slice none 0 0) 0) (arR m n (.slice (some ⟨b,0,none⟩) L.length KC) f) rfl rfl BZ1.out rfl zk zo ?_;intro w2 B3 F3)
    obtain⟨r0,r1,r2,r3⟩:=cells4 B3;refine bodyPost_ret (v := .tuple #[agR m n (.slice (some ⟨b,0,none⟩) L.length KC) f, .int .i64 250]) (by simp [results,Tryz.results136,go_sem,r0,r1,r2,r3]) rfl ?_;have hyes:(L.map (·.1)).any (over a)=true:=List.any_eq_true.2 ⟨x.1,List.mem_of_getElem? HG.out,by rw [HO.out];simpa using ho⟩;unfold xO;rw [hyes];exact⟨rfl,F1.out.trans F3 zs⟩
   ·go_upto_region 8 with fail
    refine qg zk zk ?_;repeat (go_big_quiet_step (fail))
    refine wpQuiet_nil ?_;intro W1 f1;go_wp2_with fail
    go_roundw;case rel=>exact⟨k+1,zv,by go_num,by rw [vN _ _ _ _ HG.out,HA.out,HO.out];simpa using ho,Fk.out.trans f1 zs,Bx.out.fr f1 zs,Bz.out.fr f1 zs⟩
    case measure=>simp [intOf];omega
  ·obtain rfl:L.length=k:=zw
   have hno:(L.map (·.1)).any (over a)=false:=by
    have:=HA.out
    rwa [List.take_of_length_le zs] at this
   have HN:=hI hno;have bxl:=bx.lt;have bxf:=bx.frozen 3;have bs:=bx.qO 3 (.int .i64 a);have fs:=(Fr.refl [w.heap.size] wr).setCell (p:=⟨w.heap.size,3,none⟩) (.inl zs) (.int .i64 a);have bz2:=hI (bz.fr fs zs);have F2:=hI (Fk.out.trans fs zs);clear hno fk bx bz bs fs;go_wp2_with ((with_reducible refine qi 39 (.tmp 4) ?_);refine qc rfl 39 (.tmp 4) (.tmp 56) rfl (w.heap.size+1) 39 (arR 0 0 (.slice none 0 0) 0) (arR m n (.slice KA L.length KC) a) rfl rfl bz2.out rfl zk zo ?_;intro w2 B3 F3)
   obtain⟨r0,r1,r2,r3⟩:=cells4 B3;refine bodyPost_ret (v := .tuple #[agR m n (.slice KA L.length KC) a, .int .i64 0]) (by simp [results,Tryz.results136,go_sem,r0,r1,r2,r3]) rfl ?_;unfold xO;rw [HN.out];exact⟨rfl,F2.out.trans F3 zs⟩
theorem rends_6(S:Nat->Prop)(w:World)(m n f:Int)(kv:Value)(L:List (Pc × Value))(h:Kp 162 S w kv L)(hl:L.length<=64)(a:Int)(hpc:∀ x∈L,0<=x.1.at_/\x.1.at_<=4611686018427387904/\1<=x.1.d.length/\x.1.d.length<=64)(h0:0<=a)(h1:a<=4611686018427387904)(h2:0<=f)(h3:(f == a)=true)(h3b:(f != a)=false)(h4:n<=a) :
  Calls Tryz.prog 136 #[agR m n kv f, .int .i64 a] w (xO w a (L.map (·.1)) (agR m n kv f) (agR m n kv a)):=by
 obtain⟨KA,KC,rfl,hKn,hKc⟩:=h.form;have K:=hI h;have b0:=(Blk.new w 39 (arR m n (.slice KA L.length KC) f)).alloc (.cells (arR 0 0 (.slice none 0 0) 0) 39);have b1:Blk ((w.alloc (.cells (arR m n (.slice KA L.length KC) f) 39)).alloc (.cells (arR 0 0 (.slice none 0 0) 0) 39)) (w.heap.size+1) 39 (arR 0 0 (.slice none 0 0) 0):=by simpa using Blk.new (w.alloc (.cells (arR m n (.slice KA L.length KC) f) 39)) 39 (arR 0 0 (.slice none 0 0) 0)
 have f0:Fr [] w ((w.alloc (.cells (arR m n (.slice KA L.length KC) f) 39)).alloc (.cells (arR 0 0 (.slice none 0 0) 0) 39)):=((Fr.refl _ _).alloc _).alloc _;have B0:=hI b0;have B1:=hI b1;have F0:=hI f0;have HPC:=hI hpc;clear h b0 b1 f0 hpc;go_enter Tryz.func136,Tryz.ntmps136;go_wp2
 go_loopw [6] (fun s6 wr=>qgh w (arR m n (.slice KA L.length KC) f) a (L.map (·.1)) s6 wr) (fun s6 _=>L.length - (intOf s6).toNat);case atStart=>exact⟨0,zw,rfl,rfl,F0.out,B0.out,B1.out⟩
 case round=>
  obtain⟨k,hk,rfl,hany,fk,bx,bz⟩:=hrel;rw [List.length_map] at hk;obtain⟨c0,c1,c2,c3⟩:=cells4 bx;have HA:=hI hany;clear hany;have Fk:=hI fk;have Bx:=hI bx;have Bz:=hI bz;by_cases hlt:k<L.length
  ·obtain⟨b,_,x,hv,hx,d0,d1,hby⟩:=(K.out.fr fk zs zs).at_ hlt
   injection hv with hv _ hc;subst hv hc;obtain⟨A,c,hxv,_,_⟩:=hby.form;rw [hxv] at d1;have hp:=HPC.out x (List.mem_of_getElem? hx);have hg:(L.map (·.1))[k]?=some x.1:=by simp [hx]
   have x0:=Grew.cell c2;have x1:=Grew.cell d0;have x2:=Grew.cell d1;have hov:over a x.1=decide (a<x.1.at_+(x.1.d.length:Int)):=rfl;have HG:=hI hg;have HO:=hI hov;clear hov hg hx hxv hby fk bx bz;obtain⟨hp0,hp1,hp2,hp3⟩:=hp;by_cases ho:a<x.1.at_+(x.1.d.length:Int)
   ·go_upto_region 8 with fail
    refine qg zk zk ?_;repeat (go_big_quiet_step (fail))
    refine wpQuiet_nil ?_;intro W1 f1;have bz1:=Bz.out.fr f1 zs;obtain⟨e0,e1,e2,e3⟩:=cells4 (Bx.out.fr f1 zs);have F1:=hI (Fk.out.trans f1 zs);have BZ1:=hI bz1;clear bz1 f1 x0 x1 x2;go_wp2_with ((with_reducible refine qi 39 (.tmp 4) ?_);refine qc rfl 39 (.tmp 4) (.tmp 53) rfl (w.heap.size+1) 39 (arR 0 0 (.slice none 0 0) 0) (arR m n (.slice (some ⟨b,0,none⟩) L.length KC) f) rfl rfl BZ1.out rfl zk zo ?_;intro w2 B3 F3)
    obtain⟨r0,r1,r2,r3⟩:=cells4 B3;refine bodyPost_ret (v := .tuple #[agR m n (.slice (some ⟨b,0,none⟩) L.length KC) f, .int .i64 250]) (by simp [results,Tryz.results136,go_sem,r0,r1,r2,r3]) rfl ?_;have hyes:(L.map (·.1)).any (over a)=true:=List.any_eq_true.2 ⟨x.1,List.mem_of_getElem? HG.out,by rw [HO.out];simpa using ho⟩;unfold xO;rw [hyes];exact⟨rfl,F1.out.trans F3 zs⟩
   ·go_upto_region 8 with fail
    refine qg zk zk ?_;repeat (go_big_quiet_step (fail))
    refine wpQuiet_nil ?_;intro W1 f1;go_wp2_with fail
    go_roundw;case rel=>exact⟨k+1,zv,by go_num,by rw [vN _ _ _ _ HG.out,HA.out,HO.out];simpa using ho,Fk.out.trans f1 zs,Bx.out.fr f1 zs,Bz.out.fr f1 zs⟩
    case measure=>simp [intOf];omega
  ·obtain rfl:L.length=k:=zw
   have hno:(L.map (·.1)).any (over a)=false:=by
    have:=HA.out
    rwa [List.take_of_length_le zs] at this
   have HN:=hI hno;have bxl:=bx.lt;have bxf:=bx.frozen 3;have bs:=bx.qO 3 (.int .i64 a);have fs:=(Fr.refl [w.heap.size] wr).setCell (p:=⟨w.heap.size,3,none⟩) (.inl zs) (.int .i64 a);have bz2:=hI (bz.fr fs zs);have F2:=hI (Fk.out.trans fs zs);clear hno fk bx bz bs fs;go_wp2_with ((with_reducible refine qi 39 (.tmp 4) ?_);refine qc rfl 39 (.tmp 4) (.tmp 56) rfl (w.heap.size+1) 39 (arR 0 0 (.slice none 0 0) 0) (arR m n (.slice KA L.length KC) a) rfl rfl bz2.out rfl zk zo ?_;intro w2 B3 F3)
   obtain⟨r0,r1,r2,r3⟩:=cells4 B3;refine bodyPost_ret (v := .tuple #[agR m n (.slice KA L.length KC) a, .int .i64 0]) (by simp [results,Tryz.results136,go_sem,r0,r1,r2,r3]) rfl ?_;unfold xO;rw [HN.out];exact⟨rfl,F2.out.trans F3 zs⟩
theorem rends{S:Nat->Prop}{w:World}{kv:Value}{h:Hp}{L:List (Pc × Value)}(r:RPx S w kv h L)(hi:Inv h)(a:Int):Calls Tryz.prog 136 #[agH h kv, .int .i64 a] w (vW w (agH (yD h a).1 kv) (yD h a).2):=by
 have hL:L.length<=64:=by have h1:=hi.len;have h2:=hi.m1;rw [r.kept,List.length_map] at h1;omega
 have hpc:∀ x∈L,0<=x.1.at_/\x.1.at_<=4611686018427387904/\1<=x.1.d.length/\x.1.d.length<=64:=fun x hx=>hi.pc x.1 (by rw [r.kept];exact List.mem_map.2 ⟨x,hx,rfl⟩);unfold yD;by_cases g0:a<0
 ·rw [if_pos (.inl g0)]
  exact rends_0 S w _ _ _ kv L r.kp hL a g0
 by_cases g1:4611686018427387904<a
 ·rw [if_pos (.inr g1)]
  exact rends_1 S w _ _ _ kv L r.kp hL a g1
 rw [if_neg zw];have hfin:=hi.fin;cases hf:h.fin with
 | none=>
  have e1:other none a=false:=rfl;rw [e1,Bool.false_or];by_cases g4:a<h.next
  ·rw [if_pos (by simp [g4])]
   unfold agH;rw [hf];exact rends_3 S w _ _ _ kv L r.kp hL a zw zw zd g4
  ·have e2:decide (a<h.next)=false:=by simpa using g4
   rw [e2,Bool.false_or];have:=rends_5 S w h.most h.next (-1) kv L r.kp hL a hpc zw zw zd zw;unfold xO at this;rw [<- r.kept] at this;unfold agH;rw [hf];split
   ·rename_i hc
    rw [if_pos hc,if_pos hc] at this;dsimp only;rw [hf];exact this
   ·rename_i hc
    rw [if_neg hc,if_neg hc] at this;exact this
 | some fa=>
  have hfa:=hfin fa hf;have e1:other (some fa) a=!(fa == a):=rfl;rw [e1];cases hfb:(fa == a)
  ·rw [if_pos zs]
   unfold agH;rw [hf];exact rends_2 S w _ _ _ kv L r.kp hL a zw zw hfa.1 hfb (qhx hfb)
  ·rw [Bool.not_true,Bool.false_or]
   by_cases g4:a<h.next
   ·rw [if_pos (by simp [g4])]
    unfold agH;rw [hf];exact rends_4 S w _ _ _ kv L r.kp hL a zw zw hfa.1 hfb (qhx hfb) g4
   ·have e2:decide (a<h.next)=false:=by simpa using g4
    rw [e2,Bool.false_or];have:=rends_6 S w h.most h.next fa kv L r.kp hL a hpc zw zw hfa.1 hfb (qhx hfb) zw;unfold xO at this;rw [<- r.kept] at this;unfold agH;rw [hf];split
    ·rename_i hc
     rw [if_pos hc,if_pos hc] at this;dsimp only;rw [hf];exact this
    ·rename_i hc
     rw [if_neg hc,if_neg hc] at this;exact this
def jk(S:Nat->Prop)(w:World)(h':Hp)(out:List Int)(err:Int)(e:Ending)(w':World):Prop:=
 ∃ S' kv' A c L',e = .returned (.tuple #[agH h' kv', .slice A out.length c, .int .i64 err])/\Ext w S S'/\Byt S' w' (.slice A out.length c) out/\RPx S' w' kv' h' L'/\Fr [] w w'
theorem vH{S:Nat->Prop}{w w':World}{kv:Value}{h:Hp}{L:List (Pc × Value)}(r:RPx S w kv h L)(f:Fr [] w w')(err:Int):jk S w h [] err (.returned (.tuple #[agH h kv, .slice none 0 0, .int .i64 err])) w':=
 ⟨S,kv,none,0,L,rfl,Ext.refl _ _,Byt.nil,r.ext f zs (fun _ h=>h) (fun b hb=>Nat.lt_of_lt_of_le (r.pub b hb) f.size),f⟩
def qcs(w:World)(ar:Array Value)(a:Int)(dl:Nat)(l:List Pc)(s16:Value)(wr:World):Prop:=
 ∃ k:Nat,k<=l.length/\s16 = .int .i64 k/\(l.take k).any (longer a dl)=false/\Fr [] w wr/\Blk wr w.heap.size 39 ar/\Blk wr (w.heap.size+1) 39 (arR 0 0 (.slice none 0 0) 0)
set_option maxRecDepth 100000 in
theorem qkv{S:Nat->Prop}{w:World}{kv:Value}{h:Hp}{L:List (Pc × Value)}(r:RPx S w kv h L)(a:Int)(dv:Value)(d:List Int)(T:Nat->Prop)(hd:Byt T w dv d)(hl:d.length<=1000000)(hL:L.length<=64)(h0:a<0) :
  Calls Tryz.prog 137 #[agH h kv, .int .i64 a,dv] w (jk S w h [] 2):=by
 obtain⟨KA,KC,rfl,hKn,hKc⟩:=r.kp.form;obtain⟨DA,DC,rfl,hdn,hdc⟩:=hd.form;have r:=hI r;have hd:=hI hd;have b0:=(Blk.new w 39 (arR h.most h.next (.slice KA L.length KC) (qM h.fin))).alloc (.cells (arR 0 0 (.slice none 0 0) 0) 39);have b1:Blk ((w.alloc (.cells (arR h.most h.next (.slice KA L.length KC) (qM h.fin)) 39)).alloc (.cells (arR 0 0 (.slice none 0 0) 0) 39)) (w.heap.size+1) 39 (arR 0 0 (.slice none 0 0) 0):=by simpa using Blk.new (w.alloc (.cells (arR h.most h.next (.slice KA L.length KC) (qM h.fin)) 39)) 39 (arR 0 0 (.slice none 0 0) 0)
 have f0:Fr [] w ((w.alloc (.cells (arR h.most h.next (.slice KA L.length KC) (qM h.fin)) 39)).alloc (.cells (arR 0 0 (.slice none 0 0) 0) 39)):=((Fr.refl _ _).alloc _).alloc _;have B0:=hI b0;have B1:=hI b1;have F0:=hI f0;clear b0 b1 f0;go_enter Tryz.func137,Tryz.ntmps137;go_wp2_with ((with_reducible refine qi 39 (.tmp 6) ?_);refine qc rfl 39 (.tmp 6) (.tmp 33) rfl (w.heap.size+1) 39 (arR 0 0 (.slice none 0 0) 0) (arR h.most h.next (.slice KA L.length KC) (qM h.fin)) rfl rfl B1.out rfl zk zo ?_;intro w2 B3 F3)
 obtain⟨r0,r1,r2,r3⟩:=cells4 B3;refine bodyPost_ret (v := .tuple #[agR h.most h.next (.slice KA L.length KC) (qM h.fin), .slice none 0 0, .int .i64 2]) (by simp [results,Tryz.results137,go_sem,r0,r1,r2,r3]) rfl ?_;exact vH r.out (F0.out.trans F3 zs) 2
set_option maxRecDepth 100000 in
theorem qkw{S:Nat->Prop}{w:World}{kv:Value}{h:Hp}{L:List (Pc × Value)}(r:RPx S w kv h L)(a:Int)(dv:Value)(d:List Int)(T:Nat->Prop)(hd:Byt T w dv d)(hl:d.length<=1000000)(hL:L.length<=64)(h0:4611686018427387904<a) :
  Calls Tryz.prog 137 #[agH h kv, .int .i64 a,dv] w (jk S w h [] 2):=by
 obtain⟨KA,KC,rfl,hKn,hKc⟩:=r.kp.form;obtain⟨DA,DC,rfl,hdn,hdc⟩:=hd.form;have r:=hI r;have hd:=hI hd;have b0:=(Blk.new w 39 (arR h.most h.next (.slice KA L.length KC) (qM h.fin))).alloc (.cells (arR 0 0 (.slice none 0 0) 0) 39);have b1:Blk ((w.alloc (.cells (arR h.most h.next (.slice KA L.length KC) (qM h.fin)) 39)).alloc (.cells (arR 0 0 (.slice none 0 0) 0) 39)) (w.heap.size+1) 39 (arR 0 0 (.slice none 0 0) 0):=by simpa using Blk.new (w.alloc (.cells (arR h.most h.next (.slice KA L.length KC) (qM h.fin)) 39)) 39 (arR 0 0 (.slice none 0 0) 0)
 have f0:Fr [] w ((w.alloc (.cells (arR h.most h.next (.slice KA L.length KC) (qM h.fin)) 39)).alloc (.cells (arR 0 0 (.slice none 0 0) 0) 39)):=((Fr.refl _ _).alloc _).alloc _;have B0:=hI b0;have B1:=hI b1;have F0:=hI f0;clear b0 b1 f0;go_enter Tryz.func137,Tryz.ntmps137;go_wp2_with ((with_reducible refine qi 39 (.tmp 6) ?_);refine qc rfl 39 (.tmp 6) (.tmp 33) rfl (w.heap.size+1) 39 (arR 0 0 (.slice none 0 0) 0) (arR h.most h.next (.slice KA L.length KC) (qM h.fin)) rfl rfl B1.out rfl zk zo ?_;intro w2 B3 F3)
 obtain⟨r0,r1,r2,r3⟩:=cells4 B3;refine bodyPost_ret (v := .tuple #[agR h.most h.next (.slice KA L.length KC) (qM h.fin), .slice none 0 0, .int .i64 2]) (by simp [results,Tryz.results137,go_sem,r0,r1,r2,r3]) rfl ?_;exact vH r.out (F0.out.trans F3 zs) 2
set_option maxRecDepth 100000 in
theorem qkx{S:Nat->Prop}{w:World}{kv:Value}{h:Hp}{L:List (Pc × Value)}(r:RPx S w kv h L)(a:Int)(dv:Value)(d:List Int)(T:Nat->Prop)(hd:Byt T w dv d)(hl:d.length<=1000000)(hL:L.length<=64)(h0:0<=a)(h1:a<=4611686018427387904)(h2:d.length<1) :
  Calls Tryz.prog 137 #[agH h kv, .int .i64 a,dv] w (jk S w h [] 2):=by
 obtain⟨KA,KC,rfl,hKn,hKc⟩:=r.kp.form;obtain⟨DA,DC,rfl,hdn,hdc⟩:=hd.form;have r:=hI r;have hd:=hI hd;have b0:=(Blk.new w 39 (arR h.most h.next (.slice KA L.length KC) (qM h.fin))).alloc (.cells (arR 0 0 (.slice none 0 0) 0) 39);have b1:Blk ((w.alloc (.cells (arR h.most h.next (.slice KA L.length KC) (qM h.fin)) 39)).alloc (.cells (arR 0 0 (.slice none 0 0) 0) 39)) (w.heap.size+1) 39 (arR 0 0 (.slice none 0 0) 0):=by simpa using Blk.new (w.alloc (.cells (arR h.most h.next (.slice KA L.length KC) (qM h.fin)) 39)) 39 (arR 0 0 (.slice none 0 0) 0)
 have f0:Fr [] w ((w.alloc (.cells (arR h.most h.next (.slice KA L.length KC) (qM h.fin)) 39)).alloc (.cells (arR 0 0 (.slice none 0 0) 0) 39)):=((Fr.refl _ _).alloc _).alloc _;have B0:=hI b0;have B1:=hI b1;have F0:=hI f0;clear b0 b1 f0;go_enter Tryz.func137,Tryz.ntmps137;go_wp2_with ((with_reducible refine qi 39 (.tmp 6) ?_);refine qc rfl 39 (.tmp 6) (.tmp 33) rfl (w.heap.size+1) 39 (arR 0 0 (.slice none 0 0) 0) (arR h.most h.next (.slice KA L.length KC) (qM h.fin)) rfl rfl B1.out rfl zk zo ?_;intro w2 B3 F3)
 obtain⟨r0,r1,r2,r3⟩:=cells4 B3;refine bodyPost_ret (v := .tuple #[agR h.most h.next (.slice KA L.length KC) (qM h.fin), .slice none 0 0, .int .i64 2]) (by simp [results,Tryz.results137,go_sem,r0,r1,r2,r3]) rfl ?_;exact vH r.out (F0.out.trans F3 zs) 2
set_option maxRecDepth 100000 in
theorem qky{S:Nat->Prop}{w:World}{kv:Value}{h:Hp}{L:List (Pc × Value)}(r:RPx S w kv h L)(a:Int)(dv:Value)(d:List Int)(T:Nat->Prop)(hd:Byt T w dv d)(hl:d.length<=1000000)(hL:L.length<=64)(h0:0<=a)(h1:a<=4611686018427387904)(h2:1<=d.length)(h3:64<d.length) :
  Calls Tryz.prog 137 #[agH h kv, .int .i64 a,dv] w (jk S w h [] 2):=by
 obtain⟨KA,KC,rfl,hKn,hKc⟩:=r.kp.form;obtain⟨DA,DC,rfl,hdn,hdc⟩:=hd.form;have r:=hI r;have hd:=hI hd;have b0:=(Blk.new w 39 (arR h.most h.next (.slice KA L.length KC) (qM h.fin))).alloc (.cells (arR 0 0 (.slice none 0 0) 0) 39);have b1:Blk ((w.alloc (.cells (arR h.most h.next (.slice KA L.length KC) (qM h.fin)) 39)).alloc (.cells (arR 0 0 (.slice none 0 0) 0) 39)) (w.heap.size+1) 39 (arR 0 0 (.slice none 0 0) 0):=by simpa using Blk.new (w.alloc (.cells (arR h.most h.next (.slice KA L.length KC) (qM h.fin)) 39)) 39 (arR 0 0 (.slice none 0 0) 0)
 have f0:Fr [] w ((w.alloc (.cells (arR h.most h.next (.slice KA L.length KC) (qM h.fin)) 39)).alloc (.cells (arR 0 0 (.slice none 0 0) 0) 39)):=((Fr.refl _ _).alloc _).alloc _;have B0:=hI b0;have B1:=hI b1;have F0:=hI f0;clear b0 b1 f0;go_enter Tryz.func137,Tryz.ntmps137;go_wp2_with ((with_reducible refine qi 39 (.tmp 6) ?_);refine qc rfl 39 (.tmp 6) (.tmp 33) rfl (w.heap.size+1) 39 (arR 0 0 (.slice none 0 0) 0) (arR h.most h.next (.slice KA L.length KC) (qM h.fin)) rfl rfl B1.out rfl zk zo ?_;intro w2 B3 F3)
 obtain⟨r0,r1,r2,r3⟩:=cells4 B3;refine bodyPost_ret (v := .tuple #[agR h.most h.next (.slice KA L.length KC) (qM h.fin), .slice none 0 0, .int .i64 2]) (by simp [results,Tryz.results137,go_sem,r0,r1,r2,r3]) rfl ?_;exact vH r.out (F0.out.trans F3 zs) 2
set_option maxRecDepth 100000 in
theorem qkz{S:Nat->Prop}{w:World}{kv:Value}{h:Hp}{L:List (Pc × Value)}(r:RPx S w kv h L)(a:Int)(dv:Value)(d:List Int)(T:Nat->Prop)(hd:Byt T w dv d)(hl:d.length<=1000000)(hL:L.length<=64)(h0:0<=a)(h1:a<=4611686018427387904)(h2:1<=d.length)(h3:d.length<=64)(h4:0<=qM h.fin)(h5:qM h.fin<a+d.length) :
  Calls Tryz.prog 137 #[agH h kv, .int .i64 a,dv] w (jk S w h [] 250):=by
 obtain⟨KA,KC,rfl,hKn,hKc⟩:=r.kp.form;obtain⟨DA,DC,rfl,hdn,hdc⟩:=hd.form;have r:=hI r;have hd:=hI hd;have b0:=(Blk.new w 39 (arR h.most h.next (.slice KA L.length KC) (qM h.fin))).alloc (.cells (arR 0 0 (.slice none 0 0) 0) 39);have b1:Blk ((w.alloc (.cells (arR h.most h.next (.slice KA L.length KC) (qM h.fin)) 39)).alloc (.cells (arR 0 0 (.slice none 0 0) 0) 39)) (w.heap.size+1) 39 (arR 0 0 (.slice none 0 0) 0):=by simpa using Blk.new (w.alloc (.cells (arR h.most h.next (.slice KA L.length KC) (qM h.fin)) 39)) 39 (arR 0 0 (.slice none 0 0) 0)
 have f0:Fr [] w ((w.alloc (.cells (arR h.most h.next (.slice KA L.length KC) (qM h.fin)) 39)).alloc (.cells (arR 0 0 (.slice none 0 0) 0) 39)):=((Fr.refl _ _).alloc _).alloc _;have B0:=hI b0;have B1:=hI b1;have F0:=hI f0;clear b0 b1 f0;go_enter Tryz.func137,Tryz.ntmps137;go_wp2_with ((with_reducible refine qi 39 (.tmp 6) ?_);refine qc rfl 39 (.tmp 6) (.tmp 47) rfl (w.heap.size+1) 39 (arR 0 0 (.slice none 0 0) 0) (arR h.most h.next (.slice KA L.length KC) (qM h.fin)) rfl rfl B1.out rfl zk zo ?_;intro w2 B3 F3)
 obtain⟨r0,r1,r2,r3⟩:=cells4 B3;refine bodyPost_ret (v := .tuple #[agR h.most h.next (.slice KA L.length KC) (qM h.fin), .slice none 0 0, .int .i64 250]) (by simp [results,Tryz.results137,go_sem,r0,r1,r2,r3]) rfl ?_;exact vH r.out (F0.out.trans F3 zs) 250
set_option maxRecDepth 100000 in
theorem qnf{S:Nat->Prop}{w:World}{kv:Value}{h:Hp}{L:List (Pc × Value)}(r:RPx S w kv h L)(a:Int)(dv:Value)(d:List Int)(T:Nat->Prop)(hd:Byt T w dv d)(hl:d.length<=1000000)(hL:L.length<=64)(h0:0<=a)(h1:a<=4611686018427387904)(h2:1<=d.length)(h3:d.length<=64)(h4:qM h.fin<0\/(0<=qM h.fin/\a+(d.length:Int)<=qM h.fin))(h5:a+d.length<=h.next) :
  Calls Tryz.prog 137 #[agH h kv, .int .i64 a,dv] w (jk S w h [] 0):=by
 obtain⟨KA,KC,rfl,hKn,hKc⟩:=r.kp.form;obtain⟨DA,DC,rfl,hdn,hdc⟩:=hd.form;have r:=hI r;have hd:=hI hd;have b0:=(Blk.new w 39 (arR h.most h.next (.slice KA L.length KC) (qM h.fin))).alloc (.cells (arR 0 0 (.slice none 0 0) 0) 39);have b1:Blk ((w.alloc (.cells (arR h.most h.next (.slice KA L.length KC) (qM h.fin)) 39)).alloc (.cells (arR 0 0 (.slice none 0 0) 0) 39)) (w.heap.size+1) 39 (arR 0 0 (.slice none 0 0) 0):=by simpa using Blk.new (w.alloc (.cells (arR h.most h.next (.slice KA L.length KC) (qM h.fin)) 39)) 39 (arR 0 0 (.slice none 0 0) 0)
 have f0:Fr [] w ((w.alloc (.cells (arR h.most h.next (.slice KA L.length KC) (qM h.fin)) 39)).alloc (.cells (arR 0 0 (.slice none 0 0) 0) 39)):=((Fr.refl _ _).alloc _).alloc _;have B0:=hI b0;have B1:=hI b1;have F0:=hI f0;clear b0 b1 f0;rcases h4 with h4|⟨h4,h4b⟩;all_goals
  go_enter Tryz.func137,Tryz.ntmps137;go_wp2_with ((with_reducible refine qi 39 (.tmp 6) ?_);refine qc rfl 39 (.tmp 6) (.tmp 52) rfl (w.heap.size+1) 39 (arR 0 0 (.slice none 0 0) 0) (arR h.most h.next (.slice KA L.length KC) (qM h.fin)) rfl rfl B1.out rfl zk zo ?_;intro w2 B3 F3)
  obtain⟨r0,r1,r2,r3⟩:=cells4 B3;refine bodyPost_ret (v := .tuple #[agR h.most h.next (.slice KA L.length KC) (qM h.fin), .slice none 0 0, .int .i64 0]) (by simp [results,Tryz.results137,go_sem,r0,r1,r2,r3]) rfl ?_;exact vH r.out (F0.out.trans F3 zs) 0
set_option maxRecDepth 100000 in
theorem qgi{S:Nat->Prop}{w:World}{kv:Value}{h:Hp}{L:List (Pc × Value)}(r:RPx S w kv h L)(a:Int)(dv:Value)(d:List Int)(T:Nat->Prop)(hd:Byt T w dv d)(hl:d.length<=1000000)(hL:L.length<=64)(h0:0<=a)(h1:a<=4611686018427387904)(h2:1<=d.length)(h3:d.length<=64)(h4:qM h.fin<0\/(0<=qM h.fin/\a+(d.length:Int)<=qM h.fin))(h5:h.next<a)(hany:h.kept.any (longer a d.length)=true) :
  Calls Tryz.prog 137 #[agH h kv, .int .i64 a,dv] w (jk S w h [] 0):=by
 obtain⟨KA,KC,rfl,hKn,hKc⟩:=r.kp.form;obtain⟨DA,DC,rfl,hdn,hdc⟩:=hd.form;have r:=hI r;have hd:=hI hd;have b0:=(Blk.new w 39 (arR h.most h.next (.slice KA L.length KC) (qM h.fin))).alloc (.cells (arR 0 0 (.slice none 0 0) 0) 39);have b1:Blk ((w.alloc (.cells (arR h.most h.next (.slice KA L.length KC) (qM h.fin)) 39)).alloc (.cells (arR 0 0 (.slice none 0 0) 0) 39)) (w.heap.size+1) 39 (arR 0 0 (.slice none 0 0) 0):=by simpa using Blk.new (w.alloc (.cells (arR h.most h.next (.slice KA L.length KC) (qM h.fin)) 39)) 39 (arR 0 0 (.slice none 0 0) 0)
 have f0:Fr [] w ((w.alloc (.cells (arR h.most h.next (.slice KA L.length KC) (qM h.fin)) 39)).alloc (.cells (arR 0 0 (.slice none 0 0) 0) 39)):=((Fr.refl _ _).alloc _).alloc _;have B0:=hI b0;have B1:=hI b1;have F0:=hI f0;clear b0 b1 f0;rw [r.out.kept] at hany;have HANY:=hI hany;clear hany;rcases h4 with h4|⟨h4,h4b⟩;all_goals
  go_enter Tryz.func137,Tryz.ntmps137;go_wp2
  go_loopw [16] (fun s16 wr=>qcs w (arR h.most h.next (.slice KA L.length KC) (qM h.fin)) a d.length (L.map (·.1)) s16 wr) (fun s16 _=>L.length - (intOf s16).toNat);case atStart=>exact⟨0,zw,rfl,rfl,F0.out,B0.out,B1.out⟩
  case round=>
   obtain⟨k,hk,rfl,hany,fk,bx,bz⟩:=hrel;rw [List.length_map] at hk;obtain⟨c0,c1,c2,c3⟩:=cells4 bx;have HA:=hI hany;clear hany;have Fk:=hI fk;have Bx:=hI bx;have Bz:=hI bz;by_cases hlt:k<L.length
   ·obtain⟨b,_,x,hv,hx,d0,d1,hby⟩:=(r.out.kp.fr fk zs zs).at_ hlt
    injection hv with hv _ hc;subst hv hc;obtain⟨A,c,hxv,_,_⟩:=hby.form;rw [hxv] at d1;have hg:(L.map (·.1))[k]?=some x.1:=(by simp [hx]);have hov:longer a d.length x.1=((x.1.at_ == a) && decide (d.length<=x.1.d.length)):=rfl;have HG:=hI hg;have HO:=hI hov;clear hov hg hx hxv hby fk bx bz;have hl1:=World.block_lt_of_cell? wr _ d0;cases hat:(x.1.at_ == a)
    ·go_wp2_with fail
     go_roundw;case rel=>exact⟨k+1,zv,by go_num,by rw [vN _ _ _ _ HG.out,HA.out,HO.out];simp [hat],Fk.out,Bx.out,Bz.out⟩
     case measure=>simp [intOf];omega
    ·by_cases hdl:d.length<=x.1.d.length
     ·have hyes:(L.map (·.1)).any (longer a d.length)=true:=List.any_eq_true.2 ⟨x.1,List.mem_of_getElem? HG.out,by rw [HO.out];simp [hat,hdl]⟩
      have hno:(L.map (·.1)).any (longer a d.length)=true:=HANY.out;clear hyes hno;go_wp2_with ((with_reducible refine qi 39 (.tmp 6) ?_);refine qc rfl 39 (.tmp 6) (.tmp 126) rfl (w.heap.size+1) 39 (arR 0 0 (.slice none 0 0) 0) (arR h.most h.next (.slice (some ⟨b,0,none⟩) L.length KC) (qM h.fin)) rfl rfl Bz.out rfl zk zo ?_;intro w2 B3 F3)
      obtain⟨r0,r1,r2,r3⟩:=cells4 B3;refine bodyPost_ret (v := .tuple #[agR h.most h.next (.slice (some ⟨b,0,none⟩) L.length KC) (qM h.fin), .slice none 0 0, .int .i64 0]) (by simp [results,Tryz.results137,go_sem,r0,r1,r2,r3]) rfl ?_;exact vH r.out (Fk.out.trans F3 zs) 0
     ·go_wp2_with fail
      go_roundw;case rel=>exact⟨k+1,zv,by go_num,by rw [vN _ _ _ _ HG.out,HA.out,HO.out];simp [hdl],Fk.out,Bx.out,Bz.out⟩
      case measure=>simp [intOf];omega
   ·obtain rfl:L.length=k:=zw
    have hno:(L.map (·.1)).any (longer a d.length)=false:=by
     have:=HA.out
     rwa [List.take_of_length_le zs] at this
    clear fk bx bz;rw [HANY.out] at hno;cases hno
set_option maxRecDepth 100000 in
theorem qla{S:Nat->Prop}{w:World}{kv:Value}{h:Hp}{L:List (Pc × Value)}(r:RPx S w kv h L)(a:Int)(dv:Value)(d:List Int)(T:Nat->Prop)(hd:Byt T w dv d)(hl:d.length<=1000000)(hL:L.length<=64)(h0:0<=a)(h1:a<=4611686018427387904)(h2:1<=d.length)(h3:d.length<=64)(h4:qM h.fin<0\/(0<=qM h.fin/\a+(d.length:Int)<=qM h.fin))(h5:h.next<a)(hany:h.kept.any (longer a d.length)=false)(hm:h.most<=(L.length:Int)) :
  Calls Tryz.prog 137 #[agH h kv, .int .i64 a,dv] w (jk S w h [] 251):=by
 obtain⟨KA,KC,rfl,hKn,hKc⟩:=r.kp.form;obtain⟨DA,DC,rfl,hdn,hdc⟩:=hd.form;have r:=hI r;have hd:=hI hd;have b0:=(Blk.new w 39 (arR h.most h.next (.slice KA L.length KC) (qM h.fin))).alloc (.cells (arR 0 0 (.slice none 0 0) 0) 39);have b1:Blk ((w.alloc (.cells (arR h.most h.next (.slice KA L.length KC) (qM h.fin)) 39)).alloc (.cells (arR 0 0 (.slice none 0 0) 0) 39)) (w.heap.size+1) 39 (arR 0 0 (.slice none 0 0) 0):=by simpa using Blk.new (w.alloc (.cells (arR h.most h.next (.slice KA L.length KC) (qM h.fin)) 39)) 39 (arR 0 0 (.slice none 0 0) 0)
 have f0:Fr [] w ((w.alloc (.cells (arR h.most h.next (.slice KA L.length KC) (qM h.fin)) 39)).alloc (.cells (arR 0 0 (.slice none 0 0) 0) 39)):=((Fr.refl _ _).alloc _).alloc _;have B0:=hI b0;have B1:=hI b1;have F0:=hI f0;clear b0 b1 f0;rw [r.out.kept] at hany;have HANY:=hI hany;clear hany;rcases h4 with h4|⟨h4,h4b⟩;all_goals
  go_enter Tryz.func137,Tryz.ntmps137;go_wp2
  go_loopw [16] (fun s16 wr=>qcs w (arR h.most h.next (.slice KA L.length KC) (qM h.fin)) a d.length (L.map (·.1)) s16 wr) (fun s16 _=>L.length - (intOf s16).toNat);case atStart=>exact⟨0,zw,rfl,rfl,F0.out,B0.out,B1.out⟩
  case round=>
   obtain⟨k,hk,rfl,hany,fk,bx,bz⟩:=hrel;rw [List.length_map] at hk;obtain⟨c0,c1,c2,c3⟩:=cells4 bx;have HA:=hI hany;clear hany;have Fk:=hI fk;have Bx:=hI bx;have Bz:=hI bz;by_cases hlt:k<L.length
   ·obtain⟨b,_,x,hv,hx,d0,d1,hby⟩:=(r.out.kp.fr fk zs zs).at_ hlt
    injection hv with hv _ hc;subst hv hc;obtain⟨A,c,hxv,_,_⟩:=hby.form;rw [hxv] at d1;have hg:(L.map (·.1))[k]?=some x.1:=(by simp [hx]);have hov:longer a d.length x.1=((x.1.at_ == a) && decide (d.length<=x.1.d.length)):=rfl;have HG:=hI hg;have HO:=hI hov;clear hov hg hx hxv hby fk bx bz;have hl1:=World.block_lt_of_cell? wr _ d0;cases hat:(x.1.at_ == a)
    ·go_wp2_with fail
     go_roundw;case rel=>exact⟨k+1,zv,by go_num,by rw [vN _ _ _ _ HG.out,HA.out,HO.out];simp [hat],Fk.out,Bx.out,Bz.out⟩
     case measure=>simp [intOf];omega
    ·by_cases hdl:d.length<=x.1.d.length
     ·have hyes:(L.map (·.1)).any (longer a d.length)=true:=List.any_eq_true.2 ⟨x.1,List.mem_of_getElem? HG.out,by rw [HO.out];simp [hat,hdl]⟩
      have hno:(L.map (·.1)).any (longer a d.length)=false:=HANY.out;rw [hyes] at hno;cases hno
     ·go_wp2_with fail
      go_roundw;case rel=>exact⟨k+1,zv,by go_num,by rw [vN _ _ _ _ HG.out,HA.out,HO.out];simp [hdl],Fk.out,Bx.out,Bz.out⟩
      case measure=>simp [intOf];omega
   ·obtain rfl:L.length=k:=zw
    have hno:(L.map (·.1)).any (longer a d.length)=false:=by
     have:=HA.out
     rwa [List.take_of_length_le zs] at this
    clear fk bx bz;clear hno;go_wp2_with ((with_reducible refine qi 39 (.tmp 6) ?_);refine qc rfl 39 (.tmp 6) (.tmp 133) rfl (w.heap.size+1) 39 (arR 0 0 (.slice none 0 0) 0) (arR h.most h.next (.slice KA L.length KC) (qM h.fin)) rfl rfl Bz.out rfl zk zo ?_;intro w2 B3 F3)
    obtain⟨r0,r1,r2,r3⟩:=cells4 B3;refine bodyPost_ret (v := .tuple #[agR h.most h.next (.slice KA L.length KC) (qM h.fin), .slice none 0 0, .int .i64 251]) (by simp [results,Tryz.results137,go_sem,r0,r1,r2,r3]) rfl ?_;exact vH r.out (Fk.out.trans F3 zs) 251
end Go.Proofs.YtmgdbbbdhkfdmaaGreat
