import Derived.Test.YtmgdbbbdhkfdmaaGreatYB1
import Derived.Deep.DeepCutAuto
import Derived.Test.YtmgdbbbdhkfdmaaGreatYB2
set_option linter.unusedSimpArgs false
set_option linter.unusedVariables false
namespace Go.Proofs.YtmgdbbbdhkfdmaaGreat.Win
set_option maxRecDepth 100000
open Go.RowKit
theorem rroom(x:Wn)(w:World)(B:Int)(hB:B≤1000000000)(hi:Inv B x):Calls Tryz.prog 109 #[agW x] w fun e w'=>e = .returned (.int .i64 (roomV x))∧Fr [] w w':=by
 obtain⟨i0,i1,i2,i3,i4⟩:=hi
 unfold roomV
 go_enter Tryz.func109,Tryz.ntmps109
 go_wp2
 all_goals go_ret
 all_goals exact⟨ret1_eq (by omega),by repeat (first|exact Fr.refl _ _|apply Fr.drew|apply Fr.alloc|refine Fr.setCell ?_ (Or.inr (by simp)) _)⟩
theorem rzero(x:Wn)(w:World):Calls Tryz.prog 104 #[agW x] w fun e w'=>e = .returned (.bool (zeroV x))∧Fr [] w w':=by
 unfold zeroV
 by_cases h1:x.a=x.m
 ·have e:(x.a == x.m)=true:=by simp [h1]
  have e2:(x.l == x.a && x.m == x.a)=(x.a == x.l):=by rw [h1,Bool.eq_iff_iff];simp;omega
  rw [e2]
  clear h1 e2
  go_enter Tryz.func104,Tryz.ntmps104
  go_wp2
  go_ret
  exact⟨rfl,by repeat (first|exact Fr.refl _ _|apply Fr.drew|apply Fr.alloc|refine Fr.setCell ?_ (Or.inr (by simp)) _)⟩
 ·have e:(x.a == x.m)=false:=by simp [h1]
  have e2:(x.l == x.a && x.m == x.a)=false:=by simp;omega
  rw [e2]
  clear h1 e2
  go_enter Tryz.func104,Tryz.ntmps104
  go_wp2
  go_ret
  exact⟨rfl,by repeat (first|exact Fr.refl _ _|apply Fr.drew|apply Fr.alloc|refine Fr.setCell ?_ (Or.inr (by simp)) _)⟩
theorem rtake(x:Wn)(n:Int)(w:World)(B:Int)(hB:B≤1000000000)(hi:Inv B x):Calls Tryz.prog 110 #[agW x, .int .i64 n] w fun e w'=>e = .returned (.tuple #[agW (takeV x n).1, .int .i64 (takeV x n).2.1, .int .i64 (takeV x n).2.2])∧Fr [] w w':=by
 obtain⟨i0,i1,i2,i3,i4⟩:=hi
 unfold takeV
 by_cases h1:n<0
 ·rw [if_pos h1]
  go_enter Tryz.func110,Tryz.ntmps110
  go_wp2
  go_returns
  exact⟨rfl,by repeat (first|exact Fr.refl _ _|apply Fr.drew|apply Fr.alloc|refine Fr.setCell ?_ (Or.inr (by simp)) _)⟩
 ·rw [if_neg h1]
  by_cases h3:x.s<x.l
  ·have hroom:roomV x=x.l - x.s:=by unfold roomV;omega
   rw [hroom]
   clear hroom
   by_cases h2:x.l - x.s<n
   ·rw [if_pos h2]
    go_enter Tryz.func110,Tryz.ntmps110
    go_wp2
    go_returns
    exact⟨rfl,by repeat (first|exact Fr.refl _ _|apply Fr.drew|apply Fr.alloc|refine Fr.setCell ?_ (Or.inr (by simp)) _)⟩
   ·rw [if_neg h2]
    by_cases h4:x.m<x.s+n
    ·rw [show max x.m (x.s+n)=x.s+n from by omega]
     go_enter Tryz.func110,Tryz.ntmps110
     go_wp2
     go_returns
     exact⟨rfl,by repeat (first|exact Fr.refl _ _|apply Fr.drew|apply Fr.alloc|refine Fr.setCell ?_ (Or.inr (by simp)) _)⟩
    ·rw [show max x.m (x.s+n)=x.m from by omega]
     go_enter Tryz.func110,Tryz.ntmps110
     go_wp2
     go_returns
     exact⟨rfl,by repeat (first|exact Fr.refl _ _|apply Fr.drew|apply Fr.alloc|refine Fr.setCell ?_ (Or.inr (by simp)) _)⟩
  ·have hroom:roomV x=0:=by unfold roomV;omega
   rw [hroom]
   clear hroom
   by_cases h2:0<n
   ·rw [if_pos h2]
    go_enter Tryz.func110,Tryz.ntmps110
    go_wp2
    go_returns
    exact⟨rfl,by repeat (first|exact Fr.refl _ _|apply Fr.drew|apply Fr.alloc|refine Fr.setCell ?_ (Or.inr (by simp)) _)⟩
   ·rw [if_neg h2]
    obtain rfl:n=0:=by omega
    rw [show max x.m (x.s+0)=x.m from by omega,show x.s+0=x.s from by omega]
    go_enter Tryz.func110,Tryz.ntmps110
    go_wp2
    go_returns
    exact⟨rfl,by repeat (first|exact Fr.refl _ _|apply Fr.drew|apply Fr.alloc|refine Fr.setCell ?_ (Or.inr (by simp)) _)⟩
set_option maxHeartbeats 2000000 in
theorem rack(x:Wn)(u r:Int)(w:World)(B:Int)(hB:B≤1000000000)(hi:Inv B x):Calls Tryz.prog 121 #[agW x, .int .i64 u, .int .i64 r] w fun e w'=>e = .returned (.tuple #[agW (ackV x u r).1, .int .i64 (ackV x u r).2.1, .int .i64 (ackV x u r).2.2])∧Fr [] w w':=by
 obtain⟨i0,i1,i2,i3,i4⟩:=hi
 unfold ackV
 by_cases h1:u<0∨r<0∨65535<r
 ·rw [if_pos h1]
  by_cases a:u<0
  ·go_enter Tryz.func121,Tryz.ntmps121
   go_wp2
   go_returns
   exact⟨rfl,by repeat (first|exact Fr.refl _ _|apply Fr.drew|apply Fr.alloc|refine Fr.setCell ?_ (Or.inr (by simp)) _)⟩
  by_cases b:r<0
  ·go_enter Tryz.func121,Tryz.ntmps121
   go_wp2
   go_returns
   exact⟨rfl,by repeat (first|exact Fr.refl _ _|apply Fr.drew|apply Fr.alloc|refine Fr.setCell ?_ (Or.inr (by simp)) _)⟩
  have c:65535<r:=by omega
  clear h1
  go_enter Tryz.func121,Tryz.ntmps121
  go_wp2
  go_returns
  exact⟨rfl,by repeat (first|exact Fr.refl _ _|apply Fr.drew|apply Fr.alloc|refine Fr.setCell ?_ (Or.inr (by simp)) _)⟩
 ·rw [if_neg h1]
  have j1:0≤u:=by omega
  have j2:0≤r:=by omega
  have j3:r≤65535:=by omega
  clear h1
  by_cases h2:x.m<u
  ·rw [if_pos h2]
   go_enter Tryz.func121,Tryz.ntmps121
   go_wp2
   go_returns
   exact⟨rfl,by repeat (first|exact Fr.refl _ _|apply Fr.drew|apply Fr.alloc|refine Fr.setCell ?_ (Or.inr (by simp)) _)⟩
  ·rw [if_neg h2]
   by_cases h3:u<x.a
   ·rw [if_pos h3]
    go_enter Tryz.func121,Tryz.ntmps121
    go_wp2
    go_returns
    exact⟨rfl,by repeat (first|exact Fr.refl _ _|apply Fr.drew|apply Fr.alloc|refine Fr.setCell ?_ (Or.inr (by simp)) _)⟩
   ·rw [if_neg h3]
    rw [show max x.a u=u from by omega]
    by_cases h4:x.s<u
    ·rw [show max x.s u=u from by omega]
     by_cases h5:x.l<u+r
     ·rw [show max x.l (u+r)=u+r from by omega]
      go_enter Tryz.func121,Tryz.ntmps121
      go_wp2
      go_returns
      exact⟨rfl,by repeat (first|exact Fr.refl _ _|apply Fr.drew|apply Fr.alloc|refine Fr.setCell ?_ (Or.inr (by simp)) _)⟩
     ·rw [show max x.l (u+r)=x.l from by omega]
      go_enter Tryz.func121,Tryz.ntmps121
      go_wp2
      go_returns
      exact⟨rfl,by repeat (first|exact Fr.refl _ _|apply Fr.drew|apply Fr.alloc|refine Fr.setCell ?_ (Or.inr (by simp)) _)⟩
    ·rw [show max x.s u=x.s from by omega]
     by_cases h5:x.l<u+r
     ·rw [show max x.l (u+r)=u+r from by omega]
      go_enter Tryz.func121,Tryz.ntmps121
      go_wp2
      go_returns
      exact⟨rfl,by repeat (first|exact Fr.refl _ _|apply Fr.drew|apply Fr.alloc|refine Fr.setCell ?_ (Or.inr (by simp)) _)⟩
     ·rw [show max x.l (u+r)=x.l from by omega]
      go_enter Tryz.func121,Tryz.ntmps121
      go_wp2
      go_returns
      exact⟨rfl,by repeat (first|exact Fr.refl _ _|apply Fr.drew|apply Fr.alloc|refine Fr.setCell ?_ (Or.inr (by simp)) _)⟩
theorem roffer_any(most held:Int)(w:World):Calls Tryz.prog 101 #[.int .i64 most, .int .i64 held] w fun e w'=>e = .returned (.tuple #[.int .i64 (offerV most held).1, .int .i64 (offerV most held).2])∧w=w':=by
 unfold offerV
 by_cases h1:most<0
 ·rw [if_pos (by omega)]
  go_enter Tryz.func101,Tryz.ntmps101
  go_wp2
  go_ret2
  exact⟨rfl,rfl⟩
 by_cases h4:65535<most
 ·rw [if_pos (by omega)]
  go_enter Tryz.func101,Tryz.ntmps101
  go_wp2
  go_ret2
  exact⟨rfl,rfl⟩
 by_cases h2:held<0
 ·rw [if_pos (by omega)]
  go_enter Tryz.func101,Tryz.ntmps101
  go_wp2
  go_ret2
  exact⟨rfl,rfl⟩
 by_cases h3:most<held
 ·rw [if_pos (by omega)]
  go_enter Tryz.func101,Tryz.ntmps101
  go_wp2
  go_ret2
  exact⟨rfl,rfl⟩
 rw [if_neg (by omega)]
 by_cases h5:most - held<64
 ·by_cases h6:most - held+(most - held)<most
  ·rw [if_pos (by omega)]
   go_enter Tryz.func101,Tryz.ntmps101
   go_wp2
   go_ret2
   exact⟨rfl,rfl⟩
  ·rw [if_neg (by omega)]
   go_enter Tryz.func101,Tryz.ntmps101
   go_wp2
   go_ret2
   exact⟨rfl,rfl⟩
 ·rw [if_neg (by omega)]
  go_enter Tryz.func101,Tryz.ntmps101
  go_wp2
  go_ret2
  exact⟨rfl,rfl⟩
end Go.Proofs.YtmgdbbbdhkfdmaaGreat.Win
namespace Go.Proofs.YtmgdbbbdhkfdmaaGreat.Rto
set_option maxRecDepth 100000
open Go.RowKit
abbrev bx(c:Ck):Obj := .cells c.arr 36
theorem rknows(c:Ck)(w:World)(hi:Inv c):Calls Tryz.prog 106 #[agC c] w fun e w'=>e = .returned (.int .i64 (knowsV c))∧w.alloc (bx c)=w':=by
 obtain⟨l1,lf,fm,m1,t1,t2,tm0,tm1,sp0,sp1,w1,w2,s0,s1,r0,r1⟩:=hi
 obtain⟨f,l,m,t,is,tm,sp,wt,si,tr,rn⟩:=c
 unfold knowsV
 dsimp only at *
 cases is
 ·go_enter Tryz.func106,Tryz.ntmps106
  go_wp2
  go_ret
  exact⟨rfl,rfl⟩
 ·rw [if_pos rfl]
  by_cases h1:sp<1
  ·by_cases h2:tm / 8+1<l
   ·rw [show max l (min m (tm / 8+max 1 sp))=l from by omega]
    go_enter Tryz.func106,Tryz.ntmps106
    go_wp2
    go_ret
    exact⟨rfl,rfl⟩
   by_cases h3:m<tm / 8+1
   ·rw [show max l (min m (tm / 8+max 1 sp))=m from by omega]
    go_enter Tryz.func106,Tryz.ntmps106
    go_wp2
    go_ret
    exact⟨rfl,rfl⟩
   rw [show max l (min m (tm / 8+max 1 sp))=tm / 8+1 from by omega]
   go_enter Tryz.func106,Tryz.ntmps106
   go_wp2
   go_ret
   exact⟨rfl,rfl⟩
  ·by_cases h2:tm / 8+sp<l
   ·rw [show max l (min m (tm / 8+max 1 sp))=l from by omega]
    go_enter Tryz.func106,Tryz.ntmps106
    go_wp2
    go_ret
    exact⟨rfl,rfl⟩
   by_cases h3:m<tm / 8+sp
   ·rw [show max l (min m (tm / 8+max 1 sp))=m from by omega]
    go_enter Tryz.func106,Tryz.ntmps106
    go_wp2
    go_ret
    exact⟨rfl,rfl⟩
   rw [show max l (min m (tm / 8+max 1 sp))=tm / 8+sp from by omega]
   go_enter Tryz.func106,Tryz.ntmps106
   go_wp2
   go_ret
   exact⟨rfl,rfl⟩
theorem rmay(c:Ck)(n:Int)(w:World):Calls Tryz.prog 105 #[agC c, .int .i64 n] w fun e w'=>e = .returned (.bool (mayV c n))∧w.alloc (bx c)=w':=by
 obtain⟨f,l,m,t,is,tm,sp,wt,si,tr,rn⟩:=c
 by_cases h1:n<0
 ·rw [show mayV ⟨f,l,m,t,is,tm,sp,wt,si,tr,rn⟩ n=false from by unfold mayV;simp;omega]
  go_enter Tryz.func105,Tryz.ntmps105
  go_wp2
  go_ret
  exact⟨rfl,rfl⟩
 by_cases h2:2147483647<n
 ·rw [show mayV ⟨f,l,m,t,is,tm,sp,wt,si,tr,rn⟩ n=false from by unfold mayV;simp;omega]
  go_enter Tryz.func105,Tryz.ntmps105
  go_wp2
  go_ret
  exact⟨rfl,rfl⟩
 cases rn
 ·rw [show mayV ⟨f,l,m,t,is,tm,sp,wt,si,tr,false⟩ n=true from by unfold mayV;simp;omega]
  go_enter Tryz.func105,Tryz.ntmps105
  go_wp2
  go_ret
  exact⟨rfl,rfl⟩
 ·by_cases h4:n<si
  ·rw [show mayV ⟨f,l,m,t,is,tm,sp,wt,si,tr,true⟩ n=false from by unfold mayV;simp;omega]
   go_enter Tryz.func105,Tryz.ntmps105
   go_wp2
   go_ret
   exact⟨retb_eq (by simp;omega),rfl⟩
  ·rw [show mayV ⟨f,l,m,t,is,tm,sp,wt,si,tr,true⟩ n=true from by unfold mayV;simp;omega]
   go_enter Tryz.func105,Tryz.ntmps105
   go_wp2
   go_ret
   exact⟨rfl,rfl⟩
theorem rstop(c:Ck)(w:World)(hi:Inv c):Calls Tryz.prog 69 #[agC c] w fun e w'=>e = .returned (agC (stopV c))∧Fr [] w w':=by
 have hk:=fun W=>rknows c W hi
 unfold stopV
 revert hk
 generalize knowsV c=K
 intro hk
 obtain⟨f,l,m,t,is,tm,sp,wt,si,tr,rn⟩:=c
 dsimp only at *
 have Hk:Hid _:=hk
 clear hk
 go_enter Tryz.func69,Tryz.ntmps69
 go_wp2_with (first|(go_at_call 106;refine (Hk.out _).mono ?_;rintro e w' ⟨rfl,rfl⟩))
 go_returns
 exact⟨rfl,by repeat (first|(with_reducible exact Fr.refl _ _)|(with_reducible refine Fr.drew ?_)|(with_reducible refine Fr.alloc ?_ _)|(with_reducible refine Fr.setCell ?_ (Or.inr (by simp)) _))⟩
theorem rstart(c:Ck)(n:Int)(w:World):Calls Tryz.prog 68 #[agC c, .int .i64 n] w fun e w'=>e = .returned (.tuple #[agC (startV c n).1, .int .i64 (startV c n).2])∧Fr [] w w':=by
 have hm:=fun W=>rmay c n W
 unfold startV
 revert hm
 generalize mayV c n=B
 intro hm
 obtain⟨f,l,m,t,is,tm,sp,wt,si,tr,rn⟩:=c
 dsimp only at *
 have Hm:Hid _:=hm
 clear hm
 cases B
 ·rw [if_neg (by simp)]
  go_enter Tryz.func68,Tryz.ntmps68
  go_wp2_with (first|(go_at_call 105;refine (Hm.out _).mono ?_;rintro e w' ⟨rfl,rfl⟩))
  go_returns
  exact⟨rfl,by repeat (first|(with_reducible exact Fr.refl _ _)|(with_reducible refine Fr.drew ?_)|(with_reducible refine Fr.alloc ?_ _)|(with_reducible refine Fr.setCell ?_ (Or.inr (by simp)) _))⟩
 ·rw [if_pos rfl]
  go_enter Tryz.func68,Tryz.ntmps68
  go_wp2_with (first|(go_at_call 105;refine (Hm.out _).mono ?_;rintro e w' ⟨rfl,rfl⟩))
  go_returns
  exact⟨rfl,by repeat (first|(with_reducible exact Fr.refl _ _)|(with_reducible refine Fr.drew ?_)|(with_reducible refine Fr.alloc ?_ _)|(with_reducible refine Fr.setCell ?_ (Or.inr (by simp)) _))⟩
theorem rsample_no(c:Ck)(n:Int)(w:World)(h:n<0∨65536<n):Calls Tryz.prog 135 #[agC c, .int .i64 n] w fun e w'=>e = .returned (.tuple #[agC c, .int .i64 2])∧Fr [] w w':=by
 obtain⟨f,l,m,t,is,tm,sp,wt,si,tr,rn⟩:=c
 by_cases h1:n<0
 ·go_enter Tryz.func135,Tryz.ntmps135
  go_wp2
  go_returns
  exact⟨rfl,by repeat (first|(with_reducible exact Fr.refl _ _)|(with_reducible refine Fr.drew ?_)|(with_reducible refine Fr.alloc ?_ _)|(with_reducible refine Fr.setCell ?_ (Or.inr (by simp)) _))⟩
 ·have h2:65536<n:=by omega
  clear h
  go_enter Tryz.func135,Tryz.ntmps135
  go_wp2
  go_returns
  exact⟨rfl,by repeat (first|(with_reducible exact Fr.refl _ _)|(with_reducible refine Fr.drew ?_)|(with_reducible refine Fr.alloc ?_ _)|(with_reducible refine Fr.setCell ?_ (Or.inr (by simp)) _))⟩
set_option maxHeartbeats 1000000 in
theorem rsample_yes(c:Ck)(n:Int)(w:World)(hi:Inv c)(h0:0≤n)(h1:n≤65536):Calls Tryz.prog 135 #[agC c, .int .i64 n] w fun e w'=>e = .returned (.tuple #[agC { learnV c n with wt:=knowsV (learnV c n) }, .int .i64 0])∧Fr [] w w':=by
 have hk:=fun W=>rknows (learnV c n) W (learn_inv hi h0 h1)
 obtain⟨l1,lf,fm,m1,t1,t2,tm0,tm1,sp0,sp1,w1,w2,s0,s1,r0,r1⟩:=hi
 revert hk
 generalize knowsV (learnV c n)=K
 intro hk
 obtain⟨f,l,m,t,is,tm,sp,wt,si,tr,rn⟩:=c
 unfold learnV at *
 dsimp only at *
 cases is
 ·rw [if_neg (by simp)] at *
  dsimp only at *
  have Hk:Hid _:=hk
  clear hk
  go_enter Tryz.func135,Tryz.ntmps135
  go_wp2_with (first|(go_at_call 106;refine (Hk.out _).mono ?_;rintro e w' ⟨rfl,rfl⟩))
  go_returns
  exact⟨rfl,by repeat (first|(with_reducible exact Fr.refl _ _)|(with_reducible refine Fr.drew ?_)|(with_reducible refine Fr.alloc ?_ _)|(with_reducible refine Fr.setCell ?_ (Or.inr (by simp)) _))⟩
 ·rw [if_pos rfl] at *
  dsimp only at *
  by_cases h2:n - tm / 8<0
  ·rw [show sp+(max (n - tm / 8) (-(n - tm / 8)) - sp / 4)=sp+-(n - tm / 8) - sp / 4 from by omega] at *
   have Hk:Hid _:=hk
   clear hk
   go_enter Tryz.func135,Tryz.ntmps135
   go_wp2_with (first|(go_at_call 106;refine (Hk.out _).mono ?_;rintro e w' ⟨rfl,rfl⟩))
   go_returns
   exact⟨rfl,by repeat (first|(with_reducible exact Fr.refl _ _)|(with_reducible refine Fr.drew ?_)|(with_reducible refine Fr.alloc ?_ _)|(with_reducible refine Fr.setCell ?_ (Or.inr (by simp)) _))⟩
  ·rw [show sp+(max (n - tm / 8) (-(n - tm / 8)) - sp / 4)=sp+(n - tm / 8) - sp / 4 from by omega] at *
   have Hk:Hid _:=hk
   clear hk
   go_enter Tryz.func135,Tryz.ntmps135
   go_wp2_with (first|(go_at_call 106;refine (Hk.out _).mono ?_;rintro e w' ⟨rfl,rfl⟩))
   go_returns
   exact⟨rfl,by repeat (first|(with_reducible exact Fr.refl _ _)|(with_reducible refine Fr.drew ?_)|(with_reducible refine Fr.alloc ?_ _)|(with_reducible refine Fr.setCell ?_ (Or.inr (by simp)) _))⟩
theorem rsample(c:Ck)(n:Int)(w:World)(hi:Inv c):Calls Tryz.prog 135 #[agC c, .int .i64 n] w fun e w'=>e = .returned (.tuple #[agC (sampleV c n).1, .int .i64 (sampleV c n).2])∧Fr [] w w':=by
 unfold sampleV
 by_cases h:n<0∨65536<n
 ·rw [if_pos h]
  exact rsample_no c n w h
 ·rw [if_neg h]
  exact rsample_yes c n w hi (by omega) (by omega)
abbrev agR(f l m t:Int):Value := .agg #[.int .i64 f, .int .i64 l, .int .i64 m, .int .i64 t]
def rightV(f l m t:Int):Bool:=decide (1≤l∧l≤f∧f≤m∧m≤65536∧1≤t∧t≤100)
theorem rnew(f l m t:Int)(w:World):Calls Tryz.prog 24 #[agR f l m t] w fun e w'=>e = .returned (agC (newV f l m t))∧Fr [] w w':=by
 unfold newV
 go_enter Tryz.func24,Tryz.ntmps24
 go_wp2
 go_returns
 exact⟨rfl,by repeat (first|(with_reducible exact Fr.refl _ _)|(with_reducible refine Fr.drew ?_)|(with_reducible refine Fr.alloc ?_ _)|(with_reducible refine Fr.setCell ?_ (Or.inr (by simp)) _))⟩
end Go.Proofs.YtmgdbbbdhkfdmaaGreat.Rto
namespace Go.Proofs.YtmgdbbbdhkfdmaaGreat.Sne
set_option maxRecDepth 100000
open Go.RowKit
theorem ref_no(seq tu:Int)(w:World)(h:tu<0∨4611686018427387904<tu) :
  Calls Tryz.prog 134 #[.int .u32 seq, .int .i64 tu] w fun e w'=>e = .returned (.tuple #[.int .i64 (nearV seq tu).1, .int .i64 (nearV seq tu).2])∧w=w':=by
 have e:nearV seq tu=(0,2):=by unfold nearV;rw [if_pos h]
 rw [e]
 rcases h with h|h
 ·go_enter Tryz.func134,Tryz.ntmps134
  go_wp2
  go_ret2
  exact⟨rfl,rfl⟩
 ·have h':¬ tu<0:=by omega
  go_enter Tryz.func134,Tryz.ntmps134
  go_wp2
  go_ret2
  exact⟨rfl,rfl⟩
set_option maxHeartbeats 4000000 in
theorem ref_yes(seq tu:Int)(w:World)(h0:0≤seq)(h1:seq<4294967296)(h2:0≤tu)(h3:tu≤4611686018427387904) :
  Calls Tryz.prog 134 #[.int .u32 seq, .int .i64 tu] w fun e w'=>e = .returned (.tuple #[.int .i64 (nearV seq tu).1, .int .i64 (nearV seq tu).2])∧w=w':=by
 go_enter Tryz.func134,Tryz.ntmps134
 go_wp2
 go_rounds 4
 all_goals go_ret2
 all_goals refine⟨ret2_eq ?_ ?_,rfl⟩
 all_goals (unfold nearV;dsimp only;(repeat' split) <;> (try dsimp only) <;> omega)
end Go.Proofs.YtmgdbbbdhkfdmaaGreat.Sne
namespace Go.Proofs.YtmgdbbbdhkfdmaaGreat
set_option maxRecDepth 100000
open Go.RowKit Go.Deep
abbrev arE(x:St)(av uv kv:Value):Array Value:=#[.int .u32 x.isn, .int .u32 x.peer, .int .i64 x.at_, .bool x.broken,av,uv,
 .int .i64 x.win.a, .int .i64 x.win.s, .int .i64 x.win.m, .int .i64 x.win.l,
 .int .i64 x.clk.f, .int .i64 x.clk.l, .int .i64 x.clk.m, .int .i64 x.clk.t, .bool x.clk.is, .int .i64 x.clk.tm, .int .i64 x.clk.sp, .int .i64 x.clk.wt, .int .i64 x.clk.si, .int .i64 x.clk.tr, .bool x.clk.rn,
 .int .i64 x.heap.most, .int .i64 x.heap.next,kv, .int .i64 (finI x.heap.fin), .bool x.closing, .bool x.fin, .bool x.acked, .bool x.ended, .int .i64 x.now, .int .i64 x.since, .int .i64 x.timed, .int .i64 x.shown]
abbrev agE(x:St)(av uv kv:Value):Value := .agg (arE x av uv kv)
structure RE(S:Nat→Prop)(w:World)(x:St)(av uv kv:Value):Prop where
 ba:Byt S w av x.all
 bu:Byt S w uv x.unread
 hp:∃ L,RPx S w kv x.heap L
section
variable {S S':Nat→Prop} {w w':World} {x:St} {av uv kv:Value} {O:List Nat}
theorem RE.pub(m:RE S w x av uv kv):∀ b,S b→b<w.heap.size:=by obtain⟨L,h⟩:=m.hp;exact h.pub
theorem RE.ext(m:RE S w x av uv kv)(f:Fr O w w')(hO:∀ y∈O,¬ S y)(hS:∀ b,S b→S' b)(hp:∀ b,S' b→b<w'.heap.size):RE S' w' x av uv kv:=by
 obtain⟨L,h⟩:=m.hp
 exact⟨(m.ba.fr f hO).mono hS,(m.bu.fr f hO).mono hS,L,h.ext f hO hS hp⟩
theorem RE.fr(m:RE S w x av uv kv)(f:Fr [] w w'):RE S w' x av uv kv:=m.ext f (by simp) (fun _ h=>h) (fun b hb=>Nat.lt_of_lt_of_le (m.pub b hb) f.size)
theorem RE.to_{y:St}(m:RE S w x av uv kv)(h1:y.all=x.all)(h2:y.unread=x.unread)(h3:y.heap=x.heap):RE S w y av uv kv:=⟨h1▸m.ba,h2▸m.bu,h3▸m.hp⟩
end
theorem eone_any(b:Bool)(w:World):Calls Tryz.prog 82 #[.bool b] w fun e w'=>e = .returned (.int .i64 (one b))∧w=w':=by
 cases b
 all_goals
  go_enter Tryz.func82,Tryz.ntmps82
  go_wp2
  go_ret
  exact⟨rfl,rfl⟩
theorem eadd_any(n m:Int)(w:World)(h0:0≤n)(h1:n<4294967296)(h2:0≤m)(h3:m≤9000000000000000000):Calls Tryz.prog 103 #[.int .u32 n, .int .i64 m] w fun e w'=>e = .returned (.int .u32 (add32 n m))∧w=w':=by
 have q1:IntKind.i64.wrap n=n:=IntWalk.i64_in _ (by omega)
 have q2:IntKind.i64.wrap (n+m)=n+m:=IntWalk.i64_in _ (by omega)
 have q3:(n+m).tmod 4294967296=add32 n m:=by unfold add32;rw [Int.tmod_eq_emod_of_nonneg (by omega)]
 have q4:IntKind.u32.wrap (add32 n m)=add32 n m:=by rw [wrap32];unfold add32;omega
 have q5:add32 n m % 4294967296=add32 n m:=by unfold add32;omega
 have q6:IntKind.i64.wrap (add32 n m)=add32 n m:=IntWalk.i64_in _ (by unfold add32;omega)
 clear h0 h1 h2 h3
 generalize add32 n m=r at *
 go_enter Tryz.func103,Tryz.ntmps103
 go_wp2
 go_ret
 exact⟨rfl,rfl⟩
abbrev agP(p:Prt)(dv:Value):Value := .agg #[.int .i64 p.flags, .int .u32 p.seq, .int .u32 p.ack, .int .u16 p.win,dv]
def PartPost(S:Nat→Prop)(w:World)(H:Hd)(x':St)(p:Prt)(e:Ending)(w':World):Prop:=
 ∃ S' A c,e = .returned (agP p (.slice A p.d.length c))∧Ext w S S'∧Byt S' w' (.slice A p.d.length c) p.d∧SI S' w' H x'∧Fr [H.g] w w'
theorem room_bd(x:St):0≤roomV x∧roomV x≤1024:=by
 unfold roomV Win.offerV
 split
 ·simp
 ·split <;> simp <;> omega
theorem SI.shown{S:Nat→Prop}{w w':World}{H:Hd}{x:St}(m:SI S w H x):SI S (w.setCell ⟨H.g,24,none⟩ (.int .i64 (roomV x))) H (shows x):=
 m.set ((Fr.refl [H.g] w).setCell (p:=⟨H.g,24,none⟩) (.inl (by simp)) _) (by simpa [shows] using m.blk.set_ 24 (.int .i64 (roomV x))) rfl rfl rfl rfl rfl
theorem SI.pubd{S:Nat→Prop}{w w':World}{H:Hd}{x:St}{A:Option Addr}{c:Nat}{d:List Int}(m:SI S w H x)(f:Fr [] w w')(own:w'.ownsRow 0 5 1 (.slice A d.length c) d.length (byts d))(fb:∀ b,(Value.slice A d.length c).ownBlock=some b→w.heap.size≤b) :
  ∃ S',Ext w S S'∧Byt S' w' (.slice A d.length c) d∧SI S' w' H x:=by
 have e:Ext w S (fun b=>S b∨(Value.slice A d.length c).ownBlock=some b):=⟨fun b h => .inl h,fun b h=>h.imp id (fb b)⟩
 refine⟨_,e,Sl.of_own own (fun b h => .inr h),m.ext f e fun b hb=>?_⟩
 rcases hb with h|h
 ·exact Nat.lt_of_lt_of_le (HP.pub' m.hp b h) f.size
 ·exact own_lt own h
theorem set5{w:World}{b:Nat}{t:TypeId}{v0 v1 v2 v3 v4:Value}(B:Blk w b t #[v0,v1,v2,v3,v4])(u0 u1 u2 u3 u4:Value):Blk (((((w.setCell ⟨b,0,none⟩ u0).setCell ⟨b,1,none⟩ u1).setCell ⟨b,2,none⟩ u2).setCell ⟨b,3,none⟩ u3).setCell ⟨b,4,none⟩ u4) b t #[u0,u1,u2,u3,u4]:=by
 simpa using ((((B.set_ 0 u0).set_ 1 u1).set_ 2 u2).set_ 3 u3).set_ 4 u4
theorem fr5{O:List Nat}{a w:World}{b:Nat}(h:Fr O a w)(hp:b∈O∨a.heap.size≤b)(u0 u1 u2 u3 u4:Value):Fr O a (((((w.setCell ⟨b,0,none⟩ u0).setCell ⟨b,1,none⟩ u1).setCell ⟨b,2,none⟩ u2).setCell ⟨b,3,none⟩ u3).setCell ⟨b,4,none⟩ u4):=
 ((((h.setCell hp _).setCell hp _).setCell hp _).setCell hp _).setCell hp _
theorem cells5{w:World}{b:Nat}{t:TypeId}{v0 v1 v2 v3 v4:Value}(h:Blk w b t #[v0,v1,v2,v3,v4]):w.cell? ⟨b,0,none⟩=some v0∧w.cell? ⟨b,1,none⟩=some v1∧w.cell? ⟨b,2,none⟩=some v2∧w.cell? ⟨b,3,none⟩=some v3∧w.cell? ⟨b,4,none⟩=some v4:=
 ⟨by simpa using h.cell 0,by simpa using h.cell 1,by simpa using h.cell 2,by simpa using h.cell 3,by simpa using h.cell 4⟩
theorem free5{w:World}{b:Nat}{t:TypeId}{cs:Array Value}(h:Blk w b t cs):w.frozen? ⟨b,0,none⟩=false∧w.frozen? ⟨b,1,none⟩=false∧w.frozen? ⟨b,2,none⟩=false∧w.frozen? ⟨b,3,none⟩=false∧w.frozen? ⟨b,4,none⟩=false:=⟨h.frozen 0,h.frozen 1,h.frozen 2,h.frozen 3,h.frozen 4⟩
abbrev prt0:Array Value:=#[.int .i64 0, .int .u32 0, .int .u32 0, .int .u16 0, .slice none 0 0]
theorem part_end{S:Nat→Prop}{w w2 w5 W:World}{H:Hd}{x:St}{p:Prt}{A:Option Addr}{c:Nat}(m:SI S w H x)(m2:SI S w2 H (shows x))(f2:Fr [H.g] w w2)(f:Fr [] w2 w5)(own:w5.ownsRow 0 5 1 (.slice A p.d.length c) p.d.length (byts p.d))(fb:∀ b,(Value.slice A p.d.length c).ownBlock=some b→w2.heap.size≤b)
  (hr:w.heap.size<w2.heap.size) (f6:Fr [w.heap.size] w5 W):PartPost S w H (shows x) p (.returned (agP p (.slice A p.d.length c))) W:=by
 obtain⟨S',e,by5,m5⟩:=m2.pubd f own fb
 have hz:=f2.size
 have hnS:¬ S' w.heap.size:=fun hs=>by
  rcases e.2 _ hs with h|h
  ·have:=HP.pub' m.hp _ h;omega
  ·omega
 have hO:∀ y∈[w.heap.size],¬ S' y:=fun y hy=>by simp at hy;subst hy;exact hnS
 have hne:∀ y∈H.own,y≠w.heap.size:=fun y hy=>by have:=m.lt y hy;omega
 have hmem:∀ {y},(y=H.g∨y=H.gw∨y=H.gc∨y=H.gh∨y∈ob H.kv∨y∈ob H.bv∨y∈ob H.uv)→y∉[w.heap.size]:=fun {y} hy=>by
  simp
  exact hne y (by simp only [Hd.own,List.mem_cons,List.mem_append];rcases hy with h|h|h|h|h|h|h <;> simp [h])
 refine⟨S',A,c,rfl,ext_up e hz,by5.fr f6 hO,⟨m5.blk.fr f6 (hmem (by simp)),Blk.fr m5.win f6 (hmem (by simp)),Blk.fr m5.clk f6 (hmem (by simp)),m5.hp.ext' f6 (Ext.refl w5 S') hO (fun y hy=>hmem (by rcases List.mem_cons.1 hy with h|h <;> simp [h])) (fun b hb=>Nat.lt_of_lt_of_le (HP.pub' m5.hp b hb) f6.size),
  own_fr m5.buf f6 (fun b hb=>hmem (by simp [mem_ob.2 hb])),own_fr m5.unr f6 (fun b hb=>hmem (by simp [mem_ob.2 hb])),m5.nS,m5.bu⟩,(f2.trans (f.mono (by simp)) (fun y hy => .inl hy)).trans f6 (fun y hy => .inr (by simp at hy;omega))⟩
theorem keep2{O:List Nat}{w w':World}{p q:Addr}{u v:Value}(F:Fr O w w')(a0:w.cell? p=some u)(a1:w.cell? q=some v)(h0:p.block∉O)(h1:q.block∉O):w'.cell? p=some u∧w'.cell? q=some v:=
 ⟨(F.cell (World.block_lt_of_cell? w _ a0) h0).trans a0,(F.cell (World.block_lt_of_cell? w _ a1) h1).trans a1⟩
set_option maxHeartbeats 4000000 in
theorem part_si{S:Nat→Prop}{w:World}{H:Hd}{x:St}(m:SI S w H x)(hi:Inv x.heap)(hu:x.unread.length≤100000)(f a:Int)(hf:f=0∨f=4∨f=8)(h0:0≤a)(h1:a≤4611686018427387904)(dv:Value)(d:List Int)(T:Nat→Prop)(hd:Byt T w dv d)(hT:∀ b,T b→b≠H.g)(hl:d.length≤1000000) :
  Calls Tryz.prog 79 #[ptr H.g, .int .i64 f, .int .i64 a,dv] w (PartPost S w H (shows x) (partV x (2+f) a d)):=by
 obtain⟨dA,dc,rfl,_,_⟩:=hd.form
 have hgl:=m.blk.lt
 have f0:Fr [] w (w.alloc (.cells prt0 49)):=(Fr.refl [] w).alloc _
 have b0:Blk (w.alloc (.cells prt0 49)) w.heap.size 49 prt0:=Blk.new w _ _
 have m0:=m.fr f0
 have hroom:=room_si m0 hi hu
 have M:=Lib.hid m
 have M0:=Lib.hid m0
 have HD:=Lib.hid hd
 have B0:=Lib.hid b0
 have HI:=Lib.hid hi
 have HR:=Lib.hid hroom
 have ha:IntKind.i64.wrap (1+a)=1+a:=IntWalk.i64_in _ (by omega)
 have hrb:=room_bd x
 clear m m0 hd b0 hi hroom
 go_enter Tryz.func79,Tryz.ntmps79
 go_wp2_with fail
 refine HR.out.mono ?_
 rintro e w1 ⟨rfl,f1⟩
 have m1:=M0.out.fr f1
 have M1:=Lib.hid m1
 have c1:=scells m1.blk
 have z24:w1.frozen? ⟨H.g,24,none⟩=false:=m1.blk.frozen 24
 have hg1:=m1.blk.lt
 have y24:=c1.c24
 have B1:=Lib.hid (B0.out.fr f1 (by simp))
 have hs1:w.heap.size<w1.heap.size:=by have:=f1.size;simp at this;omega
 have F1:=Lib.hid (f0.trans f1 (by simp))
 clear m1 f1 f0 c1
 go_upto_region 2 with fail
 have m2:=M1.out.shown (w':=w1)
 have f2:Fr [H.g] w1 (w1.setCell ⟨H.g,24,none⟩ (.int .i64 (roomV x))):=(Fr.refl [H.g] w1).setCell (p:=⟨H.g,24,none⟩) (.inl (by simp)) _
 have b2:=B1.out.fr f2 (by simp;omega)
 have hs2:w.heap.size<(w1.setCell ⟨H.g,24,none⟩ (.int .i64 (roomV x))).heap.size:=Nat.lt_of_lt_of_le hs1 f2.size
 have F2:Fr [H.g] w (w1.setCell ⟨H.g,24,none⟩ (.int .i64 (roomV x))):=(F1.out.mono (by simp)).trans f2 (fun y hy => .inl hy)
 generalize w1.setCell ⟨H.g,24,none⟩ (.int .i64 (roomV x))=w2 at *
 have c2:=scells m2.blk
 have c13:=c2.c13
 have c24:=c2.c24
 have HD2:=Lib.hid (HD.out.fr F2 (fun y hy hs=>by simp at hy;subst hy;exact hT _ hs rfl))
 have hrs:(shows x).shown=roomV x:=rfl
 have his:(shows x).isn=x.isn:=rfl
 rw [his] at c13
 rw [hrs] at c24
 have M2:=Lib.hid m2
 have B2:=Lib.hid b2
 have FF2:=Lib.hid F2
 have HAw:Hid (∀ W,Fr [] w2 W→Calls Tryz.prog 64 #[ptr H.g] W fun e w'=>e = .returned (.int .u32 (awaitedV x))∧Fr [] W w'):=Lib.hid (fun W fW=>by have h:=awaited_si (x:=shows x) (M2.out.fr fW) HI.out;exact h)
 have HCl:Hid (∀ W,Fr [] w2 W→Calls Tryz.prog 40 #[.slice dA d.length dc] W _):=Lib.hid (fun W fW=>cloneB_any W (HD2.out.fr fW (by simp)) hl)
 have hw1:=wrap_add32 x.isn (1+a)
 have hw2:IntKind.u16.wrap (roomV x)=roomV x:=by rw [wrap16];omega
 have hb0:bits BinOp.or IntKind.i64 2 0=2:=by decide
 have hb4:bits BinOp.or IntKind.i64 2 4=6:=by decide
 have hb8:bits BinOp.or IntKind.i64 2 8=10:=by decide
 clear m2 c2 b2 F2 f2 z24 y24 M0 M1 HR B0 B1 hs1 F1 hg1 hrb hrs his HD hT
 have SEE:Hid (∀ W,Fr [] w2 W→W.cell? ⟨H.g,13,none⟩=some (.int .u32 x.isn)∧W.cell? ⟨H.g,24,none⟩=some (.int .i64 (roomV x))):=Lib.hid (fun W fW=>⟨fr_cell fW c13,fr_cell fW c24⟩)
 generalize hrvx:roomV x=rv at *
 generalize hawx:awaitedV x=aw at *
 have n1:H.g≠w.heap.size:=by omega
 have NR:Hid (H.g∉[w.heap.size]):=Lib.hid (by simpa using n1)
 obtain⟨z0,z1,z2,z3,z4⟩:=free5 B2.out
 obtain⟨y0,y1,y2,y3,y4⟩:=cells5 B2.out
 go_cut [] (fun wx=>∃(w5:World) (A:Option Addr) (c:Nat),Fr [] w2 w5∧w5.ownsRow 0 5 1 (.slice A d.length c) d.length (byts d)∧(∀ b,(Value.slice A d.length c).ownBlock=some b→w2.heap.size≤b)∧Fr [w.heap.size] w5 wx∧Blk wx w.heap.size 49 #[.int .i64 (2+f), .int .u32 (add32 x.isn (1+a)), .int .u32 aw, .int .u16 rv, .slice A d.length c])
 case first=>
  rcases hf with rfl|rfl|rfl
  all_goals
   go_region_held3 (fun w'=>w'.cell? ⟨H.g,13,none⟩=some (.int .u32 x.isn)∧w'.cell? ⟨H.g,24,none⟩=some (.int .i64 rv))
    (first
     | (with_reducible exact keep2 (fr5 (b:=w.heap.size) (Fr.refl [w.heap.size] w5) (Or.inl (by simp)) _ _ _ _ _) s0 s1 NR.out NR.out)
     | (with_reducible exact SEE.out _ f5)
     | (with_reducible exact SEE.out _ f4)
     | (with_reducible exact SEE.out _ f3)
     | (with_reducible exact SEE.out _ (Fr.refl [] w2).drew)
     | go_keep)
    (first
     | (go_at_call 64;refine (HAw.out _ (Fr.refl [] w2).drew).mono ?_;rintro e w3 ⟨rfl,f3'⟩;have f3:Fr [] w2 w3:=(Fr.refl [] w2).drew.trans f3' (by simp);clear f3')
     | (go_at_call 40;refine (HCl.out _ f3).mono ?_;rintro e w5 ⟨A5,c5,rfl,own5,f5',fb5⟩;have f5:Fr [] w2 w5:=f3.trans f5' (by simp);have fb:∀ b,(Value.slice A5 d.length c5).ownBlock=some b→w2.heap.size≤b:=fun b hb=>Nat.le_trans f3.size (fb5 b hb);have b5:=B2.out.fr f5 (by simp);obtain⟨p0,p1,p2,p3,p4⟩:=cells5 b5;obtain⟨q0,q1,q2,q3,q4⟩:=free5 b5;obtain⟨s0,s1⟩:=SEE.out _ f5;have O5:=Lib.hid own5;have FB:=Lib.hid fb;have B5:=Lib.hid b5;clear own5 f5' fb5 fb b5)
     | (go_at_call 40;refine (HCl.out _ (Fr.refl [] w2).drew).mono ?_;rintro e w4 ⟨A5,c5,rfl,own4,f4',fb4⟩;have f4:Fr [] w2 w4:=(Fr.refl [] w2).drew.trans f4' (by simp);have O4:=Lib.hid own4;have FB4:=Lib.hid fb4;clear f4' own4 fb4)
     | (go_at_call 64;refine (HAw.out _ f4).mono ?_;rintro e w5 ⟨rfl,f5'⟩;have f5:Fr [] w2 w5:=f4.trans f5' (by simp);have own5:=own_fr O4.out f5' (by simp);have b5:=B2.out.fr f5 (by simp);obtain⟨p0,p1,p2,p3,p4⟩:=cells5 b5;obtain⟨q0,q1,q2,q3,q4⟩:=free5 b5;obtain⟨s0,s1⟩:=SEE.out _ f5;have O5:=Lib.hid own5;have FB:Hid (∀ b,(Value.slice A5 d.length c5).ownBlock=some b→w2.heap.size≤b):=FB4;have B5:=Lib.hid b5;clear own5 f5' b5))
   all_goals
    go_wp2_with fail
    go_meet
    exact⟨w5,A5,c5,f5,O5.out,FB.out,fr5 (b:=w.heap.size) (Fr.refl [w.heap.size] w5) (Or.inl (by simp)) _ _ _ _ _,set5 B5.out _ _ _ _ _⟩
 case rest=>
  obtain⟨w5,A5,c5,f5,own5,fb5,f6,B6⟩:=hcut
  have hpost:=part_end (p:=partV x (2+f) a d) M.out M2.out FF2.out f5 own5 fb5 hs2 f6
  obtain⟨r0,r1,r2,r3,r4⟩:=cells5 B6
  have HPost:=Lib.hid hpost
  have HV:Hid (agP (partV x (2+f) a d) (.slice A5 d.length c5) = .agg #[.int .i64 (2+f), .int .u32 (add32 x.isn (1+a)), .int .u32 aw, .int .u16 rv, .slice A5 d.length c5]):=Lib.hid (by unfold partV;rw [hawx,hrvx])
  clear f5 own5 fb5 f6 hpost y0 y1 y2 y3 y4 z0 z1 z2 z3 z4
  go_wp2_with fail
  refine bodyPost_ret (v := .agg #[.int .i64 (2+f), .int .u32 (add32 x.isn (1+a)), .int .u32 aw, .int .u16 rv, .slice A5 d.length c5]) (by simp [results,Tryz.results79,go_sem,r0,r1,r2,r3,r4]) rfl ?_
  rw [← HV.out]
  exact HPost.out
@[go_sem] theorem field_win0 (a b c d:Int) (W:World):(Instr.field 32 (.agg #[.int .i64 a, .int .i64 b, .int .i64 c, .int .i64 d]) 0).run Tryz.prog W = .ok (.int .i64 a) W:=by
 unfold Instr.field
 go_simp
 rfl
@[go_sem] theorem field_win1 (a b c d:Int) (W:World):(Instr.field 32 (.agg #[.int .i64 a, .int .i64 b, .int .i64 c, .int .i64 d]) 1).run Tryz.prog W = .ok (.int .i64 b) W:=by
 unfold Instr.field
 go_simp
 rfl
@[go_sem] theorem field_win2 (a b c d:Int) (W:World):(Instr.field 32 (.agg #[.int .i64 a, .int .i64 b, .int .i64 c, .int .i64 d]) 2).run Tryz.prog W = .ok (.int .i64 c) W:=by
 unfold Instr.field
 go_simp
 rfl
@[go_sem] theorem field_win3 (a b c d:Int) (W:World):(Instr.field 32 (.agg #[.int .i64 a, .int .i64 b, .int .i64 c, .int .i64 d]) 3).run Tryz.prog W = .ok (.int .i64 d) W:=by
 unfold Instr.field
 go_simp
 rfl
theorem SI.far{S:Nat→Prop}{w w':World}{H:Hd}{x:St}{r:Nat}(m:SI S w H x)(f:Fr [r] w w')(hS:¬ S r)(hn:∀ y∈H.own,y≠r):SI S w' H x:=by
 have hO:∀ y∈[r],¬ S y:=fun y hy=>by simp at hy;subst hy;exact hS
 have hmem:∀ {y},(y=H.g∨y=H.gw∨y=H.gc∨y=H.gh∨y∈ob H.kv∨y∈ob H.bv∨y∈ob H.uv)→y∉[r]:=fun {y} hy=>by
  simp
  exact hn y (by simp only [Hd.own,List.mem_cons,List.mem_append];rcases hy with h|h|h|h|h|h|h <;> simp [h])
 exact⟨m.blk.fr f (hmem (by simp)),Blk.fr m.win f (hmem (by simp)),Blk.fr m.clk f (hmem (by simp)),m.hp.ext' f (Ext.refl w S) hO (fun y hy=>hmem (by rcases List.mem_cons.1 hy with h|h <;> simp [h])) (fun b hb=>Nat.lt_of_lt_of_le (HP.pub' m.hp b hb) f.size),
  own_fr m.buf f (fun b hb=>hmem (by simp [mem_ob.2 hb])),own_fr m.unr f (fun b hb=>hmem (by simp [mem_ob.2 hb])),m.nS,m.bu⟩
theorem res_end{S:Nat→Prop}{w W0 w5 W:World}{H:Hd}{x x':St}{p:Prt}{v:Value}(m:SI S w H x)(f0:Fr [] w W0)(hr:w.heap.size<W0.heap.size)(h:PartPost S W0 H x' p (.returned v) w5)(f6:Fr [w.heap.size] w5 W):PartPost S w H x' p (.returned v) W:=by
 obtain⟨S',A,c,e,x5,by5,m5,f5⟩:=h
 have hnS:¬ S' w.heap.size:=fun hs=>by
  rcases x5.2 _ hs with h|h
  ·have:=HP.pub' m.hp _ h;omega
  ·omega
 exact⟨S',A,c,e,ext_up x5 f0.size,by5.fr f6 (fun y hy=>by simp at hy;subst hy;exact hnS),m5.far f6 hnS (fun y hy=>by have:=m.lt y hy;omega),((f0.mono (by simp)).trans f5 (fun y hy => .inl hy)).trans f6 (fun y hy => .inr (by simp at hy;omega))⟩
def AnsRel(S:Nat→Prop)(w w0:World)(H:Hd)(x':St)(p:Prt)(wx:World):Prop:=
 ∃(w5:World) (A:Option Addr) (c:Nat),PartPost S w0 H x' p (.returned (agP p (.slice A p.d.length c))) w5∧Fr [w.heap.size] w5 wx∧Blk wx w.heap.size 49 #[.int .i64 p.flags, .int .u32 p.seq, .int .u32 p.ack, .int .u16 p.win, .slice A p.d.length c]
set_option maxHeartbeats 4000000 in
theorem answer_si{S:Nat→Prop}{w:World}{H:Hd}{x:St}(m:SI S w H x)(hi:Inv x.heap)(hu:x.unread.length≤100000)(h0:0≤x.win.m)(h1:x.win.m≤4611686018427387000) :
  Calls Tryz.prog 59 #[ptr H.g] w (PartPost S w H (shows x) (answerV x)):=by
 have hgl:=m.blk.lt
 have ho:=one_bd x.fin
 have f0:Fr [] w (w.alloc (.cells prt0 49)):=(Fr.refl [] w).alloc _
 have b0:Blk (w.alloc (.cells prt0 49)) w.heap.size 49 prt0:=Blk.new w _ _
 have hr:w.heap.size<(w.alloc (.cells prt0 49)).heap.size:=by simp
 have m0:=m.fr f0
 have ha:IntKind.i64.wrap (x.win.m+one x.fin)=x.win.m+one x.fin:=IntWalk.i64_in _ (by omega)
 have hpt:∀ W,Fr [] (w.alloc (.cells prt0 49)) W→Calls Tryz.prog 79 #[ptr H.g, .int .i64 0, .int .i64 (x.win.m+one x.fin), .slice none 0 0] W (PartPost S W H (shows x) (answerV x)):=fun W fW=>part_si (m0.fr fW) hi hu 0 _ (.inl rfl) (by omega) (by omega) _ [] (fun _=>False) Byt.nil (by simp) (by simp)
 go_enter Tryz.func59,Tryz.ntmps59
 go_upto_region 1 with fail
 generalize w.alloc (.cells prt0 49)=w0 at *
 have c:=scells m0.blk
 have c16:=c.c16
 have c19:=c.c19
 have HPt:=Lib.hid hpt
 have HSt:Hid (∀ W,Fr [] w0 W→Calls Tryz.prog 48 #[ptr H.gw] W _):=Lib.hid (fun W fW=>Win.state_win H.gw x.win W (Blk.fr m0.win fW (by simp)))
 have HFl:Hid (∀ W,Calls Tryz.prog 80 #[.bool x.fin] W _):=Lib.hid (fun W=>flag_any x.fin W)
 have SEE:Hid (∀ W,Fr [] w0 W→W.cell? ⟨H.g,16,none⟩=some (ptr H.gw)∧W.cell? ⟨H.g,19,none⟩=some (.bool x.fin)):=Lib.hid (fun W fW=>⟨fr_cell fW c16,fr_cell fW c19⟩)
 have NR:Hid (H.g∉[w.heap.size]):=Lib.hid (by simp;omega)
 have M:=Lib.hid m
 have F0:=Lib.hid f0
 have HRr:=Lib.hid hr
 have B0:=Lib.hid b0
 generalize answerV x=p at *
 obtain⟨z0,z1,z2,z3,z4⟩:=free5 b0
 obtain⟨y0,y1,y2,y3,y4⟩:=cells5 b0
 have n1:H.g≠w.heap.size:=by omega
 clear m m0 f0 hr b0 hpt c
 go_cut [] (fun wx=>AnsRel S w w0 H (shows x) p wx)
 case first=>
  go_region_held3 (fun w'=>w'.cell? ⟨H.g,16,none⟩=some (ptr H.gw)∧w'.cell? ⟨H.g,19,none⟩=some (.bool x.fin))
   (first
    | (with_reducible exact keep2 (fr5 (b:=w.heap.size) (Fr.refl [w.heap.size] w5) (Or.inl (by simp)) _ _ _ _ _) s0 s1 NR.out NR.out)
    | (with_reducible exact⟨s0,s1⟩)
    | (with_reducible exact SEE.out _ f3)
    | (with_reducible exact SEE.out _ (Fr.refl [] w0).drew)
    | go_keep)
   (first
    | (go_at_call 48;refine (HSt.out _ (Fr.refl [] w0).drew).mono ?_;rintro e w3 ⟨rfl,f3'⟩;have f3:Fr [] w0 w3:=(Fr.refl [] w0).drew.trans f3' (by simp);clear f3')
    | (go_at_call 80;refine (HFl.out _).mono ?_;rintro e w4 ⟨rfl,rfl⟩)
    | (go_at_call 79;refine (HPt.out _ f3).mono ?_;rintro e w5 ⟨S5,A5,c5,rfl,x5,by5,m5,f5⟩;have sc:=scells m5.blk;have s0:w5.cell? ⟨H.g,16,none⟩=some (ptr H.gw):=sc.c16;have s1:w5.cell? ⟨H.g,19,none⟩=some (.bool x.fin):=sc.c19;have hb5:=(B0.out.fr f3 (by simp)).fr f5 (by simp;omega);obtain⟨p0,p1,p2,p3,p4⟩:=cells5 hb5;obtain⟨q0,q1,q2,q3,q4⟩:=free5 hb5;have B5:=Lib.hid hb5;have X5:=Lib.hid x5;have Y5:=Lib.hid by5;have M5:=Lib.hid m5;have FF5:=Lib.hid f5;clear sc hb5 x5 by5 m5 f5))
  all_goals
   go_wp2_with fail
   go_meet
   exact⟨w5,A5,c5,⟨S5,A5,c5,rfl,ext_up X5.out f3.size,Y5.out,M5.out,(f3.mono (by simp)).trans FF5.out (fun y hy => .inl hy)⟩,fr5 (b:=w.heap.size) (Fr.refl [w.heap.size] w5) (Or.inl (by simp)) _ _ _ _ _,set5 B5.out _ _ _ _ _⟩
 case rest=>
  obtain⟨w5,A5,c5,hp5,f6,B6⟩:=hcut
  have hpost:=res_end M.out F0.out HRr.out hp5 f6
  obtain⟨r0,r1,r2,r3,r4⟩:=cells5 B6
  have HPost:=Lib.hid hpost
  clear hp5 f6 hpost y0 y1 y2 y3 y4 z0 z1 z2 z3 z4
  go_wp2_with fail
  refine bodyPost_ret (v := .agg #[.int .i64 p.flags, .int .u32 p.seq, .int .u32 p.ack, .int .u16 p.win, .slice A5 p.d.length c5]) (by simp [results,Tryz.results59,go_sem,r0,r1,r2,r3,r4]) rfl ?_
  exact HPost.out
def BegRel(w2:World)(v:Array Value)(s3:Value)(wx:World):Prop:=∃ b3,s3=ptr b3∧w2.heap.size≤b3∧Blk wx b3 49 v∧Fr [] w2 wx
theorem beg_end{S:Nat→Prop}{w w2 W:World}{H:Hd}{x:St}{p:Prt}(m:SI S w H x)(m2:SI S w2 H (shows x))(f2:Fr [H.g] w w2)(f:Fr [w.heap.size] w2 W)(hd:p.d=[]):PartPost S w H (shows x) p (.returned (agP p (.slice none 0 0))) W:=by
 have hnS:¬ S w.heap.size:=fun hs=>by have:=HP.pub' m.hp _ hs;omega
 refine⟨S,none,0,by rw [hd];rfl,Ext.refl w S,by rw [hd];exact Byt.nil,m2.far f hnS (fun y hy=>by have:=m.lt y hy;omega),f2.trans f (fun y hy => .inr (by simp at hy;omega))⟩
set_option maxHeartbeats 4000000 in
theorem begins_si{S:Nat→Prop}{w:World}{H:Hd}{x:St}(m:SI S w H x)(hi:Inv x.heap)(hu:x.unread.length≤100000) :
  Calls Tryz.prog 23 #[ptr H.g] w (PartPost S w H (shows x) (beginsV x)):=by
 have hgl:=m.blk.lt
 have f0:Fr [] w (w.alloc (.cells prt0 49)):=(Fr.refl [] w).alloc _
 have b0:Blk (w.alloc (.cells prt0 49)) w.heap.size 49 prt0:=Blk.new w _ _
 have m0:=m.fr f0
 have hroom:=room_si m0 hi hu
 have M:=Lib.hid m
 have M0:=Lib.hid m0
 have B0:=Lib.hid b0
 have HI:=Lib.hid hi
 have HR:=Lib.hid hroom
 have hrb:=room_bd x
 clear m m0 b0 hi hroom
 go_enter Tryz.func23,Tryz.ntmps23
 go_wp2_with fail
 refine HR.out.mono ?_
 rintro e w1 ⟨rfl,f1⟩
 have m1:=M0.out.fr f1
 have M1:=Lib.hid m1
 have c1:=scells m1.blk
 have z24:w1.frozen? ⟨H.g,24,none⟩=false:=m1.blk.frozen 24
 have hg1:=m1.blk.lt
 have y24:=c1.c24
 have B1:=Lib.hid (B0.out.fr f1 (by simp))
 have hs1:w.heap.size<w1.heap.size:=by have:=f1.size;simp at this;omega
 have F1:=Lib.hid (f0.trans f1 (by simp))
 clear m1 f1 f0 c1
 go_upto_region 2 with fail
 have m2:=M1.out.shown (w':=w1)
 have f2:Fr [H.g] w1 (w1.setCell ⟨H.g,24,none⟩ (.int .i64 (roomV x))):=(Fr.refl [H.g] w1).setCell (p:=⟨H.g,24,none⟩) (.inl (by simp)) _
 have b2:=B1.out.fr f2 (by simp;omega)
 have hs2:w.heap.size<(w1.setCell ⟨H.g,24,none⟩ (.int .i64 (roomV x))).heap.size:=Nat.lt_of_lt_of_le hs1 f2.size
 have F2:Fr [H.g] w (w1.setCell ⟨H.g,24,none⟩ (.int .i64 (roomV x))):=(F1.out.mono (by simp)).trans f2 (fun y hy => .inl hy)
 generalize w1.setCell ⟨H.g,24,none⟩ (.int .i64 (roomV x))=w2 at *
 have c2:=scells m2.blk
 have c0:w2.cell? ⟨H.g,0,none⟩=some (.int .i64 x.at_):=c2.c0
 have c13:w2.cell? ⟨H.g,13,none⟩=some (.int .u32 x.isn):=c2.c13
 have c24:w2.cell? ⟨H.g,24,none⟩=some (.int .i64 (roomV x)):=c2.c24
 have M2:=Lib.hid m2
 have B2:=Lib.hid b2
 have FF2:=Lib.hid F2
 have hw2:IntKind.u16.wrap (roomV x)=roomV x:=by rw [wrap16];omega
 have hmod:roomV x % 65536=roomV x:=by omega
 have HAw:Hid (∀ W,Fr [] w2 W→Calls Tryz.prog 64 #[ptr H.g] W fun e w'=>e = .returned (.int .u32 (awaitedV x))∧Fr [] W w'):=Lib.hid (fun W fW=>by have h:=awaited_si (x:=shows x) (M2.out.fr fW) HI.out;exact h)
 have hpd:(beginsV x).d=[]:=by unfold beginsV;split <;> rfl
 have HPD:=Lib.hid hpd
 have hbv:beginsV x=if x.at_=3 then ⟨3,x.isn,awaitedV x,roomV x,[]⟩ else ⟨1,x.isn,0,roomV x,[]⟩:=rfl
 have HBV:=Lib.hid hbv
 have hg2:=m2.blk.lt
 clear m2 c2 b2 F2 f2 z24 y24 M0 M1 HR B0 B1 hs1 F1 hg1 hrb hpd hbv
 generalize hrv:roomV x=rv at *
 generalize hav:awaitedV x=av at *
 have SEE:Hid (∀ W,Fr [] w2 W→W.cell? ⟨H.g,13,none⟩=some (.int .u32 x.isn)∧W.cell? ⟨H.g,24,none⟩=some (.int .i64 rv)):=Lib.hid (fun W fW=>⟨fr_cell fW c13,fr_cell fW c24⟩)
 go_cut [3] (fun s3 wx=>BegRel w2 #[.int .i64 1, .int .u32 x.isn, .int .u32 0, .int .u16 rv, .slice none 0 0] s3 wx)
 case first=>
  go_region_held3 (fun w'=>w'.cell? ⟨H.g,13,none⟩=some (.int .u32 x.isn)∧w'.cell? ⟨H.g,24,none⟩=some (.int .i64 rv))
   (first
    | (with_reducible exact SEE.out _ (Fr.refl [] w2).drew)
    | (with_reducible exact SEE.out _ ((Fr.refl [] w2).drew.alloc _))
    | go_keep)
   (fail)
  all_goals
   go_wp2_with fail
   go_meet
   exact⟨w2.heap.size,rfl,Nat.le_refl _,by first|exact Blk.new w2 _ _|exact Blk.new w2.drew _ _|exact (Blk.new w2 _ _).drew,by first|exact (Fr.refl [] w2).alloc _|exact (Fr.refl [] w2).drew.alloc _|exact ((Fr.refl [] w2).alloc _).drew⟩
 case rest=>
  obtain⟨b3,rfl,hb3,B3,f3⟩:=hcut
  generalize wc=wx at *
  have d0:=fr_cell f3 c0
  have n3:w.heap.size≠b3:=by omega
  have n3':b3≠w.heap.size:=by omega
  have n4:H.g≠b3:=by omega
  have ng:H.g≠w.heap.size:=by omega
  clear c0 c13 c24 SEE hw2 hmod
  by_cases h3:x.at_=3
  ·go_wp2_with fail
   refine (HAw.out _ f3).mono ?_
   rintro e w4 ⟨rfl,f4⟩
   have f24:Fr [] w2 w4:=f3.trans f4 (by simp)
   have b34:=B3.fr f4 (by simp)
   have br4:=B2.out.fr f24 (by simp)
   obtain⟨y0,y1,y2,y3,y4⟩:=cells5 b34
   obtain⟨z0,z1,z2,z3,z4⟩:=free5 b34
   obtain⟨p0,p1,p2,p3,p4⟩:=cells5 br4
   obtain⟨q0,q1,q2,q3,q4⟩:=free5 br4
   have HB:=Lib.hid br4
   have F24:=Lib.hid f24
   have hb:=HBV.out
   rw [if_pos h3] at hb
   have HB':=Lib.hid hb
   clear f3 f4 f24 b34 br4 B3 d0 hb
   go_wp2_with fail
   have f5:Fr [w.heap.size] w2 ((w4.setCell ⟨b3,0,none⟩ (.int .i64 3)).setCell ⟨b3,2,none⟩ (.int .u32 av)):=(((F24.out.mono (by simp)).setCell (p:=⟨b3,0,none⟩) (.inr hb3) _).setCell (p:=⟨b3,2,none⟩) (.inr hb3) _)
   have b5:=(HB.out.far (p:=⟨b3,0,none⟩) n3 (.int .i64 3)).far (p:=⟨b3,2,none⟩) n3 (.int .u32 av)
   have B6:=set5 b5 (.int .i64 3) (.int .u32 x.isn) (.int .u32 av) (.int .u16 rv) (.slice none 0 0)
   have f6:=fr5 (b:=w.heap.size) f5 (.inl (by simp)) (.int .i64 3) (.int .u32 x.isn) (.int .u32 av) (.int .u16 rv) (.slice none 0 0)
   have hpost:=beg_end (p:=beginsV x) M.out M2.out FF2.out f6 HPD.out
   rw [HB'.out] at hpost
   obtain⟨r0,r1,r2,r3,r4⟩:=cells5 B6
   refine bodyPost_ret (v := .agg #[.int .i64 3, .int .u32 x.isn, .int .u32 av, .int .u16 rv, .slice none 0 0]) (by simp [results,Tryz.results23,go_sem,r0,r1,r2,r3,r4]) rfl ?_
   rw [HB'.out]
   exact hpost
  ·obtain⟨y0,y1,y2,y3,y4⟩:=cells5 B3
   have br4:=B2.out.fr f3 (by simp)
   obtain⟨p0,p1,p2,p3,p4⟩:=cells5 br4
   obtain⟨q0,q1,q2,q3,q4⟩:=free5 br4
   have HB:=Lib.hid br4
   have F24:=Lib.hid f3
   have hb:=HBV.out
   rw [if_neg h3] at hb
   have HB':=Lib.hid hb
   clear f3 br4 B3 hb
   go_wp2_with fail
   have B6:=set5 HB.out (.int .i64 1) (.int .u32 x.isn) (.int .u32 0) (.int .u16 rv) (.slice none 0 0)
   have f6:=fr5 (b:=w.heap.size) (F24.out.mono (O':=[w.heap.size]) (by simp)) (.inl (by simp)) (.int .i64 1) (.int .u32 x.isn) (.int .u32 0) (.int .u16 rv) (.slice none 0 0)
   have hpost:=beg_end (p:=beginsV x) M.out M2.out FF2.out f6 HPD.out
   rw [HB'.out] at hpost
   obtain⟨r0,r1,r2,r3,r4⟩:=cells5 B6
   refine bodyPost_ret (v := .agg #[.int .i64 1, .int .u32 x.isn, .int .u32 0, .int .u16 rv, .slice none 0 0]) (by simp [results,Tryz.results23,go_sem,r0,r1,r2,r3,r4]) rfl ?_
   rw [HB'.out]
   exact hpost
section
variable {S:Nat→Prop} {w w':World} {H:Hd} {x:St}
theorem SI.setc(m:SI S w H x){c:Rto.Ck}(f:Fr [H.gc] w w')(C:Rto.Clk w' H.gc c):SI S w' H { x with clk:=c }:=by
 have hO:∀ y∈[H.gc],¬ S y:=fun y hy=>by simp at hy;subst hy;exact m.nS _ (.inr (.inr (.inl rfl)))
 have nk:∀ y∈H.gh::ob H.kv,y≠H.gc:=by
  obtain⟨ev,L,n⟩:=m.hp
  intro y hy
  rcases List.mem_cons.1 hy with rfl|hy
  ·exact blk_ne n.blk m.clk (by decide)
  ·rintro rfl;exact own_ne n.kp.own m.clk (by decide) (mem_ob.1 hy)
 exact⟨m.blk.fr f (by simpa using fun e=>m.ne_c e.symm),Blk.fr m.win f (by simpa using blk_ne m.win m.clk (by decide)),C,m.hp.ext' f (Ext.refl w S) hO (fun y hy=>by simpa using nk y hy) (fun b hb=>Nat.lt_of_lt_of_le (HP.pub' m.hp b hb) f.size),
  own_fr m.buf f (fun b hb=>by simp;rintro rfl;exact own_ne m.buf m.clk (by decide) hb),own_fr m.unr f (fun b hb=>by simp;rintro rfl;exact own_ne m.unr m.clk (by decide) hb),m.nS,m.bu⟩
theorem SI.setw(m:SI S w H x){v:Win.Wn}(f:Fr [H.gw] w w')(C:Win.Win w' H.gw v true)(ha:v.a=x.win.a):SI S w' H { x with win:=v }:=by
 have hO:∀ y∈[H.gw],¬ S y:=fun y hy=>by simp at hy;subst hy;exact m.nS _ (.inr (.inl rfl))
 have nk:∀ y∈H.gh::ob H.kv,y≠H.gw:=by
  obtain⟨ev,L,n⟩:=m.hp
  intro y hy
  rcases List.mem_cons.1 hy with rfl|hy
  ·exact blk_ne n.blk m.win (by decide)
  ·rintro rfl;exact own_ne n.kp.own m.win (by decide) (mem_ob.1 hy)
 have hb:bufV { x with win:=v }=bufV x:=by unfold bufV;rw [ha]
 exact⟨m.blk.fr f (by simpa using fun e=>m.ne_w e.symm),C,Blk.fr m.clk f (by simpa using blk_ne m.clk m.win (by decide)),m.hp.ext' f (Ext.refl w S) hO (fun y hy=>by simpa using nk y hy) (fun b hb=>Nat.lt_of_lt_of_le (HP.pub' m.hp b hb) f.size),
  by rw [hb];exact own_fr m.buf f (fun b hb=>by simp;rintro rfl;exact own_ne m.buf m.win (by decide) hb),own_fr m.unr f (fun b hb=>by simp;rintro rfl;exact own_ne m.unr m.win (by decide) hb),m.nS,m.bu⟩
end
set_option maxHeartbeats 4000000 in
theorem waits_si{S:Nat→Prop}{w:World}{H:Hd}{x:St}(m:SI S w H x):Calls Tryz.prog 60 #[ptr H.g] w fun e w'=>e = .returned (.bool (waitsV x))∧Fr [] w w':=by
 have c:=scells m.blk
 have c0:=c.c0
 have c7:=c.c7
 have c16:=c.c16
 have c19:=c.c19
 have c20:=c.c20
 have hst:=fun W (f:Fr [] w W)=>Win.state_win H.gw x.win W (Blk.fr m.win f (by simp))
 have hz:=fun W (f:Fr [] w W)=>Win.zero_fr H.gw x.win W (Blk.fr m.win f (by simp))
 have hv:waitsV x=(x.at_ == 2 || (x.at_ == 3 || (x.at_ == 4 && (decide (x.win.a<x.win.m) || (x.fin && !x.acked || Win.zeroV x.win && decide (x.win.a<x.all.length)))))):=rfl
 generalize waitsV x=r at *
 generalize x.fin=fi at *
 generalize x.acked=ac at *
 generalize Win.zeroV x.win=zv at *
 generalize x.at_=at_ at *
 have HSt:=Lib.hid hst
 have HZ:=Lib.hid hz
 clear hst hz c m
 by_cases h2:at_=2
 ·subst h2
  obtain rfl:r=true:=by rw [hv];rfl
  clear hv
  go_enter Tryz.func60,Tryz.ntmps60
  go_wp2_with fail
  refine (HSt.out _ (Fr.refl [] w)).mono ?_
  rintro e w1 ⟨rfl,f1⟩
  have d0:=fr_cell f1 c0
  have hl:=World.block_lt_of_cell? w1 _ d0
  go_wp2_with fail
  go_ret
  exact⟨rfl,f1.alloc _⟩
 by_cases h3:at_=3
 ·subst h3
  obtain rfl:r=true:=by rw [hv];rfl
  clear hv
  go_enter Tryz.func60,Tryz.ntmps60
  go_wp2_with fail
  refine (HSt.out _ (Fr.refl [] w)).mono ?_
  rintro e w1 ⟨rfl,f1⟩
  have d0:=fr_cell f1 c0
  have hl:=World.block_lt_of_cell? w1 _ d0
  go_wp2_with fail
  go_ret
  exact⟨rfl,f1.alloc _⟩
 by_cases h4:at_=4
 ·subst h4
  have hv':r=(decide (x.win.a<x.win.m) || (fi && !ac || zv && decide (x.win.a<x.all.length))):=by rw [hv];rfl
  have HV:=Lib.hid hv'
  clear hv hv'
  go_enter Tryz.func60,Tryz.ntmps60
  go_wp2_with fail
  refine (HSt.out _ (Fr.refl [] w)).mono ?_
  rintro e w1 ⟨rfl,f1⟩
  have d0:=fr_cell f1 c0
  have hl:=World.block_lt_of_cell? w1 _ d0
  go_upto_region 7 with fail
  have f2:Fr [] w (w1.alloc (.cells #[.int .i64 x.win.a, .int .i64 x.win.s, .int .i64 x.win.m, .int .i64 x.win.l] 32)):=f1.alloc _
  have b2:=Blk.new w1 32 #[.int .i64 x.win.a, .int .i64 x.win.s, .int .i64 x.win.m, .int .i64 x.win.l]
  generalize w1.alloc (.cells #[.int .i64 x.win.a, .int .i64 x.win.s, .int .i64 x.win.m, .int .i64 x.win.l] 32)=w2 at *
  obtain⟨p0,p1,p2,p3⟩:w2.cell? ⟨w1.heap.size,0,none⟩=some (.int .i64 x.win.a)∧w2.cell? ⟨w1.heap.size,1,none⟩=some (.int .i64 x.win.s)∧w2.cell? ⟨w1.heap.size,2,none⟩=some (.int .i64 x.win.m)∧w2.cell? ⟨w1.heap.size,3,none⟩=some (.int .i64 x.win.l):=⟨by simpa using b2.cell 0,by simpa using b2.cell 1,by simpa using b2.cell 2,by simpa using b2.cell 3⟩
  have y0:=Grew.cell p0
  have y2:=Grew.cell p2
  have y7:=Grew.cell (fr_cell f2 c7)
  have y16:=Grew.cell (fr_cell f2 c16)
  have y19:=Grew.cell (fr_cell f2 c19)
  have y20:=Grew.cell (fr_cell f2 c20)
  have hzg:∀ p:Grew w2,Calls Tryz.prog 98 #[ptr H.gw] p.W fun e w'=>e = .returned (.bool zv)∧∃ q:Grew w2,w'=q.W:=fun p=>grew_call (HZ.out _ (f2.trans p.fr (by simp)))
  have HZG:=Lib.hid hzg
  have F2:=Lib.hid f2
  clear b2 p0 p1 p2 p3 hzg f1 f2 c0 c7 c16 c19 c20 d0 hl HZ HSt h2 h3
  by_cases hA:x.win.a<x.win.m
  ·obtain rfl:r=true:=by rw [HV.out];simp [hA]
   refine wp_region_grew (by kernel_rfl) (by kernel_rfl) ?_
   repeat (go_big_quiet_step ((go_at_call 98;exact HZG.out _)))
   refine wpQuiet_nil ?_
   intro W1 f1
   go_wp2_with fail
   go_ret
   exact⟨rfl,F2.out.trans f1 (by simp)⟩
  ·have hA':decide (x.win.a<x.win.m)=false:=by simpa using hA
   rcases Bool.eq_false_or_eq_true fi with rfl|rfl <;> rcases Bool.eq_false_or_eq_true ac with rfl|rfl <;> rcases Bool.eq_false_or_eq_true zv with rfl|rfl
   all_goals
    have hr:=HV.out
    rw [hA'] at hr
    simp only [Bool.not_true,Bool.not_false,Bool.and_true,Bool.true_and,Bool.and_false,Bool.false_and,Bool.or_false,Bool.false_or,Bool.true_or,Bool.or_true] at hr
    subst hr
    refine wp_region_grew (by kernel_rfl) (by kernel_rfl) ?_
    repeat (go_big_quiet_step ((go_at_call 98;exact HZG.out _)))
    refine wpQuiet_nil ?_
    intro W1 f1
    go_wp2_with fail
    go_ret
    exact⟨rfl,F2.out.trans f1 (by simp)⟩
 ·obtain rfl:r=false:=by rw [hv];simp [h2,h3,h4]
  clear hv
  go_enter Tryz.func60,Tryz.ntmps60
  go_wp2_with fail
  refine (HSt.out _ (Fr.refl [] w)).mono ?_
  rintro e w1 ⟨rfl,f1⟩
  have d0:=fr_cell f1 c0
  have hl:=World.block_lt_of_cell? w1 _ d0
  go_wp2_with fail
  go_ret
  exact⟨rfl,f1.alloc _⟩
theorem done_si{S:Nat→Prop}{w:World}{H:Hd}{x:St}(m:SI S w H x)(b:Bool):Calls Tryz.prog 74 #[ptr H.g, .bool b] w fun e w'=>e = .returned (.tuple #[])∧SI S w' H (doneV x b)∧Fr [H.g] w w':=by
 have c:=scells m.blk
 have c0:=c.c0
 have c1:=c.c1
 have z0:=m.blk.frozen 0
 have z1:=m.blk.frozen 1
 have M:=Lib.hid m
 clear m c
 go_enter Tryz.func74,Tryz.ntmps74
 go_wp2_with fail
 have f:Fr [H.g] w ((w.setCell ⟨H.g,0,none⟩ (.int .i64 5)).setCell ⟨H.g,1,none⟩ (.bool b)):=((Fr.refl [H.g] w).setCell (p:=⟨H.g,0,none⟩) (.inl (by simp)) _).setCell (p:=⟨H.g,1,none⟩) (.inl (by simp)) _
 have B:Blk ((w.setCell ⟨H.g,0,none⟩ (.int .i64 5)).setCell ⟨H.g,1,none⟩ (.bool b)) H.g 74 (arS (doneV x b) H):=by simpa [doneV] using (M.out.blk.set_ 0 (.int .i64 5)).set_ 1 (.bool b)
 go_end0
 exact⟨rfl,M.out.set f B rfl rfl rfl rfl rfl,f⟩
theorem ack0(v:Win.Wn)(h:0≤v.a)(r:Int):(Win.ackV v 0 r).1.a=v.a:=by
 unfold Win.ackV
 (repeat' split) <;> first|rfl|(simp;omega)
set_option maxHeartbeats 2000000 in
theorem opens_si{S:Nat→Prop}{w:World}{H:Hd}{x:St}(m:SI S w H x)(r B:Int)(hB:B≤1000000000)(hw:Win.Inv B x.win)(hc:Rto.Inv x.clk)(r0:0≤r)(r1:r<65536) :
  Calls Tryz.prog 90 #[ptr H.g, .int .u16 r] w fun e w'=>e = .returned (.tuple #[])∧SI S w' H (opensV x r)∧Fr [H.g,H.gw,H.gc] w w':=by
 have c:=scells m.blk
 have c0:=c.c0
 have c16:=c.c16
 have c17:=c.c17
 have z0:=m.blk.frozen 0
 have M:=Lib.hid m
 have hw':=hw
 have HW:=Lib.hid hw'
 have HC:=Lib.hid hc
 obtain⟨i0,_⟩:=hw
 have NW:=Lib.hid m.ne_w
 have NC:=Lib.hid m.ne_c
 have NWC:=Lib.hid (blk_ne m.win m.clk (by decide))
 have hcv:IntKind.i64.wrap r=r:=IntWalk.i64_in _ (by omega)
 clear m c hw' hc
 go_enter Tryz.func90,Tryz.ntmps90
 go_wp2_with fail
 have f1:Fr [H.g] w (w.setCell ⟨H.g,0,none⟩ (.int .i64 4)):=(Fr.refl [H.g] w).setCell (p:=⟨H.g,0,none⟩) (.inl (by simp)) _
 have B1:Blk (w.setCell ⟨H.g,0,none⟩ (.int .i64 4)) H.g 74 (arS { x with at_:=4 } H):=by simpa using M.out.blk.set_ 0 (.int .i64 4)
 have m1:=M.out.set (x':={ x with at_:=4 }) f1 B1 rfl rfl rfl rfl rfl
 generalize w.setCell ⟨H.g,0,none⟩ (.int .i64 4)=w1 at *
 refine (Win.ack_win H.gw x.win 0 r w1 B hB HW.out m1.win).mono ?_
 rintro e w2 ⟨rfl,f2,W2⟩
 have m2:=m1.setw f2 W2 (ack0 _ i0 r)
 have d:=scells m2.blk
 have d17:=d.c17
 have M2:=Lib.hid m2
 have F12:=Lib.hid ((f1.mono (O':=[H.g,H.gw,H.gc]) (by simp)).trans (f2.mono (O':=[H.g,H.gw,H.gc]) (by simp)) (fun y hy => .inl hy))
 clear m1 f1 B1 f2 W2 m2 d c0 c16 c17
 go_wp2_with fail
 refine (Rto.stop_clk H.gc x.clk w2 M2.out.clk HC.out).mono ?_
 rintro e w3 ⟨rfl,f3,C3⟩
 have m3:=M2.out.setc f3 C3
 have F3:=F12.out.trans (f3.mono (O':=[H.g,H.gw,H.gc]) (by simp)) (fun y hy => .inl hy)
 have M3:=Lib.hid m3
 clear m3 f3 C3 d17
 go_wp2_with fail
 go_end0
 exact⟨rfl,M3.out,F3⟩
set_option maxHeartbeats 2000000 in
theorem rests_si{S:Nat→Prop}{w:World}{H:Hd}{x:St}(m:SI S w H x)(hc:Rto.Inv x.clk)(A:Option Addr)(n k:Nat) :
  Calls Tryz.prog 22 #[ptr H.g, .slice A n k] w fun e w'=>e = .returned (.slice A n k)∧SI S w' H (restsV x)∧Fr [H.gc] w w':=by
 have hwt:=waits_si m
 have M:=Lib.hid m
 have HWt:=Lib.hid hwt
 have HC:=Lib.hid hc
 have hv:restsV x=if waitsV x && !x.clk.rn then { x with clk:=(Rto.startV x.clk x.now).1 } else if !waitsV x && x.clk.rn then { x with clk:=Rto.stopV x.clk } else x:=rfl
 generalize restsV x=y at *
 generalize waitsV x=wv at *
 clear m hwt hc
 have HV:=Lib.hid hv
 clear hv
 go_enter Tryz.func22,Tryz.ntmps22
 go_wp2_with fail
 refine HWt.out.mono ?_
 rintro e w1 ⟨rfl,f1⟩
 have m1:=M.out.fr f1
 have d:=scells m1.blk
 have d17:=d.c17
 have d21:=d.c21
 have M1:=Lib.hid m1
 have F1:=Lib.hid f1
 clear m1 d f1
 go_wp2_with fail
 refine (Rto.runs_clk H.gc x.clk w1 M1.out.clk HC.out).mono ?_
 rintro e w2 ⟨rfl,rfl⟩
 rcases Bool.eq_false_or_eq_true wv with rfl|rfl <;> rcases Bool.eq_false_or_eq_true x.clk.rn with hr|hr
 all_goals
  have hv:=HV.out
  rw [hr] at hv ⊢
  simp only [Bool.not_true,Bool.not_false,Bool.and_true,Bool.true_and,Bool.and_false,Bool.false_and,if_true,if_false,Bool.false_eq_true,reduceIte] at hv
  subst hv
 ·go_wp2_with fail
  go_ret
  exact⟨rfl,M1.out,F1.out.mono (by simp)⟩
 ·go_upto_region 4 with fail
  go_region_held3 (fun w'=>w'.cell? ⟨H.g,17,none⟩=some (ptr H.gc)∧w'.cell? ⟨H.g,21,none⟩=some (.int .i64 x.now))
   (first
    | (with_reducible exact⟨s0,s1⟩)
    | go_keep)
   (first
    | (go_at_call 62;refine (Rto.start_clk H.gc x.clk x.now _ (Blk.fr M1.out.clk (Fr.refl [] w1).drew (by simp)) HC.out).mono ?_;rintro e w3 ⟨rfl,f3,C3⟩;have f3':Fr [H.gc] w1 w3:=(Fr.refl [H.gc] w1).drew.trans f3 (fun y hy => .inl hy);have m3:=M1.out.setc f3' C3;have d3:=scells m3.blk;have s0:w3.cell? ⟨H.g,17,none⟩=some (ptr H.gc):=d3.c17;have s1:w3.cell? ⟨H.g,21,none⟩=some (.int .i64 x.now):=d3.c21;have M3:=Lib.hid m3;have F3:=Lib.hid f3';clear m3 d3 f3 f3' C3))
  go_wp2_with fail
  go_ret
  exact⟨rfl,M3.out,(F1.out.mono (by simp)).trans F3.out (fun y hy => .inl hy)⟩
 ·go_wp2_with fail
  refine (Rto.stop_clk H.gc x.clk w1 M1.out.clk HC.out).mono ?_
  rintro e w3 ⟨rfl,f3,C3⟩
  have M3:=Lib.hid (M1.out.setc f3 C3)
  have F3:=Lib.hid f3
  clear f3 C3
  go_wp2_with fail
  go_ret
  exact⟨rfl,M3.out,(F1.out.mono (by simp)).trans F3.out (fun y hy => .inl hy)⟩
 ·go_wp2_with fail
  go_ret
  exact⟨rfl,M1.out,F1.out.mono (by simp)⟩
end Go.Proofs.YtmgdbbbdhkfdmaaGreat
