import Derived.Test.YtmgdbbbdhkfdmaaGreatYC1
import Derived.Deep.DeepCutAuto
import Derived.Test.YtmgdbbbdhkfdmaaGreatYC2
import Derived.Test.YtmgdbbbdhkfdmaaGreatYC0
set_option linter.unusedSimpArgs false
set_option linter.unusedVariables false
set_option maxHeartbeats 40000000
namespace Go.Proofs.YtmgdbbbdhkfdmaaGreat.Win
set_option maxRecDepth 100000
open Go.RowKit
theorem rroom(x:Wn)(w:World)(B:Int)(hB:B<=1000000000)(hi:Inv B x):Calls Tryz.prog 109 #[agW x] w fun e w'=>e = .returned (.int .i64 (qK x))/\Fr [] w w':=by
 obtain⟨i0,i1,i2,i3,i4⟩:=hi;unfold qK;go_enter Tryz.func109,Tryz.ntmps109;go_wp2
 all_goals go_ret
 all_goals exact⟨qbq zw,by repeat (first|exact Fr.refl _ _|apply Fr.drew|apply Fr.alloc|refine Fr.setCell ?_ (Or.inr zs) _)⟩
theorem rzero(x:Wn)(w:World):Calls Tryz.prog 104 #[agW x] w fun e w'=>e = .returned (.bool (zeroV x))/\Fr [] w w':=by
 unfold zeroV;by_cases h1:x.a=x.m
 ·have e:(x.a == x.m)=true:=by simp [h1]
  have e2:(x.l == x.a && x.m == x.a)=(x.a == x.l):=by rw [h1,Bool.eq_iff_iff];simp;omega
  rw [e2];clear h1 e2;go_enter Tryz.func104,Tryz.ntmps104;go_wp2
  go_ret;exact⟨rfl,by repeat (first|exact Fr.refl _ _|apply Fr.drew|apply Fr.alloc|refine Fr.setCell ?_ (Or.inr zs) _)⟩
 ·have e:(x.a == x.m)=false:=by simp [h1]
  have e2:(x.l == x.a && x.m == x.a)=false:=zv;rw [e2];clear h1 e2;go_enter Tryz.func104,Tryz.ntmps104;go_wp2
  go_ret;exact⟨rfl,by repeat (first|exact Fr.refl _ _|apply Fr.drew|apply Fr.alloc|refine Fr.setCell ?_ (Or.inr zs) _)⟩
theorem rtake(x:Wn)(n:Int)(w:World)(B:Int)(hB:B<=1000000000)(hi:Inv B x):Calls Tryz.prog 110 #[agW x, .int .i64 n] w fun e w'=>e = .returned (.tuple #[agW (qQ x n).1, .int .i64 (qQ x n).2.1, .int .i64 (qQ x n).2.2])/\Fr [] w w':=by
 obtain⟨i0,i1,i2,i3,i4⟩:=hi;unfold qQ;by_cases h1:n<0
 ·rw [if_pos h1]
  go_enter Tryz.func110,Tryz.ntmps110;go_wp2
  go_returns;exact⟨rfl,by repeat (first|exact Fr.refl _ _|apply Fr.drew|apply Fr.alloc|refine Fr.setCell ?_ (Or.inr zs) _)⟩
 ·rw [if_neg h1]
  by_cases h3:x.s<x.l
  ·have hroom:qK x=x.l - x.s:=by unfold qK;omega
   rw [hroom];clear hroom;by_cases h2:x.l - x.s<n
   ·rw [if_pos h2]
    go_enter Tryz.func110,Tryz.ntmps110;go_wp2
    go_returns;exact⟨rfl,by repeat (first|exact Fr.refl _ _|apply Fr.drew|apply Fr.alloc|refine Fr.setCell ?_ (Or.inr zs) _)⟩
   ·rw [if_neg h2]
    by_cases h4:x.m<x.s+n
    ·rw [show max x.m (x.s+n)=x.s+n from by omega]
     go_enter Tryz.func110,Tryz.ntmps110;go_wp2
     go_returns;exact⟨rfl,by repeat (first|exact Fr.refl _ _|apply Fr.drew|apply Fr.alloc|refine Fr.setCell ?_ (Or.inr zs) _)⟩
    ·rw [show max x.m (x.s+n)=x.m from by omega]
     go_enter Tryz.func110,Tryz.ntmps110;go_wp2
     go_returns;exact⟨rfl,by repeat (first|exact Fr.refl _ _|apply Fr.drew|apply Fr.alloc|refine Fr.setCell ?_ (Or.inr zs) _)⟩
  ·have hroom:qK x=0:=by unfold qK;omega
   rw [hroom];clear hroom;by_cases h2:0<n
   ·rw [if_pos h2]
    go_enter Tryz.func110,Tryz.ntmps110;go_wp2
    go_returns;exact⟨rfl,by repeat (first|exact Fr.refl _ _|apply Fr.drew|apply Fr.alloc|refine Fr.setCell ?_ (Or.inr zs) _)⟩
   ·rw [if_neg h2]
    obtain rfl:n=0:=zw;rw [show max x.m (x.s+0)=x.m from by omega,show x.s+0=x.s from by omega];go_enter Tryz.func110,Tryz.ntmps110;go_wp2
    go_returns;exact⟨rfl,by repeat (first|exact Fr.refl _ _|apply Fr.drew|apply Fr.alloc|refine Fr.setCell ?_ (Or.inr zs) _)⟩
theorem rack(x:Wn)(u r:Int)(w:World)(B:Int)(hB:B<=1000000000)(hi:Inv B x):Calls Tryz.prog 121 #[agW x, .int .i64 u, .int .i64 r] w fun e w'=>e = .returned (.tuple #[agW (je x u r).1, .int .i64 (je x u r).2.1, .int .i64 (je x u r).2.2])/\Fr [] w w':=by
 obtain⟨i0,i1,i2,i3,i4⟩:=hi;unfold je;by_cases h1:u<0\/r<0\/65535<r
 ·rw [if_pos h1]
  by_cases a:u<0
  ·go_enter Tryz.func121,Tryz.ntmps121
   go_wp2
   go_returns;exact⟨rfl,by repeat (first|exact Fr.refl _ _|apply Fr.drew|apply Fr.alloc|refine Fr.setCell ?_ (Or.inr zs) _)⟩
  by_cases b:r<0
  ·go_enter Tryz.func121,Tryz.ntmps121
   go_wp2
   go_returns;exact⟨rfl,by repeat (first|exact Fr.refl _ _|apply Fr.drew|apply Fr.alloc|refine Fr.setCell ?_ (Or.inr zs) _)⟩
  have c:65535<r:=zw;clear h1;go_enter Tryz.func121,Tryz.ntmps121;go_wp2
  go_returns;exact⟨rfl,by repeat (first|exact Fr.refl _ _|apply Fr.drew|apply Fr.alloc|refine Fr.setCell ?_ (Or.inr zs) _)⟩
 ·rw [if_neg h1]
  have j1:0<=u:=zw;have j2:0<=r:=zw;have j3:r<=65535:=zw;clear h1;by_cases h2:x.m<u
  ·rw [if_pos h2]
   go_enter Tryz.func121,Tryz.ntmps121;go_wp2
   go_returns;exact⟨rfl,by repeat (first|exact Fr.refl _ _|apply Fr.drew|apply Fr.alloc|refine Fr.setCell ?_ (Or.inr zs) _)⟩
  ·rw [if_neg h2]
   by_cases h3:u<x.a
   ·rw [if_pos h3]
    go_enter Tryz.func121,Tryz.ntmps121;go_wp2
    go_returns;exact⟨rfl,by repeat (first|exact Fr.refl _ _|apply Fr.drew|apply Fr.alloc|refine Fr.setCell ?_ (Or.inr zs) _)⟩
   ·rw [if_neg h3]
    rw [show max x.a u=u from by omega];by_cases h4:x.s<u
    ·rw [show max x.s u=u from by omega]
     by_cases h5:x.l<u+r
     ·rw [show max x.l (u+r)=u+r from by omega]
      go_enter Tryz.func121,Tryz.ntmps121;go_wp2
      go_returns;exact⟨rfl,by repeat (first|exact Fr.refl _ _|apply Fr.drew|apply Fr.alloc|refine Fr.setCell ?_ (Or.inr zs) _)⟩
     ·rw [show max x.l (u+r)=x.l from by omega]
      go_enter Tryz.func121,Tryz.ntmps121;go_wp2
      go_returns;exact⟨rfl,by repeat (first|exact Fr.refl _ _|apply Fr.drew|apply Fr.alloc|refine Fr.setCell ?_ (Or.inr zs) _)⟩
    ·rw [show max x.s u=x.s from by omega]
     by_cases h5:x.l<u+r
     ·rw [show max x.l (u+r)=u+r from by omega]
      go_enter Tryz.func121,Tryz.ntmps121;go_wp2
      go_returns;exact⟨rfl,by repeat (first|exact Fr.refl _ _|apply Fr.drew|apply Fr.alloc|refine Fr.setCell ?_ (Or.inr zs) _)⟩
     ·rw [show max x.l (u+r)=x.l from by omega]
      go_enter Tryz.func121,Tryz.ntmps121;go_wp2
      go_returns;exact⟨rfl,by repeat (first|exact Fr.refl _ _|apply Fr.drew|apply Fr.alloc|refine Fr.setCell ?_ (Or.inr zs) _)⟩
theorem rprobe(x:Wn)(w:World)(B:Int)(hB:B<=1000000000)(hi:Inv B x):Calls Tryz.prog 112 #[agW x] w fun e w'=>e = .returned (.tuple #[agW (kX x).1, .int .i64 (kX x).2.1, .int .i64 (kX x).2.2])/\Fr [] w w':=by
 obtain⟨i0,i1,i2,i3,i4⟩:=hi;unfold kX;by_cases h1:x.a=x.m
 ·have e:(x.a == x.m)=true:=by simp [h1]
  by_cases h2:x.a=x.l
  ·have e2:(x.a == x.l)=true:=by simp [h2]
   have e3:(x.m == x.l)=true:=zv;have ez:zeroV x=true:=by unfold zeroV;simp;omega
   rw [if_pos ez,show max x.m (x.a+1)=x.a+1 from by omega];clear h1 h2 ez;go_enter Tryz.func112,Tryz.ntmps112;go_wp2
   go_region
   all_goals go_wp2
   all_goals go_returns
   all_goals exact⟨rfl,by repeat (first|exact Fr.refl _ _|apply Fr.drew|apply Fr.alloc|refine Fr.setCell ?_ (Or.inr zs) _)⟩
  ·have e2:(x.a == x.l)=false:=zv
   have e3:(x.m == x.l)=false:=zv;have ez:¬ zeroV x=true:=by unfold zeroV;simp;omega
   rw [if_neg ez];clear h1 h2 ez;go_enter Tryz.func112,Tryz.ntmps112;go_wp2
   go_returns;exact⟨rfl,by repeat (first|exact Fr.refl _ _|apply Fr.drew|apply Fr.alloc|refine Fr.setCell ?_ (Or.inr zs) _)⟩
 ·have e:(x.a == x.m)=false:=zv
  have ez:¬ zeroV x=true:=by unfold zeroV;simp;omega
  rw [if_neg ez];clear h1 ez;go_enter Tryz.func112,Tryz.ntmps112;go_wp2
  go_returns;exact⟨rfl,by repeat (first|exact Fr.refl _ _|apply Fr.drew|apply Fr.alloc|refine Fr.setCell ?_ (Or.inr zs) _)⟩
theorem qhg(most held:Int)(w:World):Calls Tryz.prog 101 #[.int .i64 most, .int .i64 held] w fun e w'=>e = .returned (.tuple #[.int .i64 (xg most held).1, .int .i64 (xg most held).2])/\w=w':=by
 unfold xg;by_cases h1:most<0
 ·rw [if_pos zw]
  go_enter Tryz.func101,Tryz.ntmps101;go_wp2
  go_ret2
  exact⟨rfl,rfl⟩
 by_cases h4:65535<most
 ·rw [if_pos zw]
  go_enter Tryz.func101,Tryz.ntmps101;go_wp2
  go_ret2
  exact⟨rfl,rfl⟩
 by_cases h2:held<0
 ·rw [if_pos zw]
  go_enter Tryz.func101,Tryz.ntmps101;go_wp2
  go_ret2
  exact⟨rfl,rfl⟩
 by_cases h3:most<held
 ·rw [if_pos zw]
  go_enter Tryz.func101,Tryz.ntmps101;go_wp2
  go_ret2
  exact⟨rfl,rfl⟩
 rw [if_neg zw];by_cases h5:most - held<64
 ·by_cases h6:most - held+(most - held)<most
  ·rw [if_pos zw]
   go_enter Tryz.func101,Tryz.ntmps101;go_wp2
   go_ret2
   exact⟨rfl,rfl⟩
  ·rw [if_neg zw]
   go_enter Tryz.func101,Tryz.ntmps101;go_wp2
   go_ret2
   exact⟨rfl,rfl⟩
 ·rw [if_neg zw]
  go_enter Tryz.func101,Tryz.ntmps101;go_wp2
  go_ret2
  exact⟨rfl,rfl⟩
end Go.Proofs.YtmgdbbbdhkfdmaaGreat.Win
namespace Go.Proofs.YtmgdbbbdhkfdmaaGreat.Rto
set_option maxRecDepth 100000
open Go.RowKit
abbrev bx(c:Ck):Obj := .cells c.arr 36
theorem qmh(c:Ck)(w:World)(hi:Inv c):Calls Tryz.prog 106 #[agC c] w fun e w'=>e = .returned (.int .i64 (jJ c))/\w.alloc (bx c)=w':=by
 obtain⟨l1,lf,fm,m1,t1,t2,tm0,tm1,sp0,sp1,w1,w2,s0,s1,r0,r1⟩:=hi;obtain⟨f,l,m,t,is,tm,sp,wt,si,tr,rn⟩:=c;unfold jJ;dsimp only at *
 cases is
 ·go_enter Tryz.func106,Tryz.ntmps106
  go_wp2
  go_ret;exact⟨rfl,rfl⟩
 ·rw [if_pos rfl]
  by_cases h1:sp<1
  ·by_cases h2:tm / 8+1<l
   ·rw [show max l (min m (tm / 8+max 1 sp))=l from by omega]
    go_enter Tryz.func106,Tryz.ntmps106;go_wp2
    go_ret;exact⟨rfl,rfl⟩
   by_cases h3:m<tm / 8+1
   ·rw [show max l (min m (tm / 8+max 1 sp))=m from by omega]
    go_enter Tryz.func106,Tryz.ntmps106;go_wp2
    go_ret;exact⟨rfl,rfl⟩
   rw [show max l (min m (tm / 8+max 1 sp))=tm / 8+1 from by omega];go_enter Tryz.func106,Tryz.ntmps106;go_wp2
   go_ret;exact⟨rfl,rfl⟩
  ·by_cases h2:tm / 8+sp<l
   ·rw [show max l (min m (tm / 8+max 1 sp))=l from by omega]
    go_enter Tryz.func106,Tryz.ntmps106;go_wp2
    go_ret;exact⟨rfl,rfl⟩
   by_cases h3:m<tm / 8+sp
   ·rw [show max l (min m (tm / 8+max 1 sp))=m from by omega]
    go_enter Tryz.func106,Tryz.ntmps106;go_wp2
    go_ret;exact⟨rfl,rfl⟩
   rw [show max l (min m (tm / 8+max 1 sp))=tm / 8+sp from by omega];go_enter Tryz.func106,Tryz.ntmps106;go_wp2
   go_ret;exact⟨rfl,rfl⟩
theorem rmay(c:Ck)(n:Int)(w:World):Calls Tryz.prog 105 #[agC c, .int .i64 n] w fun e w'=>e = .returned (.bool (jP c n))/\w.alloc (bx c)=w':=by
 obtain⟨f,l,m,t,is,tm,sp,wt,si,tr,rn⟩:=c;by_cases h1:n<0
 ·rw [show jP ⟨f,l,m,t,is,tm,sp,wt,si,tr,rn⟩ n=false from by unfold jP;simp;omega]
  go_enter Tryz.func105,Tryz.ntmps105;go_wp2
  go_ret;exact⟨rfl,rfl⟩
 by_cases h2:2147483647<n
 ·rw [show jP ⟨f,l,m,t,is,tm,sp,wt,si,tr,rn⟩ n=false from by unfold jP;simp;omega]
  go_enter Tryz.func105,Tryz.ntmps105;go_wp2
  go_ret;exact⟨rfl,rfl⟩
 cases rn
 ·rw [show jP ⟨f,l,m,t,is,tm,sp,wt,si,tr,false⟩ n=true from by unfold jP;simp;omega]
  go_enter Tryz.func105,Tryz.ntmps105;go_wp2
  go_ret;exact⟨rfl,rfl⟩
 ·by_cases h4:n<si
  ·rw [show jP ⟨f,l,m,t,is,tm,sp,wt,si,tr,true⟩ n=false from by unfold jP;simp;omega]
   go_enter Tryz.func105,Tryz.ntmps105;go_wp2
   go_ret;exact⟨qef zv,rfl⟩
  ·rw [show jP ⟨f,l,m,t,is,tm,sp,wt,si,tr,true⟩ n=true from by unfold jP;simp;omega]
   go_enter Tryz.func105,Tryz.ntmps105;go_wp2
   go_ret;exact⟨rfl,rfl⟩
def dueW(c:Ck)(w:World):World:=if c.rn then (w.alloc (bx c)).alloc (bx c) else w.alloc (bx c)
theorem rdue(c:Ck)(n:Int)(w:World)(hi:Inv c):Calls Tryz.prog 76 #[agC c, .int .i64 n] w fun e w'=>e = .returned (.bool (xh c n))/\dueW c w=w':=by
 obtain⟨l1,lf,fm,m1,t1,t2,tm0,tm1,sp0,sp1,w1,w2,s0,s1,r0,r1⟩:=hi;have hm:=fun W=>rmay c n W;have hb:=fun h=>qas (c:=c) (n:=n) h;unfold xh dueW;revert hm hb;generalize jP c n=B;intro hm hb;obtain⟨f,l,m,t,is,tm,sp,wt,si,tr,rn⟩:=c;dsimp only at *
 have Hm:Hid _:=hm;clear hm;cases rn
 ·rw [show (B && (false && decide (wt<=n - si)))=false from by simp,if_neg zs]
  clear hb;go_enter Tryz.func76,Tryz.ntmps76;go_wp2
  go_ret;exact⟨rfl,rfl⟩
 ·rw [if_pos rfl]
  cases B
  ·rw [show (false && (true && decide (wt<=n - si)))=false from by simp]
   clear hb;go_enter Tryz.func76,Tryz.ntmps76;go_wp2_with (first|(go_at_call 105;refine (Hm.out _).mono ?_;rintro e w' ⟨rfl,rfl⟩))
   go_ret;exact⟨rfl,rfl⟩
  ·rw [show (true && (true && decide (wt<=n - si)))=decide (wt<=n - si) from by simp]
   obtain⟨b0,b1⟩:=hb rfl;clear hb;go_enter Tryz.func76,Tryz.ntmps76;go_wp2_with (first|(go_at_call 105;refine (Hm.out _).mono ?_;rintro e w' ⟨rfl,rfl⟩))
   go_ret;exact⟨rfl,rfl⟩
theorem qiw(c:Ck)(w:World)(hi:Inv c):Calls Tryz.prog 69 #[agC c] w fun e w'=>e = .returned (agC (qW c))/\Fr [] w w':=by
 have hk:=fun W=>qmh c W hi;unfold qW;revert hk;generalize jJ c=K;intro hk;obtain⟨f,l,m,t,is,tm,sp,wt,si,tr,rn⟩:=c;dsimp only at *
 have Hk:Hid _:=hk;clear hk;go_enter Tryz.func69,Tryz.ntmps69;go_wp2_with (first|(go_at_call 106;refine (Hk.out _).mono ?_;rintro e w' ⟨rfl,rfl⟩))
 go_returns;exact⟨rfl,by repeat (first|(with_reducible exact Fr.refl _ _)|(with_reducible refine Fr.drew ?_)|(with_reducible refine Fr.alloc ?_ _)|(with_reducible refine Fr.setCell ?_ (Or.inr zs) _))⟩
theorem rstart(c:Ck)(n:Int)(w:World):Calls Tryz.prog 68 #[agC c, .int .i64 n] w fun e w'=>e = .returned (.tuple #[agC (jW c n).1, .int .i64 (jW c n).2])/\Fr [] w w':=by
 have hm:=fun W=>rmay c n W;unfold jW;revert hm;generalize jP c n=B;intro hm;obtain⟨f,l,m,t,is,tm,sp,wt,si,tr,rn⟩:=c;dsimp only at *
 have Hm:Hid _:=hm;clear hm;cases B
 ·rw [if_neg zs]
  go_enter Tryz.func68,Tryz.ntmps68;go_wp2_with (first|(go_at_call 105;refine (Hm.out _).mono ?_;rintro e w' ⟨rfl,rfl⟩))
  go_returns;exact⟨rfl,by repeat (first|(with_reducible exact Fr.refl _ _)|(with_reducible refine Fr.drew ?_)|(with_reducible refine Fr.alloc ?_ _)|(with_reducible refine Fr.setCell ?_ (Or.inr zs) _))⟩
 ·rw [if_pos rfl]
  go_enter Tryz.func68,Tryz.ntmps68;go_wp2_with (first|(go_at_call 105;refine (Hm.out _).mono ?_;rintro e w' ⟨rfl,rfl⟩))
  go_returns;exact⟨rfl,by repeat (first|(with_reducible exact Fr.refl _ _)|(with_reducible refine Fr.drew ?_)|(with_reducible refine Fr.alloc ?_ _)|(with_reducible refine Fr.setCell ?_ (Or.inr zs) _))⟩
theorem qhh(c:Ck)(n:Int)(w:World)(h:n<0\/65536<n):Calls Tryz.prog 135 #[agC c, .int .i64 n] w fun e w'=>e = .returned (.tuple #[agC c, .int .i64 2])/\Fr [] w w':=by
 obtain⟨f,l,m,t,is,tm,sp,wt,si,tr,rn⟩:=c;by_cases h1:n<0
 ·go_enter Tryz.func135,Tryz.ntmps135
  go_wp2
  go_returns;exact⟨rfl,by repeat (first|(with_reducible exact Fr.refl _ _)|(with_reducible refine Fr.drew ?_)|(with_reducible refine Fr.alloc ?_ _)|(with_reducible refine Fr.setCell ?_ (Or.inr zs) _))⟩
 ·have h2:65536<n:=zw
  clear h;go_enter Tryz.func135,Tryz.ntmps135;go_wp2
  go_returns;exact⟨rfl,by repeat (first|(with_reducible exact Fr.refl _ _)|(with_reducible refine Fr.drew ?_)|(with_reducible refine Fr.alloc ?_ _)|(with_reducible refine Fr.setCell ?_ (Or.inr zs) _))⟩
theorem qfz(c:Ck)(n:Int)(w:World)(hi:Inv c)(h0:0<=n)(h1:n<=65536):Calls Tryz.prog 135 #[agC c, .int .i64 n] w fun e w'=>e = .returned (.tuple #[agC { zI c n with wt:=jJ (zI c n) }, .int .i64 0])/\Fr [] w w':=by
 have hk:=fun W=>qmh (zI c n) W (yO hi h0 h1);obtain⟨l1,lf,fm,m1,t1,t2,tm0,tm1,sp0,sp1,w1,w2,s0,s1,r0,r1⟩:=hi;revert hk;generalize jJ (zI c n)=K;intro hk;obtain⟨f,l,m,t,is,tm,sp,wt,si,tr,rn⟩:=c;unfold zI at *
 dsimp only at *
 cases is
 ·rw [if_neg zs] at *
  dsimp only at *
  have Hk:Hid _:=hk;clear hk;go_enter Tryz.func135,Tryz.ntmps135;go_wp2_with (first|(go_at_call 106;refine (Hk.out _).mono ?_;rintro e w' ⟨rfl,rfl⟩))
  go_returns;exact⟨rfl,by repeat (first|(with_reducible exact Fr.refl _ _)|(with_reducible refine Fr.drew ?_)|(with_reducible refine Fr.alloc ?_ _)|(with_reducible refine Fr.setCell ?_ (Or.inr zs) _))⟩
 ·rw [if_pos rfl] at *
  dsimp only at *
  by_cases h2:n - tm / 8<0
  ·rw [show sp+(max (n - tm / 8) (-(n - tm / 8)) - sp / 4)=sp+-(n - tm / 8) - sp / 4 from by omega] at *
   have Hk:Hid _:=hk;clear hk;go_enter Tryz.func135,Tryz.ntmps135;go_wp2_with (first|(go_at_call 106;refine (Hk.out _).mono ?_;rintro e w' ⟨rfl,rfl⟩))
   go_returns;exact⟨rfl,by repeat (first|(with_reducible exact Fr.refl _ _)|(with_reducible refine Fr.drew ?_)|(with_reducible refine Fr.alloc ?_ _)|(with_reducible refine Fr.setCell ?_ (Or.inr zs) _))⟩
  ·rw [show sp+(max (n - tm / 8) (-(n - tm / 8)) - sp / 4)=sp+(n - tm / 8) - sp / 4 from by omega] at *
   have Hk:Hid _:=hk;clear hk;go_enter Tryz.func135,Tryz.ntmps135;go_wp2_with (first|(go_at_call 106;refine (Hk.out _).mono ?_;rintro e w' ⟨rfl,rfl⟩))
   go_returns;exact⟨rfl,by repeat (first|(with_reducible exact Fr.refl _ _)|(with_reducible refine Fr.drew ?_)|(with_reducible refine Fr.alloc ?_ _)|(with_reducible refine Fr.setCell ?_ (Or.inr zs) _))⟩
theorem rlate(c:Ck)(n:Int)(w:World)(hi:Inv c):Calls Tryz.prog 77 #[agC c, .int .i64 n] w fun e w'=>e = .returned (.tuple #[agC (jB c n).1, .bool (jB c n).2.1, .int .i64 (jB c n).2.2])/\Fr [] w w':=by
 have hm:=fun W=>rmay c n W;have hd:=fun W=>rdue c n W hi;have hb:=fun h=>qas (c:=c) (n:=n) h;have hrn:xh c n=true->c.rn=true:=fun h=>by unfold xh at h;simp at h;exact h.2.1
 obtain⟨l1,lf,fm,m1,t1,t2,tm0,tm1,sp0,sp1,w1,w2,s0,s1,r0,r1⟩:=hi;unfold jB;revert hm hb hd hrn;generalize jP c n=B;generalize xh c n=D;intro hm hd hb hrn;obtain⟨f,l,m,t,is,tm,sp,wt,si,tr,rn⟩:=c;unfold dueW at hd;dsimp only at *
 have Hm:Hid _:=hm;clear hm;cases B
 ·rw [if_neg zs]
  clear hb hrn hd;go_enter Tryz.func77,Tryz.ntmps77;go_wp2_with (first|(go_at_call 105;refine (Hm.out _).mono ?_;rintro e w' ⟨rfl,rfl⟩))
  go_returns;exact⟨rfl,by repeat (first|(with_reducible exact Fr.refl _ _)|(with_reducible refine Fr.drew ?_)|(with_reducible refine Fr.alloc ?_ _)|(with_reducible refine Fr.setCell ?_ (Or.inr zs) _))⟩
 ·rw [if_pos rfl]
  obtain⟨b0,b1⟩:=hb rfl;clear hb;cases D
  ·rw [if_neg zs]
   clear hrn;cases rn
   ·simp only [Bool.false_eq_true,if_false] at hd
    have Hd:Hid _:=hd;clear hd;go_enter Tryz.func77,Tryz.ntmps77;go_wp2_with (first|(go_at_call 105;refine (Hm.out _).mono ?_;rintro e w' ⟨rfl,rfl⟩)|(go_at_call 76;refine (Hd.out _).mono ?_;rintro e w' ⟨rfl,rfl⟩))
    go_returns;exact⟨rfl,by repeat (first|(with_reducible exact Fr.refl _ _)|(with_reducible refine Fr.drew ?_)|(with_reducible refine Fr.alloc ?_ _)|(with_reducible refine Fr.setCell ?_ (Or.inr zs) _))⟩
   ·simp only [if_true] at hd
    have Hd:Hid _:=hd;clear hd;go_enter Tryz.func77,Tryz.ntmps77;go_wp2_with (first|(go_at_call 105;refine (Hm.out _).mono ?_;rintro e w' ⟨rfl,rfl⟩)|(go_at_call 76;refine (Hd.out _).mono ?_;rintro e w' ⟨rfl,rfl⟩))
    go_returns;exact⟨rfl,by repeat (first|(with_reducible exact Fr.refl _ _)|(with_reducible refine Fr.drew ?_)|(with_reducible refine Fr.alloc ?_ _)|(with_reducible refine Fr.setCell ?_ (Or.inr zs) _))⟩
  ·rw [if_pos rfl]
   obtain rfl:rn=true:=hrn rfl;clear hrn;simp only [if_true] at hd;have Hd:Hid _:=hd;clear hd;by_cases h3:tr=t
   ·rw [if_pos h3]
    subst h3;go_enter Tryz.func77,Tryz.ntmps77;go_wp2_with (first|(go_at_call 105;refine (Hm.out _).mono ?_;rintro e w' ⟨rfl,rfl⟩)|(go_at_call 76;refine (Hd.out _).mono ?_;rintro e w' ⟨rfl,rfl⟩))
    go_returns;exact⟨rfl,by repeat (first|(with_reducible exact Fr.refl _ _)|(with_reducible refine Fr.drew ?_)|(with_reducible refine Fr.alloc ?_ _)|(with_reducible refine Fr.setCell ?_ (Or.inr zs) _))⟩
   ·rw [if_neg h3]
    have h4:tr<t:=zw;clear h3;by_cases h5:m<2 * wt
    ·rw [show min (2 * wt) m=m from by omega]
     go_enter Tryz.func77,Tryz.ntmps77;go_wp2_with (first|(go_at_call 105;refine (Hm.out _).mono ?_;rintro e w' ⟨rfl,rfl⟩)|(go_at_call 76;refine (Hd.out _).mono ?_;rintro e w' ⟨rfl,rfl⟩))
     go_returns;exact⟨rfl,by repeat (first|(with_reducible exact Fr.refl _ _)|(with_reducible refine Fr.drew ?_)|(with_reducible refine Fr.alloc ?_ _)|(with_reducible refine Fr.setCell ?_ (Or.inr zs) _))⟩
    ·rw [show min (2 * wt) m=2 * wt from by omega]
     go_enter Tryz.func77,Tryz.ntmps77;go_wp2_with (first|(go_at_call 105;refine (Hm.out _).mono ?_;rintro e w' ⟨rfl,rfl⟩)|(go_at_call 76;refine (Hd.out _).mono ?_;rintro e w' ⟨rfl,rfl⟩))
     go_returns;exact⟨rfl,by repeat (first|(with_reducible exact Fr.refl _ _)|(with_reducible refine Fr.drew ?_)|(with_reducible refine Fr.alloc ?_ _)|(with_reducible refine Fr.setCell ?_ (Or.inr zs) _))⟩
theorem rsample(c:Ck)(n:Int)(w:World)(hi:Inv c):Calls Tryz.prog 135 #[agC c, .int .i64 n] w fun e w'=>e = .returned (.tuple #[agC (qR c n).1, .int .i64 (qR c n).2])/\Fr [] w w':=by
 unfold qR;by_cases h:n<0\/65536<n
 ·rw [if_pos h]
  exact qhh c n w h
 ·rw [if_neg h]
  exact qfz c n w hi zw zw
abbrev agR(f l m t:Int):Value := .agg #[.int .i64 f, .int .i64 l, .int .i64 m, .int .i64 t]
def xG(f l m t:Int):Bool:=decide (1<=l/\l<=f/\f<=m/\m<=65536/\1<=t/\t<=100)
theorem rnew(f l m t:Int)(w:World):Calls Tryz.prog 24 #[agR f l m t] w fun e w'=>e = .returned (agC (xC f l m t))/\Fr [] w w':=by
 unfold xC;go_enter Tryz.func24,Tryz.ntmps24;go_wp2
 go_returns;exact⟨rfl,by repeat (first|(with_reducible exact Fr.refl _ _)|(with_reducible refine Fr.drew ?_)|(with_reducible refine Fr.alloc ?_ _)|(with_reducible refine Fr.setCell ?_ (Or.inr zs) _))⟩
end Go.Proofs.YtmgdbbbdhkfdmaaGreat.Rto
namespace Go.Proofs.YtmgdbbbdhkfdmaaGreat.Sne
set_option maxRecDepth 100000
open Go.RowKit
theorem ref_no(seq tu:Int)(w:World)(h:tu<0\/4611686018427387904<tu) :
  Calls Tryz.prog 134 #[.int .u32 seq, .int .i64 tu] w fun e w'=>e = .returned (.tuple #[.int .i64 (jX seq tu).1, .int .i64 (jX seq tu).2])/\w=w':=by
 have e:jX seq tu=(0,2):=by unfold jX;rw [if_pos h]
 rw [e];rcases h with h|h
 ·go_enter Tryz.func134,Tryz.ntmps134
  go_wp2
  go_ret2
  exact⟨rfl,rfl⟩
 ·have h':¬ tu<0:=zw
  go_enter Tryz.func134,Tryz.ntmps134;go_wp2
  go_ret2
  exact⟨rfl,rfl⟩
theorem qix(seq tu:Int)(w:World)(h0:0<=seq)(h1:seq<4294967296)(h2:0<=tu)(h3:tu<=4611686018427387904) :
  Calls Tryz.prog 134 #[.int .u32 seq, .int .i64 tu] w fun e w'=>e = .returned (.tuple #[.int .i64 (jX seq tu).1, .int .i64 (jX seq tu).2])/\w=w':=by
 go_enter Tryz.func134,Tryz.ntmps134;go_wp2
 go_rounds 4
 all_goals go_ret2
 all_goals refine⟨qis ?_ ?_,rfl⟩
 all_goals (unfold jX;dsimp only;(repeat' split) <;> (try dsimp only) <;> omega)
end Go.Proofs.YtmgdbbbdhkfdmaaGreat.Sne
namespace Go.Proofs.YtmgdbbbdhkfdmaaGreat
set_option maxRecDepth 100000
open Go.RowKit Go.Deep
abbrev arE(x:St)(av uv kv:Value):Array Value:=#[.int .u32 x.isn, .int .u32 x.peer, .int .i64 x.at_, .bool x.broken,av,uv,
 .int .i64 x.win.a, .int .i64 x.win.s, .int .i64 x.win.m, .int .i64 x.win.l,
 .int .i64 x.clk.f, .int .i64 x.clk.l, .int .i64 x.clk.m, .int .i64 x.clk.t, .bool x.clk.is, .int .i64 x.clk.tm, .int .i64 x.clk.sp, .int .i64 x.clk.wt, .int .i64 x.clk.si, .int .i64 x.clk.tr, .bool x.clk.rn,
 .int .i64 x.heap.most, .int .i64 x.heap.next,kv, .int .i64 (qM x.heap.fin), .bool x.closing, .bool x.fin, .bool x.qp, .bool x.ended, .int .i64 x.now, .int .i64 x.since, .int .i64 x.timed, .int .i64 x.shown]
abbrev agE(x:St)(av uv kv:Value):Value := .agg (arE x av uv kv)
structure RE(S:Nat->Prop)(w:World)(x:St)(av uv kv:Value):Prop where
 ba:Byt S w av x.all
 bu:Byt S w uv x.unread
 hp:∃ L,RPx S w kv x.heap L
section
variable {S S':Nat->Prop} {w w':World} {x:St} {av uv kv:Value} {O:List Nat}
theorem RE.pub(m:RE S w x av uv kv):∀ b,S b->b<w.heap.size:=by obtain⟨L,h⟩:=m.hp;exact h.pub
theorem RE.ext(m:RE S w x av uv kv)(f:Fr O w w')(hO:∀ y∈O,¬ S y)(hS:∀ b,S b->S' b)(hp:∀ b,S' b->b<w'.heap.size):RE S' w' x av uv kv:=by
 obtain⟨L,h⟩:=m.hp;exact⟨(m.ba.fr f hO).mono hS,(m.bu.fr f hO).mono hS,L,h.ext f hO hS hp⟩
theorem RE.fr(m:RE S w x av uv kv)(f:Fr [] w w'):RE S w' x av uv kv:=m.ext f zs (fun _ h=>h) (fun b hb=>Nat.lt_of_lt_of_le (m.pub b hb) f.size)
theorem RE.to_{y:St}(m:RE S w x av uv kv)(h1:y.all=x.all)(h2:y.unread=x.unread)(h3:y.heap=x.heap):RE S w y av uv kv:=⟨h1▸m.ba,h2▸m.bu,h3▸m.hp⟩
end
theorem qce(b:Bool)(w:World):Calls Tryz.prog 82 #[.bool b] w fun e w'=>e = .returned (.int .i64 (one b))/\w=w':=by
 cases b;all_goals
  go_enter Tryz.func82,Tryz.ntmps82;go_wp2
  go_ret;exact⟨rfl,rfl⟩
theorem vO(n m:Int)(w:World)(h0:0<=n)(h1:n<4294967296)(h2:0<=m)(h3:m<=9000000000000000000):Calls Tryz.prog 103 #[.int .u32 n, .int .i64 m] w fun e w'=>e = .returned (.int .u32 (add32 n m))/\w=w':=by
 have q1:IntKind.i64.wrap n=n:=IntWalk.i64_in _ zw;have q2:IntKind.i64.wrap (n+m)=n+m:=IntWalk.i64_in _ zw;have q3:(n+m).tmod 4294967296=add32 n m:=by unfold add32;rw [Int.tmod_eq_emod_of_nonneg zw]
 have q4:IntKind.u32.wrap (add32 n m)=add32 n m:=by rw [wrap32];unfold add32;omega
 have q5:add32 n m % 4294967296=add32 n m:=by unfold add32;omega
 have q6:IntKind.i64.wrap (add32 n m)=add32 n m:=IntWalk.i64_in _ (by unfold add32;omega);clear h0 h1 h2 h3;generalize add32 n m=r at *
 go_enter Tryz.func103,Tryz.ntmps103;go_wp2
 go_ret;exact⟨rfl,rfl⟩
abbrev agP(p:Prt)(dv:Value):Value := .agg #[.int .i64 p.flags, .int .u32 p.seq, .int .u32 p.ack, .int .u16 p.win,dv]
def qZ(S:Nat->Prop)(w:World)(H:Hd)(x':St)(p:Prt)(e:Ending)(w':World):Prop:=
 ∃ S' A c,e = .returned (agP p (.slice A p.d.length c))/\Ext w S S'/\Byt S' w' (.slice A p.d.length c) p.d/\SI S' w' H x'/\Fr [H.g] w w'
theorem qal(x:St):0<=qK x/\qK x<=1024:=by
 unfold qK Win.xg;split
 ·simp
 ·split <;> simp <;> omega
theorem SI.shown{S:Nat->Prop}{w w':World}{H:Hd}{x:St}(m:SI S w H x):SI S (w.setCell ⟨H.g,24,none⟩ (.int .i64 (qK x))) H (shows x):=
 m.set ((Fr.refl [H.g] w).setCell (p:=⟨H.g,24,none⟩) (.inl zs) _) (by simpa [shows] using m.blk.qO 24 (.int .i64 (qK x))) rfl rfl rfl rfl rfl
theorem SI.pubd{S:Nat->Prop}{w w':World}{H:Hd}{x:St}{A:Option Addr}{c:Nat}{d:List Int}(m:SI S w H x)(f:Fr [] w w')(own:w'.ownsRow 0 5 1 (.slice A d.length c) d.length (kE d))(fb:∀ b,(Value.slice A d.length c).ownBlock=some b->w.heap.size<=b) :
  ∃ S',Ext w S S'/\Byt S' w' (.slice A d.length c) d/\SI S' w' H x:=by
 have e:Ext w S (fun b=>S b\/(Value.slice A d.length c).ownBlock=some b):=⟨fun b h => .inl h,fun b h=>h.imp id (fb b)⟩;refine⟨_,e,Sl.kW own (fun b h => .inr h),m.ext f e fun b hb=>?_⟩;rcases hb with h|h
 ·exact Nat.lt_of_lt_of_le (HP.zA m.hp b h) f.size
 ·exact kG own h
theorem set5{w:World}{b:Nat}{t:TypeId}{v0 v1 v2 v3 v4:Value}(B:Blk w b t #[v0,v1,v2,v3,v4])(u0 u1 u2 u3 u4:Value):Blk (((((w.setCell ⟨b,0,none⟩ u0).setCell ⟨b,1,none⟩ u1).setCell ⟨b,2,none⟩ u2).setCell ⟨b,3,none⟩ u3).setCell ⟨b,4,none⟩ u4) b t #[u0,u1,u2,u3,u4]:=by
 simpa using ((((B.qO 0 u0).qO 1 u1).qO 2 u2).qO 3 u3).qO 4 u4
theorem fr5{O:List Nat}{a w:World}{b:Nat}(h:Fr O a w)(hp:b∈O\/a.heap.size<=b)(u0 u1 u2 u3 u4:Value):Fr O a (((((w.setCell ⟨b,0,none⟩ u0).setCell ⟨b,1,none⟩ u1).setCell ⟨b,2,none⟩ u2).setCell ⟨b,3,none⟩ u3).setCell ⟨b,4,none⟩ u4):=
 ((((h.setCell hp _).setCell hp _).setCell hp _).setCell hp _).setCell hp _
theorem cells5{w:World}{b:Nat}{t:TypeId}{v0 v1 v2 v3 v4:Value}(h:Blk w b t #[v0,v1,v2,v3,v4]):w.cell? ⟨b,0,none⟩=some v0/\w.cell? ⟨b,1,none⟩=some v1/\w.cell? ⟨b,2,none⟩=some v2/\w.cell? ⟨b,3,none⟩=some v3/\w.cell? ⟨b,4,none⟩=some v4:=
 ⟨by simpa using h.cell 0,by simpa using h.cell 1,by simpa using h.cell 2,by simpa using h.cell 3,by simpa using h.cell 4⟩
theorem xU{w:World}{b:Nat}{t:TypeId}{cs:Array Value}(h:Blk w b t cs):w.frozen? ⟨b,0,none⟩=false/\w.frozen? ⟨b,1,none⟩=false/\w.frozen? ⟨b,2,none⟩=false/\w.frozen? ⟨b,3,none⟩=false/\w.frozen? ⟨b,4,none⟩=false:=⟨h.frozen 0,h.frozen 1,h.frozen 2,h.frozen 3,h.frozen 4⟩
abbrev zJ:Array Value:=#[.int .i64 0, .int .u32 0, .int .u32 0, .int .u16 0, .slice none 0 0]
theorem qmi{S:Nat->Prop}{w w2 w5 W:World}{H:Hd}{x:St}{p:Prt}{A:Option Addr}{c:Nat}(m:SI S w H x)(m2:SI S w2 H (shows x))(f2:Fr [H.g] w w2)(f:Fr [] w2 w5)(own:w5.ownsRow 0 5 1 (.slice A p.d.length c) p.d.length (kE p.d))(fb:∀ b,(Value.slice A p.d.length c).ownBlock=some b->w2.heap.size<=b)
  (hr:w.heap.size<w2.heap.size) (f6:Fr [w.heap.size] w5 W):qZ S w H (shows x) p (.returned (agP p (.slice A p.d.length c))) W:=by
 obtain⟨S',e,by5,m5⟩:=m2.pubd f own fb;have hz:=f2.size;have hnS:¬ S' w.heap.size:=fun hs=>by
  rcases e.2 _ hs with h|h
  ·have:=HP.zA m.hp _ h;omega
  ·omega
 have hO:∀ y∈[w.heap.size],¬ S' y:=fun y hy=>by simp at hy;subst hy;exact hnS
 have hne:∀ y∈H.own,y≠w.heap.size:=fun y hy=>by have:=m.lt y hy;omega
 have hmem:∀ {y},(y=H.g\/y=H.gw\/y=H.gc\/y=H.gh\/y∈ob H.kv\/y∈ob H.bv\/y∈ob H.uv)->y∉[w.heap.size]:=fun {y} hy=>by
  simp;exact hne y (by simp only [Hd.own,List.mem_cons,List.mem_append];rcases hy with h|h|h|h|h|h|h <;> simp [h])
 refine⟨S',A,c,rfl,kM e hz,by5.fr f6 hO,⟨m5.blk.fr f6 (hmem zs),Blk.fr m5.win f6 (hmem zs),Blk.fr m5.clk f6 (hmem zs),m5.hp.ext' f6 (Ext.refl w5 S') hO (fun y hy=>hmem (by rcases List.mem_cons.1 hy with h|h <;> simp [h])) (fun b hb=>Nat.lt_of_lt_of_le (HP.zA m5.hp b hb) f6.size),
  qA m5.buf f6 (fun b hb=>hmem (by simp [qo.2 hb])),qA m5.unr f6 (fun b hb=>hmem (by simp [qo.2 hb])),m5.nS,m5.bu⟩,(f2.trans (f.mono zs) (fun y hy => .inl hy)).trans f6 (fun y hy => .inr (by simp at hy;omega))⟩
theorem keep2{O:List Nat}{w w':World}{p q:Addr}{u v:Value}(F:Fr O w w')(a0:w.cell? p=some u)(a1:w.cell? q=some v)(h0:p.block∉O)(h1:q.block∉O):w'.cell? p=some u/\w'.cell? q=some v:=
 ⟨(F.cell (World.block_lt_of_cell? w _ a0) h0).trans a0,(F.cell (World.block_lt_of_cell? w _ a1) h1).trans a1⟩
theorem yu{S:Nat->Prop}{w:World}{H:Hd}{x:St}(m:SI S w H x)(hi:Inv x.heap)(hu:x.unread.length<=100000)(f a:Int)(hf:f=0\/f=4\/f=8)(h0:0<=a)(h1:a<=4611686018427387904)(dv:Value)(d:List Int)(T:Nat->Prop)(hd:Byt T w dv d)(hT:∀ b,T b->b≠H.g)(hl:d.length<=1000000) :
  Calls Tryz.prog 79 #[ptr H.g, .int .i64 f, .int .i64 a,dv] w (qZ S w H (shows x) (kz x (2+f) a d)):=by
 obtain⟨dA,dc,rfl,_,_⟩:=hd.form;have hgl:=m.blk.lt;have f0:Fr [] w (w.alloc (.cells zJ 49)):=(Fr.refl [] w).alloc _;have b0:Blk (w.alloc (.cells zJ 49)) w.heap.size 49 zJ:=Blk.new w _ _;have m0:=m.fr f0;have hroom:=qes m0 hi hu;have M:=hI m;have M0:=hI m0;have HD:=hI hd;have B0:=hI b0;have HI:=hI hi;have HR:=hI hroom;have ha:IntKind.i64.wrap (1+a)=1+a:=IntWalk.i64_in _ zw;have hrb:=qal x;clear m m0 hd b0 hi hroom;go_enter Tryz.func79,Tryz.ntmps79;go_wp2_with fail
 refine HR.out.mono ?_;rintro e w1 ⟨rfl,f1⟩;have m1:=M0.out.fr f1;have M1:=hI m1;have c1:=qm m1.blk;have z24:w1.frozen? ⟨H.g,24,none⟩=false:=m1.blk.frozen 24;have hg1:=m1.blk.lt;have y24:=c1.c24;have B1:=hI (B0.out.fr f1 zs);have hs1:w.heap.size<w1.heap.size:=by have:=f1.size;simp at this;omega
 have F1:=hI (f0.trans f1 zs);clear m1 f1 f0 c1;go_upto_region 2 with fail
 have m2:=M1.out.shown (w':=w1);have f2:Fr [H.g] w1 (w1.setCell ⟨H.g,24,none⟩ (.int .i64 (qK x))):=(Fr.refl [H.g] w1).setCell (p:=⟨H.g,24,none⟩) (.inl zs) _;have b2:=B1.out.fr f2 zv;have hs2:w.heap.size<(w1.setCell ⟨H.g,24,none⟩ (.int .i64 (qK x))).heap.size:=Nat.lt_of_lt_of_le hs1 f2.size;have F2:Fr [H.g] w (w1.setCell ⟨H.g,24,none⟩ (.int .i64 (qK x))):=(F1.out.mono zs).trans f2 (fun y hy => .inl hy);generalize w1.setCell ⟨H.g,24,none⟩ (.int .i64 (qK x))=w2 at *
 have c2:=qm m2.blk;have c13:=c2.c13;have c24:=c2.c24;have HD2:=hI (HD.out.fr F2 (fun y hy hs=>by simp at hy;subst hy;exact hT _ hs rfl));have hrs:(shows x).shown=qK x:=rfl;have his:(shows x).isn=x.isn:=rfl;rw [his] at c13;rw [hrs] at c24;have M2:=hI m2;have B2:=hI b2;have FF2:=hI F2;have HAw:Hid (∀ W,Fr [] w2 W->Calls Tryz.prog 64 #[ptr H.g] W fun e w'=>e = .returned (.int .u32 (ku x))/\Fr [] W w'):=hI (fun W fW=>by have h:=y9 (x:=shows x) (M2.out.fr fW) HI.out;exact h);have HCl:Hid (∀ W,Fr [] w2 W->Calls Tryz.prog 40 #[.slice dA d.length dc] W _):=hI (fun W fW=>kZ W (HD2.out.fr fW zs) hl);have hw1:=qcd x.isn (1+a);have hw2:IntKind.u16.wrap (qK x)=qK x:=by rw [qcc];omega
 have hb0:bits BinOp.or IntKind.i64 2 0=2:=zd;have hb4:bits BinOp.or IntKind.i64 2 4=6:=zd;have hb8:bits BinOp.or IntKind.i64 2 8=10:=zd;clear m2 c2 b2 F2 f2 z24 y24 M0 M1 HR B0 B1 hs1 F1 hg1 hrb hrs his HD hT;have SEE:Hid (∀ W,Fr [] w2 W->W.cell? ⟨H.g,13,none⟩=some (.int .u32 x.isn)/\W.cell? ⟨H.g,24,none⟩=some (.int .i64 (qK x))):=hI (fun W fW=>⟨ql fW c13,ql fW c24⟩);generalize hrvx:qK x=rv at *
 generalize hawx:ku x=aw at *
 have n1:H.g≠w.heap.size:=zw;have NR:Hid (H.g∉[w.heap.size]):=hI (by simpa using n1);obtain⟨z0,z1,z2,z3,z4⟩:=xU B2.out;obtain⟨y0,y1,y2,y3,y4⟩:=cells5 B2.out;go_cut [] (fun wx=>∃(w5:World) (A:Option Addr) (c:Nat),Fr [] w2 w5/\w5.ownsRow 0 5 1 (.slice A d.length c) d.length (kE d)/\(∀ b,(Value.slice A d.length c).ownBlock=some b->w2.heap.size<=b)/\Fr [w.heap.size] w5 wx/\Blk wx w.heap.size 49 #[.int .i64 (2+f), .int .u32 (add32 x.isn (1+a)), .int .u32 aw, .int .u16 rv, .slice A d.length c]);case first=>
  rcases hf with rfl|rfl|rfl;all_goals
   go_region_held3 (fun w'=>w'.cell? ⟨H.g,13,none⟩=some (.int .u32 x.isn)/\w'.cell? ⟨H.g,24,none⟩=some (.int .i64 rv))
    (first
     | (with_reducible exact keep2 (fr5 (b:=w.heap.size) (Fr.refl [w.heap.size] w5) (Or.inl zs) _ _ _ _ _) s0 s1 NR.out NR.out)|(with_reducible exact SEE.out _ f5)|(with_reducible exact SEE.out _ f4)|(with_reducible exact SEE.out _ f3)|(with_reducible exact SEE.out _ (Fr.refl [] w2).drew)
     | go_keep)
    (first
     | (go_at_call 64;refine (HAw.out _ (Fr.refl [] w2).drew).mono ?_;rintro e w3 ⟨rfl,f3'⟩;have f3:Fr [] w2 w3:=(Fr.refl [] w2).drew.trans f3' zs;clear f3')|(go_at_call 40;refine (HCl.out _ f3).mono ?_;rintro e w5 ⟨A5,c5,rfl,own5,f5',fb5⟩;have f5:Fr [] w2 w5:=f3.trans f5' zs;have fb:∀ b,(Value.slice A5 d.length c5).ownBlock=some b->w2.heap.size<=b:=fun b hb=>Nat.le_trans f3.size (fb5 b hb);have b5:=B2.out.fr f5 zs;obtain⟨p0,p1,p2,p3,p4⟩:=cells5 b5;obtain⟨q0,q1,q2,q3,q4⟩:=xU b5;obtain⟨s0,s1⟩:=SEE.out _ f5;have O5:=hI own5;have FB:=hI fb;have B5:=hI b5;clear own5 f5' fb5 fb b5)|(go_at_call 40;refine (HCl.out _ (Fr.refl [] w2).drew).mono ?_;rintro e w4 ⟨A5,c5,rfl,own4,f4',fb4⟩;have f4:Fr [] w2 w4:=(Fr.refl [] w2).drew.trans f4' zs;have O4:=hI own4;have FB4:=hI fb4;clear f4' own4 fb4)|(go_at_call 64;refine (HAw.out _ f4).mono ?_;rintro e w5 ⟨rfl,f5'⟩;have f5:Fr [] w2 w5:=f4.trans f5' zs;have own5:=qA O4.out f5' zs;have b5:=B2.out.fr f5 zs;obtain⟨p0,p1,p2,p3,p4⟩:=cells5 b5;obtain⟨q0,q1,q2,q3,q4⟩:=xU b5;obtain⟨s0,s1⟩:=SEE.out _ f5;have O5:=hI own5;have FB:Hid (∀ b,(Value.slice A5 d.length c5).ownBlock=some b->w2.heap.size<=b):=FB4;have B5:=hI b5;clear own5 f5' b5))
   all_goals
    go_wp2_with fail
    go_meet;exact⟨w5,A5,c5,f5,O5.out,FB.out,fr5 (b:=w.heap.size) (Fr.refl [w.heap.size] w5) (Or.inl zs) _ _ _ _ _,set5 B5.out _ _ _ _ _⟩
 case rest=>
  obtain⟨w5,A5,c5,f5,own5,fb5,f6,B6⟩:=hcut;have hpost:=qmi (p:=kz x (2+f) a d) M.out M2.out FF2.out f5 own5 fb5 hs2 f6;obtain⟨r0,r1,r2,r3,r4⟩:=cells5 B6;have HPost:=hI hpost;have HV:Hid (agP (kz x (2+f) a d) (.slice A5 d.length c5) = .agg #[.int .i64 (2+f), .int .u32 (add32 x.isn (1+a)), .int .u32 aw, .int .u16 rv, .slice A5 d.length c5]):=hI (by unfold kz;rw [hawx,hrvx]);clear f5 own5 fb5 f6 hpost y0 y1 y2 y3 y4 z0 z1 z2 z3 z4;go_wp2_with fail
  refine bodyPost_ret (v := .agg #[.int .i64 (2+f), .int .u32 (add32 x.isn (1+a)), .int .u32 aw, .int .u16 rv, .slice A5 d.length c5]) (by simp [results,Tryz.results79,go_sem,r0,r1,r2,r3,r4]) rfl ?_;rw [<- HV.out];exact HPost.out
@[go_sem] theorem field_win0 (a b c d:Int) (W:World):(Instr.field 32 (.agg #[.int .i64 a, .int .i64 b, .int .i64 c, .int .i64 d]) 0).run Tryz.prog W = .ok (.int .i64 a) W:=by
 unfold Instr.field;go_simp;rfl
@[go_sem] theorem field_win1 (a b c d:Int) (W:World):(Instr.field 32 (.agg #[.int .i64 a, .int .i64 b, .int .i64 c, .int .i64 d]) 1).run Tryz.prog W = .ok (.int .i64 b) W:=by
 unfold Instr.field;go_simp;rfl
@[go_sem] theorem field_win2 (a b c d:Int) (W:World):(Instr.field 32 (.agg #[.int .i64 a, .int .i64 b, .int .i64 c, .int .i64 d]) 2).run Tryz.prog W = .ok (.int .i64 c) W:=by
 unfold Instr.field;go_simp;rfl
@[go_sem] theorem field_win3 (a b c d:Int) (W:World):(Instr.field 32 (.agg #[.int .i64 a, .int .i64 b, .int .i64 c, .int .i64 d]) 3).run Tryz.prog W = .ok (.int .i64 d) W:=by
 unfold Instr.field;go_simp;rfl
theorem SI.far{S:Nat->Prop}{w w':World}{H:Hd}{x:St}{r:Nat}(m:SI S w H x)(f:Fr [r] w w')(hS:¬ S r)(hn:∀ y∈H.own,y≠r):SI S w' H x:=by
 have hO:∀ y∈[r],¬ S y:=fun y hy=>by simp at hy;subst hy;exact hS
 have hmem:∀ {y},(y=H.g\/y=H.gw\/y=H.gc\/y=H.gh\/y∈ob H.kv\/y∈ob H.bv\/y∈ob H.uv)->y∉[r]:=fun {y} hy=>by
  simp;exact hn y (by simp only [Hd.own,List.mem_cons,List.mem_append];rcases hy with h|h|h|h|h|h|h <;> simp [h])
 exact⟨m.blk.fr f (hmem zs),Blk.fr m.win f (hmem zs),Blk.fr m.clk f (hmem zs),m.hp.ext' f (Ext.refl w S) hO (fun y hy=>hmem (by rcases List.mem_cons.1 hy with h|h <;> simp [h])) (fun b hb=>Nat.lt_of_lt_of_le (HP.zA m.hp b hb) f.size),
  qA m.buf f (fun b hb=>hmem (by simp [qo.2 hb])),qA m.unr f (fun b hb=>hmem (by simp [qo.2 hb])),m.nS,m.bu⟩
theorem res_end{S:Nat->Prop}{w W0 w5 W:World}{H:Hd}{x x':St}{p:Prt}{v:Value}(m:SI S w H x)(f0:Fr [] w W0)(hr:w.heap.size<W0.heap.size)(h:qZ S W0 H x' p (.returned v) w5)(f6:Fr [w.heap.size] w5 W):qZ S w H x' p (.returned v) W:=by
 obtain⟨S',A,c,e,x5,by5,m5,f5⟩:=h;have hnS:¬ S' w.heap.size:=fun hs=>by
  rcases x5.2 _ hs with h|h
  ·have:=HP.zA m.hp _ h;omega
  ·omega
 exact⟨S',A,c,e,kM x5 f0.size,by5.fr f6 (fun y hy=>by simp at hy;subst hy;exact hnS),m5.far f6 hnS (fun y hy=>by have:=m.lt y hy;omega),((f0.mono zs).trans f5 (fun y hy => .inl hy)).trans f6 (fun y hy => .inr (by simp at hy;omega))⟩
def AnsRel(S:Nat->Prop)(w w0:World)(H:Hd)(x':St)(p:Prt)(wx:World):Prop:=
 ∃(w5:World) (A:Option Addr) (c:Nat),qZ S w0 H x' p (.returned (agP p (.slice A p.d.length c))) w5/\Fr [w.heap.size] w5 wx/\Blk wx w.heap.size 49 #[.int .i64 p.flags, .int .u32 p.seq, .int .u32 p.ack, .int .u16 p.win, .slice A p.d.length c]
theorem vG{S:Nat->Prop}{w:World}{H:Hd}{x:St}(m:SI S w H x)(hi:Inv x.heap)(hu:x.unread.length<=100000)(h0:0<=x.win.m)(h1:x.win.m<=4611686018427387000) :
  Calls Tryz.prog 59 #[ptr H.g] w (qZ S w H (shows x) (qJ x)):=by
 have hgl:=m.blk.lt;have ho:=qav x.fin;have f0:Fr [] w (w.alloc (.cells zJ 49)):=(Fr.refl [] w).alloc _;have b0:Blk (w.alloc (.cells zJ 49)) w.heap.size 49 zJ:=Blk.new w _ _;have hr:w.heap.size<(w.alloc (.cells zJ 49)).heap.size:=zs;have m0:=m.fr f0;have ha:IntKind.i64.wrap (x.win.m+one x.fin)=x.win.m+one x.fin:=IntWalk.i64_in _ zw;have hpt:∀ W,Fr [] (w.alloc (.cells zJ 49)) W->Calls Tryz.prog 79 #[ptr H.g, .int .i64 0, .int .i64 (x.win.m+one x.fin), .slice none 0 0] W (qZ S W H (shows x) (qJ x)):=fun W fW=>yu (m0.fr fW) hi hu 0 _ (.inl rfl) zw zw _ [] (fun _=>False) Byt.nil zs zs;go_enter Tryz.func59,Tryz.ntmps59;go_upto_region 1 with fail
 generalize w.alloc (.cells zJ 49)=w0 at *
 have c:=qm m0.blk;have c16:=c.c16;have c19:=c.c19;have HPt:=hI hpt;have HSt:Hid (∀ W,Fr [] w0 W->Calls Tryz.prog 48 #[ptr H.gw] W _):=hI (fun W fW=>Win.kD H.gw x.win W (Blk.fr m0.win fW zs));have HFl:Hid (∀ W,Calls Tryz.prog 80 #[.bool x.fin] W _):=hI (fun W=>qak x.fin W);have SEE:Hid (∀ W,Fr [] w0 W->W.cell? ⟨H.g,16,none⟩=some (ptr H.gw)/\W.cell? ⟨H.g,19,none⟩=some (.bool x.fin)):=hI (fun W fW=>⟨ql fW c16,ql fW c19⟩);have NR:Hid (H.g∉[w.heap.size]):=hI zv;have M:=hI m;have F0:=hI f0;have HRr:=hI hr;have B0:=hI b0;generalize qJ x=p at *
 obtain⟨z0,z1,z2,z3,z4⟩:=xU b0;obtain⟨y0,y1,y2,y3,y4⟩:=cells5 b0;have n1:H.g≠w.heap.size:=zw;clear m m0 f0 hr b0 hpt c;go_cut [] (fun wx=>AnsRel S w w0 H (shows x) p wx);case first=>
  go_region_held3 (fun w'=>w'.cell? ⟨H.g,16,none⟩=some (ptr H.gw)/\w'.cell? ⟨H.g,19,none⟩=some (.bool x.fin))
   (first
    | (with_reducible exact keep2 (fr5 (b:=w.heap.size) (Fr.refl [w.heap.size] w5) (Or.inl zs) _ _ _ _ _) s0 s1 NR.out NR.out)|(with_reducible exact⟨s0,s1⟩)|(with_reducible exact SEE.out _ f3)|(with_reducible exact SEE.out _ (Fr.refl [] w0).drew)
    | go_keep)
   (first
    | (go_at_call 48;refine (HSt.out _ (Fr.refl [] w0).drew).mono ?_;rintro e w3 ⟨rfl,f3'⟩;have f3:Fr [] w0 w3:=(Fr.refl [] w0).drew.trans f3' zs;clear f3')|(go_at_call 80;refine (HFl.out _).mono ?_;rintro e w4 ⟨rfl,rfl⟩)|(go_at_call 79;refine (HPt.out _ f3).mono ?_;rintro e w5 ⟨S5,A5,c5,rfl,x5,by5,m5,f5⟩;have sc:=qm m5.blk;have s0:w5.cell? ⟨H.g,16,none⟩=some (ptr H.gw):=sc.c16;have s1:w5.cell? ⟨H.g,19,none⟩=some (.bool x.fin):=sc.c19;have hb5:=(B0.out.fr f3 zs).fr f5 zv;obtain⟨p0,p1,p2,p3,p4⟩:=cells5 hb5;obtain⟨q0,q1,q2,q3,q4⟩:=xU hb5;have B5:=hI hb5;have X5:=hI x5;have Y5:=hI by5;have M5:=hI m5;have FF5:=hI f5;clear sc hb5 x5 by5 m5 f5))
  all_goals
   go_wp2_with fail
   go_meet;exact⟨w5,A5,c5,⟨S5,A5,c5,rfl,kM X5.out f3.size,Y5.out,M5.out,(f3.mono zs).trans FF5.out (fun y hy => .inl hy)⟩,fr5 (b:=w.heap.size) (Fr.refl [w.heap.size] w5) (Or.inl zs) _ _ _ _ _,set5 B5.out _ _ _ _ _⟩
 case rest=>
  obtain⟨w5,A5,c5,hp5,f6,B6⟩:=hcut;have hpost:=res_end M.out F0.out HRr.out hp5 f6;obtain⟨r0,r1,r2,r3,r4⟩:=cells5 B6;have HPost:=hI hpost;clear hp5 f6 hpost y0 y1 y2 y3 y4 z0 z1 z2 z3 z4;go_wp2_with fail
  refine bodyPost_ret (v := .agg #[.int .i64 p.flags, .int .u32 p.seq, .int .u32 p.ack, .int .u16 p.win, .slice A5 p.d.length c5]) (by simp [results,Tryz.results59,go_sem,r0,r1,r2,r3,r4]) rfl ?_;exact HPost.out
def BegRel(w2:World)(v:Array Value)(s3:Value)(wx:World):Prop:=∃ b3,s3=ptr b3/\w2.heap.size<=b3/\Blk wx b3 49 v/\Fr [] w2 wx
theorem qiy{S:Nat->Prop}{w w2 W:World}{H:Hd}{x:St}{p:Prt}(m:SI S w H x)(m2:SI S w2 H (shows x))(f2:Fr [H.g] w w2)(f:Fr [w.heap.size] w2 W)(hd:p.d=[]):qZ S w H (shows x) p (.returned (agP p (.slice none 0 0))) W:=by
 have hnS:¬ S w.heap.size:=fun hs=>by have:=HP.zA m.hp _ hs;omega
 refine⟨S,none,0,by rw [hd];rfl,Ext.refl w S,by rw [hd];exact Byt.nil,m2.far f hnS (fun y hy=>by have:=m.lt y hy;omega),f2.trans f (fun y hy => .inr (by simp at hy;omega))⟩
theorem qax{S:Nat->Prop}{w:World}{H:Hd}{x:St}(m:SI S w H x)(hi:Inv x.heap)(hu:x.unread.length<=100000) :
  Calls Tryz.prog 23 #[ptr H.g] w (qZ S w H (shows x) (zg x)):=by
 have hgl:=m.blk.lt;have f0:Fr [] w (w.alloc (.cells zJ 49)):=(Fr.refl [] w).alloc _;have b0:Blk (w.alloc (.cells zJ 49)) w.heap.size 49 zJ:=Blk.new w _ _;have m0:=m.fr f0;have hroom:=qes m0 hi hu;have M:=hI m;have M0:=hI m0;have B0:=hI b0;have HI:=hI hi;have HR:=hI hroom;have hrb:=qal x;clear m m0 b0 hi hroom;go_enter Tryz.func23,Tryz.ntmps23;go_wp2_with fail
 refine HR.out.mono ?_;rintro e w1 ⟨rfl,f1⟩;have m1:=M0.out.fr f1;have M1:=hI m1;have c1:=qm m1.blk;have z24:w1.frozen? ⟨H.g,24,none⟩=false:=m1.blk.frozen 24;have hg1:=m1.blk.lt;have y24:=c1.c24;have B1:=hI (B0.out.fr f1 zs);have hs1:w.heap.size<w1.heap.size:=by have:=f1.size;simp at this;omega
 have F1:=hI (f0.trans f1 zs);clear m1 f1 f0 c1;go_upto_region 2 with fail
 have m2:=M1.out.shown (w':=w1);have f2:Fr [H.g] w1 (w1.setCell ⟨H.g,24,none⟩ (.int .i64 (qK x))):=(Fr.refl [H.g] w1).setCell (p:=⟨H.g,24,none⟩) (.inl zs) _;have b2:=B1.out.fr f2 zv;have hs2:w.heap.size<(w1.setCell ⟨H.g,24,none⟩ (.int .i64 (qK x))).heap.size:=Nat.lt_of_lt_of_le hs1 f2.size;have F2:Fr [H.g] w (w1.setCell ⟨H.g,24,none⟩ (.int .i64 (qK x))):=(F1.out.mono zs).trans f2 (fun y hy => .inl hy);generalize w1.setCell ⟨H.g,24,none⟩ (.int .i64 (qK x))=w2 at *
 have c2:=qm m2.blk;have c0:w2.cell? ⟨H.g,0,none⟩=some (.int .i64 x.at_):=c2.c0;have c13:w2.cell? ⟨H.g,13,none⟩=some (.int .u32 x.isn):=c2.c13;have c24:w2.cell? ⟨H.g,24,none⟩=some (.int .i64 (qK x)):=c2.c24;have M2:=hI m2;have B2:=hI b2;have FF2:=hI F2;have hw2:IntKind.u16.wrap (qK x)=qK x:=by rw [qcc];omega
 have hmod:qK x % 65536=qK x:=zw;have HAw:Hid (∀ W,Fr [] w2 W->Calls Tryz.prog 64 #[ptr H.g] W fun e w'=>e = .returned (.int .u32 (ku x))/\Fr [] W w'):=hI (fun W fW=>by have h:=y9 (x:=shows x) (M2.out.fr fW) HI.out;exact h);have hpd:(zg x).d=[]:=by unfold zg;split <;> rfl
 have HPD:=hI hpd;have hbv:zg x=if x.at_=3 then ⟨3,x.isn,ku x,qK x,[]⟩ else ⟨1,x.isn,0,qK x,[]⟩:=rfl;have HBV:=hI hbv;have hg2:=m2.blk.lt;clear m2 c2 b2 F2 f2 z24 y24 M0 M1 HR B0 B1 hs1 F1 hg1 hrb hpd hbv;generalize hrv:qK x=rv at *
 generalize hav:ku x=av at *
 have SEE:Hid (∀ W,Fr [] w2 W->W.cell? ⟨H.g,13,none⟩=some (.int .u32 x.isn)/\W.cell? ⟨H.g,24,none⟩=some (.int .i64 rv)):=hI (fun W fW=>⟨ql fW c13,ql fW c24⟩);go_cut [3] (fun s3 wx=>BegRel w2 #[.int .i64 1, .int .u32 x.isn, .int .u32 0, .int .u16 rv, .slice none 0 0] s3 wx);case first=>
  go_region_held3 (fun w'=>w'.cell? ⟨H.g,13,none⟩=some (.int .u32 x.isn)/\w'.cell? ⟨H.g,24,none⟩=some (.int .i64 rv))
   (first
    | (with_reducible exact SEE.out _ (Fr.refl [] w2).drew)|(with_reducible exact SEE.out _ ((Fr.refl [] w2).drew.alloc _))
    | go_keep)
   (fail)
  all_goals
   go_wp2_with fail
   go_meet;exact⟨w2.heap.size,rfl,Nat.le_refl _,by first|exact Blk.new w2 _ _|exact Blk.new w2.drew _ _|exact (Blk.new w2 _ _).drew,by first|exact (Fr.refl [] w2).alloc _|exact (Fr.refl [] w2).drew.alloc _|exact ((Fr.refl [] w2).alloc _).drew⟩
 case rest=>
  obtain⟨b3,rfl,hb3,B3,f3⟩:=hcut;generalize wc=wx at *
  have d0:=ql f3 c0;have n3:w.heap.size≠b3:=zw;have n3':b3≠w.heap.size:=zw;have n4:H.g≠b3:=zw;have ng:H.g≠w.heap.size:=zw;clear c0 c13 c24 SEE hw2 hmod;by_cases h3:x.at_=3
  ·go_wp2_with fail
   refine (HAw.out _ f3).mono ?_;rintro e w4 ⟨rfl,f4⟩;have f24:Fr [] w2 w4:=f3.trans f4 zs;have b34:=B3.fr f4 zs;have br4:=B2.out.fr f24 zs;obtain⟨y0,y1,y2,y3,y4⟩:=cells5 b34;obtain⟨z0,z1,z2,z3,z4⟩:=xU b34;obtain⟨p0,p1,p2,p3,p4⟩:=cells5 br4;obtain⟨q0,q1,q2,q3,q4⟩:=xU br4;have HB:=hI br4;have F24:=hI f24;have hb:=HBV.out;rw [if_pos h3] at hb;have HB':=hI hb;clear f3 f4 f24 b34 br4 B3 d0 hb;go_wp2_with fail
   have f5:Fr [w.heap.size] w2 ((w4.setCell ⟨b3,0,none⟩ (.int .i64 3)).setCell ⟨b3,2,none⟩ (.int .u32 av)):=(((F24.out.mono zs).setCell (p:=⟨b3,0,none⟩) (.inr hb3) _).setCell (p:=⟨b3,2,none⟩) (.inr hb3) _);have b5:=(HB.out.far (p:=⟨b3,0,none⟩) n3 (.int .i64 3)).far (p:=⟨b3,2,none⟩) n3 (.int .u32 av);have B6:=set5 b5 (.int .i64 3) (.int .u32 x.isn) (.int .u32 av) (.int .u16 rv) (.slice none 0 0);have f6:=fr5 (b:=w.heap.size) f5 (.inl zs) (.int .i64 3) (.int .u32 x.isn) (.int .u32 av) (.int .u16 rv) (.slice none 0 0);have hpost:=qiy (p:=zg x) M.out M2.out FF2.out f6 HPD.out;rw [HB'.out] at hpost;obtain⟨r0,r1,r2,r3,r4⟩:=cells5 B6;refine bodyPost_ret (v := .agg #[.int .i64 3, .int .u32 x.isn, .int .u32 av, .int .u16 rv, .slice none 0 0]) (by simp [results,Tryz.results23,go_sem,r0,r1,r2,r3,r4]) rfl ?_;rw [HB'.out];exact hpost
  ·obtain⟨y0,y1,y2,y3,y4⟩:=cells5 B3
   have br4:=B2.out.fr f3 zs;obtain⟨p0,p1,p2,p3,p4⟩:=cells5 br4;obtain⟨q0,q1,q2,q3,q4⟩:=xU br4;have HB:=hI br4;have F24:=hI f3;have hb:=HBV.out;rw [if_neg h3] at hb;have HB':=hI hb;clear f3 br4 B3 hb;go_wp2_with fail
   have B6:=set5 HB.out (.int .i64 1) (.int .u32 x.isn) (.int .u32 0) (.int .u16 rv) (.slice none 0 0);have f6:=fr5 (b:=w.heap.size) (F24.out.mono (O':=[w.heap.size]) zs) (.inl zs) (.int .i64 1) (.int .u32 x.isn) (.int .u32 0) (.int .u16 rv) (.slice none 0 0);have hpost:=qiy (p:=zg x) M.out M2.out FF2.out f6 HPD.out;rw [HB'.out] at hpost;obtain⟨r0,r1,r2,r3,r4⟩:=cells5 B6;refine bodyPost_ret (v := .agg #[.int .i64 1, .int .u32 x.isn, .int .u32 0, .int .u16 rv, .slice none 0 0]) (by simp [results,Tryz.results23,go_sem,r0,r1,r2,r3,r4]) rfl ?_;rw [HB'.out];exact hpost
section
variable {S:Nat->Prop} {w w':World} {H:Hd} {x:St}
theorem SI.zB(m:SI S w H x){c:Rto.Ck}(f:Fr [H.gc] w w')(C:Rto.Clk w' H.gc c):SI S w' H { x with clk:=c }:=by
 have hO:∀ y∈[H.gc],¬ S y:=fun y hy=>by simp at hy;subst hy;exact m.nS _ (.inr (.inr (.inl rfl)))
 have nk:∀ y∈H.gh::ob H.kv,y≠H.gc:=by
  obtain⟨ev,L,n⟩:=m.hp;intro y hy;rcases List.mem_cons.1 hy with rfl|hy
  ·exact kP n.blk m.clk zd
  ·rintro rfl;exact own_ne n.kp.own m.clk zd (qo.1 hy)
 exact⟨m.blk.fr f (by simpa using fun e=>m.xR e.symm),Blk.fr m.win f (by simpa using kP m.win m.clk zd),C,m.hp.ext' f (Ext.refl w S) hO (fun y hy=>by simpa using nk y hy) (fun b hb=>Nat.lt_of_lt_of_le (HP.zA m.hp b hb) f.size),
  qA m.buf f (fun b hb=>by simp;rintro rfl;exact own_ne m.buf m.clk zd hb),qA m.unr f (fun b hb=>by simp;rintro rfl;exact own_ne m.unr m.clk zd hb),m.nS,m.bu⟩
theorem SI.setw(m:SI S w H x){v:Win.Wn}(f:Fr [H.gw] w w')(C:Win.Win w' H.gw v true)(ha:v.a=x.win.a):SI S w' H { x with win:=v }:=by
 have hO:∀ y∈[H.gw],¬ S y:=fun y hy=>by simp at hy;subst hy;exact m.nS _ (.inr (.inl rfl))
 have nk:∀ y∈H.gh::ob H.kv,y≠H.gw:=by
  obtain⟨ev,L,n⟩:=m.hp;intro y hy;rcases List.mem_cons.1 hy with rfl|hy
  ·exact kP n.blk m.win zd
  ·rintro rfl;exact own_ne n.kp.own m.win zd (qo.1 hy)
 have hb:kw { x with win:=v }=kw x:=by unfold kw;rw [ha]
 exact⟨m.blk.fr f (by simpa using fun e=>m.qeq e.symm),C,Blk.fr m.clk f (by simpa using kP m.clk m.win zd),m.hp.ext' f (Ext.refl w S) hO (fun y hy=>by simpa using nk y hy) (fun b hb=>Nat.lt_of_lt_of_le (HP.zA m.hp b hb) f.size),
  by rw [hb];exact qA m.buf f (fun b hb=>by simp;rintro rfl;exact own_ne m.buf m.win zd hb),qA m.unr f (fun b hb=>by simp;rintro rfl;exact own_ne m.unr m.win zd hb),m.nS,m.bu⟩
end
theorem qmj{S:Nat->Prop}{w:World}{H:Hd}{x:St}(m:SI S w H x):Calls Tryz.prog 60 #[ptr H.g] w fun e w'=>e = .returned (.bool (kT x))/\Fr [] w w':=by
 have c:=qm m.blk;have c0:=c.c0;have c7:=c.c7;have c16:=c.c16;have c19:=c.c19;have c20:=c.c20;have hst:=fun W (f:Fr [] w W)=>Win.kD H.gw x.win W (Blk.fr m.win f zs);have hz:=fun W (f:Fr [] w W)=>Win.qit H.gw x.win W (Blk.fr m.win f zs);have hv:kT x=(x.at_ == 2 || (x.at_ == 3 || (x.at_ == 4 && (decide (x.win.a<x.win.m) || (x.fin && !x.qp || Win.zeroV x.win && decide (x.win.a<x.all.length)))))):=rfl;generalize kT x=r at *
 generalize x.fin=fi at *
 generalize x.qp=ac at *
 generalize Win.zeroV x.win=zv at *
 generalize x.at_=at_ at *
 have HSt:=hI hst;have HZ:=hI hz;clear hst hz c m;by_cases h2:at_=2
 ·subst h2
  obtain rfl:r=true:=by rw [hv];rfl
  clear hv;go_enter Tryz.func60,Tryz.ntmps60;go_wp2_with fail
  refine (HSt.out _ (Fr.refl [] w)).mono ?_;rintro e w1 ⟨rfl,f1⟩;have d0:=ql f1 c0;have hl:=World.block_lt_of_cell? w1 _ d0;go_wp2_with fail
  go_ret;exact⟨rfl,f1.alloc _⟩
 by_cases h3:at_=3
 ·subst h3
  obtain rfl:r=true:=by rw [hv];rfl
  clear hv;go_enter Tryz.func60,Tryz.ntmps60;go_wp2_with fail
  refine (HSt.out _ (Fr.refl [] w)).mono ?_;rintro e w1 ⟨rfl,f1⟩;have d0:=ql f1 c0;have hl:=World.block_lt_of_cell? w1 _ d0;go_wp2_with fail
  go_ret;exact⟨rfl,f1.alloc _⟩
 by_cases h4:at_=4
 ·subst h4
  have hv':r=(decide (x.win.a<x.win.m) || (fi && !ac || zv && decide (x.win.a<x.all.length))):=by rw [hv];rfl
  have HV:=hI hv';clear hv hv';go_enter Tryz.func60,Tryz.ntmps60;go_wp2_with fail
  refine (HSt.out _ (Fr.refl [] w)).mono ?_;rintro e w1 ⟨rfl,f1⟩;have d0:=ql f1 c0;have hl:=World.block_lt_of_cell? w1 _ d0;go_upto_region 7 with fail
  have f2:Fr [] w (w1.alloc (.cells #[.int .i64 x.win.a, .int .i64 x.win.s, .int .i64 x.win.m, .int .i64 x.win.l] 32)):=f1.alloc _;have b2:=Blk.new w1 32 #[.int .i64 x.win.a, .int .i64 x.win.s, .int .i64 x.win.m, .int .i64 x.win.l];generalize w1.alloc (.cells #[.int .i64 x.win.a, .int .i64 x.win.s, .int .i64 x.win.m, .int .i64 x.win.l] 32)=w2 at *
  obtain⟨p0,p1,p2,p3⟩:w2.cell? ⟨w1.heap.size,0,none⟩=some (.int .i64 x.win.a)/\w2.cell? ⟨w1.heap.size,1,none⟩=some (.int .i64 x.win.s)/\w2.cell? ⟨w1.heap.size,2,none⟩=some (.int .i64 x.win.m)/\w2.cell? ⟨w1.heap.size,3,none⟩=some (.int .i64 x.win.l):=⟨by simpa using b2.cell 0,by simpa using b2.cell 1,by simpa using b2.cell 2,by simpa using b2.cell 3⟩;have y0:=Grew.cell p0;have y2:=Grew.cell p2;have y7:=Grew.cell (ql f2 c7);have y16:=Grew.cell (ql f2 c16);have y19:=Grew.cell (ql f2 c19);have y20:=Grew.cell (ql f2 c20);have hzg:∀ p:Grew w2,Calls Tryz.prog 98 #[ptr H.gw] p.W fun e w'=>e = .returned (.bool zv)/\∃ q:Grew w2,w'=q.W:=fun p=>qG (HZ.out _ (f2.trans p.fr zs));have HZG:=hI hzg;have F2:=hI f2;clear b2 p0 p1 p2 p3 hzg f1 f2 c0 c7 c16 c19 c20 d0 hl HZ HSt h2 h3;by_cases hA:x.win.a<x.win.m
  ·obtain rfl:r=true:=by rw [HV.out];simp [hA]
   refine qg zk zk ?_;repeat (go_big_quiet_step ((go_at_call 98;exact HZG.out _)))
   refine wpQuiet_nil ?_;intro W1 f1;go_wp2_with fail
   go_ret;exact⟨rfl,F2.out.trans f1 zs⟩
  ·have hA':decide (x.win.a<x.win.m)=false:=by simpa using hA
   rcases Bool.eq_false_or_eq_true fi with rfl|rfl <;> rcases Bool.eq_false_or_eq_true ac with rfl|rfl <;> rcases Bool.eq_false_or_eq_true zv with rfl|rfl;all_goals
    have hr:=HV.out;rw [hA'] at hr;simp only [Bool.not_true,Bool.not_false,Bool.and_true,Bool.true_and,Bool.and_false,Bool.false_and,Bool.or_false,Bool.false_or,Bool.true_or,Bool.or_true] at hr;subst hr;refine qg zk zk ?_;repeat (go_big_quiet_step ((go_at_call 98;exact HZG.out _)))
    refine wpQuiet_nil ?_;intro W1 f1;go_wp2_with fail
    go_ret;exact⟨rfl,F2.out.trans f1 zs⟩
 ·obtain rfl:r=false:=by rw [hv];simp [h2,h3,h4]
  clear hv;go_enter Tryz.func60,Tryz.ntmps60;go_wp2_with fail
  refine (HSt.out _ (Fr.refl [] w)).mono ?_;rintro e w1 ⟨rfl,f1⟩;have d0:=ql f1 c0;have hl:=World.block_lt_of_cell? w1 _ d0;go_wp2_with fail
  go_ret;exact⟨rfl,f1.alloc _⟩
theorem xM{S:Nat->Prop}{w:World}{H:Hd}{x:St}(m:SI S w H x)(b:Bool):Calls Tryz.prog 74 #[ptr H.g, .bool b] w fun e w'=>e = .returned (.tuple #[])/\SI S w' H (kS x b)/\Fr [H.g] w w':=by
 have c:=qm m.blk;have c0:=c.c0;have c1:=c.c1;have z0:=m.blk.frozen 0;have z1:=m.blk.frozen 1;have M:=hI m;clear m c;go_enter Tryz.func74,Tryz.ntmps74;go_wp2_with fail
 have f:Fr [H.g] w ((w.setCell ⟨H.g,0,none⟩ (.int .i64 5)).setCell ⟨H.g,1,none⟩ (.bool b)):=((Fr.refl [H.g] w).setCell (p:=⟨H.g,0,none⟩) (.inl zs) _).setCell (p:=⟨H.g,1,none⟩) (.inl zs) _;have B:Blk ((w.setCell ⟨H.g,0,none⟩ (.int .i64 5)).setCell ⟨H.g,1,none⟩ (.bool b)) H.g 74 (arS (kS x b) H):=by simpa [kS] using (M.out.blk.qO 0 (.int .i64 5)).qO 1 (.bool b)
 go_end0
 exact⟨rfl,M.out.set f B rfl rfl rfl rfl rfl,f⟩
theorem ack0(v:Win.Wn)(h:0<=v.a)(r:Int):(Win.je v 0 r).1.a=v.a:=by
 unfold Win.je
 (repeat' split) <;> first|rfl|(simp;omega)
theorem qcf{S:Nat->Prop}{w:World}{H:Hd}{x:St}(m:SI S w H x)(r B:Int)(hB:B<=1000000000)(hw:Win.Inv B x.win)(hc:Rto.Inv x.clk)(r0:0<=r)(r1:r<65536) :
  Calls Tryz.prog 90 #[ptr H.g, .int .u16 r] w fun e w'=>e = .returned (.tuple #[])/\SI S w' H (zu x r)/\Fr [H.g,H.gw,H.gc] w w':=by
 have c:=qm m.blk;have c0:=c.c0;have c16:=c.c16;have c17:=c.c17;have z0:=m.blk.frozen 0;have M:=hI m;have hw':=hw;have HW:=hI hw';have HC:=hI hc;obtain⟨i0,_⟩:=hw;have NW:=hI m.qeq;have NC:=hI m.xR;have NWC:=hI (kP m.win m.clk zd);have hcv:IntKind.i64.wrap r=r:=IntWalk.i64_in _ zw;clear m c hw' hc;go_enter Tryz.func90,Tryz.ntmps90;go_wp2_with fail
 have f1:Fr [H.g] w (w.setCell ⟨H.g,0,none⟩ (.int .i64 4)):=(Fr.refl [H.g] w).setCell (p:=⟨H.g,0,none⟩) (.inl zs) _;have B1:Blk (w.setCell ⟨H.g,0,none⟩ (.int .i64 4)) H.g 74 (arS { x with at_:=4 } H):=by simpa using M.out.blk.qO 0 (.int .i64 4)
 have m1:=M.out.set (x':={ x with at_:=4 }) f1 B1 rfl rfl rfl rfl rfl;generalize w.setCell ⟨H.g,0,none⟩ (.int .i64 4)=w1 at *
 refine (Win.qiu H.gw x.win 0 r w1 B hB HW.out m1.win).mono ?_;rintro e w2 ⟨rfl,f2,W2⟩;have m2:=m1.setw f2 W2 (ack0 _ i0 r);have d:=qm m2.blk;have d17:=d.c17;have M2:=hI m2;have F12:=hI ((f1.mono (O':=[H.g,H.gw,H.gc]) zs).trans (f2.mono (O':=[H.g,H.gw,H.gc]) zs) (fun y hy => .inl hy));clear m1 f1 B1 f2 W2 m2 d c0 c16 c17;go_wp2_with fail
 refine (Rto.qL H.gc x.clk w2 M2.out.clk HC.out).mono ?_;rintro e w3 ⟨rfl,f3,C3⟩;have m3:=M2.out.zB f3 C3;have F3:=F12.out.trans (f3.mono (O':=[H.g,H.gw,H.gc]) zs) (fun y hy => .inl hy);have M3:=hI m3;clear m3 f3 C3 d17;go_wp2_with fail
 go_end0
 exact⟨rfl,M3.out,F3⟩
theorem jy{S:Nat->Prop}{w:World}{H:Hd}{x:St}(m:SI S w H x)(hc:Rto.Inv x.clk)(A:Option Addr)(n k:Nat) :
  Calls Tryz.prog 22 #[ptr H.g, .slice A n k] w fun e w'=>e = .returned (.slice A n k)/\SI S w' H (qF x)/\Fr [H.gc] w w':=by
 have hwt:=qmj m;have M:=hI m;have HWt:=hI hwt;have HC:=hI hc;have hv:qF x=if kT x && !x.clk.rn then { x with clk:=(Rto.jW x.clk x.now).1 } else if !kT x && x.clk.rn then { x with clk:=Rto.qW x.clk } else x:=rfl;generalize qF x=y at *
 generalize kT x=wv at *
 clear m hwt hc;have HV:=hI hv;clear hv;go_enter Tryz.func22,Tryz.ntmps22;go_wp2_with fail
 refine HWt.out.mono ?_;rintro e w1 ⟨rfl,f1⟩;have m1:=M.out.fr f1;have d:=qm m1.blk;have d17:=d.c17;have d21:=d.c21;have M1:=hI m1;have F1:=hI f1;clear m1 d f1;go_wp2_with fail
 refine (Rto.qly H.gc x.clk w1 M1.out.clk HC.out).mono ?_;rintro e w2 ⟨rfl,rfl⟩;rcases Bool.eq_false_or_eq_true wv with rfl|rfl <;> rcases Bool.eq_false_or_eq_true x.clk.rn with hr|hr;all_goals
  have hv:=HV.out;rw [hr] at hv |-
  simp only [Bool.not_true,Bool.not_false,Bool.and_true,Bool.true_and,Bool.and_false,Bool.false_and,if_true,if_false,Bool.false_eq_true,reduceIte] at hv;subst hv
 ·go_wp2_with fail
  go_ret;exact⟨rfl,M1.out,F1.out.mono zs⟩
 ·go_upto_region 4 with fail
  go_region_held3 (fun w'=>w'.cell? ⟨H.g,17,none⟩=some (ptr H.gc)/\w'.cell? ⟨H.g,21,none⟩=some (.int .i64 x.now))
   (first
    | (with_reducible exact⟨s0,s1⟩)
    | go_keep)
   (first
    | (go_at_call 62;refine (Rto.qka H.gc x.clk x.now _ (Blk.fr M1.out.clk (Fr.refl [] w1).drew zs) HC.out).mono ?_;rintro e w3 ⟨rfl,f3,C3⟩;have f3':Fr [H.gc] w1 w3:=(Fr.refl [H.gc] w1).drew.trans f3 (fun y hy => .inl hy);have m3:=M1.out.zB f3' C3;have d3:=qm m3.blk;have s0:w3.cell? ⟨H.g,17,none⟩=some (ptr H.gc):=d3.c17;have s1:w3.cell? ⟨H.g,21,none⟩=some (.int .i64 x.now):=d3.c21;have M3:=hI m3;have F3:=hI f3';clear m3 d3 f3 f3' C3))
  go_wp2_with fail
  go_ret;exact⟨rfl,M3.out,(F1.out.mono zs).trans F3.out (fun y hy => .inl hy)⟩
 ·go_wp2_with fail
  refine (Rto.qL H.gc x.clk w1 M1.out.clk HC.out).mono ?_;rintro e w3 ⟨rfl,f3,C3⟩;have M3:=hI (M1.out.zB f3 C3);have F3:=hI f3;clear f3 C3;go_wp2_with fail
  go_ret;exact⟨rfl,M3.out,(F1.out.mono zs).trans F3.out (fun y hy => .inl hy)⟩
 ·go_wp2_with fail
  go_ret;exact⟨rfl,M1.out,F1.out.mono zs⟩
end Go.Proofs.YtmgdbbbdhkfdmaaGreat
