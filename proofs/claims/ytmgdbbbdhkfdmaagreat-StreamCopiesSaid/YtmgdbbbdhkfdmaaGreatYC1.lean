import Derived.Test.YtmgdbbbdhkfdmaaGreatYC0
import Derived.Deep.DeepCutAuto
import Derived.Test.YtmgdbbbdhkfdmaaGreatProg
import Derived.Lib.Hide
import Derived.Lib.SliceRun
import Derived.Laws.Append
import Derived.OwnWalk
set_option linter.unusedSimpArgs false
set_option linter.unusedVariables false
set_option maxHeartbeats 40000000
namespace Go.Proofs.YtmgdbbbdhkfdmaaGreat.Win
set_option maxRecDepth 100000
open Go.RowKit Go.Deep
abbrev agW(x:Wn):Value := .agg #[.int .i64 x.a, .int .i64 x.s, .int .i64 x.m, .int .i64 x.l]
theorem eq33(x y:Wn)(w:World):(Op.equalIn 10000 32 (agW x) (agW y)).run Tryz.prog w = .ok (x.a == y.a && (x.s == y.s && (x.m == y.m && x.l == y.l))) w:=by
 have h1:Tryz.prog.stoodInHeld 32=false:=zk;by_cases h:x.a=y.a <;> by_cases h':x.s=y.s <;> by_cases h'':x.m=y.m <;> by_cases h3:x.l=y.l <;> simp [go_sem,h1,h,h',h'',h3]
theorem eql33(x y:Wn)(w:World):(binOp .eql 32 (agW x) (agW y)).run Tryz.prog w = .ok (.bool (x.a == y.a && (x.s == y.s && (x.m == y.m && x.l == y.l)))) w:=by
 rw [run_eql_struct,eq33];rfl
theorem eqg33(op:BinOp)(x y:Operand)(xs ys:Array Value)(w:World):(eqGuard op 32 x y (.agg xs) (.agg ys)).run Tryz.prog w = .ok () w:=run_eqGuard_agg w op 32 x y xs ys zk
def xg(most held:Int):Int × Int:=if most<0\/65535<most\/held<0\/most<held then (0,2) else if most - held<64/\2 * (most - held)<most then (0,0) else (most - held,0)
theorem qjw(most held:Int)(w:World):Calls Tryz.prog 96 #[.int .i64 most, .int .i64 held] w fun e w'=>e = .returned (.tuple #[.int .i64 (xg most held).1, .int .i64 (xg most held).2])/\w=w':=by
 unfold xg;by_cases h1:most<0
 ·rw [if_pos zw]
  go_enter Tryz.func96,Tryz.ntmps96;go_wp2
  go_ret2
  exact⟨rfl,rfl⟩
 by_cases h2:held<0
 ·rw [if_pos zw]
  go_enter Tryz.func96,Tryz.ntmps96;go_wp2
  go_ret2
  exact⟨rfl,rfl⟩
 by_cases h3:most<held
 ·rw [if_pos zw]
  go_enter Tryz.func96,Tryz.ntmps96;go_wp2
  go_ret2
  exact⟨rfl,rfl⟩
 by_cases h4:65535<most
 ·rw [if_pos zw]
  go_enter Tryz.func96,Tryz.ntmps96;go_wp2
  go_ret2
  exact⟨rfl,rfl⟩
 rw [if_neg zw];by_cases h5:most - held<64
 ·by_cases h6:2 * (most - held)<most
  ·rw [if_pos zw]
   go_enter Tryz.func96,Tryz.ntmps96;go_wp2
   go_ret2
   exact⟨rfl,rfl⟩
  ·rw [if_neg zw]
   go_enter Tryz.func96,Tryz.ntmps96;go_wp2
   go_ret2
   exact⟨rfl,rfl⟩
 ·rw [if_neg zw]
  go_enter Tryz.func96,Tryz.ntmps96;go_wp2
  go_ret2
  exact⟨rfl,rfl⟩
theorem new_win(w:World):Calls Tryz.prog 19 #[] w fun e w'=>e = .returned (ptr w.heap.size)/\Fr [] w w'/\Win w' w.heap.size ⟨0,0,0,0⟩ true/\w.heap.size<w'.heap.size:=by
 go_enter Tryz.func19,Tryz.ntmps19;go_wp2
 go_ret;exact⟨rfl,(Fr.refl _ _).alloc _,Blk.new _ _ _,zs⟩
def eqV(x y:Wn):Bool:=x.a == y.a && (x.s == y.s && (x.m == y.m && x.l == y.l))
theorem qjx(x y:Wn)(w:World):(binOp .eql 32 (agW x) (agW y)).run Tryz.prog w = .ok (.bool (eqV x y)) w:=eql33 x y w
theorem five{w:World}{g:Nat}{x:Wn}(h:Win w g x true) :
  w.cell? ⟨g,0,none⟩=some (.int .i64 x.a)/\w.cell? ⟨g,1,none⟩=some (.int .i64 x.s)/\w.cell? ⟨g,2,none⟩=some (.int .i64 x.m)/\w.cell? ⟨g,3,none⟩=some (.int .i64 x.l)/\w.cell? ⟨g,4,none⟩=some (.bool true):=
 ⟨by simpa using Blk.cell h 0,by simpa using Blk.cell h 1,by simpa using Blk.cell h 2,by simpa using Blk.cell h 3,by simpa using Blk.cell h 4⟩
theorem qlv(g g':Nat)(x x':Wn)(w:World)(m:Win w g x true)(m':Win w g' x' true):Calls Tryz.prog 44 #[ptr g,ptr g'] w fun e w'=>e = .returned (.bool (eqV x x'))/\Fr [] w w':=by
 obtain⟨c0,c1,c2,c3,c4⟩:=five m;obtain⟨d0,d1,d2,d3,d4⟩:=five m';have e1:=qjx x x';have e2:=eqg33;go_enter Tryz.func44,Tryz.ntmps44;go_wp2_with fail
 refine (zC _ _ _ _ m).mono ?_;rintro e w' ⟨rfl,rfl⟩;go_wp2_with fail
 refine (zC _ _ _ _ m').mono ?_;rintro e w' ⟨rfl,rfl⟩;go_wp2_with fail
 go_quiet (fail)
 go_wp2
 go_ret;exact⟨rfl,(Fr.refl _ _).drewN _⟩
end Go.Proofs.YtmgdbbbdhkfdmaaGreat.Win
namespace Go.Proofs.YtmgdbbbdhkfdmaaGreat.Rto
set_option maxRecDepth 100000
open Go.RowKit
structure Ck where
 f:Int
 l:Int
 m:Int
 t:Int
 is:Bool
 tm:Int
 sp:Int
 wt:Int
 si:Int
 tr:Int
 rn:Bool
def jJ(c:Ck):Int:=if c.is then max c.l (min c.m (c.tm / 8+max 1 c.sp)) else c.f
def zI(c:Ck)(n:Int):Ck:=
 if c.is then { c with tm:=c.tm+(n - c.tm / 8),sp:=c.sp+(max (n - c.tm / 8) (-(n - c.tm / 8)) - c.sp / 4) } else { c with is:=true,tm:=8 * n,sp:=2 * n }
def qR(c:Ck)(n:Int):Ck × Int:=
 if n<0\/65536<n then (c,2) else ({ zI c n with wt:=jJ (zI c n) },0)
def jP(c:Ck)(n:Int):Bool:=decide (0<=n) && decide (n<=2147483647) && (!c.rn || decide (c.si<=n))
def jW(c:Ck)(n:Int):Ck × Int:=if jP c n then ({ c with rn:=true,si:=n,tr:=0 },0) else (c,2)
def qW(c:Ck):Ck:={ c with rn:=false,si:=0,tr:=0,wt:=jJ c }
def xh(c:Ck)(n:Int):Bool:=jP c n && (c.rn && decide (c.wt<=n - c.si))
def jB(c:Ck)(n:Int):Ck × Bool × Int:=
 if jP c n then
  if xh c n then
   if c.tr=c.t then ({ c with rn:=false,si:=0 },false,0) else ({ c with tr:=c.tr+1,wt:=min (2 * c.wt) c.m,si:=n },true,0)
  else (c,false,240)
 else (c,false,2)
structure Inv(c:Ck):Prop where
 l1:1<=c.l
 lf:c.l<=c.f
 fm:c.f<=c.m
 m1:c.m<=65536
 t1:1<=c.t
 t2:c.t<=100
 tm0:0<=c.tm
 tm1:c.tm<=524304
 sp0:0<=c.sp
 sp1:c.sp<=262160
 w1:c.l<=c.wt
 w2:c.wt<=c.m
 s0:0<=c.si
 s1:c.si<=2147483647
 r0:0<=c.tr
 r1:c.tr<=c.t
theorem qfr{c:Ck}(h:Inv c):c.l<=jJ c/\jJ c<=c.m:=by
 obtain⟨l1,lf,fm,m1,t1,t2,tm0,tm1,sp0,sp1,w1,w2,s0,s1,r0,r1⟩:=h;unfold jJ;split <;> omega
theorem yO{c:Ck}(h:Inv c){n:Int}(h0:0<=n)(h1:n<=65536):Inv (zI c n):=by
 obtain⟨l1,lf,fm,m1,t1,t2,tm0,tm1,sp0,sp1,w1,w2,s0,s1,r0,r1⟩:=h;unfold zI;split <;> constructor <;> dsimp only <;> omega
theorem kY{c:Ck}(h:Inv c)(n:Int):Inv (qR c n).1:=by
 unfold qR;split
 ·exact h
 ·have hl:=yO h (n:=n) zw zw
  have hk:=qfr hl;obtain⟨l1,lf,fm,m1,t1,t2,tm0,tm1,sp0,sp1,w1,w2,s0,s1,r0,r1⟩:=hl;constructor <;> dsimp only <;> omega
theorem yC{c:Ck}(h:Inv c):Inv (qW c):=by
 have hk:=qfr h;obtain⟨l1,lf,fm,m1,t1,t2,tm0,tm1,sp0,sp1,w1,w2,s0,s1,r0,r1⟩:=h;unfold qW;constructor <;> dsimp only <;> omega
theorem qas{c:Ck}{n:Int}(h:jP c n=true):0<=n/\n<=2147483647:=by
 unfold jP at h;simp at h;omega
theorem qjy{c:Ck}(h:Inv c)(n:Int):Inv (jW c n).1:=by
 unfold jW;split
 ·rename_i hm
  have:=qas hm;obtain⟨l1,lf,fm,m1,t1,t2,tm0,tm1,sp0,sp1,w1,w2,s0,s1,r0,r1⟩:=h;constructor <;> dsimp only <;> omega
 ·exact h
theorem qfs{c:Ck}(h:Inv c)(n:Int):Inv (jB c n).1:=by
 unfold jB;split
 ·rename_i hm
  have:=qas hm;split
  ·split
   ·obtain⟨l1,lf,fm,m1,t1,t2,tm0,tm1,sp0,sp1,w1,w2,s0,s1,r0,r1⟩:=h
    constructor <;> dsimp only <;> omega
   ·obtain⟨l1,lf,fm,m1,t1,t2,tm0,tm1,sp0,sp1,w1,w2,s0,s1,r0,r1⟩:=h
    constructor <;> dsimp only <;> omega
  ·exact h
 ·exact h
def nearN(c:Ck)(n:Int)(near:Bool):Int:=if near=true/\-100<=n/\n<=100 then n+c.si+c.wt else n
def jc(c:Ck)(k n:Int)(near:Bool):Ck:=
 if k=1 then (qR c n).1 else if k=2 then (jW c (nearN c n near)).1 else if k=3 then qW c else if k=4 then (jB c (nearN c n near)).1 else c
def xC(f l m t:Int):Ck:=⟨f,l,m,t,false,0,0,f,0,0,false⟩
theorem qah{f l m t:Int}(h1:1<=l)(h2:l<=f)(h3:f<=m)(h4:m<=65536)(h5:1<=t)(h6:t<=100):Inv (xC f l m t):=by
 unfold xC;constructor <;> dsimp only <;> omega
abbrev ptr(g:Nat):Value := .pointer (some ⟨g,0,none⟩)
abbrev Ck.arr(c:Ck):Array Value:=#[.int .i64 c.f, .int .i64 c.l, .int .i64 c.m, .int .i64 c.t, .bool c.is, .int .i64 c.tm, .int .i64 c.sp, .int .i64 c.wt, .int .i64 c.si, .int .i64 c.tr, .bool c.rn]
def Clk(w:World)(g:Nat)(c:Ck):Prop:=Blk w g 111 c.arr
structure Cells(w:World)(g:Nat)(c:Ck):Prop where
 c0:w.cell? ⟨g,0,none⟩=some (.int .i64 c.f)
 c1:w.cell? ⟨g,1,none⟩=some (.int .i64 c.l)
 c2:w.cell? ⟨g,2,none⟩=some (.int .i64 c.m)
 c3:w.cell? ⟨g,3,none⟩=some (.int .i64 c.t)
 c4:w.cell? ⟨g,4,none⟩=some (.bool c.is)
 c5:w.cell? ⟨g,5,none⟩=some (.int .i64 c.tm)
 c6:w.cell? ⟨g,6,none⟩=some (.int .i64 c.sp)
 c7:w.cell? ⟨g,7,none⟩=some (.int .i64 c.wt)
 c8:w.cell? ⟨g,8,none⟩=some (.int .i64 c.si)
 c9:w.cell? ⟨g,9,none⟩=some (.int .i64 c.tr)
 c10:w.cell? ⟨g,10,none⟩=some (.bool c.rn)
theorem zL{w:World}{g:Nat}{t:TypeId}{c:Ck}(h:Blk w g t c.arr):Cells w g c:=by
 have:=Blk.cell h;exact⟨this 0,this 1,this 2,this 3,this 4,this 5,this 6,this 7,this 8,this 9,this 10⟩
theorem zM(g:Nat)(c:Ck)(w:World)(m:Clk w g c)(hi:Inv c):Calls Tryz.prog 85 #[ptr g] w fun e w'=>e = .returned (.bool false)/\w=w':=by
 have c0:=(zL m).c0;have h:(c.f == 0)=false:=by have:=hi.l1;have:=hi.lf;simp;omega
 go_enter Tryz.func85,Tryz.ntmps85;go_wp2
 go_ret;exact⟨rfl,rfl⟩
theorem qhc(x l m:Int)(w:World):Calls Tryz.prog 120 #[.int .i64 x, .int .i64 l, .int .i64 m] w fun e w'=>e = .returned (.int .i64 (max l (min m x)))/\w=w':=by
 go_enter Tryz.func120,Tryz.ntmps120;go_wp2
 go_ret;exact⟨rfl,rfl⟩
theorem qjz(g:Nat)(c:Ck)(w:World)(m:Clk w g c)(hi:Inv c):Calls Tryz.prog 100 #[ptr g] w fun e w'=>e = .returned (.int .i64 (jJ c))/\∃ k,w'=w.drewN k:=by
 obtain⟨c0,c1,c2,c3,c4,c5,c6,c7,c8,c9,c10⟩:=zL m;obtain⟨l1,lf,fm,m1,t1,t2,tm0,tm1,sp0,sp1,w1,w2,s0,s1,r0,r1⟩:=hi;unfold jJ;cases h:c.is
 ·rw [h] at c4
  clear h;go_enter Tryz.func100,Tryz.ntmps100;go_wp2
  go_ret;exact⟨rfl,0,rfl⟩
 ·rw [h] at c4
  clear h;rw [if_pos rfl];have e1:IntKind.i64.wrap (c.tm / 8)=c.tm / 8:=IntWalk.i64_in _ zw;have e2:IntKind.i64.wrap (c.tm / 8+max 1 c.sp)=c.tm / 8+max 1 c.sp:=IntWalk.i64_in _ zw;go_enter Tryz.func100,Tryz.ntmps100;go_wp2_with fail
  go_quiet ((go_at_call 120;exact zY (qhc _ _ _ _)))
  go_wp2
  go_ret;exact⟨rfl,_,rfl⟩
theorem qek(g:Nat)(c:Ck)(n:Int)(w:World)(m:Clk w g c):Calls Tryz.prog 99 #[ptr g, .int .i64 n] w fun e w'=>e = .returned (.bool (jP c n))/\w=w':=by
 obtain⟨c0,c1,c2,c3,c4,c5,c6,c7,c8,c9,c10⟩:=zL m;by_cases h1:n<0
 ·have e:jP c n=false:=by unfold jP;simp;omega
  rw [e];clear e;go_enter Tryz.func99,Tryz.ntmps99;go_wp2
  go_ret;exact⟨rfl,rfl⟩
 by_cases h2:2147483647<n
 ·have e:jP c n=false:=by unfold jP;simp;omega
  rw [e];clear e;go_enter Tryz.func99,Tryz.ntmps99;go_wp2
  go_ret;exact⟨rfl,rfl⟩
 cases h3:c.rn
 ·have e:jP c n=true:=by unfold jP;simp [h3];omega
  rw [e];rw [h3] at c10;clear e h3;go_enter Tryz.func99,Tryz.ntmps99;go_wp2
  go_ret;exact⟨rfl,rfl⟩
 ·by_cases h4:n<c.si
  ·have e:jP c n=false:=by unfold jP;simp [h3];omega
   rw [e];rw [h3] at c10;clear e h3;go_enter Tryz.func99,Tryz.ntmps99;go_wp2
   go_ret;exact⟨qef zv,rfl⟩
  ·have e:jP c n=true:=by unfold jP;simp [h3];omega
   rw [e];rw [h3] at c10;clear e h3;go_enter Tryz.func99,Tryz.ntmps99;go_wp2
   go_ret;exact⟨rfl,rfl⟩
theorem qka(g:Nat)(c:Ck)(n:Int)(w:World)(m:Clk w g c)(hi:Inv c):Calls Tryz.prog 62 #[ptr g, .int .i64 n] w fun e w'=>e = .returned (.int .i64 (jW c n).2)/\Fr [g] w w'/\Clk w' g (jW c n).1:=by
 obtain⟨c0,c1,c2,c3,c4,c5,c6,c7,c8,c9,c10⟩:=zL m;have z8:=Blk.frozen m 8;have z9:=Blk.frozen m 9;have z10:=Blk.frozen m 10;have hm:=qek g c n w m;unfold jW;cases h:jP c n
 ·rw [if_neg zs]
  rw [h] at hm;go_enter Tryz.func62,Tryz.ntmps62;go_wp2_with (first|(go_at_call 85;refine (zM _ _ _ m hi).mono ?_;rintro e w' ⟨rfl,rfl⟩)|(go_at_call 99;refine hm.mono ?_;rintro e w' ⟨rfl,rfl⟩))
  go_ret;exact⟨rfl,Fr.refl _ _,m⟩
 ·rw [if_pos rfl]
  rw [h] at hm;go_enter Tryz.func62,Tryz.ntmps62;go_wp2_with (first|(go_at_call 85;refine (zM _ _ _ m hi).mono ?_;rintro e w' ⟨rfl,rfl⟩)|(go_at_call 99;refine hm.mono ?_;rintro e w' ⟨rfl,rfl⟩))
  go_ret;refine⟨rfl,Fr.setCell (Fr.setCell (Fr.setCell (Fr.refl _ _) zs _) zs _) zs _,?_⟩;simpa [Clk] using Blk.qO (Blk.qO (Blk.qO m 10 (.bool true)) 8 (.int .i64 n)) 9 (.int .i64 0)
theorem qbx(g:Nat)(c:Ck)(w:World)(m:Clk w g c)(hi:Inv c):Calls Tryz.prog 100 #[ptr g] w fun e w'=>e = .returned (.int .i64 (jJ c))/\Fr [] w w':=
 (qjz g c w m hi).mono fun _ _ ⟨h,k,hk⟩=>⟨h,by rw [hk];exact (Fr.refl _ _).drewN k⟩
theorem qL(g:Nat)(c:Ck)(w:World)(m:Clk w g c)(hi:Inv c):Calls Tryz.prog 63 #[ptr g] w fun e w'=>e = .returned (.int .i64 0)/\Fr [g] w w'/\Clk w' g (qW c):=by
 have hk:=qbx g c;unfold qW;revert hk;generalize jJ c=K;intro hk;have Hk:Hid _:=hk;clear hk;go_enter Tryz.func63,Tryz.ntmps63;go_wp2_with (first|(go_at_call 85;refine (zM _ _ _ m hi).mono ?_;rintro e w' ⟨rfl,rfl⟩))
 refine (Hk.out _ m hi).mono ?_;rintro e w1 ⟨rfl,f1⟩;have m1:Clk w1 g c:=Blk.fr m f1 zs;obtain⟨c0,c1,c2,c3,c4,c5,c6,c7,c8,c9,c10⟩:=zL m1;have z7:=Blk.frozen m1 7;have z8:=Blk.frozen m1 8;have z9:=Blk.frozen m1 9;have z10:=Blk.frozen m1 10;go_wp2_with fail
 go_ret;refine⟨rfl,Fr.setCell (Fr.setCell (Fr.setCell (Fr.setCell (f1.mono zs) zs _) zs _) zs _) zs _,?_⟩;simpa [Clk] using Blk.qO (Blk.qO (Blk.qO (Blk.qO m1 10 (.bool false)) 8 (.int .i64 0)) 9 (.int .i64 0)) 7 (.int .i64 K)
theorem due_clk(g:Nat)(c:Ck)(n:Int)(w:World)(m:Clk w g c)(hi:Inv c):Calls Tryz.prog 72 #[ptr g, .int .i64 n] w fun e w'=>e = .returned (.bool (xh c n))/\∃ k,w'=w.drewN k:=by
 obtain⟨c0,c1,c2,c3,c4,c5,c6,c7,c8,c9,c10⟩:=zL m;have hm:=fun W (mW:Clk W g c)=>qek g c n W mW;have hn:=fun W (mW:Clk W g c)=>zM g c W mW hi;obtain⟨l1,lf,fm,m1,t1,t2,tm0,tm1,sp0,sp1,w1,w2,s0,s1,r0,r1⟩:=hi;unfold xh;have Hn:Hid _:=hn;clear hn;cases h:jP c n
 ·rw [h] at hm
  have Hm:Hid _:=hm;clear hm h;go_enter Tryz.func72,Tryz.ntmps72;go_wp2_with fail
  go_quiet (first|(go_at_call 85;exact zY (Hn.out _ (Blk.drewN m _)))|(go_at_call 99;exact zY (Hm.out _ (Blk.drewN m _))))
  go_wp2
  go_ret;exact⟨rfl,_,rfl⟩
 ·have hb:=qas h
  rw [h] at hm;have Hm:Hid _:=hm;clear hm h;obtain⟨b0,b1⟩:=hb;cases h1:c.rn
  ·rw [h1] at c10
   clear h1;go_enter Tryz.func72,Tryz.ntmps72;go_wp2_with fail
   go_quiet (first|(go_at_call 85;exact zY (Hn.out _ (Blk.drewN m _)))|(go_at_call 99;exact zY (Hm.out _ (Blk.drewN m _))))
   go_wp2
   go_ret;exact⟨rfl,_,rfl⟩
  ·rw [h1] at c10
   clear h1;have e1:IntKind.i64.wrap (n - c.si)=n - c.si:=IntWalk.i64_in _ zw;go_enter Tryz.func72,Tryz.ntmps72;go_wp2_with fail
   go_quiet (first|(go_at_call 85;exact zY (Hn.out _ (Blk.drewN m _)))|(go_at_call 99;exact zY (Hm.out _ (Blk.drewN m _))))
   go_wp2
   go_ret;exact⟨rfl,_,rfl⟩
theorem qlw(g:Nat)(c:Ck)(n:Int)(w:World)(m:Clk w g c)(hi:Inv c):Calls Tryz.prog 72 #[ptr g, .int .i64 n] w fun e w'=>e = .returned (.bool (xh c n))/\Fr [] w w':=
 (due_clk g c n w m hi).mono fun _ _ ⟨h,k,hk⟩=>⟨h,by rw [hk];exact (Fr.refl _ _).drewN k⟩
theorem qkb(g:Nat)(c:Ck)(n:Int)(w:World)(m:Clk w g c)(hi:Inv c)(h:n<0\/65536<n):Calls Tryz.prog 115 #[ptr g, .int .i64 n] w fun e w'=>e = .returned (.int .i64 2)/\w=w':=by
 by_cases h1:n<0
 ·go_enter Tryz.func115,Tryz.ntmps115
  go_wp2_with (first|(go_at_call 85;refine (zM _ _ _ m hi).mono ?_;rintro e w' ⟨rfl,rfl⟩))
  go_ret;exact⟨rfl,rfl⟩
 ·have h2:65536<n:=zw
  clear h;go_enter Tryz.func115,Tryz.ntmps115;go_wp2_with (first|(go_at_call 85;refine (zM _ _ _ m hi).mono ?_;rintro e w' ⟨rfl,rfl⟩))
  go_ret;exact⟨rfl,rfl⟩
theorem qhd(g:Nat)(c:Ck)(n:Int)(w:World)(m:Clk w g c)(hi:Inv c)(h0:0<=n)(h1:n<=65536)(his:c.is=false) :
  Calls Tryz.prog 115 #[ptr g, .int .i64 n] w fun e w'=>e = .returned (.int .i64 0)/\Fr [g] w w'/\Clk w' g { zI c n with wt:=jJ (zI c n) }:=by
 obtain⟨c0,c1,c2,c3,c4,c5,c6,c7,c8,c9,c10⟩:=zL m;have z4:=Blk.frozen m 4;have z5:=Blk.frozen m 5;have z6:=Blk.frozen m 6;have hl:=yO hi h0 h1;have hk:=fun W (mW:Clk W g (zI c n))=>qbx g (zI c n) W mW hl;have hL:zI c n={ c with is:=true,tm:=8 * n,sp:=2 * n }:=by unfold zI;simp [his]
 rw [his] at c4;revert hk;generalize jJ (zI c n)=K;intro hk;have Hk:Hid _:=hk;have HL:Hid _:=hL;clear hk hL his;go_enter Tryz.func115,Tryz.ntmps115;go_wp2_with (first|(go_at_call 85;refine (zM _ _ _ m hi).mono ?_;rintro e w' ⟨rfl,rfl⟩))
 have m1:Clk (((w.setCell ⟨g,4,none⟩ (.bool true)).setCell ⟨g,5,none⟩ (.int .i64 (8 * n))).setCell ⟨g,6,none⟩ (.int .i64 (2 * n))) g (zI c n):=by
  rw [HL.out];simpa [Clk] using Blk.qO (Blk.qO (Blk.qO m 4 (.bool true)) 5 (.int .i64 (8 * n))) 6 (.int .i64 (2 * n))
 have f1:Fr [g] w (((w.setCell ⟨g,4,none⟩ (.bool true)).setCell ⟨g,5,none⟩ (.int .i64 (8 * n))).setCell ⟨g,6,none⟩ (.int .i64 (2 * n))):=Fr.setCell (Fr.setCell (Fr.setCell (Fr.refl _ _) zs _) zs _) zs _;refine (Hk.out _ m1).mono ?_;rintro e w1 ⟨rfl,f2⟩;have m2:Clk w1 g (zI c n):=Blk.fr m1 f2 zs;have f3:=f1.trans f2 zs;have d7:=(zL m2).c7;have z7:=Blk.frozen m2 7;clear m1 f1 f2;go_wp2_with fail
 go_ret;refine⟨rfl,Fr.setCell f3 zs _,?_⟩;simpa [Clk] using Blk.qO m2 7 (.int .i64 K)
theorem qhe(g:Nat)(c:Ck)(n:Int)(w:World)(m:Clk w g c)(hi:Inv c)(h0:0<=n)(h1:n<=65536)(his:c.is=true) :
  Calls Tryz.prog 115 #[ptr g, .int .i64 n] w fun e w'=>e = .returned (.int .i64 0)/\Fr [g] w w'/\Clk w' g { zI c n with wt:=jJ (zI c n) }:=by
 obtain⟨c0,c1,c2,c3,c4,c5,c6,c7,c8,c9,c10⟩:=zL m;have z5:=Blk.frozen m 5;have hl:=yO hi h0 h1;have hk:=fun W (mW:Clk W g (zI c n))=>qbx g (zI c n) W mW hl;have hL:zI c n={ c with tm:=c.tm+(n - c.tm / 8),sp:=c.sp+(max (n - c.tm / 8) (-(n - c.tm / 8)) - c.sp / 4) }:=by unfold zI;simp [his]
 have hi':=hi;obtain⟨l1,lf,fm,m1,t1,t2,tm0,tm1,sp0,sp1,w1,w2,s0,s1,r0,r1⟩:=hi';rw [his] at c4;revert hk;generalize jJ (zI c n)=K;intro hk;have Hk:Hid _:=hk;have HL:Hid _:=hL;clear hk hL his;go_enter Tryz.func115,Tryz.ntmps115;go_wp2_with (first|(go_at_call 85;refine (zM _ _ _ m hi).mono ?_;rintro e w' ⟨rfl,rfl⟩))
 have b1:=Blk.qO m 5 (.int .i64 (c.tm+(n - c.tm / 8)));have f1:Fr [g] w (w.setCell ⟨g,5,none⟩ (.int .i64 (c.tm+(n - c.tm / 8)))):=Fr.setCell (Fr.refl _ _) zs _;generalize w.setCell ⟨g,5,none⟩ (.int .i64 (c.tm+(n - c.tm / 8)))=w1 at *
 have d6:w1.cell? ⟨g,6,none⟩=some (.int .i64 c.sp):=by simpa using Blk.cell b1 6
 have z6:=Blk.frozen b1 6;have x0:IntKind.i64.wrap (n - c.tm / 8)=n - c.tm / 8:=IntWalk.i64_in _ zw;have x1:IntKind.i64.wrap (-(n - c.tm / 8))=-(n - c.tm / 8):=IntWalk.i64_in _ zw;have x2:IntKind.i64.wrap (c.sp / 4)=c.sp / 4:=IntWalk.i64_in _ zw
 go_region
 all_goals go_wp2_with fail
 have m1:Clk ((w1.setCell ⟨g,6,none⟩ (.int .i64 (c.sp+(max (n - c.tm / 8) (-(n - c.tm / 8)) - c.sp / 4)))).drew) g (zI c n):=by
  rw [HL.out];exact Blk.drew (by simpa [Clk] using Blk.qO b1 6 (.int .i64 (c.sp+(max (n - c.tm / 8) (-(n - c.tm / 8)) - c.sp / 4))))
 have f1':Fr [g] w ((w1.setCell ⟨g,6,none⟩ (.int .i64 (c.sp+(max (n - c.tm / 8) (-(n - c.tm / 8)) - c.sp / 4)))).drew):=(Fr.setCell f1 zs _).drew;refine (Hk.out _ m1).mono ?_;rintro e w2 ⟨rfl,f2⟩;have m2:Clk w2 g (zI c n):=Blk.fr m1 f2 zs;have f3:=f1'.trans f2 zs;have d7:=(zL m2).c7;have z7:=Blk.frozen m2 7;clear m1 f1 f2 f1' b1 d6 z6;go_wp2_with fail
 go_ret;refine⟨rfl,Fr.setCell f3 zs _,?_⟩;simpa [Clk] using Blk.qO m2 7 (.int .i64 K)
theorem zD(g:Nat)(c:Ck)(n:Int)(w:World)(m:Clk w g c)(hi:Inv c) :
  Calls Tryz.prog 115 #[ptr g, .int .i64 n] w fun e w'=>e = .returned (.int .i64 (qR c n).2)/\Fr [g] w w'/\Clk w' g (qR c n).1:=by
 unfold qR;by_cases h:n<0\/65536<n
 ·rw [if_pos h]
  exact (qkb g c n w m hi h).mono fun _ _ ⟨e,hw⟩=>by subst hw;exact⟨e,Fr.refl _ _,m⟩
 ·rw [if_neg h]
  cases his:c.is
  ·exact qhd g c n w m hi zw zw his
  ·exact qhe g c n w m hi zw zw his
theorem qlx(g:Nat)(c:Ck)(w:World)(m:Clk w g c)(hi:Inv c):Calls Tryz.prog 50 #[ptr g] w fun e w'=>e = .returned (.int .i64 c.wt)/\w=w':=by
 have c7:=(zL m).c7;go_enter Tryz.func50,Tryz.ntmps50;go_wp2_with (first|(go_at_call 85;refine (zM _ _ _ m hi).mono ?_;rintro e w' ⟨rfl,rfl⟩))
 go_ret;exact⟨rfl,rfl⟩
theorem qly(g:Nat)(c:Ck)(w:World)(m:Clk w g c)(hi:Inv c):Calls Tryz.prog 61 #[ptr g] w fun e w'=>e = .returned (.bool c.rn)/\w=w':=by
 have c10:=(zL m).c10;go_enter Tryz.func61,Tryz.ntmps61;go_wp2_with (first|(go_at_call 85;refine (zM _ _ _ m hi).mono ?_;rintro e w' ⟨rfl,rfl⟩))
 go_ret;exact⟨rfl,rfl⟩
theorem qlz(g:Nat)(c:Ck)(w:World)(m:Clk w g c)(hi:Inv c):Calls Tryz.prog 42 #[ptr g] w fun e w'=>e = .returned (ptr w.heap.size)/\Fr [] w w'/\Clk w' w.heap.size c/\w.heap.size<w'.heap.size:=by
 obtain⟨c0,c1,c2,c3,c4,c5,c6,c7,c8,c9,c10⟩:=zL m;have hl:=Blk.lt m;go_enter Tryz.func42,Tryz.ntmps42;go_wp2_with (first|(go_at_call 85;refine (zM _ _ _ m hi).mono ?_;rintro e w' ⟨rfl,rfl⟩))
 go_ret;exact⟨rfl,(Fr.refl _ _).alloc _,Blk.new _ _ _,zs⟩
theorem qma(g:Nat)(c:Ck)(n:Int)(w:World)(m:Clk w g c)(hi:Inv c) :
  Calls Tryz.prog 73 #[ptr g, .int .i64 n] w fun e w'=>e = .returned (.tuple #[.bool (jB c n).2.1, .int .i64 (jB c n).2.2])/\Fr [g] w w'/\Clk w' g (jB c n).1:=by
 have hm:=qek g c n w m;have hd:=qlw g c n w m hi;unfold jB;cases h:jP c n
 ·rw [if_neg zs]
  rw [h] at hm;go_enter Tryz.func73,Tryz.ntmps73;go_wp2_with (first|(go_at_call 85;refine (zM _ _ _ m hi).mono ?_;rintro e w' ⟨rfl,rfl⟩)|(go_at_call 99;refine hm.mono ?_;rintro e w' ⟨rfl,rfl⟩))
  go_ret2
  exact⟨rfl,Fr.refl _ _,m⟩
 ·rw [if_pos rfl]
  rw [h] at hm;have hb:=qas h;cases h2:xh c n
  ·rw [if_neg zs]
   rw [h2] at hd;go_enter Tryz.func73,Tryz.ntmps73;go_wp2_with (first|(go_at_call 85;refine (zM _ _ _ m hi).mono ?_;rintro e w' ⟨rfl,rfl⟩)|(go_at_call 99;refine hm.mono ?_;rintro e w' ⟨rfl,rfl⟩)|(go_at_call 72;refine hd.mono ?_;rintro e w1 ⟨rfl,f1⟩))
   go_ret2
   exact⟨rfl,f1.mono zs,Blk.fr m f1 zs⟩
  ·rw [if_pos rfl]
   rw [h2] at hd;clear h h2;obtain⟨b0,b1⟩:=hb;have hi':=hi;obtain⟨l1,lf,fm,m1,t1,t2,tm0,tm1,sp0,sp1,w1,w2,s0,s1,r0,r1⟩:=hi';by_cases h3:c.tr=c.t
   ·rw [if_pos h3]
    have h4:(c.tr == c.t)=true:=(by simpa using h3);clear h3;go_enter Tryz.func73,Tryz.ntmps73;go_wp2_with (first|(go_at_call 85;refine (zM _ _ _ m hi).mono ?_;rintro e w' ⟨rfl,rfl⟩)|(go_at_call 99;refine hm.mono ?_;rintro e w' ⟨rfl,rfl⟩))
    refine hd.mono ?_;rintro e w1 ⟨rfl,f1⟩;have m1:Clk w1 g c:=Blk.fr m f1 zs;obtain⟨c0,c1,c2,c3,c4,c5,c6,c7,c8,c9,c10⟩:=zL m1;have z8:=Blk.frozen m1 8;have z10:=Blk.frozen m1 10;go_wp2_with fail
    go_region
    all_goals go_wp2_with fail
    all_goals go_ret2
    all_goals refine⟨rfl,(Fr.setCell (Fr.setCell (f1.mono zs) zs _) zs _).drew,?_⟩
    all_goals exact Blk.drew (by simpa [Clk] using Blk.qO (Blk.qO m1 10 (.bool false)) 8 (.int .i64 0))
   ·rw [if_neg h3]
    have h4:(c.tr == c.t)=false:=(by simpa using h3);clear h3;go_enter Tryz.func73,Tryz.ntmps73;go_wp2_with (first|(go_at_call 85;refine (zM _ _ _ m hi).mono ?_;rintro e w' ⟨rfl,rfl⟩)|(go_at_call 99;refine hm.mono ?_;rintro e w' ⟨rfl,rfl⟩))
    refine hd.mono ?_;rintro e w1 ⟨rfl,f1⟩;have m1:Clk w1 g c:=Blk.fr m f1 zs;obtain⟨c0,c1,c2,c3,c4,c5,c6,c7,c8,c9,c10⟩:=zL m1;have z7:=Blk.frozen m1 7;have z8:=Blk.frozen m1 8;have z9:=Blk.frozen m1 9;have x1:IntKind.i64.wrap (2 * c.wt)=2 * c.wt:=IntWalk.i64_in _ zw;go_wp2_with fail
    go_region
    all_goals go_wp2_with fail
    all_goals go_region
    all_goals go_wp2_with fail
    all_goals go_ret2
    all_goals refine⟨rfl,(Fr.setCell (Fr.setCell (Fr.setCell (f1.mono zs) zs _) zs _) zs _).drew.drew,?_⟩
    all_goals exact Blk.drew (Blk.drew (by simpa [Clk] using Blk.qO (Blk.qO (Blk.qO m1 9 (.int .i64 (c.tr+1))) 7 (.int .i64 (min (2 * c.wt) c.m))) 8 (.int .i64 n)))
theorem new_clk(f l m t:Int)(w:World)(h1:1<=l)(h2:l<=f)(h3:f<=m)(h4:m<=65536)(h5:1<=t)(h6:t<=100) :
  Calls Tryz.prog 20 #[.agg #[.int .i64 f, .int .i64 l, .int .i64 m, .int .i64 t]] w fun e w'=>∃ g,e = .returned (.tuple #[ptr g, .int .i64 0])/\w.heap.size<=g/\Fr [] w w'/\Clk w' g (xC f l m t)/\g<w'.heap.size:=by
 go_enter Tryz.func20,Tryz.ntmps20;go_wp2_with fail
 refine qP 0 rfl ?_;go_wp2
 rw [vZ];go_ret2
 have hB:Blk ((w.alloc (.cells #[.int .i64 f, .int .i64 l, .int .i64 m, .int .i64 t] 34)).alloc (.cells #[.int .i64 f, .int .i64 l, .int .i64 m, .int .i64 t, .bool false, .int .i64 0, .int .i64 0, .int .i64 f, .int .i64 0, .int .i64 0, .bool false] 111)) (w.heap.size+1) 111 (xC f l m t).arr:=by
  have:=Blk.new (w.alloc (.cells #[.int .i64 f, .int .i64 l, .int .i64 m, .int .i64 t] 34)) 111 (xC f l m t).arr;simpa [xC] using this
 exact⟨w.heap.size+1,rfl,zw,((Fr.refl _ _).alloc _).alloc _,hB,zs⟩
end Go.Proofs.YtmgdbbbdhkfdmaaGreat.Rto
namespace Go.Proofs.YtmgdbbbdhkfdmaaGreat.Rto
set_option maxRecDepth 100000
open Go.RowKit Go.Deep
abbrev agC(c:Ck):Value := .agg c.arr
theorem eq54(x:Ck)(w:World):(Op.equalIn 10000 111 (agC x) (agC x)).run Tryz.prog w = .ok true w:=by
 have h1:Tryz.prog.stoodInHeld 111=false:=zk;have h2:Tryz.prog.stoodInHeld 34=false:=zk;simp [go_sem,h1,h2]
theorem qhf(x:Ck)(w:World):(binOp .eql 111 (agC x) (agC x)).run Tryz.prog w = .ok (.bool true) w:=by
 rw [run_eql_struct,eq54];rfl
theorem eqg54(op:BinOp)(x y:Operand)(xs ys:Array Value)(w:World):(eqGuard op 111 x y (.agg xs) (.agg ys)).run Tryz.prog w = .ok () w:=run_eqGuard_agg w op 111 x y xs ys zk
theorem qkc(g g':Nat)(x:Ck)(w:World)(m:Clk w g x)(m':Clk w g' x)(hi:Inv x):Calls Tryz.prog 45 #[ptr g,ptr g'] w fun e w'=>e = .returned (.bool true)/\Fr [] w w':=by
 obtain⟨c0,c1,c2,c3,c4,c5,c6,c7,c8,c9,c10⟩:=zL m;obtain⟨d0,d1,d2,d3,d4,d5,d6,d7,d8,d9,d10⟩:=zL m';have e1:=qhf x;have e2:=eqg54;go_enter Tryz.func45,Tryz.ntmps45;go_wp2_with fail
 refine (zM _ _ _ m hi).mono ?_;rintro e w' ⟨rfl,rfl⟩;go_wp2_with fail
 refine (zM _ _ _ m' hi).mono ?_;rintro e w' ⟨rfl,rfl⟩;go_wp2_with fail
 go_quiet (fail)
 go_wp2
 go_ret;exact⟨rfl,(Fr.refl _ _).drewN _⟩
end Go.Proofs.YtmgdbbbdhkfdmaaGreat.Rto
namespace Go.Proofs.YtmgdbbbdhkfdmaaGreat.Sne
set_option maxRecDepth 100000
open Go.RowKit
def jX(seq tu:Int):Int × Int:=
 if tu<0\/4611686018427387904<tu then (0,2) else
 let n:=tu - tu % 4294967296+seq
 let k:=if 2147483648<n - tu/\4294967296<=n then n - 4294967296 else if n - tu<=-2147483648 then n+4294967296 else n
 if 4611686018427387904<k then (0,210) else (k,0)
theorem yt(fn:Fn)(first cap:Array Value)(w:World):(Instr.makeFunc fn first cap).run Tryz.prog w = .ok (.func fn first cap) w:=rfl
theorem qkd(seq tu:Int)(w:World)(h0:0<=seq)(h1:seq<4294967296)(h2:-9223372036854775808<=tu)(h3:tu<=9223372036854775807) :
  Calls Tryz.prog 124 #[.int .u32 seq, .int .i64 tu] w fun e w'=>e = .returned (.tuple #[.int .i64 (jX seq tu).1, .int .i64 (jX seq tu).2])/\Fr [] w w':=by
 have hmf:=yt;go_enter Tryz.func124,Tryz.ntmps124;go_wp2
 refine qP 0 rfl ?_;go_wp2
 all_goals (try (apply wp_goto;refine ja _ _ ?_;go_wp2))
 all_goals (try rw [Exit.noGoto_ret])
 all_goals (try rw [vZ])
 all_goals go_ret2
 all_goals (refine⟨qis ?_ ?_,(Fr.refl _ _).alloc _⟩ <;> unfold jX <;> dsimp only <;> (repeat' split) <;> (try dsimp only) <;> omega)
end Go.Proofs.YtmgdbbbdhkfdmaaGreat.Sne
namespace Go.Proofs.YtmgdbbbdhkfdmaaGreat
set_option maxRecDepth 100000
structure Pc where
 at_:Int
 d:List Int
instance:Inhabited Pc:=⟨⟨0,[]⟩⟩
def Pc.beh(p:Pc):Int:=p.at_+p.d.length
structure Hp where
 most:Int
 next:Int
 kept:List Pc
 fin:Option Int
def qQ(next:Int)(p:Pc):List Int × Int:=if p.beh<=next then ([],next) else (p.d.drop (next - p.at_).toNat,p.beh)
def zK(is:Pc->Bool)(lt:Pc->Pc->Bool)(l:List Pc):Nat->Int
 | 0=>-1
 | k+1=>if is (l.getD k default) && (decide (zK is lt l k<0) || lt (l.getD k default) (l.getD (zK is lt l k).toNat default)) then k else zK is lt l k
def early(next:Int)(p:Pc):Bool:=decide (p.at_<=next)
def ahead(p q:Pc):Bool:=decide (p.at_<q.at_)
def kQ(next:Int)(l:List Pc):Int:=zK (early next) ahead l l.length
def qX:Nat->Int->List Pc->Int × List Pc × List Int
 | 0,next,l=>(next,l,[])
 | n+1,next,l=>
  if kQ next l<0 then (next,l,[])
  else
   ((qX n (qQ next (l.getD (kQ next l).toNat default)).2 (l.eraseIdx (kQ next l).toNat)).1,
    (qX n (qQ next (l.getD (kQ next l).toNat default)).2 (l.eraseIdx (kQ next l).toNat)).2.1,
    (qQ next (l.getD (kQ next l).toNat default)).1++(qX n (qQ next (l.getD (kQ next l).toNat default)).2 (l.eraseIdx (kQ next l).toNat)).2.2)
def past(e:Option Int)(b:Int):Bool:=match e with|none=>false|some a=>decide (a<b)
def other(e:Option Int)(b:Int):Bool:=match e with|none=>false|some a=>!(a == b)
def longer(at_:Int)(n:Nat)(p:Pc):Bool:=(p.at_ == at_) && decide (n<=p.d.length)
def jS(h:Hp)(at_:Int)(d:List Int):Hp × List Int × Int:=
 if at_<0\/4611686018427387904<at_\/d.length<1\/64<d.length then (h,[],2)
 else if past h.fin (at_+d.length)=true then (h,[],250)
 else if at_+d.length<=h.next then (h,[],0)
 else if at_<=h.next then
  ({ h with next:=(qX h.kept.length (at_+d.length) h.kept).1,kept:=(qX h.kept.length (at_+d.length) h.kept).2.1 },d.drop (h.next - at_).toNat++(qX h.kept.length (at_+d.length) h.kept).2.2,0)
 else if h.kept.any (longer at_ d.length)=true then (h,[],0)
 else if h.most<=h.kept.length then (h,[],251)
 else ({ h with kept:=h.kept++[⟨at_,d⟩] },[],0)
def over(a:Int)(p:Pc):Bool:=decide (a<p.beh)
def yD(h:Hp)(at_:Int):Hp × Int:=
 if at_<0\/4611686018427387904<at_ then (h,2)
 else if (other h.fin at_ || decide (at_<h.next) || h.kept.any (over at_))=true then (h,250)
 else ({ h with fin:=some at_ },0)
def zU:List Pc->Int
 | []=>0
 | p::l=>p.d.length+zU l
def xC(most:Int):Hp:=⟨most,0,[],none⟩
structure Inv(h:Hp):Prop where
 m0:0<=h.most
 m1:h.most<=64
 n0:0<=h.next
 n1:h.next<=4611686018427387968
 len:(h.kept.length:Int)<=h.most
 pc:∀ p∈h.kept,0<=p.at_/\p.at_<=4611686018427387904/\1<=p.d.length/\p.d.length<=64
 fin:∀ a,h.fin=some a->0<=a/\a<=4611686018427387904
theorem xy(is:Pc->Bool)(lt:Pc->Pc->Bool)(l:List Pc)(k:Nat):zK is lt l (k+1) =
  if is (l.getD k default) && (decide (zK is lt l k<0) || lt (l.getD k default) (l.getD (zK is lt l k).toNat default)) then (k:Int) else zK is lt l k:=rfl
theorem yP(is:Pc->Bool)(lt:Pc->Pc->Bool)(l:List Pc):∀ k,-1<=zK is lt l k/\zK is lt l k<k
 | 0=>by simp [zK]
 | k+1=>by
  have:=yP is lt l k;unfold zK;split <;> omega
theorem yE(next:Int)(l:List Pc):-1<=kQ next l/\kQ next l<l.length:=yP _ _ l _
theorem qdk:∀ n next l,(qX n next l).2.1.length<=l.length
 | 0,_,_=>Nat.le_refl _
 | n+1,next,l=>by
  unfold qX;split
  ·exact Nat.le_refl _
  ·exact Nat.le_trans (qdk n _ _) (List.length_eraseIdx_le _ _)
theorem qat:∀ n next l p,p∈(qX n next l).2.1->p∈l
 | 0,_,_,_,h=>h
 | n+1,next,l,p,h=>by
  unfold qX at h;split at h
  ·exact h
  ·exact List.mem_of_mem_eraseIdx (qat n _ _ p h)
theorem qbr(next:Int)(p:Pc)(h0:0<=next)(h1:next<=4611686018427387968)(hp:p.at_<=4611686018427387904/\p.d.length<=64) :
  0<=(qQ next p).2/\(qQ next p).2<=4611686018427387968/\next<=(qQ next p).2:=by
 unfold qQ Pc.beh;split
 ·exact⟨h0,h1,Int.le_refl _⟩
 ·dsimp only
  omega
theorem getD_mem{l:List Pc}{i:Nat}(h:i<l.length):l.getD i default∈l:=by
 rw [List.getD_eq_getElem?_getD,List.getElem?_eq_getElem h];exact List.getElem_mem h
theorem qft:∀ n next l,0<=next->next<=4611686018427387968->(∀ p∈l,0<=p.at_/\p.at_<=4611686018427387904/\1<=p.d.length/\p.d.length<=64) ->
  0<=(qX n next l).1/\(qX n next l).1<=4611686018427387968/\next<=(qX n next l).1
 | 0,_,_,h0,h1,_=>⟨h0,h1,Int.le_refl _⟩
 | n+1,next,l,h0,h1,hp=>by
  unfold qX;split
  ·exact⟨h0,h1,Int.le_refl _⟩
  ·rename_i hn
   have hb:=yE next l;have hm:=hp _ (getD_mem (l:=l) (i:=(kQ next l).toNat) zw);have ht:=qbr next _ h0 h1 ⟨hm.2.1,hm.2.2.2⟩;have:=qft n (qQ next (l.getD (kQ next l).toNat default)).2 (l.eraseIdx (kQ next l).toNat) ht.1 ht.2.1 (fun p hq=>hp p (List.mem_of_mem_eraseIdx hq));exact⟨this.1,this.2.1,Int.le_trans ht.2.2 this.2.2⟩
theorem qel{h:Hp}(hi:Inv h)(a:Int)(d:List Int):Inv (jS h a d).1:=by
 unfold jS;split
 ·exact hi
 split
 ·exact hi
 split
 ·exact hi
 rename_i g1 g2 g3;split
 ·have h1:=qdk h.kept.length (a+d.length) h.kept
  have h2:=qft h.kept.length (a+d.length) h.kept zw zw hi.pc;have h3:=hi.len;exact⟨hi.m0,hi.m1,h2.1,h2.2.1,by dsimp only;omega,fun p hp=>hi.pc p (qat _ _ _ _ hp),hi.fin⟩
 split
 ·exact hi
 split
 ·exact hi
 ·refine⟨hi.m0,hi.m1,hi.n0,hi.n1,zv,fun p hp=>?_,hi.fin⟩
  rcases List.mem_append.1 hp with hp|hp
  ·exact hi.pc p hp
  ·rw [List.mem_singleton] at hp
   subst hp;dsimp only;omega
theorem qbs{h:Hp}(hi:Inv h)(a:Int):Inv (yD h a).1:=by
 unfold yD;split
 ·exact hi
 split
 ·exact hi
 ·refine⟨hi.m0,hi.m1,hi.n0,hi.n1,hi.len,hi.pc,fun b hb=>?_⟩
  injection hb with hb;omega
theorem qah{m:Int}(h0:0<=m)(h1:m<=64):Inv (xC m):=⟨h0,h1,by simp [xC],by simp [xC],by simpa [xC] using h0,by simp [xC],by simp [xC]⟩
theorem qem:∀ l:List Pc,(∀ p∈l,p.d.length<=64)->0<=zU l/\zU l<=64 * l.length
 | [],_=>by simp [zU]
 | p::l,h=>by
  have h1:=qem l fun q hq=>h q (List.mem_cons_of_mem _ hq);have h2:=h p (List.mem_cons_self ..);simp only [zU,List.length_cons];omega
theorem qby:∀(l:List Pc) (p:Pc),zU (l++[p])=zU l+p.d.length
 | [],p=>by simp [zU]
 | q::l,p=>by
  have:=qby l p;simp only [List.cons_append,zU];omega
theorem qfu(is:Pc->Bool)(l:List Pc):∀ k,k<=l.length->(decide (0<=zK is (fun _ _=>false) l k)=(l.take k).any is)
 | 0,_=>by simp [zK]
 | k+1,hk=>by
  have ih:=qfu is l k zw;have hb:=yP is (fun _ _=>false) l k;rw [List.take_add_one,List.any_append,<- ih];have hx:l[k]?=some (l.getD k default):=by
   rw [List.getD_eq_getElem?_getD,List.getElem?_eq_getElem zw];rfl
  rw [hx,xy];generalize l.getD k default=x at *
  generalize zK is (fun _ _=>false) l k=b at *
  cases hc:is x
  ·simp [hc]
  ·by_cases h0:b<0
   ·simp [hc,h0]
   ·simp [hc,h0]
    omega
theorem yF(at_:Int)(n:Nat)(l:List Pc):decide (0<=zK (longer at_ n) (fun _ _=>false) l l.length)=l.any (longer at_ n):=by
 have:=qfu (longer at_ n) l l.length (Nat.le_refl _)
 rwa [List.take_length] at this
end Go.Proofs.YtmgdbbbdhkfdmaaGreat
namespace Go.Proofs.YtmgdbbbdhkfdmaaGreat
set_option maxRecDepth 100000
structure St where
 isn:Int
 peer:Int
 at_:Int
 broken:Bool
 all:List Int
 unread:List Int
 win:Win.Wn
 clk:Rto.Ck
 heap:Hp
 closing:Bool
 fin:Bool
 qp:Bool
 ended:Bool
 now:Int
 since:Int
 timed:Int
 shown:Int
structure Prt where
 flags:Int
 seq:Int
 ack:Int
 win:Int
 d:List Int
def one(b:Bool):Int:=if b then 1 else 0
def add32(n m:Int):Int:=(n+m) % 4294967296
def ku(s:St):Int:=add32 s.peer (1+s.heap.next+one s.ended)
def qK(s:St):Int:=(Win.xg 1024 (min 1024 (s.unread.length+zU s.heap.kept))).1
def shows(s:St):St:={ s with shown:=qK s }
def kz(s:St)(f a:Int)(d:List Int):Prt:=⟨f,add32 s.isn (1+a),ku s,qK s,d⟩
def qJ(s:St):Prt:=kz s 2 (s.win.m+one s.fin) []
def zg(s:St):Prt:=if s.at_=3 then ⟨3,s.isn,ku s,qK s,[]⟩ else ⟨1,s.isn,0,qK s,[]⟩
def kS(s:St)(b:Bool):St:={ s with at_:=5,broken:=b }
def zu(s:St)(r:Int):St:={ s with at_:=4,win:=(Win.je s.win 0 r).1,clk:=Rto.qW s.clk }
def kT(s:St):Bool:=s.at_ == 2 || (s.at_ == 3 || (s.at_ == 4 && (decide (s.win.a<s.win.m) || (s.fin && !s.qp || Win.zeroV s.win && decide (s.win.a<s.all.length)))))
def qF(s:St):St:=
 if kT s && !s.clk.rn then { s with clk:=(Rto.jW s.clk s.now).1 }
 else if !kT s && s.clk.rn then { s with clk:=Rto.qW s.clk }
 else s
def kL(number first near:Int):Int:=(Sne.jX ((number - first - 1) % 4294967296) near).1
def has(f n:Int):Bool:=f / n % 2 == 1
def yY(x:St)(p:Prt):Bool:=x.fin && decide (kL p.ack x.isn x.win.a=x.all.length+1)
def vF(x:St)(p:Prt):Int:=if yY x p then (x.all.length:Int) else kL p.ack x.isn x.win.a
def qB(x:St)(v:Win.Wn)(more:Int)(ends:Bool):St:=
 if more=0/\(!ends || x.qp)=true then { x with win:=v }
 else if 0<x.timed/\x.timed<=v.a then { x with win:=v,qp:=x.qp || ends,timed:=0,clk:=Rto.qW (Rto.qR x.clk (x.now - x.since)).1 }
 else { x with win:=v,qp:=x.qp || ends,clk:=Rto.qW x.clk }
def zy(x:St)(p:Prt):St:=qB x (Win.je x.win (vF x p) p.win).1 (Win.je x.win (vF x p) p.win).2.1 (yY x p)
def jv(s:St)(p:Prt):St:=
 let a:=kL p.seq s.peer s.heap.next
 let h1:=if has p.flags 4 then (yD s.heap (a+p.d.length)).1 else s.heap
 let t:=jS h1 a p.d
 let s1:=if 0<p.d.length/\a+p.d.length - h1.next<=1024 - s.unread.length then { s with heap:=t.1,unread:=s.unread++t.2.1 } else { s with heap:=h1 }
 { s1 with ended:=isFinV s1.heap }
where isFinV (h:Hp):Bool:=match h.fin with|none=>false|some a=>a == h.next
def zN(s:St)(p:Prt):St × List Prt:=
 if has p.flags 8 then (if p.seq=ku s then kS s true else s,[])
 else if has p.flags 1 then (shows s,[qJ s])
 else if !has p.flags 2 then (s,[])
 else
  let s1:=zy s p
  let s2:=if s1.ended then s1 else jv s1 p
  if p.d.length=0/\has p.flags 4=false then (s2,[]) else (shows s2,[qJ s2])
def kU(s:St)(p:Prt):St × List Prt:=
 if p.flags=1 then (shows { s with peer:=p.seq,at_:=3 },[zg { s with peer:=p.seq,at_:=3 }]) else (s,[])
def zH(s:St)(p:Prt):St × List Prt:=
 if p.flags=1 then kU s p
 else if p.ack≠add32 s.isn 1\/has p.flags 2=false then (s,[])
 else if p.flags=3 then (shows (zu { s with peer:=p.seq } p.win),[qJ (zu { s with peer:=p.seq } p.win)])
 else if p.flags=10 then (kS s true,[])
 else (s,[])
def jl(s:St)(p:Prt):St × List Prt:=
 if p.flags=1 then kU s p
 else if p.flags=3/\p.seq=s.peer/\p.ack=add32 s.isn 1 then (shows (zu s p.win),[qJ (zu s p.win)])
 else if has p.flags 8 then zN s p
 else if has p.flags 1=true\/has p.flags 2=false\/p.ack≠add32 s.isn 1 then (s,[])
 else zN (zu s p.win) p
def jm(s:St)(p:Prt):St × List Prt:=
 if s.broken=true\/¬ (p.flags=2\/p.flags=6)\/(has p.flags 4=false/\p.d.length=0) then (s,[]) else (shows s,[qJ s])
def qV(s:St)(p:Prt):St × List Prt:=
 if s.at_=1 then kU s p else if s.at_=2 then zH s p else if s.at_=3 then jl s p else if s.at_=4 then zN s p else jm s p
def zG(s:St):Int:=min 64 (min (s.all.length - s.win.s) (Win.qK s.win))
def zO(s:St):St × Prt:=
 let n:=zG s
 let s1:={ s with win:=(Win.qQ s.win n).1 }
 let p:=kz s1 2 s.win.s ((s.all.drop s.win.s.toNat).take n.toNat)
 let s2:=shows s1
 (if s.timed=0 then { s2 with timed:=s.win.s+n,since:=s.now } else s2,p)
def zQ:Nat->St->St × List Prt
 | 0,s=>(s,[])
 | k+1,s=>if 0<zG s then ((zQ k (zO s).1).1,(zO s).2::(zQ k (zO s).1).2) else (s,[])
def qU(s:St):St × List Prt:=
 if s.at_=4 then
  let r:=zQ s.all.length s
  let s1:=r.1
  let f:=s1.closing && decide (s1.win.s=s1.all.length) && !s1.fin
  let s2:=if f then { shows s1 with fin:=true } else s1
  let l2:=if f then [kz s1 6 s1.all.length []] else []
  let s3:=if s2.ended && s2.qp then kS s2 false else s2
  (qF s3,r.2++l2)
 else (qF s,[])
def zF(s:St)(p:Prt):St × List Prt × Int:=
 if p.flags<0\/15<p.flags\/64<p.d.length then (s,[],2)
 else ((qU (qV s p).1).1,(qV s p).2++(qU (qV s p).1).2,0)
def xE(s:St):Bool:=s.at_ == 5 || s.closing
def zZ(s:St)(b:List Int):St × List Prt × Int:=
 if xE s then (s,[],260)
 else if 4096 - (s.all.length - s.win.a)<b.length then (s,[],3)
 else ((qU { s with all:=s.all++b }).1,(qU { s with all:=s.all++b }).2,0)
def jE(s:St):St × List Prt × Int:=
 if xE s then (s,[],260) else ((qU { s with closing:=true }).1,(qU { s with closing:=true }).2,0)
def jo(s:St):St × List Prt × Int:=
 if s.at_=5 then (s,[],260)
 else if s.at_=3\/s.at_=4 then (qF (kS (shows s) true),[kz s 10 (s.win.m+one s.fin) []],0)
 else (qF (kS s true),[],0)
def zx(s:St):St × Prt:=
 if s.at_≠4 then (shows s,zg s)
 else if 0<min 64 (s.win.m - s.win.a) then (shows s,kz s 2 s.win.a ((s.all.drop s.win.a.toNat).take (min 64 (s.win.m - s.win.a)).toNat))
 else if s.fin then (shows s,kz s 6 s.all.length [])
 else
  let s1:={ s with win:=(Win.kX s.win).1 }
  (shows s1,kz s1 2 (Win.kX s.win).2.1 ((s.all.drop s.win.a.toNat).take 1))
def jG(s:St):St × List Prt:=
 let s1:={ s with now:=s.now+1 }
 if Rto.xh s1.clk s1.now then
  let t:=Rto.jB s1.clk s1.now
  let s2:={ s1 with clk:=t.1 }
  if t.2.1 then (qF (zx { s2 with timed:=0 }).1,[(zx { s2 with timed:=0 }).2]) else (qF (kS s2 true),[])
 else (s1,[])
def zV(s:St):St × List Int × List Prt:=
 let s1:={ s with unread:=[] }
 if s.shown=0/\s.at_=4/\0<qK s1 then (shows s1,s.unread,[qJ s1]) else (s1,s.unread,[])
def jq(isn:Int)(at_:Int):St:=⟨isn,0,at_,false,[],[],⟨0,0,0,0⟩,Rto.xC 2 1 32 8,xC 8,false,false,false,false,0,0,0,0⟩
def jf(isn:Int)(calls:Bool):St × List Prt:=
 if calls then (qF (shows (jq isn 2)),[zg (jq isn 2)]) else (jq isn 1,[])
end Go.Proofs.YtmgdbbbdhkfdmaaGreat
namespace Go.Proofs.YtmgdbbbdhkfdmaaGreat
set_option maxRecDepth 100000
open Go.RowKit
abbrev ptr(g:Nat):Value := .pointer (some ⟨g,0,none⟩)
def pcs:List (Pc × Value)->List Value
 | []=>[]
 | x::L => .int .i64 x.1.at_::x.2::pcs L
theorem qen:∀ L,(pcs L).length=L.length * 2
 | []=>rfl
 | x::L=>by simp only [pcs,List.length_cons,qen L];omega
theorem yQ:∀ L M,pcs L++pcs M=pcs (L++M)
 | [],_=>rfl
 | x::L,M=>by simp only [pcs,List.cons_append,yQ L M]
theorem yG:∀(L:List (Pc × Value)) k,(pcs L).take (k * 2)=pcs (L.take k)
 | [],k=>by simp [pcs]
 | x::L,0=>by simp [pcs]
 | x::L,k+1=>by
  rw [show (k+1) * 2=k * 2+1+1 by omega];simp only [pcs,List.take_succ_cons,yG L k]
theorem yH:∀(L:List (Pc × Value)) k,(pcs L).drop (k * 2)=pcs (L.drop k)
 | [],k=>by simp [pcs]
 | x::L,0=>by simp [pcs]
 | x::L,k+1=>by
  rw [show (k+1) * 2=k * 2+1+1 by omega];simp only [pcs,List.drop_succ_cons,yH L k]
theorem qmb:∀(L:List (Pc × Value)) k (x:Pc × Value),L[k]?=some x->(pcs L)[k * 2]?=some (.int .i64 x.1.at_)/\(pcs L)[k * 2+1]?=some x.2
 | [],k,x,h=>by simp at h
 | y::L,0,x,h=>by
  simp at h;subst h;exact⟨rfl,rfl⟩
 | y::L,k+1,x,h=>by
  simp at h;rw [show (k+1) * 2=k * 2+1+1 by omega,show k * 2+1+1+1=(k * 2+1)+1+1 by omega];simp only [pcs,List.getElem?_cons_succ];exact qmb L k x h
theorem qiv:∀ L:List (Pc × Value),(∀ x∈L,x.2.oneCell'=true)->∀ u∈pcs L,u.oneCell'=true
 | [],_,u,hu=>by simp [pcs] at hu
 | y::L,h,u,hu=>by
  simp only [pcs,List.mem_cons] at hu;rcases hu with rfl|rfl|hu
  ·rfl
  ·exact h _ (List.mem_cons_self ..)
  ·exact qiv L (fun x hx=>h x (List.mem_cons_of_mem _ hx)) u hu
structure Kp(e:TypeId)(S:Nat->Prop)(w:World)(kv:Value)(L:List (Pc × Value)):Prop where
 own:w.ownsRow 0 e 2 kv L.length (pcs L)
 byt:∀ x∈L,Byt S w x.2 x.1.d
section
variable {e:TypeId} {S S':Nat->Prop} {w w':World} {kv:Value} {L:List (Pc × Value)} {O:List Nat}
theorem Byt.one{v:Value}{l:List Int}(h:Byt S w v l):v.oneCell'=true:=by
 obtain⟨A,c,rfl,_⟩:=h.form;rfl
theorem Kp.fr(h:Kp e S w kv L)(hf:Fr O w w')(hO:∀ x∈O,¬ S x)(hk:∀ b,kv.ownBlock=some b->b∉O):Kp e S w' kv L:=
 ⟨qA h.own hf hk,fun x hx=>(h.byt x hx).fr hf hO⟩
theorem Kp.mono(h:Kp e S w kv L)(hS:∀ b,S b->S' b):Kp e S' w kv L:=⟨h.own,fun x hx=>(h.byt x hx).mono hS⟩
theorem Kp.at_(h:Kp e S w kv L){k:Nat}(hk:k<L.length):∃ b c x,kv = .slice (some ⟨b,0,none⟩) L.length c/\L[k]?=some x/\w.cell? ⟨b,k * 2,none⟩=some (.int .i64 x.1.at_)/\w.cell? ⟨b,k * 2+1,none⟩=some x.2/\Byt S w x.2 x.1.d:=by
 have hs:=Sl.kW (S:=fun _=>True) h.own (fun _ _=>trivial);rcases h.own.2 with ⟨rfl,h0⟩|⟨g,cap,cur,rfl,_,hg,_⟩
 ·omega
 ·have hx:L[k]?=some L[k]:=List.getElem?_eq_getElem hk
  obtain⟨h1,h2⟩:=qmb L k _ hx;obtain⟨_,A,c',hv,_,_,hu⟩:=hs;obtain⟨b,o,hA,_,hc⟩:=hu zw;subst hA;injection hv with hv _ _;injection hv with hv;injection hv with hb ho _;subst hb ho;refine⟨g,cap,L[k],rfl,hx,?_,?_,h.byt _ (List.getElem_mem hk)⟩
  ·have:=hc _ _ h1;rwa [Nat.zero_add] at this
  ·have:=hc _ _ h2;rwa [Nat.zero_add] at this
theorem Kp.form(h:Kp e S w kv L):∃ A c,kv = .slice A L.length c/\L.length<=c/\c<=maxLen:=qY h.own
theorem Kp.one(h:Kp e S w kv L):∀ u∈pcs L,u.oneCell'=true:=qiv L fun x hx=>(h.byt x hx).one
end
structure HPx(S:Nat->Prop)(w:World)(g:Nat)(kv ev:Value)(h:Hp)(L:List (Pc × Value)):Prop where
 blk:Blk w g 115 #[.int .i64 h.most, .int .i64 h.next,kv,ev, .bool true]
 kp:Kp 134 S w kv L
 kept:h.kept=L.map (·.1)
 fin:(h.fin=none/\ev = .pointer none)\/∃ a b,h.fin=some a/\ev=ptr b/\S b/\w.cell? ⟨b,0,none⟩=some (.int .i64 a)
 pub:∀ b,S b->b<w.heap.size
 offg:¬ S g
 offk:∀ b,kv.ownBlock=some b->¬ S b
def HP(S:Nat->Prop)(w:World)(g:Nat)(kv:Value)(h:Hp):Prop:=∃ ev L,HPx S w g kv ev h L
section
variable {S S':Nat->Prop} {w w':World} {g:Nat} {kv ev:Value} {h:Hp} {L:List (Pc × Value)} {O:List Nat}
theorem HPx.fr(m:HPx S w g kv ev h L)(f:Fr O w w')(hO:∀ x∈O,¬ S x)(hg:g∉O)(hk:∀ b,kv.ownBlock=some b->b∉O):HPx S w' g kv ev h L:=by
 refine⟨m.blk.fr f hg,m.kp.fr f hO hk,m.kept,?_,fun b hb=>Nat.lt_of_lt_of_le (m.pub b hb) f.size,m.offg,m.offk⟩;rcases m.fin with h1|⟨a,b,h1,h2,h3,h4⟩
 ·exact .inl h1
 ·exact .inr ⟨a,b,h1,h2,h3,(f.cell (p:=⟨b,0,none⟩) (m.pub b h3) (fun hm=>hO b hm h3)).trans h4⟩
theorem HPx.ext(m:HPx S w g kv ev h L)(f:Fr O w w')(x:Ext w S S')(hO:∀ x∈O,¬ S x)(hg:g∉O)(hk:∀ b,kv.ownBlock=some b->b∉O)(hp:∀ b,S' b->b<w'.heap.size):HPx S' w' g kv ev h L:=by
 have n:=m.fr f hO hg hk;refine⟨n.blk,n.kp.mono x.1,n.kept,?_,hp,x.off m.blk.lt m.offg,fun b hb=>x.off (kG m.kp.own hb) (m.offk b hb)⟩;rcases n.fin with h1|⟨a,b,h1,h2,h3,h4⟩
 ·exact .inl h1
 ·exact .inr ⟨a,b,h1,h2,x.1 b h3,h4⟩
theorem HPx.len(m:HPx S w g kv ev h L):h.kept.length=L.length:=by rw [m.kept,List.length_map]
theorem HPx.cells(m:HPx S w g kv ev h L):w.cell? ⟨g,0,none⟩=some (.int .i64 h.most)/\w.cell? ⟨g,1,none⟩=some (.int .i64 h.next)/\w.cell? ⟨g,2,none⟩=some kv/\w.cell? ⟨g,3,none⟩=some ev/\w.cell? ⟨g,4,none⟩=some (.bool true):=
 ⟨by simpa using m.blk.cell 0,by simpa using m.blk.cell 1,by simpa using m.blk.cell 2,by simpa using m.blk.cell 3,by simpa using m.blk.cell 4⟩
end
end Go.Proofs.YtmgdbbbdhkfdmaaGreat
namespace Go.Proofs.YtmgdbbbdhkfdmaaGreat
set_option maxRecDepth 100000
open Go.RowKit
abbrev agp(a:Int)(v:Value):Value := .agg #[.int .i64 a,v]
abbrev bxp(a:Int)(v:Value):Obj := .cells #[.int .i64 a,v] 134
theorem jb{g:Nat}{w:World}(c4:w.cell? ⟨g,4,none⟩=some (.bool true)):Calls Tryz.prog 86 #[ptr g] w fun e w'=>e = .returned (.bool false)/\w=w':=by
 go_enter Tryz.func86,Tryz.ntmps86;go_wp2
 go_ret;exact⟨rfl,rfl⟩
theorem new_yes(m:Int)(w:World)(h0:0<=m)(h1:m<=64) :
  Calls Tryz.prog 21 #[.int .i64 m] w fun e w'=>e = .returned (.tuple #[ptr w.heap.size, .int .i64 0])/\w.alloc (.cells #[.int .i64 m, .int .i64 0, .slice none 0 0, .pointer none, .bool true] 115)=w':=by
 go_enter Tryz.func21,Tryz.ntmps21;go_wp2
 go_ret2
 exact⟨rfl,rfl⟩
theorem new_hp(S:Nat->Prop)(m:Int)(w:World)(h0:0<=m)(h1:m<=64)(hp:∀ b,S b->b<w.heap.size) :
  Calls Tryz.prog 21 #[.int .i64 m] w fun e w'=>e = .returned (.tuple #[ptr w.heap.size, .int .i64 0])/\Fr [] w w'/\HP S w' w.heap.size (.slice none 0 0) (xC m)/\w'.heap.size=w.heap.size+1:=
 (new_yes m w h0 h1).mono fun _ _ ⟨he,hw⟩=>by
  subst hw;refine⟨he,(Fr.refl _ _).alloc _,⟨.pointer none,[],Blk.new _ _ _,⟨World.ownsRow_nil _ _ _ _,zs⟩,rfl, .inl ⟨rfl,rfl⟩,fun b hb=>by have:=hp b hb;simp;omega,fun hs=>by have:=hp _ hs;omega,by simp [Value.ownBlock]⟩,zs⟩
theorem qbz(a:Int)(A:Option Addr)(n c:Nat)(w:World)(h0:0<=a)(h1:a<=4611686018427387968)(hn:n<=1000000) :
  Calls Tryz.prog 127 #[agp a (.slice A n c)] w fun e w'=>e = .returned (.int .i64 (a+n))/\w.alloc (bxp a (.slice A n c))=w':=by
 go_enter Tryz.func127,Tryz.ntmps127;go_wp2
 go_ret;exact⟨rfl,rfl⟩
theorem zW(a:Int)(A:Option Addr)(n c:Nat)(w:World)(h0:0<=a)(h1:a<=4611686018427387968)(hn:n<=1000000) :
  Calls Tryz.prog 127 #[agp a (.slice A n c)] w fun e w'=>e = .returned (.int .i64 (a+n))/\Fr [] w w':=
 (qbz a A n c w h0 h1 hn).mono fun _ _ ⟨he,hw⟩=>⟨he,hw▸(Fr.refl _ _).alloc _⟩
theorem qai{S:Nat->Prop}{g:Nat}{kv:Value}{h:Hp}{w:World}(m:HP S w g kv h):Calls Tryz.prog 49 #[ptr g] w fun e w'=>e = .returned (.int .i64 h.next)/\w=w':=by
 obtain⟨ev,L,m⟩:=m;obtain⟨c0,c1,c2,c3,c4⟩:=m.cells;go_enter Tryz.func49,Tryz.ntmps49;go_wp2_with (go_at_call 86;refine (jb c4).mono ?_;rintro e w' ⟨rfl,rfl⟩)
 go_ret;exact⟨rfl,rfl⟩
def isFin(h:Hp):Bool:=match h.fin with|none=>false|some a=>a == h.next
theorem qbt{S:Nat->Prop}{g:Nat}{kv:Value}{h:Hp}{w:World}(m:HP S w g kv h):Calls Tryz.prog 118 #[ptr g] w fun e w'=>e = .returned (.bool (isFin h))/\Fr [] w w':=by
 obtain⟨ev,L,m⟩:=m;obtain⟨c0,c1,c2,c3,c4⟩:=m.cells;rcases m.fin with ⟨h1,rfl⟩|⟨a,b,h1,rfl,h3,h4⟩
 ·have e:isFin h=false:=by unfold isFin;rw [h1]
  rw [e];have H:=hI h1;clear e h1;go_enter Tryz.func118,Tryz.ntmps118;go_wp2_with fail
  go_quiet ((go_at_call 86;exact zY (jb c4)))
  go_wp2
  go_ret;exact⟨rfl,(Fr.refl _ _).drewN _⟩
 ·have e:isFin h=(a == h.next):=by unfold isFin;rw [h1]
  rw [e];have H:=hI h1;clear e h1;go_enter Tryz.func118,Tryz.ntmps118;go_wp2_with fail
  go_quiet ((go_at_call 86;exact zY (jb c4)))
  go_wp2
  go_ret;exact⟨rfl,(Fr.refl _ _).drewN _⟩
end Go.Proofs.YtmgdbbbdhkfdmaaGreat
namespace Go.Proofs.YtmgdbbbdhkfdmaaGreat
set_option maxRecDepth 100000
open Go.RowKit
theorem vM:(Tryz.prog.info? 5).map (fun i=>(i.zero,i.size,i.bytes))=some (some (.int .u8 0),1,1):=zk
theorem qeo:(Tryz.prog.info? 134).map (fun i=>(i.zero,i.size,i.bytes))=some (some (.agg #[.int .i64 0, .slice none 0 0]),2,32):=zk
theorem kH{w:World}{a:Addr}{v:Value}(h:w.cell? a=some v)(o:Obj):(w.alloc o).cell? a=some v:=by
 rw [World.cell?_alloc_lt w o _ (World.block_lt_of_cell? w _ h)];exact h
theorem ql{w w':World}{a:Addr}{v:Value}(f:Fr [] w w')(h:w.cell? a=some v):w'.cell? a=some v:=(f.cell (World.block_lt_of_cell? w a h) zs).trans h
theorem qdl(w:World)(e:TypeId)(size:Nat):(w.alloc (.cells #[] e)).ownsRow 0 e size (.slice (some ⟨w.heap.size,0,none⟩) 0 0) 0 []:=by
 have:=World.ownsRow_lit (base:=0) (e:=e) (size:=size) w #[] 0 (Nat.zero_le _) (Nat.zero_le _) zs;simpa using this
theorem kZ{S:Nat->Prop}{v:Value}{l:List Int}(w:World)(h:Byt S w v l)(hl:l.length<=1000000) :
  Calls Tryz.prog 40 #[v] w fun e w'=>∃ A c,e = .returned (.slice A l.length c)/\w'.ownsRow 0 5 1 (.slice A l.length c) l.length (kE l)/\Fr [] w w'/\(∀ b,(Value.slice A l.length c).ownBlock=some b->w.heap.size<=b):=by
 obtain⟨A,c,rfl,hn,hc⟩:=h.form;obtain⟨i0,hi,hz0,hz1,hz2⟩:=info_parts vM;cases A with
 | none=>
  obtain⟨h0,h1⟩:=Sl.none_ h;obtain rfl:l=[]:=List.eq_nil_of_length_eq_zero h0;clear h h1 h0;have qn:=fun (w:World) a n c n' c'=>Lib.run_eql_slice_nil (P:=Tryz.prog) w 30 5 a n c n' c' Tryz.underlying30;go_enter Tryz.func40,Tryz.ntmps40;go_wp2
  go_ret;exact⟨none,0,rfl,World.ownsRow_nil _ _ _ _,Fr.refl _ _,by simp [Value.ownBlock]⟩
 | some ad=>
  have H:=hI h;have h2:l.length * 1<=140737488355328:=zw;have h3:l.length<=maxLen:=by unfold maxLen;omega
  clear hn hc;have H2:=hI h2;have H3:=hI h3;clear h2 h3;clear h;have qn:=fun (w:World) a n c n' c'=>Lib.run_eql_slice_nil (P:=Tryz.prog) w 30 5 a n c n' c' Tryz.underlying30;go_enter Tryz.func40,Tryz.ntmps40;go_wp2_with (at_builtin;refine qE _ rfl (.tmp 5) (.tmp 6) 30 rfl 5 i0 (.int .u8 0) 1 1 Tryz.underlying30 hi hz0 hz1 hz2 rfl zd (.slice (some ⟨w.heap.size,0,none⟩) 0 0) 0 [] zr (qdl _ _ _) S (.slice (some ad) l.length c) l.length (kE l) rfl (Sl.fr H.out ((Fr.refl [] _).alloc _) zs) (ji l) (by rw [Nat.zero_add];exact H3.out) (by rw [Nat.zero_add];exact H2.out) l.length (Nat.zero_add _) ?_;intro A' c' w' h4 h5 h6)
  go_ret;refine⟨A',c',rfl,by simpa using h4,Fr.trans ((Fr.refl [] w).alloc _) h5 zb,fun b hb=>?_⟩;rcases h6 b hb with h7|h7
  ·simp [Value.ownBlock] at h7;omega
  ·simp at h7;omega
theorem qca{S:Nat->Prop}{kv:Value}{L:List (Pc × Value)}(w:World)(h:Kp 134 S w kv L)(hl:L.length<=1000000) :
  Calls Tryz.prog 87 #[kv] w fun e w'=>∃ A c,e = .returned (.slice A L.length c)/\Kp 134 S w' (.slice A L.length c) L/\Fr [] w w'/\(∀ b,(Value.slice A L.length c).ownBlock=some b->w.heap.size<=b):=by
 obtain⟨A,c,rfl,hn,hc⟩:=h.form;obtain⟨i0,hi,hz0,hz1,hz2⟩:=info_parts qeo;cases A with
 | none=>
  have h0:L.length=0:=by
   rcases h.own.2 with ⟨_,h⟩|⟨g,cap,cur,hv,_⟩
   ·exact h
   ·cases hv
  obtain rfl:L=[]:=List.eq_nil_of_length_eq_zero h0;clear h h0;have qn:=fun (w:World) a n c n' c'=>Lib.run_eql_slice_nil (P:=Tryz.prog) w 112 134 a n c n' c' Tryz.underlying112;go_enter Tryz.func87,Tryz.ntmps87;go_wp2
  go_ret;exact⟨none,0,rfl,⟨World.ownsRow_nil _ _ _ _,zs⟩,Fr.refl _ _,by simp [Value.ownBlock]⟩
 | some ad=>
  have hs:=Sl.kW (S:=fun _=>True) h.own (fun _ _=>trivial);have hb:=h.byt;have h1:=h.one;have h2:L.length * 32<=140737488355328:=zw;have h3:L.length<=maxLen:=by unfold maxLen;omega
  have H:=hI hs;have HB:=hI hb;have H1:=hI h1;have H2:=hI h2;have H3:=hI h3;clear h2 h3 h hs hn hc h1 hb;have qn:=fun (w:World) a n c n' c'=>Lib.run_eql_slice_nil (P:=Tryz.prog) w 112 134 a n c n' c' Tryz.underlying112;go_enter Tryz.func87,Tryz.ntmps87;go_wp2_with (at_builtin;refine qE _ rfl (.tmp 5) (.tmp 6) 112 rfl 134 i0 (.agg #[.int .i64 0, .slice none 0 0]) 2 32 Tryz.underlying112 hi hz0 hz1 hz2 rfl zd (.slice (some ⟨w.heap.size,0,none⟩) 0 0) 0 [] zr (qdl _ _ _) (fun _=>True) (.slice (some ad) L.length c) L.length (pcs L) rfl (Sl.fr H.out ((Fr.refl [] _).alloc _) zs) H1.out (by rw [Nat.zero_add];exact H3.out) (by rw [Nat.zero_add];exact H2.out) L.length (Nat.zero_add _) ?_;intro A' c' w' h4 h5 h6)
  go_ret;have F:Fr [] w w':=Fr.trans ((Fr.refl [] w).alloc _) h5 zb;refine⟨A',c',rfl,⟨by simpa using h4,fun x hx=>(HB.out x hx).fr F zs⟩,F,fun b hb=>?_⟩;rcases h6 b hb with h7|h7
  ·simp [Value.ownBlock] at h7;omega
  ·simp at h7;omega
theorem r11_any(a:Int)(dv:Value)(g hb:Nat)(n:Int)(w:World)(c0:w.cell? ⟨hb,0,none⟩=some (ptr g))(c1:w.cell? ⟨g,1,none⟩=some (.int .i64 n))(d1:dv.oneCell'=true)(A:Option Addr)(ln c:Nat)(hd:dv = .slice A ln c) :
  Calls Tryz.prog 141 #[agp a dv, .pointer (some ⟨hb,0,none⟩)] w fun e w'=>e = .returned (.bool (decide (a<=n)))/\Fr [] w w':=by
 subst hd;clear d1;have l0:=World.block_lt_of_cell? w _ c0;have l1:=World.block_lt_of_cell? w _ c1;dsimp only at l0 l1;go_enter Tryz.func141,Tryz.ntmps141;go_wp2_with fail
 go_quiet (fail)
 go_wp2
 go_ret;exact⟨rfl,((Fr.refl _ _).alloc _).drewN _⟩
theorem r12_any(a b:Int)(A B:Option Addr)(ln c ln' c':Nat)(w:World) :
  Calls Tryz.prog 142 #[agp a (.slice A ln c),agp b (.slice B ln' c')] w fun e w'=>e = .returned (.bool (decide (a<b)))/\Fr [] w w':=by
 go_enter Tryz.func142,Tryz.ntmps142;go_wp2
 go_ret;exact⟨rfl,((Fr.refl _ _).alloc _).alloc _⟩
theorem p2_any(a b:Int)(A B:Option Addr)(ln c ln' c':Nat)(w:World) :
  Calls Tryz.prog 132 #[agp a (.slice A ln c),agp b (.slice B ln' c')] w fun e w'=>e = .returned (.bool false)/\Fr [] w w':=by
 go_enter Tryz.func132,Tryz.ntmps132;go_wp2
 go_ret;exact⟨rfl,((Fr.refl _ _).alloc _).alloc _⟩
theorem p1_any(a b:Int)(A B:Option Addr)(ln c ln' c' pb:Nat)(w:World)(c0:w.cell? ⟨pb,0,none⟩=some (.int .i64 b))(c1:w.cell? ⟨pb,1,none⟩=some (.slice B ln' c')) :
  Calls Tryz.prog 131 #[agp a (.slice A ln c), .pointer (some ⟨pb,0,none⟩)] w fun e w'=>e = .returned (.bool ((a == b) && decide (ln'<=ln)))/\Fr [] w w':=by
 have l0:=World.block_lt_of_cell? w _ c0;dsimp only at l0;cases h:(a == b)
 ·go_enter Tryz.func131,Tryz.ntmps131
  go_wp2
  go_ret;exact⟨rfl,(Fr.refl _ _).alloc _⟩
 ·go_enter Tryz.func131,Tryz.ntmps131
  go_wp2
  go_ret;exact⟨rfl,(Fr.refl _ _).alloc _⟩
theorem e1_any(a b:Int)(A:Option Addr)(ln c ab:Nat)(w:World)(c0:w.cell? ⟨ab,0,none⟩=some (.int .i64 b))(h0:0<=a)(h1:a<=4611686018427387968)(hn:ln<=1000000) :
  Calls Tryz.prog 126 #[agp a (.slice A ln c), .pointer (some ⟨ab,0,none⟩)] w fun e w'=>e = .returned (.bool (decide (b<a+ln)))/\Fr [] w w':=by
 go_enter Tryz.func126,Tryz.ntmps126;go_wp2_with fail
 refine qg zk zk ?_;have q0:=Grew.cell (w:=w.alloc (bxp a (.slice A ln c))) (a:=⟨w.heap.size,0,none⟩) (v := .int .i64 a) ((Blk.new w 134 #[.int .i64 a, .slice A ln c]).cell 0);have q1:=Grew.cell (w:=w.alloc (bxp a (.slice A ln c))) (a:=⟨w.heap.size,1,none⟩) (v := .slice A ln c) ((Blk.new w 134 #[.int .i64 a, .slice A ln c]).cell 1);have q2:=Grew.cell (w:=w.alloc (bxp a (.slice A ln c))) (a:=⟨ab,0,none⟩) (v := .int .i64 b) (kH c0 _);repeat (go_big_quiet_step ((go_at_call 127;exact qG (zW a A ln c _ h0 h1 hn))))
 refine wpQuiet_nil ?_;intro W1 f1;go_wp2
 go_ret;exact⟨rfl,((Fr.refl _ _).alloc _).trans f1 zs⟩
end Go.Proofs.YtmgdbbbdhkfdmaaGreat
