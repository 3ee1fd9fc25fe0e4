import Derived.Test.YtmgdbbbdhkfdmaaGreatYS0
import Derived.Test.YtmgdbbbdhkfdmaaGreatProg
import Derived.Deep.DeepCutAuto
import Derived.Lib.Hide
set_option linter.unusedSimpArgs false
set_option linter.unusedVariables false
namespace Go.Proofs.YtmgdbbbdhkfdmaaGreat.Win
set_option maxRecDepth 100000
open Go.RowKit
theorem makeFunc_run(fn:Fn)(first cap:Array Value)(w:World):(Instr.makeFunc fn first cap).run Tryz.prog w = .ok (.func fn first cap) w:=rfl
abbrev ptr(g:Nat):Value := .pointer (some ⟨g,0,none⟩)
structure Wn where
 a:Int
 s:Int
 m:Int
 l:Int
def Wn.cells(x:Wn):Array Value:=#[.int .i64 x.a, .int .i64 x.s, .int .i64 x.m, .int .i64 x.l]
def Win(w:World)(g:Nat)(x:Wn)(h:Bool):Prop:=Blk w g 107 #[.int .i64 x.a, .int .i64 x.s, .int .i64 x.m, .int .i64 x.l, .bool h]
section
variable {w:World} {g:Nat} {x:Wn} {h:Bool} (m:Win w g x h)
include m
theorem Win.c0:w.cell? ⟨g,0,none⟩=some (.int .i64 x.a):=by simpa using Blk.cell m 0
theorem Win.c1:w.cell? ⟨g,1,none⟩=some (.int .i64 x.s):=by simpa using Blk.cell m 1
theorem Win.c2:w.cell? ⟨g,2,none⟩=some (.int .i64 x.m):=by simpa using Blk.cell m 2
theorem Win.c3:w.cell? ⟨g,3,none⟩=some (.int .i64 x.l):=by simpa using Blk.cell m 3
theorem Win.c4:w.cell? ⟨g,4,none⟩=some (.bool h):=by simpa using Blk.cell m 4
theorem Win.fz(i:Nat):w.frozen? ⟨g,i,none⟩=false:=Blk.frozen m i
end
theorem raise_one(g j v:Nat)(p n:Int)(cs:Array Value)(w:World)(hB:Blk w g 107 cs)(hp:cs[j]?=some (.int .i64 p))(hv:w.cell? ⟨v,0,none⟩=some (.pointer (some ⟨g,j,none⟩))) :
  Calls Tryz.prog 133 #[.int .i64 n, .pointer (some ⟨v,0,none⟩)] w fun e w'=>e = .returned (.tuple #[])∧Fr [g] w w'∧Blk w' g 107 (cs.setIfInBounds j (.int .i64 (max p n))):=by
 have hc:w.cell? ⟨g,j,none⟩=some (.int .i64 p):=by rw [← hp];exact Blk.cell hB j
 have hf:w.frozen? ⟨g,j,none⟩=false:=Blk.frozen hB j
 go_enter Tryz.func133,Tryz.ntmps133
 go_wp2_with fail
 go_region
 all_goals go_wp2
 all_goals go_end0
 all_goals exact⟨rfl,Fr.setCell (Fr.refl _ _).drew (by simp) _,Blk.set_ (Blk.drew hB) j _⟩
theorem rise_one(g j b:Nat)(p n:Int)(cs:Array Value)(w:World)(hB:Blk w g 107 cs)(hp:cs[j]?=some (.int .i64 p))(hb:w.cell? ⟨b,0,none⟩=some (.int .i64 n)) :
  Calls Tryz.prog 119 #[.pointer (some ⟨g,j,none⟩), .slice (some ⟨b,0,none⟩) 1 1] w fun e w'=>e = .returned (.tuple #[])∧Fr [g] w w'∧Blk w' g 107 (cs.setIfInBounds j (.int .i64 (max p n))):=by
 have hmf:=makeFunc_run
 have hc:w.cell? ⟨g,j,none⟩=some (.int .i64 p):=by rw [← hp];exact Blk.cell hB j
 have hf:w.frozen? ⟨g,j,none⟩=false:=Blk.frozen hB j
 have hlt:=hB.lt
 go_enter Tryz.func119,Tryz.ntmps119
 have hbl:b<w.heap.size:=World.block_lt_of_cell? w _ hb
 go_wp2_with fail
 refine wp_loop_rounds 2 ?_
 rw [rounds_succ]
 go_wp2_with fail
 have hA:Blk (w.alloc (.cells #[.pointer (some ⟨g,j,none⟩)] 113)) g 107 cs:=Blk.alloc hB _
 refine (raise_one g j _ p n cs _ hA hp (by simp [go_sem])).mono ?_
 rintro e w1 ⟨rfl,f1,b1⟩
 have f2:Fr [g] w w1:=((Fr.refl _ _).alloc _).trans f1 (by simp)
 go_wp2_with fail
 rw [rounds_succ]
 go_wp2_with fail
 go_end0
 exact⟨rfl,f2,b1⟩
def roomV(x:Wn):Int:=max 0 (x.l - x.s)
def takeV(x:Wn)(n:Int):Wn × Int × Int:=if n<0 then (x,0,2) else if roomV x<n then (x,0,231) else (⟨x.a,x.s+n,max x.m (x.s+n),x.l⟩,x.s,0)
def ackV(x:Wn)(u r:Int):Wn × Int × Int:=if u<0∨r<0∨65535<r then (x,0,2) else if x.m<u then (x,0,230) else if u<x.a then (x,0,0) else (⟨max x.a u,max x.s u,x.m,max x.l (u+r)⟩,u - x.a,0)
def zeroV(x:Wn):Bool:=x.l == x.a && x.m == x.a
def probeV(x:Wn):Wn × Int × Int:=if zeroV x then (⟨x.a,x.s,max x.m (x.a+1),x.l⟩,x.a,0) else (x,0,231)
def Inv(B:Int)(x:Wn):Prop:=0≤x.a∧x.a≤x.s∧x.s≤x.m∧x.m≤x.l+1∧x.l≤B
theorem none_win(g:Nat)(x:Wn)(h:Bool)(w:World)(m:Win w g x h):Calls Tryz.prog 84 #[ptr g] w fun e w'=>e = .returned (.bool (!h))∧w=w':=by
 have c4:=m.c4
 go_enter Tryz.func84,Tryz.ntmps84
 go_wp2
 go_ret
 exact⟨rfl,rfl⟩
theorem room_win(g:Nat)(x:Wn)(w:World)(B:Int)(hB:B≤1000000000)(hi:Inv B x)(m:Win w g x true):Calls Tryz.prog 94 #[ptr g] w fun e w'=>e = .returned (.int .i64 (roomV x))∧∃ k,w'=w.drewN k:=by
 obtain⟨i0,i1,i2,i3,i4⟩:=hi
 have c4:=m.c4
 have c1:=m.c1
 have c3:=m.c3
 unfold roomV
 go_enter Tryz.func94,Tryz.ntmps94
 go_wp2_with (go_at_call 84;refine (none_win _ _ _ _ m).mono ?_;rintro e w' ⟨rfl,rfl⟩)
 go_quiet (fail)
 go_wp2
 go_ret
 exact⟨rfl,_,rfl⟩
theorem zero_win(g:Nat)(x:Wn)(w:World)(m:Win w g x true):Calls Tryz.prog 98 #[ptr g] w fun e w'=>e = .returned (.bool (zeroV x))∧∃ k,w'=w.drewN k:=by
 have c4:=m.c4
 have c0:=m.c0
 have c2:=m.c2
 have c3:=m.c3
 by_cases h1:x.l=x.a
 ·by_cases h2:x.m=x.a
  ·have e:zeroV x=true:=by simp [zeroV,h1,h2]
   have d1:(x.l == x.a)=true:=by simp [h1]
   have d2:(x.m == x.a)=true:=by simp [h2]
   rw [e]
   clear h1 h2 e
   go_enter Tryz.func98,Tryz.ntmps98
   go_wp2_with fail
   go_quiet ((go_at_call 84;exact quiet_left (none_win _ _ _ _ (Blk.drewN m _))))
   go_wp2
   go_ret
   exact⟨rfl,_,rfl⟩
  ·have e:zeroV x=false:=by simp [zeroV,h1,h2]
   have d1:(x.l == x.a)=true:=by simp [h1]
   have d2:(x.m == x.a)=false:=by simp [h2]
   rw [e]
   clear h1 h2 e
   go_enter Tryz.func98,Tryz.ntmps98
   go_wp2_with fail
   go_quiet ((go_at_call 84;exact quiet_left (none_win _ _ _ _ (Blk.drewN m _))))
   go_wp2
   go_ret
   exact⟨rfl,_,rfl⟩
 ·have e:zeroV x=false:=by simp [zeroV,h1]
  have d1:(x.l == x.a)=false:=by simp [h1]
  rw [e]
  clear h1 e
  go_enter Tryz.func98,Tryz.ntmps98
  go_wp2_with fail
  go_quiet ((go_at_call 84;exact quiet_left (none_win _ _ _ _ (Blk.drewN m _))))
  go_wp2
  go_ret
  exact⟨rfl,_,rfl⟩
theorem Inv.bd{B:Int}{x:Wn}(h:Inv B x):0≤x.a∧x.a≤x.s∧x.s≤x.m∧x.m≤x.l+1∧x.l≤B:=h
theorem room_fr(g:Nat)(x:Wn)(w:World)(B:Int)(hB:B≤1000000000)(hi:Inv B x)(m:Win w g x true):Calls Tryz.prog 94 #[ptr g] w fun e w'=>e = .returned (.int .i64 (roomV x))∧Fr [] w w':=
 (room_win g x w B hB hi m).mono fun _ _ ⟨h,k,hk⟩=>⟨h,by rw [hk];exact (Fr.refl _ _).drewN k⟩
theorem zero_fr(g:Nat)(x:Wn)(w:World)(m:Win w g x true):Calls Tryz.prog 98 #[ptr g] w fun e w'=>e = .returned (.bool (zeroV x))∧Fr [] w w':=
 (zero_win g x w m).mono fun _ _ ⟨h,k,hk⟩=>⟨h,by rw [hk];exact (Fr.refl _ _).drewN k⟩
theorem take_win(g:Nat)(x:Wn)(n:Int)(w:World)(B:Int)(hB:B≤1000000000)(hi:Inv B x)(m:Win w g x true) :
  Calls Tryz.prog 95 #[ptr g, .int .i64 n] w fun e w'=>e = .returned (.tuple #[.int .i64 (takeV x n).2.1, .int .i64 (takeV x n).2.2])∧Fr [g] w w'∧Win w' g (takeV x n).1 true:=by
 have hi':=hi
 obtain⟨i0,i1,i2,i3,i4⟩:=hi
 unfold takeV
 by_cases h1:n<0
 ·rw [if_pos h1]
  go_enter Tryz.func95,Tryz.ntmps95
  go_wp2_with fail
  refine wp_scope_fwd 0 rfl ?_
  go_wp2_with (go_at_call 84;refine (none_win _ _ _ _ m).mono ?_;rintro e w' ⟨rfl,rfl⟩)
  apply wp_goto
  refine fwd_goto _ _ ?_
  go_wp2
  rw [Exit.noGoto_ret]
  go_ret2
  exact⟨rfl,Fr.refl _ _,m⟩
 ·rw [if_neg h1]
  by_cases h2:roomV x<n
  ·rw [if_pos h2]
   go_enter Tryz.func95,Tryz.ntmps95
   go_wp2_with fail
   refine wp_scope_fwd 0 rfl ?_
   go_wp2_with (go_at_call 84;refine (none_win _ _ _ _ m).mono ?_;rintro e w' ⟨rfl,rfl⟩)
   refine (room_fr _ _ _ B hB hi' m).mono ?_
   rintro e w1 ⟨rfl,f1⟩
   go_wp2_with fail
   apply wp_goto
   refine fwd_goto _ _ ?_
   go_wp2
   rw [Exit.noGoto_ret]
   go_ret2
   exact⟨rfl,f1.mono (by simp),Blk.fr m f1 (by simp)⟩
  ·rw [if_neg h2]
   have hroom:x.s+n≤max x.s x.l:=by unfold roomV at h2;omega
   go_enter Tryz.func95,Tryz.ntmps95
   go_wp2_with fail
   refine wp_scope_fwd 0 rfl ?_
   go_wp2_with (go_at_call 84;refine (none_win _ _ _ _ m).mono ?_;rintro e w' ⟨rfl,rfl⟩)
   refine (room_fr _ _ _ B hB hi' m).mono ?_
   rintro e w1 ⟨rfl,f1⟩
   have m1:Win w1 g x true:=Blk.fr m f1 (by simp)
   have c1:=m1.c1
   have z1:=m1.fz 1
   go_wp2_with fail
   have m2:Blk (w1.setCell ⟨g,1,none⟩ (.int .i64 (x.s+n))) g 107 _:=Blk.set_ m1 1 (.int .i64 (x.s+n))
   have f2:Fr [g] w (w1.setCell ⟨g,1,none⟩ (.int .i64 (x.s+n))):=Fr.setCell (f1.mono (by simp)) (by simp) _
   generalize w1.setCell ⟨g,1,none⟩ (.int .i64 (x.s+n))=w2 at *
   have hs2:w2.cell? ⟨g,1,none⟩=some (.int .i64 (x.s+n)):=by have:=Blk.cell m2 1;simpa using this
   go_region_held3 (fun w'=>w'.cell? ⟨g,1,none⟩=some (.int .i64 (x.s+n))) (go_keep) (first|(go_at_call 119;refine (rise_one g 2 _ x.m (x.s+n) _ _ (by exact Blk.alloc (Blk.drew m2) _) rfl ?_).mono ?_;(simp [go_sem]);rintro e w3 ⟨rfl,f3,m3⟩;have c13:w3.cell? ⟨g,1,none⟩=some (.int .i64 (x.s+n)):=(by have:=Blk.cell m3 1;simpa using this)))
   have f4:Fr [g] w w3:=((f2.drew).alloc _).trans f3 (by simp)
   have m4:Win w3 g ⟨x.a,x.s+n,max x.m (x.s+n),x.l⟩ true:=(by simpa [Win] using m3)
   go_wp2
   rw [fwd_ret]
   go_ret2
   exact⟨rfl,f4,m4⟩
theorem ack_no1(g:Nat)(x:Wn)(u r:Int)(w:World)(m:Win w g x true)(h:u<0∨r<0∨65535<r) :
  Calls Tryz.prog 113 #[ptr g, .int .i64 u, .int .i64 r] w fun e w'=>e = .returned (.tuple #[.int .i64 0, .int .i64 2])∧w=w':=by
 by_cases a:u<0
 ·go_enter Tryz.func113,Tryz.ntmps113
  go_wp2_with fail
  refine wp_scope_fwd 0 rfl ?_
  go_wp2_with (go_at_call 84;refine (none_win _ _ _ _ m).mono ?_;rintro e w' ⟨rfl,rfl⟩)
  apply wp_goto
  refine fwd_goto _ _ ?_
  go_wp2
  rw [Exit.noGoto_ret]
  go_ret2
  exact⟨rfl,rfl⟩
 by_cases b:r<0
 ·go_enter Tryz.func113,Tryz.ntmps113
  go_wp2_with fail
  refine wp_scope_fwd 0 rfl ?_
  go_wp2_with (go_at_call 84;refine (none_win _ _ _ _ m).mono ?_;rintro e w' ⟨rfl,rfl⟩)
  apply wp_goto
  refine fwd_goto _ _ ?_
  go_wp2
  rw [Exit.noGoto_ret]
  go_ret2
  exact⟨rfl,rfl⟩
 have c:65535<r:=by omega
 clear h
 go_enter Tryz.func113,Tryz.ntmps113
 go_wp2_with fail
 refine wp_scope_fwd 0 rfl ?_
 go_wp2_with (go_at_call 84;refine (none_win _ _ _ _ m).mono ?_;rintro e w' ⟨rfl,rfl⟩)
 apply wp_goto
 refine fwd_goto _ _ ?_
 go_wp2
 rw [Exit.noGoto_ret]
 go_ret2
 exact⟨rfl,rfl⟩
theorem ack_no2(g:Nat)(x:Wn)(u r:Int)(w:World)(m:Win w g x true)(h0:0≤u)(h1:0≤r)(h2:r≤65535)(h:x.m<u) :
  Calls Tryz.prog 113 #[ptr g, .int .i64 u, .int .i64 r] w fun e w'=>e = .returned (.tuple #[.int .i64 0, .int .i64 230])∧w=w':=by
 have c2:=m.c2
 go_enter Tryz.func113,Tryz.ntmps113
 go_wp2_with fail
 refine wp_scope_fwd 0 rfl ?_
 go_wp2_with (go_at_call 84;refine (none_win _ _ _ _ m).mono ?_;rintro e w' ⟨rfl,rfl⟩)
 apply wp_goto
 refine fwd_goto _ _ ?_
 go_wp2
 rw [Exit.noGoto_ret]
 go_ret2
 exact⟨rfl,rfl⟩
theorem ack_old(g:Nat)(x:Wn)(u r:Int)(w:World)(m:Win w g x true)(h0:0≤u)(h1:0≤r)(h2:r≤65535)(h:u≤x.m)(h':u<x.a) :
  Calls Tryz.prog 113 #[ptr g, .int .i64 u, .int .i64 r] w fun e w'=>e = .returned (.tuple #[.int .i64 0, .int .i64 0])∧w=w':=by
 have c2:=m.c2
 have c0:=m.c0
 have hh:¬ x.m<u:=by omega
 go_enter Tryz.func113,Tryz.ntmps113
 go_wp2_with fail
 refine wp_scope_fwd 0 rfl ?_
 go_wp2_with (go_at_call 84;refine (none_win _ _ _ _ m).mono ?_;rintro e w' ⟨rfl,rfl⟩)
 try rw [fwd_ret]
 go_ret2
 exact⟨rfl,rfl⟩
set_option maxHeartbeats 1000000 in
theorem ack_yes(g:Nat)(x:Wn)(u r:Int)(w:World)(m:Win w g x true)(h0:0≤u)(h1:0≤r)(h2:r≤65535)(h:u≤x.m)(h':x.a≤u)(ha:0≤x.a)(hm:x.m≤1000000001) :
  Calls Tryz.prog 113 #[ptr g, .int .i64 u, .int .i64 r] w fun e w'=>e = .returned (.tuple #[.int .i64 (u - x.a), .int .i64 0])∧Fr [g] w w'∧Win w' g ⟨max x.a u,max x.s u,x.m,max x.l (u+r)⟩ true:=by
 have c2:=m.c2
 have c0:=m.c0
 have hh:¬ x.m<u:=by omega
 have hh':¬ u<x.a:=by omega
 go_enter Tryz.func113,Tryz.ntmps113
 go_wp2_with fail
 refine wp_scope_fwd 0 rfl ?_
 go_wp2_with (go_at_call 84;refine (none_win _ _ _ _ m).mono ?_;rintro e w' ⟨rfl,rfl⟩)
 refine (rise_one g 0 _ x.a u _ _ (Blk.alloc m _) rfl (by simp [go_sem])).mono ?_
 rintro e w1 ⟨rfl,f1,m1⟩
 have g1:Fr [g] w w1:=((Fr.refl _ _).alloc _).trans f1 (by simp)
 go_wp2_with fail
 refine (rise_one g 1 _ x.s u _ _ (Blk.alloc m1 _) rfl (by simp [go_sem])).mono ?_
 rintro e w2 ⟨rfl,f2,m2⟩
 have g2:Fr [g] w w2:=(g1.alloc _).trans f2 (by simp)
 go_wp2_with fail
 refine (rise_one g 3 _ x.l (u+r) _ _ (Blk.alloc m2 _) rfl (by simp [go_sem])).mono ?_
 rintro e w3 ⟨rfl,f3,m3⟩
 have g3:Fr [g] w w3:=(g2.alloc _).trans f3 (by simp)
 go_wp2_with fail
 try rw [fwd_ret]
 go_ret2
 exact⟨rfl,g3,by simpa [Win] using m3⟩
theorem ack_win(g:Nat)(x:Wn)(u r:Int)(w:World)(B:Int)(hB:B≤1000000000)(hi:Inv B x)(m:Win w g x true) :
  Calls Tryz.prog 113 #[ptr g, .int .i64 u, .int .i64 r] w fun e w'=>e = .returned (.tuple #[.int .i64 (ackV x u r).2.1, .int .i64 (ackV x u r).2.2])∧Fr [g] w w'∧Win w' g (ackV x u r).1 true:=by
 obtain⟨i0,i1,i2,i3,i4⟩:=hi
 unfold ackV
 by_cases h1:u<0∨r<0∨65535<r
 ·rw [if_pos h1]
  exact (ack_no1 g x u r w m h1).mono fun _ _ ⟨e,hw⟩=>by subst hw;exact⟨e,Fr.refl _ _,m⟩
 ·rw [if_neg h1]
  by_cases h2:x.m<u
  ·rw [if_pos h2]
   exact (ack_no2 g x u r w m (by omega) (by omega) (by omega) h2).mono fun _ _ ⟨e,hw⟩=>by subst hw;exact⟨e,Fr.refl _ _,m⟩
  ·rw [if_neg h2]
   by_cases h3:u<x.a
   ·rw [if_pos h3]
    exact (ack_old g x u r w m (by omega) (by omega) (by omega) (by omega) h3).mono fun _ _ ⟨e,hw⟩=>by subst hw;exact⟨e,Fr.refl _ _,m⟩
   ·rw [if_neg h3]
    exact ack_yes g x u r w m (by omega) (by omega) (by omega) (by omega) (by omega) (by omega) (by omega)
theorem probe_win(g:Nat)(x:Wn)(w:World)(B:Int)(hB:B≤1000000000)(hi:Inv B x)(m:Win w g x true) :
  Calls Tryz.prog 111 #[ptr g] w fun e w'=>e = .returned (.tuple #[.int .i64 (probeV x).2.1, .int .i64 (probeV x).2.2])∧Fr [g] w w'∧Win w' g (probeV x).1 true:=by
 obtain⟨i0,i1,i2,i3,i4⟩:=hi
 have hz:=zero_fr g x w m
 unfold probeV
 cases hzv:zeroV x
 ·rw [if_neg (by simp)]
  rw [hzv] at hz
  go_enter Tryz.func111,Tryz.ntmps111
  go_wp2_with (first|(go_at_call 84;refine (none_win _ _ _ _ m).mono ?_;rintro e w' ⟨rfl,rfl⟩)|(go_at_call 98;refine hz.mono ?_;rintro e w1 ⟨rfl,f1⟩))
  go_ret2
  exact⟨rfl,f1.mono (by simp),Blk.fr m f1 (by simp)⟩
 ·rw [if_pos rfl]
  rw [hzv] at hz
  go_enter Tryz.func111,Tryz.ntmps111
  go_wp2_with (first|(go_at_call 84;refine (none_win _ _ _ _ m).mono ?_;rintro e w' ⟨rfl,rfl⟩)|(go_at_call 98;refine hz.mono ?_;rintro e w1 ⟨rfl,f1⟩))
  have m1:Win w1 g x true:=Blk.fr m f1 (by simp)
  have c0:=m1.c0
  go_wp2_with fail
  have e1:IntKind.i64.wrap (x.a+1)=x.a+1:=IntWalk.i64_in _ (by omega)
  go_region_held3 (fun w'=>w'.cell? ⟨g,0,none⟩=some (.int .i64 x.a)) (go_keep) (first|(go_at_call 119;refine (rise_one g 2 _ x.m (x.a+1) _ _ (by exact Blk.alloc (Blk.drew m1) _) rfl ?_).mono ?_;(simp [go_sem]);rintro e w3 ⟨rfl,f3,m3⟩;have c13:w3.cell? ⟨g,0,none⟩=some (.int .i64 x.a):=(by have:=Blk.cell m3 0;simpa using this)))
  have f4:Fr [g] w w3:=(((f1.mono (by simp)).drew).alloc _).trans f3 (by simp)
  have m4:Win w3 g ⟨x.a,x.s,max x.m (x.a+1),x.l⟩ true:=(by simpa [Win] using m3)
  go_wp2
  go_ret2
  exact⟨rfl,f4,m4⟩
theorem state_win(g:Nat)(x:Wn)(w:World)(m:Win w g x true) :
  Calls Tryz.prog 48 #[ptr g] w fun e w'=>e = .returned (.agg #[.int .i64 x.a, .int .i64 x.s, .int .i64 x.m, .int .i64 x.l])∧Fr [] w w':=by
 have c4:=m.c4
 have c0:=m.c0
 have c1:=m.c1
 have c2:=m.c2
 have c3:=m.c3
 have hl:=Blk.lt m
 go_enter Tryz.func48,Tryz.ntmps48
 go_wp2_with fail
 refine (none_win _ _ _ _ (Blk.alloc m _)).mono ?_
 rintro e w1 ⟨rfl,rfl⟩
 go_wp2_with fail
 go_returns
 exact⟨rfl,by repeat (first|exact Fr.refl _ _|apply Fr.drew|apply Fr.alloc|refine Fr.setCell ?_ (Or.inr (by simp)) _)⟩
end Go.Proofs.YtmgdbbbdhkfdmaaGreat.Win
namespace Go.Proofs.YtmgdbbbdhkfdmaaGreat.Win
set_option maxRecDepth 100000
open Go.RowKit Go.Deep
abbrev agW(x:Wn):Value := .agg #[.int .i64 x.a, .int .i64 x.s, .int .i64 x.m, .int .i64 x.l]
def offerV(most held:Int):Int × Int:=if most<0∨65535<most∨held<0∨most<held then (0,2) else if most - held<64∧2 * (most - held)<most then (0,0) else (most - held,0)
theorem offer_any(most held:Int)(w:World):Calls Tryz.prog 96 #[.int .i64 most, .int .i64 held] w fun e w'=>e = .returned (.tuple #[.int .i64 (offerV most held).1, .int .i64 (offerV most held).2])∧w=w':=by
 unfold offerV
 by_cases h1:most<0
 ·rw [if_pos (by omega)]
  go_enter Tryz.func96,Tryz.ntmps96
  go_wp2
  go_ret2
  exact⟨rfl,rfl⟩
 by_cases h2:held<0
 ·rw [if_pos (by omega)]
  go_enter Tryz.func96,Tryz.ntmps96
  go_wp2
  go_ret2
  exact⟨rfl,rfl⟩
 by_cases h3:most<held
 ·rw [if_pos (by omega)]
  go_enter Tryz.func96,Tryz.ntmps96
  go_wp2
  go_ret2
  exact⟨rfl,rfl⟩
 by_cases h4:65535<most
 ·rw [if_pos (by omega)]
  go_enter Tryz.func96,Tryz.ntmps96
  go_wp2
  go_ret2
  exact⟨rfl,rfl⟩
 rw [if_neg (by omega)]
 by_cases h5:most - held<64
 ·by_cases h6:2 * (most - held)<most
  ·rw [if_pos (by omega)]
   go_enter Tryz.func96,Tryz.ntmps96
   go_wp2
   go_ret2
   exact⟨rfl,rfl⟩
  ·rw [if_neg (by omega)]
   go_enter Tryz.func96,Tryz.ntmps96
   go_wp2
   go_ret2
   exact⟨rfl,rfl⟩
 ·rw [if_neg (by omega)]
  go_enter Tryz.func96,Tryz.ntmps96
  go_wp2
  go_ret2
  exact⟨rfl,rfl⟩
theorem new_win(w:World):Calls Tryz.prog 19 #[] w fun e w'=>e = .returned (ptr w.heap.size)∧Fr [] w w'∧Win w' w.heap.size ⟨0,0,0,0⟩ true∧w.heap.size<w'.heap.size:=by
 go_enter Tryz.func19,Tryz.ntmps19
 go_wp2
 go_ret
 exact⟨rfl,(Fr.refl _ _).alloc _,Blk.new _ _ _,by simp⟩
end Go.Proofs.YtmgdbbbdhkfdmaaGreat.Win
namespace Go.Proofs.YtmgdbbbdhkfdmaaGreat.Rto
set_option maxRecDepth 100000
open Go.RowKit
structure Ck where
 f:Int
 l:Int
 m:Int
 t:Int
 is:Bool
 tm:Int
 sp:Int
 wt:Int
 si:Int
 tr:Int
 rn:Bool
def knowsV(c:Ck):Int:=if c.is then max c.l (min c.m (c.tm / 8+max 1 c.sp)) else c.f
def learnV(c:Ck)(n:Int):Ck:=
 if c.is then { c with tm:=c.tm+(n - c.tm / 8),sp:=c.sp+(max (n - c.tm / 8) (-(n - c.tm / 8)) - c.sp / 4) } else { c with is:=true,tm:=8 * n,sp:=2 * n }
def sampleV(c:Ck)(n:Int):Ck × Int:=
 if n<0∨65536<n then (c,2) else ({ learnV c n with wt:=knowsV (learnV c n) },0)
def mayV(c:Ck)(n:Int):Bool:=decide (0≤n) && decide (n≤2147483647) && (!c.rn || decide (c.si≤n))
def startV(c:Ck)(n:Int):Ck × Int:=if mayV c n then ({ c with rn:=true,si:=n,tr:=0 },0) else (c,2)
def stopV(c:Ck):Ck:={ c with rn:=false,si:=0,tr:=0,wt:=knowsV c }
def dueV(c:Ck)(n:Int):Bool:=mayV c n && (c.rn && decide (c.wt≤n - c.si))
def lateV(c:Ck)(n:Int):Ck × Bool × Int:=
 if mayV c n then
  if dueV c n then
   if c.tr=c.t then ({ c with rn:=false,si:=0 },false,0) else ({ c with tr:=c.tr+1,wt:=min (2 * c.wt) c.m,si:=n },true,0)
  else (c,false,240)
 else (c,false,2)
structure Inv(c:Ck):Prop where
 l1:1≤c.l
 lf:c.l≤c.f
 fm:c.f≤c.m
 m1:c.m≤65536
 t1:1≤c.t
 t2:c.t≤100
 tm0:0≤c.tm
 tm1:c.tm≤524304
 sp0:0≤c.sp
 sp1:c.sp≤262160
 w1:c.l≤c.wt
 w2:c.wt≤c.m
 s0:0≤c.si
 s1:c.si≤2147483647
 r0:0≤c.tr
 r1:c.tr≤c.t
theorem knows_bd{c:Ck}(h:Inv c):c.l≤knowsV c∧knowsV c≤c.m:=by
 obtain⟨l1,lf,fm,m1,t1,t2,tm0,tm1,sp0,sp1,w1,w2,s0,s1,r0,r1⟩:=h
 unfold knowsV
 split <;> omega
theorem learn_inv{c:Ck}(h:Inv c){n:Int}(h0:0≤n)(h1:n≤65536):Inv (learnV c n):=by
 obtain⟨l1,lf,fm,m1,t1,t2,tm0,tm1,sp0,sp1,w1,w2,s0,s1,r0,r1⟩:=h
 unfold learnV
 split <;> constructor <;> dsimp only <;> omega
theorem sample_inv{c:Ck}(h:Inv c)(n:Int):Inv (sampleV c n).1:=by
 unfold sampleV
 split
 ·exact h
 ·have hl:=learn_inv h (n:=n) (by omega) (by omega)
  have hk:=knows_bd hl
  obtain⟨l1,lf,fm,m1,t1,t2,tm0,tm1,sp0,sp1,w1,w2,s0,s1,r0,r1⟩:=hl
  constructor <;> dsimp only <;> omega
theorem stop_inv{c:Ck}(h:Inv c):Inv (stopV c):=by
 have hk:=knows_bd h
 obtain⟨l1,lf,fm,m1,t1,t2,tm0,tm1,sp0,sp1,w1,w2,s0,s1,r0,r1⟩:=h
 unfold stopV
 constructor <;> dsimp only <;> omega
theorem may_bd{c:Ck}{n:Int}(h:mayV c n=true):0≤n∧n≤2147483647:=by
 unfold mayV at h
 simp at h
 omega
theorem start_inv{c:Ck}(h:Inv c)(n:Int):Inv (startV c n).1:=by
 unfold startV
 split
 ·rename_i hm
  have:=may_bd hm
  obtain⟨l1,lf,fm,m1,t1,t2,tm0,tm1,sp0,sp1,w1,w2,s0,s1,r0,r1⟩:=h
  constructor <;> dsimp only <;> omega
 ·exact h
theorem late_inv{c:Ck}(h:Inv c)(n:Int):Inv (lateV c n).1:=by
 unfold lateV
 split
 ·rename_i hm
  have:=may_bd hm
  split
  ·split
   ·obtain⟨l1,lf,fm,m1,t1,t2,tm0,tm1,sp0,sp1,w1,w2,s0,s1,r0,r1⟩:=h
    constructor <;> dsimp only <;> omega
   ·obtain⟨l1,lf,fm,m1,t1,t2,tm0,tm1,sp0,sp1,w1,w2,s0,s1,r0,r1⟩:=h
    constructor <;> dsimp only <;> omega
  ·exact h
 ·exact h
def nearN(c:Ck)(n:Int)(near:Bool):Int:=if near=true∧-100≤n∧n≤100 then n+c.si+c.wt else n
def doesV(c:Ck)(k n:Int)(near:Bool):Ck:=
 if k=1 then (sampleV c n).1 else if k=2 then (startV c (nearN c n near)).1 else if k=3 then stopV c else if k=4 then (lateV c (nearN c n near)).1 else c
def newV(f l m t:Int):Ck:=⟨f,l,m,t,false,0,0,f,0,0,false⟩
theorem new_inv{f l m t:Int}(h1:1≤l)(h2:l≤f)(h3:f≤m)(h4:m≤65536)(h5:1≤t)(h6:t≤100):Inv (newV f l m t):=by
 unfold newV
 constructor <;> dsimp only <;> omega
abbrev ptr(g:Nat):Value := .pointer (some ⟨g,0,none⟩)
abbrev Ck.arr(c:Ck):Array Value:=#[.int .i64 c.f, .int .i64 c.l, .int .i64 c.m, .int .i64 c.t, .bool c.is, .int .i64 c.tm, .int .i64 c.sp, .int .i64 c.wt, .int .i64 c.si, .int .i64 c.tr, .bool c.rn]
def Clk(w:World)(g:Nat)(c:Ck):Prop:=Blk w g 111 c.arr
structure Cells(w:World)(g:Nat)(c:Ck):Prop where
 c0:w.cell? ⟨g,0,none⟩=some (.int .i64 c.f)
 c1:w.cell? ⟨g,1,none⟩=some (.int .i64 c.l)
 c2:w.cell? ⟨g,2,none⟩=some (.int .i64 c.m)
 c3:w.cell? ⟨g,3,none⟩=some (.int .i64 c.t)
 c4:w.cell? ⟨g,4,none⟩=some (.bool c.is)
 c5:w.cell? ⟨g,5,none⟩=some (.int .i64 c.tm)
 c6:w.cell? ⟨g,6,none⟩=some (.int .i64 c.sp)
 c7:w.cell? ⟨g,7,none⟩=some (.int .i64 c.wt)
 c8:w.cell? ⟨g,8,none⟩=some (.int .i64 c.si)
 c9:w.cell? ⟨g,9,none⟩=some (.int .i64 c.tr)
 c10:w.cell? ⟨g,10,none⟩=some (.bool c.rn)
theorem cells_of{w:World}{g:Nat}{t:TypeId}{c:Ck}(h:Blk w g t c.arr):Cells w g c:=by
 have:=Blk.cell h
 exact⟨this 0,this 1,this 2,this 3,this 4,this 5,this 6,this 7,this 8,this 9,this 10⟩
theorem none_clk(g:Nat)(c:Ck)(w:World)(m:Clk w g c)(hi:Inv c):Calls Tryz.prog 85 #[ptr g] w fun e w'=>e = .returned (.bool false)∧w=w':=by
 have c0:=(cells_of m).c0
 have h:(c.f == 0)=false:=by have:=hi.l1;have:=hi.lf;simp;omega
 go_enter Tryz.func85,Tryz.ntmps85
 go_wp2
 go_ret
 exact⟨rfl,rfl⟩
theorem within_any(x l m:Int)(w:World):Calls Tryz.prog 120 #[.int .i64 x, .int .i64 l, .int .i64 m] w fun e w'=>e = .returned (.int .i64 (max l (min m x)))∧w=w':=by
 go_enter Tryz.func120,Tryz.ntmps120
 go_wp2
 go_ret
 exact⟨rfl,rfl⟩
theorem knows_clk(g:Nat)(c:Ck)(w:World)(m:Clk w g c)(hi:Inv c):Calls Tryz.prog 100 #[ptr g] w fun e w'=>e = .returned (.int .i64 (knowsV c))∧∃ k,w'=w.drewN k:=by
 obtain⟨c0,c1,c2,c3,c4,c5,c6,c7,c8,c9,c10⟩:=cells_of m
 obtain⟨l1,lf,fm,m1,t1,t2,tm0,tm1,sp0,sp1,w1,w2,s0,s1,r0,r1⟩:=hi
 unfold knowsV
 cases h:c.is
 ·rw [h] at c4
  clear h
  go_enter Tryz.func100,Tryz.ntmps100
  go_wp2
  go_ret
  exact⟨rfl,0,rfl⟩
 ·rw [h] at c4
  clear h
  rw [if_pos rfl]
  have e1:IntKind.i64.wrap (c.tm / 8)=c.tm / 8:=IntWalk.i64_in _ (by omega)
  have e2:IntKind.i64.wrap (c.tm / 8+max 1 c.sp)=c.tm / 8+max 1 c.sp:=IntWalk.i64_in _ (by omega)
  go_enter Tryz.func100,Tryz.ntmps100
  go_wp2_with fail
  go_quiet ((go_at_call 120;exact quiet_left (within_any _ _ _ _)))
  go_wp2
  go_ret
  exact⟨rfl,_,rfl⟩
theorem may_clk(g:Nat)(c:Ck)(n:Int)(w:World)(m:Clk w g c):Calls Tryz.prog 99 #[ptr g, .int .i64 n] w fun e w'=>e = .returned (.bool (mayV c n))∧w=w':=by
 obtain⟨c0,c1,c2,c3,c4,c5,c6,c7,c8,c9,c10⟩:=cells_of m
 by_cases h1:n<0
 ·have e:mayV c n=false:=by unfold mayV;simp;omega
  rw [e]
  clear e
  go_enter Tryz.func99,Tryz.ntmps99
  go_wp2
  go_ret
  exact⟨rfl,rfl⟩
 by_cases h2:2147483647<n
 ·have e:mayV c n=false:=by unfold mayV;simp;omega
  rw [e]
  clear e
  go_enter Tryz.func99,Tryz.ntmps99
  go_wp2
  go_ret
  exact⟨rfl,rfl⟩
 cases h3:c.rn
 ·have e:mayV c n=true:=by unfold mayV;simp [h3];omega
  rw [e]
  rw [h3] at c10
  clear e h3
  go_enter Tryz.func99,Tryz.ntmps99
  go_wp2
  go_ret
  exact⟨rfl,rfl⟩
 ·by_cases h4:n<c.si
  ·have e:mayV c n=false:=by unfold mayV;simp [h3];omega
   rw [e]
   rw [h3] at c10
   clear e h3
   go_enter Tryz.func99,Tryz.ntmps99
   go_wp2
   go_ret
   exact⟨retb_eq (by simp;omega),rfl⟩
  ·have e:mayV c n=true:=by unfold mayV;simp [h3];omega
   rw [e]
   rw [h3] at c10
   clear e h3
   go_enter Tryz.func99,Tryz.ntmps99
   go_wp2
   go_ret
   exact⟨rfl,rfl⟩
theorem start_clk(g:Nat)(c:Ck)(n:Int)(w:World)(m:Clk w g c)(hi:Inv c):Calls Tryz.prog 62 #[ptr g, .int .i64 n] w fun e w'=>e = .returned (.int .i64 (startV c n).2)∧Fr [g] w w'∧Clk w' g (startV c n).1:=by
 obtain⟨c0,c1,c2,c3,c4,c5,c6,c7,c8,c9,c10⟩:=cells_of m
 have z8:=Blk.frozen m 8
 have z9:=Blk.frozen m 9
 have z10:=Blk.frozen m 10
 have hm:=may_clk g c n w m
 unfold startV
 cases h:mayV c n
 ·rw [if_neg (by simp)]
  rw [h] at hm
  go_enter Tryz.func62,Tryz.ntmps62
  go_wp2_with (first|(go_at_call 85;refine (none_clk _ _ _ m hi).mono ?_;rintro e w' ⟨rfl,rfl⟩)|(go_at_call 99;refine hm.mono ?_;rintro e w' ⟨rfl,rfl⟩))
  go_ret
  exact⟨rfl,Fr.refl _ _,m⟩
 ·rw [if_pos rfl]
  rw [h] at hm
  go_enter Tryz.func62,Tryz.ntmps62
  go_wp2_with (first|(go_at_call 85;refine (none_clk _ _ _ m hi).mono ?_;rintro e w' ⟨rfl,rfl⟩)|(go_at_call 99;refine hm.mono ?_;rintro e w' ⟨rfl,rfl⟩))
  go_ret
  refine⟨rfl,Fr.setCell (Fr.setCell (Fr.setCell (Fr.refl _ _) (by simp) _) (by simp) _) (by simp) _,?_⟩
  simpa [Clk] using Blk.set_ (Blk.set_ (Blk.set_ m 10 (.bool true)) 8 (.int .i64 n)) 9 (.int .i64 0)
theorem knows_fr(g:Nat)(c:Ck)(w:World)(m:Clk w g c)(hi:Inv c):Calls Tryz.prog 100 #[ptr g] w fun e w'=>e = .returned (.int .i64 (knowsV c))∧Fr [] w w':=
 (knows_clk g c w m hi).mono fun _ _ ⟨h,k,hk⟩=>⟨h,by rw [hk];exact (Fr.refl _ _).drewN k⟩
theorem stop_clk(g:Nat)(c:Ck)(w:World)(m:Clk w g c)(hi:Inv c):Calls Tryz.prog 63 #[ptr g] w fun e w'=>e = .returned (.int .i64 0)∧Fr [g] w w'∧Clk w' g (stopV c):=by
 have hk:=knows_fr g c
 unfold stopV
 revert hk
 generalize knowsV c=K
 intro hk
 have Hk:Hid _:=hk
 clear hk
 go_enter Tryz.func63,Tryz.ntmps63
 go_wp2_with (first|(go_at_call 85;refine (none_clk _ _ _ m hi).mono ?_;rintro e w' ⟨rfl,rfl⟩))
 refine (Hk.out _ m hi).mono ?_
 rintro e w1 ⟨rfl,f1⟩
 have m1:Clk w1 g c:=Blk.fr m f1 (by simp)
 obtain⟨c0,c1,c2,c3,c4,c5,c6,c7,c8,c9,c10⟩:=cells_of m1
 have z7:=Blk.frozen m1 7
 have z8:=Blk.frozen m1 8
 have z9:=Blk.frozen m1 9
 have z10:=Blk.frozen m1 10
 go_wp2_with fail
 go_ret
 refine⟨rfl,Fr.setCell (Fr.setCell (Fr.setCell (Fr.setCell (f1.mono (by simp)) (by simp) _) (by simp) _) (by simp) _) (by simp) _,?_⟩
 simpa [Clk] using Blk.set_ (Blk.set_ (Blk.set_ (Blk.set_ m1 10 (.bool false)) 8 (.int .i64 0)) 9 (.int .i64 0)) 7 (.int .i64 K)
theorem due_clk(g:Nat)(c:Ck)(n:Int)(w:World)(m:Clk w g c)(hi:Inv c):Calls Tryz.prog 72 #[ptr g, .int .i64 n] w fun e w'=>e = .returned (.bool (dueV c n))∧∃ k,w'=w.drewN k:=by
 obtain⟨c0,c1,c2,c3,c4,c5,c6,c7,c8,c9,c10⟩:=cells_of m
 have hm:=fun W (mW:Clk W g c)=>may_clk g c n W mW
 have hn:=fun W (mW:Clk W g c)=>none_clk g c W mW hi
 obtain⟨l1,lf,fm,m1,t1,t2,tm0,tm1,sp0,sp1,w1,w2,s0,s1,r0,r1⟩:=hi
 unfold dueV
 have Hn:Hid _:=hn
 clear hn
 cases h:mayV c n
 ·rw [h] at hm
  have Hm:Hid _:=hm
  clear hm h
  go_enter Tryz.func72,Tryz.ntmps72
  go_wp2_with fail
  go_quiet (first|(go_at_call 85;exact quiet_left (Hn.out _ (Blk.drewN m _)))|(go_at_call 99;exact quiet_left (Hm.out _ (Blk.drewN m _))))
  go_wp2
  go_ret
  exact⟨rfl,_,rfl⟩
 ·have hb:=may_bd h
  rw [h] at hm
  have Hm:Hid _:=hm
  clear hm h
  obtain⟨b0,b1⟩:=hb
  cases h1:c.rn
  ·rw [h1] at c10
   clear h1
   go_enter Tryz.func72,Tryz.ntmps72
   go_wp2_with fail
   go_quiet (first|(go_at_call 85;exact quiet_left (Hn.out _ (Blk.drewN m _)))|(go_at_call 99;exact quiet_left (Hm.out _ (Blk.drewN m _))))
   go_wp2
   go_ret
   exact⟨rfl,_,rfl⟩
  ·rw [h1] at c10
   clear h1
   have e1:IntKind.i64.wrap (n - c.si)=n - c.si:=IntWalk.i64_in _ (by omega)
   go_enter Tryz.func72,Tryz.ntmps72
   go_wp2_with fail
   go_quiet (first|(go_at_call 85;exact quiet_left (Hn.out _ (Blk.drewN m _)))|(go_at_call 99;exact quiet_left (Hm.out _ (Blk.drewN m _))))
   go_wp2
   go_ret
   exact⟨rfl,_,rfl⟩
theorem due_fr(g:Nat)(c:Ck)(n:Int)(w:World)(m:Clk w g c)(hi:Inv c):Calls Tryz.prog 72 #[ptr g, .int .i64 n] w fun e w'=>e = .returned (.bool (dueV c n))∧Fr [] w w':=
 (due_clk g c n w m hi).mono fun _ _ ⟨h,k,hk⟩=>⟨h,by rw [hk];exact (Fr.refl _ _).drewN k⟩
theorem sample_no(g:Nat)(c:Ck)(n:Int)(w:World)(m:Clk w g c)(hi:Inv c)(h:n<0∨65536<n):Calls Tryz.prog 115 #[ptr g, .int .i64 n] w fun e w'=>e = .returned (.int .i64 2)∧w=w':=by
 by_cases h1:n<0
 ·go_enter Tryz.func115,Tryz.ntmps115
  go_wp2_with (first|(go_at_call 85;refine (none_clk _ _ _ m hi).mono ?_;rintro e w' ⟨rfl,rfl⟩))
  go_ret
  exact⟨rfl,rfl⟩
 ·have h2:65536<n:=by omega
  clear h
  go_enter Tryz.func115,Tryz.ntmps115
  go_wp2_with (first|(go_at_call 85;refine (none_clk _ _ _ m hi).mono ?_;rintro e w' ⟨rfl,rfl⟩))
  go_ret
  exact⟨rfl,rfl⟩
theorem sample_new(g:Nat)(c:Ck)(n:Int)(w:World)(m:Clk w g c)(hi:Inv c)(h0:0≤n)(h1:n≤65536)(his:c.is=false) :
  Calls Tryz.prog 115 #[ptr g, .int .i64 n] w fun e w'=>e = .returned (.int .i64 0)∧Fr [g] w w'∧Clk w' g { learnV c n with wt:=knowsV (learnV c n) }:=by
 obtain⟨c0,c1,c2,c3,c4,c5,c6,c7,c8,c9,c10⟩:=cells_of m
 have z4:=Blk.frozen m 4
 have z5:=Blk.frozen m 5
 have z6:=Blk.frozen m 6
 have hl:=learn_inv hi h0 h1
 have hk:=fun W (mW:Clk W g (learnV c n))=>knows_fr g (learnV c n) W mW hl
 have hL:learnV c n={ c with is:=true,tm:=8 * n,sp:=2 * n }:=by unfold learnV;simp [his]
 rw [his] at c4
 revert hk
 generalize knowsV (learnV c n)=K
 intro hk
 have Hk:Hid _:=hk
 have HL:Hid _:=hL
 clear hk hL his
 go_enter Tryz.func115,Tryz.ntmps115
 go_wp2_with (first|(go_at_call 85;refine (none_clk _ _ _ m hi).mono ?_;rintro e w' ⟨rfl,rfl⟩))
 have m1:Clk (((w.setCell ⟨g,4,none⟩ (.bool true)).setCell ⟨g,5,none⟩ (.int .i64 (8 * n))).setCell ⟨g,6,none⟩ (.int .i64 (2 * n))) g (learnV c n):=by
  rw [HL.out]
  simpa [Clk] using Blk.set_ (Blk.set_ (Blk.set_ m 4 (.bool true)) 5 (.int .i64 (8 * n))) 6 (.int .i64 (2 * n))
 have f1:Fr [g] w (((w.setCell ⟨g,4,none⟩ (.bool true)).setCell ⟨g,5,none⟩ (.int .i64 (8 * n))).setCell ⟨g,6,none⟩ (.int .i64 (2 * n))):=Fr.setCell (Fr.setCell (Fr.setCell (Fr.refl _ _) (by simp) _) (by simp) _) (by simp) _
 refine (Hk.out _ m1).mono ?_
 rintro e w1 ⟨rfl,f2⟩
 have m2:Clk w1 g (learnV c n):=Blk.fr m1 f2 (by simp)
 have f3:=f1.trans f2 (by simp)
 have d7:=(cells_of m2).c7
 have z7:=Blk.frozen m2 7
 clear m1 f1 f2
 go_wp2_with fail
 go_ret
 refine⟨rfl,Fr.setCell f3 (by simp) _,?_⟩
 simpa [Clk] using Blk.set_ m2 7 (.int .i64 K)
theorem sample_old(g:Nat)(c:Ck)(n:Int)(w:World)(m:Clk w g c)(hi:Inv c)(h0:0≤n)(h1:n≤65536)(his:c.is=true) :
  Calls Tryz.prog 115 #[ptr g, .int .i64 n] w fun e w'=>e = .returned (.int .i64 0)∧Fr [g] w w'∧Clk w' g { learnV c n with wt:=knowsV (learnV c n) }:=by
 obtain⟨c0,c1,c2,c3,c4,c5,c6,c7,c8,c9,c10⟩:=cells_of m
 have z5:=Blk.frozen m 5
 have hl:=learn_inv hi h0 h1
 have hk:=fun W (mW:Clk W g (learnV c n))=>knows_fr g (learnV c n) W mW hl
 have hL:learnV c n={ c with tm:=c.tm+(n - c.tm / 8),sp:=c.sp+(max (n - c.tm / 8) (-(n - c.tm / 8)) - c.sp / 4) }:=by unfold learnV;simp [his]
 have hi':=hi
 obtain⟨l1,lf,fm,m1,t1,t2,tm0,tm1,sp0,sp1,w1,w2,s0,s1,r0,r1⟩:=hi'
 rw [his] at c4
 revert hk
 generalize knowsV (learnV c n)=K
 intro hk
 have Hk:Hid _:=hk
 have HL:Hid _:=hL
 clear hk hL his
 go_enter Tryz.func115,Tryz.ntmps115
 go_wp2_with (first|(go_at_call 85;refine (none_clk _ _ _ m hi).mono ?_;rintro e w' ⟨rfl,rfl⟩))
 have b1:=Blk.set_ m 5 (.int .i64 (c.tm+(n - c.tm / 8)))
 have f1:Fr [g] w (w.setCell ⟨g,5,none⟩ (.int .i64 (c.tm+(n - c.tm / 8)))):=Fr.setCell (Fr.refl _ _) (by simp) _
 generalize w.setCell ⟨g,5,none⟩ (.int .i64 (c.tm+(n - c.tm / 8)))=w1 at *
 have d6:w1.cell? ⟨g,6,none⟩=some (.int .i64 c.sp):=by simpa using Blk.cell b1 6
 have z6:=Blk.frozen b1 6
 have x0:IntKind.i64.wrap (n - c.tm / 8)=n - c.tm / 8:=IntWalk.i64_in _ (by omega)
 have x1:IntKind.i64.wrap (-(n - c.tm / 8))=-(n - c.tm / 8):=IntWalk.i64_in _ (by omega)
 have x2:IntKind.i64.wrap (c.sp / 4)=c.sp / 4:=IntWalk.i64_in _ (by omega)
 go_region
 all_goals go_wp2_with fail
 have m1:Clk ((w1.setCell ⟨g,6,none⟩ (.int .i64 (c.sp+(max (n - c.tm / 8) (-(n - c.tm / 8)) - c.sp / 4)))).drew) g (learnV c n):=by
  rw [HL.out]
  exact Blk.drew (by simpa [Clk] using Blk.set_ b1 6 (.int .i64 (c.sp+(max (n - c.tm / 8) (-(n - c.tm / 8)) - c.sp / 4))))
 have f1':Fr [g] w ((w1.setCell ⟨g,6,none⟩ (.int .i64 (c.sp+(max (n - c.tm / 8) (-(n - c.tm / 8)) - c.sp / 4)))).drew):=(Fr.setCell f1 (by simp) _).drew
 refine (Hk.out _ m1).mono ?_
 rintro e w2 ⟨rfl,f2⟩
 have m2:Clk w2 g (learnV c n):=Blk.fr m1 f2 (by simp)
 have f3:=f1'.trans f2 (by simp)
 have d7:=(cells_of m2).c7
 have z7:=Blk.frozen m2 7
 clear m1 f1 f2 f1' b1 d6 z6
 go_wp2_with fail
 go_ret
 refine⟨rfl,Fr.setCell f3 (by simp) _,?_⟩
 simpa [Clk] using Blk.set_ m2 7 (.int .i64 K)
theorem sample_clk(g:Nat)(c:Ck)(n:Int)(w:World)(m:Clk w g c)(hi:Inv c) :
  Calls Tryz.prog 115 #[ptr g, .int .i64 n] w fun e w'=>e = .returned (.int .i64 (sampleV c n).2)∧Fr [g] w w'∧Clk w' g (sampleV c n).1:=by
 unfold sampleV
 by_cases h:n<0∨65536<n
 ·rw [if_pos h]
  exact (sample_no g c n w m hi h).mono fun _ _ ⟨e,hw⟩=>by subst hw;exact⟨e,Fr.refl _ _,m⟩
 ·rw [if_neg h]
  cases his:c.is
  ·exact sample_new g c n w m hi (by omega) (by omega) his
  ·exact sample_old g c n w m hi (by omega) (by omega) his
theorem wait_clk(g:Nat)(c:Ck)(w:World)(m:Clk w g c)(hi:Inv c):Calls Tryz.prog 50 #[ptr g] w fun e w'=>e = .returned (.int .i64 c.wt)∧w=w':=by
 have c7:=(cells_of m).c7
 go_enter Tryz.func50,Tryz.ntmps50
 go_wp2_with (first|(go_at_call 85;refine (none_clk _ _ _ m hi).mono ?_;rintro e w' ⟨rfl,rfl⟩))
 go_ret
 exact⟨rfl,rfl⟩
theorem runs_clk(g:Nat)(c:Ck)(w:World)(m:Clk w g c)(hi:Inv c):Calls Tryz.prog 61 #[ptr g] w fun e w'=>e = .returned (.bool c.rn)∧w=w':=by
 have c10:=(cells_of m).c10
 go_enter Tryz.func61,Tryz.ntmps61
 go_wp2_with (first|(go_at_call 85;refine (none_clk _ _ _ m hi).mono ?_;rintro e w' ⟨rfl,rfl⟩))
 go_ret
 exact⟨rfl,rfl⟩
theorem late_clk(g:Nat)(c:Ck)(n:Int)(w:World)(m:Clk w g c)(hi:Inv c) :
  Calls Tryz.prog 73 #[ptr g, .int .i64 n] w fun e w'=>e = .returned (.tuple #[.bool (lateV c n).2.1, .int .i64 (lateV c n).2.2])∧Fr [g] w w'∧Clk w' g (lateV c n).1:=by
 have hm:=may_clk g c n w m
 have hd:=due_fr g c n w m hi
 unfold lateV
 cases h:mayV c n
 ·rw [if_neg (by simp)]
  rw [h] at hm
  go_enter Tryz.func73,Tryz.ntmps73
  go_wp2_with (first|(go_at_call 85;refine (none_clk _ _ _ m hi).mono ?_;rintro e w' ⟨rfl,rfl⟩)|(go_at_call 99;refine hm.mono ?_;rintro e w' ⟨rfl,rfl⟩))
  go_ret2
  exact⟨rfl,Fr.refl _ _,m⟩
 ·rw [if_pos rfl]
  rw [h] at hm
  have hb:=may_bd h
  cases h2:dueV c n
  ·rw [if_neg (by simp)]
   rw [h2] at hd
   go_enter Tryz.func73,Tryz.ntmps73
   go_wp2_with (first|(go_at_call 85;refine (none_clk _ _ _ m hi).mono ?_;rintro e w' ⟨rfl,rfl⟩)|(go_at_call 99;refine hm.mono ?_;rintro e w' ⟨rfl,rfl⟩)|(go_at_call 72;refine hd.mono ?_;rintro e w1 ⟨rfl,f1⟩))
   go_ret2
   exact⟨rfl,f1.mono (by simp),Blk.fr m f1 (by simp)⟩
  ·rw [if_pos rfl]
   rw [h2] at hd
   clear h h2
   obtain⟨b0,b1⟩:=hb
   have hi':=hi
   obtain⟨l1,lf,fm,m1,t1,t2,tm0,tm1,sp0,sp1,w1,w2,s0,s1,r0,r1⟩:=hi'
   by_cases h3:c.tr=c.t
   ·rw [if_pos h3]
    have h4:(c.tr == c.t)=true:=by simpa using h3
    clear h3
    go_enter Tryz.func73,Tryz.ntmps73
    go_wp2_with (first|(go_at_call 85;refine (none_clk _ _ _ m hi).mono ?_;rintro e w' ⟨rfl,rfl⟩)|(go_at_call 99;refine hm.mono ?_;rintro e w' ⟨rfl,rfl⟩))
    refine hd.mono ?_
    rintro e w1 ⟨rfl,f1⟩
    have m1:Clk w1 g c:=Blk.fr m f1 (by simp)
    obtain⟨c0,c1,c2,c3,c4,c5,c6,c7,c8,c9,c10⟩:=cells_of m1
    have z8:=Blk.frozen m1 8
    have z10:=Blk.frozen m1 10
    go_wp2_with fail
    go_region
    all_goals go_wp2_with fail
    all_goals go_ret2
    all_goals refine⟨rfl,(Fr.setCell (Fr.setCell (f1.mono (by simp)) (by simp) _) (by simp) _).drew,?_⟩
    all_goals exact Blk.drew (by simpa [Clk] using Blk.set_ (Blk.set_ m1 10 (.bool false)) 8 (.int .i64 0))
   ·rw [if_neg h3]
    have h4:(c.tr == c.t)=false:=by simpa using h3
    clear h3
    go_enter Tryz.func73,Tryz.ntmps73
    go_wp2_with (first|(go_at_call 85;refine (none_clk _ _ _ m hi).mono ?_;rintro e w' ⟨rfl,rfl⟩)|(go_at_call 99;refine hm.mono ?_;rintro e w' ⟨rfl,rfl⟩))
    refine hd.mono ?_
    rintro e w1 ⟨rfl,f1⟩
    have m1:Clk w1 g c:=Blk.fr m f1 (by simp)
    obtain⟨c0,c1,c2,c3,c4,c5,c6,c7,c8,c9,c10⟩:=cells_of m1
    have z7:=Blk.frozen m1 7
    have z8:=Blk.frozen m1 8
    have z9:=Blk.frozen m1 9
    have x1:IntKind.i64.wrap (2 * c.wt)=2 * c.wt:=IntWalk.i64_in _ (by omega)
    go_wp2_with fail
    go_region
    all_goals go_wp2_with fail
    all_goals go_region
    all_goals go_wp2_with fail
    all_goals go_ret2
    all_goals refine⟨rfl,(Fr.setCell (Fr.setCell (Fr.setCell (f1.mono (by simp)) (by simp) _) (by simp) _) (by simp) _).drew.drew,?_⟩
    all_goals exact Blk.drew (Blk.drew (by simpa [Clk] using Blk.set_ (Blk.set_ (Blk.set_ m1 9 (.int .i64 (c.tr+1))) 7 (.int .i64 (min (2 * c.wt) c.m))) 8 (.int .i64 n)))
theorem new_clk(f l m t:Int)(w:World)(h1:1≤l)(h2:l≤f)(h3:f≤m)(h4:m≤65536)(h5:1≤t)(h6:t≤100) :
  Calls Tryz.prog 20 #[.agg #[.int .i64 f, .int .i64 l, .int .i64 m, .int .i64 t]] w fun e w'=>∃ g,e = .returned (.tuple #[ptr g, .int .i64 0])∧w.heap.size≤g∧Fr [] w w'∧Clk w' g (newV f l m t)∧g<w'.heap.size:=by
 go_enter Tryz.func20,Tryz.ntmps20
 go_wp2_with fail
 refine wp_scope_fwd 0 rfl ?_
 go_wp2
 rw [fwd_ret]
 go_ret2
 have hB:Blk ((w.alloc (.cells #[.int .i64 f, .int .i64 l, .int .i64 m, .int .i64 t] 34)).alloc (.cells #[.int .i64 f, .int .i64 l, .int .i64 m, .int .i64 t, .bool false, .int .i64 0, .int .i64 0, .int .i64 f, .int .i64 0, .int .i64 0, .bool false] 111)) (w.heap.size+1) 111 (newV f l m t).arr:=by
  have:=Blk.new (w.alloc (.cells #[.int .i64 f, .int .i64 l, .int .i64 m, .int .i64 t] 34)) 111 (newV f l m t).arr
  simpa [newV] using this
 exact⟨w.heap.size+1,rfl,by omega,((Fr.refl _ _).alloc _).alloc _,hB,by simp⟩
end Go.Proofs.YtmgdbbbdhkfdmaaGreat.Rto
namespace Go.Proofs.YtmgdbbbdhkfdmaaGreat.Rto
set_option maxRecDepth 100000
open Go.RowKit Go.Deep
abbrev agC(c:Ck):Value := .agg c.arr
end Go.Proofs.YtmgdbbbdhkfdmaaGreat.Rto
namespace Go.Proofs.YtmgdbbbdhkfdmaaGreat.Sne
set_option maxRecDepth 100000
open Go.RowKit
def nearV(seq tu:Int):Int × Int:=
 if tu<0∨4611686018427387904<tu then (0,2) else
 let n:=tu - tu % 4294967296+seq
 let k:=if 2147483648<n - tu∧4294967296≤n then n - 4294967296 else if n - tu≤-2147483648 then n+4294967296 else n
 if 4611686018427387904<k then (0,210) else (k,0)
theorem makeFunc_run(fn:Fn)(first cap:Array Value)(w:World):(Instr.makeFunc fn first cap).run Tryz.prog w = .ok (.func fn first cap) w:=rfl
theorem near_walk(seq tu:Int)(w:World)(h0:0≤seq)(h1:seq<4294967296)(h2:-9223372036854775808≤tu)(h3:tu≤9223372036854775807) :
  Calls Tryz.prog 124 #[.int .u32 seq, .int .i64 tu] w fun e w'=>e = .returned (.tuple #[.int .i64 (nearV seq tu).1, .int .i64 (nearV seq tu).2])∧Fr [] w w':=by
 have hmf:=makeFunc_run
 go_enter Tryz.func124,Tryz.ntmps124
 go_wp2
 refine wp_scope_fwd 0 rfl ?_
 go_wp2
 all_goals (try (apply wp_goto;refine fwd_goto _ _ ?_;go_wp2))
 all_goals (try rw [Exit.noGoto_ret])
 all_goals (try rw [fwd_ret])
 all_goals go_ret2
 all_goals (refine⟨ret2_eq ?_ ?_,(Fr.refl _ _).alloc _⟩ <;> unfold nearV <;> dsimp only <;> (repeat' split) <;> (try dsimp only) <;> omega)
end Go.Proofs.YtmgdbbbdhkfdmaaGreat.Sne
namespace Go.Proofs.YtmgdbbbdhkfdmaaGreat
set_option maxRecDepth 100000
structure Pc where
 at_:Int
 d:List Int
instance:Inhabited Pc:=⟨⟨0,[]⟩⟩
def Pc.beh(p:Pc):Int:=p.at_+p.d.length
structure Hp where
 most:Int
 next:Int
 kept:List Pc
 fin:Option Int
def takeV(next:Int)(p:Pc):List Int × Int:=if p.beh≤next then ([],next) else (p.d.drop (next - p.at_).toNat,p.beh)
def bestV(is:Pc→Bool)(lt:Pc→Pc→Bool)(l:List Pc):Nat→Int
 | 0=>-1
 | k+1=>if is (l.getD k default) && (decide (bestV is lt l k<0) || lt (l.getD k default) (l.getD (bestV is lt l k).toNat default)) then k else bestV is lt l k
def early(next:Int)(p:Pc):Bool:=decide (p.at_≤next)
def ahead(p q:Pc):Bool:=decide (p.at_<q.at_)
def readyV(next:Int)(l:List Pc):Int:=bestV (early next) ahead l l.length
def drainV:Nat→Int→List Pc→Int × List Pc × List Int
 | 0,next,l=>(next,l,[])
 | n+1,next,l=>
  if readyV next l<0 then (next,l,[])
  else
   ((drainV n (takeV next (l.getD (readyV next l).toNat default)).2 (l.eraseIdx (readyV next l).toNat)).1,
    (drainV n (takeV next (l.getD (readyV next l).toNat default)).2 (l.eraseIdx (readyV next l).toNat)).2.1,
    (takeV next (l.getD (readyV next l).toNat default)).1++(drainV n (takeV next (l.getD (readyV next l).toNat default)).2 (l.eraseIdx (readyV next l).toNat)).2.2)
def past(e:Option Int)(b:Int):Bool:=match e with|none=>false|some a=>decide (a<b)
def other(e:Option Int)(b:Int):Bool:=match e with|none=>false|some a=>!(a == b)
def longer(at_:Int)(n:Nat)(p:Pc):Bool:=(p.at_ == at_) && decide (n≤p.d.length)
def putV(h:Hp)(at_:Int)(d:List Int):Hp × List Int × Int:=
 if at_<0∨4611686018427387904<at_∨d.length<1∨64<d.length then (h,[],2)
 else if past h.fin (at_+d.length)=true then (h,[],250)
 else if at_+d.length≤h.next then (h,[],0)
 else if at_≤h.next then
  ({ h with next:=(drainV h.kept.length (at_+d.length) h.kept).1,kept:=(drainV h.kept.length (at_+d.length) h.kept).2.1 },d.drop (h.next - at_).toNat++(drainV h.kept.length (at_+d.length) h.kept).2.2,0)
 else if h.kept.any (longer at_ d.length)=true then (h,[],0)
 else if h.most≤h.kept.length then (h,[],251)
 else ({ h with kept:=h.kept++[⟨at_,d⟩] },[],0)
def over(a:Int)(p:Pc):Bool:=decide (a<p.beh)
def endV(h:Hp)(at_:Int):Hp × Int:=
 if at_<0∨4611686018427387904<at_ then (h,2)
 else if (other h.fin at_ || decide (at_<h.next) || h.kept.any (over at_))=true then (h,250)
 else ({ h with fin:=some at_ },0)
def sumV:List Pc→Int
 | []=>0
 | p::l=>p.d.length+sumV l
def newV(most:Int):Hp:=⟨most,0,[],none⟩
structure Inv(h:Hp):Prop where
 m0:0≤h.most
 m1:h.most≤64
 n0:0≤h.next
 n1:h.next≤4611686018427387968
 len:(h.kept.length:Int)≤h.most
 pc:∀ p∈h.kept,0≤p.at_∧p.at_≤4611686018427387904∧1≤p.d.length∧p.d.length≤64
 fin:∀ a,h.fin=some a→0≤a∧a≤4611686018427387904
theorem best_succ(is:Pc→Bool)(lt:Pc→Pc→Bool)(l:List Pc)(k:Nat):bestV is lt l (k+1) =
  if is (l.getD k default) && (decide (bestV is lt l k<0) || lt (l.getD k default) (l.getD (bestV is lt l k).toNat default)) then (k:Int) else bestV is lt l k:=rfl
theorem best_bd(is:Pc→Bool)(lt:Pc→Pc→Bool)(l:List Pc):∀ k,-1≤bestV is lt l k∧bestV is lt l k<k
 | 0=>by simp [bestV]
 | k+1=>by
  have:=best_bd is lt l k
  unfold bestV
  split <;> omega
theorem ready_bd(next:Int)(l:List Pc):-1≤readyV next l∧readyV next l<l.length:=best_bd _ _ l _
theorem drain_len:∀ n next l,(drainV n next l).2.1.length≤l.length
 | 0,_,_=>Nat.le_refl _
 | n+1,next,l=>by
  unfold drainV
  split
  ·exact Nat.le_refl _
  ·exact Nat.le_trans (drain_len n _ _) (List.length_eraseIdx_le _ _)
theorem drain_mem:∀ n next l p,p∈(drainV n next l).2.1→p∈l
 | 0,_,_,_,h=>h
 | n+1,next,l,p,h=>by
  unfold drainV at h
  split at h
  ·exact h
  ·exact List.mem_of_mem_eraseIdx (drain_mem n _ _ p h)
theorem take_bd(next:Int)(p:Pc)(h0:0≤next)(h1:next≤4611686018427387968)(hp:p.at_≤4611686018427387904∧p.d.length≤64) :
  0≤(takeV next p).2∧(takeV next p).2≤4611686018427387968∧next≤(takeV next p).2:=by
 unfold takeV Pc.beh
 split
 ·exact⟨h0,h1,Int.le_refl _⟩
 ·dsimp only
  omega
theorem getD_mem{l:List Pc}{i:Nat}(h:i<l.length):l.getD i default∈l:=by
 rw [List.getD_eq_getElem?_getD,List.getElem?_eq_getElem h]
 exact List.getElem_mem h
theorem drain_bd:∀ n next l,0≤next→next≤4611686018427387968→(∀ p∈l,0≤p.at_∧p.at_≤4611686018427387904∧1≤p.d.length∧p.d.length≤64) →
  0≤(drainV n next l).1∧(drainV n next l).1≤4611686018427387968∧next≤(drainV n next l).1
 | 0,_,_,h0,h1,_=>⟨h0,h1,Int.le_refl _⟩
 | n+1,next,l,h0,h1,hp=>by
  unfold drainV
  split
  ·exact⟨h0,h1,Int.le_refl _⟩
  ·rename_i hn
   have hb:=ready_bd next l
   have hm:=hp _ (getD_mem (l:=l) (i:=(readyV next l).toNat) (by omega))
   have ht:=take_bd next _ h0 h1 ⟨hm.2.1,hm.2.2.2⟩
   have:=drain_bd n (takeV next (l.getD (readyV next l).toNat default)).2 (l.eraseIdx (readyV next l).toNat) ht.1 ht.2.1 (fun p hq=>hp p (List.mem_of_mem_eraseIdx hq))
   exact⟨this.1,this.2.1,Int.le_trans ht.2.2 this.2.2⟩
theorem put_inv{h:Hp}(hi:Inv h)(a:Int)(d:List Int):Inv (putV h a d).1:=by
 unfold putV
 split
 ·exact hi
 split
 ·exact hi
 split
 ·exact hi
 rename_i g1 g2 g3
 split
 ·have h1:=drain_len h.kept.length (a+d.length) h.kept
  have h2:=drain_bd h.kept.length (a+d.length) h.kept (by omega) (by omega) hi.pc
  have h3:=hi.len
  exact⟨hi.m0,hi.m1,h2.1,h2.2.1,by dsimp only;omega,fun p hp=>hi.pc p (drain_mem _ _ _ _ hp),hi.fin⟩
 split
 ·exact hi
 split
 ·exact hi
 ·refine⟨hi.m0,hi.m1,hi.n0,hi.n1,by simp;omega,fun p hp=>?_,hi.fin⟩
  rcases List.mem_append.1 hp with hp|hp
  ·exact hi.pc p hp
  ·rw [List.mem_singleton] at hp
   subst hp
   dsimp only
   omega
theorem end_inv{h:Hp}(hi:Inv h)(a:Int):Inv (endV h a).1:=by
 unfold endV
 split
 ·exact hi
 split
 ·exact hi
 ·refine⟨hi.m0,hi.m1,hi.n0,hi.n1,hi.len,hi.pc,fun b hb=>?_⟩
  injection hb with hb
  omega
theorem new_inv{m:Int}(h0:0≤m)(h1:m≤64):Inv (newV m):=⟨h0,h1,by simp [newV],by simp [newV],by simpa [newV] using h0,by simp [newV],by simp [newV]⟩
theorem sum_bd:∀ l:List Pc,(∀ p∈l,p.d.length≤64)→0≤sumV l∧sumV l≤64 * l.length
 | [],_=>by simp [sumV]
 | p::l,h=>by
  have h1:=sum_bd l fun q hq=>h q (List.mem_cons_of_mem _ hq)
  have h2:=h p (List.mem_cons_self ..)
  simp only [sumV,List.length_cons]
  omega
theorem sum_snoc:∀(l:List Pc) (p:Pc),sumV (l++[p])=sumV l+p.d.length
 | [],p=>by simp [sumV]
 | q::l,p=>by
  have:=sum_snoc l p
  simp only [List.cons_append,sumV]
  omega
theorem best_any(is:Pc→Bool)(l:List Pc):∀ k,k≤l.length→(decide (0≤bestV is (fun _ _=>false) l k)=(l.take k).any is)
 | 0,_=>by simp [bestV]
 | k+1,hk=>by
  have ih:=best_any is l k (by omega)
  have hb:=best_bd is (fun _ _=>false) l k
  rw [List.take_add_one,List.any_append,← ih]
  have hx:l[k]?=some (l.getD k default):=by
   rw [List.getD_eq_getElem?_getD,List.getElem?_eq_getElem (by omega)];rfl
  rw [hx,best_succ]
  generalize l.getD k default=x at *
  generalize bestV is (fun _ _=>false) l k=b at *
  cases hc:is x
  ·simp [hc]
  ·by_cases h0:b<0
   ·simp [hc,h0]
   ·simp [hc,h0]
    omega
theorem best_longer(at_:Int)(n:Nat)(l:List Pc):decide (0≤bestV (longer at_ n) (fun _ _=>false) l l.length)=l.any (longer at_ n):=by
 have:=best_any (longer at_ n) l l.length (Nat.le_refl _)
 rwa [List.take_length] at this
end Go.Proofs.YtmgdbbbdhkfdmaaGreat
namespace Go.Proofs.YtmgdbbbdhkfdmaaGreat
set_option maxRecDepth 100000
structure St where
 isn:Int
 peer:Int
 at_:Int
 broken:Bool
 all:List Int
 unread:List Int
 win:Win.Wn
 clk:Rto.Ck
 heap:Hp
 closing:Bool
 fin:Bool
 acked:Bool
 ended:Bool
 now:Int
 since:Int
 timed:Int
 shown:Int
structure Prt where
 flags:Int
 seq:Int
 ack:Int
 win:Int
 d:List Int
def one(b:Bool):Int:=if b then 1 else 0
def add32(n m:Int):Int:=(n+m) % 4294967296
def awaitedV(s:St):Int:=add32 s.peer (1+s.heap.next+one s.ended)
def roomV(s:St):Int:=(Win.offerV 1024 (min 1024 (s.unread.length+sumV s.heap.kept))).1
def shows(s:St):St:={ s with shown:=roomV s }
def partV(s:St)(f a:Int)(d:List Int):Prt:=⟨f,add32 s.isn (1+a),awaitedV s,roomV s,d⟩
def answerV(s:St):Prt:=partV s 2 (s.win.m+one s.fin) []
def beginsV(s:St):Prt:=if s.at_=3 then ⟨3,s.isn,awaitedV s,roomV s,[]⟩ else ⟨1,s.isn,0,roomV s,[]⟩
def doneV(s:St)(b:Bool):St:={ s with at_:=5,broken:=b }
def opensV(s:St)(r:Int):St:={ s with at_:=4,win:=(Win.ackV s.win 0 r).1,clk:=Rto.stopV s.clk }
def waitsV(s:St):Bool:=s.at_ == 2 || (s.at_ == 3 || (s.at_ == 4 && (decide (s.win.a<s.win.m) || (s.fin && !s.acked || Win.zeroV s.win && decide (s.win.a<s.all.length)))))
def restsV(s:St):St:=
 if waitsV s && !s.clk.rn then { s with clk:=(Rto.startV s.clk s.now).1 }
 else if !waitsV s && s.clk.rn then { s with clk:=Rto.stopV s.clk }
 else s
def placeV(number first near:Int):Int:=(Sne.nearV ((number - first - 1) % 4294967296) near).1
def has(f n:Int):Bool:=f / n % 2 == 1
def endsV(x:St)(p:Prt):Bool:=x.fin && decide (placeV p.ack x.isn x.win.a=x.all.length+1)
def uptoV(x:St)(p:Prt):Int:=if endsV x p then (x.all.length:Int) else placeV p.ack x.isn x.win.a
def acks2V(x:St)(v:Win.Wn)(more:Int)(ends:Bool):St:=
 if more=0∧(!ends || x.acked)=true then { x with win:=v }
 else if 0<x.timed∧x.timed≤v.a then { x with win:=v,acked:=x.acked || ends,timed:=0,clk:=Rto.stopV (Rto.sampleV x.clk (x.now - x.since)).1 }
 else { x with win:=v,acked:=x.acked || ends,clk:=Rto.stopV x.clk }
def acksV(x:St)(p:Prt):St:=acks2V x (Win.ackV x.win (uptoV x p) p.win).1 (Win.ackV x.win (uptoV x p) p.win).2.1 (endsV x p)
def dataV(s:St)(p:Prt):St:=
 let a:=placeV p.seq s.peer s.heap.next
 let h1:=if has p.flags 4 then (endV s.heap (a+p.d.length)).1 else s.heap
 let t:=putV h1 a p.d
 let s1:=if 0<p.d.length∧a+p.d.length - h1.next≤1024 - s.unread.length then { s with heap:=t.1,unread:=s.unread++t.2.1 } else { s with heap:=h1 }
 { s1 with ended:=isFinV s1.heap }
where isFinV (h:Hp):Bool:=match h.fin with|none=>false|some a=>a == h.next
def openV(s:St)(p:Prt):St × List Prt:=
 if has p.flags 8 then (if p.seq=awaitedV s then doneV s true else s,[])
 else if has p.flags 1 then (shows s,[answerV s])
 else if !has p.flags 2 then (s,[])
 else
  let s1:=acksV s p
  let s2:=if s1.ended then s1 else dataV s1 p
  if p.d.length=0∧has p.flags 4=false then (s2,[]) else (shows s2,[answerV s2])
def listenV(s:St)(p:Prt):St × List Prt:=
 if p.flags=1 then (shows { s with peer:=p.seq,at_:=3 },[beginsV { s with peer:=p.seq,at_:=3 }]) else (s,[])
def callsV(s:St)(p:Prt):St × List Prt:=
 if p.flags=1 then listenV s p
 else if p.ack≠add32 s.isn 1∨has p.flags 2=false then (s,[])
 else if p.flags=3 then (shows (opensV { s with peer:=p.seq } p.win),[answerV (opensV { s with peer:=p.seq } p.win)])
 else if p.flags=10 then (doneV s true,[])
 else (s,[])
def heardV(s:St)(p:Prt):St × List Prt:=
 if p.flags=1 then listenV s p
 else if p.flags=3∧p.seq=s.peer∧p.ack=add32 s.isn 1 then (shows (opensV s p.win),[answerV (opensV s p.win)])
 else if has p.flags 8 then openV s p
 else if has p.flags 1=true∨has p.flags 2=false∨p.ack≠add32 s.isn 1 then (s,[])
 else openV (opensV s p.win) p
def endedV(s:St)(p:Prt):St × List Prt:=
 if s.broken=true∨¬ (p.flags=2∨p.flags=6)∨(has p.flags 4=false∧p.d.length=0) then (s,[]) else (shows s,[answerV s])
def comesV(s:St)(p:Prt):St × List Prt:=
 if s.at_=1 then listenV s p else if s.at_=2 then callsV s p else if s.at_=3 then heardV s p else if s.at_=4 then openV s p else endedV s p
def nextV(s:St):Int:=min 64 (min (s.all.length - s.win.s) (Win.roomV s.win))
def sendV(s:St):St × Prt:=
 let n:=nextV s
 let s1:={ s with win:=(Win.takeV s.win n).1 }
 let p:=partV s1 2 s.win.s ((s.all.drop s.win.s.toNat).take n.toNat)
 let s2:=shows s1
 (if s.timed=0 then { s2 with timed:=s.win.s+n,since:=s.now } else s2,p)
def loopV:Nat→St→St × List Prt
 | 0,s=>(s,[])
 | k+1,s=>if 0<nextV s then ((loopV k (sendV s).1).1,(sendV s).2::(loopV k (sendV s).1).2) else (s,[])
def sendsV(s:St):St × List Prt:=
 if s.at_=4 then
  let r:=loopV s.all.length s
  let s1:=r.1
  let f:=s1.closing && decide (s1.win.s=s1.all.length) && !s1.fin
  let s2:=if f then { shows s1 with fin:=true } else s1
  let l2:=if f then [partV s1 6 s1.all.length []] else []
  let s3:=if s2.ended && s2.acked then doneV s2 false else s2
  (restsV s3,r.2++l2)
 else (restsV s,[])
def comeV(s:St)(p:Prt):St × List Prt × Int:=
 if p.flags<0∨15<p.flags∨64<p.d.length then (s,[],2)
 else ((sendsV (comesV s p).1).1,(comesV s p).2++(sendsV (comesV s p).1).2,0)
def overV(s:St):Bool:=s.at_ == 5 || s.closing
def writeV(s:St)(b:List Int):St × List Prt × Int:=
 if overV s then (s,[],260)
 else if 4096 - (s.all.length - s.win.a)<b.length then (s,[],3)
 else ((sendsV { s with all:=s.all++b }).1,(sendsV { s with all:=s.all++b }).2,0)
def closeV(s:St):St × List Prt × Int:=
 if overV s then (s,[],260) else ((sendsV { s with closing:=true }).1,(sendsV { s with closing:=true }).2,0)
def resetV(s:St):St × List Prt × Int:=
 if s.at_=5 then (s,[],260)
 else if s.at_=3∨s.at_=4 then (restsV (doneV (shows s) true),[partV s 10 (s.win.m+one s.fin) []],0)
 else (restsV (doneV s true),[],0)
def againV(s:St):St × Prt:=
 if s.at_≠4 then (shows s,beginsV s)
 else if 0<min 64 (s.win.m - s.win.a) then (shows s,partV s 2 s.win.a ((s.all.drop s.win.a.toNat).take (min 64 (s.win.m - s.win.a)).toNat))
 else if s.fin then (shows s,partV s 6 s.all.length [])
 else
  let s1:={ s with win:=(Win.probeV s.win).1 }
  (shows s1,partV s1 2 (Win.probeV s.win).2.1 ((s.all.drop s.win.a.toNat).take 1))
def tickV(s:St):St × List Prt:=
 let s1:={ s with now:=s.now+1 }
 if Rto.dueV s1.clk s1.now then
  let t:=Rto.lateV s1.clk s1.now
  let s2:={ s1 with clk:=t.1 }
  if t.2.1 then (restsV (againV { s2 with timed:=0 }).1,[(againV { s2 with timed:=0 }).2]) else (restsV (doneV s2 true),[])
 else (s1,[])
def readV(s:St):St × List Int × List Prt:=
 let s1:={ s with unread:=[] }
 if s.shown=0∧s.at_=4∧0<roomV s1 then (shows s1,s.unread,[answerV s1]) else (s1,s.unread,[])
def newS(isn:Int)(at_:Int):St:=⟨isn,0,at_,false,[],[],⟨0,0,0,0⟩,Rto.newV 2 1 32 8,newV 8,false,false,false,false,0,0,0,0⟩
def newSV(isn:Int)(calls:Bool):St × List Prt:=
 if calls then (restsV (shows (newS isn 2)),[beginsV (newS isn 2)]) else (newS isn 1,[])
end Go.Proofs.YtmgdbbbdhkfdmaaGreat
namespace Go.Proofs.YtmgdbbbdhkfdmaaGreat
set_option maxRecDepth 100000
open Go.RowKit
abbrev ptr(g:Nat):Value := .pointer (some ⟨g,0,none⟩)
def pcs:List (Pc × Value)→List Value
 | []=>[]
 | x::L => .int .i64 x.1.at_::x.2::pcs L
theorem pcs_len:∀ L,(pcs L).length=L.length * 2
 | []=>rfl
 | x::L=>by simp only [pcs,List.length_cons,pcs_len L];omega
theorem pcs_app:∀ L M,pcs L++pcs M=pcs (L++M)
 | [],_=>rfl
 | x::L,M=>by simp only [pcs,List.cons_append,pcs_app L M]
theorem pcs_take:∀(L:List (Pc × Value)) k,(pcs L).take (k * 2)=pcs (L.take k)
 | [],k=>by simp [pcs]
 | x::L,0=>by simp [pcs]
 | x::L,k+1=>by
  rw [show (k+1) * 2=k * 2+1+1 by omega]
  simp only [pcs,List.take_succ_cons,pcs_take L k]
theorem pcs_drop:∀(L:List (Pc × Value)) k,(pcs L).drop (k * 2)=pcs (L.drop k)
 | [],k=>by simp [pcs]
 | x::L,0=>by simp [pcs]
 | x::L,k+1=>by
  rw [show (k+1) * 2=k * 2+1+1 by omega]
  simp only [pcs,List.drop_succ_cons,pcs_drop L k]
theorem pcs_at:∀(L:List (Pc × Value)) k (x:Pc × Value),L[k]?=some x→(pcs L)[k * 2]?=some (.int .i64 x.1.at_)∧(pcs L)[k * 2+1]?=some x.2
 | [],k,x,h=>by simp at h
 | y::L,0,x,h=>by
  simp at h
  subst h
  exact⟨rfl,rfl⟩
 | y::L,k+1,x,h=>by
  simp at h
  rw [show (k+1) * 2=k * 2+1+1 by omega,show k * 2+1+1+1=(k * 2+1)+1+1 by omega]
  simp only [pcs,List.getElem?_cons_succ]
  exact pcs_at L k x h
theorem pcs_one:∀ L:List (Pc × Value),(∀ x∈L,x.2.oneCell'=true)→∀ u∈pcs L,u.oneCell'=true
 | [],_,u,hu=>by simp [pcs] at hu
 | y::L,h,u,hu=>by
  simp only [pcs,List.mem_cons] at hu
  rcases hu with rfl|rfl|hu
  ·rfl
  ·exact h _ (List.mem_cons_self ..)
  ·exact pcs_one L (fun x hx=>h x (List.mem_cons_of_mem _ hx)) u hu
structure Kp(e:TypeId)(S:Nat→Prop)(w:World)(kv:Value)(L:List (Pc × Value)):Prop where
 own:w.ownsRow 0 e 2 kv L.length (pcs L)
 byt:∀ x∈L,Byt S w x.2 x.1.d
section
variable {e:TypeId} {S S':Nat→Prop} {w w':World} {kv:Value} {L:List (Pc × Value)} {O:List Nat}
theorem Byt.one{v:Value}{l:List Int}(h:Byt S w v l):v.oneCell'=true:=by
 obtain⟨A,c,rfl,_⟩:=h.form
 rfl
theorem Kp.fr(h:Kp e S w kv L)(hf:Fr O w w')(hO:∀ x∈O,¬ S x)(hk:∀ b,kv.ownBlock=some b→b∉O):Kp e S w' kv L:=
 ⟨own_fr h.own hf hk,fun x hx=>(h.byt x hx).fr hf hO⟩
theorem Kp.mono(h:Kp e S w kv L)(hS:∀ b,S b→S' b):Kp e S' w kv L:=⟨h.own,fun x hx=>(h.byt x hx).mono hS⟩
theorem Kp.at_(h:Kp e S w kv L){k:Nat}(hk:k<L.length):∃ b c x,kv = .slice (some ⟨b,0,none⟩) L.length c∧L[k]?=some x∧w.cell? ⟨b,k * 2,none⟩=some (.int .i64 x.1.at_)∧w.cell? ⟨b,k * 2+1,none⟩=some x.2∧Byt S w x.2 x.1.d:=by
 have hs:=Sl.of_own (S:=fun _=>True) h.own (fun _ _=>trivial)
 rcases h.own.2 with ⟨rfl,h0⟩|⟨g,cap,cur,rfl,_,hg,_⟩
 ·omega
 ·have hx:L[k]?=some L[k]:=List.getElem?_eq_getElem hk
  obtain⟨h1,h2⟩:=pcs_at L k _ hx
  obtain⟨_,A,c',hv,_,_,hu⟩:=hs
  obtain⟨b,o,hA,_,hc⟩:=hu (by omega)
  subst hA
  injection hv with hv _ _
  injection hv with hv
  injection hv with hb ho _
  subst hb ho
  refine⟨g,cap,L[k],rfl,hx,?_,?_,h.byt _ (List.getElem_mem hk)⟩
  ·have:=hc _ _ h1;rwa [Nat.zero_add] at this
  ·have:=hc _ _ h2;rwa [Nat.zero_add] at this
theorem Kp.form(h:Kp e S w kv L):∃ A c,kv = .slice A L.length c∧L.length≤c∧c≤maxLen:=own_form h.own
theorem Kp.one(h:Kp e S w kv L):∀ u∈pcs L,u.oneCell'=true:=pcs_one L fun x hx=>(h.byt x hx).one
end
structure HPx(S:Nat→Prop)(w:World)(g:Nat)(kv ev:Value)(h:Hp)(L:List (Pc × Value)):Prop where
 blk:Blk w g 115 #[.int .i64 h.most, .int .i64 h.next,kv,ev, .bool true]
 kp:Kp 134 S w kv L
 kept:h.kept=L.map (·.1)
 fin:(h.fin=none∧ev = .pointer none)∨∃ a b,h.fin=some a∧ev=ptr b∧S b∧w.cell? ⟨b,0,none⟩=some (.int .i64 a)
 pub:∀ b,S b→b<w.heap.size
 offg:¬ S g
 offk:∀ b,kv.ownBlock=some b→¬ S b
def HP(S:Nat→Prop)(w:World)(g:Nat)(kv:Value)(h:Hp):Prop:=∃ ev L,HPx S w g kv ev h L
section
variable {S S':Nat→Prop} {w w':World} {g:Nat} {kv ev:Value} {h:Hp} {L:List (Pc × Value)} {O:List Nat}
theorem HPx.fr(m:HPx S w g kv ev h L)(f:Fr O w w')(hO:∀ x∈O,¬ S x)(hg:g∉O)(hk:∀ b,kv.ownBlock=some b→b∉O):HPx S w' g kv ev h L:=by
 refine⟨m.blk.fr f hg,m.kp.fr f hO hk,m.kept,?_,fun b hb=>Nat.lt_of_lt_of_le (m.pub b hb) f.size,m.offg,m.offk⟩
 rcases m.fin with h1|⟨a,b,h1,h2,h3,h4⟩
 ·exact .inl h1
 ·exact .inr ⟨a,b,h1,h2,h3,(f.cell (p:=⟨b,0,none⟩) (m.pub b h3) (fun hm=>hO b hm h3)).trans h4⟩
theorem HPx.ext(m:HPx S w g kv ev h L)(f:Fr O w w')(x:Ext w S S')(hO:∀ x∈O,¬ S x)(hg:g∉O)(hk:∀ b,kv.ownBlock=some b→b∉O)(hp:∀ b,S' b→b<w'.heap.size):HPx S' w' g kv ev h L:=by
 have n:=m.fr f hO hg hk
 refine⟨n.blk,n.kp.mono x.1,n.kept,?_,hp,x.off m.blk.lt m.offg,fun b hb=>x.off (own_lt m.kp.own hb) (m.offk b hb)⟩
 rcases n.fin with h1|⟨a,b,h1,h2,h3,h4⟩
 ·exact .inl h1
 ·exact .inr ⟨a,b,h1,h2,x.1 b h3,h4⟩
theorem HPx.len(m:HPx S w g kv ev h L):h.kept.length=L.length:=by rw [m.kept,List.length_map]
theorem HPx.cells(m:HPx S w g kv ev h L):w.cell? ⟨g,0,none⟩=some (.int .i64 h.most)∧w.cell? ⟨g,1,none⟩=some (.int .i64 h.next)∧w.cell? ⟨g,2,none⟩=some kv∧w.cell? ⟨g,3,none⟩=some ev∧w.cell? ⟨g,4,none⟩=some (.bool true):=
 ⟨by simpa using m.blk.cell 0,by simpa using m.blk.cell 1,by simpa using m.blk.cell 2,by simpa using m.blk.cell 3,by simpa using m.blk.cell 4⟩
end
end Go.Proofs.YtmgdbbbdhkfdmaaGreat
