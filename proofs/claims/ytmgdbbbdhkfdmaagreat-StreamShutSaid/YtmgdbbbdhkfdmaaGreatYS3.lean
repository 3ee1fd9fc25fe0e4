import Derived.Test.YtmgdbbbdhkfdmaaGreatYS2
import Derived.Deep.DeepCutAuto
import Derived.Test.YtmgdbbbdhkfdmaaGreatYS1
set_option linter.unusedSimpArgs false
set_option linter.unusedVariables false
namespace Go.Proofs.YtmgdbbbdhkfdmaaGreat
set_option maxRecDepth 100000
open Go.RowKit Go.Deep
structure RPx(S:Nat→Prop)(w:World)(kv:Value)(h:Hp)(L:List (Pc × Value)):Prop where
 kp:Kp 162 S w kv L
 kept:h.kept=L.map (·.1)
 offk:∀ b,kv.ownBlock=some b→S b
 pub:∀ b,S b→b<w.heap.size
abbrev agH(h:Hp)(kv:Value):Value:=agR h.most h.next kv (finI h.fin)
abbrev arH(h:Hp)(kv:Value):Array Value:=arR h.most h.next kv (finI h.fin)
theorem RPx.ext{S S':Nat→Prop}{w w':World}{kv:Value}{h:Hp}{L:List (Pc × Value)}{O:List Nat}(m:RPx S w kv h L)(f:Fr O w w')(hO:∀ x∈O,¬ S x)(hS:∀ b,S b→S' b)(hp:∀ b,S' b→b<w'.heap.size):RPx S' w' kv h L:=
 ⟨(m.kp.fr f hO (fun b hb hm=>hO b hm (m.offk b hb))).mono hS,m.kept,fun b hb=>hS b (m.offk b hb),hp⟩
def RReadyRel(w:World)(m n f:Int)(kv:Value)(l:List Pc)(s3 s4:Value)(wr:World):Prop:=
 ∃ k:Nat,k≤l.length∧s4 = .int .i64 k∧s3 = .int .i64 (bestV (early n) ahead l k)∧Fr [] w wr∧Blk wr w.heap.size 39 (arR m n kv f)
set_option maxHeartbeats 2000000 in
theorem rready(S:Nat→Prop)(w:World)(m n f:Int)(kv:Value)(L:List (Pc × Value))(h:Kp 162 S w kv L)(hl:L.length≤64) :
  Calls Tryz.prog 145 #[agR m n kv f] w fun e w'=>e = .returned (.int .i64 (readyV n (L.map (·.1))))∧Fr [] w w':=by
 obtain⟨KA,KC,rfl,hKn,hKc⟩:=h.form
 have K:=hI h
 have hrd:readyV n (L.map (·.1))=bestV (early n) ahead (L.map (·.1)) L.length:=by unfold readyV;rw [List.length_map]
 rw [hrd]
 clear h hrd
 go_enter Tryz.func145,Tryz.ntmps145
 go_wp2
 go_loopw [3,4] (fun s3 s4 wr=>RReadyRel w m n f (.slice KA L.length KC) (L.map (·.1)) s3 s4 wr) (fun _ s4 _=>L.length - (intOf s4).toNat)
 case atStart=>exact⟨0,by omega,rfl,rfl,(Fr.refl _ _).alloc _,Blk.new _ _ _⟩
 case round=>
  obtain⟨k,hk,rfl,rfl,fk,bx⟩:=hrel
  rw [List.length_map] at hk
  have hbd:=best_bd (early n) ahead (L.map (·.1)) k
  have hsucc:=best_succ (early n) ahead (L.map (·.1)) k
  obtain⟨c0,c1,c2,c3⟩:=cells4 bx
  have Bx:=hI bx
  have Fk:=hI fk
  by_cases hlt:k<L.length
  ·obtain⟨b,_,x,hv,hx,d0,d1,hby⟩:=(K.out.fr fk (by simp) (by simp)).at_ hlt
   injection hv with hv _ hc
   subst hv hc
   rw [map_get L k x hx] at hsucc
   obtain⟨A,c,hxv,_,_⟩:=hby.form
   rw [hxv] at d1
   have x0:=Grew.cell c1
   have x1:=Grew.cell c2
   have x2:=Grew.cell d0
   have hei:early n x.1=decide (x.1.at_≤n):=rfl
   clear bx fk hx hxv hby
   generalize bestV (early n) ahead (L.map (·.1)) k=bb at *
   obtain⟨hb0,hb1⟩:=hbd
   by_cases hi:x.1.at_≤n
   ·have hi1:decide (x.1.at_≤n)=true:=by simpa using hi
    rw [hei,hi1] at hsucc
    clear hei
    by_cases hb2:bb<0
    ·have e2:decide (bb<0)=true:=by simpa using hb2
     rw [e2] at hsucc
     have HS:=hI hsucc
     clear hsucc
     go_upto_region 5 with fail
     refine wp_region_grew (by kernel_rfl) (by kernel_rfl) ?_
     repeat (go_big_quiet_step (fail))
     refine wpQuiet_nil ?_
     intro W1 f1
     go_wp2_with fail
     go_roundw
     case rel=>
      have e:=HS.out
      simp at e
      exact⟨k+1,by simp;omega,by go_num,by rw [e],Fk.out.trans f1 (by simp),Bx.out.fr f1 (by simp)⟩
     case measure=>simp [intOf];omega
    ·have e2:decide (bb<0)=false:=by simpa using hb2
     have hb3:0≤bb:=by omega
     have hb4:bb.toNat<L.length:=by omega
     have hb5:bb<(L.length:Int):=by omega
     obtain⟨_,_,y,hv,hy,d2,d3,hby⟩:=(K.out.fr Fk.out (by simp) (by simp)).at_ hb4
     injection hv with hv _ hc
     injection hv with hv
     injection hv with hv _ _
     subst hv hc
     rw [e2,map_get L _ y hy] at hsucc
     have x3:=Grew.cell d2
     have hah:ahead x.1 y.1=decide (x.1.at_<y.1.at_):=rfl
     clear hy hby
     by_cases hj:x.1.at_<y.1.at_
     ·have hj1:decide (x.1.at_<y.1.at_)=true:=by simpa using hj
      rw [hah,hj1] at hsucc
      have HS:=hI hsucc
      clear hsucc hah
      go_upto_region 5 with fail
      refine wp_region_grew (by kernel_rfl) (by kernel_rfl) ?_
      repeat (go_big_quiet_step (fail))
      refine wpQuiet_nil ?_
      intro W1 f1
      go_wp2_with fail
      go_roundw
      case rel=>
       have e:=HS.out
       simp at e
       exact⟨k+1,by simp;omega,by go_num,by rw [e],Fk.out.trans f1 (by simp),Bx.out.fr f1 (by simp)⟩
      case measure=>simp [intOf];omega
     ·have hj1:decide (x.1.at_<y.1.at_)=false:=by simpa using hj
      rw [hah,hj1] at hsucc
      have HS:=hI hsucc
      clear hsucc hah
      go_upto_region 5 with fail
      refine wp_region_grew (by kernel_rfl) (by kernel_rfl) ?_
      repeat (go_big_quiet_step (fail))
      refine wpQuiet_nil ?_
      intro W1 f1
      go_wp2_with fail
      go_roundw
      case rel=>
       have e:=HS.out
       simp at e
       exact⟨k+1,by simp;omega,by go_num,by rw [e],Fk.out.trans f1 (by simp),Bx.out.fr f1 (by simp)⟩
      case measure=>simp [intOf];omega
   ·have hi1:decide (x.1.at_≤n)=false:=by simpa using hi
    rw [hei,hi1] at hsucc
    have HS:=hI hsucc
    clear hsucc hei
    go_upto_region 5 with fail
    refine wp_region_grew (by kernel_rfl) (by kernel_rfl) ?_
    repeat (go_big_quiet_step (fail))
    refine wpQuiet_nil ?_
    intro W1 f1
    go_wp2_with fail
    go_roundw
    case rel=>
     have e:=HS.out
     simp at e
     exact⟨k+1,by simp;omega,by go_num,by rw [e],Fk.out.trans f1 (by simp),Bx.out.fr f1 (by simp)⟩
    case measure=>simp [intOf];omega
  ·obtain rfl:L.length=k:=by omega
   clear hsucc bx fk
   go_wp2
   go_ret
   exact⟨rfl,Fk.out⟩
def RHeldRel(w:World)(ar:Array Value)(l:List Pc)(s3 s4:Value)(wr:World):Prop:=
 ∃ k:Nat,k≤l.length∧s4 = .int .i64 k∧s3 = .int .i64 (sumV (l.take k))∧Fr [] w wr∧Blk wr w.heap.size 39 ar
theorem rheld(S:Nat→Prop)(w:World)(m n f:Int)(kv:Value)(L:List (Pc × Value))(h:Kp 162 S w kv L)(hl:L.length≤64)(hpc:∀ x∈L,x.1.d.length≤64) :
  Calls Tryz.prog 102 #[agR m n kv f] w fun e w'=>e = .returned (.int .i64 (sumV (L.map (·.1))))∧Fr [] w w':=by
 obtain⟨KA,KC,rfl,hKn,hKc⟩:=h.form
 have K:=hI h
 have hb:∀ k,0≤sumV ((L.map (·.1)).take k)∧sumV ((L.map (·.1)).take k)≤4096:=fun k=>by
  have h1:=sum_bd ((L.map (·.1)).take k) (fun p hp=>by obtain⟨x,hx,rfl⟩:=List.mem_map.1 (List.mem_of_mem_take hp);exact hpc x hx)
  have h2:((L.map (·.1)).take k).length≤64:=by simp;omega
  omega
 have HB:=hI hb
 have HPC:=hI hpc
 clear h hb hpc
 go_enter Tryz.func102,Tryz.ntmps102
 go_wp2
 go_loopw [3,4] (fun s3 s4 wr=>RHeldRel w (arR m n (.slice KA L.length KC) f) (L.map (·.1)) s3 s4 wr) (fun _ s4 _=>L.length - (intOf s4).toNat)
 case atStart=>exact⟨0,by omega,rfl,rfl,(Fr.refl _ _).alloc _,Blk.new _ _ _⟩
 case round=>
  obtain⟨k,hk,rfl,rfl,fk,bx⟩:=hrel
  rw [List.length_map] at hk
  obtain⟨hb0,hb1⟩:=HB.out k
  obtain⟨c0,c1,c2,c3⟩:=cells4 bx
  by_cases hlt:k<L.length
  ·obtain⟨b,_,x,hv,hx,d0,d1,hby⟩:=(K.out.fr fk (by simp) (by simp)).at_ hlt
   injection hv with hv _ hc
   subst hv hc
   obtain⟨A,c,hxv,_,_⟩:=hby.form
   rw [hxv] at d1
   have hx64:=HPC.out x (List.mem_of_getElem? hx)
   have hs:sumV ((L.map (·.1)).take (k+1))=sumV ((L.map (·.1)).take k)+x.1.d.length:=by
    rw [List.take_add_one]
    have:(L.map (·.1))[k]?=some x.1:=by simp [hx]
    rw [this]
    exact sum_snoc _ _
   have HS:=hI hs
   have Fk:=hI fk
   have Bx:=hI bx
   clear hs hx hxv hby fk bx
   generalize sumV ((L.map (·.1)).take k)=sm at *
   go_wp2
   go_roundw
   case rel=>exact⟨k+1,by simp;omega,by go_num,by rw [HS.out],Fk.out,Bx.out⟩
   case measure=>simp [intOf];omega
  ·obtain rfl:L.length=k:=by omega
   have Fk:=hI fk
   clear fk bx
   go_wp2
   go_ret
   exact⟨ret1_eq (by rw [List.take_of_length_le (by simp)]),Fk.out⟩
end Go.Proofs.YtmgdbbbdhkfdmaaGreat
namespace Go.Proofs.YtmgdbbbdhkfdmaaGreat.Win
set_option maxRecDepth 100000
open Go.RowKit
theorem rroom(x:Wn)(w:World)(B:Int)(hB:B≤1000000000)(hi:Inv B x):Calls Tryz.prog 109 #[agW x] w fun e w'=>e = .returned (.int .i64 (roomV x))∧Fr [] w w':=by
 obtain⟨i0,i1,i2,i3,i4⟩:=hi
 unfold roomV
 go_enter Tryz.func109,Tryz.ntmps109
 go_wp2
 all_goals go_ret
 all_goals exact⟨ret1_eq (by omega),by repeat (first|exact Fr.refl _ _|apply Fr.drew|apply Fr.alloc|refine Fr.setCell ?_ (Or.inr (by simp)) _)⟩
theorem rzero(x:Wn)(w:World):Calls Tryz.prog 104 #[agW x] w fun e w'=>e = .returned (.bool (zeroV x))∧Fr [] w w':=by
 unfold zeroV
 by_cases h1:x.a=x.m
 ·have e:(x.a == x.m)=true:=by simp [h1]
  have e2:(x.l == x.a && x.m == x.a)=(x.a == x.l):=by rw [h1,Bool.eq_iff_iff];simp;omega
  rw [e2]
  clear h1 e2
  go_enter Tryz.func104,Tryz.ntmps104
  go_wp2
  go_ret
  exact⟨rfl,by repeat (first|exact Fr.refl _ _|apply Fr.drew|apply Fr.alloc|refine Fr.setCell ?_ (Or.inr (by simp)) _)⟩
 ·have e:(x.a == x.m)=false:=by simp [h1]
  have e2:(x.l == x.a && x.m == x.a)=false:=by simp;omega
  rw [e2]
  clear h1 e2
  go_enter Tryz.func104,Tryz.ntmps104
  go_wp2
  go_ret
  exact⟨rfl,by repeat (first|exact Fr.refl _ _|apply Fr.drew|apply Fr.alloc|refine Fr.setCell ?_ (Or.inr (by simp)) _)⟩
theorem rtake(x:Wn)(n:Int)(w:World)(B:Int)(hB:B≤1000000000)(hi:Inv B x):Calls Tryz.prog 110 #[agW x, .int .i64 n] w fun e w'=>e = .returned (.tuple #[agW (takeV x n).1, .int .i64 (takeV x n).2.1, .int .i64 (takeV x n).2.2])∧Fr [] w w':=by
 obtain⟨i0,i1,i2,i3,i4⟩:=hi
 unfold takeV
 by_cases h1:n<0
 ·rw [if_pos h1]
  go_enter Tryz.func110,Tryz.ntmps110
  go_wp2
  go_returns
  exact⟨rfl,by repeat (first|exact Fr.refl _ _|apply Fr.drew|apply Fr.alloc|refine Fr.setCell ?_ (Or.inr (by simp)) _)⟩
 ·rw [if_neg h1]
  by_cases h3:x.s<x.l
  ·have hroom:roomV x=x.l - x.s:=by unfold roomV;omega
   rw [hroom]
   clear hroom
   by_cases h2:x.l - x.s<n
   ·rw [if_pos h2]
    go_enter Tryz.func110,Tryz.ntmps110
    go_wp2
    go_returns
    exact⟨rfl,by repeat (first|exact Fr.refl _ _|apply Fr.drew|apply Fr.alloc|refine Fr.setCell ?_ (Or.inr (by simp)) _)⟩
   ·rw [if_neg h2]
    by_cases h4:x.m<x.s+n
    ·rw [show max x.m (x.s+n)=x.s+n from by omega]
     go_enter Tryz.func110,Tryz.ntmps110
     go_wp2
     go_returns
     exact⟨rfl,by repeat (first|exact Fr.refl _ _|apply Fr.drew|apply Fr.alloc|refine Fr.setCell ?_ (Or.inr (by simp)) _)⟩
    ·rw [show max x.m (x.s+n)=x.m from by omega]
     go_enter Tryz.func110,Tryz.ntmps110
     go_wp2
     go_returns
     exact⟨rfl,by repeat (first|exact Fr.refl _ _|apply Fr.drew|apply Fr.alloc|refine Fr.setCell ?_ (Or.inr (by simp)) _)⟩
  ·have hroom:roomV x=0:=by unfold roomV;omega
   rw [hroom]
   clear hroom
   by_cases h2:0<n
   ·rw [if_pos h2]
    go_enter Tryz.func110,Tryz.ntmps110
    go_wp2
    go_returns
    exact⟨rfl,by repeat (first|exact Fr.refl _ _|apply Fr.drew|apply Fr.alloc|refine Fr.setCell ?_ (Or.inr (by simp)) _)⟩
   ·rw [if_neg h2]
    obtain rfl:n=0:=by omega
    rw [show max x.m (x.s+0)=x.m from by omega,show x.s+0=x.s from by omega]
    go_enter Tryz.func110,Tryz.ntmps110
    go_wp2
    go_returns
    exact⟨rfl,by repeat (first|exact Fr.refl _ _|apply Fr.drew|apply Fr.alloc|refine Fr.setCell ?_ (Or.inr (by simp)) _)⟩
set_option maxHeartbeats 2000000 in
theorem rack(x:Wn)(u r:Int)(w:World)(B:Int)(hB:B≤1000000000)(hi:Inv B x):Calls Tryz.prog 121 #[agW x, .int .i64 u, .int .i64 r] w fun e w'=>e = .returned (.tuple #[agW (ackV x u r).1, .int .i64 (ackV x u r).2.1, .int .i64 (ackV x u r).2.2])∧Fr [] w w':=by
 obtain⟨i0,i1,i2,i3,i4⟩:=hi
 unfold ackV
 by_cases h1:u<0∨r<0∨65535<r
 ·rw [if_pos h1]
  by_cases a:u<0
  ·go_enter Tryz.func121,Tryz.ntmps121
   go_wp2
   go_returns
   exact⟨rfl,by repeat (first|exact Fr.refl _ _|apply Fr.drew|apply Fr.alloc|refine Fr.setCell ?_ (Or.inr (by simp)) _)⟩
  by_cases b:r<0
  ·go_enter Tryz.func121,Tryz.ntmps121
   go_wp2
   go_returns
   exact⟨rfl,by repeat (first|exact Fr.refl _ _|apply Fr.drew|apply Fr.alloc|refine Fr.setCell ?_ (Or.inr (by simp)) _)⟩
  have c:65535<r:=by omega
  clear h1
  go_enter Tryz.func121,Tryz.ntmps121
  go_wp2
  go_returns
  exact⟨rfl,by repeat (first|exact Fr.refl _ _|apply Fr.drew|apply Fr.alloc|refine Fr.setCell ?_ (Or.inr (by simp)) _)⟩
 ·rw [if_neg h1]
  have j1:0≤u:=by omega
  have j2:0≤r:=by omega
  have j3:r≤65535:=by omega
  clear h1
  by_cases h2:x.m<u
  ·rw [if_pos h2]
   go_enter Tryz.func121,Tryz.ntmps121
   go_wp2
   go_returns
   exact⟨rfl,by repeat (first|exact Fr.refl _ _|apply Fr.drew|apply Fr.alloc|refine Fr.setCell ?_ (Or.inr (by simp)) _)⟩
  ·rw [if_neg h2]
   by_cases h3:u<x.a
   ·rw [if_pos h3]
    go_enter Tryz.func121,Tryz.ntmps121
    go_wp2
    go_returns
    exact⟨rfl,by repeat (first|exact Fr.refl _ _|apply Fr.drew|apply Fr.alloc|refine Fr.setCell ?_ (Or.inr (by simp)) _)⟩
   ·rw [if_neg h3]
    rw [show max x.a u=u from by omega]
    by_cases h4:x.s<u
    ·rw [show max x.s u=u from by omega]
     by_cases h5:x.l<u+r
     ·rw [show max x.l (u+r)=u+r from by omega]
      go_enter Tryz.func121,Tryz.ntmps121
      go_wp2
      go_returns
      exact⟨rfl,by repeat (first|exact Fr.refl _ _|apply Fr.drew|apply Fr.alloc|refine Fr.setCell ?_ (Or.inr (by simp)) _)⟩
     ·rw [show max x.l (u+r)=x.l from by omega]
      go_enter Tryz.func121,Tryz.ntmps121
      go_wp2
      go_returns
      exact⟨rfl,by repeat (first|exact Fr.refl _ _|apply Fr.drew|apply Fr.alloc|refine Fr.setCell ?_ (Or.inr (by simp)) _)⟩
    ·rw [show max x.s u=x.s from by omega]
     by_cases h5:x.l<u+r
     ·rw [show max x.l (u+r)=u+r from by omega]
      go_enter Tryz.func121,Tryz.ntmps121
      go_wp2
      go_returns
      exact⟨rfl,by repeat (first|exact Fr.refl _ _|apply Fr.drew|apply Fr.alloc|refine Fr.setCell ?_ (Or.inr (by simp)) _)⟩
     ·rw [show max x.l (u+r)=x.l from by omega]
      go_enter Tryz.func121,Tryz.ntmps121
      go_wp2
      go_returns
      exact⟨rfl,by repeat (first|exact Fr.refl _ _|apply Fr.drew|apply Fr.alloc|refine Fr.setCell ?_ (Or.inr (by simp)) _)⟩
theorem rprobe(x:Wn)(w:World)(B:Int)(hB:B≤1000000000)(hi:Inv B x):Calls Tryz.prog 112 #[agW x] w fun e w'=>e = .returned (.tuple #[agW (probeV x).1, .int .i64 (probeV x).2.1, .int .i64 (probeV x).2.2])∧Fr [] w w':=by
 obtain⟨i0,i1,i2,i3,i4⟩:=hi
 unfold probeV
 by_cases h1:x.a=x.m
 ·have e:(x.a == x.m)=true:=by simp [h1]
  by_cases h2:x.a=x.l
  ·have e2:(x.a == x.l)=true:=by simp [h2]
   have e3:(x.m == x.l)=true:=by simp;omega
   have ez:zeroV x=true:=by unfold zeroV;simp;omega
   rw [if_pos ez,show max x.m (x.a+1)=x.a+1 from by omega]
   clear h1 h2 ez
   go_enter Tryz.func112,Tryz.ntmps112
   go_wp2
   go_region
   all_goals go_wp2
   all_goals go_returns
   all_goals exact⟨rfl,by repeat (first|exact Fr.refl _ _|apply Fr.drew|apply Fr.alloc|refine Fr.setCell ?_ (Or.inr (by simp)) _)⟩
  ·have e2:(x.a == x.l)=false:=by simp;omega
   have e3:(x.m == x.l)=false:=by simp;omega
   have ez:¬ zeroV x=true:=by unfold zeroV;simp;omega
   rw [if_neg ez]
   clear h1 h2 ez
   go_enter Tryz.func112,Tryz.ntmps112
   go_wp2
   go_returns
   exact⟨rfl,by repeat (first|exact Fr.refl _ _|apply Fr.drew|apply Fr.alloc|refine Fr.setCell ?_ (Or.inr (by simp)) _)⟩
 ·have e:(x.a == x.m)=false:=by simp;omega
  have ez:¬ zeroV x=true:=by unfold zeroV;simp;omega
  rw [if_neg ez]
  clear h1 ez
  go_enter Tryz.func112,Tryz.ntmps112
  go_wp2
  go_returns
  exact⟨rfl,by repeat (first|exact Fr.refl _ _|apply Fr.drew|apply Fr.alloc|refine Fr.setCell ?_ (Or.inr (by simp)) _)⟩
theorem roffer_any(most held:Int)(w:World):Calls Tryz.prog 101 #[.int .i64 most, .int .i64 held] w fun e w'=>e = .returned (.tuple #[.int .i64 (offerV most held).1, .int .i64 (offerV most held).2])∧w=w':=by
 unfold offerV
 by_cases h1:most<0
 ·rw [if_pos (by omega)]
  go_enter Tryz.func101,Tryz.ntmps101
  go_wp2
  go_ret2
  exact⟨rfl,rfl⟩
 by_cases h4:65535<most
 ·rw [if_pos (by omega)]
  go_enter Tryz.func101,Tryz.ntmps101
  go_wp2
  go_ret2
  exact⟨rfl,rfl⟩
 by_cases h2:held<0
 ·rw [if_pos (by omega)]
  go_enter Tryz.func101,Tryz.ntmps101
  go_wp2
  go_ret2
  exact⟨rfl,rfl⟩
 by_cases h3:most<held
 ·rw [if_pos (by omega)]
  go_enter Tryz.func101,Tryz.ntmps101
  go_wp2
  go_ret2
  exact⟨rfl,rfl⟩
 rw [if_neg (by omega)]
 by_cases h5:most - held<64
 ·by_cases h6:most - held+(most - held)<most
  ·rw [if_pos (by omega)]
   go_enter Tryz.func101,Tryz.ntmps101
   go_wp2
   go_ret2
   exact⟨rfl,rfl⟩
  ·rw [if_neg (by omega)]
   go_enter Tryz.func101,Tryz.ntmps101
   go_wp2
   go_ret2
   exact⟨rfl,rfl⟩
 ·rw [if_neg (by omega)]
  go_enter Tryz.func101,Tryz.ntmps101
  go_wp2
  go_ret2
  exact⟨rfl,rfl⟩
end Go.Proofs.YtmgdbbbdhkfdmaaGreat.Win
namespace Go.Proofs.YtmgdbbbdhkfdmaaGreat.Rto
set_option maxRecDepth 100000
open Go.RowKit
abbrev bx(c:Ck):Obj := .cells c.arr 36
theorem rknows(c:Ck)(w:World)(hi:Inv c):Calls Tryz.prog 106 #[agC c] w fun e w'=>e = .returned (.int .i64 (knowsV c))∧w.alloc (bx c)=w':=by
 obtain⟨l1,lf,fm,m1,t1,t2,tm0,tm1,sp0,sp1,w1,w2,s0,s1,r0,r1⟩:=hi
 obtain⟨f,l,m,t,is,tm,sp,wt,si,tr,rn⟩:=c
 unfold knowsV
 dsimp only at *
 cases is
 ·go_enter Tryz.func106,Tryz.ntmps106
  go_wp2
  go_ret
  exact⟨rfl,rfl⟩
 ·rw [if_pos rfl]
  by_cases h1:sp<1
  ·by_cases h2:tm / 8+1<l
   ·rw [show max l (min m (tm / 8+max 1 sp))=l from by omega]
    go_enter Tryz.func106,Tryz.ntmps106
    go_wp2
    go_ret
    exact⟨rfl,rfl⟩
   by_cases h3:m<tm / 8+1
   ·rw [show max l (min m (tm / 8+max 1 sp))=m from by omega]
    go_enter Tryz.func106,Tryz.ntmps106
    go_wp2
    go_ret
    exact⟨rfl,rfl⟩
   rw [show max l (min m (tm / 8+max 1 sp))=tm / 8+1 from by omega]
   go_enter Tryz.func106,Tryz.ntmps106
   go_wp2
   go_ret
   exact⟨rfl,rfl⟩
  ·by_cases h2:tm / 8+sp<l
   ·rw [show max l (min m (tm / 8+max 1 sp))=l from by omega]
    go_enter Tryz.func106,Tryz.ntmps106
    go_wp2
    go_ret
    exact⟨rfl,rfl⟩
   by_cases h3:m<tm / 8+sp
   ·rw [show max l (min m (tm / 8+max 1 sp))=m from by omega]
    go_enter Tryz.func106,Tryz.ntmps106
    go_wp2
    go_ret
    exact⟨rfl,rfl⟩
   rw [show max l (min m (tm / 8+max 1 sp))=tm / 8+sp from by omega]
   go_enter Tryz.func106,Tryz.ntmps106
   go_wp2
   go_ret
   exact⟨rfl,rfl⟩
theorem rmay(c:Ck)(n:Int)(w:World):Calls Tryz.prog 105 #[agC c, .int .i64 n] w fun e w'=>e = .returned (.bool (mayV c n))∧w.alloc (bx c)=w':=by
 obtain⟨f,l,m,t,is,tm,sp,wt,si,tr,rn⟩:=c
 by_cases h1:n<0
 ·rw [show mayV ⟨f,l,m,t,is,tm,sp,wt,si,tr,rn⟩ n=false from by unfold mayV;simp;omega]
  go_enter Tryz.func105,Tryz.ntmps105
  go_wp2
  go_ret
  exact⟨rfl,rfl⟩
 by_cases h2:2147483647<n
 ·rw [show mayV ⟨f,l,m,t,is,tm,sp,wt,si,tr,rn⟩ n=false from by unfold mayV;simp;omega]
  go_enter Tryz.func105,Tryz.ntmps105
  go_wp2
  go_ret
  exact⟨rfl,rfl⟩
 cases rn
 ·rw [show mayV ⟨f,l,m,t,is,tm,sp,wt,si,tr,false⟩ n=true from by unfold mayV;simp;omega]
  go_enter Tryz.func105,Tryz.ntmps105
  go_wp2
  go_ret
  exact⟨rfl,rfl⟩
 ·by_cases h4:n<si
  ·rw [show mayV ⟨f,l,m,t,is,tm,sp,wt,si,tr,true⟩ n=false from by unfold mayV;simp;omega]
   go_enter Tryz.func105,Tryz.ntmps105
   go_wp2
   go_ret
   exact⟨retb_eq (by simp;omega),rfl⟩
  ·rw [show mayV ⟨f,l,m,t,is,tm,sp,wt,si,tr,true⟩ n=true from by unfold mayV;simp;omega]
   go_enter Tryz.func105,Tryz.ntmps105
   go_wp2
   go_ret
   exact⟨rfl,rfl⟩
def dueW(c:Ck)(w:World):World:=if c.rn then (w.alloc (bx c)).alloc (bx c) else w.alloc (bx c)
theorem rdue(c:Ck)(n:Int)(w:World)(hi:Inv c):Calls Tryz.prog 76 #[agC c, .int .i64 n] w fun e w'=>e = .returned (.bool (dueV c n))∧dueW c w=w':=by
 obtain⟨l1,lf,fm,m1,t1,t2,tm0,tm1,sp0,sp1,w1,w2,s0,s1,r0,r1⟩:=hi
 have hm:=fun W=>rmay c n W
 have hb:=fun h=>may_bd (c:=c) (n:=n) h
 unfold dueV dueW
 revert hm hb
 generalize mayV c n=B
 intro hm hb
 obtain⟨f,l,m,t,is,tm,sp,wt,si,tr,rn⟩:=c
 dsimp only at *
 have Hm:Hid _:=hm
 clear hm
 cases rn
 ·rw [show (B && (false && decide (wt≤n - si)))=false from by simp,if_neg (by simp)]
  clear hb
  go_enter Tryz.func76,Tryz.ntmps76
  go_wp2
  go_ret
  exact⟨rfl,rfl⟩
 ·rw [if_pos rfl]
  cases B
  ·rw [show (false && (true && decide (wt≤n - si)))=false from by simp]
   clear hb
   go_enter Tryz.func76,Tryz.ntmps76
   go_wp2_with (first|(go_at_call 105;refine (Hm.out _).mono ?_;rintro e w' ⟨rfl,rfl⟩))
   go_ret
   exact⟨rfl,rfl⟩
  ·rw [show (true && (true && decide (wt≤n - si)))=decide (wt≤n - si) from by simp]
   obtain⟨b0,b1⟩:=hb rfl
   clear hb
   go_enter Tryz.func76,Tryz.ntmps76
   go_wp2_with (first|(go_at_call 105;refine (Hm.out _).mono ?_;rintro e w' ⟨rfl,rfl⟩))
   go_ret
   exact⟨rfl,rfl⟩
theorem rstop(c:Ck)(w:World)(hi:Inv c):Calls Tryz.prog 69 #[agC c] w fun e w'=>e = .returned (agC (stopV c))∧Fr [] w w':=by
 have hk:=fun W=>rknows c W hi
 unfold stopV
 revert hk
 generalize knowsV c=K
 intro hk
 obtain⟨f,l,m,t,is,tm,sp,wt,si,tr,rn⟩:=c
 dsimp only at *
 have Hk:Hid _:=hk
 clear hk
 go_enter Tryz.func69,Tryz.ntmps69
 go_wp2_with (first|(go_at_call 106;refine (Hk.out _).mono ?_;rintro e w' ⟨rfl,rfl⟩))
 go_returns
 exact⟨rfl,by repeat (first|(with_reducible exact Fr.refl _ _)|(with_reducible refine Fr.drew ?_)|(with_reducible refine Fr.alloc ?_ _)|(with_reducible refine Fr.setCell ?_ (Or.inr (by simp)) _))⟩
theorem rstart(c:Ck)(n:Int)(w:World):Calls Tryz.prog 68 #[agC c, .int .i64 n] w fun e w'=>e = .returned (.tuple #[agC (startV c n).1, .int .i64 (startV c n).2])∧Fr [] w w':=by
 have hm:=fun W=>rmay c n W
 unfold startV
 revert hm
 generalize mayV c n=B
 intro hm
 obtain⟨f,l,m,t,is,tm,sp,wt,si,tr,rn⟩:=c
 dsimp only at *
 have Hm:Hid _:=hm
 clear hm
 cases B
 ·rw [if_neg (by simp)]
  go_enter Tryz.func68,Tryz.ntmps68
  go_wp2_with (first|(go_at_call 105;refine (Hm.out _).mono ?_;rintro e w' ⟨rfl,rfl⟩))
  go_returns
  exact⟨rfl,by repeat (first|(with_reducible exact Fr.refl _ _)|(with_reducible refine Fr.drew ?_)|(with_reducible refine Fr.alloc ?_ _)|(with_reducible refine Fr.setCell ?_ (Or.inr (by simp)) _))⟩
 ·rw [if_pos rfl]
  go_enter Tryz.func68,Tryz.ntmps68
  go_wp2_with (first|(go_at_call 105;refine (Hm.out _).mono ?_;rintro e w' ⟨rfl,rfl⟩))
  go_returns
  exact⟨rfl,by repeat (first|(with_reducible exact Fr.refl _ _)|(with_reducible refine Fr.drew ?_)|(with_reducible refine Fr.alloc ?_ _)|(with_reducible refine Fr.setCell ?_ (Or.inr (by simp)) _))⟩
theorem rsample_no(c:Ck)(n:Int)(w:World)(h:n<0∨65536<n):Calls Tryz.prog 135 #[agC c, .int .i64 n] w fun e w'=>e = .returned (.tuple #[agC c, .int .i64 2])∧Fr [] w w':=by
 obtain⟨f,l,m,t,is,tm,sp,wt,si,tr,rn⟩:=c
 by_cases h1:n<0
 ·go_enter Tryz.func135,Tryz.ntmps135
  go_wp2
  go_returns
  exact⟨rfl,by repeat (first|(with_reducible exact Fr.refl _ _)|(with_reducible refine Fr.drew ?_)|(with_reducible refine Fr.alloc ?_ _)|(with_reducible refine Fr.setCell ?_ (Or.inr (by simp)) _))⟩
 ·have h2:65536<n:=by omega
  clear h
  go_enter Tryz.func135,Tryz.ntmps135
  go_wp2
  go_returns
  exact⟨rfl,by repeat (first|(with_reducible exact Fr.refl _ _)|(with_reducible refine Fr.drew ?_)|(with_reducible refine Fr.alloc ?_ _)|(with_reducible refine Fr.setCell ?_ (Or.inr (by simp)) _))⟩
set_option maxHeartbeats 1000000 in
theorem rsample_yes(c:Ck)(n:Int)(w:World)(hi:Inv c)(h0:0≤n)(h1:n≤65536):Calls Tryz.prog 135 #[agC c, .int .i64 n] w fun e w'=>e = .returned (.tuple #[agC { learnV c n with wt:=knowsV (learnV c n) }, .int .i64 0])∧Fr [] w w':=by
 have hk:=fun W=>rknows (learnV c n) W (learn_inv hi h0 h1)
 obtain⟨l1,lf,fm,m1,t1,t2,tm0,tm1,sp0,sp1,w1,w2,s0,s1,r0,r1⟩:=hi
 revert hk
 generalize knowsV (learnV c n)=K
 intro hk
 obtain⟨f,l,m,t,is,tm,sp,wt,si,tr,rn⟩:=c
 unfold learnV at *
 dsimp only at *
 cases is
 ·rw [if_neg (by simp)] at *
  dsimp only at *
  have Hk:Hid _:=hk
  clear hk
  go_enter Tryz.func135,Tryz.ntmps135
  go_wp2_with (first|(go_at_call 106;refine (Hk.out _).mono ?_;rintro e w' ⟨rfl,rfl⟩))
  go_returns
  exact⟨rfl,by repeat (first|(with_reducible exact Fr.refl _ _)|(with_reducible refine Fr.drew ?_)|(with_reducible refine Fr.alloc ?_ _)|(with_reducible refine Fr.setCell ?_ (Or.inr (by simp)) _))⟩
 ·rw [if_pos rfl] at *
  dsimp only at *
  by_cases h2:n - tm / 8<0
  ·rw [show sp+(max (n - tm / 8) (-(n - tm / 8)) - sp / 4)=sp+-(n - tm / 8) - sp / 4 from by omega] at *
   have Hk:Hid _:=hk
   clear hk
   go_enter Tryz.func135,Tryz.ntmps135
   go_wp2_with (first|(go_at_call 106;refine (Hk.out _).mono ?_;rintro e w' ⟨rfl,rfl⟩))
   go_returns
   exact⟨rfl,by repeat (first|(with_reducible exact Fr.refl _ _)|(with_reducible refine Fr.drew ?_)|(with_reducible refine Fr.alloc ?_ _)|(with_reducible refine Fr.setCell ?_ (Or.inr (by simp)) _))⟩
  ·rw [show sp+(max (n - tm / 8) (-(n - tm / 8)) - sp / 4)=sp+(n - tm / 8) - sp / 4 from by omega] at *
   have Hk:Hid _:=hk
   clear hk
   go_enter Tryz.func135,Tryz.ntmps135
   go_wp2_with (first|(go_at_call 106;refine (Hk.out _).mono ?_;rintro e w' ⟨rfl,rfl⟩))
   go_returns
   exact⟨rfl,by repeat (first|(with_reducible exact Fr.refl _ _)|(with_reducible refine Fr.drew ?_)|(with_reducible refine Fr.alloc ?_ _)|(with_reducible refine Fr.setCell ?_ (Or.inr (by simp)) _))⟩
set_option maxHeartbeats 1000000 in
theorem rlate(c:Ck)(n:Int)(w:World)(hi:Inv c):Calls Tryz.prog 77 #[agC c, .int .i64 n] w fun e w'=>e = .returned (.tuple #[agC (lateV c n).1, .bool (lateV c n).2.1, .int .i64 (lateV c n).2.2])∧Fr [] w w':=by
 have hm:=fun W=>rmay c n W
 have hd:=fun W=>rdue c n W hi
 have hb:=fun h=>may_bd (c:=c) (n:=n) h
 have hrn:dueV c n=true→c.rn=true:=fun h=>by unfold dueV at h;simp at h;exact h.2.1
 obtain⟨l1,lf,fm,m1,t1,t2,tm0,tm1,sp0,sp1,w1,w2,s0,s1,r0,r1⟩:=hi
 unfold lateV
 revert hm hb hd hrn
 generalize mayV c n=B
 generalize dueV c n=D
 intro hm hd hb hrn
 obtain⟨f,l,m,t,is,tm,sp,wt,si,tr,rn⟩:=c
 unfold dueW at hd
 dsimp only at *
 have Hm:Hid _:=hm
 clear hm
 cases B
 ·rw [if_neg (by simp)]
  clear hb hrn hd
  go_enter Tryz.func77,Tryz.ntmps77
  go_wp2_with (first|(go_at_call 105;refine (Hm.out _).mono ?_;rintro e w' ⟨rfl,rfl⟩))
  go_returns
  exact⟨rfl,by repeat (first|(with_reducible exact Fr.refl _ _)|(with_reducible refine Fr.drew ?_)|(with_reducible refine Fr.alloc ?_ _)|(with_reducible refine Fr.setCell ?_ (Or.inr (by simp)) _))⟩
 ·rw [if_pos rfl]
  obtain⟨b0,b1⟩:=hb rfl
  clear hb
  cases D
  ·rw [if_neg (by simp)]
   clear hrn
   cases rn
   ·simp only [Bool.false_eq_true,if_false] at hd
    have Hd:Hid _:=hd
    clear hd
    go_enter Tryz.func77,Tryz.ntmps77
    go_wp2_with (first|(go_at_call 105;refine (Hm.out _).mono ?_;rintro e w' ⟨rfl,rfl⟩)|(go_at_call 76;refine (Hd.out _).mono ?_;rintro e w' ⟨rfl,rfl⟩))
    go_returns
    exact⟨rfl,by repeat (first|(with_reducible exact Fr.refl _ _)|(with_reducible refine Fr.drew ?_)|(with_reducible refine Fr.alloc ?_ _)|(with_reducible refine Fr.setCell ?_ (Or.inr (by simp)) _))⟩
   ·simp only [if_true] at hd
    have Hd:Hid _:=hd
    clear hd
    go_enter Tryz.func77,Tryz.ntmps77
    go_wp2_with (first|(go_at_call 105;refine (Hm.out _).mono ?_;rintro e w' ⟨rfl,rfl⟩)|(go_at_call 76;refine (Hd.out _).mono ?_;rintro e w' ⟨rfl,rfl⟩))
    go_returns
    exact⟨rfl,by repeat (first|(with_reducible exact Fr.refl _ _)|(with_reducible refine Fr.drew ?_)|(with_reducible refine Fr.alloc ?_ _)|(with_reducible refine Fr.setCell ?_ (Or.inr (by simp)) _))⟩
  ·rw [if_pos rfl]
   obtain rfl:rn=true:=hrn rfl
   clear hrn
   simp only [if_true] at hd
   have Hd:Hid _:=hd
   clear hd
   by_cases h3:tr=t
   ·rw [if_pos h3]
    subst h3
    go_enter Tryz.func77,Tryz.ntmps77
    go_wp2_with (first|(go_at_call 105;refine (Hm.out _).mono ?_;rintro e w' ⟨rfl,rfl⟩)|(go_at_call 76;refine (Hd.out _).mono ?_;rintro e w' ⟨rfl,rfl⟩))
    go_returns
    exact⟨rfl,by repeat (first|(with_reducible exact Fr.refl _ _)|(with_reducible refine Fr.drew ?_)|(with_reducible refine Fr.alloc ?_ _)|(with_reducible refine Fr.setCell ?_ (Or.inr (by simp)) _))⟩
   ·rw [if_neg h3]
    have h4:tr<t:=by omega
    clear h3
    by_cases h5:m<2 * wt
    ·rw [show min (2 * wt) m=m from by omega]
     go_enter Tryz.func77,Tryz.ntmps77
     go_wp2_with (first|(go_at_call 105;refine (Hm.out _).mono ?_;rintro e w' ⟨rfl,rfl⟩)|(go_at_call 76;refine (Hd.out _).mono ?_;rintro e w' ⟨rfl,rfl⟩))
     go_returns
     exact⟨rfl,by repeat (first|(with_reducible exact Fr.refl _ _)|(with_reducible refine Fr.drew ?_)|(with_reducible refine Fr.alloc ?_ _)|(with_reducible refine Fr.setCell ?_ (Or.inr (by simp)) _))⟩
    ·rw [show min (2 * wt) m=2 * wt from by omega]
     go_enter Tryz.func77,Tryz.ntmps77
     go_wp2_with (first|(go_at_call 105;refine (Hm.out _).mono ?_;rintro e w' ⟨rfl,rfl⟩)|(go_at_call 76;refine (Hd.out _).mono ?_;rintro e w' ⟨rfl,rfl⟩))
     go_returns
     exact⟨rfl,by repeat (first|(with_reducible exact Fr.refl _ _)|(with_reducible refine Fr.drew ?_)|(with_reducible refine Fr.alloc ?_ _)|(with_reducible refine Fr.setCell ?_ (Or.inr (by simp)) _))⟩
theorem rsample(c:Ck)(n:Int)(w:World)(hi:Inv c):Calls Tryz.prog 135 #[agC c, .int .i64 n] w fun e w'=>e = .returned (.tuple #[agC (sampleV c n).1, .int .i64 (sampleV c n).2])∧Fr [] w w':=by
 unfold sampleV
 by_cases h:n<0∨65536<n
 ·rw [if_pos h]
  exact rsample_no c n w h
 ·rw [if_neg h]
  exact rsample_yes c n w hi (by omega) (by omega)
abbrev agR(f l m t:Int):Value := .agg #[.int .i64 f, .int .i64 l, .int .i64 m, .int .i64 t]
def rightV(f l m t:Int):Bool:=decide (1≤l∧l≤f∧f≤m∧m≤65536∧1≤t∧t≤100)
theorem rnew(f l m t:Int)(w:World):Calls Tryz.prog 24 #[agR f l m t] w fun e w'=>e = .returned (agC (newV f l m t))∧Fr [] w w':=by
 unfold newV
 go_enter Tryz.func24,Tryz.ntmps24
 go_wp2
 go_returns
 exact⟨rfl,by repeat (first|(with_reducible exact Fr.refl _ _)|(with_reducible refine Fr.drew ?_)|(with_reducible refine Fr.alloc ?_ _)|(with_reducible refine Fr.setCell ?_ (Or.inr (by simp)) _))⟩
end Go.Proofs.YtmgdbbbdhkfdmaaGreat.Rto
namespace Go.Proofs.YtmgdbbbdhkfdmaaGreat.Sne
set_option maxRecDepth 100000
open Go.RowKit
theorem ref_no(seq tu:Int)(w:World)(h:tu<0∨4611686018427387904<tu) :
  Calls Tryz.prog 134 #[.int .u32 seq, .int .i64 tu] w fun e w'=>e = .returned (.tuple #[.int .i64 (nearV seq tu).1, .int .i64 (nearV seq tu).2])∧w=w':=by
 have e:nearV seq tu=(0,2):=by unfold nearV;rw [if_pos h]
 rw [e]
 rcases h with h|h
 ·go_enter Tryz.func134,Tryz.ntmps134
  go_wp2
  go_ret2
  exact⟨rfl,rfl⟩
 ·have h':¬ tu<0:=by omega
  go_enter Tryz.func134,Tryz.ntmps134
  go_wp2
  go_ret2
  exact⟨rfl,rfl⟩
set_option maxHeartbeats 4000000 in
theorem ref_yes(seq tu:Int)(w:World)(h0:0≤seq)(h1:seq<4294967296)(h2:0≤tu)(h3:tu≤4611686018427387904) :
  Calls Tryz.prog 134 #[.int .u32 seq, .int .i64 tu] w fun e w'=>e = .returned (.tuple #[.int .i64 (nearV seq tu).1, .int .i64 (nearV seq tu).2])∧w=w':=by
 go_enter Tryz.func134,Tryz.ntmps134
 go_wp2
 go_rounds 4
 all_goals go_ret2
 all_goals refine⟨ret2_eq ?_ ?_,rfl⟩
 all_goals (unfold nearV;dsimp only;(repeat' split) <;> (try dsimp only) <;> omega)
end Go.Proofs.YtmgdbbbdhkfdmaaGreat.Sne
namespace Go.Proofs.YtmgdbbbdhkfdmaaGreat
set_option maxRecDepth 100000
open Go.RowKit Go.Deep
abbrev arE(x:St)(av uv kv:Value):Array Value:=#[.int .u32 x.isn, .int .u32 x.peer, .int .i64 x.at_, .bool x.broken,av,uv,
 .int .i64 x.win.a, .int .i64 x.win.s, .int .i64 x.win.m, .int .i64 x.win.l,
 .int .i64 x.clk.f, .int .i64 x.clk.l, .int .i64 x.clk.m, .int .i64 x.clk.t, .bool x.clk.is, .int .i64 x.clk.tm, .int .i64 x.clk.sp, .int .i64 x.clk.wt, .int .i64 x.clk.si, .int .i64 x.clk.tr, .bool x.clk.rn,
 .int .i64 x.heap.most, .int .i64 x.heap.next,kv, .int .i64 (finI x.heap.fin), .bool x.closing, .bool x.fin, .bool x.acked, .bool x.ended, .int .i64 x.now, .int .i64 x.since, .int .i64 x.timed, .int .i64 x.shown]
abbrev agE(x:St)(av uv kv:Value):Value := .agg (arE x av uv kv)
structure RE(S:Nat→Prop)(w:World)(x:St)(av uv kv:Value):Prop where
 ba:Byt S w av x.all
 bu:Byt S w uv x.unread
 hp:∃ L,RPx S w kv x.heap L
section
variable {S S':Nat→Prop} {w w':World} {x:St} {av uv kv:Value} {O:List Nat}
theorem RE.pub(m:RE S w x av uv kv):∀ b,S b→b<w.heap.size:=by obtain⟨L,h⟩:=m.hp;exact h.pub
theorem RE.ext(m:RE S w x av uv kv)(f:Fr O w w')(hO:∀ y∈O,¬ S y)(hS:∀ b,S b→S' b)(hp:∀ b,S' b→b<w'.heap.size):RE S' w' x av uv kv:=by
 obtain⟨L,h⟩:=m.hp
 exact⟨(m.ba.fr f hO).mono hS,(m.bu.fr f hO).mono hS,L,h.ext f hO hS hp⟩
theorem RE.fr(m:RE S w x av uv kv)(f:Fr [] w w'):RE S w' x av uv kv:=m.ext f (by simp) (fun _ h=>h) (fun b hb=>Nat.lt_of_lt_of_le (m.pub b hb) f.size)
theorem RE.to_{y:St}(m:RE S w x av uv kv)(h1:y.all=x.all)(h2:y.unread=x.unread)(h3:y.heap=x.heap):RE S w y av uv kv:=⟨h1▸m.ba,h2▸m.bu,h3▸m.hp⟩
end
theorem eone_any(b:Bool)(w:World):Calls Tryz.prog 82 #[.bool b] w fun e w'=>e = .returned (.int .i64 (one b))∧w=w':=by
 cases b
 all_goals
  go_enter Tryz.func82,Tryz.ntmps82
  go_wp2
  go_ret
  exact⟨rfl,rfl⟩
theorem eadd_any(n m:Int)(w:World)(h0:0≤n)(h1:n<4294967296)(h2:0≤m)(h3:m≤9000000000000000000):Calls Tryz.prog 103 #[.int .u32 n, .int .i64 m] w fun e w'=>e = .returned (.int .u32 (add32 n m))∧w=w':=by
 have q1:IntKind.i64.wrap n=n:=IntWalk.i64_in _ (by omega)
 have q2:IntKind.i64.wrap (n+m)=n+m:=IntWalk.i64_in _ (by omega)
 have q3:(n+m).tmod 4294967296=add32 n m:=by unfold add32;rw [Int.tmod_eq_emod_of_nonneg (by omega)]
 have q4:IntKind.u32.wrap (add32 n m)=add32 n m:=by rw [wrap32];unfold add32;omega
 have q5:add32 n m % 4294967296=add32 n m:=by unfold add32;omega
 have q6:IntKind.i64.wrap (add32 n m)=add32 n m:=IntWalk.i64_in _ (by unfold add32;omega)
 clear h0 h1 h2 h3
 generalize add32 n m=r at *
 go_enter Tryz.func103,Tryz.ntmps103
 go_wp2
 go_ret
 exact⟨rfl,rfl⟩
abbrev agP(p:Prt)(dv:Value):Value := .agg #[.int .i64 p.flags, .int .u32 p.seq, .int .u32 p.ack, .int .u16 p.win,dv]
def PartPost(S:Nat→Prop)(w:World)(H:Hd)(x':St)(p:Prt)(e:Ending)(w':World):Prop:=
 ∃ S' A c,e = .returned (agP p (.slice A p.d.length c))∧Ext w S S'∧Byt S' w' (.slice A p.d.length c) p.d∧SI S' w' H x'∧Fr [H.g] w w'
theorem room_bd(x:St):0≤roomV x∧roomV x≤1024:=by
 unfold roomV Win.offerV
 split
 ·simp
 ·split <;> simp <;> omega
theorem SI.shown{S:Nat→Prop}{w w':World}{H:Hd}{x:St}(m:SI S w H x):SI S (w.setCell ⟨H.g,24,none⟩ (.int .i64 (roomV x))) H (shows x):=
 m.set ((Fr.refl [H.g] w).setCell (p:=⟨H.g,24,none⟩) (.inl (by simp)) _) (by simpa [shows] using m.blk.set_ 24 (.int .i64 (roomV x))) rfl rfl rfl rfl rfl
theorem SI.pubd{S:Nat→Prop}{w w':World}{H:Hd}{x:St}{A:Option Addr}{c:Nat}{d:List Int}(m:SI S w H x)(f:Fr [] w w')(own:w'.ownsRow 0 5 1 (.slice A d.length c) d.length (byts d))(fb:∀ b,(Value.slice A d.length c).ownBlock=some b→w.heap.size≤b) :
  ∃ S',Ext w S S'∧Byt S' w' (.slice A d.length c) d∧SI S' w' H x:=by
 have e:Ext w S (fun b=>S b∨(Value.slice A d.length c).ownBlock=some b):=⟨fun b h => .inl h,fun b h=>h.imp id (fb b)⟩
 refine⟨_,e,Sl.of_own own (fun b h => .inr h),m.ext f e fun b hb=>?_⟩
 rcases hb with h|h
 ·exact Nat.lt_of_lt_of_le (HP.pub' m.hp b h) f.size
 ·exact own_lt own h
theorem set5{w:World}{b:Nat}{t:TypeId}{v0 v1 v2 v3 v4:Value}(B:Blk w b t #[v0,v1,v2,v3,v4])(u0 u1 u2 u3 u4:Value):Blk (((((w.setCell ⟨b,0,none⟩ u0).setCell ⟨b,1,none⟩ u1).setCell ⟨b,2,none⟩ u2).setCell ⟨b,3,none⟩ u3).setCell ⟨b,4,none⟩ u4) b t #[u0,u1,u2,u3,u4]:=by
 simpa using ((((B.set_ 0 u0).set_ 1 u1).set_ 2 u2).set_ 3 u3).set_ 4 u4
theorem fr5{O:List Nat}{a w:World}{b:Nat}(h:Fr O a w)(hp:b∈O∨a.heap.size≤b)(u0 u1 u2 u3 u4:Value):Fr O a (((((w.setCell ⟨b,0,none⟩ u0).setCell ⟨b,1,none⟩ u1).setCell ⟨b,2,none⟩ u2).setCell ⟨b,3,none⟩ u3).setCell ⟨b,4,none⟩ u4):=
 ((((h.setCell hp _).setCell hp _).setCell hp _).setCell hp _).setCell hp _
theorem cells5{w:World}{b:Nat}{t:TypeId}{v0 v1 v2 v3 v4:Value}(h:Blk w b t #[v0,v1,v2,v3,v4]):w.cell? ⟨b,0,none⟩=some v0∧w.cell? ⟨b,1,none⟩=some v1∧w.cell? ⟨b,2,none⟩=some v2∧w.cell? ⟨b,3,none⟩=some v3∧w.cell? ⟨b,4,none⟩=some v4:=
 ⟨by simpa using h.cell 0,by simpa using h.cell 1,by simpa using h.cell 2,by simpa using h.cell 3,by simpa using h.cell 4⟩
theorem free5{w:World}{b:Nat}{t:TypeId}{cs:Array Value}(h:Blk w b t cs):w.frozen? ⟨b,0,none⟩=false∧w.frozen? ⟨b,1,none⟩=false∧w.frozen? ⟨b,2,none⟩=false∧w.frozen? ⟨b,3,none⟩=false∧w.frozen? ⟨b,4,none⟩=false:=⟨h.frozen 0,h.frozen 1,h.frozen 2,h.frozen 3,h.frozen 4⟩
abbrev prt0:Array Value:=#[.int .i64 0, .int .u32 0, .int .u32 0, .int .u16 0, .slice none 0 0]
theorem part_end{S:Nat→Prop}{w w2 w5 W:World}{H:Hd}{x:St}{p:Prt}{A:Option Addr}{c:Nat}(m:SI S w H x)(m2:SI S w2 H (shows x))(f2:Fr [H.g] w w2)(f:Fr [] w2 w5)(own:w5.ownsRow 0 5 1 (.slice A p.d.length c) p.d.length (byts p.d))(fb:∀ b,(Value.slice A p.d.length c).ownBlock=some b→w2.heap.size≤b)
  (hr:w.heap.size<w2.heap.size) (f6:Fr [w.heap.size] w5 W):PartPost S w H (shows x) p (.returned (agP p (.slice A p.d.length c))) W:=by
 obtain⟨S',e,by5,m5⟩:=m2.pubd f own fb
 have hz:=f2.size
 have hnS:¬ S' w.heap.size:=fun hs=>by
  rcases e.2 _ hs with h|h
  ·have:=HP.pub' m.hp _ h;omega
  ·omega
 have hO:∀ y∈[w.heap.size],¬ S' y:=fun y hy=>by simp at hy;subst hy;exact hnS
 have hne:∀ y∈H.own,y≠w.heap.size:=fun y hy=>by have:=m.lt y hy;omega
 have hmem:∀ {y},(y=H.g∨y=H.gw∨y=H.gc∨y=H.gh∨y∈ob H.kv∨y∈ob H.bv∨y∈ob H.uv)→y∉[w.heap.size]:=fun {y} hy=>by
  simp
  exact hne y (by simp only [Hd.own,List.mem_cons,List.mem_append];rcases hy with h|h|h|h|h|h|h <;> simp [h])
 refine⟨S',A,c,rfl,ext_up e hz,by5.fr f6 hO,⟨m5.blk.fr f6 (hmem (by simp)),Blk.fr m5.win f6 (hmem (by simp)),Blk.fr m5.clk f6 (hmem (by simp)),m5.hp.ext' f6 (Ext.refl w5 S') hO (fun y hy=>hmem (by rcases List.mem_cons.1 hy with h|h <;> simp [h])) (fun b hb=>Nat.lt_of_lt_of_le (HP.pub' m5.hp b hb) f6.size),
  own_fr m5.buf f6 (fun b hb=>hmem (by simp [mem_ob.2 hb])),own_fr m5.unr f6 (fun b hb=>hmem (by simp [mem_ob.2 hb])),m5.nS,m5.bu⟩,(f2.trans (f.mono (by simp)) (fun y hy => .inl hy)).trans f6 (fun y hy => .inr (by simp at hy;omega))⟩
theorem keep2{O:List Nat}{w w':World}{p q:Addr}{u v:Value}(F:Fr O w w')(a0:w.cell? p=some u)(a1:w.cell? q=some v)(h0:p.block∉O)(h1:q.block∉O):w'.cell? p=some u∧w'.cell? q=some v:=
 ⟨(F.cell (World.block_lt_of_cell? w _ a0) h0).trans a0,(F.cell (World.block_lt_of_cell? w _ a1) h1).trans a1⟩
set_option maxHeartbeats 4000000 in
theorem part_si{S:Nat→Prop}{w:World}{H:Hd}{x:St}(m:SI S w H x)(hi:Inv x.heap)(hu:x.unread.length≤100000)(f a:Int)(hf:f=0∨f=4∨f=8)(h0:0≤a)(h1:a≤4611686018427387904)(dv:Value)(d:List Int)(T:Nat→Prop)(hd:Byt T w dv d)(hT:∀ b,T b→b≠H.g)(hl:d.length≤1000000) :
  Calls Tryz.prog 79 #[ptr H.g, .int .i64 f, .int .i64 a,dv] w (PartPost S w H (shows x) (partV x (2+f) a d)):=by
 obtain⟨dA,dc,rfl,_,_⟩:=hd.form
 have hgl:=m.blk.lt
 have f0:Fr [] w (w.alloc (.cells prt0 49)):=(Fr.refl [] w).alloc _
 have b0:Blk (w.alloc (.cells prt0 49)) w.heap.size 49 prt0:=Blk.new w _ _
 have m0:=m.fr f0
 have hroom:=room_si m0 hi hu
 have M:=hI m
 have M0:=hI m0
 have HD:=hI hd
 have B0:=hI b0
 have HI:=hI hi
 have HR:=hI hroom
 have ha:IntKind.i64.wrap (1+a)=1+a:=IntWalk.i64_in _ (by omega)
 have hrb:=room_bd x
 clear m m0 hd b0 hi hroom
 go_enter Tryz.func79,Tryz.ntmps79
 go_wp2_with fail
 refine HR.out.mono ?_
 rintro e w1 ⟨rfl,f1⟩
 have m1:=M0.out.fr f1
 have M1:=hI m1
 have c1:=scells m1.blk
 have z24:w1.frozen? ⟨H.g,24,none⟩=false:=m1.blk.frozen 24
 have hg1:=m1.blk.lt
 have y24:=c1.c24
 have B1:=hI (B0.out.fr f1 (by simp))
 have hs1:w.heap.size<w1.heap.size:=by have:=f1.size;simp at this;omega
 have F1:=hI (f0.trans f1 (by simp))
 clear m1 f1 f0 c1
 go_upto_region 2 with fail
 have m2:=M1.out.shown (w':=w1)
 have f2:Fr [H.g] w1 (w1.setCell ⟨H.g,24,none⟩ (.int .i64 (roomV x))):=(Fr.refl [H.g] w1).setCell (p:=⟨H.g,24,none⟩) (.inl (by simp)) _
 have b2:=B1.out.fr f2 (by simp;omega)
 have hs2:w.heap.size<(w1.setCell ⟨H.g,24,none⟩ (.int .i64 (roomV x))).heap.size:=Nat.lt_of_lt_of_le hs1 f2.size
 have F2:Fr [H.g] w (w1.setCell ⟨H.g,24,none⟩ (.int .i64 (roomV x))):=(F1.out.mono (by simp)).trans f2 (fun y hy => .inl hy)
 generalize w1.setCell ⟨H.g,24,none⟩ (.int .i64 (roomV x))=w2 at *
 have c2:=scells m2.blk
 have c13:=c2.c13
 have c24:=c2.c24
 have HD2:=hI (HD.out.fr F2 (fun y hy hs=>by simp at hy;subst hy;exact hT _ hs rfl))
 have hrs:(shows x).shown=roomV x:=rfl
 have his:(shows x).isn=x.isn:=rfl
 rw [his] at c13
 rw [hrs] at c24
 have M2:=hI m2
 have B2:=hI b2
 have FF2:=hI F2
 have HAw:Hid (∀ W,Fr [] w2 W→Calls Tryz.prog 64 #[ptr H.g] W fun e w'=>e = .returned (.int .u32 (awaitedV x))∧Fr [] W w'):=hI (fun W fW=>by have h:=awaited_si (x:=shows x) (M2.out.fr fW) HI.out;exact h)
 have HCl:Hid (∀ W,Fr [] w2 W→Calls Tryz.prog 40 #[.slice dA d.length dc] W _):=hI (fun W fW=>cloneB_any W (HD2.out.fr fW (by simp)) hl)
 have hw1:=wrap_add32 x.isn (1+a)
 have hw2:IntKind.u16.wrap (roomV x)=roomV x:=by rw [wrap16];omega
 have hb0:bits BinOp.or IntKind.i64 2 0=2:=by decide
 have hb4:bits BinOp.or IntKind.i64 2 4=6:=by decide
 have hb8:bits BinOp.or IntKind.i64 2 8=10:=by decide
 clear m2 c2 b2 F2 f2 z24 y24 M0 M1 HR B0 B1 hs1 F1 hg1 hrb hrs his HD hT
 have SEE:Hid (∀ W,Fr [] w2 W→W.cell? ⟨H.g,13,none⟩=some (.int .u32 x.isn)∧W.cell? ⟨H.g,24,none⟩=some (.int .i64 (roomV x))):=hI (fun W fW=>⟨fr_cell fW c13,fr_cell fW c24⟩)
 generalize hrvx:roomV x=rv at *
 generalize hawx:awaitedV x=aw at *
 have n1:H.g≠w.heap.size:=by omega
 have NR:Hid (H.g∉[w.heap.size]):=hI (by simpa using n1)
 obtain⟨z0,z1,z2,z3,z4⟩:=free5 B2.out
 obtain⟨y0,y1,y2,y3,y4⟩:=cells5 B2.out
 go_cut [] (fun wx=>∃(w5:World) (A:Option Addr) (c:Nat),Fr [] w2 w5∧w5.ownsRow 0 5 1 (.slice A d.length c) d.length (byts d)∧(∀ b,(Value.slice A d.length c).ownBlock=some b→w2.heap.size≤b)∧Fr [w.heap.size] w5 wx∧Blk wx w.heap.size 49 #[.int .i64 (2+f), .int .u32 (add32 x.isn (1+a)), .int .u32 aw, .int .u16 rv, .slice A d.length c])
 case first=>
  rcases hf with rfl|rfl|rfl
  all_goals
   go_region_held3 (fun w'=>w'.cell? ⟨H.g,13,none⟩=some (.int .u32 x.isn)∧w'.cell? ⟨H.g,24,none⟩=some (.int .i64 rv))
    (first
     | (with_reducible exact keep2 (fr5 (b:=w.heap.size) (Fr.refl [w.heap.size] w5) (Or.inl (by simp)) _ _ _ _ _) s0 s1 NR.out NR.out)
     | (with_reducible exact SEE.out _ f5)
     | (with_reducible exact SEE.out _ f4)
     | (with_reducible exact SEE.out _ f3)
     | (with_reducible exact SEE.out _ (Fr.refl [] w2).drew)
     | go_keep)
    (first
     | (go_at_call 64;refine (HAw.out _ (Fr.refl [] w2).drew).mono ?_;rintro e w3 ⟨rfl,f3'⟩;have f3:Fr [] w2 w3:=(Fr.refl [] w2).drew.trans f3' (by simp);clear f3')
     | (go_at_call 40;refine (HCl.out _ f3).mono ?_;rintro e w5 ⟨A5,c5,rfl,own5,f5',fb5⟩;have f5:Fr [] w2 w5:=f3.trans f5' (by simp);have fb:∀ b,(Value.slice A5 d.length c5).ownBlock=some b→w2.heap.size≤b:=fun b hb=>Nat.le_trans f3.size (fb5 b hb);have b5:=B2.out.fr f5 (by simp);obtain⟨p0,p1,p2,p3,p4⟩:=cells5 b5;obtain⟨q0,q1,q2,q3,q4⟩:=free5 b5;obtain⟨s0,s1⟩:=SEE.out _ f5;have O5:=hI own5;have FB:=hI fb;have B5:=hI b5;clear own5 f5' fb5 fb b5)
     | (go_at_call 40;refine (HCl.out _ (Fr.refl [] w2).drew).mono ?_;rintro e w4 ⟨A5,c5,rfl,own4,f4',fb4⟩;have f4:Fr [] w2 w4:=(Fr.refl [] w2).drew.trans f4' (by simp);have O4:=hI own4;have FB4:=hI fb4;clear f4' own4 fb4)
     | (go_at_call 64;refine (HAw.out _ f4).mono ?_;rintro e w5 ⟨rfl,f5'⟩;have f5:Fr [] w2 w5:=f4.trans f5' (by simp);have own5:=own_fr O4.out f5' (by simp);have b5:=B2.out.fr f5 (by simp);obtain⟨p0,p1,p2,p3,p4⟩:=cells5 b5;obtain⟨q0,q1,q2,q3,q4⟩:=free5 b5;obtain⟨s0,s1⟩:=SEE.out _ f5;have O5:=hI own5;have FB:Hid (∀ b,(Value.slice A5 d.length c5).ownBlock=some b→w2.heap.size≤b):=FB4;have B5:=hI b5;clear own5 f5' b5))
   all_goals
    go_wp2_with fail
    go_meet
    exact⟨w5,A5,c5,f5,O5.out,FB.out,fr5 (b:=w.heap.size) (Fr.refl [w.heap.size] w5) (Or.inl (by simp)) _ _ _ _ _,set5 B5.out _ _ _ _ _⟩
 case rest=>
  obtain⟨w5,A5,c5,f5,own5,fb5,f6,B6⟩:=hcut
  have hpost:=part_end (p:=partV x (2+f) a d) M.out M2.out FF2.out f5 own5 fb5 hs2 f6
  obtain⟨r0,r1,r2,r3,r4⟩:=cells5 B6
  have HPost:=hI hpost
  have HV:Hid (agP (partV x (2+f) a d) (.slice A5 d.length c5) = .agg #[.int .i64 (2+f), .int .u32 (add32 x.isn (1+a)), .int .u32 aw, .int .u16 rv, .slice A5 d.length c5]):=hI (by unfold partV;rw [hawx,hrvx])
  clear f5 own5 fb5 f6 hpost y0 y1 y2 y3 y4 z0 z1 z2 z3 z4
  go_wp2_with fail
  refine bodyPost_ret (v := .agg #[.int .i64 (2+f), .int .u32 (add32 x.isn (1+a)), .int .u32 aw, .int .u16 rv, .slice A5 d.length c5]) (by simp [results,Tryz.results79,go_sem,r0,r1,r2,r3,r4]) rfl ?_
  rw [← HV.out]
  exact HPost.out
@[go_sem] theorem field_win0 (a b c d:Int) (W:World):(Instr.field 32 (.agg #[.int .i64 a, .int .i64 b, .int .i64 c, .int .i64 d]) 0).run Tryz.prog W = .ok (.int .i64 a) W:=by
 unfold Instr.field
 go_simp
 rfl
@[go_sem] theorem field_win1 (a b c d:Int) (W:World):(Instr.field 32 (.agg #[.int .i64 a, .int .i64 b, .int .i64 c, .int .i64 d]) 1).run Tryz.prog W = .ok (.int .i64 b) W:=by
 unfold Instr.field
 go_simp
 rfl
@[go_sem] theorem field_win2 (a b c d:Int) (W:World):(Instr.field 32 (.agg #[.int .i64 a, .int .i64 b, .int .i64 c, .int .i64 d]) 2).run Tryz.prog W = .ok (.int .i64 c) W:=by
 unfold Instr.field
 go_simp
 rfl
@[go_sem] theorem field_win3 (a b c d:Int) (W:World):(Instr.field 32 (.agg #[.int .i64 a, .int .i64 b, .int .i64 c, .int .i64 d]) 3).run Tryz.prog W = .ok (.int .i64 d) W:=by
 unfold Instr.field
 go_simp
 rfl
theorem SI.far{S:Nat→Prop}{w w':World}{H:Hd}{x:St}{r:Nat}(m:SI S w H x)(f:Fr [r] w w')(hS:¬ S r)(hn:∀ y∈H.own,y≠r):SI S w' H x:=by
 have hO:∀ y∈[r],¬ S y:=fun y hy=>by simp at hy;subst hy;exact hS
 have hmem:∀ {y},(y=H.g∨y=H.gw∨y=H.gc∨y=H.gh∨y∈ob H.kv∨y∈ob H.bv∨y∈ob H.uv)→y∉[r]:=fun {y} hy=>by
  simp
  exact hn y (by simp only [Hd.own,List.mem_cons,List.mem_append];rcases hy with h|h|h|h|h|h|h <;> simp [h])
 exact⟨m.blk.fr f (hmem (by simp)),Blk.fr m.win f (hmem (by simp)),Blk.fr m.clk f (hmem (by simp)),m.hp.ext' f (Ext.refl w S) hO (fun y hy=>hmem (by rcases List.mem_cons.1 hy with h|h <;> simp [h])) (fun b hb=>Nat.lt_of_lt_of_le (HP.pub' m.hp b hb) f.size),
  own_fr m.buf f (fun b hb=>hmem (by simp [mem_ob.2 hb])),own_fr m.unr f (fun b hb=>hmem (by simp [mem_ob.2 hb])),m.nS,m.bu⟩
theorem res_end{S:Nat→Prop}{w W0 w5 W:World}{H:Hd}{x x':St}{p:Prt}{v:Value}(m:SI S w H x)(f0:Fr [] w W0)(hr:w.heap.size<W0.heap.size)(h:PartPost S W0 H x' p (.returned v) w5)(f6:Fr [w.heap.size] w5 W):PartPost S w H x' p (.returned v) W:=by
 obtain⟨S',A,c,e,x5,by5,m5,f5⟩:=h
 have hnS:¬ S' w.heap.size:=fun hs=>by
  rcases x5.2 _ hs with h|h
  ·have:=HP.pub' m.hp _ h;omega
  ·omega
 exact⟨S',A,c,e,ext_up x5 f0.size,by5.fr f6 (fun y hy=>by simp at hy;subst hy;exact hnS),m5.far f6 hnS (fun y hy=>by have:=m.lt y hy;omega),((f0.mono (by simp)).trans f5 (fun y hy => .inl hy)).trans f6 (fun y hy => .inr (by simp at hy;omega))⟩
def AnsRel(S:Nat→Prop)(w w0:World)(H:Hd)(x':St)(p:Prt)(wx:World):Prop:=
 ∃(w5:World) (A:Option Addr) (c:Nat),PartPost S w0 H x' p (.returned (agP p (.slice A p.d.length c))) w5∧Fr [w.heap.size] w5 wx∧Blk wx w.heap.size 49 #[.int .i64 p.flags, .int .u32 p.seq, .int .u32 p.ack, .int .u16 p.win, .slice A p.d.length c]
set_option maxHeartbeats 4000000 in
theorem answer_si{S:Nat→Prop}{w:World}{H:Hd}{x:St}(m:SI S w H x)(hi:Inv x.heap)(hu:x.unread.length≤100000)(h0:0≤x.win.m)(h1:x.win.m≤4611686018427387000) :
  Calls Tryz.prog 59 #[ptr H.g] w (PartPost S w H (shows x) (answerV x)):=by
 have hgl:=m.blk.lt
 have ho:=one_bd x.fin
 have f0:Fr [] w (w.alloc (.cells prt0 49)):=(Fr.refl [] w).alloc _
 have b0:Blk (w.alloc (.cells prt0 49)) w.heap.size 49 prt0:=Blk.new w _ _
 have hr:w.heap.size<(w.alloc (.cells prt0 49)).heap.size:=by simp
 have m0:=m.fr f0
 have ha:IntKind.i64.wrap (x.win.m+one x.fin)=x.win.m+one x.fin:=IntWalk.i64_in _ (by omega)
 have hpt:∀ W,Fr [] (w.alloc (.cells prt0 49)) W→Calls Tryz.prog 79 #[ptr H.g, .int .i64 0, .int .i64 (x.win.m+one x.fin), .slice none 0 0] W (PartPost S W H (shows x) (answerV x)):=fun W fW=>part_si (m0.fr fW) hi hu 0 _ (.inl rfl) (by omega) (by omega) _ [] (fun _=>False) Byt.nil (by simp) (by simp)
 go_enter Tryz.func59,Tryz.ntmps59
 go_upto_region 1 with fail
 generalize w.alloc (.cells prt0 49)=w0 at *
 have c:=scells m0.blk
 have c16:=c.c16
 have c19:=c.c19
 have HPt:=hI hpt
 have HSt:Hid (∀ W,Fr [] w0 W→Calls Tryz.prog 48 #[ptr H.gw] W _):=hI (fun W fW=>Win.state_win H.gw x.win W (Blk.fr m0.win fW (by simp)))
 have HFl:Hid (∀ W,Calls Tryz.prog 80 #[.bool x.fin] W _):=hI (fun W=>flag_any x.fin W)
 have SEE:Hid (∀ W,Fr [] w0 W→W.cell? ⟨H.g,16,none⟩=some (ptr H.gw)∧W.cell? ⟨H.g,19,none⟩=some (.bool x.fin)):=hI (fun W fW=>⟨fr_cell fW c16,fr_cell fW c19⟩)
 have NR:Hid (H.g∉[w.heap.size]):=hI (by simp;omega)
 have M:=hI m
 have F0:=hI f0
 have HRr:=hI hr
 have B0:=hI b0
 generalize answerV x=p at *
 obtain⟨z0,z1,z2,z3,z4⟩:=free5 b0
 obtain⟨y0,y1,y2,y3,y4⟩:=cells5 b0
 have n1:H.g≠w.heap.size:=by omega
 clear m m0 f0 hr b0 hpt c
 go_cut [] (fun wx=>AnsRel S w w0 H (shows x) p wx)
 case first=>
  go_region_held3 (fun w'=>w'.cell? ⟨H.g,16,none⟩=some (ptr H.gw)∧w'.cell? ⟨H.g,19,none⟩=some (.bool x.fin))
   (first
    | (with_reducible exact keep2 (fr5 (b:=w.heap.size) (Fr.refl [w.heap.size] w5) (Or.inl (by simp)) _ _ _ _ _) s0 s1 NR.out NR.out)
    | (with_reducible exact⟨s0,s1⟩)
    | (with_reducible exact SEE.out _ f3)
    | (with_reducible exact SEE.out _ (Fr.refl [] w0).drew)
    | go_keep)
   (first
    | (go_at_call 48;refine (HSt.out _ (Fr.refl [] w0).drew).mono ?_;rintro e w3 ⟨rfl,f3'⟩;have f3:Fr [] w0 w3:=(Fr.refl [] w0).drew.trans f3' (by simp);clear f3')
    | (go_at_call 80;refine (HFl.out _).mono ?_;rintro e w4 ⟨rfl,rfl⟩)
    | (go_at_call 79;refine (HPt.out _ f3).mono ?_;rintro e w5 ⟨S5,A5,c5,rfl,x5,by5,m5,f5⟩;have sc:=scells m5.blk;have s0:w5.cell? ⟨H.g,16,none⟩=some (ptr H.gw):=sc.c16;have s1:w5.cell? ⟨H.g,19,none⟩=some (.bool x.fin):=sc.c19;have hb5:=(B0.out.fr f3 (by simp)).fr f5 (by simp;omega);obtain⟨p0,p1,p2,p3,p4⟩:=cells5 hb5;obtain⟨q0,q1,q2,q3,q4⟩:=free5 hb5;have B5:=hI hb5;have X5:=hI x5;have Y5:=hI by5;have M5:=hI m5;have FF5:=hI f5;clear sc hb5 x5 by5 m5 f5))
  all_goals
   go_wp2_with fail
   go_meet
   exact⟨w5,A5,c5,⟨S5,A5,c5,rfl,ext_up X5.out f3.size,Y5.out,M5.out,(f3.mono (by simp)).trans FF5.out (fun y hy => .inl hy)⟩,fr5 (b:=w.heap.size) (Fr.refl [w.heap.size] w5) (Or.inl (by simp)) _ _ _ _ _,set5 B5.out _ _ _ _ _⟩
 case rest=>
  obtain⟨w5,A5,c5,hp5,f6,B6⟩:=hcut
  have hpost:=res_end M.out F0.out HRr.out hp5 f6
  obtain⟨r0,r1,r2,r3,r4⟩:=cells5 B6
  have HPost:=hI hpost
  clear hp5 f6 hpost y0 y1 y2 y3 y4 z0 z1 z2 z3 z4
  go_wp2_with fail
  refine bodyPost_ret (v := .agg #[.int .i64 p.flags, .int .u32 p.seq, .int .u32 p.ack, .int .u16 p.win, .slice A5 p.d.length c5]) (by simp [results,Tryz.results59,go_sem,r0,r1,r2,r3,r4]) rfl ?_
  exact HPost.out
def BegRel(w2:World)(v:Array Value)(s3:Value)(wx:World):Prop:=∃ b3,s3=ptr b3∧w2.heap.size≤b3∧Blk wx b3 49 v∧Fr [] w2 wx
theorem beg_end{S:Nat→Prop}{w w2 W:World}{H:Hd}{x:St}{p:Prt}(m:SI S w H x)(m2:SI S w2 H (shows x))(f2:Fr [H.g] w w2)(f:Fr [w.heap.size] w2 W)(hd:p.d=[]):PartPost S w H (shows x) p (.returned (agP p (.slice none 0 0))) W:=by
 have hnS:¬ S w.heap.size:=fun hs=>by have:=HP.pub' m.hp _ hs;omega
 refine⟨S,none,0,by rw [hd];rfl,Ext.refl w S,by rw [hd];exact Byt.nil,m2.far f hnS (fun y hy=>by have:=m.lt y hy;omega),f2.trans f (fun y hy => .inr (by simp at hy;omega))⟩
set_option maxHeartbeats 4000000 in
theorem begins_si{S:Nat→Prop}{w:World}{H:Hd}{x:St}(m:SI S w H x)(hi:Inv x.heap)(hu:x.unread.length≤100000) :
  Calls Tryz.prog 23 #[ptr H.g] w (PartPost S w H (shows x) (beginsV x)):=by
 have hgl:=m.blk.lt
 have f0:Fr [] w (w.alloc (.cells prt0 49)):=(Fr.refl [] w).alloc _
 have b0:Blk (w.alloc (.cells prt0 49)) w.heap.size 49 prt0:=Blk.new w _ _
 have m0:=m.fr f0
 have hroom:=room_si m0 hi hu
 have M:=hI m
 have M0:=hI m0
 have B0:=hI b0
 have HI:=hI hi
 have HR:=hI hroom
 have hrb:=room_bd x
 clear m m0 b0 hi hroom
 go_enter Tryz.func23,Tryz.ntmps23
 go_wp2_with fail
 refine HR.out.mono ?_
 rintro e w1 ⟨rfl,f1⟩
 have m1:=M0.out.fr f1
 have M1:=hI m1
 have c1:=scells m1.blk
 have z24:w1.frozen? ⟨H.g,24,none⟩=false:=m1.blk.frozen 24
 have hg1:=m1.blk.lt
 have y24:=c1.c24
 have B1:=hI (B0.out.fr f1 (by simp))
 have hs1:w.heap.size<w1.heap.size:=by have:=f1.size;simp at this;omega
 have F1:=hI (f0.trans f1 (by simp))
 clear m1 f1 f0 c1
 go_upto_region 2 with fail
 have m2:=M1.out.shown (w':=w1)
 have f2:Fr [H.g] w1 (w1.setCell ⟨H.g,24,none⟩ (.int .i64 (roomV x))):=(Fr.refl [H.g] w1).setCell (p:=⟨H.g,24,none⟩) (.inl (by simp)) _
 have b2:=B1.out.fr f2 (by simp;omega)
 have hs2:w.heap.size<(w1.setCell ⟨H.g,24,none⟩ (.int .i64 (roomV x))).heap.size:=Nat.lt_of_lt_of_le hs1 f2.size
 have F2:Fr [H.g] w (w1.setCell ⟨H.g,24,none⟩ (.int .i64 (roomV x))):=(F1.out.mono (by simp)).trans f2 (fun y hy => .inl hy)
 generalize w1.setCell ⟨H.g,24,none⟩ (.int .i64 (roomV x))=w2 at *
 have c2:=scells m2.blk
 have c0:w2.cell? ⟨H.g,0,none⟩=some (.int .i64 x.at_):=c2.c0
 have c13:w2.cell? ⟨H.g,13,none⟩=some (.int .u32 x.isn):=c2.c13
 have c24:w2.cell? ⟨H.g,24,none⟩=some (.int .i64 (roomV x)):=c2.c24
 have M2:=hI m2
 have B2:=hI b2
 have FF2:=hI F2
 have hw2:IntKind.u16.wrap (roomV x)=roomV x:=by rw [wrap16];omega
 have hmod:roomV x % 65536=roomV x:=by omega
 have HAw:Hid (∀ W,Fr [] w2 W→Calls Tryz.prog 64 #[ptr H.g] W fun e w'=>e = .returned (.int .u32 (awaitedV x))∧Fr [] W w'):=hI (fun W fW=>by have h:=awaited_si (x:=shows x) (M2.out.fr fW) HI.out;exact h)
 have hpd:(beginsV x).d=[]:=by unfold beginsV;split <;> rfl
 have HPD:=hI hpd
 have hbv:beginsV x=if x.at_=3 then ⟨3,x.isn,awaitedV x,roomV x,[]⟩ else ⟨1,x.isn,0,roomV x,[]⟩:=rfl
 have HBV:=hI hbv
 have hg2:=m2.blk.lt
 clear m2 c2 b2 F2 f2 z24 y24 M0 M1 HR B0 B1 hs1 F1 hg1 hrb hpd hbv
 generalize hrv:roomV x=rv at *
 generalize hav:awaitedV x=av at *
 have SEE:Hid (∀ W,Fr [] w2 W→W.cell? ⟨H.g,13,none⟩=some (.int .u32 x.isn)∧W.cell? ⟨H.g,24,none⟩=some (.int .i64 rv)):=hI (fun W fW=>⟨fr_cell fW c13,fr_cell fW c24⟩)
 go_cut [3] (fun s3 wx=>BegRel w2 #[.int .i64 1, .int .u32 x.isn, .int .u32 0, .int .u16 rv, .slice none 0 0] s3 wx)
 case first=>
  go_region_held3 (fun w'=>w'.cell? ⟨H.g,13,none⟩=some (.int .u32 x.isn)∧w'.cell? ⟨H.g,24,none⟩=some (.int .i64 rv))
   (first
    | (with_reducible exact SEE.out _ (Fr.refl [] w2).drew)
    | (with_reducible exact SEE.out _ ((Fr.refl [] w2).drew.alloc _))
    | go_keep)
   (fail)
  all_goals
   go_wp2_with fail
   go_meet
   exact⟨w2.heap.size,rfl,Nat.le_refl _,by first|exact Blk.new w2 _ _|exact Blk.new w2.drew _ _|exact (Blk.new w2 _ _).drew,by first|exact (Fr.refl [] w2).alloc _|exact (Fr.refl [] w2).drew.alloc _|exact ((Fr.refl [] w2).alloc _).drew⟩
 case rest=>
  obtain⟨b3,rfl,hb3,B3,f3⟩:=hcut
  generalize wc=wx at *
  have d0:=fr_cell f3 c0
  have n3:w.heap.size≠b3:=by omega
  have n3':b3≠w.heap.size:=by omega
  have n4:H.g≠b3:=by omega
  have ng:H.g≠w.heap.size:=by omega
  clear c0 c13 c24 SEE hw2 hmod
  by_cases h3:x.at_=3
  ·go_wp2_with fail
   refine (HAw.out _ f3).mono ?_
   rintro e w4 ⟨rfl,f4⟩
   have f24:Fr [] w2 w4:=f3.trans f4 (by simp)
   have b34:=B3.fr f4 (by simp)
   have br4:=B2.out.fr f24 (by simp)
   obtain⟨y0,y1,y2,y3,y4⟩:=cells5 b34
   obtain⟨z0,z1,z2,z3,z4⟩:=free5 b34
   obtain⟨p0,p1,p2,p3,p4⟩:=cells5 br4
   obtain⟨q0,q1,q2,q3,q4⟩:=free5 br4
   have HB:=hI br4
   have F24:=hI f24
   have hb:=HBV.out
   rw [if_pos h3] at hb
   have HB':=hI hb
   clear f3 f4 f24 b34 br4 B3 d0 hb
   go_wp2_with fail
   have f5:Fr [w.heap.size] w2 ((w4.setCell ⟨b3,0,none⟩ (.int .i64 3)).setCell ⟨b3,2,none⟩ (.int .u32 av)):=(((F24.out.mono (by simp)).setCell (p:=⟨b3,0,none⟩) (.inr hb3) _).setCell (p:=⟨b3,2,none⟩) (.inr hb3) _)
   have b5:=(HB.out.far (p:=⟨b3,0,none⟩) n3 (.int .i64 3)).far (p:=⟨b3,2,none⟩) n3 (.int .u32 av)
   have B6:=set5 b5 (.int .i64 3) (.int .u32 x.isn) (.int .u32 av) (.int .u16 rv) (.slice none 0 0)
   have f6:=fr5 (b:=w.heap.size) f5 (.inl (by simp)) (.int .i64 3) (.int .u32 x.isn) (.int .u32 av) (.int .u16 rv) (.slice none 0 0)
   have hpost:=beg_end (p:=beginsV x) M.out M2.out FF2.out f6 HPD.out
   rw [HB'.out] at hpost
   obtain⟨r0,r1,r2,r3,r4⟩:=cells5 B6
   refine bodyPost_ret (v := .agg #[.int .i64 3, .int .u32 x.isn, .int .u32 av, .int .u16 rv, .slice none 0 0]) (by simp [results,Tryz.results23,go_sem,r0,r1,r2,r3,r4]) rfl ?_
   rw [HB'.out]
   exact hpost
  ·obtain⟨y0,y1,y2,y3,y4⟩:=cells5 B3
   have br4:=B2.out.fr f3 (by simp)
   obtain⟨p0,p1,p2,p3,p4⟩:=cells5 br4
   obtain⟨q0,q1,q2,q3,q4⟩:=free5 br4
   have HB:=hI br4
   have F24:=hI f3
   have hb:=HBV.out
   rw [if_neg h3] at hb
   have HB':=hI hb
   clear f3 br4 B3 hb
   go_wp2_with fail
   have B6:=set5 HB.out (.int .i64 1) (.int .u32 x.isn) (.int .u32 0) (.int .u16 rv) (.slice none 0 0)
   have f6:=fr5 (b:=w.heap.size) (F24.out.mono (O':=[w.heap.size]) (by simp)) (.inl (by simp)) (.int .i64 1) (.int .u32 x.isn) (.int .u32 0) (.int .u16 rv) (.slice none 0 0)
   have hpost:=beg_end (p:=beginsV x) M.out M2.out FF2.out f6 HPD.out
   rw [HB'.out] at hpost
   obtain⟨r0,r1,r2,r3,r4⟩:=cells5 B6
   refine bodyPost_ret (v := .agg #[.int .i64 1, .int .u32 x.isn, .int .u32 0, .int .u16 rv, .slice none 0 0]) (by simp [results,Tryz.results23,go_sem,r0,r1,r2,r3,r4]) rfl ?_
   rw [HB'.out]
   exact hpost
end Go.Proofs.YtmgdbbbdhkfdmaaGreat
