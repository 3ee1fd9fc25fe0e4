import Derived.Test.YtmgdbbbdhkfdmaaGreatYS1
import Derived.Deep.DeepCutAuto
import Derived.Lib.SliceRun
import Derived.Laws.Append
import Derived.OwnWalk
import Derived.Test.YtmgdbbbdhkfdmaaGreatYS0
set_option linter.unusedSimpArgs false
set_option linter.unusedVariables false
namespace Go.Proofs.YtmgdbbbdhkfdmaaGreat
set_option maxRecDepth 100000
open Go.RowKit
abbrev agp(a:Int)(v:Value):Value := .agg #[.int .i64 a,v]
abbrev bxp(a:Int)(v:Value):Obj := .cells #[.int .i64 a,v] 134
theorem none_hp{g:Nat}{w:World}(c4:w.cell? ⟨g,4,none⟩=some (.bool true)):Calls Tryz.prog 86 #[ptr g] w fun e w'=>e = .returned (.bool false)∧w=w':=by
 go_enter Tryz.func86,Tryz.ntmps86
 go_wp2
 go_ret
 exact⟨rfl,rfl⟩
theorem new_yes(m:Int)(w:World)(h0:0≤m)(h1:m≤64) :
  Calls Tryz.prog 21 #[.int .i64 m] w fun e w'=>e = .returned (.tuple #[ptr w.heap.size, .int .i64 0])∧w.alloc (.cells #[.int .i64 m, .int .i64 0, .slice none 0 0, .pointer none, .bool true] 115)=w':=by
 go_enter Tryz.func21,Tryz.ntmps21
 go_wp2
 go_ret2
 exact⟨rfl,rfl⟩
theorem new_hp(S:Nat→Prop)(m:Int)(w:World)(h0:0≤m)(h1:m≤64)(hp:∀ b,S b→b<w.heap.size) :
  Calls Tryz.prog 21 #[.int .i64 m] w fun e w'=>e = .returned (.tuple #[ptr w.heap.size, .int .i64 0])∧Fr [] w w'∧HP S w' w.heap.size (.slice none 0 0) (newV m)∧w'.heap.size=w.heap.size+1:=
 (new_yes m w h0 h1).mono fun _ _ ⟨he,hw⟩=>by
  subst hw
  refine⟨he,(Fr.refl _ _).alloc _,⟨.pointer none,[],Blk.new _ _ _,⟨World.ownsRow_nil _ _ _ _,by simp⟩,rfl, .inl ⟨rfl,rfl⟩,fun b hb=>by have:=hp b hb;simp;omega,fun hs=>by have:=hp _ hs;omega,by simp [Value.ownBlock]⟩,by simp⟩
theorem behind_any(a:Int)(A:Option Addr)(n c:Nat)(w:World)(h0:0≤a)(h1:a≤4611686018427387968)(hn:n≤1000000) :
  Calls Tryz.prog 127 #[agp a (.slice A n c)] w fun e w'=>e = .returned (.int .i64 (a+n))∧w.alloc (bxp a (.slice A n c))=w':=by
 go_enter Tryz.func127,Tryz.ntmps127
 go_wp2
 go_ret
 exact⟨rfl,rfl⟩
theorem behind_fr(a:Int)(A:Option Addr)(n c:Nat)(w:World)(h0:0≤a)(h1:a≤4611686018427387968)(hn:n≤1000000) :
  Calls Tryz.prog 127 #[agp a (.slice A n c)] w fun e w'=>e = .returned (.int .i64 (a+n))∧Fr [] w w':=
 (behind_any a A n c w h0 h1 hn).mono fun _ _ ⟨he,hw⟩=>⟨he,hw▸(Fr.refl _ _).alloc _⟩
theorem next_hp{S:Nat→Prop}{g:Nat}{kv:Value}{h:Hp}{w:World}(m:HP S w g kv h):Calls Tryz.prog 49 #[ptr g] w fun e w'=>e = .returned (.int .i64 h.next)∧w=w':=by
 obtain⟨ev,L,m⟩:=m
 obtain⟨c0,c1,c2,c3,c4⟩:=m.cells
 go_enter Tryz.func49,Tryz.ntmps49
 go_wp2_with (go_at_call 86;refine (none_hp c4).mono ?_;rintro e w' ⟨rfl,rfl⟩)
 go_ret
 exact⟨rfl,rfl⟩
def isFin(h:Hp):Bool:=match h.fin with|none=>false|some a=>a == h.next
theorem done_hp{S:Nat→Prop}{g:Nat}{kv:Value}{h:Hp}{w:World}(m:HP S w g kv h):Calls Tryz.prog 118 #[ptr g] w fun e w'=>e = .returned (.bool (isFin h))∧Fr [] w w':=by
 obtain⟨ev,L,m⟩:=m
 obtain⟨c0,c1,c2,c3,c4⟩:=m.cells
 rcases m.fin with ⟨h1,rfl⟩|⟨a,b,h1,rfl,h3,h4⟩
 ·have e:isFin h=false:=by unfold isFin;rw [h1]
  rw [e]
  have H:=hI h1
  clear e h1
  go_enter Tryz.func118,Tryz.ntmps118
  go_wp2_with fail
  go_quiet ((go_at_call 86;exact quiet_left (none_hp c4)))
  go_wp2
  go_ret
  exact⟨rfl,(Fr.refl _ _).drewN _⟩
 ·have e:isFin h=(a == h.next):=by unfold isFin;rw [h1]
  rw [e]
  have H:=hI h1
  clear e h1
  go_enter Tryz.func118,Tryz.ntmps118
  go_wp2_with fail
  go_quiet ((go_at_call 86;exact quiet_left (none_hp c4)))
  go_wp2
  go_ret
  exact⟨rfl,(Fr.refl _ _).drewN _⟩
end Go.Proofs.YtmgdbbbdhkfdmaaGreat
namespace Go.Proofs.YtmgdbbbdhkfdmaaGreat
set_option maxRecDepth 100000
open Go.RowKit
theorem info_u8:(Tryz.prog.info? 5).map (fun i=>(i.zero,i.size,i.bytes))=some (some (.int .u8 0),1,1):=by kernel_rfl
theorem info_pc:(Tryz.prog.info? 134).map (fun i=>(i.zero,i.size,i.bytes))=some (some (.agg #[.int .i64 0, .slice none 0 0]),2,32):=by kernel_rfl
theorem cell_al{w:World}{a:Addr}{v:Value}(h:w.cell? a=some v)(o:Obj):(w.alloc o).cell? a=some v:=by
 rw [World.cell?_alloc_lt w o _ (World.block_lt_of_cell? w _ h)];exact h
theorem fr_cell{w w':World}{a:Addr}{v:Value}(f:Fr [] w w')(h:w.cell? a=some v):w'.cell? a=some v:=(f.cell (World.block_lt_of_cell? w a h) (by simp)).trans h
theorem own_empty(w:World)(e:TypeId)(size:Nat):(w.alloc (.cells #[] e)).ownsRow 0 e size (.slice (some ⟨w.heap.size,0,none⟩) 0 0) 0 []:=by
 have:=World.ownsRow_lit (base:=0) (e:=e) (size:=size) w #[] 0 (Nat.zero_le _) (Nat.zero_le _) (by simp)
 simpa using this
theorem cloneB_any{S:Nat→Prop}{v:Value}{l:List Int}(w:World)(h:Byt S w v l)(hl:l.length≤1000000) :
  Calls Tryz.prog 40 #[v] w fun e w'=>∃ A c,e = .returned (.slice A l.length c)∧w'.ownsRow 0 5 1 (.slice A l.length c) l.length (byts l)∧Fr [] w w'∧(∀ b,(Value.slice A l.length c).ownBlock=some b→w.heap.size≤b):=by
 obtain⟨A,c,rfl,hn,hc⟩:=h.form
 obtain⟨i0,hi,hz0,hz1,hz2⟩:=info_parts info_u8
 cases A with
 | none=>
  obtain⟨h0,h1⟩:=Sl.none_ h
  obtain rfl:l=[]:=List.eq_nil_of_length_eq_zero h0
  clear h h1 h0
  have qn:=fun (w:World) a n c n' c'=>Lib.run_eql_slice_nil (P:=Tryz.prog) w 30 5 a n c n' c' Tryz.underlying30
  go_enter Tryz.func40,Tryz.ntmps40
  go_wp2
  go_ret
  exact⟨none,0,rfl,World.ownsRow_nil _ _ _ _,Fr.refl _ _,by simp [Value.ownBlock]⟩
 | some ad=>
  have H:=hI h
  have h2:l.length * 1≤140737488355328:=by omega
  have h3:l.length≤maxLen:=by unfold maxLen;omega
  clear hn hc
  have H2:=hI h2
  have H3:=hI h3
  clear h2 h3
  clear h
  have qn:=fun (w:World) a n c n' c'=>Lib.run_eql_slice_nil (P:=Tryz.prog) w 30 5 a n c n' c' Tryz.underlying30
  go_enter Tryz.func40,Tryz.ntmps40
  go_wp2_with (at_builtin;refine wpList_append_sl _ rfl (.tmp 5) (.tmp 6) 30 rfl 5 i0 (.int .u8 0) 1 1 Tryz.underlying30 hi hz0 hz1 hz2 rfl (by decide) (.slice (some ⟨w.heap.size,0,none⟩) 0 0) 0 [] (by rfl) (own_empty _ _ _) S (.slice (some ad) l.length c) l.length (byts l) rfl (Sl.fr H.out ((Fr.refl [] _).alloc _) (by simp)) (byts_one l) (by rw [Nat.zero_add];exact H3.out) (by rw [Nat.zero_add];exact H2.out) l.length (Nat.zero_add _) ?_;intro A' c' w' h4 h5 h6)
  go_ret
  refine⟨A',c',rfl,by simpa using h4,Fr.trans ((Fr.refl [] w).alloc _) h5 (by simp [ob,Value.ownBlock]),fun b hb=>?_⟩
  rcases h6 b hb with h7|h7
  ·simp [Value.ownBlock] at h7;omega
  ·simp at h7;omega
theorem cloneP_any{S:Nat→Prop}{kv:Value}{L:List (Pc × Value)}(w:World)(h:Kp 134 S w kv L)(hl:L.length≤1000000) :
  Calls Tryz.prog 87 #[kv] w fun e w'=>∃ A c,e = .returned (.slice A L.length c)∧Kp 134 S w' (.slice A L.length c) L∧Fr [] w w'∧(∀ b,(Value.slice A L.length c).ownBlock=some b→w.heap.size≤b):=by
 obtain⟨A,c,rfl,hn,hc⟩:=h.form
 obtain⟨i0,hi,hz0,hz1,hz2⟩:=info_parts info_pc
 cases A with
 | none=>
  have h0:L.length=0:=by
   rcases h.own.2 with ⟨_,h⟩|⟨g,cap,cur,hv,_⟩
   ·exact h
   ·cases hv
  obtain rfl:L=[]:=List.eq_nil_of_length_eq_zero h0
  clear h h0
  have qn:=fun (w:World) a n c n' c'=>Lib.run_eql_slice_nil (P:=Tryz.prog) w 112 134 a n c n' c' Tryz.underlying112
  go_enter Tryz.func87,Tryz.ntmps87
  go_wp2
  go_ret
  exact⟨none,0,rfl,⟨World.ownsRow_nil _ _ _ _,by simp⟩,Fr.refl _ _,by simp [Value.ownBlock]⟩
 | some ad=>
  have hs:=Sl.of_own (S:=fun _=>True) h.own (fun _ _=>trivial)
  have hb:=h.byt
  have h1:=h.one
  have h2:L.length * 32≤140737488355328:=by omega
  have h3:L.length≤maxLen:=by unfold maxLen;omega
  have H:=hI hs
  have HB:=hI hb
  have H1:=hI h1
  have H2:=hI h2
  have H3:=hI h3
  clear h2 h3 h hs hn hc h1 hb
  have qn:=fun (w:World) a n c n' c'=>Lib.run_eql_slice_nil (P:=Tryz.prog) w 112 134 a n c n' c' Tryz.underlying112
  go_enter Tryz.func87,Tryz.ntmps87
  go_wp2_with (at_builtin;refine wpList_append_sl _ rfl (.tmp 5) (.tmp 6) 112 rfl 134 i0 (.agg #[.int .i64 0, .slice none 0 0]) 2 32 Tryz.underlying112 hi hz0 hz1 hz2 rfl (by decide) (.slice (some ⟨w.heap.size,0,none⟩) 0 0) 0 [] (by rfl) (own_empty _ _ _) (fun _=>True) (.slice (some ad) L.length c) L.length (pcs L) rfl (Sl.fr H.out ((Fr.refl [] _).alloc _) (by simp)) H1.out (by rw [Nat.zero_add];exact H3.out) (by rw [Nat.zero_add];exact H2.out) L.length (Nat.zero_add _) ?_;intro A' c' w' h4 h5 h6)
  go_ret
  have F:Fr [] w w':=Fr.trans ((Fr.refl [] w).alloc _) h5 (by simp [ob,Value.ownBlock])
  refine⟨A',c',rfl,⟨by simpa using h4,fun x hx=>(HB.out x hx).fr F (by simp)⟩,F,fun b hb=>?_⟩
  rcases h6 b hb with h7|h7
  ·simp [Value.ownBlock] at h7;omega
  ·simp at h7;omega
theorem r11_any(a:Int)(dv:Value)(g hb:Nat)(n:Int)(w:World)(c0:w.cell? ⟨hb,0,none⟩=some (ptr g))(c1:w.cell? ⟨g,1,none⟩=some (.int .i64 n))(d1:dv.oneCell'=true)(A:Option Addr)(ln c:Nat)(hd:dv = .slice A ln c) :
  Calls Tryz.prog 141 #[agp a dv, .pointer (some ⟨hb,0,none⟩)] w fun e w'=>e = .returned (.bool (decide (a≤n)))∧Fr [] w w':=by
 subst hd
 clear d1
 have l0:=World.block_lt_of_cell? w _ c0
 have l1:=World.block_lt_of_cell? w _ c1
 dsimp only at l0 l1
 go_enter Tryz.func141,Tryz.ntmps141
 go_wp2_with fail
 go_quiet (fail)
 go_wp2
 go_ret
 exact⟨rfl,((Fr.refl _ _).alloc _).drewN _⟩
theorem r12_any(a b:Int)(A B:Option Addr)(ln c ln' c':Nat)(w:World) :
  Calls Tryz.prog 142 #[agp a (.slice A ln c),agp b (.slice B ln' c')] w fun e w'=>e = .returned (.bool (decide (a<b)))∧Fr [] w w':=by
 go_enter Tryz.func142,Tryz.ntmps142
 go_wp2
 go_ret
 exact⟨rfl,((Fr.refl _ _).alloc _).alloc _⟩
theorem p2_any(a b:Int)(A B:Option Addr)(ln c ln' c':Nat)(w:World) :
  Calls Tryz.prog 132 #[agp a (.slice A ln c),agp b (.slice B ln' c')] w fun e w'=>e = .returned (.bool false)∧Fr [] w w':=by
 go_enter Tryz.func132,Tryz.ntmps132
 go_wp2
 go_ret
 exact⟨rfl,((Fr.refl _ _).alloc _).alloc _⟩
theorem p1_any(a b:Int)(A B:Option Addr)(ln c ln' c' pb:Nat)(w:World)(c0:w.cell? ⟨pb,0,none⟩=some (.int .i64 b))(c1:w.cell? ⟨pb,1,none⟩=some (.slice B ln' c')) :
  Calls Tryz.prog 131 #[agp a (.slice A ln c), .pointer (some ⟨pb,0,none⟩)] w fun e w'=>e = .returned (.bool ((a == b) && decide (ln'≤ln)))∧Fr [] w w':=by
 have l0:=World.block_lt_of_cell? w _ c0
 dsimp only at l0
 cases h:(a == b)
 ·go_enter Tryz.func131,Tryz.ntmps131
  go_wp2
  go_ret
  exact⟨rfl,(Fr.refl _ _).alloc _⟩
 ·go_enter Tryz.func131,Tryz.ntmps131
  go_wp2
  go_ret
  exact⟨rfl,(Fr.refl _ _).alloc _⟩
theorem e1_any(a b:Int)(A:Option Addr)(ln c ab:Nat)(w:World)(c0:w.cell? ⟨ab,0,none⟩=some (.int .i64 b))(h0:0≤a)(h1:a≤4611686018427387968)(hn:ln≤1000000) :
  Calls Tryz.prog 126 #[agp a (.slice A ln c), .pointer (some ⟨ab,0,none⟩)] w fun e w'=>e = .returned (.bool (decide (b<a+ln)))∧Fr [] w w':=by
 go_enter Tryz.func126,Tryz.ntmps126
 go_wp2_with fail
 refine wp_region_grew (by kernel_rfl) (by kernel_rfl) ?_
 have q0:=Grew.cell (w:=w.alloc (bxp a (.slice A ln c))) (a:=⟨w.heap.size,0,none⟩) (v := .int .i64 a) ((Blk.new w 134 #[.int .i64 a, .slice A ln c]).cell 0)
 have q1:=Grew.cell (w:=w.alloc (bxp a (.slice A ln c))) (a:=⟨w.heap.size,1,none⟩) (v := .slice A ln c) ((Blk.new w 134 #[.int .i64 a, .slice A ln c]).cell 1)
 have q2:=Grew.cell (w:=w.alloc (bxp a (.slice A ln c))) (a:=⟨ab,0,none⟩) (v := .int .i64 b) (cell_al c0 _)
 repeat (go_big_quiet_step ((go_at_call 127;exact grew_call (behind_fr a A ln c _ h0 h1 hn))))
 refine wpQuiet_nil ?_
 intro W1 f1
 go_wp2
 go_ret
 exact⟨rfl,((Fr.refl _ _).alloc _).trans f1 (by simp)⟩
end Go.Proofs.YtmgdbbbdhkfdmaaGreat
namespace Go.Proofs.YtmgdbbbdhkfdmaaGreat
set_option maxRecDepth 100000
open Go.RowKit
theorem map_get(L:List (Pc × Value))(k:Nat)(x:Pc × Value)(h:L[k]?=some x):(L.map (·.1)).getD k default=x.1:=by
 rw [List.getD_eq_getElem?_getD,List.getElem?_map,h];rfl
set_option maxHeartbeats 2000000 in
theorem first_ready(S:Nat→Prop)(w:World)(g hb:Nat)(n:Int)(d0:w.cell? ⟨hb,0,none⟩=some (ptr g))(d1:w.cell? ⟨g,1,none⟩=some (.int .i64 n))(kv:Value)(L:List (Pc × Value))(h:Kp 134 S w kv L)(hl:L.length≤1000000) :
  Calls Tryz.prog 130 #[kv, .func (.func 141) #[] #[.pointer (some ⟨hb,0,none⟩)], .func (.func 142) #[] #[]] w fun e w'=>e = .returned (.int .i64 (bestV (early n) ahead (L.map (·.1)) L.length))∧Fr [] w w':=by
 obtain⟨KA,KC,rfl,hKn,hKc⟩:=h.form
 go_enter Tryz.func130,Tryz.ntmps130
 go_wp2
 go_loopw [7,12] (fun s7 s12 wr=>∃ k:Nat,k≤L.length∧s12 = .int .i64 k∧s7 = .int .i64 (bestV (early n) ahead (L.map (·.1)) k)∧Fr [] w wr) (fun _ s12 _=>L.length - (intOf s12).toNat)
 case atStart=>exact⟨0,by omega,rfl,rfl,Fr.refl _ _⟩
 case round=>
  obtain⟨k,hk,rfl,rfl,fk⟩:=hrel
  have hbd:=best_bd (early n) ahead (L.map (·.1)) k
  have hsucc:=best_succ (early n) ahead (L.map (·.1)) k
  by_cases hlt:k<L.length
  ·have hk2:=h.fr fk (by simp) (by simp)
   obtain⟨b,_,x,hv,hx,c0,c1,hb⟩:=hk2.at_ hlt
   injection hv with hv _ _
   subst hv
   rw [map_get L k x hx] at hsucc
   obtain⟨A,c,hxv,hnc,_⟩:=hb.form
   rw [hxv] at c1
   have hxx:(early n) x.1=decide (x.1.at_≤n):=rfl
   have hlb:=World.block_lt_of_cell? wr _ c0
   dsimp only at hlb
   have d0':=fr_cell fk d0
   have d1':=fr_cell fk d1
   have fW:=(Fr.refl [] wr).alloc (bxp x.1.at_ (.slice A x.1.d.length c))
   have q0:=Grew.cell (cell_al d0' (bxp x.1.at_ (.slice A x.1.d.length c)))
   have q1:=Grew.cell (cell_al d1' (bxp x.1.at_ (.slice A x.1.d.length c)))
   have bn:=Blk.new wr 134 #[.int .i64 x.1.at_, .slice A x.1.d.length c]
   have q2:=Grew.cell (w:=wr.alloc (bxp x.1.at_ (.slice A x.1.d.length c))) (a:=⟨wr.heap.size,0,none⟩) (bn.cell 0)
   have q3:=Grew.cell (w:=wr.alloc (bxp x.1.at_ (.slice A x.1.d.length c))) (a:=⟨wr.heap.size,1,none⟩) (bn.cell 1)
   have Hx:=hI hx
   have Hk2:=hI hk2
   have Hxv:=hI hxv
   have Hfk:=hI fk
   have HfW:=hI fW
   clear hx hk2 hxv hb fW fk bn hnc
   have hc1:∀ p:Grew (wr.alloc (bxp x.1.at_ (.slice A x.1.d.length c))),Calls Tryz.prog 141 #[agp x.1.at_ (.slice A x.1.d.length c), .pointer (some ⟨hb,0,none⟩)] p.W fun e w''=>e = .returned (.bool ((early n) x.1))∧∃ q:Grew (wr.alloc (bxp x.1.at_ (.slice A x.1.d.length c))),w''=q.W:=fun p=>grew_call (r11_any x.1.at_ _ g hb n _ (q0 p) (q1 p) rfl A x.1.d.length c rfl)
   generalize hbb:bestV (early n) ahead (L.map (·.1)) k=bb at *
   have Hc1:=hI hc1
   clear hc1 hxx
   have HS:=hI hsucc
   clear hsucc hbb
   obtain⟨hb0,hb1⟩:=hbd
   cases hi:(early n) x.1
   ·rw [hi] at Hc1 HS
    clear hi
    go_upto_region 5 with fail
    refine wp_region_grew (by kernel_rfl) (by kernel_rfl) ?_
    repeat (go_big_quiet_step ((go_at_call 141;exact Hc1.out _)))
    refine wpQuiet_nil ?_
    intro W1 f1
    go_wp2_with fail
    go_roundw
    case rel=>
     have e:=HS.out
     simp at e
     exact⟨k+1,by omega,by go_num,by rw [e],Hfk.out.trans (HfW.out.trans f1 (by simp)) (by simp)⟩
    case measure=>simp [intOf];omega
   ·rw [hi] at Hc1 HS
    clear hi
    by_cases hb2:bb<0
    ·have e2:decide (bb<0)=true:=by simpa using hb2
     rw [e2] at HS
     go_upto_region 5 with fail
     refine wp_region_grew (by kernel_rfl) (by kernel_rfl) ?_
     repeat (go_big_quiet_step ((go_at_call 141;exact Hc1.out _)))
     refine wpQuiet_nil ?_
     intro W1 f1
     go_wp2_with fail
     go_roundw
     case rel=>
      have e:=HS.out
      simp at e
      exact⟨k+1,by omega,by go_num,by rw [e],Hfk.out.trans (HfW.out.trans f1 (by simp)) (by simp)⟩
     case measure=>simp [intOf];omega
    ·have e2:decide (bb<0)=false:=by simpa using hb2
     have hb3:0≤bb:=by omega
     have hb4:bb.toNat<L.length:=by omega
     have hb5:bb<(L.length:Int):=by omega
     obtain⟨_,_,y,hv,hy,c2,c3,hby⟩:=Hk2.out.at_ hb4
     injection hv with hv _ _
     injection hv with hv
     injection hv with hv _ _
     subst hv
     rw [e2] at HS
     rw [map_get L _ y hy] at HS
     obtain⟨A2,c4,hyv,_,_⟩:=hby.form
     rw [hyv] at c3
     have q4:=Grew.cell (cell_al c2 (bxp x.1.at_ (.slice A x.1.d.length c)))
     have q5:=Grew.cell (cell_al c3 (bxp x.1.at_ (.slice A x.1.d.length c)))
     have Hy:=hI hy
     have Hyv:=hI hyv
     clear hy hyv hby
     have hc2:∀ p:Grew (wr.alloc (bxp x.1.at_ (.slice A x.1.d.length c))),Calls Tryz.prog 142 #[agp x.1.at_ (.slice A x.1.d.length c),agp y.1.at_ (.slice A2 y.1.d.length c4)] p.W fun e w''=>e = .returned (.bool (ahead x.1 y.1))∧∃ q:Grew (wr.alloc (bxp x.1.at_ (.slice A x.1.d.length c))),w''=q.W:=fun p=>grew_call (r12_any _ _ _ _ _ _ _ _ _)
     have Hc2:=hI hc2
     clear hc2
     clear hb2
     cases hi:ahead x.1 y.1
     ·rw [hi] at Hc2 HS
      clear hi
      go_upto_region 5 with fail
      refine wp_region_grew (by kernel_rfl) (by kernel_rfl) ?_
      repeat (go_big_quiet_step (first|(go_at_call 141;exact Hc1.out _)|(go_at_call 142;exact Hc2.out _)))
      refine wpQuiet_nil ?_
      intro W1 f1
      go_wp2_with fail
      go_roundw
      case rel=>
       have e:=HS.out
       simp at e
       exact⟨k+1,by omega,by go_num,by rw [e],Hfk.out.trans (HfW.out.trans f1 (by simp)) (by simp)⟩
      case measure=>simp [intOf];omega
     ·rw [hi] at Hc2 HS
      clear hi
      go_upto_region 5 with fail
      refine wp_region_grew (by kernel_rfl) (by kernel_rfl) ?_
      repeat (go_big_quiet_step (first|(go_at_call 141;exact Hc1.out _)|(go_at_call 142;exact Hc2.out _)))
      refine wpQuiet_nil ?_
      intro W1 f1
      go_wp2_with fail
      go_roundw
      case rel=>
       have e:=HS.out
       simp at e
       exact⟨k+1,by omega,by go_num,by rw [e],Hfk.out.trans (HfW.out.trans f1 (by simp)) (by simp)⟩
      case measure=>simp [intOf];omega
  ·obtain rfl:L.length=k:=by omega
   go_wp2_with fail
   go_ret
   exact⟨rfl,fk⟩
set_option maxHeartbeats 2000000 in
theorem first_put(S:Nat→Prop)(w:World)(pb:Nat)(pa:Int)(B:Option Addr)(ln' c':Nat)(d0:w.cell? ⟨pb,0,none⟩=some (.int .i64 pa))(d1:w.cell? ⟨pb,1,none⟩=some (.slice B ln' c'))(kv:Value)(L:List (Pc × Value))(h:Kp 134 S w kv L)(hl:L.length≤1000000) :
  Calls Tryz.prog 130 #[kv, .func (.func 131) #[] #[.pointer (some ⟨pb,0,none⟩)], .func (.func 132) #[] #[]] w fun e w'=>e = .returned (.int .i64 (bestV (longer pa ln') (fun _ _=>false) (L.map (·.1)) L.length))∧Fr [] w w':=by
 obtain⟨KA,KC,rfl,hKn,hKc⟩:=h.form
 go_enter Tryz.func130,Tryz.ntmps130
 go_wp2
 go_loopw [7,12] (fun s7 s12 wr=>∃ k:Nat,k≤L.length∧s12 = .int .i64 k∧s7 = .int .i64 (bestV (longer pa ln') (fun _ _=>false) (L.map (·.1)) k)∧Fr [] w wr) (fun _ s12 _=>L.length - (intOf s12).toNat)
 case atStart=>exact⟨0,by omega,rfl,rfl,Fr.refl _ _⟩
 case round=>
  obtain⟨k,hk,rfl,rfl,fk⟩:=hrel
  have hbd:=best_bd (longer pa ln') (fun _ _=>false) (L.map (·.1)) k
  have hsucc:=best_succ (longer pa ln') (fun _ _=>false) (L.map (·.1)) k
  by_cases hlt:k<L.length
  ·have hk2:=h.fr fk (by simp) (by simp)
   obtain⟨b,_,x,hv,hx,c0,c1,hb⟩:=hk2.at_ hlt
   injection hv with hv _ _
   subst hv
   rw [map_get L k x hx] at hsucc
   obtain⟨A,c,hxv,hnc,_⟩:=hb.form
   rw [hxv] at c1
   have hxx:(longer pa ln') x.1=((x.1.at_ == pa) && decide (ln'≤x.1.d.length)):=rfl
   have hlb:=World.block_lt_of_cell? wr _ c0
   dsimp only at hlb
   have d0':=fr_cell fk d0
   have d1':=fr_cell fk d1
   have fW:=(Fr.refl [] wr).alloc (bxp x.1.at_ (.slice A x.1.d.length c))
   have q0:=Grew.cell (cell_al d0' (bxp x.1.at_ (.slice A x.1.d.length c)))
   have q1:=Grew.cell (cell_al d1' (bxp x.1.at_ (.slice A x.1.d.length c)))
   have bn:=Blk.new wr 134 #[.int .i64 x.1.at_, .slice A x.1.d.length c]
   have q2:=Grew.cell (w:=wr.alloc (bxp x.1.at_ (.slice A x.1.d.length c))) (a:=⟨wr.heap.size,0,none⟩) (bn.cell 0)
   have q3:=Grew.cell (w:=wr.alloc (bxp x.1.at_ (.slice A x.1.d.length c))) (a:=⟨wr.heap.size,1,none⟩) (bn.cell 1)
   have Hx:=hI hx
   have Hk2:=hI hk2
   have Hxv:=hI hxv
   have Hfk:=hI fk
   have HfW:=hI fW
   clear hx hk2 hxv hb fW fk bn hnc
   have hc1:∀ p:Grew (wr.alloc (bxp x.1.at_ (.slice A x.1.d.length c))),Calls Tryz.prog 131 #[agp x.1.at_ (.slice A x.1.d.length c), .pointer (some ⟨pb,0,none⟩)] p.W fun e w''=>e = .returned (.bool ((longer pa ln') x.1))∧∃ q:Grew (wr.alloc (bxp x.1.at_ (.slice A x.1.d.length c))),w''=q.W:=fun p=>grew_call (p1_any x.1.at_ pa A B x.1.d.length c ln' c' pb _ (q0 p) (q1 p))
   generalize hbb:bestV (longer pa ln') (fun _ _=>false) (L.map (·.1)) k=bb at *
   have Hc1:=hI hc1
   clear hc1 hxx
   have HS:=hI hsucc
   clear hsucc hbb
   obtain⟨hb0,hb1⟩:=hbd
   cases hi:(longer pa ln') x.1
   ·rw [hi] at Hc1 HS
    clear hi
    go_upto_region 5 with fail
    refine wp_region_grew (by kernel_rfl) (by kernel_rfl) ?_
    repeat (go_big_quiet_step ((go_at_call 131;exact Hc1.out _)))
    refine wpQuiet_nil ?_
    intro W1 f1
    go_wp2_with fail
    go_roundw
    case rel=>
     have e:=HS.out
     simp at e
     exact⟨k+1,by omega,by go_num,by rw [e],Hfk.out.trans (HfW.out.trans f1 (by simp)) (by simp)⟩
    case measure=>simp [intOf];omega
   ·rw [hi] at Hc1 HS
    clear hi
    by_cases hb2:bb<0
    ·have e2:decide (bb<0)=true:=by simpa using hb2
     rw [e2] at HS
     go_upto_region 5 with fail
     refine wp_region_grew (by kernel_rfl) (by kernel_rfl) ?_
     repeat (go_big_quiet_step ((go_at_call 131;exact Hc1.out _)))
     refine wpQuiet_nil ?_
     intro W1 f1
     go_wp2_with fail
     go_roundw
     case rel=>
      have e:=HS.out
      simp at e
      exact⟨k+1,by omega,by go_num,by rw [e],Hfk.out.trans (HfW.out.trans f1 (by simp)) (by simp)⟩
     case measure=>simp [intOf];omega
    ·have e2:decide (bb<0)=false:=by simpa using hb2
     have hb3:0≤bb:=by omega
     have hb4:bb.toNat<L.length:=by omega
     have hb5:bb<(L.length:Int):=by omega
     obtain⟨_,_,y,hv,hy,c2,c3,hby⟩:=Hk2.out.at_ hb4
     injection hv with hv _ _
     injection hv with hv
     injection hv with hv _ _
     subst hv
     rw [e2] at HS
     skip
     obtain⟨A2,c4,hyv,_,_⟩:=hby.form
     rw [hyv] at c3
     have q4:=Grew.cell (cell_al c2 (bxp x.1.at_ (.slice A x.1.d.length c)))
     have q5:=Grew.cell (cell_al c3 (bxp x.1.at_ (.slice A x.1.d.length c)))
     have Hy:=hI hy
     have Hyv:=hI hyv
     clear hy hyv hby
     have hc2:∀ p:Grew (wr.alloc (bxp x.1.at_ (.slice A x.1.d.length c))),Calls Tryz.prog 132 #[agp x.1.at_ (.slice A x.1.d.length c),agp y.1.at_ (.slice A2 y.1.d.length c4)] p.W fun e w''=>e = .returned (.bool ((fun _ _=>false) x.1 y.1))∧∃ q:Grew (wr.alloc (bxp x.1.at_ (.slice A x.1.d.length c))),w''=q.W:=fun p=>grew_call (p2_any _ _ _ _ _ _ _ _ _)
     have Hc2:=hI hc2
     clear hc2
     clear hb2
     go_upto_region 5 with fail
     refine wp_region_grew (by kernel_rfl) (by kernel_rfl) ?_
     repeat (go_big_quiet_step (first|(go_at_call 131;exact Hc1.out _)|(go_at_call 132;exact Hc2.out _)))
     refine wpQuiet_nil ?_
     intro W1 f1
     go_wp2_with fail
     go_roundw
     case rel=>
      have e:=HS.out
      simp at e
      exact⟨k+1,by omega,by go_num,by rw [e],Hfk.out.trans (HfW.out.trans f1 (by simp)) (by simp)⟩
     case measure=>simp [intOf];omega
  ·obtain rfl:L.length=k:=by omega
   go_wp2_with fail
   go_ret
   exact⟨rfl,fk⟩
end Go.Proofs.YtmgdbbbdhkfdmaaGreat
namespace Go.Proofs.YtmgdbbbdhkfdmaaGreat
set_option maxRecDepth 100000
open Go.RowKit Go.Deep
def IdxPost(w:World)(p:Pc→Bool)(l:List Pc)(e:Ending)(w':World):Prop:=∃ r:Int,e = .returned (.int .i64 r)∧decide (0≤r)=l.any p∧Fr [] w w'
theorem any_take(p:Pc→Bool)(l:List Pc)(k:Nat)(x:Pc)(h:l[k]?=some x):(l.take (k+1)).any p=((l.take k).any p || p x):=by
 rw [List.take_add_one,h];simp
theorem index_end(S:Nat→Prop)(w:World)(ab:Nat)(a:Int)(d0:w.cell? ⟨ab,0,none⟩=some (.int .i64 a))(kv:Value)(L:List (Pc × Value))(h:Kp 134 S w kv L)(hl:L.length≤64)
  (hpc:∀ x∈L,0≤x.1.at_∧x.1.at_≤4611686018427387904∧1≤x.1.d.length∧x.1.d.length≤64) :
  Calls Tryz.prog 139 #[kv, .func (.func 126) #[] #[.pointer (some ⟨ab,0,none⟩)]] w (IdxPost w (over a) (L.map (·.1))):=by
 obtain⟨KA,KC,rfl,hKn,hKc⟩:=h.form
 have K:=hI h
 have HPC:=hI hpc
 clear h hpc
 go_enter Tryz.func139,Tryz.ntmps139
 go_wp2
 go_loopw [8] (fun s8 wr=>∃ k:Nat,k≤L.length∧s8 = .int .i64 k∧((L.map (·.1)).take k).any (over a)=false∧Fr [] w wr) (fun s8 _=>L.length - (intOf s8).toNat)
 case atStart=>exact⟨0,by omega,rfl,rfl,Fr.refl _ _⟩
 case round=>
  obtain⟨k,hk,rfl,hany,fk⟩:=hrel
  have HA:=hI hany
  clear hany
  by_cases hlt:k<L.length
  ·obtain⟨b,_,x,hv,hx,c0,c1,hby⟩:=(K.out.fr fk (by simp) (by simp)).at_ hlt
   injection hv with hv _ hc
   subst hv hc
   obtain⟨A,c,hxv,_,_⟩:=hby.form
   rw [hxv] at c1
   have hp:=HPC.out x (List.mem_of_getElem? hx)
   have hg:(L.map (·.1))[k]?=some x.1:=by simp [hx]
   have hcall:=e1_any x.1.at_ a A x.1.d.length c ab wr (fr_cell fk d0) hp.1 (by omega) (by omega)
   have hov:decide (a<x.1.at_+(x.1.d.length:Int))=over a x.1:=rfl
   rw [hov] at hcall
   have HC:=hI hcall
   have HG:=hI hg
   have Fk:=hI fk
   clear hcall hov hg hx hxv hby fk hp
   cases ho:over a x.1
   ·rw [ho] at HC
    have HO:=hI ho
    clear ho
    go_wp2_with fail
    refine HC.out.mono ?_
    rintro e w1 ⟨rfl,f1⟩
    go_wp2_with fail
    go_roundw
    case rel=>exact⟨k+1,by omega,by go_num,by rw [any_take _ _ _ _ HG.out,HA.out,HO.out];rfl,Fk.out.trans f1 (by simp)⟩
    case measure=>simp [intOf];omega
   ·rw [ho] at HC
    have HO:=hI ho
    clear ho
    go_wp2_with fail
    refine HC.out.mono ?_
    rintro e w1 ⟨rfl,f1⟩
    go_wp2_with fail
    go_ret
    refine⟨k,rfl,?_,Fk.out.trans f1 (by simp)⟩
    have h1:(L.map (·.1)).any (over a)=true:=List.any_eq_true.2 ⟨x.1,List.mem_of_getElem? HG.out,HO.out⟩
    rw [h1]
    simp
  ·obtain rfl:L.length=k:=by omega
   go_wp2_with fail
   go_ret
   refine⟨-1,rfl,?_,fk⟩
   have:=HA.out
   rw [List.take_of_length_le (by simp)] at this
   rw [this]
   rfl
theorem contains_end(S:Nat→Prop)(w:World)(ab:Nat)(a:Int)(d0:w.cell? ⟨ab,0,none⟩=some (.int .i64 a))(kv:Value)(L:List (Pc × Value))(h:Kp 134 S w kv L)(hl:L.length≤64)
  (hpc:∀ x∈L,0≤x.1.at_∧x.1.at_≤4611686018427387904∧1≤x.1.d.length∧x.1.d.length≤64) :
  Calls Tryz.prog 125 #[kv, .func (.func 126) #[] #[.pointer (some ⟨ab,0,none⟩)]] w fun e w'=>e = .returned (.bool ((L.map (·.1)).any (over a)))∧Fr [] w w':=by
 have hi:=index_end S w ab a d0 kv L h hl hpc
 have HI:=hI hi
 obtain⟨KA,KC,rfl,_,_⟩:=h.form
 clear hi h hpc d0
 go_enter Tryz.func125,Tryz.ntmps125
 go_wp2_with fail
 refine HI.out.mono ?_
 rintro e w1 ⟨r,rfl,hr,f1⟩
 have HR:=hI hr
 clear hr
 go_wp2_with fail
 go_ret
 exact⟨retb_eq HR.out,f1⟩
def EndPost(S:Nat→Prop)(w:World)(g:Nat)(kv:Value)(h':Hp)(err:Int)(e:Ending)(w':World):Prop:=
 ∃ S',e = .returned (.int .i64 err)∧Ext w S S'∧HP S' w' g kv h'∧Fr [g] w w'
theorem end_same{S:Nat→Prop}{w w':World}{g:Nat}{kv:Value}{h:Hp}(m:HP S w g kv h)(f:Fr [] w w')(err:Int):EndPost S w g kv h err (.returned (.int .i64 err)) w':=by
 obtain⟨ev,L,m⟩:=m
 exact⟨S,rfl,Ext.refl _ _,⟨ev,L,m.fr f (by simp) (by simp) (by simp)⟩,f.mono (by simp)⟩
theorem end_set{S:Nat→Prop}{w W:World}{g b:Nat}{kv ev:Value}{h:Hp}{L:List (Pc × Value)}{a:Int}(m:HPx S w g kv ev h L)(f:Fr [] w W)(hb:W.cell? ⟨b,0,none⟩=some (.int .i64 a))(hn:w.heap.size≤b)(hg:b≠g)(hk:kv.ownBlock≠some b) :
  EndPost S w g kv { h with fin:=some a } 0 (.returned (.int .i64 0)) (W.setCell ⟨g,3,none⟩ (ptr b)):=by
 have m1:=m.fr f (by simp) (by simp) (by simp)
 have f2:=(Fr.refl [g] W).setCell (p:=⟨g,3,none⟩) (.inl (by simp)) (ptr b)
 have hO:∀ x∈[g],¬ S x:=by intro x hx;simp at hx;subst hx;exact m.offg
 have hlt:=World.block_lt_of_cell? W _ hb
 dsimp only at hlt
 refine⟨fun x=>S x∨x=b,rfl,⟨fun x h => .inl h,fun x h=>h.imp id (fun e=>by omega)⟩,⟨ptr b,L,?_,?_,m.kept,?_,?_,?_,?_⟩,(f.mono (by simp)).trans f2 (fun x hx => .inl hx)⟩
 ·simpa using m1.blk.set_ 3 (ptr b)
 ·exact (m1.kp.fr f2 hO (fun b hb'=>by simp;rintro rfl;exact own_ne m1.kp.own m1.blk (by decide) hb')).mono fun x h => .inl h
 ·refine .inr ⟨a,b,rfl,rfl, .inr rfl,?_⟩
  rw [f2.cell (p:=⟨b,0,none⟩) hlt (by simpa using hg)]
  exact hb
 ·intro x hx
  rcases hx with h1|rfl
  ·exact Nat.lt_of_lt_of_le (m1.pub x h1) f2.size
  ·exact Nat.lt_of_lt_of_le hlt f2.size
 ·rintro (h1|h1)
  ·exact m.offg h1
  ·exact hg h1.symm
 ·rintro x hx (h1|h1)
  ·exact m.offk x hx h1
  ·exact hk (h1▸hx)
set_option maxHeartbeats 1000000 in
theorem end_arg{S:Nat→Prop}{w:World}{g:Nat}{kv:Value}{h:Hp}(m:HP S w g kv h)(a:Int)(ha:a<0∨4611686018427387904<a) :
  Calls Tryz.prog 116 #[ptr g, .int .i64 a] w (EndPost S w g kv h 2):=by
 have M:=hI m
 obtain⟨ev,L,m⟩:=m
 have c4:=m.cells.2.2.2.2
 have hg:=m.blk.lt
 clear m
 have q4:=cell_al c4 (.cells #[.int .i64 a] 2)
 by_cases h0:a<0
 ·go_enter Tryz.func116,Tryz.ntmps116
  go_wp2_with (go_at_call 86;refine (none_hp q4).mono ?_;rintro e w' ⟨rfl,rfl⟩)
  go_ret
  exact end_same M.out ((Fr.refl _ _).alloc _) 2
 ·have h1:4611686018427387904<a:=by omega
  clear ha
  go_enter Tryz.func116,Tryz.ntmps116
  go_wp2_with (go_at_call 86;refine (none_hp q4).mono ?_;rintro e w' ⟨rfl,rfl⟩)
  go_ret
  exact end_same M.out ((Fr.refl _ _).alloc _) 2
set_option maxRecDepth 100000 in
set_option maxHeartbeats 2000000 in
theorem end_go{S:Nat→Prop}{w:World}{g:Nat}{kv:Value}{h:Hp}(m:HP S w g kv h)(hi:Inv h)(a:Int)(ha:0≤a)(ha2:a≤4611686018427387904) :
  Calls Tryz.prog 116 #[ptr g, .int .i64 a] w (EndPost S w g kv (if (other h.fin a || decide (a<h.next) || h.kept.any (over a))=true then h else { h with fin:=some a }) (if (other h.fin a || decide (a<h.next) || h.kept.any (over a))=true then 250 else 0)):=by
 have M:=hI m
 obtain⟨ev,L,m⟩:=m
 obtain⟨c0,c1,c2,c3,c4⟩:=m.cells
 have hg:=m.blk.lt
 have M0:=hI m
 have hL:L.length≤64:=by have h1:=hi.len;have h2:=hi.m1;rw [m.len] at h1;omega
 have hpc:∀ x∈L,0≤x.1.at_∧x.1.at_≤4611686018427387904∧1≤x.1.d.length∧x.1.d.length≤64:=fun x hx=>hi.pc x.1 (by rw [m.kept];exact List.mem_map.2 ⟨x,hx,rfl⟩)
 have q4:=cell_al c4 (.cells #[.int .i64 a] 2)
 have bn:=Blk.new w 2 #[.int .i64 a]
 have bn0:(w.alloc (.cells #[.int .i64 a] 2)).cell? ⟨w.heap.size,0,none⟩=some (.int .i64 a):=bn.cell 0
 have fa:Fr [] w (w.alloc (.cells #[.int .i64 a] 2)):=(Fr.refl _ _).alloc _
 have hco:=fun p:Grew (w.alloc (.cells #[.int .i64 a] 2))=>grew_call (contains_end S p.W w.heap.size a (Grew.cell bn0 p) kv L ((m.kp.fr fa (by simp) (by simp)).fr p.fr (by simp) (by simp)) hL hpc)
 rw [← m.kept] at hco
 have HCO:=hI hco
 have x0:=Grew.cell bn0
 have x1:=Grew.cell (cell_al c1 (.cells #[.int .i64 a] 2))
 have x2:=Grew.cell (cell_al c2 (.cells #[.int .i64 a] 2))
 have x3:=Grew.cell (cell_al c3 (.cells #[.int .i64 a] 2))
 have BN:=hI bn
 have FA:=hI fa
 have hfin:=m.fin
 clear hco bn fa m c0 c1 c2 c3 c4 hi hpc
 generalize h.kept.any (over a)=q at *
 go_enter Tryz.func116,Tryz.ntmps116
 go_upto_region 5 with (go_at_call 86;refine (none_hp q4).mono ?_;rintro e w' ⟨rfl,rfl⟩)
 go_cut [15] (fun s15 wx=>s15 = .bool (other h.fin a || decide (a<h.next) || q)∧Fr [] (w.alloc (.cells #[.int .i64 a] 2)) wx)
 case first=>
  rcases hfin with ⟨e1,rfl⟩|⟨fa,fb,e1,rfl,e3,e4⟩
  ·have e5:other h.fin a=false:=by unfold other;rw [e1]
   have E5:=hI e5
   clear e1 e5
   by_cases hlt:a<h.next
   ·have hd:decide (a<h.next)=true:=by simpa using hlt
    refine wp_region_grew (by kernel_rfl) (by kernel_rfl) ?_
    repeat (go_big_quiet_step ((go_at_call 125;exact HCO.out _)))
    refine wpQuiet_nil ?_
    intro W1 f1
    go_wp2_with fail
    go_meet
    exact⟨by rw [E5.out];simp [*],f1⟩
   ·have hd:decide (a<h.next)=false:=by simpa using hlt
    refine wp_region_grew (by kernel_rfl) (by kernel_rfl) ?_
    repeat (go_big_quiet_step ((go_at_call 125;exact HCO.out _)))
    refine wpQuiet_nil ?_
    intro W1 f1
    go_wp2_with fail
    go_meet
    exact⟨by rw [E5.out];simp [*],f1⟩
  ·have e5:other h.fin a=!(fa == a):=by unfold other;rw [e1]
   have E5:=hI e5
   have x4:=Grew.cell (cell_al e4 (.cells #[.int .i64 a] 2))
   clear e1 e5 e4
   cases hfa:(fa == a)
   ·have hfb:(fa != a)=true:=by simp [bne,hfa]
    refine wp_region_grew (by kernel_rfl) (by kernel_rfl) ?_
    repeat (go_big_quiet_step ((go_at_call 125;exact HCO.out _)))
    refine wpQuiet_nil ?_
    intro W1 f1
    go_wp2_with fail
    go_meet
    exact⟨by rw [E5.out];simp [*],f1⟩
   ·have hfb:(fa != a)=false:=by simp [bne,hfa]
    by_cases hlt:a<h.next
    ·have hd:decide (a<h.next)=true:=by simpa using hlt
     refine wp_region_grew (by kernel_rfl) (by kernel_rfl) ?_
     repeat (go_big_quiet_step ((go_at_call 125;exact HCO.out _)))
     refine wpQuiet_nil ?_
     intro W1 f1
     go_wp2_with fail
     go_meet
     exact⟨by rw [E5.out];simp [*],f1⟩
    ·have hd:decide (a<h.next)=false:=by simpa using hlt
     refine wp_region_grew (by kernel_rfl) (by kernel_rfl) ?_
     repeat (go_big_quiet_step ((go_at_call 125;exact HCO.out _)))
     refine wpQuiet_nil ?_
     intro W1 f1
     go_wp2_with fail
     go_meet
     exact⟨by rw [E5.out];simp [*],f1⟩
 case rest=>
  obtain⟨rfl,f1⟩:=hcut
  generalize wc=W1 at *
  have b1:=BN.out.fr f1 (by simp)
  have m1:=M0.out.fr (FA.out.trans f1 (by simp)) (by simp) (by simp) (by simp)
  have y0:=m1.cells.2.2.2.1
  have y1:=m1.blk.frozen 3
  have y2:=m1.blk.lt
  have B1:=hI b1
  have F1:=hI f1
  clear b1 m1 f1 x0 x1 x2 x3 hfin
  generalize (other h.fin a || decide (a<h.next) || q)=z at *
  cases z
  ·go_wp2_with fail
   go_ret
   exact end_set M0.out (FA.out.trans F1.out (by simp)) (B1.out.cell 0) (Nat.le_refl _) (by have:=M0.out.blk.lt;omega) (fun hk=>by have:=own_lt M0.out.kp.own hk;omega)
  ·go_wp2_with fail
   go_ret
   exact end_same M.out (FA.out.trans F1.out (by simp)) 250
theorem end_any{S:Nat→Prop}{w:World}{g:Nat}{kv:Value}{h:Hp}(m:HP S w g kv h)(hi:Inv h)(a:Int):Calls Tryz.prog 116 #[ptr g, .int .i64 a] w (EndPost S w g kv (endV h a).1 (endV h a).2):=by
 unfold endV
 by_cases h0:a<0∨4611686018427387904<a
 ·rw [if_pos h0]
  exact end_arg m a h0
 ·rw [if_neg h0]
  have:=end_go m hi a (by omega) (by omega)
  split
  ·rename_i h1
   rwa [if_pos h1,if_pos h1] at this
  ·rename_i h1
   rwa [if_neg h1,if_neg h1] at this
theorem held_hp{S:Nat→Prop}{g:Nat}{kv:Value}{h:Hp}{w:World}(m:HP S w g kv h)(hi:Inv h):Calls Tryz.prog 97 #[ptr g] w fun e w'=>e = .returned (.int .i64 (sumV h.kept))∧Fr [] w w':=by
 obtain⟨ev,L,m⟩:=m
 obtain⟨c0,c1,c2,c3,c4⟩:=m.cells
 have hL:L.length≤64:=by have h1:=hi.len;have h2:=hi.m1;rw [m.len] at h1;omega
 have hb:∀ k,0≤sumV ((L.map (·.1)).take k)∧sumV ((L.map (·.1)).take k)≤4096:=fun k=>by
  have h1:=sum_bd ((L.map (·.1)).take k) (fun p hp=>(hi.pc p (by rw [m.kept];exact List.mem_of_mem_take hp)).2.2.2)
  have h2:((L.map (·.1)).take k).length≤64:=by simp;omega
  omega
 have hpc:∀ x∈L,x.1.d.length≤64:=fun x hx=>(hi.pc x.1 (by rw [m.kept];exact List.mem_map.2 ⟨x,hx,rfl⟩)).2.2.2
 have K:=hI m.kp
 have HB:=hI hb
 have HPC:=hI hpc
 rw [m.kept]
 obtain⟨KA,KC,rfl,hKn,hKc⟩:=m.kp.form
 clear hb m hpc hi
 go_enter Tryz.func97,Tryz.ntmps97
 go_wp2_with (go_at_call 86;refine (none_hp c4).mono ?_;rintro e w' ⟨rfl,rfl⟩)
 go_loopw [3,13] (fun s3 s13 wr=>∃ k:Nat,k≤L.length∧s13 = .int .i64 k∧s3 = .int .i64 (sumV ((L.map (·.1)).take k))∧Fr [] w wr) (fun _ s13 _=>L.length - (intOf s13).toNat)
 case atStart=>exact⟨0,by omega,rfl,rfl,Fr.refl _ _⟩
 case round=>
  obtain⟨k,hk,rfl,rfl,fk⟩:=hrel
  obtain⟨hb0,hb1⟩:=HB.out k
  by_cases hlt:k<L.length
  ·obtain⟨b,_,x,hv,hx,d0,d1,hby⟩:=(K.out.fr fk (by simp) (by simp)).at_ hlt
   injection hv with hv _ _
   subst hv
   obtain⟨A,c,hxv,_,_⟩:=hby.form
   rw [hxv] at d1
   have hlb:=World.block_lt_of_cell? wr _ d0
   dsimp only at hlb
   have hx64:=HPC.out x (List.mem_of_getElem? hx)
   have hs:sumV ((L.map (·.1)).take (k+1))=sumV ((L.map (·.1)).take k)+x.1.d.length:=by
    rw [List.take_add_one]
    have:(L.map (·.1))[k]?=some x.1:=by simp [hx]
    rw [this]
    exact sum_snoc _ _
   have HS:=hI hs
   clear hs hx hxv hby
   generalize sumV ((L.map (·.1)).take k)=sm at *
   go_wp2
   go_roundw
   case rel=>exact⟨k+1,by omega,by go_num,by rw [HS.out],fk.alloc _⟩
   case measure=>simp [intOf];omega
  ·obtain rfl:L.length=k:=by omega
   go_wp2
   go_ret
   exact⟨ret1_eq (by rw [List.take_of_length_le (by simp)]),fk⟩
structure Hd where
 g:Nat
 gw:Nat
 gc:Nat
 gh:Nat
 bv:Value
 uv:Value
 kv:Value
abbrev arS(x:St)(H:Hd):Array Value:=#[.int .i64 x.at_, .bool x.broken, .int .u32 x.peer, .int .i64 0, .int .i64 0, .int .i64 0, .int .i64 0, .int .i64 x.all.length, .int .i64 0, .int .i64 0, .int .i64 0, .bool x.closing, .bool x.ended,
 .int .u32 x.isn,H.bv,H.uv,ptr H.gw,ptr H.gc,ptr H.gh, .bool x.fin, .bool x.acked, .int .i64 x.now, .int .i64 x.timed, .int .i64 x.since, .int .i64 x.shown]
def bufV(x:St):List Int:=x.all.drop x.win.a.toNat
structure SI(S:Nat→Prop)(w:World)(H:Hd)(x:St):Prop where
 blk:Blk w H.g 74 (arS x H)
 win:Win.Win w H.gw x.win true
 clk:Rto.Clk w H.gc x.clk
 hp:HP S w H.gh H.kv x.heap
 buf:w.ownsRow 0 5 1 H.bv (bufV x).length (byts (bufV x))
 unr:w.ownsRow 0 5 1 H.uv x.unread.length (byts x.unread)
 nS:∀ y,(y=H.g∨y=H.gw∨y=H.gc∨y∈ob H.bv∨y∈ob H.uv)→¬ S y
 bu:∀ y∈ob H.bv,y∉ob H.uv
def Hd.own(H:Hd):List Nat:=H.g::H.gw::H.gc::H.gh::(ob H.kv++(ob H.bv++ob H.uv))
theorem ext_up{w w':World}{S S':Nat→Prop}(h:Ext w' S S')(hz:w.heap.size≤w'.heap.size):Ext w S S':=⟨h.1,fun b hb=>(h.2 b hb).imp id (fun h=>by omega)⟩
section
variable {S S':Nat→Prop} {w w':World} {H:Hd} {x x':St}
theorem SI.lt(m:SI S w H x):∀ y∈H.own,y<w.heap.size:=by
 intro y hy
 have hk:∀ y∈ob H.kv,y<w.heap.size:=fun y hy=>by
  obtain⟨ev,L,m⟩:=m.hp
  exact own_lt m.kp.own (mem_ob.1 hy)
 have hg:H.gh<w.heap.size:=by
  obtain⟨ev,L,m⟩:=m.hp
  exact m.blk.lt
 simp only [Hd.own,List.mem_cons,List.mem_append] at hy
 rcases hy with rfl|rfl|rfl|rfl|hy|hy|hy
 ·exact m.blk.lt
 ·exact Blk.lt m.win
 ·exact Blk.lt m.clk
 ·exact hg
 ·exact hk y hy
 ·exact own_lt m.buf (mem_ob.1 hy)
 ·exact own_lt m.unr (mem_ob.1 hy)
theorem HP.off'{g:Nat}{kv:Value}{h:Hp}(m:HP S w g kv h):∀ y∈g::ob kv,¬ S y:=fun y hy=>by
 obtain⟨ev,L,m⟩:=m
 rcases List.mem_cons.1 hy with rfl|hy
 ·exact m.offg
 ·exact m.offk y (mem_ob.1 hy)
theorem SI.off(m:SI S w H x):∀ y∈H.own,¬ S y:=by
 intro y hy
 have hk:=HP.off' m.hp
 simp only [Hd.own,List.mem_cons,List.mem_append] at hy
 rcases hy with h|h|h|h|h|h|h
 ·exact m.nS y (.inl h)
 ·exact m.nS y (.inr (.inl h))
 ·exact m.nS y (.inr (.inr (.inl h)))
 ·exact hk y (by simp [h])
 ·exact hk y (List.mem_cons_of_mem _ h)
 ·exact m.nS y (.inr (.inr (.inr (.inl h))))
 ·exact m.nS y (.inr (.inr (.inr (.inr h))))
theorem HP.pub'{g:Nat}{kv:Value}{h:Hp}(m:HP S w g kv h):∀ b,S b→b<w.heap.size:=by
 obtain⟨ev,L,m⟩:=m
 exact m.pub
theorem HP.ext'{g:Nat}{kv:Value}{h:Hp}{O:List Nat}(m:HP S w g kv h)(f:Fr O w w')(x:Ext w S S')(hO:∀ y∈O,¬ S y)(hg:∀ y∈g::ob kv,y∉O)(hp:∀ b,S' b→b<w'.heap.size):HP S' w' g kv h:=by
 obtain⟨ev,L,m⟩:=m
 exact⟨ev,L,m.ext f x hO (hg g (by simp)) (fun b hb=>hg b (List.mem_cons_of_mem _ (mem_ob.2 hb))) hp⟩
theorem SI.ext(m:SI S w H x)(f:Fr [] w w')(e:Ext w S S')(hp:∀ b,S' b→b<w'.heap.size):SI S' w' H x:=
 ⟨m.blk.fr f (by simp),Blk.fr m.win f (by simp),Blk.fr m.clk f (by simp),m.hp.ext' f e (by simp) (by simp) hp,own_fr m.buf f (by simp),own_fr m.unr f (by simp),
  fun y hy hs=>by
   rcases e.2 y hs with h|h
   ·exact m.nS y hy h
   ·have:y<w.heap.size:=m.lt y (by
     simp only [Hd.own,List.mem_cons,List.mem_append]
     rcases hy with h|h|h|h|h <;> simp [h])
    omega,m.bu⟩
theorem SI.fr(m:SI S w H x)(f:Fr [] w w'):SI S w' H x:=m.ext f (Ext.refl w S) (fun b hb=>Nat.lt_of_lt_of_le (HP.pub' m.hp b hb) f.size)
theorem SI.ne_w(m:SI S w H x):H.gw≠H.g:=blk_ne m.win m.blk (by decide)
theorem SI.ne_c(m:SI S w H x):H.gc≠H.g:=blk_ne m.clk m.blk (by decide)
theorem SI.ne_h(m:SI S w H x):∀ y∈H.gh::ob H.kv,y≠H.g:=by
 obtain⟨ev,L,n⟩:=m.hp
 intro y hy
 rcases List.mem_cons.1 hy with rfl|hy
 ·exact blk_ne n.blk m.blk (by decide)
 ·rintro rfl;exact own_ne n.kp.own m.blk (by decide) (mem_ob.1 hy)
theorem SI.ne_b(m:SI S w H x):∀ y∈ob H.bv,y≠H.g:=fun y hy=>by rintro rfl;exact own_ne m.buf m.blk (by decide) (mem_ob.1 hy)
theorem SI.ne_u(m:SI S w H x):∀ y∈ob H.uv,y≠H.g:=fun y hy=>by rintro rfl;exact own_ne m.unr m.blk (by decide) (mem_ob.1 hy)
theorem SI.set(m:SI S w H x)(f:Fr [H.g] w w')(B:Blk w' H.g 74 (arS x' H))(e1:x'.win=x.win)(e2:x'.clk=x.clk)(e3:x'.heap=x.heap)(e4:x'.all=x.all)(e5:x'.unread=x.unread):SI S w' H x':=by
 have hO:∀ y∈[H.g],¬ S y:=fun y hy=>by simp at hy;subst hy;exact m.nS _ (.inl rfl)
 have hb:bufV x'=bufV x:=by unfold bufV;rw [e1,e4]
 refine⟨B,by rw [e1];exact Blk.fr m.win f (by simpa using m.ne_w),by rw [e2];exact Blk.fr m.clk f (by simpa using m.ne_c),?_,?_,?_,m.nS,m.bu⟩
 ·rw [e3]
  exact m.hp.ext' f (Ext.refl w S) hO (fun y hy=>by simpa using m.ne_h y hy) (fun b hb=>Nat.lt_of_lt_of_le (HP.pub' m.hp b hb) f.size)
 ·rw [hb]
  exact own_fr m.buf f (fun b hb=>by simpa using m.ne_b b (mem_ob.2 hb))
 ·rw [e5]
  exact own_fr m.unr f (fun b hb=>by simpa using m.ne_u b (mem_ob.2 hb))
end
structure SCells(w:World)(H:Hd)(x:St):Prop where
 c0:w.cell? ⟨H.g,0,none⟩=some (.int .i64 x.at_)
 c1:w.cell? ⟨H.g,1,none⟩=some (.bool x.broken)
 c2:w.cell? ⟨H.g,2,none⟩=some (.int .u32 x.peer)
 c7:w.cell? ⟨H.g,7,none⟩=some (.int .i64 x.all.length)
 c11:w.cell? ⟨H.g,11,none⟩=some (.bool x.closing)
 c12:w.cell? ⟨H.g,12,none⟩=some (.bool x.ended)
 c13:w.cell? ⟨H.g,13,none⟩=some (.int .u32 x.isn)
 c14:w.cell? ⟨H.g,14,none⟩=some H.bv
 c15:w.cell? ⟨H.g,15,none⟩=some H.uv
 c16:w.cell? ⟨H.g,16,none⟩=some (ptr H.gw)
 c17:w.cell? ⟨H.g,17,none⟩=some (ptr H.gc)
 c18:w.cell? ⟨H.g,18,none⟩=some (ptr H.gh)
 c19:w.cell? ⟨H.g,19,none⟩=some (.bool x.fin)
 c20:w.cell? ⟨H.g,20,none⟩=some (.bool x.acked)
 c21:w.cell? ⟨H.g,21,none⟩=some (.int .i64 x.now)
 c22:w.cell? ⟨H.g,22,none⟩=some (.int .i64 x.timed)
 c23:w.cell? ⟨H.g,23,none⟩=some (.int .i64 x.since)
 c24:w.cell? ⟨H.g,24,none⟩=some (.int .i64 x.shown)
theorem scells{w:World}{H:Hd}{x:St}(B:Blk w H.g 74 (arS x H)):SCells w H x:=
 ⟨B.cell 0,B.cell 1,B.cell 2,B.cell 7,B.cell 11,B.cell 12,B.cell 13,B.cell 14,B.cell 15,B.cell 16,B.cell 17,B.cell 18,B.cell 19,B.cell 20,B.cell 21,B.cell 22,B.cell 23,B.cell 24⟩
theorem snone_si(g gw:Nat)(w:World)(c:w.cell? ⟨g,16,none⟩=some (ptr gw)):Calls Tryz.prog 39 #[ptr g] w fun e w'=>e = .returned (.bool false)∧w=w':=by
 go_enter Tryz.func39,Tryz.ntmps39
 go_wp2
 go_ret
 exact⟨rfl,rfl⟩
theorem flag_any(b:Bool)(w:World):Calls Tryz.prog 80 #[.bool b] w fun e w'=>e = .returned (.int .i64 (one b))∧w=w':=by
 cases b
 all_goals
  go_enter Tryz.func80,Tryz.ntmps80
  go_wp2
  go_ret
  exact⟨rfl,rfl⟩
theorem wrap32(a:Int):IntKind.u32.wrap a=a % 4294967296:=by simp [IntKind.wrap,IntKind.signed,IntKind.bits]
theorem wrap16(a:Int):IntKind.u16.wrap a=a % 65536:=by simp [IntKind.wrap,IntKind.signed,IntKind.bits]
theorem wrap_add32(n m:Int):IntKind.u32.wrap (n+IntKind.u32.wrap m)=add32 n m:=by rw [wrap32,wrap32];unfold add32;omega
theorem one_bd(b:Bool):0≤one b∧one b≤1:=by cases b <;> simp [one]
set_option maxHeartbeats 2000000 in
theorem awaited_si{S:Nat→Prop}{w:World}{H:Hd}{x:St}(m:SI S w H x)(hi:Inv x.heap):Calls Tryz.prog 64 #[ptr H.g] w fun e w'=>e = .returned (.int .u32 (awaitedV x))∧Fr [] w w':=by
 have c:=scells m.blk
 have hn0:=hi.n0
 have hn1:=hi.n1
 have ho:=one_bd x.ended
 have h1:IntKind.i64.wrap (1+x.heap.next)=1+x.heap.next:=IntWalk.i64_in _ (by omega)
 have h2:IntKind.i64.wrap (1+x.heap.next+one x.ended)=1+x.heap.next+one x.ended:=IntWalk.i64_in _ (by omega)
 have h3:=wrap_add32 x.peer (1+x.heap.next+one x.ended)
 have y0:=Grew.cell c.c2
 have y1:=Grew.cell c.c18
 have y2:=Grew.cell c.c12
 have hN:∀ p:Grew w,Calls Tryz.prog 49 #[ptr H.gh] p.W fun e w'=>e = .returned (.int .i64 x.heap.next)∧∃ q:Grew w,w'=q.W:=fun p=>grew_same (next_hp (m.hp.ext' p.fr (Ext.refl w S) (by simp) (by simp) (fun b hb=>Nat.lt_of_lt_of_le (HP.pub' m.hp b hb) p.fr.size)))
 have hF:∀ p:Grew w,Calls Tryz.prog 80 #[.bool x.ended] p.W fun e w'=>e = .returned (.int .i64 (one x.ended))∧∃ q:Grew w,w'=q.W:=fun p=>grew_same (flag_any _ _)
 have HN:=hI hN
 have HF:=hI hF
 clear hN hF c m hn0 hn1 ho hi
 go_enter Tryz.func64,Tryz.ntmps64
 go_wp2_with fail
 refine wp_region_grew (by kernel_rfl) (by kernel_rfl) ?_
 repeat (go_big_quiet_step (first|(go_at_call 49;exact HN.out _)|(go_at_call 80;exact HF.out _)))
 refine wpQuiet_nil ?_
 intro W1 f1
 go_wp2_with fail
 go_ret
 exact⟨ret1_eq (by unfold awaitedV add32;omega),f1⟩
theorem sum_le(h:Hp)(hi:Inv h):0≤sumV h.kept∧sumV h.kept≤4096:=by
 have h1:=sum_bd h.kept (fun p hp=>(hi.pc p hp).2.2.2)
 have h2:=hi.len
 have h3:=hi.m1
 omega
set_option maxHeartbeats 2000000 in
theorem room_si{S:Nat→Prop}{w:World}{H:Hd}{x:St}(m:SI S w H x)(hi:Inv x.heap)(hu:x.unread.length≤100000):Calls Tryz.prog 58 #[ptr H.g] w fun e w'=>e = .returned (.int .i64 (roomV x))∧Fr [] w w':=by
 have c:=scells m.blk
 have hs:=sum_le x.heap hi
 obtain⟨uA,uc,hu1,_,_⟩:=own_form m.unr
 have h1:IntKind.i64.wrap ((x.unread.length:Int)+sumV x.heap.kept)=(x.unread.length:Int)+sumV x.heap.kept:=IntWalk.i64_in _ (by omega)
 have c15:=c.c15
 rw [hu1] at c15
 have hH:∀ W,Fr [] w W→Calls Tryz.prog 97 #[ptr H.gh] W _:=fun W f=>held_hp (m.hp.ext' f (Ext.refl w S) (by simp) (by simp) (fun b hb=>Nat.lt_of_lt_of_le (HP.pub' m.hp b hb) f.size)) hi
 have hO:∀ W,Calls Tryz.prog 96 #[.int .i64 1024, .int .i64 (min 1024 ((x.unread.length:Int)+sumV x.heap.kept))] W _:=fun W=>Win.offer_any _ _ W
 have hR:(Win.offerV 1024 (min 1024 ((x.unread.length:Int)+sumV x.heap.kept))).1=roomV x:=rfl
 generalize (Win.offerV 1024 (min 1024 ((x.unread.length:Int)+sumV x.heap.kept))).2=o2 at *
 rw [hR] at hO
 generalize roomV x=rv at *
 have HH:=hI hH
 have HO:=hI hO
 have c18:=c.c18
 have y0:=Grew.cell c15
 have y1:=Grew.cell c18
 have hH':∀ p:Grew w,Calls Tryz.prog 97 #[ptr H.gh] p.W fun e w'=>e = .returned (.int .i64 (sumV x.heap.kept))∧∃ q:Grew w,w'=q.W:=fun p=>grew_call (hH p.W p.fr)
 have hO':∀ p:Grew w,Calls Tryz.prog 96 #[.int .i64 1024, .int .i64 (min 1024 ((x.unread.length:Int)+sumV x.heap.kept))] p.W fun e w'=>e = .returned (.tuple #[.int .i64 rv, .int .i64 o2])∧∃ q:Grew w,w'=q.W:=fun p=>grew_same (hO p.W)
 have HH':=hI hH'
 have HO':=hI hO'
 clear hH hO hH' hO' hR c m hi hs hu1 c15 c18
 go_enter Tryz.func58,Tryz.ntmps58
 go_wp2_with fail
 refine wp_region_grew (by kernel_rfl) (by kernel_rfl) ?_
 repeat (go_big_quiet_step (first|(go_at_call 97;exact HH'.out _)|(go_at_call 96;exact HO'.out _)))
 refine wpQuiet_nil ?_
 intro W1 f1
 go_wp2_with fail
 go_ret
 exact⟨rfl,f1⟩
def finI(o:Option Int):Int:=match o with|none=>-1|some a=>a
abbrev agR(m n:Int)(kv:Value)(f:Int):Value := .agg #[.int .i64 m, .int .i64 n,kv, .int .i64 f]
abbrev arR(m n:Int)(kv:Value)(f:Int):Array Value:=#[.int .i64 m, .int .i64 n,kv, .int .i64 f]
theorem rnew(m:Int)(w:World):Calls Tryz.prog 25 #[.int .i64 m] w fun e w'=>e = .returned (agR m 0 (.slice none 0 0) (-1))∧Fr [] w w':=by
 go_enter Tryz.func25,Tryz.ntmps25
 go_wp2
 refine bodyPost_ret (v:=agR m 0 (.slice none 0 0) (-1)) (by simp [results,Tryz.results25,go_sem]) rfl ?_
 exact⟨rfl,(Fr.refl _ _).alloc _⟩
theorem cells4{w:World}{b:Nat}{t:TypeId}{v0 v1 v2 v3:Value}(h:Blk w b t #[v0,v1,v2,v3]):w.cell? ⟨b,0,none⟩=some v0∧w.cell? ⟨b,1,none⟩=some v1∧w.cell? ⟨b,2,none⟩=some v2∧w.cell? ⟨b,3,none⟩=some v3:=
 ⟨by simpa using h.cell 0,by simpa using h.cell 1,by simpa using h.cell 2,by simpa using h.cell 3⟩
def tnx(next:Int)(at_:Int)(k:Nat):Int:=if (k:Int)≤next - at_ then next else at_+k
def ToldRel(w:World)(m n f:Int)(kv:Value)(p:Pc)(dv:Value)(s6 s7:Value)(wr:World):Prop:=
 ∃(k:Nat) (A:Option Addr) (c:Nat),k≤p.d.length∧s7 = .int .i64 k∧s6 = .slice A ((p.d.take k).drop (n - p.at_).toNat).length c ∧
  wr.ownsRow 0 5 1 (.slice A ((p.d.take k).drop (n - p.at_).toNat).length c) ((p.d.take k).drop (n - p.at_).toNat).length (byts ((p.d.take k).drop (n - p.at_).toNat)) ∧
  (∀ b,(Value.slice A ((p.d.take k).drop (n - p.at_).toNat).length c).ownBlock=some b→w.heap.size≤b)∧Fr [] w wr ∧
  Blk wr w.heap.size 39 (arR m (tnx n p.at_ k) kv f)∧Blk wr (w.heap.size+1) 162 #[.int .i64 p.at_,dv]∧Blk wr (w.heap.size+2) 39 (arR 0 0 (.slice none 0 0) 0)
def ToldPost(w:World)(m n f:Int)(kv:Value)(p:Pc)(e:Ending)(w':World):Prop:=
 ∃ A c,e = .returned (.tuple #[agR m (takeV n p).2 kv f, .slice A (takeV n p).1.length c])∧w'.ownsRow 0 5 1 (.slice A (takeV n p).1.length c) (takeV n p).1.length (byts (takeV n p).1) ∧
  (∀ b,(Value.slice A (takeV n p).1.length c).ownBlock=some b→w.heap.size≤b)∧Fr [] w w'
theorem told_end(n:Int)(p:Pc)(h1:p.at_≤n):takeV n p=((p.d.take p.d.length).drop (n - p.at_).toNat,tnx n p.at_ p.d.length):=by
 unfold takeV tnx Pc.beh
 rw [List.take_length]
 by_cases h:p.at_+(p.d.length:Int)≤n
 ·rw [if_pos h,if_pos (by omega),List.drop_of_length_le (by omega)]
 ·rw [if_neg h,if_neg (by omega)]
theorem told_stay(n:Int)(p:Pc)(k:Nat)(h1:(k:Int)<n - p.at_):(p.d.take (k+1)).drop (n - p.at_).toNat=(p.d.take k).drop (n - p.at_).toNat∧tnx n p.at_ (k+1)=tnx n p.at_ k:=by
 constructor
 ·rw [List.drop_of_length_le (by rw [List.length_take];omega),List.drop_of_length_le (by rw [List.length_take];omega)]
 ·unfold tnx
  rw [if_pos (by omega),if_pos (by omega)]
theorem told_more(n:Int)(p:Pc)(k:Nat)(h0:p.at_≤n)(h1:n - p.at_≤(k:Int))(hk:k<p.d.length):(p.d.take (k+1)).drop (n - p.at_).toNat=(p.d.take k).drop (n - p.at_).toNat++[p.d.getD k 0]∧tnx n p.at_ (k+1)=p.at_+k+1∧tnx n p.at_ k=p.at_+k:=by
 refine⟨?_,?_,?_⟩
 ·rw [List.take_add_one,List.getElem?_eq_getElem hk,List.drop_append_of_le_length (by rw [List.length_take];omega)]
  simp [List.getD,List.getElem?_eq_getElem hk]
 ·unfold tnx
  rw [if_neg (by omega)]
  omega
 ·unfold tnx
  split <;> omega
set_option maxHeartbeats 2000000 in
theorem rtold(S:Nat→Prop)(w:World)(m n f:Int)(kv:Value)(p:Pc)(dv:Value)(hd:Byt S w dv p.d)(KA:Option Addr)(KL KC:Nat)(hkv:kv = .slice KA KL KC)(h0:0≤p.at_)(h1:p.at_≤n)(h2:n≤4611686018427387968)(h3:p.d.length≤64) :
  Calls Tryz.prog 144 #[agR m n kv f,agp p.at_ dv] w (ToldPost w m n f kv p):=by
 obtain⟨DA,DC,rfl,hdn,hdc⟩:=hd.form
 subst hkv
 have HD:=hI hd
 obtain⟨i0,hi0,hz0,hz1,hz2⟩:=info_parts info_u8
 have b0:=((Blk.new w 39 (arR m n (.slice KA KL KC) f)).alloc (.cells #[.int .i64 p.at_, .slice DA p.d.length DC] 162)).alloc (.cells (arR 0 0 (.slice none 0 0) 0) 39)
 have b1:=(Blk.new (w.alloc (.cells (arR m n (.slice KA KL KC) f) 39)) 162 #[.int .i64 p.at_, .slice DA p.d.length DC]).alloc (.cells (arR 0 0 (.slice none 0 0) 0) 39)
 have b2:=Blk.new ((w.alloc (.cells (arR m n (.slice KA KL KC) f) 39)).alloc (.cells #[.int .i64 p.at_, .slice DA p.d.length DC] 162)) 39 (arR 0 0 (.slice none 0 0) 0)
 have B0:=hI b0
 have B1:=hI b1
 have B2:=hI b2
 clear hd b0 b1 b2
 go_enter Tryz.func144,Tryz.ntmps144
 go_wp2
 go_loopw [6,7] (fun s6 s7 wr=>ToldRel w m n f (.slice KA KL KC) p (.slice DA p.d.length DC) s6 s7 wr) (fun _ s7 _=>p.d.length - (intOf s7).toNat)
 case atStart=>
  refine⟨0,none,0,by omega,rfl,by simp,by simpa [byts] using World.ownsRow_nil _ 0 5 1,by simp [Value.ownBlock],(((Fr.refl _ _).alloc _).alloc _).alloc _,?_,by simpa using B1.out,by simpa using B2.out⟩
  have:tnx n p.at_ 0=n:=by unfold tnx;rw [if_pos (by omega)]
  rw [this]
  exact B0.out
 case round=>
  obtain⟨k,A,c,hk,rfl,rfl,own,hown,fk,b0,b1,b2⟩:=hrel
  have hol:((p.d.take k).drop (n - p.at_).toNat).length≤64:=by simp;omega
  by_cases hlt:k<p.d.length
  ·have Hown:=hI hown
   have Fk:=hI fk
   have B1':=hI b1
   have B2':=hI b2
   by_cases hz:(k:Int)<n - p.at_
   ·obtain⟨e1,e2⟩:=told_stay n p k hz
    have hnx:tnx n p.at_ k=n:=by unfold tnx;rw [if_pos (by omega)]
    have E1:=hI e1
    have E2:=hI e2
    rw [hnx] at b0
    have B0':=hI b0
    have Own:=hI own
    have Hnx:=hI hnx
    obtain⟨c0,c1,c2,c3⟩:=cells4 b0
    have d0:wr.cell? ⟨w.heap.size+1,0,none⟩=some (.int .i64 p.at_):=b1.cell 0
    have d1:wr.cell? ⟨w.heap.size+1,1,none⟩=some (.slice DA p.d.length DC):=b1.cell 1
    have hne:(p.at_+(k:Int) == n)=false:=by simp;omega
    clear e1 e2 hnx own hown fk b0 b1 b2
    generalize hq:(p.d.take k).drop (n - p.at_).toNat=o at *
    have HQ:=hI hq
    clear hq
    go_wp2
    go_roundw
    case rel=>
     refine⟨k+1,A,c,by omega,by go_num,?_⟩
     rw [E1.out,E2.out,Hnx.out]
     exact⟨rfl,Own.out,Hown.out,Fk.out,B0'.out,B1'.out,B2'.out⟩
    case measure=>simp [intOf];omega
   ·obtain⟨e1,e2,e3⟩:=told_more n p k h1 (by omega) hlt
    have E1:=hI e1
    have E2:=hI e2
    rw [e3] at b0
    have B0':=hI b0
    have Own:=hI own
    obtain⟨c0,c1,c2,c3⟩:=cells4 b0
    have d0:wr.cell? ⟨w.heap.size+1,0,none⟩=some (.int .i64 p.at_):=b1.cell 0
    have d1:wr.cell? ⟨w.heap.size+1,1,none⟩=some (.slice DA p.d.length DC):=b1.cell 1
    obtain⟨db,dof,rfl,_,d2⟩:=(HD.out.fr fk (by simp)).at_ hlt
    have hl1:=b0.lt
    have hl2:=b1.lt
    have hl3:=World.block_lt_of_cell? wr _ d2
    dsimp only at hl3
    have f1:Fr [] wr (wr.alloc (.cells #[.int .u8 (p.d.getD k 0)] 5)):=(Fr.refl _ _).alloc _
    have hsrc:Sl (fun _=>True) (wr.alloc (.cells #[.int .u8 (p.d.getD k 0)] 5)) 1 (.slice (some ⟨wr.heap.size,0,none⟩) 1 1) 1 [.int .u8 (p.d.getD k 0)]:=Sl.of_own (World.ownsRow_lit (base:=0) (e:=5) (size:=1) wr #[.int .u8 (p.d.getD k 0)] 1 (Nat.zero_le _) (by unfold maxLen;omega) rfl) (fun _ _=>trivial)
    clear e1 e2 e3 own hown b0 b1 b2
    generalize hq:(p.d.take k).drop (n - p.at_).toNat=o at *
    have HQ:=hI hq
    obtain⟨N,hN⟩:∃ N,o.length+1=N:=⟨_,rfl⟩
    have hlm:o.length+1≤maxLen:=by unfold maxLen;omega
    have hlb:(o.length+1) * 1≤140737488355328:=by omega
    have HN:=hI hN
    have HLM:=hI hlm
    have HLB:=hI hlb
    have HS:=hI hsrc
    have F1:=hI f1
    clear hq hN hlm hlb hsrc f1 fk hz
    have hwk:IntKind.i64.wrap (p.at_+(k:Int))=p.at_+k:=IntWalk.i64_in _ (by omega)
    generalize p.d.getD k 0=by_ at *
    have afr:∀ w',Fr (ob (.slice A o.length c)) (wr.alloc (.cells #[.int .u8 by_] 5)) w'→Fr [] w w':=fun w' f=>(Fk.out.trans F1.out (by simp)).trans f (fun x hx => .inr (Hown.out x (mem_ob.1 hx)))
    have anob:∀ {t:TypeId} {cs:Array Value} {b:Nat},Blk wr b t cs→t≠5→b∉ob (.slice A o.length c):=fun hb hne hm=>own_ne Own.out hb (Ne.symm hne) (mem_ob.1 hm)
    have abx:∀ w',Fr (ob (.slice A o.length c)) (wr.alloc (.cells #[.int .u8 by_] 5)) w'→Blk w' w.heap.size 39 (arR m (p.at_+k) (.slice KA KL KC) f)∧Blk w' (w.heap.size+1) 162 #[.int .i64 p.at_, .slice (some ⟨db,dof,none⟩) p.d.length DC]∧Blk w' (w.heap.size+2) 39 (arR 0 0 (.slice none 0 0) 0):=fun w' fw=>
     ⟨(B0'.out.fr F1.out (by simp)).fr fw (anob B0'.out (by decide)),(B1'.out.fr F1.out (by simp)).fr fw (anob B1'.out (by decide)),(B2'.out.fr F1.out (by simp)).fr fw (anob B2'.out (by decide))⟩
    have AFR:=hI afr
    have ABX:=hI abx
    clear afr anob abx
    go_wp2_with (at_builtin;refine wpList_append_sl _ rfl (.tmp 22) (.tmp 28) 30 rfl 5 i0 (.int .u8 0) 1 1 Tryz.underlying30 hi0 hz0 hz1 hz2 rfl (by decide) (.slice A o.length c) o.length (byts o) (by rfl) (own_fr Own.out F1.out (by simp)) (fun _=>True) (.slice (some ⟨wr.heap.size,0,none⟩) 1 1) 1 [.int .u8 by_] (by rfl) HS.out (by simp [Value.oneCell']) HLM.out HLB.out N HN.out ?_;intro A' c' w' h4 h5 h6;obtain⟨x0,x1,x2⟩:=ABX.out w' h5;obtain⟨g0,g1,g2,g3⟩:=cells4 x0;have g4:=x0.frozen 1;have g5:=x0.lt;have H4:=hI h4;have H5:=hI h5;have H6:=hI h6;have X0:=hI x0;have X1:=hI x1;have X2:=hI x2;clear h4 h5 h6 x0 x1 x2)
    go_roundw
    case rel=>
     refine⟨k+1,A',c',by omega,by go_num,?_⟩
     have hN2:(o++[by_]).length=N:=by rw [List.length_append];exact HN.out
     have fs:=(Fr.refl [w.heap.size] w').setCell (p:=⟨w.heap.size,1,none⟩) (.inl (by simp)) (.int .i64 (p.at_+k+1))
     rw [E1.out,E2.out,hN2]
     refine⟨rfl,?_,fun b hb=>?_,(AFR.out w' H5.out).trans fs (by simp),?_,X1.out.fr fs (by simp),X2.out.fr fs (by simp)⟩
     ·rw [← byts_app]
      exact own_fr H4.out fs (fun b hb=>by simp;rintro rfl;exact own_ne H4.out X0.out (by decide) hb)
     ·have h8:=Fk.out.size
      rcases H6.out b hb with h7|h7
      ·exact Hown.out b h7
      ·have:=h7.1
       simp at this
       omega
     ·simpa using X0.out.set_ 1 (.int .i64 (p.at_+k+1))
    case measure=>simp [intOf];omega
  ·obtain rfl:p.d.length=k:=by omega
   have e1:=told_end n p h1
   have E1:=hI e1
   have Own:=hI own
   have Hown:=hI hown
   have Fk:=hI fk
   have hl1:=b0.lt
   have hl2:=b1.lt
   obtain⟨c0,c1,c2,c3⟩:=cells4 b0
   have d0:wr.cell? ⟨w.heap.size+1,0,none⟩=some (.int .i64 p.at_):=b1.cell 0
   have d1:wr.cell? ⟨w.heap.size+1,1,none⟩=some (.slice DA p.d.length DC):=b1.cell 1
   have B2':=hI b2
   clear e1 own hown fk b0 b1 b2
   generalize (p.d.take p.d.length).drop (n - p.at_).toNat=o at *
   generalize tnx n p.at_ p.d.length=nx at *
   go_wp2_with ((with_reducible refine gate_store 39 (.tmp 4) ?_);refine wpList_store_blk rfl 39 (.tmp 4) (.tmp 34) rfl (w.heap.size+2) 39 (arR 0 0 (.slice none 0 0) 0) (arR m nx (.slice KA KL KC) f) rfl rfl B2'.out rfl (by kernel_rfl) (by simp [Value.oneCell']) ?_;intro w2 B3 F3)
   obtain⟨g0,g1,g2,g3⟩:=cells4 B3
   refine bodyPost_ret (v := .tuple #[agR m nx (.slice KA KL KC) f, .slice A o.length c]) (by simp [results,Tryz.results144,go_sem,g0,g1,g2,g3]) rfl ?_
   refine⟨A,c,?_,?_,?_,Fk.out.trans F3 (by simp)⟩
   ·rw [E1.out]
   ·rw [E1.out]
    exact own_fr Own.out F3 (fun b hb=>by simp;rintro rfl;exact own_ne Own.out B2'.out (by decide) hb)
   ·rw [E1.out]
    exact Hown.out
end Go.Proofs.YtmgdbbbdhkfdmaaGreat
