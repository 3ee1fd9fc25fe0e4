import Derived.Test.YtmgdbbbdhkfdmaaGreatYB27
import Derived.Deep.OwnRows
import Derived.Deep.DeepCutAuto
set_option linter.unusedSimpArgs false
set_option linter.unusedVariables false
namespace Go.Proofs.YtmgdbbbdhkfdmaaGreat
set_option maxRecDepth 100000
open Go.RowKit Go.Deep
abbrev Rw:=AC ×(Option Addr × Nat) ×(Option Addr × Nat)
def Rw.cells(r:Rw):List Value:=(arA r.1 r.2.1.1 r.2.1.2 r.2.2.1 r.2.2.2).toList
def rwCells(L:List Rw):List Value:=L.flatMap Rw.cells
theorem rwCells_cons(r:Rw)(t:List Rw):rwCells (r::t)=r.cells++rwCells t:=by simp [rwCells]
theorem Rw.cells_len(r:Rw):r.cells.length=8:=rfl
theorem rwCells_get:∀(L:List Rw) (i:Nat) (r:Rw) (j:Nat),L[i]?=some r→j<8→(rwCells L)[i * 8+j]?=r.cells[j]?
 | [],i,r,j,h,_=>by simp at h
 | q::t,0,r,j,h,hj=>by
  simp at h
  subst h
  rw [rwCells_cons,List.getElem?_append_left (by rw [Rw.cells_len];omega)]
  simp
 | q::t,i+1,r,j,h,hj=>by
  rw [rwCells_cons,List.getElem?_append_right (by rw [Rw.cells_len];omega),Rw.cells_len,← rwCells_get t i r j (by simpa using h) hj]
  congr 1
  omega
def RwOk(w:World)(r:Rw):Prop:=ANum r.1∧Byt (fun b=>b<w.heap.size) w (.slice r.2.1.1 r.1.p.d.length r.2.1.2) r.1.p.d∧Byt (fun b=>b<w.heap.size) w (.slice r.2.2.1 r.1.d.length r.2.2.2) r.1.d
theorem byt_up{w w':World}{v:Value}{l:List Int}{O:List Nat}(h:Byt (fun b=>b<w.heap.size) w v l)(f:Fr O w w')(hO:∀ b∈O,w.heap.size≤b):Byt (fun b=>b<w'.heap.size) w' v l:=
 (h.fr f (fun x hx hs=>by have:=hO x hx;omega)).mono (fun b hb=>by have:=f.size;omega)
theorem RwOk.fr{w w':World}{r:Rw}(h:RwOk w r)(f:Fr [] w w'):RwOk w' r:=⟨h.1,byt_up h.2.1 f (by simp),byt_up h.2.2 f (by simp)⟩
def rw0:Rw:=(⟨0,⟨0,0,0,0,[]⟩,false,[]⟩,(none,0),(none,0))
def rwF(L:List Rw)(i:Nat):AC:=(L.getD i rw0).1
theorem acts_of{w:World}{b:Nat}(L:List Rw)(hb:b<w.heap.size)(hc:∀ j u,(rwCells L)[j]?=some u→w.cell? ⟨b,j,none⟩=some u)(hr:∀ r∈L,RwOk w r):Acts w w.heap.size (some ⟨b,0,none⟩) L.length (rwF L):=by
 intro i hi
 have hL:L[i]?=some L[i]:=List.getElem?_eq_getElem hi
 have hf:rwF L i=L[i].1:=by unfold rwF;rw [List.getD_eq_getElem?_getD,hL];rfl
 obtain⟨h1,h2,h3⟩:=hr L[i] (List.getElem_mem hi)
 rw [hf]
 refine⟨h1,b,0,_,_,_,_,rfl,hb,fun j v hj=>?_,h2,h3⟩
 rw [Nat.zero_add]
 have hj8:j<8:=by
  rcases Nat.lt_or_ge j 8 with h|h
  ·exact h
  ·rw [Array.getElem?_eq_none (by simpa using h)] at hj
   cases hj
 refine hc _ _ ?_
 rw [rwCells_get L i L[i] j hL hj8]
 simpa [Rw.cells] using hj
theorem make_bytes(n:Nat)(hn:n≤9223372036854)(w:World):(Instr.makeSlice 30 (.int .i64 (n:Int)) (.int .i64 (n:Int))).run Tryz.prog w = .ok (.slice (some ⟨w.heap.size,0,none⟩) n n) (w.alloc (.cells (madeCells #[.int .u8 0] n) 5)):=
 run_make_row' 30 5 (.int .u8 0) 1 Tryz.underlying30 (by kernel_rfl) rfl .i64 .i64 n (by omega) (by omega) w
theorem made_byt(n:Nat)(hn:n≤9223372036854)(w:World):Byt (fun b=>b<(w.alloc (.cells (madeCells #[.int .u8 0] n) 5)).heap.size) (w.alloc (.cells (madeCells #[.int .u8 0] n) 5)) (.slice (some ⟨w.heap.size,0,none⟩) n n) (List.replicate n 0):=by
 obtain⟨cs,hc,hz,hi⟩:=World.rowIs_made w (.int .u8 0) n 5
 refine⟨by simp [byts],some ⟨w.heap.size,0,none⟩,n,by simp,by simp,by simp [maxLen];omega,fun h0=>⟨w.heap.size,0,rfl,by simp,fun j u hj=>?_⟩⟩
 simp only [byts,List.map_replicate,List.getElem?_replicate] at hj
 split at hj
 ·rename_i hjn
  rw [Nat.zero_add,cell_of_row _ _ j cs 5 (0,0) hc,hi j hjn]
  exact hj
 ·cases hj
namespace Held
section
variable {ops:Array Oper} {op:Oper} {a:Act} {w:World} {K:Act→World→Prop} {Q:Exit→Act→World→Prop}
theorem make{E:Prop}(hgd:op.guard=none)(x:Operand)(ho:op.op = .makeSlice 30 x x)(n:Nat)(hx:a.eval x = .int .i64 (n:Int))(hn:n≤9223372036854)
  (h:∀ A c w',Byt (fun b=>b<w'.heap.size) w' (.slice A n c) (List.replicate n 0)→Fr [] w w'→K (a.put op.dst (.slice A n c)) w'):if Region.wanted op (yielded ops a.tmps)=true then Oper.wp Tryz.prog op a w K Q else E:=by
 have hw:Region.wanted op (yielded ops a.tmps)=true:=by simp [Region.wanted,hgd]
 rw [if_pos hw]
 have hrun:=make_bytes n hn w
 unfold Oper.wp
 simp [execOp,ho,hx,hrun,Result.andThen]
 exact h _ _ _ (made_byt n hn w) ((Fr.refl [] w).alloc _)
end
section
variable {P:Program} {md:Region.Mode} {l:List Oper} {Q:Exit→Act→World→Prop} {S:World→Prop} {fuel:Nat} {listed:Array Bool} {a:Act} {w:World}
theorem three{i j k:Nat}{o o2 o3:Oper}(hr:Region.ready md l.toArray listed=[i,j,k])(hi:l[i]?=some o)(hj:l[j]?=some o2)(hk:l[k]?=some o3)
  (h:∀ K':Act→World→Prop,Shut (∀ a w,S w→(S w→wpAnyH P md l.toArray Q S fuel (listed.setIfInBounds i true) a w)→K' a w)→if Region.wanted o (yielded l.toArray a.tmps)=true then Oper.wp P o a w K' Q else K' (a.put o.dst undef) w)
  (h2:∀ K':Act→World→Prop,Shut (∀ a w,S w→(S w→wpAnyH P md l.toArray Q S fuel (listed.setIfInBounds j true) a w)→K' a w)→if Region.wanted o2 (yielded l.toArray a.tmps)=true then Oper.wp P o2 a w K' Q else K' (a.put o2.dst undef) w)
  (h3:∀ K':Act→World→Prop,Shut (∀ a w,S w→(S w→wpAnyH P md l.toArray Q S fuel (listed.setIfInBounds k true) a w)→K' a w)→if Region.wanted o3 (yielded l.toArray a.tmps)=true then Oper.wp P o3 a w K' Q else K' (a.put o3.dst undef) w):wpAnyH P md l.toArray Q S (fuel+1) listed a w:=
 wpAnyH_ready hr (by simp) (AllReadyH.cons (by simpa using hi) h (AllReadyH.cons (by simpa using hj) h2 (AllReadyH.cons (by simpa using hk) h3 AllReadyH.nil)))
end
end Held
set_option maxHeartbeats 4000000 in
theorem build8(A1 A2 A3:Option Addr)(N M c1 c2 c3:Nat)(w:World):(Instr.buildSlice 23 8 #[(0, .agg #[.int .i64 2, .int .i64 0, .int .u32 0, .int .u32 0, .int .u16 0, .slice none 0 0, .bool false, .slice A1 N c1]),(1, .agg #[.int .i64 2, .int .i64 0, .int .u32 0, .int .u32 0, .int .u16 0, .slice none 0 0, .bool false, .slice A2 M c2]),(2, .agg #[.int .i64 1, .int .i64 3, .int .u32 9, .int .u32 8, .int .u16 1000, .slice none 0 0, .bool false, .slice none 0 0]),(3, .agg #[.int .i64 1, .int .i64 2, .int .u32 0, .int .u32 64, .int .u16 100, .slice none 0 0, .bool true, .slice none 0 0]),(4, .agg #[.int .i64 2, .int .i64 0, .int .u32 0, .int .u32 0, .int .u16 0, .slice none 0 0, .bool false, .slice A3 64 c3]),(5, .agg #[.int .i64 3, .int .i64 0, .int .u32 0, .int .u32 0, .int .u16 0, .slice none 0 0, .bool false, .slice none 0 0]),(6, .agg #[.int .i64 2, .int .i64 0, .int .u32 0, .int .u32 0, .int .u16 0, .slice none 0 0, .bool false, .slice none 0 0]),(7, .agg #[.int .i64 3, .int .i64 0, .int .u32 0, .int .u32 0, .int .u16 0, .slice none 0 0, .bool false, .slice none 0 0])]).run Tryz.prog w = .ok (.slice (some ⟨w.heap.size,0,none⟩) 8 8) (w.alloc (.cells #[.int .i64 2, .int .i64 0, .int .u32 0, .int .u32 0, .int .u16 0, .slice none 0 0, .bool false, .slice A1 N c1, .int .i64 2, .int .i64 0, .int .u32 0, .int .u32 0, .int .u16 0, .slice none 0 0, .bool false, .slice A2 M c2, .int .i64 1, .int .i64 3, .int .u32 9, .int .u32 8, .int .u16 1000, .slice none 0 0, .bool false, .slice none 0 0, .int .i64 1, .int .i64 2, .int .u32 0, .int .u32 64, .int .u16 100, .slice none 0 0, .bool true, .slice none 0 0, .int .i64 2, .int .i64 0, .int .u32 0, .int .u32 0, .int .u16 0, .slice none 0 0, .bool false, .slice A3 64 c3, .int .i64 3, .int .i64 0, .int .u32 0, .int .u32 0, .int .u16 0, .slice none 0 0, .bool false, .slice none 0 0, .int .i64 2, .int .i64 0, .int .u32 0, .int .u32 0, .int .u16 0, .slice none 0 0, .bool false, .slice none 0 0, .int .i64 3, .int .i64 0, .int .u32 0, .int .u32 0, .int .u16 0, .slice none 0 0, .bool false, .slice none 0 0] 51)):=by
 unfold Instr.buildSlice
 go_simp
abbrev rows8(A1 A2 A3:Option Addr)(N M c1 c2 c3:Nat):List Rw:=[(⟨2,⟨0,0,0,0,[]⟩,false,List.replicate N 0⟩,(none,0),(A1,c1)),(⟨2,⟨0,0,0,0,[]⟩,false,List.replicate M 0⟩,(none,0),(A2,c2)),(⟨1,⟨3,9,8,1000,[]⟩,false,[]⟩,(none,0),(none,0)),(⟨1,⟨2,0,64,100,[]⟩,true,[]⟩,(none,0),(none,0)),(⟨2,⟨0,0,0,0,[]⟩,false,List.replicate 64 0⟩,(none,0),(A3,c3)),(⟨3,⟨0,0,0,0,[]⟩,false,[]⟩,(none,0),(none,0)),(⟨2,⟨0,0,0,0,[]⟩,false,[]⟩,(none,0),(none,0)),(⟨3,⟨0,0,0,0,[]⟩,false,[]⟩,(none,0),(none,0))]
theorem rows8_cells(A1 A2 A3:Option Addr)(N M c1 c2 c3:Nat):rwCells (rows8 A1 A2 A3 N M c1 c2 c3)=(#[.int .i64 2, .int .i64 0, .int .u32 0, .int .u32 0, .int .u16 0, .slice none 0 0, .bool false, .slice A1 N c1, .int .i64 2, .int .i64 0, .int .u32 0, .int .u32 0, .int .u16 0, .slice none 0 0, .bool false, .slice A2 M c2, .int .i64 1, .int .i64 3, .int .u32 9, .int .u32 8, .int .u16 1000, .slice none 0 0, .bool false, .slice none 0 0, .int .i64 1, .int .i64 2, .int .u32 0, .int .u32 64, .int .u16 100, .slice none 0 0, .bool true, .slice none 0 0, .int .i64 2, .int .i64 0, .int .u32 0, .int .u32 0, .int .u16 0, .slice none 0 0, .bool false, .slice A3 64 c3, .int .i64 3, .int .i64 0, .int .u32 0, .int .u32 0, .int .u16 0, .slice none 0 0, .bool false, .slice none 0 0, .int .i64 2, .int .i64 0, .int .u32 0, .int .u32 0, .int .u16 0, .slice none 0 0, .bool false, .slice none 0 0, .int .i64 3, .int .i64 0, .int .u32 0, .int .u32 0, .int .u16 0, .slice none 0 0, .bool false, .slice none 0 0]:Array Value).toList:=by
 simp [rwCells,Rw.cells]
theorem kinds8(A1 A2 A3:Option Addr)(N M c1 c2 c3:Nat):∀ i,i<8→(fun k=>k=1∨k=2∨k=3) (rwF (rows8 A1 A2 A3 N M c1 c2 c3) i).kind:=fun i hi=>by
 rcases i with _|_|_|_|_|_|_|_|i
 all_goals first|(exfalso;omega)|simp [rwF,rows8]
theorem acts8{w:World}{A1 A2 A3:Option Addr}{N M c1 c2 c3:Nat}(h1:Byt (fun b=>b<w.heap.size) w (.slice A1 N c1) (List.replicate N 0))(h2:Byt (fun b=>b<w.heap.size) w (.slice A2 M c2) (List.replicate M 0))(h3:Byt (fun b=>b<w.heap.size) w (.slice A3 64 c3) (List.replicate 64 0)) :
  Acts (w.alloc (.cells #[.int .i64 2, .int .i64 0, .int .u32 0, .int .u32 0, .int .u16 0, .slice none 0 0, .bool false, .slice A1 N c1, .int .i64 2, .int .i64 0, .int .u32 0, .int .u32 0, .int .u16 0, .slice none 0 0, .bool false, .slice A2 M c2, .int .i64 1, .int .i64 3, .int .u32 9, .int .u32 8, .int .u16 1000, .slice none 0 0, .bool false, .slice none 0 0, .int .i64 1, .int .i64 2, .int .u32 0, .int .u32 64, .int .u16 100, .slice none 0 0, .bool true, .slice none 0 0, .int .i64 2, .int .i64 0, .int .u32 0, .int .u32 0, .int .u16 0, .slice none 0 0, .bool false, .slice A3 64 c3, .int .i64 3, .int .i64 0, .int .u32 0, .int .u32 0, .int .u16 0, .slice none 0 0, .bool false, .slice none 0 0, .int .i64 2, .int .i64 0, .int .u32 0, .int .u32 0, .int .u16 0, .slice none 0 0, .bool false, .slice none 0 0, .int .i64 3, .int .i64 0, .int .u32 0, .int .u32 0, .int .u16 0, .slice none 0 0, .bool false, .slice none 0 0] 51)) (w.alloc (.cells #[.int .i64 2, .int .i64 0, .int .u32 0, .int .u32 0, .int .u16 0, .slice none 0 0, .bool false, .slice A1 N c1, .int .i64 2, .int .i64 0, .int .u32 0, .int .u32 0, .int .u16 0, .slice none 0 0, .bool false, .slice A2 M c2, .int .i64 1, .int .i64 3, .int .u32 9, .int .u32 8, .int .u16 1000, .slice none 0 0, .bool false, .slice none 0 0, .int .i64 1, .int .i64 2, .int .u32 0, .int .u32 64, .int .u16 100, .slice none 0 0, .bool true, .slice none 0 0, .int .i64 2, .int .i64 0, .int .u32 0, .int .u32 0, .int .u16 0, .slice none 0 0, .bool false, .slice A3 64 c3, .int .i64 3, .int .i64 0, .int .u32 0, .int .u32 0, .int .u16 0, .slice none 0 0, .bool false, .slice none 0 0, .int .i64 2, .int .i64 0, .int .u32 0, .int .u32 0, .int .u16 0, .slice none 0 0, .bool false, .slice none 0 0, .int .i64 3, .int .i64 0, .int .u32 0, .int .u32 0, .int .u16 0, .slice none 0 0, .bool false, .slice none 0 0] 51)).heap.size (some ⟨w.heap.size,0,none⟩) 8 (rwF (rows8 A1 A2 A3 N M c1 c2 c3)):=by
 refine acts_of (rows8 A1 A2 A3 N M c1 c2 c3) (by simp) (fun j u hj=>?_) (fun r hr=>RwOk.fr (w:=w) ?_ ((Fr.refl [] w).alloc _))
 ·rw [rows8_cells] at hj
  rw [Blk.cell (Blk.new w 51 _) j]
  simpa using hj
 ·simp only [rows8,List.mem_cons,List.not_mem_nil,or_false] at hr
  rcases hr with rfl|rfl|rfl|rfl|rfl|rfl|rfl|rfl
  all_goals refine⟨⟨by simp,by simp,by simp,by simp,by simp,by simp⟩,Byt.nil,?_⟩
  all_goals first|exact Byt.nil|exact (by simpa using h1)|exact (by simpa using h2)|exact (by simpa using h3)
theorem does123:DoesAll (fun k=>k=1∨k=2∨k=3):=fun S w H x av uv kv m r fx a hk ha hal hn pA pc dA dc hpd hdd=>by
 rcases hk with h|h|h
 ·rcases Bool.eq_false_or_eq_true (rightV (nearP x a)) with h'|h'
  ·exact does1_yes m r fx a ha h h' hal hn pA pc dA dc hpd hdd
  ·exact does1_no m r fx a ha h h' hal hn pA pc dA dc hpd hdd
 ·exact does2 m r fx a ha h hal hn pA pc dA dc hpd hdd
 ·exact does3 m r fx a ha h hal hn pA pc dA dc hpd hdd
set_option maxHeartbeats 16000000 in
theorem bound_any(n m:Int)(w:World):Calls Tryz.prog 4 #[.int .i64 n, .int .i64 m] w fun e w'=>e = .returned (.bool true)∧Fr [] w w':=by
 by_cases h1:n<0
 ·have e1:decide (n<0)=true:=by simpa using h1
  go_enter Tryz.func4,Tryz.ntmps4
  go_wp2_with fail
  refine (known_any _).mono ?_
  rintro e w2 ⟨rfl,f2⟩
  go_wp2_with fail
  go_ret
  exact⟨rfl,f2⟩
 ·have e1:decide (n<0)=false:=by simpa using h1
  by_cases h2:n > 5000
  ·have e2:decide (n > 5000)=true:=by simpa using h2
   go_enter Tryz.func4,Tryz.ntmps4
   go_wp2_with fail
   refine (known_any _).mono ?_
   rintro e w2 ⟨rfl,f2⟩
   go_wp2_with fail
   go_ret
   exact⟨rfl,f2⟩
  ·have e2:decide (n > 5000)=false:=by simpa using h2
   by_cases h3:m<0
   ·have e3:decide (m<0)=true:=by simpa using h3
    go_enter Tryz.func4,Tryz.ntmps4
    go_wp2_with fail
    refine (known_any _).mono ?_
    rintro e w2 ⟨rfl,f2⟩
    go_wp2_with fail
    go_ret
    exact⟨rfl,f2⟩
   ·have e3:decide (m<0)=false:=by simpa using h3
    by_cases h4:m > 5000
    ·have e4:decide (m > 5000)=true:=by simpa using h4
     go_enter Tryz.func4,Tryz.ntmps4
     go_wp2_with fail
     refine (known_any _).mono ?_
     rintro e w2 ⟨rfl,f2⟩
     go_wp2_with fail
     go_ret
     exact⟨rfl,f2⟩
    ·have e4:decide (m > 5000)=false:=by simpa using h4
     obtain⟨N,rfl⟩:=Int.eq_ofNat_of_zero_le (by omega:0≤n)
     obtain⟨M,rfl⟩:=Int.eq_ofNat_of_zero_le (by omega:0≤m)
     have HN:N≤5000:=by omega
     have HM:M≤5000:=by omega
     clear h1 h2 h3 h4
     have HKK:=Lib.hid (fun A1 A2 A3 c1 c2 c3=>kinds8 A1 A2 A3 N M c1 c2 c3)
     go_enter Tryz.func4,Tryz.ntmps4
     go_upto_region 3 with fail
     refine wp_region_held_drew (S:=fun W=>Fr [] w W) (by kernel_rfl) (Fr.refl _ w).drew (fun hH=>?_)
     have fd:Fr [] w w.drew:=(Fr.refl [] w).drew
     generalize w.drew=wd at *
     refine Held.take 0 (v := .int .i64 (N:Int)) rfl (by kernel_rfl) (by kernel_rfl) (by kernel_rfl) (fun _ _ _ h=>h) (Or.inl ⟨rfl,fun (W:World) hs=>by go_simp⟩) hH ?_
     try simp only [Act.put,List.setIfInBounds_toArray,List.set_cons_zero,List.set_cons_succ]
     refine Held.take 3 (v := .int .i64 (M:Int)) rfl (by kernel_rfl) (by kernel_rfl) (by kernel_rfl) (fun _ _ _ h=>h) (Or.inl ⟨rfl,fun (W:World) hs=>by go_simp⟩) hH ?_
     try simp only [Act.put,List.setIfInBounds_toArray,List.set_cons_zero,List.set_cons_succ]
     refine Held.take 6 (v := .agg #[.int .i64 3, .int .u32 9, .int .u32 8, .int .u16 1000, .slice none 0 0]) rfl (by kernel_rfl) (by kernel_rfl) (by kernel_rfl) (fun _ _ _ h=>h) (Or.inl ⟨rfl,fun (W:World) hs=>by go_simp⟩) hH ?_
     try simp only [Act.put,List.setIfInBounds_toArray,List.set_cons_zero,List.set_cons_succ]
     refine Held.take 7 (v := .agg #[.int .i64 1, .int .i64 3, .int .u32 9, .int .u32 8, .int .u16 1000, .slice none 0 0, .bool false, .slice none 0 0]) rfl (by kernel_rfl) (by kernel_rfl) (by kernel_rfl) (fun _ _ _ h=>h) (Or.inl ⟨rfl,fun (W:World) hs=>by go_simp⟩) hH ?_
     try simp only [Act.put,List.setIfInBounds_toArray,List.set_cons_zero,List.set_cons_succ]
     refine Held.take 8 (v := .agg #[.int .i64 2, .int .u32 0, .int .u32 64, .int .u16 100, .slice none 0 0]) rfl (by kernel_rfl) (by kernel_rfl) (by kernel_rfl) (fun _ _ _ h=>h) (Or.inl ⟨rfl,fun (W:World) hs=>by go_simp⟩) hH ?_
     try simp only [Act.put,List.setIfInBounds_toArray,List.set_cons_zero,List.set_cons_succ]
     refine Held.take 9 (v := .agg #[.int .i64 1, .int .i64 2, .int .u32 0, .int .u32 64, .int .u16 100, .slice none 0 0, .bool true, .slice none 0 0]) rfl (by kernel_rfl) (by kernel_rfl) (by kernel_rfl) (fun _ _ _ h=>h) (Or.inl ⟨rfl,fun (W:World) hs=>by go_simp⟩) hH ?_
     try simp only [Act.put,List.setIfInBounds_toArray,List.set_cons_zero,List.set_cons_succ]
     refine Held.take 12 (v := .agg #[.int .i64 3, .int .i64 0, .int .u32 0, .int .u32 0, .int .u16 0, .slice none 0 0, .bool false, .slice none 0 0]) rfl (by kernel_rfl) (by kernel_rfl) (by kernel_rfl) (fun _ _ _ h=>h) (Or.inl ⟨rfl,fun (W:World) hs=>by go_simp⟩) hH ?_
     try simp only [Act.put,List.setIfInBounds_toArray,List.set_cons_zero,List.set_cons_succ]
     refine Held.take 13 (v := .agg #[.int .i64 2, .int .i64 0, .int .u32 0, .int .u32 0, .int .u16 0, .slice none 0 0, .bool false, .slice none 0 0]) rfl (by kernel_rfl) (by kernel_rfl) (by kernel_rfl) (fun _ _ _ h=>h) (Or.inl ⟨rfl,fun (W:World) hs=>by go_simp⟩) hH ?_
     try simp only [Act.put,List.setIfInBounds_toArray,List.set_cons_zero,List.set_cons_succ]
     refine Held.take 14 (v := .agg #[.int .i64 3, .int .i64 0, .int .u32 0, .int .u32 0, .int .u16 0, .slice none 0 0, .bool false, .slice none 0 0]) rfl (by kernel_rfl) (by kernel_rfl) (by kernel_rfl) (fun _ _ _ h=>h) (Or.inl ⟨rfl,fun (W:World) hs=>by go_simp⟩) hH ?_
     try simp only [Act.put,List.setIfInBounds_toArray,List.set_cons_zero,List.set_cons_succ]
     refine Held.three (i:=1) (j:=4) (k:=10) (by kernel_rfl) rfl rfl rfl (fun K hK=>?_) (fun K hK=>?_) (fun K hK=>?_)
     ·refine Held.make rfl (.tmp 20) rfl N rfl (by omega) ?_
      intro A1 c1 W1 y1 g1
      refine hK.out _ _ (hH.trans g1 (by simp)) (fun hB=>?_)
      clear hK K hH
      try simp only [Act.put,List.setIfInBounds_toArray,List.set_cons_zero,List.set_cons_succ]
      refine Held.take 2 (v := .agg #[.int .i64 2, .int .i64 0, .int .u32 0, .int .u32 0, .int .u16 0, .slice none 0 0, .bool false, .slice A1 N c1]) rfl (by kernel_rfl) (by kernel_rfl) (by kernel_rfl) (fun _ _ _ h=>h) (Or.inl ⟨rfl,fun (W:World) hs=>by go_simp⟩) hB ?_
      try simp only [Act.put,List.setIfInBounds_toArray,List.set_cons_zero,List.set_cons_succ]
      refine Held.two (i:=4) (j:=10) (by kernel_rfl) rfl rfl (fun K hK=>?_) (fun K hK=>?_)
      ·refine Held.make rfl (.tmp 23) rfl M rfl (by omega) ?_
       intro A2 c2 W2 y2 g2
       refine hK.out _ _ (hB.trans g2 (by simp)) (fun hC=>?_)
       clear hK K hB
       try simp only [Act.put,List.setIfInBounds_toArray,List.set_cons_zero,List.set_cons_succ]
       refine Held.take 5 (v := .agg #[.int .i64 2, .int .i64 0, .int .u32 0, .int .u32 0, .int .u16 0, .slice none 0 0, .bool false, .slice A2 M c2]) rfl (by kernel_rfl) (by kernel_rfl) (by kernel_rfl) (fun _ _ _ h=>h) (Or.inl ⟨rfl,fun (W:World) hs=>by go_simp⟩) hC ?_
       try simp only [Act.put,List.setIfInBounds_toArray,List.set_cons_zero,List.set_cons_succ]
       refine Held.one (i:=10) (by kernel_rfl) rfl (fun K hK=>?_)
       refine Held.make rfl (.const (.int .i64 64)) rfl 64 rfl (by omega) ?_
       intro A3 c3 W3 y3 g3
       refine hK.out _ _ (hC.trans g3 (by simp)) (fun hD=>?_)
       clear hK K hC
       try simp only [Act.put,List.setIfInBounds_toArray,List.set_cons_zero,List.set_cons_succ]
       refine Held.take 11 (v := .agg #[.int .i64 2, .int .i64 0, .int .u32 0, .int .u32 0, .int .u16 0, .slice none 0 0, .bool false, .slice A3 64 c3]) rfl (by kernel_rfl) (by kernel_rfl) (by kernel_rfl) (fun _ _ _ h=>h) (Or.inl ⟨rfl,fun (W:World) hs=>by go_simp⟩) hD ?_
       try simp only [Act.put,List.setIfInBounds_toArray,List.set_cons_zero,List.set_cons_succ]
       have q1:=byt_up y1 (g2.trans g3 (by simp)) (by simp)
       have q2:=byt_up y2 g3 (by simp)
       have q3:=y3
       clear y1 y2 y3 g1 g2 g3
       have hb:=build8 A1 A2 A3 N M c1 c2 c3 W3
       refine Held.one (i:=15) (by kernel_rfl) rfl (fun K hK=>?_)
       go_simp
       try go_wp2_with fail
       refine hK.out _ _ (hD.alloc _) (fun hE=>?_)
       clear hK K hb hD
       have HA:=Lib.hid (acts8 q1 q2 q3)
       clear q1 q2 q3
       try simp only [Act.put,List.setIfInBounds_toArray,List.set_cons_zero,List.set_cons_succ]
       refine Held.one (i:=16) (by kernel_rfl) rfl (fun K hK=>?_)
       generalize W3.alloc _=W4 at *
       go_simp
       go_at_call 15
       refine (play_any does123 7 (by omega) (by omega) true W4 _ 8 8 _ HA.out (HKK.out _ _ _ _ _ _) (by simp [maxLen])).mono ?_
       rintro e w5 ⟨rfl,f5⟩
       try go_wp2_with fail
       refine hK.out _ _ (hE.trans f5 (by simp)) (fun hF=>?_)
       clear hK K
       try simp only [Act.put,List.setIfInBounds_toArray,List.set_cons_zero,List.set_cons_succ]
       refine Held.take 17 (v := .bool true) rfl (by kernel_rfl) (by kernel_rfl) (by kernel_rfl) (fun _ _ _ h=>h) (Or.inl ⟨rfl,fun (W:World) hs=>by go_simp⟩) hF ?_
       try simp only [Act.put,List.setIfInBounds_toArray,List.set_cons_zero,List.set_cons_succ]
       refine Held.done (by kernel_rfl) ?_
       go_wp2_with fail
       go_ret
       exact⟨rfl,hF⟩
      ·refine Held.make rfl (.const (.int .i64 64)) rfl 64 rfl (by omega) ?_
       intro A3 c3 W2 y3 g2
       refine hK.out _ _ (hB.trans g2 (by simp)) (fun hC=>?_)
       clear hK K hB
       try simp only [Act.put,List.setIfInBounds_toArray,List.set_cons_zero,List.set_cons_succ]
       refine Held.take 11 (v := .agg #[.int .i64 2, .int .i64 0, .int .u32 0, .int .u32 0, .int .u16 0, .slice none 0 0, .bool false, .slice A3 64 c3]) rfl (by kernel_rfl) (by kernel_rfl) (by kernel_rfl) (fun _ _ _ h=>h) (Or.inl ⟨rfl,fun (W:World) hs=>by go_simp⟩) hC ?_
       try simp only [Act.put,List.setIfInBounds_toArray,List.set_cons_zero,List.set_cons_succ]
       refine Held.one (i:=4) (by kernel_rfl) rfl (fun K hK=>?_)
       refine Held.make rfl (.tmp 23) rfl M rfl (by omega) ?_
       intro A2 c2 W3 y2 g3
       refine hK.out _ _ (hC.trans g3 (by simp)) (fun hD=>?_)
       clear hK K hC
       try simp only [Act.put,List.setIfInBounds_toArray,List.set_cons_zero,List.set_cons_succ]
       refine Held.take 5 (v := .agg #[.int .i64 2, .int .i64 0, .int .u32 0, .int .u32 0, .int .u16 0, .slice none 0 0, .bool false, .slice A2 M c2]) rfl (by kernel_rfl) (by kernel_rfl) (by kernel_rfl) (fun _ _ _ h=>h) (Or.inl ⟨rfl,fun (W:World) hs=>by go_simp⟩) hD ?_
       try simp only [Act.put,List.setIfInBounds_toArray,List.set_cons_zero,List.set_cons_succ]
       have q1:=byt_up y1 (g2.trans g3 (by simp)) (by simp)
       have q3:=byt_up y3 g3 (by simp)
       have q2:=y2
       clear y1 y2 y3 g1 g2 g3
       have hb:=build8 A1 A2 A3 N M c1 c2 c3 W3
       refine Held.one (i:=15) (by kernel_rfl) rfl (fun K hK=>?_)
       go_simp
       try go_wp2_with fail
       refine hK.out _ _ (hD.alloc _) (fun hE=>?_)
       clear hK K hb hD
       have HA:=Lib.hid (acts8 q1 q2 q3)
       clear q1 q2 q3
       try simp only [Act.put,List.setIfInBounds_toArray,List.set_cons_zero,List.set_cons_succ]
       refine Held.one (i:=16) (by kernel_rfl) rfl (fun K hK=>?_)
       generalize W3.alloc _=W4 at *
       go_simp
       go_at_call 15
       refine (play_any does123 7 (by omega) (by omega) true W4 _ 8 8 _ HA.out (HKK.out _ _ _ _ _ _) (by simp [maxLen])).mono ?_
       rintro e w5 ⟨rfl,f5⟩
       try go_wp2_with fail
       refine hK.out _ _ (hE.trans f5 (by simp)) (fun hF=>?_)
       clear hK K
       try simp only [Act.put,List.setIfInBounds_toArray,List.set_cons_zero,List.set_cons_succ]
       refine Held.take 17 (v := .bool true) rfl (by kernel_rfl) (by kernel_rfl) (by kernel_rfl) (fun _ _ _ h=>h) (Or.inl ⟨rfl,fun (W:World) hs=>by go_simp⟩) hF ?_
       try simp only [Act.put,List.setIfInBounds_toArray,List.set_cons_zero,List.set_cons_succ]
       refine Held.done (by kernel_rfl) ?_
       go_wp2_with fail
       go_ret
       exact⟨rfl,hF⟩
     ·refine Held.make rfl (.tmp 23) rfl M rfl (by omega) ?_
      intro A2 c2 W1 y2 g1
      refine hK.out _ _ (hH.trans g1 (by simp)) (fun hB=>?_)
      clear hK K hH
      try simp only [Act.put,List.setIfInBounds_toArray,List.set_cons_zero,List.set_cons_succ]
      refine Held.take 5 (v := .agg #[.int .i64 2, .int .i64 0, .int .u32 0, .int .u32 0, .int .u16 0, .slice none 0 0, .bool false, .slice A2 M c2]) rfl (by kernel_rfl) (by kernel_rfl) (by kernel_rfl) (fun _ _ _ h=>h) (Or.inl ⟨rfl,fun (W:World) hs=>by go_simp⟩) hB ?_
      try simp only [Act.put,List.setIfInBounds_toArray,List.set_cons_zero,List.set_cons_succ]
      refine Held.two (i:=1) (j:=10) (by kernel_rfl) rfl rfl (fun K hK=>?_) (fun K hK=>?_)
      ·refine Held.make rfl (.tmp 20) rfl N rfl (by omega) ?_
       intro A1 c1 W2 y1 g2
       refine hK.out _ _ (hB.trans g2 (by simp)) (fun hC=>?_)
       clear hK K hB
       try simp only [Act.put,List.setIfInBounds_toArray,List.set_cons_zero,List.set_cons_succ]
       refine Held.take 2 (v := .agg #[.int .i64 2, .int .i64 0, .int .u32 0, .int .u32 0, .int .u16 0, .slice none 0 0, .bool false, .slice A1 N c1]) rfl (by kernel_rfl) (by kernel_rfl) (by kernel_rfl) (fun _ _ _ h=>h) (Or.inl ⟨rfl,fun (W:World) hs=>by go_simp⟩) hC ?_
       try simp only [Act.put,List.setIfInBounds_toArray,List.set_cons_zero,List.set_cons_succ]
       refine Held.one (i:=10) (by kernel_rfl) rfl (fun K hK=>?_)
       refine Held.make rfl (.const (.int .i64 64)) rfl 64 rfl (by omega) ?_
       intro A3 c3 W3 y3 g3
       refine hK.out _ _ (hC.trans g3 (by simp)) (fun hD=>?_)
       clear hK K hC
       try simp only [Act.put,List.setIfInBounds_toArray,List.set_cons_zero,List.set_cons_succ]
       refine Held.take 11 (v := .agg #[.int .i64 2, .int .i64 0, .int .u32 0, .int .u32 0, .int .u16 0, .slice none 0 0, .bool false, .slice A3 64 c3]) rfl (by kernel_rfl) (by kernel_rfl) (by kernel_rfl) (fun _ _ _ h=>h) (Or.inl ⟨rfl,fun (W:World) hs=>by go_simp⟩) hD ?_
       try simp only [Act.put,List.setIfInBounds_toArray,List.set_cons_zero,List.set_cons_succ]
       have q2:=byt_up y2 (g2.trans g3 (by simp)) (by simp)
       have q1:=byt_up y1 g3 (by simp)
       have q3:=y3
       clear y1 y2 y3 g1 g2 g3
       have hb:=build8 A1 A2 A3 N M c1 c2 c3 W3
       refine Held.one (i:=15) (by kernel_rfl) rfl (fun K hK=>?_)
       go_simp
       try go_wp2_with fail
       refine hK.out _ _ (hD.alloc _) (fun hE=>?_)
       clear hK K hb hD
       have HA:=Lib.hid (acts8 q1 q2 q3)
       clear q1 q2 q3
       try simp only [Act.put,List.setIfInBounds_toArray,List.set_cons_zero,List.set_cons_succ]
       refine Held.one (i:=16) (by kernel_rfl) rfl (fun K hK=>?_)
       generalize W3.alloc _=W4 at *
       go_simp
       go_at_call 15
       refine (play_any does123 7 (by omega) (by omega) true W4 _ 8 8 _ HA.out (HKK.out _ _ _ _ _ _) (by simp [maxLen])).mono ?_
       rintro e w5 ⟨rfl,f5⟩
       try go_wp2_with fail
       refine hK.out _ _ (hE.trans f5 (by simp)) (fun hF=>?_)
       clear hK K
       try simp only [Act.put,List.setIfInBounds_toArray,List.set_cons_zero,List.set_cons_succ]
       refine Held.take 17 (v := .bool true) rfl (by kernel_rfl) (by kernel_rfl) (by kernel_rfl) (fun _ _ _ h=>h) (Or.inl ⟨rfl,fun (W:World) hs=>by go_simp⟩) hF ?_
       try simp only [Act.put,List.setIfInBounds_toArray,List.set_cons_zero,List.set_cons_succ]
       refine Held.done (by kernel_rfl) ?_
       go_wp2_with fail
       go_ret
       exact⟨rfl,hF⟩
      ·refine Held.make rfl (.const (.int .i64 64)) rfl 64 rfl (by omega) ?_
       intro A3 c3 W2 y3 g2
       refine hK.out _ _ (hB.trans g2 (by simp)) (fun hC=>?_)
       clear hK K hB
       try simp only [Act.put,List.setIfInBounds_toArray,List.set_cons_zero,List.set_cons_succ]
       refine Held.take 11 (v := .agg #[.int .i64 2, .int .i64 0, .int .u32 0, .int .u32 0, .int .u16 0, .slice none 0 0, .bool false, .slice A3 64 c3]) rfl (by kernel_rfl) (by kernel_rfl) (by kernel_rfl) (fun _ _ _ h=>h) (Or.inl ⟨rfl,fun (W:World) hs=>by go_simp⟩) hC ?_
       try simp only [Act.put,List.setIfInBounds_toArray,List.set_cons_zero,List.set_cons_succ]
       refine Held.one (i:=1) (by kernel_rfl) rfl (fun K hK=>?_)
       refine Held.make rfl (.tmp 20) rfl N rfl (by omega) ?_
       intro A1 c1 W3 y1 g3
       refine hK.out _ _ (hC.trans g3 (by simp)) (fun hD=>?_)
       clear hK K hC
       try simp only [Act.put,List.setIfInBounds_toArray,List.set_cons_zero,List.set_cons_succ]
       refine Held.take 2 (v := .agg #[.int .i64 2, .int .i64 0, .int .u32 0, .int .u32 0, .int .u16 0, .slice none 0 0, .bool false, .slice A1 N c1]) rfl (by kernel_rfl) (by kernel_rfl) (by kernel_rfl) (fun _ _ _ h=>h) (Or.inl ⟨rfl,fun (W:World) hs=>by go_simp⟩) hD ?_
       try simp only [Act.put,List.setIfInBounds_toArray,List.set_cons_zero,List.set_cons_succ]
       have q2:=byt_up y2 (g2.trans g3 (by simp)) (by simp)
       have q3:=byt_up y3 g3 (by simp)
       have q1:=y1
       clear y1 y2 y3 g1 g2 g3
       have hb:=build8 A1 A2 A3 N M c1 c2 c3 W3
       refine Held.one (i:=15) (by kernel_rfl) rfl (fun K hK=>?_)
       go_simp
       try go_wp2_with fail
       refine hK.out _ _ (hD.alloc _) (fun hE=>?_)
       clear hK K hb hD
       have HA:=Lib.hid (acts8 q1 q2 q3)
       clear q1 q2 q3
       try simp only [Act.put,List.setIfInBounds_toArray,List.set_cons_zero,List.set_cons_succ]
       refine Held.one (i:=16) (by kernel_rfl) rfl (fun K hK=>?_)
       generalize W3.alloc _=W4 at *
       go_simp
       go_at_call 15
       refine (play_any does123 7 (by omega) (by omega) true W4 _ 8 8 _ HA.out (HKK.out _ _ _ _ _ _) (by simp [maxLen])).mono ?_
       rintro e w5 ⟨rfl,f5⟩
       try go_wp2_with fail
       refine hK.out _ _ (hE.trans f5 (by simp)) (fun hF=>?_)
       clear hK K
       try simp only [Act.put,List.setIfInBounds_toArray,List.set_cons_zero,List.set_cons_succ]
       refine Held.take 17 (v := .bool true) rfl (by kernel_rfl) (by kernel_rfl) (by kernel_rfl) (fun _ _ _ h=>h) (Or.inl ⟨rfl,fun (W:World) hs=>by go_simp⟩) hF ?_
       try simp only [Act.put,List.setIfInBounds_toArray,List.set_cons_zero,List.set_cons_succ]
       refine Held.done (by kernel_rfl) ?_
       go_wp2_with fail
       go_ret
       exact⟨rfl,hF⟩
     ·refine Held.make rfl (.const (.int .i64 64)) rfl 64 rfl (by omega) ?_
      intro A3 c3 W1 y3 g1
      refine hK.out _ _ (hH.trans g1 (by simp)) (fun hB=>?_)
      clear hK K hH
      try simp only [Act.put,List.setIfInBounds_toArray,List.set_cons_zero,List.set_cons_succ]
      refine Held.take 11 (v := .agg #[.int .i64 2, .int .i64 0, .int .u32 0, .int .u32 0, .int .u16 0, .slice none 0 0, .bool false, .slice A3 64 c3]) rfl (by kernel_rfl) (by kernel_rfl) (by kernel_rfl) (fun _ _ _ h=>h) (Or.inl ⟨rfl,fun (W:World) hs=>by go_simp⟩) hB ?_
      try simp only [Act.put,List.setIfInBounds_toArray,List.set_cons_zero,List.set_cons_succ]
      refine Held.two (i:=1) (j:=4) (by kernel_rfl) rfl rfl (fun K hK=>?_) (fun K hK=>?_)
      ·refine Held.make rfl (.tmp 20) rfl N rfl (by omega) ?_
       intro A1 c1 W2 y1 g2
       refine hK.out _ _ (hB.trans g2 (by simp)) (fun hC=>?_)
       clear hK K hB
       try simp only [Act.put,List.setIfInBounds_toArray,List.set_cons_zero,List.set_cons_succ]
       refine Held.take 2 (v := .agg #[.int .i64 2, .int .i64 0, .int .u32 0, .int .u32 0, .int .u16 0, .slice none 0 0, .bool false, .slice A1 N c1]) rfl (by kernel_rfl) (by kernel_rfl) (by kernel_rfl) (fun _ _ _ h=>h) (Or.inl ⟨rfl,fun (W:World) hs=>by go_simp⟩) hC ?_
       try simp only [Act.put,List.setIfInBounds_toArray,List.set_cons_zero,List.set_cons_succ]
       refine Held.one (i:=4) (by kernel_rfl) rfl (fun K hK=>?_)
       refine Held.make rfl (.tmp 23) rfl M rfl (by omega) ?_
       intro A2 c2 W3 y2 g3
       refine hK.out _ _ (hC.trans g3 (by simp)) (fun hD=>?_)
       clear hK K hC
       try simp only [Act.put,List.setIfInBounds_toArray,List.set_cons_zero,List.set_cons_succ]
       refine Held.take 5 (v := .agg #[.int .i64 2, .int .i64 0, .int .u32 0, .int .u32 0, .int .u16 0, .slice none 0 0, .bool false, .slice A2 M c2]) rfl (by kernel_rfl) (by kernel_rfl) (by kernel_rfl) (fun _ _ _ h=>h) (Or.inl ⟨rfl,fun (W:World) hs=>by go_simp⟩) hD ?_
       try simp only [Act.put,List.setIfInBounds_toArray,List.set_cons_zero,List.set_cons_succ]
       have q3:=byt_up y3 (g2.trans g3 (by simp)) (by simp)
       have q1:=byt_up y1 g3 (by simp)
       have q2:=y2
       clear y1 y2 y3 g1 g2 g3
       have hb:=build8 A1 A2 A3 N M c1 c2 c3 W3
       refine Held.one (i:=15) (by kernel_rfl) rfl (fun K hK=>?_)
       go_simp
       try go_wp2_with fail
       refine hK.out _ _ (hD.alloc _) (fun hE=>?_)
       clear hK K hb hD
       have HA:=Lib.hid (acts8 q1 q2 q3)
       clear q1 q2 q3
       try simp only [Act.put,List.setIfInBounds_toArray,List.set_cons_zero,List.set_cons_succ]
       refine Held.one (i:=16) (by kernel_rfl) rfl (fun K hK=>?_)
       generalize W3.alloc _=W4 at *
       go_simp
       go_at_call 15
       refine (play_any does123 7 (by omega) (by omega) true W4 _ 8 8 _ HA.out (HKK.out _ _ _ _ _ _) (by simp [maxLen])).mono ?_
       rintro e w5 ⟨rfl,f5⟩
       try go_wp2_with fail
       refine hK.out _ _ (hE.trans f5 (by simp)) (fun hF=>?_)
       clear hK K
       try simp only [Act.put,List.setIfInBounds_toArray,List.set_cons_zero,List.set_cons_succ]
       refine Held.take 17 (v := .bool true) rfl (by kernel_rfl) (by kernel_rfl) (by kernel_rfl) (fun _ _ _ h=>h) (Or.inl ⟨rfl,fun (W:World) hs=>by go_simp⟩) hF ?_
       try simp only [Act.put,List.setIfInBounds_toArray,List.set_cons_zero,List.set_cons_succ]
       refine Held.done (by kernel_rfl) ?_
       go_wp2_with fail
       go_ret
       exact⟨rfl,hF⟩
      ·refine Held.make rfl (.tmp 23) rfl M rfl (by omega) ?_
       intro A2 c2 W2 y2 g2
       refine hK.out _ _ (hB.trans g2 (by simp)) (fun hC=>?_)
       clear hK K hB
       try simp only [Act.put,List.setIfInBounds_toArray,List.set_cons_zero,List.set_cons_succ]
       refine Held.take 5 (v := .agg #[.int .i64 2, .int .i64 0, .int .u32 0, .int .u32 0, .int .u16 0, .slice none 0 0, .bool false, .slice A2 M c2]) rfl (by kernel_rfl) (by kernel_rfl) (by kernel_rfl) (fun _ _ _ h=>h) (Or.inl ⟨rfl,fun (W:World) hs=>by go_simp⟩) hC ?_
       try simp only [Act.put,List.setIfInBounds_toArray,List.set_cons_zero,List.set_cons_succ]
       refine Held.one (i:=1) (by kernel_rfl) rfl (fun K hK=>?_)
       refine Held.make rfl (.tmp 20) rfl N rfl (by omega) ?_
       intro A1 c1 W3 y1 g3
       refine hK.out _ _ (hC.trans g3 (by simp)) (fun hD=>?_)
       clear hK K hC
       try simp only [Act.put,List.setIfInBounds_toArray,List.set_cons_zero,List.set_cons_succ]
       refine Held.take 2 (v := .agg #[.int .i64 2, .int .i64 0, .int .u32 0, .int .u32 0, .int .u16 0, .slice none 0 0, .bool false, .slice A1 N c1]) rfl (by kernel_rfl) (by kernel_rfl) (by kernel_rfl) (fun _ _ _ h=>h) (Or.inl ⟨rfl,fun (W:World) hs=>by go_simp⟩) hD ?_
       try simp only [Act.put,List.setIfInBounds_toArray,List.set_cons_zero,List.set_cons_succ]
       have q3:=byt_up y3 (g2.trans g3 (by simp)) (by simp)
       have q2:=byt_up y2 g3 (by simp)
       have q1:=y1
       clear y1 y2 y3 g1 g2 g3
       have hb:=build8 A1 A2 A3 N M c1 c2 c3 W3
       refine Held.one (i:=15) (by kernel_rfl) rfl (fun K hK=>?_)
       go_simp
       try go_wp2_with fail
       refine hK.out _ _ (hD.alloc _) (fun hE=>?_)
       clear hK K hb hD
       have HA:=Lib.hid (acts8 q1 q2 q3)
       clear q1 q2 q3
       try simp only [Act.put,List.setIfInBounds_toArray,List.set_cons_zero,List.set_cons_succ]
       refine Held.one (i:=16) (by kernel_rfl) rfl (fun K hK=>?_)
       generalize W3.alloc _=W4 at *
       go_simp
       go_at_call 15
       refine (play_any does123 7 (by omega) (by omega) true W4 _ 8 8 _ HA.out (HKK.out _ _ _ _ _ _) (by simp [maxLen])).mono ?_
       rintro e w5 ⟨rfl,f5⟩
       try go_wp2_with fail
       refine hK.out _ _ (hE.trans f5 (by simp)) (fun hF=>?_)
       clear hK K
       try simp only [Act.put,List.setIfInBounds_toArray,List.set_cons_zero,List.set_cons_succ]
       refine Held.take 17 (v := .bool true) rfl (by kernel_rfl) (by kernel_rfl) (by kernel_rfl) (fun _ _ _ h=>h) (Or.inl ⟨rfl,fun (W:World) hs=>by go_simp⟩) hF ?_
       try simp only [Act.put,List.setIfInBounds_toArray,List.set_cons_zero,List.set_cons_succ]
       refine Held.done (by kernel_rfl) ?_
       go_wp2_with fail
       go_ret
       exact⟨rfl,hF⟩
end Go.Proofs.YtmgdbbbdhkfdmaaGreat
