import Derived.Test.YtmgdbbbdhkfdmaaGreatYB26
import Derived.Deep.DeepCutAuto
set_option linter.unusedSimpArgs false
set_option linter.unusedVariables false
namespace Go.Proofs.YtmgdbbbdhkfdmaaGreat
set_option maxRecDepth 100000
open Go.RowKit Go.Deep
def DoesAll(K:Int→Prop):Prop:=
 ∀(S:Nat→Prop) (w:World) (H:Hd) (x:St) (av uv kv:Value),SI S w H x→RE S w x av uv kv→Fine x→∀ a:AC,K a.kind→AOk a→x.all.length≤990000→x.now+1≤1000000→∀(pA:Option Addr) (pc:Nat) (dA:Option Addr) (dc:Nat),Byt S w (.slice pA a.p.d.length pc) a.p.d→Byt S w (.slice dA a.d.length dc) a.d →
  Calls Tryz.prog 10 #[ptr H.g,agE x av uv kv, .agg (arA a pA pc dA dc)] w (DoPost S w H (doesV x a))
structure InPlay(w wr:World)(b9 k:Nat)(S:Nat→Prop)(H:Hd)(x:St)(av uv kv:Value):Prop where
 m:SI S wr H x
 r:RE S wr x av uv kv
 fx:Fine x
 al:x.all.length≤5000 * k
 nw:x.now≤k
 la:∀ b∈H.own,w.heap.size≤b
 b:Blk wr b9 41 (arE x av uv kv)
 nb:b9∉H.own
 ns:¬ S b9
 s0:∀ b,b<w.heap.size→S b
 f:Fr [] w wr
 n0:w.heap.size≤b9
theorem all_new(isn:Int)(c:Bool):(newSV isn c).1.all=[]∧(newSV isn c).1.now=0:=by
 unfold newSV
 cases c
 ·exact⟨rfl,rfl⟩
 ·exact⟨(rests_all _).1,(rests_all _).2⟩
theorem InPlay.step{w wr w2 w3:World}{b9 b12 k:Nat}{S S':Nat→Prop}{H H':Hd}{x y:St}{av uv kv a2 u2 k2:Value}(p:InPlay w wr b9 k S H x av uv kv){a:AC}(ha:AOk a)(hk:k<60)(hy:y=doesV x a)(e:Ext wr S S')(lk:Hd.like wr H H')(m:SI S' w2 H' y)(r:RE S' w2 y a2 u2 k2)(f:Fr H.own wr w2)
  (f3:Fr [b9,b12] w2 w3) (h12:¬ S' b12∧b12∉H'.own∧w.heap.size≤b12) (B:Blk w3 b9 41 (arE y a2 u2 k2)):InPlay w w3 b9 (k+1) S' H' y a2 u2 k2:=by
 have n9:b9<wr.heap.size:=p.b.lt
 have ns':¬ S' b9:=fun hs=>(e.2 _ hs).elim p.ns (fun h=>by omega)
 have nb':b9∉H'.own:=fun hb=>(lk.own _ hb).elim p.nb (fun h=>by omega)
 have hg:=does_grows x a
 have hS:∀ z∈[b9,b12],¬ S' z:=fun z hz=>by simp at hz;rcases hz with rfl|rfl;exact ns';exact h12.1
 have hO:∀ z∈[b9,b12],z∉H'.own:=fun z hz=>by simp at hz;rcases hz with rfl|rfl;exact nb';exact h12.2.1
 have hp:∀ b,S' b→b<w3.heap.size:=fun b hb=>Nat.lt_of_lt_of_le (HP.pub' m.hp b hb) f3.size
 have al:=p.al
 have nw:=p.nw
 have hd:=ha.dl
 refine⟨m.keep f3 hO hS (Ext.refl w2 S') hp,r.ext f3 hS (fun _ h=>h) hp,by rw [hy];exact does_fine p.fx ha (by omega) (by omega),?_,?_,fun b hb=>?_,B,nb',ns',fun b hb=>e.1 b (p.s0 b hb),?_,p.n0⟩
 ·rw [hy];have:=hg.all;omega
 ·rw [hy];have:=hg.now;omega
 ·rcases lk.own b hb with h|h
  ·exact p.la b h
  ·have:=p.f.size;omega
 ·exact (p.f.trans f (fun z hz => .inr (p.la z hz))).trans f3 (fun z hz => .inr (by simp at hz;rcases hz with rfl|rfl;exact p.n0;exact h12.2.2))
structure PlayMid(w wr wz:World)(b9 b12:Nat)(S S5:Nat→Prop)(H H5:Hd)(y:St)(a2 u2 k2:Value)(E9:Array Value):Prop where
 e:Ext wr S S5
 lk:Hd.like wr H H5
 m:SI S5 wz H5 y
 r:RE S5 wz y a2 u2 k2
 f:Fr H.own wr wz
 n12:¬ S5 b12∧b12∉H5.own∧w.heap.size≤b12
 B9:Blk wz b9 41 E9
 B12:Blk wz b12 41 (arE y a2 u2 k2)
 ne:b9≠b12
 nw:wr.heap.size≤b12
theorem mid_a{w wr wd w5 wz:World}{b9:Nat}{S S5:Nat→Prop}{H H5:Hd}{y:St}{a2 u2 k2:Value}{E9:Array Value}{o:Obj}(e:Ext wd S S5)(lk:Hd.like wd H H5)(m:SI S5 w5 H5 y)(r:RE S5 w5 y a2 u2 k2)(f:Fr H.own wd w5)(fd:Fr [] wr wd)(B9:Blk wr b9 41 E9)(hn:b9∉H.own)
  (hw:w.heap.size≤wr.heap.size) (Bz:Blk wz w5.heap.size 41 (arE y a2 u2 k2)) (Fz:Fr [w5.heap.size] (w5.alloc o) wz):PlayMid w wr wz b9 w5.heap.size S S5 H H5 y a2 u2 k2 E9:=by
 have fw6:Fr [] w5 wz:=((Fr.refl [] w5).alloc o).trans Fz (fun b hb => .inr (by simp at hb;omega))
 have h1:=fd.size
 have h2:=f.size
 have h7:Fr H.own wr wz:=((fd.mono (by simp)).trans f (fun b hb => .inl hb)).trans fw6 (by simp)
 have n12:¬ S5 w5.heap.size:=fun hs=>by have:=r.pub _ hs;omega
 exact⟨ext_up e h1,⟨lk.g,lk.gw,lk.gc,lk.gh,fun b hb=>(lk.own b hb).imp id (fun h=>by omega)⟩,m.fr fw6,r.fr fw6,h7,⟨n12,fun hb=>by have:=m.lt _ hb;omega,by omega⟩,B9.fr h7 hn,Bz,by have:=B9.lt;omega,by omega⟩
theorem mid_b{w wr wd w5 wz:World}{b9:Nat}{S S5:Nat→Prop}{H H5:Hd}{y:St}{a2 u2 k2:Value}{E9:Array Value}{o:Obj}(e:Ext (wd.alloc o) S S5)(lk:Hd.like (wd.alloc o) H H5)(m:SI S5 w5 H5 y)(r:RE S5 w5 y a2 u2 k2)(f:Fr H.own (wd.alloc o) w5)(fd:Fr [] wr wd)(B9:Blk wr b9 41 E9)(hn:b9∉H.own)
  (hw:w.heap.size≤wr.heap.size) (hS:∀ b,S b→b<wr.heap.size) (hO:∀ b∈H.own,b<wr.heap.size) (Bz:Blk wz wd.heap.size 41 (arE y a2 u2 k2)) (Fz:Fr [wd.heap.size] w5 wz):PlayMid w wr wz b9 wd.heap.size S S5 H H5 y a2 u2 k2 E9:=by
 have fa:Fr [] wr (wd.alloc o):=fd.alloc o
 have hz:(wd.alloc o).heap.size=wd.heap.size+1:=by simp
 have h1:=fd.size
 have h2:=f.size
 have h7:Fr H.own wr wz:=((fa.mono (by simp)).trans f (fun b hb => .inl hb)).trans Fz (fun b hb => .inr (by simp at hb;omega))
 have n12:¬ S5 wd.heap.size:=fun hs=>(e.2 _ hs).elim (fun h=>by have:=hS _ h;omega) (fun h=>by omega)
 have o12:wd.heap.size∉H5.own:=fun hb=>(lk.own _ hb).elim (fun h=>by have:=hO _ h;omega) (fun h=>by omega)
 exact⟨ext_up e fa.size,⟨lk.g,lk.gw,lk.gc,lk.gh,fun b hb=>(lk.own b hb).imp id (fun h=>by omega)⟩,m.far Fz n12 (fun b hb h=>o12 (h▸hb)),r.far Fz n12,h7,⟨n12,o12,by omega⟩,B9.fr h7 hn,Bz,by have:=B9.lt;omega,by omega⟩
def PlayRel(w:World)(b9 g n:Nat)(s11:Value)(wr:World):Prop:=∃ k S H x av uv kv,k≤n∧s11 = .int .i64 (k:Nat)∧H.g=g∧InPlay w wr b9 k S H x av uv kv
set_option maxHeartbeats 16000000 in
theorem play_any{K:Int→Prop}(hda:DoesAll K)(isn:Int)(i0:0≤isn)(i1:isn<4294967296)(calls:Bool)(w:World)(A:Option Addr)(n c:Nat)(f:Nat→AC)(h:Acts w w.heap.size A n f)(hkd:∀ i,i<n→K (f i).kind)(hn:n≤maxLen):Calls Tryz.prog 15 #[.int .u32 isn, .bool calls, .slice A n c] w fun e w'=>e = .returned (.bool true)∧Fr [] w w':=by
 have hfew:=few_any w w.heap.size A n c f h (Nat.le_refl _) hn
 unfold maxLen at hn
 have H0:=Lib.hid h
 have HDA:=Lib.hid hda
 have HKD:=Lib.hid hkd
 clear hda hkd
 have HFEW:=Lib.hid hfew
 clear h hfew
 go_enter Tryz.func15,Tryz.ntmps15
 go_wp2_with fail
 refine HFEW.out.mono ?_
 rintro e w1 ⟨few,rfl,f1,hf⟩
 rcases Bool.eq_false_or_eq_true few with rfl|rfl
 ·obtain⟨hn60,hd⟩:=hf rfl
  have HD:=Lib.hid hd
  have F1:=Lib.hid f1
  have HFINE:=Lib.hid (Fine.new isn calls i0 i1)
  have HALL:=Lib.hid (all_new isn calls)
  have hnew:=new_si (fun b=>b<w.heap.size) isn calls w1 (fun b hb=>Nat.lt_of_lt_of_le hb f1.size)
  have hen:=fun (S2:Nat→Prop) (W:World) (hp:∀ b,S2 b→b<W.heap.size)=>enew S2 isn i0 i1 calls W hp
  generalize newSV isn calls=R at *
  obtain⟨x,Rl⟩:=R
  have HNEW:=Lib.hid hnew
  have HEN:=Lib.hid hen
  clear hf f1 hd hnew hen HFEW
  go_upto_region 4 with (go_at_call 8;refine HNEW.out.mono ?_;rintro e w2 ⟨S2,H,v2,L2,rfl,hL2,x2,ma,pr2,n2,f2,la⟩)
  have HEN2:=Lib.hid (HEN.out S2 w2 (HP.pub' ma.hp))
  have MA:=Lib.hid ma
  have PR2:=Lib.hid pr2
  have X2:=Lib.hid x2
  have F2:=Lib.hid f2
  have LA:=Lib.hid la
  have HL2:=Lib.hid hL2
  clear ma pr2 x2 f2 la n2 hL2 HNEW HEN
  go_upto_region 5 with (first
   | (go_at_call 9;refine HEN2.out.mono ?_;rintro e w3 ⟨S3,av,uv,kv,v3,L3,rfl,hL3,x3,r3,p3,f3⟩;have o1:=r3.cells1)
   | ((with_reducible refine gate_store 41 (.tmp 9) ?_);refine wpList_store_blk rfl 41 (.tmp 9) (.tmp 28) rfl w3.heap.size 41 endZ (arE x av uv kv) rfl rfl (Blk.new w3 41 endZ) rfl (by kernel_rfl) (by first|exact o1.out _|exact o2.out _|simp [Value.oneCell']) ?_;intro w4 B4 F4))
  have fa:Fr [] w3 (w3.alloc (.cells endZ 41)):=(Fr.refl [] w3).alloc _
  have f24:Fr [] w2 w4:=(f3.trans fa (by simp)).trans F4 (fun b hb => .inr (by simp at hb;have:=f3.size;omega))
  have ns9:¬ S3 w3.heap.size:=fun hs=>by have:=r3.pub _ hs;omega
  have m4:SI S3 w4 H x:=(MA.out.ext f3 x3 r3.pub).fr fa |>.far F4 ns9 (fun y hy=>by have:=MA.out.lt y hy;have:=f3.size;omega)
  have r4:RE S3 w4 x av uv kv:=(r3.fr fa).far F4 ns9
  have p34:=(p3.fr fa (by simp) (by simp) (fun _ h=>h)).fr F4 (fun z hz hs=>by simp at hz;subst hz;exact ns9 hs) (fun b hb hm=>by simp at hm;have:=own_lt p3.own (mem_ob.1 hb);omega) (fun _ h=>h)
  have p24:=PR2.out.fr f24 (by simp) (by simp) (fun _ h=>h)
  have hz1:=F1.out.size
  have hz2:=F2.out.size
  have hz3:=f3.size
  have ip:InPlay w w4 w3.heap.size 0 S3 H x av uv kv:=⟨m4,r4,HFINE.out,by rw [HALL.out.1];simp,by rw [HALL.out.2];simp,fun b hb=>by have:=LA.out b hb;omega,B4,fun hb=>by have:=MA.out.lt _ hb;omega,ns9,fun b hb=>x3.1 b (X2.out.1 b hb),(F1.out.trans F2.out (by simp)).trans f24 (by simp),by omega⟩
  have HLL:Hid (L2.map (·.1)=L3.map (·.1)):=Lib.hid (by rw [HL2.out,hL3])
  have IP:=Lib.hid ip
  have P24:=Lib.hid p24
  have P34:=Lib.hid p34
  have HFX:=Lib.hid HFINE.out.ok.s
  have SIs:Hid (∀ W,Fr [] w4 W→Calls Tryz.prog 13 #[ptr H.g] W fun e w'=>e = .returned (.agg (stA x))∧Fr [] W w'):=Lib.hid (fun W f=>state_si (IP.out.m.fr f) HFX.out)
  have REs:Hid (∀ W,Fr [] w4 W→Calls Tryz.prog 14 #[agE x av uv kv] W fun e w'=>e = .returned (.agg (stA x))∧Fr [] W w'):=Lib.hid (fun W f=>estate (IP.out.r.fr f))
  have V9:Hid (∀ W,Fr [] w4 W→Blk W w3.heap.size 41 (arE x av uv kv)):=Lib.hid (fun W f=>IP.out.b.fr f (by simp))
  obtain⟨g,hg⟩:∃ g,H.g=g:=⟨_,rfl⟩
  rw [hg] at SIs ⊢
  have HG:=Lib.hid hg
  generalize w3.heap.size=b9 at *
  clear fa f24 ns9 m4 r4 p34 p24 ip hz1 hz2 hz3 f3 x3 r3 p3 B4 F4 hL3 MA PR2 X2 F2 LA HL2 HEN2 HFINE HALL hg
  refine wp_region_held_drew (S:=fun W=>Fr [] w4 W) (by kernel_rfl) (Fr.refl _ w4).drew (fun hH=>?_)
  have fd:Fr [] w4 w4.drew:=(Fr.refl [] w4).drew
  generalize w4.drew=wd at *
  have hWW0:=fd
  refine Held.take 0 (v:=v2) rfl (by kernel_rfl) (by kernel_rfl) (by kernel_rfl) (fun _ _ _ h=>h) (Or.inl ⟨rfl,fun (W:World) hs=>by go_simp⟩) hH ?_
  try simp only [Act.put,List.setIfInBounds_toArray,List.set_cons_zero,List.set_cons_succ]
  refine Held.take 1 (v:=v3) rfl (by kernel_rfl) (by kernel_rfl) (by kernel_rfl) (fun _ _ _ h=>h) (Or.inl ⟨rfl,fun (W:World) hs=>by go_simp⟩) hH ?_
  try simp only [Act.put,List.setIfInBounds_toArray,List.set_cons_zero,List.set_cons_succ]
  refine Held.one (i:=2) (by kernel_rfl) rfl (fun K hK=>?_)
  go_simp
  go_at_call 30
  refine (esame (P24.out.fr fd (by simp) (by simp) (fun _ h=>h)) (P34.out.fr fd (by simp) (by simp) (fun _ h=>h)) HLL.out).mono ?_
  rintro e ws ⟨rfl,fs⟩
  try go_wp2_with fail
  refine hK.out _ _ (hH.trans fs (by simp)) (fun h3=>?_)
  clear hK K
  try simp only [Act.put,List.setIfInBounds_toArray,List.set_cons_zero,List.set_cons_succ]
  have hWW:=fd.trans fs (by simp)
  refine Held.take 3 (v := .bool false) rfl (by kernel_rfl) (by kernel_rfl) (by kernel_rfl) (fun _ _ _ h=>h) (Or.inl ⟨rfl,fun (W:World) hs=>by go_simp⟩) h3 ?_
  try simp only [Act.put,List.setIfInBounds_toArray,List.set_cons_zero,List.set_cons_succ]
  refine Held.take 4 (v := .bool false) rfl (by kernel_rfl) (by kernel_rfl) (by kernel_rfl) (fun _ _ _ h=>h) (Or.inl ⟨rfl,fun (W:World) hs=>by go_simp⟩) h3 ?_
  try simp only [Act.put,List.setIfInBounds_toArray,List.set_cons_zero,List.set_cons_succ]
  refine Held.take 5 (v:=ptr g) rfl (by kernel_rfl) (by kernel_rfl) (by kernel_rfl) (fun _ _ _ h=>h) (Or.inl ⟨rfl,fun (W:World) hs=>by go_simp⟩) h3 ?_
  try simp only [Act.put,List.setIfInBounds_toArray,List.set_cons_zero,List.set_cons_succ]
  refine Held.take 7 rfl (by kernel_rfl) (by kernel_rfl) (by kernel_rfl) (fun _ _ _ h=>h) (Held.y_blk rfl 41 (.tmp 9) rfl b9 41 (arE x av uv kv) _ rfl (fun _ hs=>V9.out _ hs) Tryz.underlying41 rfl (by kernel_rfl)) h3 ?_
  try simp only [Act.put,List.setIfInBounds_toArray,List.set_cons_zero,List.set_cons_succ]
  refine Held.one (i:=6) (by kernel_rfl) rfl (fun K hK=>?_)
  rw [if_pos (by rfl)]
  go_simp
  go_at_call 13
  refine ((SIs.out _ hWW).mono ?_)
  rintro e wu ⟨rfl,fu⟩
  try go_wp2_with fail
  refine hK.out _ _ (h3.trans fu (by simp)) (fun hu=>?_)
  clear hK K
  try simp only [Act.put,List.setIfInBounds_toArray,List.set_cons_zero,List.set_cons_succ]
  have hWU:=hWW.trans fu (by simp)
  refine Held.one (i:=8) (by kernel_rfl) rfl (fun K hK=>?_)
  rw [if_pos (by rfl)]
  go_simp
  go_at_call 14
  refine ((REs.out _ hWU).mono ?_)
  rintro e wv ⟨rfl,fv⟩
  try go_wp2_with fail
  refine hK.out _ _ (hu.trans fv (by simp)) (fun hv=>?_)
  clear hK K
  try simp only [Act.put,List.setIfInBounds_toArray,List.set_cons_zero,List.set_cons_succ]
  have hWV:=hWU.trans fv (by simp)
  refine Held.take 9 (v := .bool false) rfl (by kernel_rfl) (by kernel_rfl) (by kernel_rfl) (fun _ _ _ h=>h) (Or.inl ⟨rfl,fun (W:World) hs=>by have d1:=neq_stA x W;have d2:=eqgForm;go_simp⟩) hv ?_
  try simp only [Act.put,List.setIfInBounds_toArray,List.set_cons_zero,List.set_cons_succ]
  refine Held.take 10 (v := .bool false) rfl (by kernel_rfl) (by kernel_rfl) (by kernel_rfl) (fun _ _ _ h=>h) (Or.inl ⟨rfl,fun (W:World) hs=>by go_simp⟩) hv ?_
  try simp only [Act.put,List.setIfInBounds_toArray,List.set_cons_zero,List.set_cons_succ]
  refine Held.done (by kernel_rfl) ?_
  have FXY:=Lib.hid (show True from trivial)
  go_upto_region 7 with fail
  have hst:PlayRel w b9 g n (.int .i64 (0:Nat)) wv:=⟨0,S3,H,x,av,uv,kv,Nat.zero_le _,rfl,HG.out,by
   have q:=IP.out
   exact⟨q.m.fr hWV,q.r.fr hWV,q.fx,q.al,q.nw,q.la,q.b.fr hWV (by simp),q.nb,q.ns,q.s0,q.f.trans hWV (by simp),q.n0⟩⟩
  have HST:=Lib.hid hst
  clear hst hv hu hWV hWU hWW fv fu h3 hH fd fs SIs REs V9 IP P24 P34 HFX HG HLL o1 hWW0
  go_wp2_with fail
  go_loopw [11] (fun s11 wr=>PlayRel w b9 g n s11 wr) (fun s11 _=>n - (intOf s11).toNat)
  case atStart=>exact HST.out
  case round=>
   obtain⟨k,S,H,x,av,uv,kv,hk,rfl,hg,ip⟩:=hrel
   have IP:=Lib.hid ip
   have HG:=Lib.hid hg
   have o1:=ip.r.cells1
   clear HST
   by_cases hkn:k<n
   ·have dk:decide ((k:Int)<(n:Int))=true:=by simpa using hkn
    have hacts:∀ W,Fr H.own wr W→Acts W w.heap.size A n f:=fun W fW=>(H0.out.fr ip.f (Nat.le_refl _) (by simp)).fr fW ip.f.size (fun b hb=>ip.la b hb)
    obtain⟨hnum,ab,ao,pA,pc,dA,dc,rfl,hab,hcell,hpb,hdb⟩:=hacts wr (Fr.refl _ _) k hkn
    have hcells:∀ W,Fr H.own wr W→∀ j v,(arA (f k) pA pc dA dc)[j]?=some v→W.cell? ⟨ab,ao+k * 8+j,none⟩=some v:=fun W fW j v hj=>(fW.cell (p:=⟨ab,ao+k * 8+j,none⟩) (by have:=ip.f.size;show ab<_;omega) (fun hm=>by have:=ip.la _ hm;dsimp only at this;omega)).trans (hcell j v hj)
    have haok:=hnum.ok (HD.out k hkn).2 (HD.out k hkn).1
    have hdo:=fun W (fW:Fr [] wr W)=>HDA.out S W H x av uv kv (ip.m.fr fW) (ip.r.fr fW) ip.fx (f k) (HKD.out k hkn) haok (by have:=ip.al;omega) (by have:=ip.nw;omega) pA pc dA dc ((hpb.mono ip.s0).fr fW (by simp)) ((hdb.mono ip.s0).fr fW (by simp))
    rw [hg] at hdo
    generalize hyy:doesV x (f k)=y at *
    have HYY:=Lib.hid hyy
    have HDO:Hid (∀ W,Fr [] wr W→Calls Tryz.prog 10 #[ptr g,agE x av uv kv, .agg (arA (f k) pA pc dA dc)] W (DoPost S W H y)):=Lib.hid hdo
    have HC:=Lib.hid hcells
    have HAOK:=Lib.hid haok
    clear hacts hnum hcell hpb hdb hcells haok hdo hyy ip hg
    go_upto_region 10 with fail
    have HLT:Hid (∀ b∈H.own,b<wr.heap.size):=Lib.hid IP.out.m.lt
    have HSP:Hid (∀ b,S b→b<wr.heap.size):=Lib.hid (HP.pub' IP.out.m.hp)
    go_cut [12,13] (fun s12 s13 wx=>∃ wz b12 S5 H5 a2 u2 k2,wz=wx∧s12=ptr b12∧s13 = .bool true∧PlayMid w wr wx b9 b12 S S5 H H5 y a2 u2 k2 (arE x av uv kv))
    case first=>
     refine wp_region_held_drew (S:=fun W=>Fr H.own wr W) (by kernel_rfl) (Fr.refl _ wr).drew (fun hH=>?_)
     have fd:Fr [] wr wr.drew:=(Fr.refl [] wr).drew
     generalize wr.drew=wd at *
     refine Held.take 0 (v:=ptr g) rfl (by kernel_rfl) (by kernel_rfl) (by kernel_rfl) (fun _ _ _ h=>h) (Or.inl ⟨rfl,fun (W:World) hs=>by go_simp⟩) hH ?_
     try simp only [Act.put,List.setIfInBounds_toArray,List.set_cons_zero,List.set_cons_succ]
     refine Held.take 1 rfl (by kernel_rfl) (by kernel_rfl) (by kernel_rfl) (fun _ _ _ h=>h) (Held.y_blk rfl 41 (.tmp 9) rfl b9 41 (arE x av uv kv) _ rfl (fun _ hs=>IP.out.b.fr hs IP.out.nb) Tryz.underlying41 rfl (by kernel_rfl)) hH ?_
     try simp only [Act.put,List.setIfInBounds_toArray,List.set_cons_zero,List.set_cons_succ]
     refine Held.take 2 (v := .slice (some ⟨ab,ao,none⟩) n c) rfl (by kernel_rfl) (by kernel_rfl) (by kernel_rfl) (fun _ _ _ h=>h) (Or.inl ⟨rfl,fun (W:World) hs=>by go_simp⟩) hH ?_
     try simp only [Act.put,List.setIfInBounds_toArray,List.set_cons_zero,List.set_cons_succ]
     refine Held.take 3 (v := .int .i64 (k:Nat)) rfl (by kernel_rfl) (by kernel_rfl) (by kernel_rfl) (fun _ _ _ h=>h) (Or.inl ⟨rfl,fun (W:World) hs=>by go_simp⟩) hH ?_
     try simp only [Act.put,List.setIfInBounds_toArray,List.set_cons_zero,List.set_cons_succ]
     refine Held.take 4 (v := .pointer (some ⟨ab,ao+k * 8,none⟩)) rfl (by kernel_rfl) (by kernel_rfl) (by kernel_rfl) (fun _ _ _ h=>h) (Or.inl ⟨rfl,fun (W:World) hs=>by go_simp⟩) hH ?_
     try simp only [Act.put,List.setIfInBounds_toArray,List.set_cons_zero,List.set_cons_succ]
     refine Held.take 5 (v := .agg #[.int .i64 (f k).kind, .int .i64 (f k).p.flags, .int .u32 (f k).p.seq, .int .u32 (f k).p.ack, .int .u16 (f k).p.win, .slice pA (f k).p.d.length pc, .bool (f k).near, .slice dA (f k).d.length dc]) rfl (by kernel_rfl) (by kernel_rfl) (by kernel_rfl) (fun _ _ _ h=>h) (Or.inl ⟨rfl,fun (W:World) hs=>by have d:=acells (HC.out W hs);obtain⟨d0,d1,d2,d3,d4,d5,d6,d7⟩:=d;go_simp⟩) hH ?_
     try simp only [Act.put,List.setIfInBounds_toArray,List.set_cons_zero,List.set_cons_succ]
     refine Held.two (i:=6) (j:=10) (by kernel_rfl) rfl rfl (fun K hK=>?_) (fun K hK=>?_)
     all_goals rw [if_pos (by rfl)]
     ·go_simp
      go_at_call 10
      refine (HDO.out wd fd).mono ?_
      rintro e w5 ⟨S5,H5,a2,u2,k2,rfl,e5,lk5,m5,r5,f5⟩
      have o2:=r5.cells1
      have fd5:Fr H.own wr w5:=(fd.mono (by simp)).trans f5 (fun b hb => .inl hb)
      try go_wp2_with fail
      refine hK.out _ _ fd5 (fun h5=>?_)
      clear hK K hH
      try simp only [Act.put,List.setIfInBounds_toArray,List.set_cons_zero,List.set_cons_succ]
      refine Held.take 7 (v := .tuple #[agE y a2 u2 k2, .bool true]) rfl (by kernel_rfl) (by kernel_rfl) (by kernel_rfl) (fun _ _ _ h=>h) (Or.inl ⟨rfl,fun (W:World) hs=>by go_simp⟩) h5 ?_
      try simp only [Act.put,List.setIfInBounds_toArray,List.set_cons_zero,List.set_cons_succ]
      refine Held.take 8 (v:=agE y a2 u2 k2) rfl (by kernel_rfl) (by kernel_rfl) (by kernel_rfl) (fun _ _ _ h=>h) (Or.inl ⟨rfl,fun (W:World) hs=>by go_simp⟩) h5 ?_
      try simp only [Act.put,List.setIfInBounds_toArray,List.set_cons_zero,List.set_cons_succ]
      refine Held.take 9 (v := .bool true) rfl (by kernel_rfl) (by kernel_rfl) (by kernel_rfl) (fun _ _ _ h=>h) (Or.inl ⟨rfl,fun (W:World) hs=>by go_simp⟩) h5 ?_
      try simp only [Act.put,List.setIfInBounds_toArray,List.set_cons_zero,List.set_cons_succ]
      refine Held.one (i:=10) (by kernel_rfl) rfl (fun K hK=>?_)
      go_simp
      try go_wp2_with fail
      refine hK.out _ _ (h5.alloc _) (fun h6=>?_)
      clear hK K
      try simp only [Act.put,List.setIfInBounds_toArray,List.set_cons_zero,List.set_cons_succ]
      refine Held.one (i:=11) (by kernel_rfl) rfl (fun K hK=>?_)
      refine Held.st_blk rfl 41 (.tmp 12) (.tmp 55) rfl w5.heap.size 41 endZ (arE y a2 u2 k2) rfl rfl (Blk.new w5 41 endZ) rfl (by kernel_rfl) (o2.out _) ?_
      intro wz Bz Fz
      refine hK.out _ _ (h6.trans Fz (fun z hz => .inr (by simp at hz;have:=fd5.size;omega))) (fun h7=>?_)
      clear hK K
      try simp only [Act.put,List.setIfInBounds_toArray,List.set_cons_zero,List.set_cons_succ]
      refine Held.take 12 (v := .bool true) rfl (by kernel_rfl) (by kernel_rfl) (by kernel_rfl) (fun _ _ _ h=>h) (Or.inl ⟨rfl,fun (W:World) hs=>by go_simp⟩) h7 ?_
      try simp only [Act.put,List.setIfInBounds_toArray,List.set_cons_zero,List.set_cons_succ]
      refine Held.done (by kernel_rfl) ?_
      go_wp2_with fail
      go_meet
      exact⟨_,_,S5,H5,a2,u2,k2,rfl,rfl,rfl,mid_a e5 lk5 m5 r5 f5 fd IP.out.b IP.out.nb IP.out.f.size Bz Fz⟩
     ·go_simp
      try go_wp2_with fail
      refine hK.out _ _ (hH.alloc _) (fun h5=>?_)
      clear hK K
      try simp only [Act.put,List.setIfInBounds_toArray,List.set_cons_zero,List.set_cons_succ]
      refine Held.one (i:=6) (by kernel_rfl) rfl (fun K hK=>?_)
      go_simp
      go_at_call 10
      refine (HDO.out (wd.alloc (.cells endZ 41)) (fd.alloc _)).mono ?_
      rintro e w5 ⟨S5,H5,a2,u2,k2,rfl,e5,lk5,m5,r5,f5⟩
      have o2:=r5.cells1
      have fd5:Fr H.own wr w5:=((fd.alloc _).mono (by simp)).trans f5 (fun b hb => .inl hb)
      have Ba:Blk w5 wd.heap.size 41 endZ:=(Blk.new wd 41 endZ).fr f5 (fun hb=>by have:=HLT.out _ hb;have:=fd.size;omega)
      try go_wp2_with fail
      refine hK.out _ _ fd5 (fun h6=>?_)
      clear hK K hH h5
      try simp only [Act.put,List.setIfInBounds_toArray,List.set_cons_zero,List.set_cons_succ]
      refine Held.take 7 (v := .tuple #[agE y a2 u2 k2, .bool true]) rfl (by kernel_rfl) (by kernel_rfl) (by kernel_rfl) (fun _ _ _ h=>h) (Or.inl ⟨rfl,fun (W:World) hs=>by go_simp⟩) h6 ?_
      try simp only [Act.put,List.setIfInBounds_toArray,List.set_cons_zero,List.set_cons_succ]
      refine Held.take 8 (v:=agE y a2 u2 k2) rfl (by kernel_rfl) (by kernel_rfl) (by kernel_rfl) (fun _ _ _ h=>h) (Or.inl ⟨rfl,fun (W:World) hs=>by go_simp⟩) h6 ?_
      try simp only [Act.put,List.setIfInBounds_toArray,List.set_cons_zero,List.set_cons_succ]
      refine Held.take 9 (v := .bool true) rfl (by kernel_rfl) (by kernel_rfl) (by kernel_rfl) (fun _ _ _ h=>h) (Or.inl ⟨rfl,fun (W:World) hs=>by go_simp⟩) h6 ?_
      try simp only [Act.put,List.setIfInBounds_toArray,List.set_cons_zero,List.set_cons_succ]
      refine Held.one (i:=11) (by kernel_rfl) rfl (fun K hK=>?_)
      refine Held.st_blk rfl 41 (.tmp 12) (.tmp 55) rfl wd.heap.size 41 endZ (arE y a2 u2 k2) rfl rfl Ba rfl (by kernel_rfl) (o2.out _) ?_
      intro wz Bz Fz
      refine hK.out _ _ (h6.trans Fz (fun z hz => .inr (by simp at hz;have:=fd.size;omega))) (fun h7=>?_)
      clear hK K
      try simp only [Act.put,List.setIfInBounds_toArray,List.set_cons_zero,List.set_cons_succ]
      refine Held.take 12 (v := .bool true) rfl (by kernel_rfl) (by kernel_rfl) (by kernel_rfl) (fun _ _ _ h=>h) (Or.inl ⟨rfl,fun (W:World) hs=>by go_simp⟩) h7 ?_
      try simp only [Act.put,List.setIfInBounds_toArray,List.set_cons_zero,List.set_cons_succ]
      refine Held.done (by kernel_rfl) ?_
      go_wp2_with fail
      go_meet
      exact⟨_,_,S5,H5,a2,u2,k2,rfl,rfl,rfl,mid_b e5 lk5 m5 r5 f5 fd IP.out.b IP.out.nb IP.out.f.size HSP.out HLT.out Bz Fz⟩
    case rest=>
    obtain⟨wz,b12,S5,H5,a2,u2,k2,rfl,rfl,rfl,pm⟩:=hcut
    have o2:=pm.r.cells1
    have E5:Hid (Ext wr S S5):=Lib.hid pm.e
    have LK5:Hid (Hd.like wr H H5):=Lib.hid pm.lk
    have M6:=Lib.hid pm.m
    have R6:=Lib.hid pm.r
    have FW6:Hid (Fr H.own wr wz):=Lib.hid pm.f
    have N12:=Lib.hid pm.n12
    have B9:=Lib.hid pm.B9
    have B12:=Lib.hid pm.B12
    have NE:=Lib.hid pm.ne
    have HG5:Hid (H5.g=g):=Lib.hid (pm.lk.g.trans HG.out)
    clear pm HDO HC HLT HSP
    have FY:Hid (OkS y):=Lib.hid (by rw [← HYY.out];exact (does_fine IP.out.fx HAOK.out (by have:=IP.out.al;omega) (by have:=IP.out.nw;omega)).ok.s)
    have SIs:Hid (∀ W,Fr [] wz W→Calls Tryz.prog 13 #[ptr g] W fun e w'=>e = .returned (.agg (stA y))∧Fr [] W w'):=Lib.hid (fun W fW=>by have:=state_si (M6.out.fr fW) FY.out;rw [HG5.out] at this;exact this)
    have REs:Hid (∀ W,Fr [] wz W→Calls Tryz.prog 14 #[agE y a2 u2 k2] W fun e w'=>e = .returned (.agg (stA y))∧Fr [] W w'):=Lib.hid (fun W fW=>estate (R6.out.fr fW))
    have B12f:Hid (∀ W,Fr [] wz W→Blk W b12 41 (arE y a2 u2 k2)):=Lib.hid (fun W fW=>B12.out.fr fW (by simp))
    go_upto_region 11 with fail
    refine wp_region_held_drew (S:=fun W=>Fr [] wz W) (by kernel_rfl) (Fr.refl _ wz).drew (fun hH=>?_)
    have fd:Fr [] wz wz.drew:=(Fr.refl [] wz).drew
    generalize wz.drew=wd at *
    refine Held.take 0 (v := .bool true) rfl (by kernel_rfl) (by kernel_rfl) (by kernel_rfl) (fun _ _ _ h=>h) (Or.inl ⟨rfl,fun (W:World) hs=>by go_simp⟩) hH ?_
    try simp only [Act.put,List.setIfInBounds_toArray,List.set_cons_zero,List.set_cons_succ]
    refine Held.take 1 (v := .bool false) rfl (by kernel_rfl) (by kernel_rfl) (by kernel_rfl) (fun _ _ _ h=>h) (Or.inl ⟨rfl,fun (W:World) hs=>by go_simp⟩) hH ?_
    try simp only [Act.put,List.setIfInBounds_toArray,List.set_cons_zero,List.set_cons_succ]
    refine Held.take 2 (v := .bool false) rfl (by kernel_rfl) (by kernel_rfl) (by kernel_rfl) (fun _ _ _ h=>h) (Or.inl ⟨rfl,fun (W:World) hs=>by go_simp⟩) hH ?_
    try simp only [Act.put,List.setIfInBounds_toArray,List.set_cons_zero,List.set_cons_succ]
    have hWW:=fd
    refine Held.take 3 (v:=ptr g) rfl (by kernel_rfl) (by kernel_rfl) (by kernel_rfl) (fun _ _ _ h=>h) (Or.inl ⟨rfl,fun (W:World) hs=>by go_simp⟩) hH ?_
    try simp only [Act.put,List.setIfInBounds_toArray,List.set_cons_zero,List.set_cons_succ]
    refine Held.take 5 rfl (by kernel_rfl) (by kernel_rfl) (by kernel_rfl) (fun _ _ _ h=>h) (Held.y_blk rfl 41 (.tmp 12) rfl b12 41 (arE y a2 u2 k2) _ rfl (fun _ hs=>B12f.out _ hs) Tryz.underlying41 rfl (by kernel_rfl)) hH ?_
    try simp only [Act.put,List.setIfInBounds_toArray,List.set_cons_zero,List.set_cons_succ]
    refine Held.one (i:=4) (by kernel_rfl) rfl (fun K hK=>?_)
    rw [if_pos (by rfl)]
    go_simp
    go_at_call 13
    refine ((SIs.out _ hWW).mono ?_)
    rintro e wu ⟨rfl,fu⟩
    try go_wp2_with fail
    refine hK.out _ _ (hH.trans fu (by simp)) (fun hu=>?_)
    clear hK K
    try simp only [Act.put,List.setIfInBounds_toArray,List.set_cons_zero,List.set_cons_succ]
    have hWU:=hWW.trans fu (by simp)
    refine Held.one (i:=6) (by kernel_rfl) rfl (fun K hK=>?_)
    rw [if_pos (by rfl)]
    go_simp
    go_at_call 14
    refine ((REs.out _ hWU).mono ?_)
    rintro e wv ⟨rfl,fv⟩
    try go_wp2_with fail
    refine hK.out _ _ (hu.trans fv (by simp)) (fun hv=>?_)
    clear hK K
    try simp only [Act.put,List.setIfInBounds_toArray,List.set_cons_zero,List.set_cons_succ]
    have hWV:=hWU.trans fv (by simp)
    refine Held.take 7 (v := .bool false) rfl (by kernel_rfl) (by kernel_rfl) (by kernel_rfl) (fun _ _ _ h=>h) (Or.inl ⟨rfl,fun (W:World) hs=>by have d1:=neq_stA x W;have d2:=eqgForm;go_simp⟩) hv ?_
    try simp only [Act.put,List.setIfInBounds_toArray,List.set_cons_zero,List.set_cons_succ]
    refine Held.take 8 (v := .bool false) rfl (by kernel_rfl) (by kernel_rfl) (by kernel_rfl) (fun _ _ _ h=>h) (Or.inl ⟨rfl,fun (W:World) hs=>by go_simp⟩) hv ?_
    try simp only [Act.put,List.setIfInBounds_toArray,List.set_cons_zero,List.set_cons_succ]
    refine Held.done (by kernel_rfl) ?_
    go_upto_region 13 with fail
    go_upto_region 9 with (first
     | ((with_reducible refine gate_load 41 (.tmp 12) ?_);refine wpList_load_blk rfl 41 (.tmp 12) rfl b12 41 (arE y a2 u2 k2) _ rfl (B12f.out _ hWV) Tryz.underlying41 rfl (by kernel_rfl) ?_)
     | ((with_reducible refine gate_store 41 (.tmp 9) ?_);refine wpList_store_blk rfl 41 (.tmp 9) (.tmp 66) rfl b9 41 (arE x av uv kv) (arE y a2 u2 k2) rfl rfl (B9.out.fr hWV (by simp)) rfl (by kernel_rfl) (o2.out _) ?_;intro wy By Fy))
    have hip:InPlay w wy b9 (k+1) S5 H5 y a2 u2 k2:=IP.out.step (w2:=wv) HAOK.out (by omega) HYY.out.symm E5.out LK5.out (M6.out.fr hWV) (R6.out.fr hWV) (FW6.out.trans hWV (by simp)) (Fy.mono (by simp)) N12.out By
    have hrel:PlayRel w b9 g n (.int .i64 ((k+1:Nat):Int)) wy:=⟨k+1,S5,H5,y,a2,u2,k2,by omega,rfl,HG5.out,hip⟩
    have HREL:=Lib.hid hrel
    clear hip hrel By Fy
    go_wp2_with fail
    go_roundw
    case rel=>simpa using HREL.out
    case measure=>simp [intOf];omega
   ·obtain rfl:n=k:=by omega
    clear o1
    go_wp2_with fail
    refine (known_any _).mono ?_
    rintro e wk ⟨rfl,fk⟩
    have fend:=IP.out.f.trans fk (by simp)
    clear fk
    go_wp2_with fail
    go_ret
    exact⟨rfl,fend⟩
 ·clear hf HFEW
  go_wp2_with fail
  refine (known_any _).mono ?_
  rintro e w2 ⟨rfl,f2⟩
  have f12:=f1.trans f2 (by simp)
  clear f1 f2
  go_wp2_with fail
  go_ret
  exact⟨rfl,f12⟩
end Go.Proofs.YtmgdbbbdhkfdmaaGreat
