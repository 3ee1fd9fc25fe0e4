import Derived.Test.YtmgdbbbdhkfdmaaGreatYS26
import Derived.Deep.DeepCutAuto
import Derived.Deep.OwnRows
import Derived.Laws.OwnMore
set_option linter.unusedSimpArgs false
set_option linter.unusedVariables false
namespace Go.Proofs.YtmgdbbbdhkfdmaaGreat
set_option maxRecDepth 100000
open Go.RowKit Go.Deep
def DoesAll(K:Int→Prop):Prop:=
 ∀(S:Nat→Prop) (w:World) (H:Hd) (x:St) (av uv kv:Value),SI S w H x→RE S w x av uv kv→Fine x→∀ a:AC,K a.kind→AOk a→x.all.length≤990000→x.now+1≤1000000→∀(pA:Option Addr) (pc:Nat) (dA:Option Addr) (dc:Nat),Byt S w (.slice pA a.p.d.length pc) a.p.d→Byt S w (.slice dA a.d.length dc) a.d →
  Calls Tryz.prog 10 #[ptr H.g,agE x av uv kv, .agg (arA a pA pc dA dc)] w (DoPost S w H (doesV x a))
structure InPlay(w wr:World)(b9 k:Nat)(S:Nat→Prop)(H:Hd)(x:St)(av uv kv:Value):Prop where
 m:SI S wr H x
 r:RE S wr x av uv kv
 fx:Fine x
 al:x.all.length≤5000 * k
 nw:x.now≤k
 la:∀ b∈H.own,w.heap.size≤b
 b:Blk wr b9 41 (arE x av uv kv)
 nb:b9∉H.own
 ns:¬ S b9
 s0:∀ b,b<w.heap.size→S b
 f:Fr [] w wr
 n0:w.heap.size≤b9
theorem all_new(isn:Int)(c:Bool):(newSV isn c).1.all=[]∧(newSV isn c).1.now=0:=by
 unfold newSV
 cases c
 ·exact⟨rfl,rfl⟩
 ·exact⟨(rests_all _).1,(rests_all _).2⟩
theorem InPlay.step{w wr w2 w3:World}{b9 b12 k:Nat}{S S':Nat→Prop}{H H':Hd}{x y:St}{av uv kv a2 u2 k2:Value}(p:InPlay w wr b9 k S H x av uv kv){a:AC}(ha:AOk a)(hk:k<60)(hy:y=doesV x a)(e:Ext wr S S')(lk:Hd.like wr H H')(m:SI S' w2 H' y)(r:RE S' w2 y a2 u2 k2)(f:Fr H.own wr w2)
  (f3:Fr [b9,b12] w2 w3) (h12:¬ S' b12∧b12∉H'.own∧w.heap.size≤b12) (B:Blk w3 b9 41 (arE y a2 u2 k2)):InPlay w w3 b9 (k+1) S' H' y a2 u2 k2:=by
 have n9:b9<wr.heap.size:=p.b.lt
 have ns':¬ S' b9:=fun hs=>(e.2 _ hs).elim p.ns (fun h=>by omega)
 have nb':b9∉H'.own:=fun hb=>(lk.own _ hb).elim p.nb (fun h=>by omega)
 have hg:=does_grows x a
 have hS:∀ z∈[b9,b12],¬ S' z:=fun z hz=>by simp at hz;rcases hz with rfl|rfl;exact ns';exact h12.1
 have hO:∀ z∈[b9,b12],z∉H'.own:=fun z hz=>by simp at hz;rcases hz with rfl|rfl;exact nb';exact h12.2.1
 have hp:∀ b,S' b→b<w3.heap.size:=fun b hb=>Nat.lt_of_lt_of_le (HP.pub' m.hp b hb) f3.size
 have al:=p.al
 have nw:=p.nw
 have hd:=ha.dl
 refine⟨m.keep f3 hO hS (Ext.refl w2 S') hp,r.ext f3 hS (fun _ h=>h) hp,by rw [hy];exact does_fine p.fx ha (by omega) (by omega),?_,?_,fun b hb=>?_,B,nb',ns',fun b hb=>e.1 b (p.s0 b hb),?_,p.n0⟩
 ·rw [hy];have:=hg.all;omega
 ·rw [hy];have:=hg.now;omega
 ·rcases lk.own b hb with h|h
  ·exact p.la b h
  ·have:=p.f.size;omega
 ·exact (p.f.trans f (fun z hz => .inr (p.la z hz))).trans f3 (fun z hz => .inr (by simp at hz;rcases hz with rfl|rfl;exact p.n0;exact h12.2.2))
structure PlayMid(w wr wz:World)(b9 b12:Nat)(S S5:Nat→Prop)(H H5:Hd)(y:St)(a2 u2 k2:Value)(E9:Array Value):Prop where
 e:Ext wr S S5
 lk:Hd.like wr H H5
 m:SI S5 wz H5 y
 r:RE S5 wz y a2 u2 k2
 f:Fr H.own wr wz
 n12:¬ S5 b12∧b12∉H5.own∧w.heap.size≤b12
 B9:Blk wz b9 41 E9
 B12:Blk wz b12 41 (arE y a2 u2 k2)
 ne:b9≠b12
 nw:wr.heap.size≤b12
theorem mid_a{w wr wd w5 wz:World}{b9:Nat}{S S5:Nat→Prop}{H H5:Hd}{y:St}{a2 u2 k2:Value}{E9:Array Value}{o:Obj}(e:Ext wd S S5)(lk:Hd.like wd H H5)(m:SI S5 w5 H5 y)(r:RE S5 w5 y a2 u2 k2)(f:Fr H.own wd w5)(fd:Fr [] wr wd)(B9:Blk wr b9 41 E9)(hn:b9∉H.own)
  (hw:w.heap.size≤wr.heap.size) (Bz:Blk wz w5.heap.size 41 (arE y a2 u2 k2)) (Fz:Fr [w5.heap.size] (w5.alloc o) wz):PlayMid w wr wz b9 w5.heap.size S S5 H H5 y a2 u2 k2 E9:=by
 have fw6:Fr [] w5 wz:=((Fr.refl [] w5).alloc o).trans Fz (fun b hb => .inr (by simp at hb;omega))
 have h1:=fd.size
 have h2:=f.size
 have h7:Fr H.own wr wz:=((fd.mono (by simp)).trans f (fun b hb => .inl hb)).trans fw6 (by simp)
 have n12:¬ S5 w5.heap.size:=fun hs=>by have:=r.pub _ hs;omega
 exact⟨ext_up e h1,⟨lk.g,lk.gw,lk.gc,lk.gh,fun b hb=>(lk.own b hb).imp id (fun h=>by omega)⟩,m.fr fw6,r.fr fw6,h7,⟨n12,fun hb=>by have:=m.lt _ hb;omega,by omega⟩,B9.fr h7 hn,Bz,by have:=B9.lt;omega,by omega⟩
theorem mid_b{w wr wd w5 wz:World}{b9:Nat}{S S5:Nat→Prop}{H H5:Hd}{y:St}{a2 u2 k2:Value}{E9:Array Value}{o:Obj}(e:Ext (wd.alloc o) S S5)(lk:Hd.like (wd.alloc o) H H5)(m:SI S5 w5 H5 y)(r:RE S5 w5 y a2 u2 k2)(f:Fr H.own (wd.alloc o) w5)(fd:Fr [] wr wd)(B9:Blk wr b9 41 E9)(hn:b9∉H.own)
  (hw:w.heap.size≤wr.heap.size) (hS:∀ b,S b→b<wr.heap.size) (hO:∀ b∈H.own,b<wr.heap.size) (Bz:Blk wz wd.heap.size 41 (arE y a2 u2 k2)) (Fz:Fr [wd.heap.size] w5 wz):PlayMid w wr wz b9 wd.heap.size S S5 H H5 y a2 u2 k2 E9:=by
 have fa:Fr [] wr (wd.alloc o):=fd.alloc o
 have hz:(wd.alloc o).heap.size=wd.heap.size+1:=by simp
 have h1:=fd.size
 have h2:=f.size
 have h7:Fr H.own wr wz:=((fa.mono (by simp)).trans f (fun b hb => .inl hb)).trans Fz (fun b hb => .inr (by simp at hb;omega))
 have n12:¬ S5 wd.heap.size:=fun hs=>(e.2 _ hs).elim (fun h=>by have:=hS _ h;omega) (fun h=>by omega)
 have o12:wd.heap.size∉H5.own:=fun hb=>(lk.own _ hb).elim (fun h=>by have:=hO _ h;omega) (fun h=>by omega)
 exact⟨ext_up e fa.size,⟨lk.g,lk.gw,lk.gc,lk.gh,fun b hb=>(lk.own b hb).imp id (fun h=>by omega)⟩,m.far Fz n12 (fun b hb h=>o12 (h▸hb)),r.far Fz n12,h7,⟨n12,o12,by omega⟩,B9.fr h7 hn,Bz,by have:=B9.lt;omega,by omega⟩
def PlayRel(w:World)(b9 g n:Nat)(s11:Value)(wr:World):Prop:=∃ k S H x av uv kv,k≤n∧s11 = .int .i64 (k:Nat)∧H.g=g∧InPlay w wr b9 k S H x av uv kv
set_option maxHeartbeats 16000000 in
theorem play_any{K:Int→Prop}(hda:DoesAll K)(isn:Int)(i0:0≤isn)(i1:isn<4294967296)(calls:Bool)(w:World)(A:Option Addr)(n c:Nat)(f:Nat→AC)(h:Acts w w.heap.size A n f)(hkd:∀ i,i<n→K (f i).kind)(hn:n≤maxLen):Calls Tryz.prog 15 #[.int .u32 isn, .bool calls, .slice A n c] w fun e w'=>e = .returned (.bool true)∧Fr [] w w':=by
 have hfew:=few_any w w.heap.size A n c f h (Nat.le_refl _) hn
 unfold maxLen at hn
 have H0:=hI h
 have HDA:=hI hda
 have HKD:=hI hkd
 clear hda hkd
 have HFEW:=hI hfew
 clear h hfew
 go_enter Tryz.func15,Tryz.ntmps15
 go_wp2_with fail
 refine HFEW.out.mono ?_
 rintro e w1 ⟨few,rfl,f1,hf⟩
 rcases Bool.eq_false_or_eq_true few with rfl|rfl
 ·obtain⟨hn60,hd⟩:=hf rfl
  have HD:=hI hd
  have F1:=hI f1
  have HFINE:=hI (Fine.new isn calls i0 i1)
  have HALL:=hI (all_new isn calls)
  have hnew:=new_si (fun b=>b<w.heap.size) isn calls w1 (fun b hb=>Nat.lt_of_lt_of_le hb f1.size)
  have hen:=fun (S2:Nat→Prop) (W:World) (hp:∀ b,S2 b→b<W.heap.size)=>enew S2 isn i0 i1 calls W hp
  generalize newSV isn calls=R at *
  obtain⟨x,Rl⟩:=R
  have HNEW:=hI hnew
  have HEN:=hI hen
  clear hf f1 hd hnew hen HFEW
  go_upto_region 4 with (go_at_call 8;refine HNEW.out.mono ?_;rintro e w2 ⟨S2,H,v2,L2,rfl,hL2,x2,ma,pr2,n2,f2,la⟩)
  have HEN2:=hI (HEN.out S2 w2 (HP.pub' ma.hp))
  have MA:=hI ma
  have PR2:=hI pr2
  have X2:=hI x2
  have F2:=hI f2
  have LA:=hI la
  have HL2:=hI hL2
  clear ma pr2 x2 f2 la n2 hL2 HNEW HEN
  go_upto_region 5 with (first
   | (go_at_call 9;refine HEN2.out.mono ?_;rintro e w3 ⟨S3,av,uv,kv,v3,L3,rfl,hL3,x3,r3,p3,f3⟩;have o1:=r3.cells1)
   | ((with_reducible refine gate_store 41 (.tmp 9) ?_);refine wpList_store_blk rfl 41 (.tmp 9) (.tmp 28) rfl w3.heap.size 41 endZ (arE x av uv kv) rfl rfl (Blk.new w3 41 endZ) rfl (by kernel_rfl) (by first|exact o1.out _|exact o2.out _|simp [Value.oneCell']) ?_;intro w4 B4 F4))
  have fa:Fr [] w3 (w3.alloc (.cells endZ 41)):=(Fr.refl [] w3).alloc _
  have f24:Fr [] w2 w4:=(f3.trans fa (by simp)).trans F4 (fun b hb => .inr (by simp at hb;have:=f3.size;omega))
  have ns9:¬ S3 w3.heap.size:=fun hs=>by have:=r3.pub _ hs;omega
  have m4:SI S3 w4 H x:=(MA.out.ext f3 x3 r3.pub).fr fa |>.far F4 ns9 (fun y hy=>by have:=MA.out.lt y hy;have:=f3.size;omega)
  have r4:RE S3 w4 x av uv kv:=(r3.fr fa).far F4 ns9
  have p34:=(p3.fr fa (by simp) (by simp) (fun _ h=>h)).fr F4 (fun z hz hs=>by simp at hz;subst hz;exact ns9 hs) (fun b hb hm=>by simp at hm;have:=own_lt p3.own (mem_ob.1 hb);omega) (fun _ h=>h)
  have p24:=PR2.out.fr f24 (by simp) (by simp) (fun _ h=>h)
  have hz1:=F1.out.size
  have hz2:=F2.out.size
  have hz3:=f3.size
  have ip:InPlay w w4 w3.heap.size 0 S3 H x av uv kv:=⟨m4,r4,HFINE.out,by rw [HALL.out.1];simp,by rw [HALL.out.2];simp,fun b hb=>by have:=LA.out b hb;omega,B4,fun hb=>by have:=MA.out.lt _ hb;omega,ns9,fun b hb=>x3.1 b (X2.out.1 b hb),(F1.out.trans F2.out (by simp)).trans f24 (by simp),by omega⟩
  have HLL:Hid (L2.map (·.1)=L3.map (·.1)):=hI (by rw [HL2.out,hL3])
  have IP:=hI ip
  have P24:=hI p24
  have P34:=hI p34
  have HFX:=hI HFINE.out.ok.s
  have SIs:Hid (∀ W,Fr [] w4 W→Calls Tryz.prog 13 #[ptr H.g] W fun e w'=>e = .returned (.agg (stA x))∧Fr [] W w'):=hI (fun W f=>state_si (IP.out.m.fr f) HFX.out)
  have REs:Hid (∀ W,Fr [] w4 W→Calls Tryz.prog 14 #[agE x av uv kv] W fun e w'=>e = .returned (.agg (stA x))∧Fr [] W w'):=hI (fun W f=>estate (IP.out.r.fr f))
  have V9:Hid (∀ W,Fr [] w4 W→Blk W w3.heap.size 41 (arE x av uv kv)):=hI (fun W f=>IP.out.b.fr f (by simp))
  obtain⟨g,hg⟩:∃ g,H.g=g:=⟨_,rfl⟩
  rw [hg] at SIs ⊢
  have HG:=hI hg
  generalize w3.heap.size=b9 at *
  clear fa f24 ns9 m4 r4 p34 p24 ip hz1 hz2 hz3 f3 x3 r3 p3 B4 F4 hL3 MA PR2 X2 F2 LA HL2 HEN2 HFINE HALL hg
  refine wp_region_held_drew (S:=fun W=>Fr [] w4 W) (by kernel_rfl) (Fr.refl _ w4).drew (fun hH=>?_)
  have fd:Fr [] w4 w4.drew:=(Fr.refl [] w4).drew
  generalize w4.drew=wd at *
  have hWW0:=fd
  refine Held.take 0 (v:=v2) rfl (by kernel_rfl) (by kernel_rfl) (by kernel_rfl) (fun _ _ _ h=>h) (Or.inl ⟨rfl,fun (W:World) hs=>by go_simp⟩) hH ?_
  try simp only [Act.put,zqA,zqB,zqC]
  refine Held.take 1 (v:=v3) rfl (by kernel_rfl) (by kernel_rfl) (by kernel_rfl) (fun _ _ _ h=>h) (Or.inl ⟨rfl,fun (W:World) hs=>by go_simp⟩) hH ?_
  try simp only [Act.put,zqA,zqB,zqC]
  refine Held.one (i:=2) (by kernel_rfl) rfl (fun K hK=>?_)
  go_simp
  go_at_call 30
  refine (esame (P24.out.fr fd (by simp) (by simp) (fun _ h=>h)) (P34.out.fr fd (by simp) (by simp) (fun _ h=>h)) HLL.out).mono ?_
  rintro e ws ⟨rfl,fs⟩
  try go_wp2_with fail
  refine hK.out _ _ (hH.trans fs (by simp)) (fun h3=>?_)
  clear hK K
  try simp only [Act.put,zqA,zqB,zqC]
  have hWW:=fd.trans fs (by simp)
  refine Held.take 3 (v := .bool false) rfl (by kernel_rfl) (by kernel_rfl) (by kernel_rfl) (fun _ _ _ h=>h) (Or.inl ⟨rfl,fun (W:World) hs=>by go_simp⟩) h3 ?_
  try simp only [Act.put,zqA,zqB,zqC]
  refine Held.take 4 (v := .bool false) rfl (by kernel_rfl) (by kernel_rfl) (by kernel_rfl) (fun _ _ _ h=>h) (Or.inl ⟨rfl,fun (W:World) hs=>by go_simp⟩) h3 ?_
  try simp only [Act.put,zqA,zqB,zqC]
  refine Held.take 5 (v:=ptr g) rfl (by kernel_rfl) (by kernel_rfl) (by kernel_rfl) (fun _ _ _ h=>h) (Or.inl ⟨rfl,fun (W:World) hs=>by go_simp⟩) h3 ?_
  try simp only [Act.put,zqA,zqB,zqC]
  refine Held.take 7 rfl (by kernel_rfl) (by kernel_rfl) (by kernel_rfl) (fun _ _ _ h=>h) (Held.y_blk rfl 41 (.tmp 9) rfl b9 41 (arE x av uv kv) _ rfl (fun _ hs=>V9.out _ hs) Tryz.underlying41 rfl (by kernel_rfl)) h3 ?_
  try simp only [Act.put,zqA,zqB,zqC]
  refine Held.one (i:=6) (by kernel_rfl) rfl (fun K hK=>?_)
  rw [if_pos (by rfl)]
  go_simp
  go_at_call 13
  refine ((SIs.out _ hWW).mono ?_)
  rintro e wu ⟨rfl,fu⟩
  try go_wp2_with fail
  refine hK.out _ _ (h3.trans fu (by simp)) (fun hu=>?_)
  clear hK K
  try simp only [Act.put,zqA,zqB,zqC]
  have hWU:=hWW.trans fu (by simp)
  refine Held.one (i:=8) (by kernel_rfl) rfl (fun K hK=>?_)
  rw [if_pos (by rfl)]
  go_simp
  go_at_call 14
  refine ((REs.out _ hWU).mono ?_)
  rintro e wv ⟨rfl,fv⟩
  try go_wp2_with fail
  refine hK.out _ _ (hu.trans fv (by simp)) (fun hv=>?_)
  clear hK K
  try simp only [Act.put,zqA,zqB,zqC]
  have hWV:=hWU.trans fv (by simp)
  refine Held.take 9 (v := .bool false) rfl (by kernel_rfl) (by kernel_rfl) (by kernel_rfl) (fun _ _ _ h=>h) (Or.inl ⟨rfl,fun (W:World) hs=>by have d1:=neq_stA x W;have d2:=eqgForm;go_simp⟩) hv ?_
  try simp only [Act.put,zqA,zqB,zqC]
  refine Held.take 10 (v := .bool false) rfl (by kernel_rfl) (by kernel_rfl) (by kernel_rfl) (fun _ _ _ h=>h) (Or.inl ⟨rfl,fun (W:World) hs=>by go_simp⟩) hv ?_
  try simp only [Act.put,zqA,zqB,zqC]
  refine Held.done (by kernel_rfl) ?_
  have FXY:=hI (show True from trivial)
  go_upto_region 7 with fail
  have hst:PlayRel w b9 g n (.int .i64 (0:Nat)) wv:=⟨0,S3,H,x,av,uv,kv,Nat.zero_le _,rfl,HG.out,by
   have q:=IP.out
   exact⟨q.m.fr hWV,q.r.fr hWV,q.fx,q.al,q.nw,q.la,q.b.fr hWV (by simp),q.nb,q.ns,q.s0,q.f.trans hWV (by simp),q.n0⟩⟩
  have HST:=hI hst
  clear hst hv hu hWV hWU hWW fv fu h3 hH fd fs SIs REs V9 IP P24 P34 HFX HG HLL o1 hWW0
  go_wp2_with fail
  go_loopw [11] (fun s11 wr=>PlayRel w b9 g n s11 wr) (fun s11 _=>n - (intOf s11).toNat)
  case atStart=>exact HST.out
  case round=>
   obtain⟨k,S,H,x,av,uv,kv,hk,rfl,hg,ip⟩:=hrel
   have IP:=hI ip
   have HG:=hI hg
   have o1:=ip.r.cells1
   clear HST
   by_cases hkn:k<n
   ·have dk:decide ((k:Int)<(n:Int))=true:=by simpa using hkn
    have hacts:∀ W,Fr H.own wr W→Acts W w.heap.size A n f:=fun W fW=>(H0.out.fr ip.f (Nat.le_refl _) (by simp)).fr fW ip.f.size (fun b hb=>ip.la b hb)
    obtain⟨hnum,ab,ao,pA,pc,dA,dc,rfl,hab,hcell,hpb,hdb⟩:=hacts wr (Fr.refl _ _) k hkn
    have hcells:∀ W,Fr H.own wr W→∀ j v,(arA (f k) pA pc dA dc)[j]?=some v→W.cell? ⟨ab,ao+k * 8+j,none⟩=some v:=fun W fW j v hj=>(fW.cell (p:=⟨ab,ao+k * 8+j,none⟩) (by have:=ip.f.size;show ab<_;omega) (fun hm=>by have:=ip.la _ hm;dsimp only at this;omega)).trans (hcell j v hj)
    have haok:=hnum.ok (HD.out k hkn).2 (HD.out k hkn).1
    have hdo:=fun W (fW:Fr [] wr W)=>HDA.out S W H x av uv kv (ip.m.fr fW) (ip.r.fr fW) ip.fx (f k) (HKD.out k hkn) haok (by have:=ip.al;omega) (by have:=ip.nw;omega) pA pc dA dc ((hpb.mono ip.s0).fr fW (by simp)) ((hdb.mono ip.s0).fr fW (by simp))
    rw [hg] at hdo
    generalize hyy:doesV x (f k)=y at *
    have HYY:=hI hyy
    have HDO:Hid (∀ W,Fr [] wr W→Calls Tryz.prog 10 #[ptr g,agE x av uv kv, .agg (arA (f k) pA pc dA dc)] W (DoPost S W H y)):=hI hdo
    have HC:=hI hcells
    have HAOK:=hI haok
    clear hacts hnum hcell hpb hdb hcells haok hdo hyy ip hg
    go_upto_region 10 with fail
    have HLT:Hid (∀ b∈H.own,b<wr.heap.size):=hI IP.out.m.lt
    have HSP:Hid (∀ b,S b→b<wr.heap.size):=hI (HP.pub' IP.out.m.hp)
    go_cut [12,13] (fun s12 s13 wx=>∃ wz b12 S5 H5 a2 u2 k2,wz=wx∧s12=ptr b12∧s13 = .bool true∧PlayMid w wr wx b9 b12 S S5 H H5 y a2 u2 k2 (arE x av uv kv))
    case first=>
     refine wp_region_held_drew (S:=fun W=>Fr H.own wr W) (by kernel_rfl) (Fr.refl _ wr).drew (fun hH=>?_)
     have fd:Fr [] wr wr.drew:=(Fr.refl [] wr).drew
     generalize wr.drew=wd at *
     refine Held.take 0 (v:=ptr g) rfl (by kernel_rfl) (by kernel_rfl) (by kernel_rfl) (fun _ _ _ h=>h) (Or.inl ⟨rfl,fun (W:World) hs=>by go_simp⟩) hH ?_
     try simp only [Act.put,zqA,zqB,zqC]
     refine Held.take 1 rfl (by kernel_rfl) (by kernel_rfl) (by kernel_rfl) (fun _ _ _ h=>h) (Held.y_blk rfl 41 (.tmp 9) rfl b9 41 (arE x av uv kv) _ rfl (fun _ hs=>IP.out.b.fr hs IP.out.nb) Tryz.underlying41 rfl (by kernel_rfl)) hH ?_
     try simp only [Act.put,zqA,zqB,zqC]
     refine Held.take 2 (v := .slice (some ⟨ab,ao,none⟩) n c) rfl (by kernel_rfl) (by kernel_rfl) (by kernel_rfl) (fun _ _ _ h=>h) (Or.inl ⟨rfl,fun (W:World) hs=>by go_simp⟩) hH ?_
     try simp only [Act.put,zqA,zqB,zqC]
     refine Held.take 3 (v := .int .i64 (k:Nat)) rfl (by kernel_rfl) (by kernel_rfl) (by kernel_rfl) (fun _ _ _ h=>h) (Or.inl ⟨rfl,fun (W:World) hs=>by go_simp⟩) hH ?_
     try simp only [Act.put,zqA,zqB,zqC]
     refine Held.take 4 (v := .pointer (some ⟨ab,ao+k * 8,none⟩)) rfl (by kernel_rfl) (by kernel_rfl) (by kernel_rfl) (fun _ _ _ h=>h) (Or.inl ⟨rfl,fun (W:World) hs=>by go_simp⟩) hH ?_
     try simp only [Act.put,zqA,zqB,zqC]
     refine Held.take 5 (v := .agg #[.int .i64 (f k).kind, .int .i64 (f k).p.flags, .int .u32 (f k).p.seq, .int .u32 (f k).p.ack, .int .u16 (f k).p.win, .slice pA (f k).p.d.length pc, .bool (f k).near, .slice dA (f k).d.length dc]) rfl (by kernel_rfl) (by kernel_rfl) (by kernel_rfl) (fun _ _ _ h=>h) (Or.inl ⟨rfl,fun (W:World) hs=>by have d:=acells (HC.out W hs);obtain⟨d0,d1,d2,d3,d4,d5,d6,d7⟩:=d;go_simp⟩) hH ?_
     try simp only [Act.put,zqA,zqB,zqC]
     refine Held.two (i:=6) (j:=10) (by kernel_rfl) rfl rfl (fun K hK=>?_) (fun K hK=>?_)
     all_goals rw [if_pos (by rfl)]
     ·go_simp
      go_at_call 10
      refine (HDO.out wd fd).mono ?_
      rintro e w5 ⟨S5,H5,a2,u2,k2,rfl,e5,lk5,m5,r5,f5⟩
      have o2:=r5.cells1
      have fd5:Fr H.own wr w5:=(fd.mono (by simp)).trans f5 (fun b hb => .inl hb)
      try go_wp2_with fail
      refine hK.out _ _ fd5 (fun h5=>?_)
      clear hK K hH
      try simp only [Act.put,zqA,zqB,zqC]
      refine Held.take 7 (v := .tuple #[agE y a2 u2 k2, .bool true]) rfl (by kernel_rfl) (by kernel_rfl) (by kernel_rfl) (fun _ _ _ h=>h) (Or.inl ⟨rfl,fun (W:World) hs=>by go_simp⟩) h5 ?_
      try simp only [Act.put,zqA,zqB,zqC]
      refine Held.take 8 (v:=agE y a2 u2 k2) rfl (by kernel_rfl) (by kernel_rfl) (by kernel_rfl) (fun _ _ _ h=>h) (Or.inl ⟨rfl,fun (W:World) hs=>by go_simp⟩) h5 ?_
      try simp only [Act.put,zqA,zqB,zqC]
      refine Held.take 9 (v := .bool true) rfl (by kernel_rfl) (by kernel_rfl) (by kernel_rfl) (fun _ _ _ h=>h) (Or.inl ⟨rfl,fun (W:World) hs=>by go_simp⟩) h5 ?_
      try simp only [Act.put,zqA,zqB,zqC]
      refine Held.one (i:=10) (by kernel_rfl) rfl (fun K hK=>?_)
      go_simp
      try go_wp2_with fail
      refine hK.out _ _ (h5.alloc _) (fun h6=>?_)
      clear hK K
      try simp only [Act.put,zqA,zqB,zqC]
      refine Held.one (i:=11) (by kernel_rfl) rfl (fun K hK=>?_)
      refine Held.st_blk rfl 41 (.tmp 12) (.tmp 55) rfl w5.heap.size 41 endZ (arE y a2 u2 k2) rfl rfl (Blk.new w5 41 endZ) rfl (by kernel_rfl) (o2.out _) ?_
      intro wz Bz Fz
      refine hK.out _ _ (h6.trans Fz (fun z hz => .inr (by simp at hz;have:=fd5.size;omega))) (fun h7=>?_)
      clear hK K
      try simp only [Act.put,zqA,zqB,zqC]
      refine Held.take 12 (v := .bool true) rfl (by kernel_rfl) (by kernel_rfl) (by kernel_rfl) (fun _ _ _ h=>h) (Or.inl ⟨rfl,fun (W:World) hs=>by go_simp⟩) h7 ?_
      try simp only [Act.put,zqA,zqB,zqC]
      refine Held.done (by kernel_rfl) ?_
      go_wp2_with fail
      go_meet
      exact⟨_,_,S5,H5,a2,u2,k2,rfl,rfl,rfl,mid_a e5 lk5 m5 r5 f5 fd IP.out.b IP.out.nb IP.out.f.size Bz Fz⟩
     ·go_simp
      try go_wp2_with fail
      refine hK.out _ _ (hH.alloc _) (fun h5=>?_)
      clear hK K
      try simp only [Act.put,zqA,zqB,zqC]
      refine Held.one (i:=6) (by kernel_rfl) rfl (fun K hK=>?_)
      go_simp
      go_at_call 10
      refine (HDO.out (wd.alloc (.cells endZ 41)) (fd.alloc _)).mono ?_
      rintro e w5 ⟨S5,H5,a2,u2,k2,rfl,e5,lk5,m5,r5,f5⟩
      have o2:=r5.cells1
      have fd5:Fr H.own wr w5:=((fd.alloc _).mono (by simp)).trans f5 (fun b hb => .inl hb)
      have Ba:Blk w5 wd.heap.size 41 endZ:=(Blk.new wd 41 endZ).fr f5 (fun hb=>by have:=HLT.out _ hb;have:=fd.size;omega)
      try go_wp2_with fail
      refine hK.out _ _ fd5 (fun h6=>?_)
      clear hK K hH h5
      try simp only [Act.put,zqA,zqB,zqC]
      refine Held.take 7 (v := .tuple #[agE y a2 u2 k2, .bool true]) rfl (by kernel_rfl) (by kernel_rfl) (by kernel_rfl) (fun _ _ _ h=>h) (Or.inl ⟨rfl,fun (W:World) hs=>by go_simp⟩) h6 ?_
      try simp only [Act.put,zqA,zqB,zqC]
      refine Held.take 8 (v:=agE y a2 u2 k2) rfl (by kernel_rfl) (by kernel_rfl) (by kernel_rfl) (fun _ _ _ h=>h) (Or.inl ⟨rfl,fun (W:World) hs=>by go_simp⟩) h6 ?_
      try simp only [Act.put,zqA,zqB,zqC]
      refine Held.take 9 (v := .bool true) rfl (by kernel_rfl) (by kernel_rfl) (by kernel_rfl) (fun _ _ _ h=>h) (Or.inl ⟨rfl,fun (W:World) hs=>by go_simp⟩) h6 ?_
      try simp only [Act.put,zqA,zqB,zqC]
      refine Held.one (i:=11) (by kernel_rfl) rfl (fun K hK=>?_)
      refine Held.st_blk rfl 41 (.tmp 12) (.tmp 55) rfl wd.heap.size 41 endZ (arE y a2 u2 k2) rfl rfl Ba rfl (by kernel_rfl) (o2.out _) ?_
      intro wz Bz Fz
      refine hK.out _ _ (h6.trans Fz (fun z hz => .inr (by simp at hz;have:=fd.size;omega))) (fun h7=>?_)
      clear hK K
      try simp only [Act.put,zqA,zqB,zqC]
      refine Held.take 12 (v := .bool true) rfl (by kernel_rfl) (by kernel_rfl) (by kernel_rfl) (fun _ _ _ h=>h) (Or.inl ⟨rfl,fun (W:World) hs=>by go_simp⟩) h7 ?_
      try simp only [Act.put,zqA,zqB,zqC]
      refine Held.done (by kernel_rfl) ?_
      go_wp2_with fail
      go_meet
      exact⟨_,_,S5,H5,a2,u2,k2,rfl,rfl,rfl,mid_b e5 lk5 m5 r5 f5 fd IP.out.b IP.out.nb IP.out.f.size HSP.out HLT.out Bz Fz⟩
    case rest=>
    obtain⟨wz,b12,S5,H5,a2,u2,k2,rfl,rfl,rfl,pm⟩:=hcut
    have o2:=pm.r.cells1
    have E5:Hid (Ext wr S S5):=hI pm.e
    have LK5:Hid (Hd.like wr H H5):=hI pm.lk
    have M6:=hI pm.m
    have R6:=hI pm.r
    have FW6:Hid (Fr H.own wr wz):=hI pm.f
    have N12:=hI pm.n12
    have B9:=hI pm.B9
    have B12:=hI pm.B12
    have NE:=hI pm.ne
    have HG5:Hid (H5.g=g):=hI (pm.lk.g.trans HG.out)
    clear pm HDO HC HLT HSP
    have FY:Hid (OkS y):=hI (by rw [← HYY.out];exact (does_fine IP.out.fx HAOK.out (by have:=IP.out.al;omega) (by have:=IP.out.nw;omega)).ok.s)
    have SIs:Hid (∀ W,Fr [] wz W→Calls Tryz.prog 13 #[ptr g] W fun e w'=>e = .returned (.agg (stA y))∧Fr [] W w'):=hI (fun W fW=>by have:=state_si (M6.out.fr fW) FY.out;rw [HG5.out] at this;exact this)
    have REs:Hid (∀ W,Fr [] wz W→Calls Tryz.prog 14 #[agE y a2 u2 k2] W fun e w'=>e = .returned (.agg (stA y))∧Fr [] W w'):=hI (fun W fW=>estate (R6.out.fr fW))
    have B12f:Hid (∀ W,Fr [] wz W→Blk W b12 41 (arE y a2 u2 k2)):=hI (fun W fW=>B12.out.fr fW (by simp))
    go_upto_region 11 with fail
    refine wp_region_held_drew (S:=fun W=>Fr [] wz W) (by kernel_rfl) (Fr.refl _ wz).drew (fun hH=>?_)
    have fd:Fr [] wz wz.drew:=(Fr.refl [] wz).drew
    generalize wz.drew=wd at *
    refine Held.take 0 (v := .bool true) rfl (by kernel_rfl) (by kernel_rfl) (by kernel_rfl) (fun _ _ _ h=>h) (Or.inl ⟨rfl,fun (W:World) hs=>by go_simp⟩) hH ?_
    try simp only [Act.put,zqA,zqB,zqC]
    refine Held.take 1 (v := .bool false) rfl (by kernel_rfl) (by kernel_rfl) (by kernel_rfl) (fun _ _ _ h=>h) (Or.inl ⟨rfl,fun (W:World) hs=>by go_simp⟩) hH ?_
    try simp only [Act.put,zqA,zqB,zqC]
    refine Held.take 2 (v := .bool false) rfl (by kernel_rfl) (by kernel_rfl) (by kernel_rfl) (fun _ _ _ h=>h) (Or.inl ⟨rfl,fun (W:World) hs=>by go_simp⟩) hH ?_
    try simp only [Act.put,zqA,zqB,zqC]
    have hWW:=fd
    refine Held.take 3 (v:=ptr g) rfl (by kernel_rfl) (by kernel_rfl) (by kernel_rfl) (fun _ _ _ h=>h) (Or.inl ⟨rfl,fun (W:World) hs=>by go_simp⟩) hH ?_
    try simp only [Act.put,zqA,zqB,zqC]
    refine Held.take 5 rfl (by kernel_rfl) (by kernel_rfl) (by kernel_rfl) (fun _ _ _ h=>h) (Held.y_blk rfl 41 (.tmp 12) rfl b12 41 (arE y a2 u2 k2) _ rfl (fun _ hs=>B12f.out _ hs) Tryz.underlying41 rfl (by kernel_rfl)) hH ?_
    try simp only [Act.put,zqA,zqB,zqC]
    refine Held.one (i:=4) (by kernel_rfl) rfl (fun K hK=>?_)
    rw [if_pos (by rfl)]
    go_simp
    go_at_call 13
    refine ((SIs.out _ hWW).mono ?_)
    rintro e wu ⟨rfl,fu⟩
    try go_wp2_with fail
    refine hK.out _ _ (hH.trans fu (by simp)) (fun hu=>?_)
    clear hK K
    try simp only [Act.put,zqA,zqB,zqC]
    have hWU:=hWW.trans fu (by simp)
    refine Held.one (i:=6) (by kernel_rfl) rfl (fun K hK=>?_)
    rw [if_pos (by rfl)]
    go_simp
    go_at_call 14
    refine ((REs.out _ hWU).mono ?_)
    rintro e wv ⟨rfl,fv⟩
    try go_wp2_with fail
    refine hK.out _ _ (hu.trans fv (by simp)) (fun hv=>?_)
    clear hK K
    try simp only [Act.put,zqA,zqB,zqC]
    have hWV:=hWU.trans fv (by simp)
    refine Held.take 7 (v := .bool false) rfl (by kernel_rfl) (by kernel_rfl) (by kernel_rfl) (fun _ _ _ h=>h) (Or.inl ⟨rfl,fun (W:World) hs=>by have d1:=neq_stA x W;have d2:=eqgForm;go_simp⟩) hv ?_
    try simp only [Act.put,zqA,zqB,zqC]
    refine Held.take 8 (v := .bool false) rfl (by kernel_rfl) (by kernel_rfl) (by kernel_rfl) (fun _ _ _ h=>h) (Or.inl ⟨rfl,fun (W:World) hs=>by go_simp⟩) hv ?_
    try simp only [Act.put,zqA,zqB,zqC]
    refine Held.done (by kernel_rfl) ?_
    go_upto_region 13 with fail
    go_upto_region 9 with (first
     | ((with_reducible refine gate_load 41 (.tmp 12) ?_);refine wpList_load_blk rfl 41 (.tmp 12) rfl b12 41 (arE y a2 u2 k2) _ rfl (B12f.out _ hWV) Tryz.underlying41 rfl (by kernel_rfl) ?_)
     | ((with_reducible refine gate_store 41 (.tmp 9) ?_);refine wpList_store_blk rfl 41 (.tmp 9) (.tmp 66) rfl b9 41 (arE x av uv kv) (arE y a2 u2 k2) rfl rfl (B9.out.fr hWV (by simp)) rfl (by kernel_rfl) (o2.out _) ?_;intro wy By Fy))
    have hip:InPlay w wy b9 (k+1) S5 H5 y a2 u2 k2:=IP.out.step (w2:=wv) HAOK.out (by omega) HYY.out.symm E5.out LK5.out (M6.out.fr hWV) (R6.out.fr hWV) (FW6.out.trans hWV (by simp)) (Fy.mono (by simp)) N12.out By
    have hrel:PlayRel w b9 g n (.int .i64 ((k+1:Nat):Int)) wy:=⟨k+1,S5,H5,y,a2,u2,k2,by omega,rfl,HG5.out,hip⟩
    have HREL:=hI hrel
    clear hip hrel By Fy
    go_wp2_with fail
    go_roundw
    case rel=>simpa using HREL.out
    case measure=>simp [intOf];omega
   ·obtain rfl:n=k:=by omega
    clear o1
    go_wp2_with fail
    refine (known_any _).mono ?_
    rintro e wk ⟨rfl,fk⟩
    have fend:=IP.out.f.trans fk (by simp)
    clear fk
    go_wp2_with fail
    go_ret
    exact⟨rfl,fend⟩
 ·clear hf HFEW
  go_wp2_with fail
  refine (known_any _).mono ?_
  rintro e w2 ⟨rfl,f2⟩
  have f12:=f1.trans f2 (by simp)
  clear f1 f2
  go_wp2_with fail
  go_ret
  exact⟨rfl,f12⟩
abbrev Rw:=AC ×(Option Addr × Nat) ×(Option Addr × Nat)
def Rw.cells(r:Rw):List Value:=(arA r.1 r.2.1.1 r.2.1.2 r.2.2.1 r.2.2.2).toList
def rwCells(L:List Rw):List Value:=L.flatMap Rw.cells
theorem rwCells_cons(r:Rw)(t:List Rw):rwCells (r::t)=r.cells++rwCells t:=by simp [rwCells]
theorem rwCells_app(L M:List Rw):rwCells (L++M)=rwCells L++rwCells M:=by simp [rwCells]
theorem Rw.cells_len(r:Rw):r.cells.length=8:=rfl
theorem rwCells_get:∀(L:List Rw) (i:Nat) (r:Rw) (j:Nat),L[i]?=some r→j<8→(rwCells L)[i * 8+j]?=r.cells[j]?
 | [],i,r,j,h,_=>by simp at h
 | q::t,0,r,j,h,hj=>by
  simp at h
  subst h
  rw [rwCells_cons,List.getElem?_append_left (by rw [Rw.cells_len];omega)]
  simp
 | q::t,i+1,r,j,h,hj=>by
  rw [rwCells_cons,List.getElem?_append_right (by rw [Rw.cells_len];omega),Rw.cells_len,← rwCells_get t i r j (by simpa using h) hj]
  congr 1
  omega
def RwOk(w:World)(r:Rw):Prop:=ANum r.1∧Byt (fun b=>b<w.heap.size) w (.slice r.2.1.1 r.1.p.d.length r.2.1.2) r.1.p.d∧Byt (fun b=>b<w.heap.size) w (.slice r.2.2.1 r.1.d.length r.2.2.2) r.1.d
theorem byt_up{w w':World}{v:Value}{l:List Int}{O:List Nat}(h:Byt (fun b=>b<w.heap.size) w v l)(f:Fr O w w')(hO:∀ b∈O,w.heap.size≤b):Byt (fun b=>b<w'.heap.size) w' v l:=
 (h.fr f (fun x hx hs=>by have:=hO x hx;omega)).mono (fun b hb=>by have:=f.size;omega)
theorem RwOk.fr{w w':World}{r:Rw}(h:RwOk w r)(f:Fr [] w w'):RwOk w' r:=⟨h.1,byt_up h.2.1 f (by simp),byt_up h.2.2 f (by simp)⟩
def rw0:Rw:=(⟨0,⟨0,0,0,0,[]⟩,false,[]⟩,(none,0),(none,0))
def rwF(L:List Rw)(i:Nat):AC:=(L.getD i rw0).1
theorem acts_of{w:World}{b:Nat}(L:List Rw)(hb:b<w.heap.size)(hc:∀ j u,(rwCells L)[j]?=some u→w.cell? ⟨b,j,none⟩=some u)(hr:∀ r∈L,RwOk w r):Acts w w.heap.size (some ⟨b,0,none⟩) L.length (rwF L):=by
 intro i hi
 have hL:L[i]?=some L[i]:=List.getElem?_eq_getElem hi
 have hf:rwF L i=L[i].1:=by unfold rwF;rw [List.getD_eq_getElem?_getD,hL];rfl
 obtain⟨h1,h2,h3⟩:=hr L[i] (List.getElem_mem hi)
 rw [hf]
 refine⟨h1,b,0,_,_,_,_,rfl,hb,fun j v hj=>?_,h2,h3⟩
 rw [Nat.zero_add]
 have hj8:j<8:=by
  rcases Nat.lt_or_ge j 8 with h|h
  ·exact h
  ·rw [Array.getElem?_eq_none (by simpa using h)] at hj
   cases hj
 refine hc _ _ ?_
 rw [rwCells_get L i L[i] j hL hj8]
 simpa [Rw.cells] using hj
theorem make_bytes(n:Nat)(hn:n≤9223372036854)(w:World):(Instr.makeSlice 30 (.int .i64 (n:Int)) (.int .i64 (n:Int))).run Tryz.prog w = .ok (.slice (some ⟨w.heap.size,0,none⟩) n n) (w.alloc (.cells (madeCells #[.int .u8 0] n) 5)):=
 run_make_row' 30 5 (.int .u8 0) 1 Tryz.underlying30 (by kernel_rfl) rfl .i64 .i64 n (by omega) (by omega) w
namespace Held
section
variable {ops:Array Oper} {op:Oper} {a:Act} {w:World} {K:Act→World→Prop} {Q:Exit→Act→World→Prop}
end
section
variable {P:Program} {md:Region.Mode} {l:List Oper} {Q:Exit→Act→World→Prop} {S:World→Prop} {fuel:Nat} {listed:Array Bool} {a:Act} {w:World}
end
end Held
theorem info_act:(Tryz.prog.info? 51).map (fun i=>(i.zero,i.size,i.bytes))=some (some (.agg #[.int .i64 0, .int .i64 0, .int .u32 0, .int .u32 0, .int .u16 0, .slice none 0 0, .bool false, .slice none 0 0]),8,88):=by kernel_rfl
def ShutK(k:Int):Prop:=k=1∨k=2∨k=4
def RwS(bd:Nat)(w:World)(r:Rw):Prop:=ANum r.1∧ShutK r.1.kind∧Byt (fun b=>b=bd) w (.slice r.2.1.1 r.1.p.d.length r.2.1.2) r.1.p.d∧Byt (fun b=>b=bd) w (.slice r.2.2.1 r.1.d.length r.2.2.2) r.1.d
theorem RwS.fr{bd:Nat}{w w':World}{r:Rw}{O:List Nat}(h:RwS bd w r)(f:Fr O w w')(hO:∀ b∈O,b≠bd):RwS bd w' r:=⟨h.1,h.2.1,h.2.2.1.fr f hO,h.2.2.2.fr f hO⟩
theorem RwS.plain(bd:Nat)(w:World)(k:Int)(hk:ShutK k)(fl sq ak wi:Int)(n:Bool)(h0:0≤sq)(h1:sq<4294967296)(h2:0≤ak)(h3:ak<4294967296)(h4:0≤wi)(h5:wi<65536):RwS bd w (⟨k,⟨fl,sq,ak,wi,[]⟩,n,[]⟩,(none,0),(none,0)):=
 ⟨⟨h0,h1,h2,h3,h4,h5⟩,hk,Byt.nil,Byt.nil⟩
structure ShutInv(w wr:World)(N:Nat)(L:List Rw)(A:Option Addr)(c bd:Nat):Prop where
 len:L.length≤N
 own:wr.ownsRow 0 51 8 (.slice A L.length c) L.length (rwCells L)
 ok:∀ r∈L,RwS bd wr r
 new:∀ b∈ob (.slice A L.length c),w.heap.size≤b∧b≠bd
 f:Fr [] w wr
 bl:bd<wr.heap.size
theorem ShutInv.fr{w wr w':World}{N:Nat}{L:List Rw}{A:Option Addr}{c bd:Nat}(h:ShutInv w wr N L A c bd)(f:Fr [] wr w'):ShutInv w w' N L A c bd:=
 ⟨h.len,own_fr h.own f (by simp),fun r hr=>(h.ok r hr).fr f (by simp),h.new,h.f.trans f (by simp),Nat.lt_of_lt_of_le h.bl f.size⟩
theorem ShutInv.app{w wr w':World}{N:Nat}{L:List Rw}{A A':Option Addr}{c c' bd:Nat}(h:ShutInv w wr N L A c bd)(r:Rw)(hr:RwS bd wr r)(own:w'.ownsRow 0 51 8 (.slice A' (L.length+1) c') (L.length+1) (rwCells L++r.cells))
  (f:Fr (ob (.slice A L.length c)) wr w') (nb:∀ b,(Value.slice A' (L.length+1) c').ownBlock=some b→(Value.slice A L.length c).ownBlock=some b∨(wr.heap.size≤b∧b<w'.heap.size)):ShutInv w w' (N+1) (L++[r]) A' c' bd:=by
 have hz:=h.f.size
 have hb:=h.bl
 have hn:∀ b∈ob (.slice A L.length c),b≠bd:=fun b hb=>(h.new b hb).2
 refine⟨by have:=h.len;simp;omega,?_,fun q hq=>?_,fun b hb=>?_,h.f.trans f (fun b hb => .inr (h.new b hb).1),Nat.lt_of_lt_of_le h.bl f.size⟩
 ·rw [rwCells_app,List.length_append]
  simpa [rwCells] using own
 ·rcases List.mem_append.1 hq with hq|hq
  ·exact (h.ok q hq).fr f hn
  ·rw [List.mem_singleton] at hq
   subst hq
   exact hr.fr f hn
 ·have hb':(Value.slice A' (L.length+1) c').ownBlock=some b:=by
   have:=mem_ob.1 hb
   simpa [Value.ownBlock] using this
  rcases nb b hb' with h'|h'
  ·exact h.new b (mem_ob.2 h')
  ·omega
theorem ShutInv.le{w wr:World}{N M:Nat}{L:List Rw}{A:Option Addr}{c bd:Nat}(h:ShutInv w wr N L A c bd)(hM:N≤M):ShutInv w wr M L A c bd:=⟨Nat.le_trans h.len hM,h.own,h.ok,h.new,h.f,h.bl⟩
theorem ShutInv.acts{w wr:World}{N:Nat}{L:List Rw}{A:Option Addr}{c bd:Nat}(h:ShutInv w wr N L A c bd):Acts wr wr.heap.size A L.length (rwF L):=by
 rcases h.own.2 with ⟨_,h0⟩|⟨g,cap,cur,hv,_,hg,hnc,hcm,hcs,htake⟩
 ·intro i hi
  omega
 ·injection hv with hA
  subst hA
  refine acts_of L (Array.getElem?_eq_some_iff.1 hg).1 (fun j u hj=>?_) (fun r hr=>?_)
  ·rw [cell_of_row wr g j cur 51 (0,0) hg,← Array.getElem?_toList]
   rw [← htake,List.getElem?_take] at hj
   split at hj
   ·exact hj
   ·cases hj
  ·obtain⟨h1,h2,h3,h4⟩:=h.ok r hr
   exact⟨h1,h3.mono (fun b hb=>by have:=h.bl;omega),h4.mono (fun b hb=>by have:=h.bl;omega)⟩
theorem rw_mem{L:List Rw}{i:Nat}(hi:i<L.length):rwF L i=L[i].1:=by
 unfold rwF
 rw [List.getD_eq_getElem?_getD,List.getElem?_eq_getElem hi]
 rfl
theorem ShutInv.kind{w wr:World}{N:Nat}{L:List Rw}{A:Option Addr}{c bd:Nat}(h:ShutInv w wr N L A c bd):∀ i,i<L.length→ShutK (rwF L i).kind:=fun i hi=>by
 rw [rw_mem hi]
 exact (h.ok _ (List.getElem_mem hi)).2.1
theorem act_sl(w:World)(r:Rw):Sl (fun _=>True) (w.alloc (.cells (arA r.1 r.2.1.1 r.2.1.2 r.2.2.1 r.2.2.2) 51)) 8 (.slice (some ⟨w.heap.size,0,none⟩) 1 1) 1 r.cells:=
 Sl.of_own (World.ownsRow_lit (base:=0) (e:=51) (size:=8) w (arA r.1 r.2.1.1 r.2.1.2 r.2.2.1 r.2.2.2) 1 (Nat.zero_le _) (by simp [maxLen]) rfl) (fun _ _=>trivial)
theorem rwc_one(r:Rw):∀ u∈r.cells,u.oneCell'=true:=by
 intro u h
 simp [Rw.cells] at h
 rcases h with rfl|rfl|rfl|rfl|rfl|rfl|rfl|rfl <;> rfl
theorem build_one(k fl sq ak wi:Int)(n:Bool)(w:World):(Instr.buildSlice 23 1 #[(0, .agg #[.int .i64 k, .int .i64 fl, .int .u32 sq, .int .u32 ak, .int .u16 wi, .slice none 0 0, .bool n, .slice none 0 0])]).run Tryz.prog w = .ok (.slice (some ⟨w.heap.size,0,none⟩) 1 1) (w.alloc (.cells #[.int .i64 k, .int .i64 fl, .int .u32 sq, .int .u32 ak, .int .u16 wi, .slice none 0 0, .bool n, .slice none 0 0] 51)):=by
 unfold Instr.buildSlice
 go_simp
theorem build_two(A0:Option Addr)(N c0:Nat)(w:World):(Instr.buildSlice 23 2 #[(0, .agg #[.int .i64 1, .int .i64 3, .int .u32 9, .int .u32 8, .int .u16 0, .slice none 0 0, .bool false, .slice none 0 0]),(1, .agg #[.int .i64 2, .int .i64 0, .int .u32 0, .int .u32 0, .int .u16 0, .slice none 0 0, .bool false, .slice A0 N c0])]).run Tryz.prog w = .ok (.slice (some ⟨w.heap.size,0,none⟩) 2 2) (w.alloc (.cells #[.int .i64 1, .int .i64 3, .int .u32 9, .int .u32 8, .int .u16 0, .slice none 0 0, .bool false, .slice none 0 0, .int .i64 2, .int .i64 0, .int .u32 0, .int .u32 0, .int .u16 0, .slice none 0 0, .bool false, .slice A0 N c0] 51)):=by
 unfold Instr.buildSlice
 go_simp
theorem shut_start{w w1:World}{A0:Option Addr}{N c0:Nat}(f1:Fr [] w w1){bd:Nat}(hb:bd<w1.heap.size)(h:Byt (fun b=>b=bd) w1 (.slice A0 N c0) (List.replicate N 0)) :
  ShutInv w (w1.alloc (.cells #[.int .i64 1, .int .i64 3, .int .u32 9, .int .u32 8, .int .u16 0, .slice none 0 0, .bool false, .slice none 0 0, .int .i64 2, .int .i64 0, .int .u32 0, .int .u32 0, .int .u16 0, .slice none 0 0, .bool false, .slice A0 N c0] 51)) 2 [((⟨1,⟨3,9,8,0,[]⟩,false,[]⟩,(none,0),(none,0)):Rw),((⟨2,⟨0,0,0,0,[]⟩,false,List.replicate N 0⟩,(none,0),(A0,c0)):Rw)] (some ⟨w1.heap.size,0,none⟩) 2 bd:=by
 have fa:Fr [] w1 (w1.alloc (.cells #[.int .i64 1, .int .i64 3, .int .u32 9, .int .u32 8, .int .u16 0, .slice none 0 0, .bool false, .slice none 0 0, .int .i64 2, .int .i64 0, .int .u32 0, .int .u32 0, .int .u16 0, .slice none 0 0, .bool false, .slice A0 N c0] 51)):=(Fr.refl [] w1).alloc _
 have own:=World.ownsRow_lit (base:=0) (e:=51) (size:=8) w1 #[.int .i64 1, .int .i64 3, .int .u32 9, .int .u32 8, .int .u16 0, .slice none 0 0, .bool false, .slice none 0 0, .int .i64 2, .int .i64 0, .int .u32 0, .int .u32 0, .int .u16 0, .slice none 0 0, .bool false, .slice A0 N c0] 2 (Nat.zero_le _) (by simp [maxLen]) rfl
 have hz:=f1.size
 refine⟨by simp,?_,fun r hr=>?_,fun b hb'=>?_,f1.trans fa (by simp),by simp;omega⟩
 ·simpa [rwCells,Rw.cells] using own
 ·simp only [List.mem_cons,List.not_mem_nil,or_false] at hr
  rcases hr with rfl|rfl
  ·exact RwS.plain bd _ 1 (.inl rfl) 3 9 8 0 false (by simp) (by simp) (by simp) (by simp) (by simp) (by simp)
  ·exact⟨⟨by simp,by simp,by simp,by simp,by simp,by simp⟩, .inr (.inl rfl),Byt.nil,by simpa using h.fr fa (by simp)⟩
 ·have:=mem_ob.1 hb'
  simp [Value.ownBlock] at this
  omega
theorem does124:DoesAll ShutK:=fun S w H x av uv kv m r fx a hk ha hal hn pA pc dA dc hpd hdd=>by
 rcases hk with h|h|h
 ·rcases Bool.eq_false_or_eq_true (rightV (nearP x a)) with h'|h'
  ·exact does1_yes m r fx a ha h h' hal hn pA pc dA dc hpd hdd
  ·exact does1_no m r fx a ha h h' hal hn pA pc dA dc hpd hdd
 ·exact does2 m r fx a ha h hal hn pA pc dA dc hpd hdd
 ·exact does4 m r fx a ha h hal hn pA pc dA dc hpd hdd
theorem byte_parts(z:Int)(h0:0≤z)(h1:z<256):∃ m q e:Nat,m<4∧q<64∧e<2∧z.tmod 4=(m:Int)∧z.tdiv 4=(q:Int)∧(q:Int).tmod 2=(e:Int):=by
 obtain⟨n,rfl⟩:=Int.eq_ofNat_of_zero_le h0
 refine⟨n % 4,n / 4,n / 4 % 2,Nat.mod_lt _ (by decide),by omega,Nat.mod_lt _ (by decide),rfl,rfl,rfl⟩
theorem made_at(n:Nat)(hn:n≤9223372036854)(w:World):Byt (fun b=>b=w.heap.size) (w.alloc (.cells (madeCells #[.int .u8 0] n) 5)) (.slice (some ⟨w.heap.size,0,none⟩) n n) (List.replicate n 0):=by
 obtain⟨cs,hc,hz,hi⟩:=World.rowIs_made w (.int .u8 0) n 5
 refine⟨by simp [byts],some ⟨w.heap.size,0,none⟩,n,by simp,by simp,by simp [maxLen];omega,fun h0=>⟨w.heap.size,0,rfl,rfl,fun j u hj=>?_⟩⟩
 simp only [byts,List.map_replicate,List.getElem?_replicate] at hj
 split at hj
 ·rename_i hjn
  rw [Nat.zero_add,cell_of_row _ _ j cs 5 (0,0) hc,hi j hjn]
  exact hj
 ·cases hj
set_option maxHeartbeats 16000000 in
theorem shut_any(n:Int)(ra:Option Addr)(nr cr:Nat)(zr:Nat→Int)(ta:Option Addr)(nt ct:Nat)(zt:Nat→Int)(w:World)(hr:Reads w w.heap.size ra nr (fun i => .int .u16 (zr i)))(rw_:∀ i,i<nr→0≤zr i∧zr i<65536)(ht:Reads w w.heap.size ta nt (fun i => .int .u8 (zt i)))(tw:∀ i,i<nt→0≤zt i∧zt i<256) :
  Calls Tryz.prog 5 #[.int .i64 n, .slice ra nr cr, .slice ta nt ct] w fun e w'=>e = .returned (.bool true)∧Fr [] w w':=by
 by_cases g0:n<0
 ·have e0:decide (n<0)=true:=by simp only [decide_eq_true_eq];omega
  go_enter Tryz.func5,Tryz.ntmps5
  go_wp2_with fail
  refine (known_any _).mono ?_
  rintro e w2 ⟨rfl,f2⟩
  go_wp2_with fail
  go_ret
  exact⟨rfl,f2⟩
 ·have e0:decide (n<0)=false:=by simp only [decide_eq_false_iff_not];omega
  by_cases g1:n > 3000
  ·have e1:decide (n > 3000)=true:=by simp only [decide_eq_true_eq];omega
   go_enter Tryz.func5,Tryz.ntmps5
   go_wp2_with fail
   refine (known_any _).mono ?_
   rintro e w2 ⟨rfl,f2⟩
   go_wp2_with fail
   go_ret
   exact⟨rfl,f2⟩
  ·have e1:decide (n > 3000)=false:=by simp only [decide_eq_false_iff_not];omega
   by_cases g2:12<nr
   ·have e2:decide ((12:Int)<(nr:Int))=true:=by simp only [decide_eq_true_eq];omega
    go_enter Tryz.func5,Tryz.ntmps5
    go_wp2_with fail
    refine (known_any _).mono ?_
    rintro e w2 ⟨rfl,f2⟩
    go_wp2_with fail
    go_ret
    exact⟨rfl,f2⟩
   ·have e2:decide ((12:Int)<(nr:Int))=false:=by simp only [decide_eq_false_iff_not];omega
    by_cases g3:nt<nr
    ·have e3:decide ((nt:Int)<(nr:Int))=true:=by simp only [decide_eq_true_eq];omega
     go_enter Tryz.func5,Tryz.ntmps5
     go_wp2_with fail
     refine (known_any _).mono ?_
     rintro e w2 ⟨rfl,f2⟩
     go_wp2_with fail
     go_ret
     exact⟨rfl,f2⟩
    ·have e3:decide ((nt:Int)<(nr:Int))=false:=by simp only [decide_eq_false_iff_not];omega
     by_cases g4:20<nt
     ·have e4:decide ((20:Int)<(nt:Int))=true:=by simp only [decide_eq_true_eq];omega
      go_enter Tryz.func5,Tryz.ntmps5
      go_wp2_with fail
      refine (known_any _).mono ?_
      rintro e w2 ⟨rfl,f2⟩
      go_wp2_with fail
      go_ret
      exact⟨rfl,f2⟩
     ·have e4:decide ((20:Int)<(nt:Int))=false:=by simp only [decide_eq_false_iff_not];omega
      obtain⟨N,rfl⟩:=Int.eq_ofNat_of_zero_le (by omega:0≤n)
      have HN:N≤3000:=by omega
      have HR:nr≤12:=by omega
      have HT:nr≤nt:=by omega
      have HT2:nt≤20:=by omega
      clear g0 g1 g2 g3 g4
      have HRD:=hI hr
      have HRW:=hI rw_
      have HTD:=hI ht
      have HTW:=hI tw
      clear hr rw_ ht tw
      have i0p:=info_parts info_act
      have e5:decide (nt<nr)=false:=by simp only [decide_eq_false_iff_not];omega
      go_enter Tryz.func5,Tryz.ntmps5
      have hm:=make_bytes N (by omega) w
      go_upto_region 3 with fail
      have hb2:=build_two (some ⟨w.heap.size,0,none⟩) N N (w.alloc (.cells (madeCells #[.int .u8 0] N) 5))
      go_upto_region 4 with fail
      have hst:=shut_start (w:=w) (w1:=w.alloc (.cells (madeCells #[.int .u8 0] N) 5)) (c0:=N) ((Fr.refl [] w).alloc _) (bd:=w.heap.size) (by simp) (made_at N (by omega) w)
      have HST:=hI hst
      clear hst hm hb2
      go_wp2_with fail
      go_loopw [7,8] (fun s7 s8 wr=>∃ i L A c,i≤nr∧s8 = .int .i64 (i:Nat)∧s7 = .slice A (L:List Rw).length c∧ShutInv w wr (2+4 * i) L A c w.heap.size) (fun _ s8 _=>nr - (intOf s8).toNat)
      case atStart=>exact⟨0,_,_,_,Nat.zero_le _,rfl,by simp,HST.out⟩
      case round=>
       obtain⟨i,L,A,c,hi,rfl,rfl,inv⟩:=hrel
       clear HST
       by_cases hin:i<nr
       ·obtain⟨ad,rfl,hb,_⟩:=HTD.out i (by omega)
        obtain⟨ar,rfl,hb',_⟩:=HRD.out i hin
        have hc:∀ W,Fr [] w W→W.cell? (ad.add i)=some (.int .u8 (zt i)):=fun W f=>by
         obtain⟨a',h1,_,h2⟩:=(HTD.out.fr f (Nat.le_refl _) (by simp)) i (by omega)
         injection h1 with h1
         subst h1
         exact h2
        have hc':∀ W,Fr [] w W→W.cell? (ar.add i)=some (.int .u16 (zr i)):=fun W f=>by
         obtain⟨a',h1,_,h2⟩:=(HRD.out.fr f (Nat.le_refl _) (by simp)) i hin
         injection h1 with h1
         subst h1
         exact h2
        obtain⟨hy0,hy1⟩:=HTW.out i (by omega)
        obtain⟨hr0,hr1⟩:=HRW.out i hin
        obtain⟨m,q,e,hm4,hq,he,hzm,hzq,hqe⟩:=byte_parts (zt i) hy0 hy1
        generalize zt i=z at *
        generalize zr i=r at *
        have HC:=hI hc
        have HC':=hI hc'
        have INV:=hI inv
        have dk:decide ((i:Int)<(nr:Int))=true:=by simpa using hin
        clear inv hc hc'
        go_upto_region 7 with fail
        go_wp2_with fail
        go_loopw [7,9] (fun s7 s9 wr=>∃ k L A c,k≤m∧s9 = .int .u8 (k:Nat)∧s7 = .slice A (L:List Rw).length c∧ShutInv w wr (2+4 * i+k) L A c w.heap.size) (fun _ s9 _=>m - (intOf s9).toNat)
        case atStart=>exact⟨0,L,A,c,Nat.zero_le _,rfl,rfl,INV.out⟩
        case round=>
         obtain⟨k,L,A,c,hkm,rfl,rfl,inv⟩:=hrel
         have hc:=HC.out _ inv.f
         have INV:=hI inv
         clear inv
         have HLN:Hid (L.length≤60):=hI (by have:=INV.out.len;omega)
         have HM:Hid (L.length+1≤maxLen):=hI (by have:=HLN.out;unfold maxLen;omega)
         have HB:Hid ((L.length+1) * 88≤140737488355328):=hI (by have:=HLN.out;omega)
         have hbd:ad.block<wr.heap.size:=World.block_lt_of_cell? wr (ad.add i) hc |> fun h=>by rwa [block_add] at h
         by_cases hlt:k<m
         ·have dm:decide ((k:Int)<(m:Int))=true:=by simpa using hlt
          have wk:IntKind.u8.wrap ((k:Int)+1)=(k:Int)+1:=IntWalk.u8_in _ (by omega)
          have hb1:=build_one 4 0 0 0 0 false wr
          obtain⟨i0,hi0,hz0,hz1,hz2⟩:=i0p
          go_upto_region 10 with fail
          go_upto_region 9 with (at_builtin;refine wpList_append_sl _ rfl (.tmp 55) (.tmp 57) 23 rfl 51 i0 (.agg #[.int .i64 0, .int .i64 0, .int .u32 0, .int .u32 0, .int .u16 0, .slice none 0 0, .bool false, .slice none 0 0]) 8 88 Tryz.underlying23 hi0 hz0 hz1 hz2 rfl (by decide) (.slice A L.length c) L.length (rwCells L) (by rfl) (INV.out.fr ((Fr.refl [] wr).alloc _)).own (fun _=>True) (.slice (some ⟨wr.heap.size,0,none⟩) 1 1) 1 (Rw.cells ((⟨4,⟨0,0,0,0,[]⟩,false,[]⟩,(none,0),(none,0)):Rw)) (by rfl) (act_sl wr ((⟨4,⟨0,0,0,0,[]⟩,false,[]⟩,(none,0),(none,0)):Rw)) (rwc_one _) HM.out HB.out (L.length+1) rfl ?_;intro A' c' w' h1 h2 h3;have HA:=hI ((INV.out.fr ((Fr.refl [] wr).alloc (.cells #[.int .i64 4, .int .i64 0, .int .u32 0, .int .u32 0, .int .u16 0, .slice none 0 0, .bool false, .slice none 0 0] 51))).app ((⟨4,⟨0,0,0,0,[]⟩,false,[]⟩,(none,0),(none,0)):Rw) (RwS.plain _ _ 4 (.inr (.inr rfl)) 0 0 0 0 false (by simp) (by simp) (by simp) (by simp) (by simp) (by simp)) h1 h2 h3);clear h1 h2 h3)
          clear hb1 hi0 hz0 hz1 hz2 hc hbd
          go_wp2_with fail
          go_roundw
          case rel=>exact⟨k+1,_,A',c',by omega,by go_num,by simp,HA.out⟩
          case measure=>simp [intOf];omega
         ·obtain rfl:k=m:=by omega
          have dm:decide ((k:Int)<(k:Int))=false:=by simp
          go_upto_region 11 with fail
          have we:IntKind.u32.wrap (e:Int)=(e:Int):=IntWalk.u32_in _ (by omega)
          have wq:IntKind.u8.wrap (q:Int)=(q:Int):=IntWalk.u8_in _ (by omega)
          have we8:IntKind.u8.wrap (e:Int)=(e:Int):=IntWalk.u8_in _ (by omega)
          have hit:i<nt:=by omega
          obtain⟨i0,hi0,hz0,hz1,hz2⟩:=i0p
          refine wp_region_held_drew (S:=fun W=>Fr (ob (.slice A L.length c)) wr W) (by kernel_rfl) (Fr.refl _ wr).drew (fun hH=>?_)
          have fd:Fr [] wr wr.drew:=(Fr.refl [] wr).drew
          generalize wr.drew=wd at *
          refine Held.take 0 (v := .slice A L.length c) rfl (by kernel_rfl) (by kernel_rfl) (by kernel_rfl) (fun _ _ _ h=>h) (Or.inl ⟨rfl,fun (W:World) hs=>by go_simp⟩) hH ?_
          try simp only [Act.put,zqA,zqB,zqC]
          refine Held.take 1 (v := .slice (some ad) nt ct) rfl (by kernel_rfl) (by kernel_rfl) (by kernel_rfl) (fun _ _ _ h=>h) (Or.inl ⟨rfl,fun (W:World) hs=>by go_simp⟩) hH ?_
          try simp only [Act.put,zqA,zqB,zqC]
          refine Held.take 2 (v := .int .i64 (i:Nat)) rfl (by kernel_rfl) (by kernel_rfl) (by kernel_rfl) (fun _ _ _ h=>h) (Or.inl ⟨rfl,fun (W:World) hs=>by go_simp⟩) hH ?_
          try simp only [Act.put,zqA,zqB,zqC]
          refine Held.take 3 (v := .pointer (some (ad.add i))) rfl (by kernel_rfl) (by kernel_rfl) (by kernel_rfl) (fun _ _ _ h=>h) (Or.inl ⟨rfl,fun (W:World) hs=>by go_simp⟩) hH ?_
          try simp only [Act.put,zqA,zqB,zqC]
          refine Held.take 4 (v := .int .u8 z) rfl (by kernel_rfl) (by kernel_rfl) (by kernel_rfl) (fun _ _ _ h=>h) (Or.inl ⟨rfl,fun (W:World) hs=>by have d:=HC.out _ (INV.out.f.trans hs (fun b hb => .inr (INV.out.new b hb).1));go_simp⟩) hH ?_
          try simp only [Act.put,zqA,zqB,zqC]
          refine Held.take 5 (v := .int .u8 (q:Int)) rfl (by kernel_rfl) (by kernel_rfl) (by kernel_rfl) (fun _ _ _ h=>h) (Or.inl ⟨rfl,fun (W:World) hs=>by go_simp⟩) hH ?_
          try simp only [Act.put,zqA,zqB,zqC]
          refine Held.take 6 (v := .int .u8 (e:Int)) rfl (by kernel_rfl) (by kernel_rfl) (by kernel_rfl) (fun _ _ _ h=>h) (Or.inl ⟨rfl,fun (W:World) hs=>by go_simp⟩) hH ?_
          try simp only [Act.put,zqA,zqB,zqC]
          refine Held.take 7 (v := .int .u32 (e:Int)) rfl (by kernel_rfl) (by kernel_rfl) (by kernel_rfl) (fun _ _ _ h=>h) (Or.inl ⟨rfl,fun (W:World) hs=>by go_simp⟩) hH ?_
          try simp only [Act.put,zqA,zqB,zqC]
          refine Held.take 8 (v := .slice (some ar) nr cr) rfl (by kernel_rfl) (by kernel_rfl) (by kernel_rfl) (fun _ _ _ h=>h) (Or.inl ⟨rfl,fun (W:World) hs=>by go_simp⟩) hH ?_
          try simp only [Act.put,zqA,zqB,zqC]
          refine Held.take 9 (v := .int .i64 (i:Nat)) rfl (by kernel_rfl) (by kernel_rfl) (by kernel_rfl) (fun _ _ _ h=>h) (Or.inl ⟨rfl,fun (W:World) hs=>by go_simp⟩) hH ?_
          try simp only [Act.put,zqA,zqB,zqC]
          refine Held.take 10 (v := .pointer (some (ar.add i))) rfl (by kernel_rfl) (by kernel_rfl) (by kernel_rfl) (fun _ _ _ h=>h) (Or.inl ⟨rfl,fun (W:World) hs=>by go_simp⟩) hH ?_
          try simp only [Act.put,zqA,zqB,zqC]
          refine Held.take 11 (v := .int .u16 r) rfl (by kernel_rfl) (by kernel_rfl) (by kernel_rfl) (fun _ _ _ h=>h) (Or.inl ⟨rfl,fun (W:World) hs=>by have d:=HC'.out _ (INV.out.f.trans hs (fun b hb => .inr (INV.out.new b hb).1));go_simp⟩) hH ?_
          try simp only [Act.put,zqA,zqB,zqC]
          refine Held.take 12 (v := .agg #[.int .i64 2, .int .u32 0, .int .u32 (e:Int), .int .u16 r, .slice none 0 0]) rfl (by kernel_rfl) (by kernel_rfl) (by kernel_rfl) (fun _ _ _ h=>h) (Or.inl ⟨rfl,fun (W:World) hs=>by go_simp⟩) hH ?_
          try simp only [Act.put,zqA,zqB,zqC]
          refine Held.take 13 (v := .agg #[.int .i64 1, .int .i64 2, .int .u32 0, .int .u32 (e:Int), .int .u16 r, .slice none 0 0, .bool true, .slice none 0 0]) rfl (by kernel_rfl) (by kernel_rfl) (by kernel_rfl) (fun _ _ _ h=>h) (Or.inl ⟨rfl,fun (W:World) hs=>by go_simp⟩) hH ?_
          try simp only [Act.put,zqA,zqB,zqC]
          have hb1:=build_one 1 2 0 (e:Int) r true wd
          refine Held.one (i:=14) (by kernel_rfl) rfl (fun K hK=>?_)
          go_simp
          try go_wp2_with fail
          refine hK.out _ _ (hH.alloc _) (fun hE=>?_)
          clear hK K hb1 hH
          try simp only [Act.put,zqA,zqB,zqC]
          refine Held.one (i:=15) (by kernel_rfl) rfl (fun K hK=>?_)
          refine step_append_sl _ (by rfl) (.tmp 59) (.tmp 73) 23 (by rfl) 51 i0 (.agg #[.int .i64 0, .int .i64 0, .int .u32 0, .int .u32 0, .int .u16 0, .slice none 0 0, .bool false, .slice none 0 0]) 8 88 Tryz.underlying23 hi0 hz0 hz1 hz2 (by rfl) (by decide) (.slice A L.length c) L.length (rwCells L) (by rfl) (INV.out.fr (fd.alloc (.cells #[.int .i64 1, .int .i64 2, .int .u32 0, .int .u32 (e:Int), .int .u16 r, .slice none 0 0, .bool true, .slice none 0 0] 51))).own (fun _=>True) (.slice (some ⟨wd.heap.size,0,none⟩) 1 1) 1 (Rw.cells ((⟨1,⟨2,0,(e:Int),r,[]⟩,true,[]⟩,(none,0),(none,0)):Rw)) (by rfl) (act_sl wd ((⟨1,⟨2,0,(e:Int),r,[]⟩,true,[]⟩,(none,0),(none,0)):Rw)) (rwc_one _) HM.out HB.out (L.length+1) rfl ?_
          intro A' c' w' h1 h2 h3
          have HA:=hI ((INV.out.fr (fd.alloc (.cells #[.int .i64 1, .int .i64 2, .int .u32 0, .int .u32 (e:Int), .int .u16 r, .slice none 0 0, .bool true, .slice none 0 0] 51))).app ((⟨1,⟨2,0,(e:Int),r,[]⟩,true,[]⟩,(none,0),(none,0)):Rw) (RwS.plain _ _ 1 (.inl rfl) 2 0 (e:Int) r true (by simp) (by simp) (by omega) (by omega) hr0 hr1) h1 h2 h3)
          refine hK.out _ _ (hE.trans h2 (fun b hb => .inl hb)) (fun hF=>?_)
          clear hK K h1 h2 h3
          try simp only [Act.put,zqA,zqB,zqC]
          refine Held.take 16 (v := .slice A' (L.length+1) c') rfl (by kernel_rfl) (by kernel_rfl) (by kernel_rfl) (fun _ _ _ h=>h) (Or.inl ⟨rfl,fun (W:World) hs=>by go_simp⟩) hF ?_
          try simp only [Act.put,zqA,zqB,zqC]
          refine Held.done (by kernel_rfl) ?_
          clear hi0 hz0 hz1 hz2 hc hbd hF fd
          go_wp2_with fail
          go_roundw
          case rel=>exact⟨i+1,_,A',c',by omega,by go_num,by simp,HA.out.le (by omega)⟩
          case measure=>simp [intOf];omega
       ·obtain rfl:nr=i:=by omega
        have INV:=hI inv
        clear inv
        go_wp2_with fail
        refine (play_any does124 7 (by omega) (by omega) true _ _ _ _ _ INV.out.acts INV.out.kind (by have:=INV.out.len;unfold maxLen;omega)).mono ?_
        rintro e w2 ⟨rfl,f2⟩
        have ff:=INV.out.f.trans f2 (by simp)
        clear f2
        go_wp2_with fail
        go_ret
        exact⟨rfl,ff⟩
end Go.Proofs.YtmgdbbbdhkfdmaaGreat
