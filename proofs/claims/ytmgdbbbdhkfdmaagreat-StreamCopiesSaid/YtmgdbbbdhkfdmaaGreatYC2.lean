import Derived.Test.YtmgdbbbdhkfdmaaGreatYC1
import Derived.Deep.DeepCutAuto
import Derived.Test.YtmgdbbbdhkfdmaaGreatYC0
set_option linter.unusedSimpArgs false
set_option linter.unusedVariables false
set_option maxHeartbeats 40000000
namespace Go.Proofs.YtmgdbbbdhkfdmaaGreat
set_option maxRecDepth 100000
open Go.RowKit
theorem xK(L:List (Pc × Value))(k:Nat)(x:Pc × Value)(h:L[k]?=some x):(L.map (·.1)).getD k default=x.1:=by
 rw [List.getD_eq_getElem?_getD,List.getElem?_map,h];rfl
theorem qfv(S:Nat->Prop)(w:World)(g hb:Nat)(n:Int)(d0:w.cell? ⟨hb,0,none⟩=some (ptr g))(d1:w.cell? ⟨g,1,none⟩=some (.int .i64 n))(kv:Value)(L:List (Pc × Value))(h:Kp 134 S w kv L)(hl:L.length<=1000000) :
  Calls Tryz.prog 130 #[kv, .func (.func 141) #[] #[.pointer (some ⟨hb,0,none⟩)], .func (.func 142) #[] #[]] w fun e w'=>e = .returned (.int .i64 (zK (early n) ahead (L.map (·.1)) L.length))/\Fr [] w w':=by
 obtain⟨KA,KC,rfl,hKn,hKc⟩:=h.form;go_enter Tryz.func130,Tryz.ntmps130;go_wp2
 go_loopw [7,12] (fun s7 s12 wr=>∃ k:Nat,k<=L.length/\s12 = .int .i64 k/\s7 = .int .i64 (zK (early n) ahead (L.map (·.1)) k)/\Fr [] w wr) (fun _ s12 _=>L.length - (intOf s12).toNat);case atStart=>exact⟨0,zw,rfl,rfl,Fr.refl _ _⟩
 case round=>
  obtain⟨k,hk,rfl,rfl,fk⟩:=hrel;have hbd:=yP (early n) ahead (L.map (·.1)) k;have hsucc:=xy (early n) ahead (L.map (·.1)) k;by_cases hlt:k<L.length
  ·have hk2:=h.fr fk zs zs
   obtain⟨b,_,x,hv,hx,c0,c1,hb⟩:=hk2.at_ hlt;injection hv with hv _ _;subst hv;rw [xK L k x hx] at hsucc;obtain⟨A,c,hxv,hnc,_⟩:=hb.form;rw [hxv] at c1;have hxx:(early n) x.1=decide (x.1.at_<=n):=rfl;have hlb:=World.block_lt_of_cell? wr _ c0;dsimp only at hlb;have d0':=ql fk d0;have d1':=ql fk d1;have fW:=(Fr.refl [] wr).alloc (bxp x.1.at_ (.slice A x.1.d.length c));have q0:=Grew.cell (kH d0' (bxp x.1.at_ (.slice A x.1.d.length c)));have q1:=Grew.cell (kH d1' (bxp x.1.at_ (.slice A x.1.d.length c)));have bn:=Blk.new wr 134 #[.int .i64 x.1.at_, .slice A x.1.d.length c];have q2:=Grew.cell (w:=wr.alloc (bxp x.1.at_ (.slice A x.1.d.length c))) (a:=⟨wr.heap.size,0,none⟩) (bn.cell 0);have q3:=Grew.cell (w:=wr.alloc (bxp x.1.at_ (.slice A x.1.d.length c))) (a:=⟨wr.heap.size,1,none⟩) (bn.cell 1);have Hx:=hI hx;have Hk2:=hI hk2;have Hxv:=hI hxv;have Hfk:=hI fk;have HfW:=hI fW;clear hx hk2 hxv hb fW fk bn hnc;have hc1:∀ p:Grew (wr.alloc (bxp x.1.at_ (.slice A x.1.d.length c))),Calls Tryz.prog 141 #[agp x.1.at_ (.slice A x.1.d.length c), .pointer (some ⟨hb,0,none⟩)] p.W fun e w''=>e = .returned (.bool ((early n) x.1))/\∃ q:Grew (wr.alloc (bxp x.1.at_ (.slice A x.1.d.length c))),w''=q.W:=fun p=>qG (r11_any x.1.at_ _ g hb n _ (q0 p) (q1 p) rfl A x.1.d.length c rfl);generalize hbb:zK (early n) ahead (L.map (·.1)) k=bb at *
   have Hc1:=hI hc1;clear hc1 hxx;have HS:=hI hsucc;clear hsucc hbb;obtain⟨hb0,hb1⟩:=hbd;cases hi:(early n) x.1
   ·rw [hi] at Hc1 HS
    clear hi;go_upto_region 5 with fail
    refine qg zk zk ?_;repeat (go_big_quiet_step ((go_at_call 141;exact Hc1.out _)))
    refine wpQuiet_nil ?_;intro W1 f1;go_wp2_with fail
    go_roundw;case rel=>
     have e:=HS.out;simp at e;exact⟨k+1,zw,by go_num,by rw [e],Hfk.out.trans (HfW.out.trans f1 zs) zs⟩
    case measure=>simp [intOf];omega
   ·rw [hi] at Hc1 HS
    clear hi;by_cases hb2:bb<0
    ·have e2:decide (bb<0)=true:=by simpa using hb2
     rw [e2] at HS;go_upto_region 5 with fail
     refine qg zk zk ?_;repeat (go_big_quiet_step ((go_at_call 141;exact Hc1.out _)))
     refine wpQuiet_nil ?_;intro W1 f1;go_wp2_with fail
     go_roundw;case rel=>
      have e:=HS.out;simp at e;exact⟨k+1,zw,by go_num,by rw [e],Hfk.out.trans (HfW.out.trans f1 zs) zs⟩
     case measure=>simp [intOf];omega
    ·have e2:decide (bb<0)=false:=by simpa using hb2
     have hb3:0<=bb:=zw;have hb4:bb.toNat<L.length:=zw;have hb5:bb<(L.length:Int):=zw;obtain⟨_,_,y,hv,hy,c2,c3,hby⟩:=Hk2.out.at_ hb4;injection hv with hv _ _;injection hv with hv;injection hv with hv _ _;subst hv;rw [e2] at HS;rw [xK L _ y hy] at HS;obtain⟨A2,c4,hyv,_,_⟩:=hby.form;rw [hyv] at c3;have q4:=Grew.cell (kH c2 (bxp x.1.at_ (.slice A x.1.d.length c)));have q5:=Grew.cell (kH c3 (bxp x.1.at_ (.slice A x.1.d.length c)));have Hy:=hI hy;have Hyv:=hI hyv;clear hy hyv hby;have hc2:∀ p:Grew (wr.alloc (bxp x.1.at_ (.slice A x.1.d.length c))),Calls Tryz.prog 142 #[agp x.1.at_ (.slice A x.1.d.length c),agp y.1.at_ (.slice A2 y.1.d.length c4)] p.W fun e w''=>e = .returned (.bool (ahead x.1 y.1))/\∃ q:Grew (wr.alloc (bxp x.1.at_ (.slice A x.1.d.length c))),w''=q.W:=fun p=>qG (r12_any _ _ _ _ _ _ _ _ _);have Hc2:=hI hc2;clear hc2;clear hb2;cases hi:ahead x.1 y.1
     ·rw [hi] at Hc2 HS
      clear hi;go_upto_region 5 with fail
      refine qg zk zk ?_;repeat (go_big_quiet_step (first|(go_at_call 141;exact Hc1.out _)|(go_at_call 142;exact Hc2.out _)))
      refine wpQuiet_nil ?_;intro W1 f1;go_wp2_with fail
      go_roundw;case rel=>
       have e:=HS.out;simp at e;exact⟨k+1,zw,by go_num,by rw [e],Hfk.out.trans (HfW.out.trans f1 zs) zs⟩
      case measure=>simp [intOf];omega
     ·rw [hi] at Hc2 HS
      clear hi;go_upto_region 5 with fail
      refine qg zk zk ?_;repeat (go_big_quiet_step (first|(go_at_call 141;exact Hc1.out _)|(go_at_call 142;exact Hc2.out _)))
      refine wpQuiet_nil ?_;intro W1 f1;go_wp2_with fail
      go_roundw;case rel=>
       have e:=HS.out;simp at e;exact⟨k+1,zw,by go_num,by rw [e],Hfk.out.trans (HfW.out.trans f1 zs) zs⟩
      case measure=>simp [intOf];omega
  ·obtain rfl:L.length=k:=zw
   go_wp2_with fail
   go_ret;exact⟨rfl,fk⟩
theorem qau(S:Nat->Prop)(w:World)(pb:Nat)(pa:Int)(B:Option Addr)(ln' c':Nat)(d0:w.cell? ⟨pb,0,none⟩=some (.int .i64 pa))(d1:w.cell? ⟨pb,1,none⟩=some (.slice B ln' c'))(kv:Value)(L:List (Pc × Value))(h:Kp 134 S w kv L)(hl:L.length<=1000000) :
  Calls Tryz.prog 130 #[kv, .func (.func 131) #[] #[.pointer (some ⟨pb,0,none⟩)], .func (.func 132) #[] #[]] w fun e w'=>e = .returned (.int .i64 (zK (longer pa ln') (fun _ _=>false) (L.map (·.1)) L.length))/\Fr [] w w':=by
 obtain⟨KA,KC,rfl,hKn,hKc⟩:=h.form;go_enter Tryz.func130,Tryz.ntmps130;go_wp2
 go_loopw [7,12] (fun s7 s12 wr=>∃ k:Nat,k<=L.length/\s12 = .int .i64 k/\s7 = .int .i64 (zK (longer pa ln') (fun _ _=>false) (L.map (·.1)) k)/\Fr [] w wr) (fun _ s12 _=>L.length - (intOf s12).toNat);case atStart=>exact⟨0,zw,rfl,rfl,Fr.refl _ _⟩
 case round=>
  obtain⟨k,hk,rfl,rfl,fk⟩:=hrel;have hbd:=yP (longer pa ln') (fun _ _=>false) (L.map (·.1)) k;have hsucc:=xy (longer pa ln') (fun _ _=>false) (L.map (·.1)) k;by_cases hlt:k<L.length
  ·have hk2:=h.fr fk zs zs
   obtain⟨b,_,x,hv,hx,c0,c1,hb⟩:=hk2.at_ hlt;injection hv with hv _ _;subst hv;rw [xK L k x hx] at hsucc;obtain⟨A,c,hxv,hnc,_⟩:=hb.form;rw [hxv] at c1;have hxx:(longer pa ln') x.1=((x.1.at_ == pa) && decide (ln'<=x.1.d.length)):=rfl;have hlb:=World.block_lt_of_cell? wr _ c0;dsimp only at hlb;have d0':=ql fk d0;have d1':=ql fk d1;have fW:=(Fr.refl [] wr).alloc (bxp x.1.at_ (.slice A x.1.d.length c));have q0:=Grew.cell (kH d0' (bxp x.1.at_ (.slice A x.1.d.length c)));have q1:=Grew.cell (kH d1' (bxp x.1.at_ (.slice A x.1.d.length c)));have bn:=Blk.new wr 134 #[.int .i64 x.1.at_, .slice A x.1.d.length c];have q2:=Grew.cell (w:=wr.alloc (bxp x.1.at_ (.slice A x.1.d.length c))) (a:=⟨wr.heap.size,0,none⟩) (bn.cell 0);have q3:=Grew.cell (w:=wr.alloc (bxp x.1.at_ (.slice A x.1.d.length c))) (a:=⟨wr.heap.size,1,none⟩) (bn.cell 1);have Hx:=hI hx;have Hk2:=hI hk2;have Hxv:=hI hxv;have Hfk:=hI fk;have HfW:=hI fW;clear hx hk2 hxv hb fW fk bn hnc;have hc1:∀ p:Grew (wr.alloc (bxp x.1.at_ (.slice A x.1.d.length c))),Calls Tryz.prog 131 #[agp x.1.at_ (.slice A x.1.d.length c), .pointer (some ⟨pb,0,none⟩)] p.W fun e w''=>e = .returned (.bool ((longer pa ln') x.1))/\∃ q:Grew (wr.alloc (bxp x.1.at_ (.slice A x.1.d.length c))),w''=q.W:=fun p=>qG (p1_any x.1.at_ pa A B x.1.d.length c ln' c' pb _ (q0 p) (q1 p));generalize hbb:zK (longer pa ln') (fun _ _=>false) (L.map (·.1)) k=bb at *
   have Hc1:=hI hc1;clear hc1 hxx;have HS:=hI hsucc;clear hsucc hbb;obtain⟨hb0,hb1⟩:=hbd;cases hi:(longer pa ln') x.1
   ·rw [hi] at Hc1 HS
    clear hi;go_upto_region 5 with fail
    refine qg zk zk ?_;repeat (go_big_quiet_step ((go_at_call 131;exact Hc1.out _)))
    refine wpQuiet_nil ?_;intro W1 f1;go_wp2_with fail
    go_roundw;case rel=>
     have e:=HS.out;simp at e;exact⟨k+1,zw,by go_num,by rw [e],Hfk.out.trans (HfW.out.trans f1 zs) zs⟩
    case measure=>simp [intOf];omega
   ·rw [hi] at Hc1 HS
    clear hi;by_cases hb2:bb<0
    ·have e2:decide (bb<0)=true:=by simpa using hb2
     rw [e2] at HS;go_upto_region 5 with fail
     refine qg zk zk ?_;repeat (go_big_quiet_step ((go_at_call 131;exact Hc1.out _)))
     refine wpQuiet_nil ?_;intro W1 f1;go_wp2_with fail
     go_roundw;case rel=>
      have e:=HS.out;simp at e;exact⟨k+1,zw,by go_num,by rw [e],Hfk.out.trans (HfW.out.trans f1 zs) zs⟩
     case measure=>simp [intOf];omega
    ·have e2:decide (bb<0)=false:=by simpa using hb2
     have hb3:0<=bb:=zw;have hb4:bb.toNat<L.length:=zw;have hb5:bb<(L.length:Int):=zw;obtain⟨_,_,y,hv,hy,c2,c3,hby⟩:=Hk2.out.at_ hb4;injection hv with hv _ _;injection hv with hv;injection hv with hv _ _;subst hv;rw [e2] at HS
     skip
     obtain⟨A2,c4,hyv,_,_⟩:=hby.form;rw [hyv] at c3;have q4:=Grew.cell (kH c2 (bxp x.1.at_ (.slice A x.1.d.length c)));have q5:=Grew.cell (kH c3 (bxp x.1.at_ (.slice A x.1.d.length c)));have Hy:=hI hy;have Hyv:=hI hyv;clear hy hyv hby;have hc2:∀ p:Grew (wr.alloc (bxp x.1.at_ (.slice A x.1.d.length c))),Calls Tryz.prog 132 #[agp x.1.at_ (.slice A x.1.d.length c),agp y.1.at_ (.slice A2 y.1.d.length c4)] p.W fun e w''=>e = .returned (.bool ((fun _ _=>false) x.1 y.1))/\∃ q:Grew (wr.alloc (bxp x.1.at_ (.slice A x.1.d.length c))),w''=q.W:=fun p=>qG (p2_any _ _ _ _ _ _ _ _ _);have Hc2:=hI hc2;clear hc2;clear hb2;go_upto_region 5 with fail
     refine qg zk zk ?_;repeat (go_big_quiet_step (first|(go_at_call 131;exact Hc1.out _)|(go_at_call 132;exact Hc2.out _)))
     refine wpQuiet_nil ?_;intro W1 f1;go_wp2_with fail
     go_roundw;case rel=>
      have e:=HS.out;simp at e;exact⟨k+1,zw,by go_num,by rw [e],Hfk.out.trans (HfW.out.trans f1 zs) zs⟩
     case measure=>simp [intOf];omega
  ·obtain rfl:L.length=k:=zw
   go_wp2_with fail
   go_ret;exact⟨rfl,fk⟩
end Go.Proofs.YtmgdbbbdhkfdmaaGreat
namespace Go.Proofs.YtmgdbbbdhkfdmaaGreat
set_option maxRecDepth 100000
open Go.RowKit Go.Deep
def IdxPost(w:World)(p:Pc->Bool)(l:List Pc)(e:Ending)(w':World):Prop:=∃ r:Int,e = .returned (.int .i64 r)/\decide (0<=r)=l.any p/\Fr [] w w'
theorem vN(p:Pc->Bool)(l:List Pc)(k:Nat)(x:Pc)(h:l[k]?=some x):(l.take (k+1)).any p=((l.take k).any p || p x):=by
 rw [List.take_add_one,h];simp
theorem qke(S:Nat->Prop)(w:World)(ab:Nat)(a:Int)(d0:w.cell? ⟨ab,0,none⟩=some (.int .i64 a))(kv:Value)(L:List (Pc × Value))(h:Kp 134 S w kv L)(hl:L.length<=64)
  (hpc:∀ x∈L,0<=x.1.at_/\x.1.at_<=4611686018427387904/\1<=x.1.d.length/\x.1.d.length<=64) :
  Calls Tryz.prog 139 #[kv, .func (.func 126) #[] #[.pointer (some ⟨ab,0,none⟩)]] w (IdxPost w (over a) (L.map (·.1))):=by
 obtain⟨KA,KC,rfl,hKn,hKc⟩:=h.form;have K:=hI h;have HPC:=hI hpc;clear h hpc;go_enter Tryz.func139,Tryz.ntmps139;go_wp2
 go_loopw [8] (fun s8 wr=>∃ k:Nat,k<=L.length/\s8 = .int .i64 k/\((L.map (·.1)).take k).any (over a)=false/\Fr [] w wr) (fun s8 _=>L.length - (intOf s8).toNat);case atStart=>exact⟨0,zw,rfl,rfl,Fr.refl _ _⟩
 case round=>
  obtain⟨k,hk,rfl,hany,fk⟩:=hrel;have HA:=hI hany;clear hany;by_cases hlt:k<L.length
  ·obtain⟨b,_,x,hv,hx,c0,c1,hby⟩:=(K.out.fr fk zs zs).at_ hlt
   injection hv with hv _ hc;subst hv hc;obtain⟨A,c,hxv,_,_⟩:=hby.form;rw [hxv] at c1;have hp:=HPC.out x (List.mem_of_getElem? hx);have hg:(L.map (·.1))[k]?=some x.1:=by simp [hx]
   have hcall:=e1_any x.1.at_ a A x.1.d.length c ab wr (ql fk d0) hp.1 zw zw;have hov:decide (a<x.1.at_+(x.1.d.length:Int))=over a x.1:=rfl;rw [hov] at hcall;have HC:=hI hcall;have HG:=hI hg;have Fk:=hI fk;clear hcall hov hg hx hxv hby fk hp;cases ho:over a x.1
   ·rw [ho] at HC
    have HO:=hI ho;clear ho;go_wp2_with fail
    refine HC.out.mono ?_;rintro e w1 ⟨rfl,f1⟩;go_wp2_with fail
    go_roundw;case rel=>exact⟨k+1,zw,by go_num,by rw [vN _ _ _ _ HG.out,HA.out,HO.out];rfl,Fk.out.trans f1 zs⟩
    case measure=>simp [intOf];omega
   ·rw [ho] at HC
    have HO:=hI ho;clear ho;go_wp2_with fail
    refine HC.out.mono ?_;rintro e w1 ⟨rfl,f1⟩;go_wp2_with fail
    go_ret;refine⟨k,rfl,?_,Fk.out.trans f1 zs⟩;have h1:(L.map (·.1)).any (over a)=true:=List.any_eq_true.2 ⟨x.1,List.mem_of_getElem? HG.out,HO.out⟩;rw [h1];simp
  ·obtain rfl:L.length=k:=zw
   go_wp2_with fail
   go_ret;refine⟨-1,rfl,?_,fk⟩;have:=HA.out;rw [List.take_of_length_le zs] at this;rw [this];rfl
theorem qep(S:Nat->Prop)(w:World)(ab:Nat)(a:Int)(d0:w.cell? ⟨ab,0,none⟩=some (.int .i64 a))(kv:Value)(L:List (Pc × Value))(h:Kp 134 S w kv L)(hl:L.length<=64)
  (hpc:∀ x∈L,0<=x.1.at_/\x.1.at_<=4611686018427387904/\1<=x.1.d.length/\x.1.d.length<=64) :
  Calls Tryz.prog 125 #[kv, .func (.func 126) #[] #[.pointer (some ⟨ab,0,none⟩)]] w fun e w'=>e = .returned (.bool ((L.map (·.1)).any (over a)))/\Fr [] w w':=by
 have hi:=qke S w ab a d0 kv L h hl hpc;have HI:=hI hi;obtain⟨KA,KC,rfl,_,_⟩:=h.form;clear hi h hpc d0;go_enter Tryz.func125,Tryz.ntmps125;go_wp2_with fail
 refine HI.out.mono ?_;rintro e w1 ⟨r,rfl,hr,f1⟩;have HR:=hI hr;clear hr;go_wp2_with fail
 go_ret;exact⟨qef HR.out,f1⟩
def qaj(S:Nat->Prop)(w:World)(g:Nat)(kv:Value)(h':Hp)(err:Int)(e:Ending)(w':World):Prop:=
 ∃ S',e = .returned (.int .i64 err)/\Ext w S S'/\HP S' w' g kv h'/\Fr [g] w w'
theorem qcb{S:Nat->Prop}{w w':World}{g:Nat}{kv:Value}{h:Hp}(m:HP S w g kv h)(f:Fr [] w w')(err:Int):qaj S w g kv h err (.returned (.int .i64 err)) w':=by
 obtain⟨ev,L,m⟩:=m;exact⟨S,rfl,Ext.refl _ _,⟨ev,L,m.fr f zs zs zs⟩,f.mono zs⟩
theorem end_set{S:Nat->Prop}{w W:World}{g b:Nat}{kv ev:Value}{h:Hp}{L:List (Pc × Value)}{a:Int}(m:HPx S w g kv ev h L)(f:Fr [] w W)(hb:W.cell? ⟨b,0,none⟩=some (.int .i64 a))(hn:w.heap.size<=b)(hg:b≠g)(hk:kv.ownBlock≠some b) :
  qaj S w g kv { h with fin:=some a } 0 (.returned (.int .i64 0)) (W.setCell ⟨g,3,none⟩ (ptr b)):=by
 have m1:=m.fr f zs zs zs;have f2:=(Fr.refl [g] W).setCell (p:=⟨g,3,none⟩) (.inl zs) (ptr b);have hO:∀ x∈[g],¬ S x:=by intro x hx;simp at hx;subst hx;exact m.offg
 have hlt:=World.block_lt_of_cell? W _ hb;dsimp only at hlt;refine⟨fun x=>S x\/x=b,rfl,⟨fun x h => .inl h,fun x h=>h.imp id (fun e=>by omega)⟩,⟨ptr b,L,?_,?_,m.kept,?_,?_,?_,?_⟩,(f.mono zs).trans f2 (fun x hx => .inl hx)⟩
 ·simpa using m1.blk.qO 3 (ptr b)
 ·exact (m1.kp.fr f2 hO (fun b hb'=>by simp;rintro rfl;exact own_ne m1.kp.own m1.blk zd hb')).mono fun x h => .inl h
 ·refine .inr ⟨a,b,rfl,rfl, .inr rfl,?_⟩
  rw [f2.cell (p:=⟨b,0,none⟩) hlt (by simpa using hg)];exact hb
 ·intro x hx
  rcases hx with h1|rfl
  ·exact Nat.lt_of_lt_of_le (m1.pub x h1) f2.size
  ·exact Nat.lt_of_lt_of_le hlt f2.size
 ·rintro (h1|h1)
  ·exact m.offg h1
  ·exact hg h1.symm
 ·rintro x hx (h1|h1)
  ·exact m.offk x hx h1
  ·exact hk (h1▸hx)
theorem end_arg{S:Nat->Prop}{w:World}{g:Nat}{kv:Value}{h:Hp}(m:HP S w g kv h)(a:Int)(ha:a<0\/4611686018427387904<a) :
  Calls Tryz.prog 116 #[ptr g, .int .i64 a] w (qaj S w g kv h 2):=by
 have M:=hI m;obtain⟨ev,L,m⟩:=m;have c4:=m.cells.2.2.2.2;have hg:=m.blk.lt;clear m;have q4:=kH c4 (.cells #[.int .i64 a] 2);by_cases h0:a<0
 ·go_enter Tryz.func116,Tryz.ntmps116
  go_wp2_with (go_at_call 86;refine (jb q4).mono ?_;rintro e w' ⟨rfl,rfl⟩)
  go_ret;exact qcb M.out ((Fr.refl _ _).alloc _) 2
 ·have h1:4611686018427387904<a:=zw
  clear ha;go_enter Tryz.func116,Tryz.ntmps116;go_wp2_with (go_at_call 86;refine (jb q4).mono ?_;rintro e w' ⟨rfl,rfl⟩)
  go_ret;exact qcb M.out ((Fr.refl _ _).alloc _) 2
set_option maxRecDepth 100000 in
theorem end_go{S:Nat->Prop}{w:World}{g:Nat}{kv:Value}{h:Hp}(m:HP S w g kv h)(hi:Inv h)(a:Int)(ha:0<=a)(ha2:a<=4611686018427387904) :
  Calls Tryz.prog 116 #[ptr g, .int .i64 a] w (qaj S w g kv (if (other h.fin a || decide (a<h.next) || h.kept.any (over a))=true then h else { h with fin:=some a }) (if (other h.fin a || decide (a<h.next) || h.kept.any (over a))=true then 250 else 0)):=by
 have M:=hI m;obtain⟨ev,L,m⟩:=m;obtain⟨c0,c1,c2,c3,c4⟩:=m.cells;have hg:=m.blk.lt;have M0:=hI m;have hL:L.length<=64:=by have h1:=hi.len;have h2:=hi.m1;rw [m.len] at h1;omega
 have hpc:∀ x∈L,0<=x.1.at_/\x.1.at_<=4611686018427387904/\1<=x.1.d.length/\x.1.d.length<=64:=fun x hx=>hi.pc x.1 (by rw [m.kept];exact List.mem_map.2 ⟨x,hx,rfl⟩);have q4:=kH c4 (.cells #[.int .i64 a] 2);have bn:=Blk.new w 2 #[.int .i64 a];have bn0:(w.alloc (.cells #[.int .i64 a] 2)).cell? ⟨w.heap.size,0,none⟩=some (.int .i64 a):=bn.cell 0;have fa:Fr [] w (w.alloc (.cells #[.int .i64 a] 2)):=(Fr.refl _ _).alloc _;have hco:=fun p:Grew (w.alloc (.cells #[.int .i64 a] 2))=>qG (qep S p.W w.heap.size a (Grew.cell bn0 p) kv L ((m.kp.fr fa zs zs).fr p.fr zs zs) hL hpc);rw [<- m.kept] at hco;have HCO:=hI hco;have x0:=Grew.cell bn0;have x1:=Grew.cell (kH c1 (.cells #[.int .i64 a] 2));have x2:=Grew.cell (kH c2 (.cells #[.int .i64 a] 2));have x3:=Grew.cell (kH c3 (.cells #[.int .i64 a] 2));have BN:=hI bn;have FA:=hI fa;have hfin:=m.fin;clear hco bn fa m c0 c1 c2 c3 c4 hi hpc;generalize h.kept.any (over a)=q at *
 go_enter Tryz.func116,Tryz.ntmps116;go_upto_region 5 with (go_at_call 86;refine (jb q4).mono ?_;rintro e w' ⟨rfl,rfl⟩)
 go_cut [15] (fun s15 wx=>s15 = .bool (other h.fin a || decide (a<h.next) || q)/\Fr [] (w.alloc (.cells #[.int .i64 a] 2)) wx);case first=>
  rcases hfin with ⟨e1,rfl⟩|⟨fa,fb,e1,rfl,e3,e4⟩
  ·have e5:other h.fin a=false:=by unfold other;rw [e1]
   have E5:=hI e5;clear e1 e5;by_cases hlt:a<h.next
   ·have hd:decide (a<h.next)=true:=by simpa using hlt
    refine qg zk zk ?_;repeat (go_big_quiet_step ((go_at_call 125;exact HCO.out _)))
    refine wpQuiet_nil ?_;intro W1 f1;go_wp2_with fail
    go_meet;exact⟨by rw [E5.out];simp [*],f1⟩
   ·have hd:decide (a<h.next)=false:=by simpa using hlt
    refine qg zk zk ?_;repeat (go_big_quiet_step ((go_at_call 125;exact HCO.out _)))
    refine wpQuiet_nil ?_;intro W1 f1;go_wp2_with fail
    go_meet;exact⟨by rw [E5.out];simp [*],f1⟩
  ·have e5:other h.fin a=!(fa == a):=by unfold other;rw [e1]
   have E5:=hI e5;have x4:=Grew.cell (kH e4 (.cells #[.int .i64 a] 2));clear e1 e5 e4;cases hfa:(fa == a)
   ·have hfb:(fa != a)=true:=by simp [bne,hfa]
    refine qg zk zk ?_;repeat (go_big_quiet_step ((go_at_call 125;exact HCO.out _)))
    refine wpQuiet_nil ?_;intro W1 f1;go_wp2_with fail
    go_meet;exact⟨by rw [E5.out];simp [*],f1⟩
   ·have hfb:(fa != a)=false:=by simp [bne,hfa]
    by_cases hlt:a<h.next
    ·have hd:decide (a<h.next)=true:=by simpa using hlt
     refine qg zk zk ?_;repeat (go_big_quiet_step ((go_at_call 125;exact HCO.out _)))
     refine wpQuiet_nil ?_;intro W1 f1;go_wp2_with fail
     go_meet;exact⟨by rw [E5.out];simp [*],f1⟩
    ·have hd:decide (a<h.next)=false:=by simpa using hlt
     refine qg zk zk ?_;repeat (go_big_quiet_step ((go_at_call 125;exact HCO.out _)))
     refine wpQuiet_nil ?_;intro W1 f1;go_wp2_with fail
     go_meet;exact⟨by rw [E5.out];simp [*],f1⟩
 case rest=>
  obtain⟨rfl,f1⟩:=hcut;generalize wc=W1 at *
  have b1:=BN.out.fr f1 zs;have m1:=M0.out.fr (FA.out.trans f1 zs) zs zs zs;have y0:=m1.cells.2.2.2.1;have y1:=m1.blk.frozen 3;have y2:=m1.blk.lt;have B1:=hI b1;have F1:=hI f1;clear b1 m1 f1 x0 x1 x2 x3 hfin;generalize (other h.fin a || decide (a<h.next) || q)=z at *
  cases z
  ·go_wp2_with fail
   go_ret;exact end_set M0.out (FA.out.trans F1.out zs) (B1.out.cell 0) (Nat.le_refl _) (by have:=M0.out.blk.lt;omega) (fun hk=>by have:=kG M0.out.kp.own hk;omega)
  ·go_wp2_with fail
   go_ret;exact qcb M.out (FA.out.trans F1.out zs) 250
theorem end_any{S:Nat->Prop}{w:World}{g:Nat}{kv:Value}{h:Hp}(m:HP S w g kv h)(hi:Inv h)(a:Int):Calls Tryz.prog 116 #[ptr g, .int .i64 a] w (qaj S w g kv (yD h a).1 (yD h a).2):=by
 unfold yD;by_cases h0:a<0\/4611686018427387904<a
 ·rw [if_pos h0]
  exact end_arg m a h0
 ·rw [if_neg h0]
  have:=end_go m hi a zw zw;split
  ·rename_i h1
   rwa [if_pos h1,if_pos h1] at this
  ·rename_i h1
   rwa [if_neg h1,if_neg h1] at this
def qfw(S:Nat->Prop)(w:World)(h:Hp)(e:Ending)(w':World):Prop:=
 ∃ kv2,e = .returned (ptr w.heap.size)/\HP S w' w.heap.size kv2 h/\Fr [] w w'/\(∀ b,kv2.ownBlock=some b->w.heap.size<b)/\w.heap.size<w'.heap.size
theorem qkf{S:Nat->Prop}{w w1:World}{g:Nat}{kv kv2 ev:Value}{h:Hp}{L:List (Pc × Value)}(m:HPx S w g kv ev h L)(f12:Fr [] w w1)(b1:Blk w1 w.heap.size 115 #[.int .i64 h.most, .int .i64 h.next,kv,ev, .bool true])
  (k2:Kp 134 S w1 kv2 L) (hk:∀ b,kv2.ownBlock=some b->w.heap.size<b):qfw S w h (.returned (ptr w.heap.size)) (w1.setCell ⟨w.heap.size,2,none⟩ kv2):=by
 have f2:=(Fr.refl [w.heap.size] w1).setCell (p:=⟨w.heap.size,2,none⟩) (.inl zs) kv2;have m1:=m.fr f12 zs zs zs;have nS:¬ S w.heap.size:=fun hs=>by have:=m.pub _ hs;omega
 have hO:∀ x∈[w.heap.size],¬ S x:=by intro x hx;simp at hx;subst hx;exact nS
 refine⟨_,rfl,⟨ev,L,?_,?_,m.kept,?_,?_,nS,?_⟩,f12.trans f2 zs,hk,Nat.lt_of_lt_of_le b1.lt f2.size⟩
 ·simpa using b1.qO 2 kv2
 ·exact k2.fr f2 hO (fun b hb=>by simp;rintro rfl;exact own_ne k2.own b1 zd hb)
 ·rcases m1.fin with h1|⟨fa,fb,h1,h2,h3,h4⟩
  ·exact .inl h1
  ·exact .inr ⟨fa,fb,h1,h2,h3,(f2.cell (p:=⟨fb,0,none⟩) (m1.pub fb h3) (fun hm=>hO _ hm h3)).trans h4⟩
 ·intro b hb
  exact Nat.lt_of_lt_of_le (m1.pub b hb) f2.size
 ·intro b hb hs
  have h1:=hk b hb;have h2:=m.pub b hs;omega
theorem copy_hp{S:Nat->Prop}{w:World}{g:Nat}{kv:Value}{h:Hp}(m:HP S w g kv h)(hi:Inv h):Calls Tryz.prog 43 #[ptr g] w (qfw S w h):=by
 obtain⟨ev,L,m⟩:=m;obtain⟨c0,c1,c2,c3,c4⟩:=m.cells;have hg:=m.blk.lt;have hL:L.length<=64:=by have h1:=hi.len;have h2:=hi.m1;rw [m.len] at h1;omega
 have fa:Fr [] w (w.alloc (.cells #[.int .i64 h.most, .int .i64 h.next,kv,ev, .bool true] 115)):=(Fr.refl _ _).alloc _;have bn:=Blk.new w 115 #[.int .i64 h.most, .int .i64 h.next,kv,ev, .bool true];have q2:=kH c2 (.cells #[.int .i64 h.most, .int .i64 h.next,kv,ev, .bool true] 115);have hcl:=qca _ (m.kp.fr fa zs zs) zw;have HCL:=hI hcl;have M:=hI m;have FA:=hI fa;have BN:=hI bn;have hev:(∃ b,ev=ptr b)\/ev = .pointer none:=by
  rcases m.fin with ⟨_,rfl⟩|⟨_,b,_,rfl,_⟩
  ·exact .inr rfl
  ·exact .inl ⟨b,rfl⟩
 obtain⟨KA,KC,rfl,_,_⟩:=m.kp.form;clear hcl m fa bn hi;rcases hev with ⟨eb,rfl⟩|rfl;all_goals
  go_enter Tryz.func43,Tryz.ntmps43;go_wp2_with (go_at_call 86;refine (jb c4).mono ?_;rintro e w' ⟨rfl,rfl⟩)
  refine HCL.out.mono ?_;rintro e w1 ⟨A2,c2',rfl,k2,f1,hk⟩;have b1:=BN.out.fr f1 zs;have y0:w1.cell? ⟨w.heap.size,2,none⟩=some (.slice KA L.length KC):=by simpa using b1.cell 2
  have y1:=b1.frozen 2;have y2:=b1.lt;have K2:=hI k2;have F1:=hI f1;have HK:=hI hk;have B1:=hI b1;clear k2 f1 hk b1;go_wp2_with fail
  go_ret;exact qkf M.out (FA.out.trans F1.out zs) B1.out K2.out (fun b hb=>by have h1:=HK.out b hb;simp at h1;omega)
theorem bytes_eq(S:Nat->Prop)(w:World)(v u:Value)(d:List Int)(h1:Byt S w v d)(h2:Byt S w u d):Calls Tryz.prog 47 #[v,u] w fun e w'=>e = .returned (.bool true)/\w=w':=by
 have q1:=h1.string (P:=Tryz.prog) 30 5 Tryz.underlying30 Tryz.underlying5 9 Tryz.underlying9;have q2:=h2.string (P:=Tryz.prog) 30 5 Tryz.underlying30 Tryz.underlying5 9 Tryz.underlying9;obtain⟨A,c,rfl,_,_⟩:=h1.form;obtain⟨A',c',rfl,_,_⟩:=h2.form;clear h1 h2;generalize strOfNums d=s at *
 go_enter Tryz.func47,Tryz.ntmps47;go_wp2
 go_ret;exact⟨rfl,rfl⟩
theorem qmc(S:Nat->Prop)(w:World)(a:Int)(v u:Value)(d:List Int)(h1:Byt S w v d)(h2:Byt S w u d):Calls Tryz.prog 88 #[agp a v,agp a u] w fun e w'=>e = .returned (.bool true)/\Fr [] w w':=by
 have hq:∀ W,Fr [] w W->Calls Tryz.prog 47 #[v,u] W fun e w'=>e = .returned (.bool true)/\W=w':=fun W f=>bytes_eq S W v u d (h1.fr f zs) (h2.fr f zs);have HQ:=hI hq;obtain⟨A,c,rfl,_,_⟩:=h1.form;obtain⟨A',c',rfl,_,_⟩:=h2.form;clear h1 h2 hq;go_enter Tryz.func88,Tryz.ntmps88;go_wp2_with (go_at_call 47;refine (HQ.out _ (((Fr.refl _ _).alloc _).alloc _)).mono ?_;rintro e w' ⟨rfl,rfl⟩)
 go_ret;exact⟨rfl,((Fr.refl _ _).alloc _).alloc _⟩
theorem qmd(S:Nat->Prop)(w:World)(kv kv':Value)(L L':List (Pc × Value))(h1:Kp 134 S w kv L)(h2:Kp 134 S w kv' L')(he:L.map (·.1)=L'.map (·.1))(hl:L.length<=64) :
  Calls Tryz.prog 89 #[kv,kv', .func (.func 88) #[] #[]] w fun e w'=>e = .returned (.bool true)/\Fr [] w w':=by
 have hlen:L'.length=L.length:=by have:=congrArg List.length he;simpa using this.symm
 have K1:=hI h1;have K2:=hI h2;have HE:=hI he;have HL:=hI hlen;obtain⟨KA,KC,rfl,hKn,hKc⟩:=h1.form;obtain⟨KA',KC',rfl,hKn',hKc'⟩:=h2.form;clear h1 h2 he;rw [hlen] at hKn' |-
 clear hlen;go_enter Tryz.func89,Tryz.ntmps89;go_wp2
 go_loopw [17] (fun s17 wr=>∃ k:Nat,k<=L.length/\s17 = .int .i64 k/\Fr [] w wr) (fun s17 _=>L.length - (intOf s17).toNat);case atStart=>exact⟨0,zw,rfl,Fr.refl _ _⟩
 case round=>
  obtain⟨k,hk,rfl,fk⟩:=hrel;by_cases hlt:k<L.length
  ·obtain⟨b,_,x,hv,hx,d0,d1,hby⟩:=(K1.out.fr fk zs zs).at_ hlt
   injection hv with hv _ hc;subst hv hc;obtain⟨b',_,y,hv,hy,d2,d3,hby'⟩:=(K2.out.fr fk zs zs).at_ (k:=k) (by rw [HL.out];exact hlt);injection hv with hv _ hc;subst hv hc;have hxy:x.1=y.1:=by
    have h3:(L.map (·.1))[k]?=some x.1:=(by simp [hx]);have h4:(L'.map (·.1))[k]?=some y.1:=(by simp [hy]);rw [HE.out,h4] at h3;injection h3 with h3;exact h3.symm
   rw [<- hxy] at d2 hby';obtain⟨A,c,hxv,_,_⟩:=hby.form;obtain⟨A',c',hyv,_,_⟩:=hby'.form;rw [hxv] at d1 hby;rw [hyv] at d3 hby';have hl1:=World.block_lt_of_cell? wr _ d0;have hl2:=World.block_lt_of_cell? wr _ d2;dsimp only at hl1 hl2;have f2:Fr [] wr ((wr.alloc (bxp x.1.at_ (.slice A x.1.d.length c))).alloc (bxp x.1.at_ (.slice A' x.1.d.length c'))):=((Fr.refl _ _).alloc _).alloc _;have hcall:=qmc S _ x.1.at_ (.slice A x.1.d.length c) (.slice A' x.1.d.length c') x.1.d (hby.fr f2 zs) (hby'.fr f2 zs);have HC:=hI hcall;have F2:=hI f2;have Fk:=hI fk;clear hcall f2 fk hby hby' hx hy hxy hxv hyv;go_wp2_with fail
   refine HC.out.mono ?_;rintro e w1 ⟨rfl,f1⟩;go_wp2_with fail
   go_roundw;case rel=>exact⟨k+1,zw,by go_num,(Fk.out.trans F2.out zs).trans f1 zs⟩
   case measure=>simp [intOf];omega
  ·obtain rfl:L.length=k:=zw
   go_wp2_with fail
   go_ret;exact⟨rfl,fk⟩
set_option maxRecDepth 100000 in
theorem same_hp{S:Nat->Prop}{w:World}{g g':Nat}{kv kv':Value}{h:Hp}(m:HP S w g kv h)(m':HP S w g' kv' h)(hi:Inv h):Calls Tryz.prog 46 #[ptr g,ptr g'] w fun e w'=>e = .returned (.bool true)/\Fr [] w w':=by
 obtain⟨ev,L,m⟩:=m;obtain⟨ev',L',m'⟩:=m';obtain⟨c0,c1,c2,c3,c4⟩:=m.cells;obtain⟨d0,d1,d2,d3,d4⟩:=m'.cells;have hL:L.length<=64:=by have h1:=hi.len;have h2:=hi.m1;rw [m.len] at h1;omega
 have heq:∀ W,Fr [] w W->Calls Tryz.prog 89 #[kv,kv', .func (.func 88) #[] #[]] W fun e w'=>e = .returned (.bool true)/\Fr [] W w':=fun W f=>
  qmd S W kv kv' L L' (m.kp.fr f zs zs) (m'.kp.fr f zs zs) (by rw [<- m.kept,m'.kept]) hL
 have HEQ:=hI heq;have hfin:(ev = .pointer none/\ev' = .pointer none)\/∃ a b b',ev=ptr b/\ev'=ptr b'/\w.cell? ⟨b,0,none⟩=some (.int .i64 a)/\w.cell? ⟨b',0,none⟩=some (.int .i64 a):=by
  rcases m.fin with ⟨h1,h2⟩|⟨a,b,h1,h2,h3,h4⟩
  ·rcases m'.fin with ⟨h5,h6⟩|⟨a',b',h5,h6,h7,h8⟩
   ·exact .inl ⟨h2,h6⟩
   ·rw [h1] at h5;cases h5
  ·rcases m'.fin with ⟨h5,h6⟩|⟨a',b',h5,h6,h7,h8⟩
   ·rw [h1] at h5;cases h5
   ·rw [h1] at h5
    injection h5 with h5;subst h5;exact .inr ⟨a,b,b',h2,h6,h4,h8⟩
 clear m m' hi hL heq;go_enter Tryz.func46,Tryz.ntmps46;go_upto_region 3 with (first|(go_at_call 86;refine (jb ?_).mono ?_;(first|exact c4|exact d4);rintro e w' ⟨rfl,rfl⟩))
 go_cut [5] (fun s5 wx=>s5 = .bool true/\Fr [] w wx);case first=>
  have x0:=Grew.cell c3;have x1:=Grew.cell d3;rcases hfin with ⟨rfl,rfl⟩|⟨a,b,b',rfl,rfl,e1,e2⟩
  ·refine qg zk zk ?_
   repeat (go_big_quiet_step (fail))
   refine wpQuiet_nil ?_;intro W1 f1;go_wp2_with fail
   go_meet;exact⟨rfl,f1⟩
  ·have x2:=Grew.cell e1
   have x3:=Grew.cell e2;refine qg zk zk ?_;repeat (go_big_quiet_step (fail))
   refine wpQuiet_nil ?_;intro W1 f1;go_wp2_with fail
   go_meet;exact⟨rfl,f1⟩
 case rest=>
  obtain⟨rfl,f1⟩:=hcut;generalize wc=W1 at *
  have x0:=Grew.cell (ql f1 c0);have x1:=Grew.cell (ql f1 c1);have x2:=Grew.cell (ql f1 c2);have y0:=Grew.cell (ql f1 d0);have y1:=Grew.cell (ql f1 d1);have y2:=Grew.cell (ql f1 d2);have hq:∀ p:Grew W1,Calls Tryz.prog 89 #[kv,kv', .func (.func 88) #[] #[]] p.W fun e w''=>e = .returned (.bool true)/\∃ q:Grew W1,w''=q.W:=fun p=>qG (HEQ.out _ (f1.trans p.fr zs));have HQ:=hI hq;have F1:=hI f1;clear hq f1 c0 c1 c2 c3 c4 d0 d1 d2 d3 d4 hfin;go_wp2_with fail
  refine qg zk zk ?_;repeat (go_big_quiet_step ((go_at_call 89;exact HQ.out _)))
  refine wpQuiet_nil ?_;intro W2 f2;go_wp2_with fail
  go_ret;exact⟨rfl,F1.out.trans f2 zs⟩
theorem held_hp{S:Nat->Prop}{g:Nat}{kv:Value}{h:Hp}{w:World}(m:HP S w g kv h)(hi:Inv h):Calls Tryz.prog 97 #[ptr g] w fun e w'=>e = .returned (.int .i64 (zU h.kept))/\Fr [] w w':=by
 obtain⟨ev,L,m⟩:=m;obtain⟨c0,c1,c2,c3,c4⟩:=m.cells;have hL:L.length<=64:=by have h1:=hi.len;have h2:=hi.m1;rw [m.len] at h1;omega
 have hb:∀ k,0<=zU ((L.map (·.1)).take k)/\zU ((L.map (·.1)).take k)<=4096:=fun k=>by
  have h1:=qem ((L.map (·.1)).take k) (fun p hp=>(hi.pc p (by rw [m.kept];exact List.mem_of_mem_take hp)).2.2.2);have h2:((L.map (·.1)).take k).length<=64:=zv;omega
 have hpc:∀ x∈L,x.1.d.length<=64:=fun x hx=>(hi.pc x.1 (by rw [m.kept];exact List.mem_map.2 ⟨x,hx,rfl⟩)).2.2.2;have K:=hI m.kp;have HB:=hI hb;have HPC:=hI hpc;rw [m.kept];obtain⟨KA,KC,rfl,hKn,hKc⟩:=m.kp.form;clear hb m hpc hi;go_enter Tryz.func97,Tryz.ntmps97;go_wp2_with (go_at_call 86;refine (jb c4).mono ?_;rintro e w' ⟨rfl,rfl⟩)
 go_loopw [3,13] (fun s3 s13 wr=>∃ k:Nat,k<=L.length/\s13 = .int .i64 k/\s3 = .int .i64 (zU ((L.map (·.1)).take k))/\Fr [] w wr) (fun _ s13 _=>L.length - (intOf s13).toNat);case atStart=>exact⟨0,zw,rfl,rfl,Fr.refl _ _⟩
 case round=>
  obtain⟨k,hk,rfl,rfl,fk⟩:=hrel;obtain⟨hb0,hb1⟩:=HB.out k;by_cases hlt:k<L.length
  ·obtain⟨b,_,x,hv,hx,d0,d1,hby⟩:=(K.out.fr fk zs zs).at_ hlt
   injection hv with hv _ _;subst hv;obtain⟨A,c,hxv,_,_⟩:=hby.form;rw [hxv] at d1;have hlb:=World.block_lt_of_cell? wr _ d0;dsimp only at hlb;have hx64:=HPC.out x (List.mem_of_getElem? hx);have hs:zU ((L.map (·.1)).take (k+1))=zU ((L.map (·.1)).take k)+x.1.d.length:=by
    rw [List.take_add_one];have:(L.map (·.1))[k]?=some x.1:=(by simp [hx]);rw [this];exact qby _ _
   have HS:=hI hs;clear hs hx hxv hby;generalize zU ((L.map (·.1)).take k)=sm at *
   go_wp2
   go_roundw;case rel=>exact⟨k+1,zw,by go_num,by rw [HS.out],fk.alloc _⟩
   case measure=>simp [intOf];omega
  ·obtain rfl:L.length=k:=zw
   go_wp2
   go_ret;exact⟨qbq (by rw [List.take_of_length_le zs]),fk⟩
structure Hd where
 g:Nat
 gw:Nat
 gc:Nat
 gh:Nat
 bv:Value
 uv:Value
 kv:Value
abbrev arS(x:St)(H:Hd):Array Value:=#[.int .i64 x.at_, .bool x.broken, .int .u32 x.peer, .int .i64 0, .int .i64 0, .int .i64 0, .int .i64 0, .int .i64 x.all.length, .int .i64 0, .int .i64 0, .int .i64 0, .bool x.closing, .bool x.ended,
 .int .u32 x.isn,H.bv,H.uv,ptr H.gw,ptr H.gc,ptr H.gh, .bool x.fin, .bool x.qp, .int .i64 x.now, .int .i64 x.timed, .int .i64 x.since, .int .i64 x.shown]
def kw(x:St):List Int:=x.all.drop x.win.a.toNat
structure SI(S:Nat->Prop)(w:World)(H:Hd)(x:St):Prop where
 blk:Blk w H.g 74 (arS x H)
 win:Win.Win w H.gw x.win true
 clk:Rto.Clk w H.gc x.clk
 hp:HP S w H.gh H.kv x.heap
 buf:w.ownsRow 0 5 1 H.bv (kw x).length (kE (kw x))
 unr:w.ownsRow 0 5 1 H.uv x.unread.length (kE x.unread)
 nS:∀ y,(y=H.g\/y=H.gw\/y=H.gc\/y∈ob H.bv\/y∈ob H.uv)->¬ S y
 bu:∀ y∈ob H.bv,y∉ob H.uv
def Hd.own(H:Hd):List Nat:=H.g::H.gw::H.gc::H.gh::(ob H.kv++(ob H.bv++ob H.uv))
theorem zh{P:Prop}(h:P:=by simp [Hd.own]):P:=h
theorem kM{w w':World}{S S':Nat->Prop}(h:Ext w' S S')(hz:w.heap.size<=w'.heap.size):Ext w S S':=⟨h.1,fun b hb=>(h.2 b hb).imp id (fun h=>by omega)⟩
section
variable {S S':Nat->Prop} {w w':World} {H:Hd} {x x':St}
theorem SI.lt(m:SI S w H x):∀ y∈H.own,y<w.heap.size:=by
 intro y hy;have hk:∀ y∈ob H.kv,y<w.heap.size:=fun y hy=>by
  obtain⟨ev,L,m⟩:=m.hp;exact kG m.kp.own (qo.1 hy)
 have hg:H.gh<w.heap.size:=by
  obtain⟨ev,L,m⟩:=m.hp;exact m.blk.lt
 simp only [Hd.own,List.mem_cons,List.mem_append] at hy;rcases hy with rfl|rfl|rfl|rfl|hy|hy|hy
 ·exact m.blk.lt
 ·exact Blk.lt m.win
 ·exact Blk.lt m.clk
 ·exact hg
 ·exact hk y hy
 ·exact kG m.buf (qo.1 hy)
 ·exact kG m.unr (qo.1 hy)
theorem HP.off'{g:Nat}{kv:Value}{h:Hp}(m:HP S w g kv h):∀ y∈g::ob kv,¬ S y:=fun y hy=>by
 obtain⟨ev,L,m⟩:=m;rcases List.mem_cons.1 hy with rfl|hy
 ·exact m.offg
 ·exact m.offk y (qo.1 hy)
theorem SI.off(m:SI S w H x):∀ y∈H.own,¬ S y:=by
 intro y hy;have hk:=HP.off' m.hp;simp only [Hd.own,List.mem_cons,List.mem_append] at hy;rcases hy with h|h|h|h|h|h|h
 ·exact m.nS y (.inl h)
 ·exact m.nS y (.inr (.inl h))
 ·exact m.nS y (.inr (.inr (.inl h)))
 ·exact hk y (by simp [h])
 ·exact hk y (List.mem_cons_of_mem _ h)
 ·exact m.nS y (.inr (.inr (.inr (.inl h))))
 ·exact m.nS y (.inr (.inr (.inr (.inr h))))
theorem HP.zA{g:Nat}{kv:Value}{h:Hp}(m:HP S w g kv h):∀ b,S b->b<w.heap.size:=by
 obtain⟨ev,L,m⟩:=m;exact m.pub
theorem HP.ext'{g:Nat}{kv:Value}{h:Hp}{O:List Nat}(m:HP S w g kv h)(f:Fr O w w')(x:Ext w S S')(hO:∀ y∈O,¬ S y)(hg:∀ y∈g::ob kv,y∉O)(hp:∀ b,S' b->b<w'.heap.size):HP S' w' g kv h:=by
 obtain⟨ev,L,m⟩:=m;exact⟨ev,L,m.ext f x hO (hg g zs) (fun b hb=>hg b (List.mem_cons_of_mem _ (qo.2 hb))) hp⟩
theorem SI.ext(m:SI S w H x)(f:Fr [] w w')(e:Ext w S S')(hp:∀ b,S' b->b<w'.heap.size):SI S' w' H x:=
 ⟨m.blk.fr f zs,Blk.fr m.win f zs,Blk.fr m.clk f zs,m.hp.ext' f e zs zs hp,qA m.buf f zs,qA m.unr f zs,
  fun y hy hs=>by
   rcases e.2 y hs with h|h
   ·exact m.nS y hy h
   ·have:y<w.heap.size:=m.lt y (by
     simp only [Hd.own,List.mem_cons,List.mem_append];rcases hy with h|h|h|h|h <;> simp [h])
    omega,m.bu⟩
theorem SI.fr(m:SI S w H x)(f:Fr [] w w'):SI S w' H x:=m.ext f (Ext.refl w S) (fun b hb=>Nat.lt_of_lt_of_le (HP.zA m.hp b hb) f.size)
theorem SI.qeq(m:SI S w H x):H.gw≠H.g:=kP m.win m.blk zd
theorem SI.xR(m:SI S w H x):H.gc≠H.g:=kP m.clk m.blk zd
theorem SI.ne_h(m:SI S w H x):∀ y∈H.gh::ob H.kv,y≠H.g:=by
 obtain⟨ev,L,n⟩:=m.hp;intro y hy;rcases List.mem_cons.1 hy with rfl|hy
 ·exact kP n.blk m.blk zd
 ·rintro rfl;exact own_ne n.kp.own m.blk zd (qo.1 hy)
theorem SI.qfx(m:SI S w H x):∀ y∈ob H.bv,y≠H.g:=fun y hy=>by rintro rfl;exact own_ne m.buf m.blk zd (qo.1 hy)
theorem SI.qer(m:SI S w H x):∀ y∈ob H.uv,y≠H.g:=fun y hy=>by rintro rfl;exact own_ne m.unr m.blk zd (qo.1 hy)
theorem SI.set(m:SI S w H x)(f:Fr [H.g] w w')(B:Blk w' H.g 74 (arS x' H))(e1:x'.win=x.win)(e2:x'.clk=x.clk)(e3:x'.heap=x.heap)(e4:x'.all=x.all)(e5:x'.unread=x.unread):SI S w' H x':=by
 have hO:∀ y∈[H.g],¬ S y:=fun y hy=>by simp at hy;subst hy;exact m.nS _ (.inl rfl)
 have hb:kw x'=kw x:=by unfold kw;rw [e1,e4]
 refine⟨B,by rw [e1];exact Blk.fr m.win f (by simpa using m.qeq),by rw [e2];exact Blk.fr m.clk f (by simpa using m.xR),?_,?_,?_,m.nS,m.bu⟩
 ·rw [e3]
  exact m.hp.ext' f (Ext.refl w S) hO (fun y hy=>by simpa using m.ne_h y hy) (fun b hb=>Nat.lt_of_lt_of_le (HP.zA m.hp b hb) f.size)
 ·rw [hb]
  exact qA m.buf f (fun b hb=>by simpa using m.qfx b (qo.2 hb))
 ·rw [e5]
  exact qA m.unr f (fun b hb=>by simpa using m.qer b (qo.2 hb))
end
structure SCells(w:World)(H:Hd)(x:St):Prop where
 c0:w.cell? ⟨H.g,0,none⟩=some (.int .i64 x.at_)
 c1:w.cell? ⟨H.g,1,none⟩=some (.bool x.broken)
 c2:w.cell? ⟨H.g,2,none⟩=some (.int .u32 x.peer)
 c7:w.cell? ⟨H.g,7,none⟩=some (.int .i64 x.all.length)
 c11:w.cell? ⟨H.g,11,none⟩=some (.bool x.closing)
 c12:w.cell? ⟨H.g,12,none⟩=some (.bool x.ended)
 c13:w.cell? ⟨H.g,13,none⟩=some (.int .u32 x.isn)
 c14:w.cell? ⟨H.g,14,none⟩=some H.bv
 c15:w.cell? ⟨H.g,15,none⟩=some H.uv
 c16:w.cell? ⟨H.g,16,none⟩=some (ptr H.gw)
 c17:w.cell? ⟨H.g,17,none⟩=some (ptr H.gc)
 c18:w.cell? ⟨H.g,18,none⟩=some (ptr H.gh)
 c19:w.cell? ⟨H.g,19,none⟩=some (.bool x.fin)
 c20:w.cell? ⟨H.g,20,none⟩=some (.bool x.qp)
 c21:w.cell? ⟨H.g,21,none⟩=some (.int .i64 x.now)
 c22:w.cell? ⟨H.g,22,none⟩=some (.int .i64 x.timed)
 c23:w.cell? ⟨H.g,23,none⟩=some (.int .i64 x.since)
 c24:w.cell? ⟨H.g,24,none⟩=some (.int .i64 x.shown)
theorem qm{w:World}{H:Hd}{x:St}(B:Blk w H.g 74 (arS x H)):SCells w H x:=
 ⟨B.cell 0,B.cell 1,B.cell 2,B.cell 7,B.cell 11,B.cell 12,B.cell 13,B.cell 14,B.cell 15,B.cell 16,B.cell 17,B.cell 18,B.cell 19,B.cell 20,B.cell 21,B.cell 22,B.cell 23,B.cell 24⟩
theorem jY(g gw:Nat)(w:World)(c:w.cell? ⟨g,16,none⟩=some (ptr gw)):Calls Tryz.prog 39 #[ptr g] w fun e w'=>e = .returned (.bool false)/\w=w':=by
 go_enter Tryz.func39,Tryz.ntmps39;go_wp2
 go_ret;exact⟨rfl,rfl⟩
theorem qak(b:Bool)(w:World):Calls Tryz.prog 80 #[.bool b] w fun e w'=>e = .returned (.int .i64 (one b))/\w=w':=by
 cases b;all_goals
  go_enter Tryz.func80,Tryz.ntmps80;go_wp2
  go_ret;exact⟨rfl,rfl⟩
theorem wrap32(a:Int):IntKind.u32.wrap a=a % 4294967296:=by simp [IntKind.wrap,IntKind.signed,IntKind.bits]
theorem qcc(a:Int):IntKind.u16.wrap a=a % 65536:=by simp [IntKind.wrap,IntKind.signed,IntKind.bits]
theorem qcd(n m:Int):IntKind.u32.wrap (n+IntKind.u32.wrap m)=add32 n m:=by rw [wrap32,wrap32];unfold add32;omega
theorem qav(b:Bool):0<=one b/\one b<=1:=by cases b <;> simp [one]
theorem y9{S:Nat->Prop}{w:World}{H:Hd}{x:St}(m:SI S w H x)(hi:Inv x.heap):Calls Tryz.prog 64 #[ptr H.g] w fun e w'=>e = .returned (.int .u32 (ku x))/\Fr [] w w':=by
 have c:=qm m.blk;have hn0:=hi.n0;have hn1:=hi.n1;have ho:=qav x.ended;have h1:IntKind.i64.wrap (1+x.heap.next)=1+x.heap.next:=IntWalk.i64_in _ zw;have h2:IntKind.i64.wrap (1+x.heap.next+one x.ended)=1+x.heap.next+one x.ended:=IntWalk.i64_in _ zw;have h3:=qcd x.peer (1+x.heap.next+one x.ended);have y0:=Grew.cell c.c2;have y1:=Grew.cell c.c18;have y2:=Grew.cell c.c12;have hN:∀ p:Grew w,Calls Tryz.prog 49 #[ptr H.gh] p.W fun e w'=>e = .returned (.int .i64 x.heap.next)/\∃ q:Grew w,w'=q.W:=fun p=>kN (qai (m.hp.ext' p.fr (Ext.refl w S) zs zs (fun b hb=>Nat.lt_of_lt_of_le (HP.zA m.hp b hb) p.fr.size)));have hF:∀ p:Grew w,Calls Tryz.prog 80 #[.bool x.ended] p.W fun e w'=>e = .returned (.int .i64 (one x.ended))/\∃ q:Grew w,w'=q.W:=fun p=>kN (qak _ _);have HN:=hI hN;have HF:=hI hF;clear hN hF c m hn0 hn1 ho hi;go_enter Tryz.func64,Tryz.ntmps64;go_wp2_with fail
 refine qg zk zk ?_;repeat (go_big_quiet_step (first|(go_at_call 49;exact HN.out _)|(go_at_call 80;exact HF.out _)))
 refine wpQuiet_nil ?_;intro W1 f1;go_wp2_with fail
 go_ret;exact⟨qbq (by unfold ku add32;omega),f1⟩
theorem qaw(h:Hp)(hi:Inv h):0<=zU h.kept/\zU h.kept<=4096:=by
 have h1:=qem h.kept (fun p hp=>(hi.pc p hp).2.2.2);have h2:=hi.len;have h3:=hi.m1;omega
theorem qes{S:Nat->Prop}{w:World}{H:Hd}{x:St}(m:SI S w H x)(hi:Inv x.heap)(hu:x.unread.length<=100000):Calls Tryz.prog 58 #[ptr H.g] w fun e w'=>e = .returned (.int .i64 (qK x))/\Fr [] w w':=by
 have c:=qm m.blk;have hs:=qaw x.heap hi;obtain⟨uA,uc,hu1,_,_⟩:=qY m.unr;have h1:IntKind.i64.wrap ((x.unread.length:Int)+zU x.heap.kept)=(x.unread.length:Int)+zU x.heap.kept:=IntWalk.i64_in _ zw;have c15:=c.c15;rw [hu1] at c15;have hH:∀ W,Fr [] w W->Calls Tryz.prog 97 #[ptr H.gh] W _:=fun W f=>held_hp (m.hp.ext' f (Ext.refl w S) zs zs (fun b hb=>Nat.lt_of_lt_of_le (HP.zA m.hp b hb) f.size)) hi;have hO:∀ W,Calls Tryz.prog 96 #[.int .i64 1024, .int .i64 (min 1024 ((x.unread.length:Int)+zU x.heap.kept))] W _:=fun W=>Win.qjw _ _ W;have hR:(Win.xg 1024 (min 1024 ((x.unread.length:Int)+zU x.heap.kept))).1=qK x:=rfl;generalize (Win.xg 1024 (min 1024 ((x.unread.length:Int)+zU x.heap.kept))).2=o2 at *
 rw [hR] at hO;generalize qK x=rv at *
 have HH:=hI hH;have HO:=hI hO;have c18:=c.c18;have y0:=Grew.cell c15;have y1:=Grew.cell c18;have hH':∀ p:Grew w,Calls Tryz.prog 97 #[ptr H.gh] p.W fun e w'=>e = .returned (.int .i64 (zU x.heap.kept))/\∃ q:Grew w,w'=q.W:=fun p=>qG (hH p.W p.fr);have hO':∀ p:Grew w,Calls Tryz.prog 96 #[.int .i64 1024, .int .i64 (min 1024 ((x.unread.length:Int)+zU x.heap.kept))] p.W fun e w'=>e = .returned (.tuple #[.int .i64 rv, .int .i64 o2])/\∃ q:Grew w,w'=q.W:=fun p=>kN (hO p.W);have HH':=hI hH';have HO':=hI hO';clear hH hO hH' hO' hR c m hi hs hu1 c15 c18;go_enter Tryz.func58,Tryz.ntmps58;go_wp2_with fail
 refine qg zk zk ?_;repeat (go_big_quiet_step (first|(go_at_call 97;exact HH'.out _)|(go_at_call 96;exact HO'.out _)))
 refine wpQuiet_nil ?_;intro W1 f1;go_wp2_with fail
 go_ret;exact⟨rfl,f1⟩
def qM(o:Option Int):Int:=match o with|none=>-1|some a=>a
abbrev agR(m n:Int)(kv:Value)(f:Int):Value := .agg #[.int .i64 m, .int .i64 n,kv, .int .i64 f]
abbrev arR(m n:Int)(kv:Value)(f:Int):Array Value:=#[.int .i64 m, .int .i64 n,kv, .int .i64 f]
theorem rnew(m:Int)(w:World):Calls Tryz.prog 25 #[.int .i64 m] w fun e w'=>e = .returned (agR m 0 (.slice none 0 0) (-1))/\Fr [] w w':=by
 go_enter Tryz.func25,Tryz.ntmps25;go_wp2
 refine bodyPost_ret (v:=agR m 0 (.slice none 0 0) (-1)) (by simp [results,Tryz.results25,go_sem]) rfl ?_;exact⟨rfl,(Fr.refl _ _).alloc _⟩
theorem cells4{w:World}{b:Nat}{t:TypeId}{v0 v1 v2 v3:Value}(h:Blk w b t #[v0,v1,v2,v3]):w.cell? ⟨b,0,none⟩=some v0/\w.cell? ⟨b,1,none⟩=some v1/\w.cell? ⟨b,2,none⟩=some v2/\w.cell? ⟨b,3,none⟩=some v3:=
 ⟨by simpa using h.cell 0,by simpa using h.cell 1,by simpa using h.cell 2,by simpa using h.cell 3⟩
def tnx(next:Int)(at_:Int)(k:Nat):Int:=if (k:Int)<=next - at_ then next else at_+k
def ToldRel(w:World)(m n f:Int)(kv:Value)(p:Pc)(dv:Value)(s6 s7:Value)(wr:World):Prop:=
 ∃(k:Nat) (A:Option Addr) (c:Nat),k<=p.d.length/\s7 = .int .i64 k/\s6 = .slice A ((p.d.take k).drop (n - p.at_).toNat).length c /\
  wr.ownsRow 0 5 1 (.slice A ((p.d.take k).drop (n - p.at_).toNat).length c) ((p.d.take k).drop (n - p.at_).toNat).length (kE ((p.d.take k).drop (n - p.at_).toNat)) /\
  (∀ b,(Value.slice A ((p.d.take k).drop (n - p.at_).toNat).length c).ownBlock=some b->w.heap.size<=b)/\Fr [] w wr /\
  Blk wr w.heap.size 39 (arR m (tnx n p.at_ k) kv f)/\Blk wr (w.heap.size+1) 162 #[.int .i64 p.at_,dv]/\Blk wr (w.heap.size+2) 39 (arR 0 0 (.slice none 0 0) 0)
def qfy(w:World)(m n f:Int)(kv:Value)(p:Pc)(e:Ending)(w':World):Prop:=
 ∃ A c,e = .returned (.tuple #[agR m (qQ n p).2 kv f, .slice A (qQ n p).1.length c])/\w'.ownsRow 0 5 1 (.slice A (qQ n p).1.length c) (qQ n p).1.length (kE (qQ n p).1) /\
  (∀ b,(Value.slice A (qQ n p).1.length c).ownBlock=some b->w.heap.size<=b)/\Fr [] w w'
theorem qme(n:Int)(p:Pc)(h1:p.at_<=n):qQ n p=((p.d.take p.d.length).drop (n - p.at_).toNat,tnx n p.at_ p.d.length):=by
 unfold qQ tnx Pc.beh;rw [List.take_length];by_cases h:p.at_+(p.d.length:Int)<=n
 ·rw [if_pos h,if_pos zw,List.drop_of_length_le zw]
 ·rw [if_neg h,if_neg zw]
theorem qkg(n:Int)(p:Pc)(k:Nat)(h1:(k:Int)<n - p.at_):(p.d.take (k+1)).drop (n - p.at_).toNat=(p.d.take k).drop (n - p.at_).toNat/\tnx n p.at_ (k+1)=tnx n p.at_ k:=by
 constructor
 ·rw [List.drop_of_length_le (by rw [List.length_take];omega),List.drop_of_length_le (by rw [List.length_take];omega)]
 ·unfold tnx
  rw [if_pos zw,if_pos zw]
theorem qkh(n:Int)(p:Pc)(k:Nat)(h0:p.at_<=n)(h1:n - p.at_<=(k:Int))(hk:k<p.d.length):(p.d.take (k+1)).drop (n - p.at_).toNat=(p.d.take k).drop (n - p.at_).toNat++[p.d.getD k 0]/\tnx n p.at_ (k+1)=p.at_+k+1/\tnx n p.at_ k=p.at_+k:=by
 refine⟨?_,?_,?_⟩
 ·rw [List.take_add_one,List.getElem?_eq_getElem hk,List.drop_append_of_le_length (by rw [List.length_take];omega)]
  simp [List.getD,List.getElem?_eq_getElem hk]
 ·unfold tnx
  rw [if_neg zw];omega
 ·unfold tnx
  split <;> omega
theorem rtold(S:Nat->Prop)(w:World)(m n f:Int)(kv:Value)(p:Pc)(dv:Value)(hd:Byt S w dv p.d)(KA:Option Addr)(KL KC:Nat)(hkv:kv = .slice KA KL KC)(h0:0<=p.at_)(h1:p.at_<=n)(h2:n<=4611686018427387968)(h3:p.d.length<=64) :
  Calls Tryz.prog 144 #[agR m n kv f,agp p.at_ dv] w (qfy w m n f kv p):=by
 obtain⟨DA,DC,rfl,hdn,hdc⟩:=hd.form;subst hkv;have HD:=hI hd;obtain⟨i0,hi0,hz0,hz1,hz2⟩:=info_parts vM;have b0:=((Blk.new w 39 (arR m n (.slice KA KL KC) f)).alloc (.cells #[.int .i64 p.at_, .slice DA p.d.length DC] 162)).alloc (.cells (arR 0 0 (.slice none 0 0) 0) 39);have b1:=(Blk.new (w.alloc (.cells (arR m n (.slice KA KL KC) f) 39)) 162 #[.int .i64 p.at_, .slice DA p.d.length DC]).alloc (.cells (arR 0 0 (.slice none 0 0) 0) 39);have b2:=Blk.new ((w.alloc (.cells (arR m n (.slice KA KL KC) f) 39)).alloc (.cells #[.int .i64 p.at_, .slice DA p.d.length DC] 162)) 39 (arR 0 0 (.slice none 0 0) 0);have B0:=hI b0;have B1:=hI b1;have B2:=hI b2;clear hd b0 b1 b2;go_enter Tryz.func144,Tryz.ntmps144;go_wp2
 go_loopw [6,7] (fun s6 s7 wr=>ToldRel w m n f (.slice KA KL KC) p (.slice DA p.d.length DC) s6 s7 wr) (fun _ s7 _=>p.d.length - (intOf s7).toNat);case atStart=>
  refine⟨0,none,0,zw,rfl,zs,by simpa [kE] using World.ownsRow_nil _ 0 5 1,by simp [Value.ownBlock],(((Fr.refl _ _).alloc _).alloc _).alloc _,?_,by simpa using B1.out,by simpa using B2.out⟩;have:tnx n p.at_ 0=n:=by unfold tnx;rw [if_pos zw]
  rw [this];exact B0.out
 case round=>
  obtain⟨k,A,c,hk,rfl,rfl,own,hown,fk,b0,b1,b2⟩:=hrel;have hol:((p.d.take k).drop (n - p.at_).toNat).length<=64:=zv;by_cases hlt:k<p.d.length
  ·have Hown:=hI hown
   have Fk:=hI fk;have B1':=hI b1;have B2':=hI b2;by_cases hz:(k:Int)<n - p.at_
   ·obtain⟨e1,e2⟩:=qkg n p k hz
    have hnx:tnx n p.at_ k=n:=(by unfold tnx;rw [if_pos zw]);have E1:=hI e1;have E2:=hI e2;rw [hnx] at b0;have B0':=hI b0;have Own:=hI own;have Hnx:=hI hnx;obtain⟨c0,c1,c2,c3⟩:=cells4 b0;have d0:wr.cell? ⟨w.heap.size+1,0,none⟩=some (.int .i64 p.at_):=b1.cell 0;have d1:wr.cell? ⟨w.heap.size+1,1,none⟩=some (.slice DA p.d.length DC):=b1.cell 1;have hne:(p.at_+(k:Int) == n)=false:=zv;clear e1 e2 hnx own hown fk b0 b1 b2;generalize hq:(p.d.take k).drop (n - p.at_).toNat=o at *
    have HQ:=hI hq;clear hq;go_wp2
    go_roundw;case rel=>
     refine⟨k+1,A,c,zw,by go_num,?_⟩;rw [E1.out,E2.out,Hnx.out];exact⟨rfl,Own.out,Hown.out,Fk.out,B0'.out,B1'.out,B2'.out⟩
    case measure=>simp [intOf];omega
   ·obtain⟨e1,e2,e3⟩:=qkh n p k h1 zw hlt
    have E1:=hI e1;have E2:=hI e2;rw [e3] at b0;have B0':=hI b0;have Own:=hI own;obtain⟨c0,c1,c2,c3⟩:=cells4 b0;have d0:wr.cell? ⟨w.heap.size+1,0,none⟩=some (.int .i64 p.at_):=b1.cell 0;have d1:wr.cell? ⟨w.heap.size+1,1,none⟩=some (.slice DA p.d.length DC):=b1.cell 1;obtain⟨db,dof,rfl,_,d2⟩:=(HD.out.fr fk zs).at_ hlt;have hl1:=b0.lt;have hl2:=b1.lt;have hl3:=World.block_lt_of_cell? wr _ d2;dsimp only at hl3;have f1:Fr [] wr (wr.alloc (.cells #[.int .u8 (p.d.getD k 0)] 5)):=(Fr.refl _ _).alloc _;have hsrc:Sl (fun _=>True) (wr.alloc (.cells #[.int .u8 (p.d.getD k 0)] 5)) 1 (.slice (some ⟨wr.heap.size,0,none⟩) 1 1) 1 [.int .u8 (p.d.getD k 0)]:=Sl.kW (World.ownsRow_lit (base:=0) (e:=5) (size:=1) wr #[.int .u8 (p.d.getD k 0)] 1 (Nat.zero_le _) (by unfold maxLen;omega) rfl) (fun _ _=>trivial);clear e1 e2 e3 own hown b0 b1 b2;generalize hq:(p.d.take k).drop (n - p.at_).toNat=o at *
    have HQ:=hI hq;obtain⟨N,hN⟩:∃ N,o.length+1=N:=⟨_,rfl⟩;have hlm:o.length+1<=maxLen:=(by unfold maxLen;omega);have hlb:(o.length+1) * 1<=140737488355328:=zw;have HN:=hI hN;have HLM:=hI hlm;have HLB:=hI hlb;have HS:=hI hsrc;have F1:=hI f1;clear hq hN hlm hlb hsrc f1 fk hz;have hwk:IntKind.i64.wrap (p.at_+(k:Int))=p.at_+k:=IntWalk.i64_in _ zw;generalize p.d.getD k 0=by_ at *
    have afr:∀ w',Fr (ob (.slice A o.length c)) (wr.alloc (.cells #[.int .u8 by_] 5)) w'->Fr [] w w':=fun w' f=>(Fk.out.trans F1.out zs).trans f (fun x hx => .inr (Hown.out x (qo.1 hx)));have anob:∀ {t:TypeId} {cs:Array Value} {b:Nat},Blk wr b t cs->t≠5->b∉ob (.slice A o.length c):=fun hb hne hm=>own_ne Own.out hb (Ne.symm hne) (qo.1 hm);have abx:∀ w',Fr (ob (.slice A o.length c)) (wr.alloc (.cells #[.int .u8 by_] 5)) w'->Blk w' w.heap.size 39 (arR m (p.at_+k) (.slice KA KL KC) f)/\Blk w' (w.heap.size+1) 162 #[.int .i64 p.at_, .slice (some ⟨db,dof,none⟩) p.d.length DC]/\Blk w' (w.heap.size+2) 39 (arR 0 0 (.slice none 0 0) 0):=fun w' fw=>
     ⟨(B0'.out.fr F1.out zs).fr fw (anob B0'.out zd),(B1'.out.fr F1.out zs).fr fw (anob B1'.out zd),(B2'.out.fr F1.out zs).fr fw (anob B2'.out zd)⟩
    have AFR:=hI afr;have ABX:=hI abx;clear afr anob abx;go_wp2_with (at_builtin;refine qE _ rfl (.tmp 22) (.tmp 28) 30 rfl 5 i0 (.int .u8 0) 1 1 Tryz.underlying30 hi0 hz0 hz1 hz2 rfl zd (.slice A o.length c) o.length (kE o) zr (qA Own.out F1.out zs) (fun _=>True) (.slice (some ⟨wr.heap.size,0,none⟩) 1 1) 1 [.int .u8 by_] zr HS.out zo HLM.out HLB.out N HN.out ?_;intro A' c' w' h4 h5 h6;obtain⟨x0,x1,x2⟩:=ABX.out w' h5;obtain⟨g0,g1,g2,g3⟩:=cells4 x0;have g4:=x0.frozen 1;have g5:=x0.lt;have H4:=hI h4;have H5:=hI h5;have H6:=hI h6;have X0:=hI x0;have X1:=hI x1;have X2:=hI x2;clear h4 h5 h6 x0 x1 x2)
    go_roundw;case rel=>
     refine⟨k+1,A',c',zw,by go_num,?_⟩;have hN2:(o++[by_]).length=N:=(by rw [List.length_append];exact HN.out);have fs:=(Fr.refl [w.heap.size] w').setCell (p:=⟨w.heap.size,1,none⟩) (.inl zs) (.int .i64 (p.at_+k+1));rw [E1.out,E2.out,hN2];refine⟨rfl,?_,fun b hb=>?_,(AFR.out w' H5.out).trans fs zs,?_,X1.out.fr fs zs,X2.out.fr fs zs⟩
     ·rw [<- vJ]
      exact qA H4.out fs (fun b hb=>by simp;rintro rfl;exact own_ne H4.out X0.out zd hb)
     ·have h8:=Fk.out.size
      rcases H6.out b hb with h7|h7
      ·exact Hown.out b h7
      ·have:=h7.1
       simp at this;omega
     ·simpa using X0.out.qO 1 (.int .i64 (p.at_+k+1))
    case measure=>simp [intOf];omega
  ·obtain rfl:p.d.length=k:=zw
   have e1:=qme n p h1;have E1:=hI e1;have Own:=hI own;have Hown:=hI hown;have Fk:=hI fk;have hl1:=b0.lt;have hl2:=b1.lt;obtain⟨c0,c1,c2,c3⟩:=cells4 b0;have d0:wr.cell? ⟨w.heap.size+1,0,none⟩=some (.int .i64 p.at_):=b1.cell 0;have d1:wr.cell? ⟨w.heap.size+1,1,none⟩=some (.slice DA p.d.length DC):=b1.cell 1;have B2':=hI b2;clear e1 own hown fk b0 b1 b2;generalize (p.d.take p.d.length).drop (n - p.at_).toNat=o at *
   generalize tnx n p.at_ p.d.length=nx at *
   go_wp2_with ((with_reducible refine qi 39 (.tmp 4) ?_);refine qc rfl 39 (.tmp 4) (.tmp 34) rfl (w.heap.size+2) 39 (arR 0 0 (.slice none 0 0) 0) (arR m nx (.slice KA KL KC) f) rfl rfl B2'.out rfl zk zo ?_;intro w2 B3 F3)
   obtain⟨g0,g1,g2,g3⟩:=cells4 B3;refine bodyPost_ret (v := .tuple #[agR m nx (.slice KA KL KC) f, .slice A o.length c]) (by simp [results,Tryz.results144,go_sem,g0,g1,g2,g3]) rfl ?_;refine⟨A,c,?_,?_,?_,Fk.out.trans F3 zs⟩
   ·rw [E1.out]
   ·rw [E1.out]
    exact qA Own.out F3 (fun b hb=>by simp;rintro rfl;exact own_ne Own.out B2'.out zd hb)
   ·rw [E1.out]
    exact Hown.out
structure RPx(S:Nat->Prop)(w:World)(kv:Value)(h:Hp)(L:List (Pc × Value)):Prop where
 kp:Kp 162 S w kv L
 kept:h.kept=L.map (·.1)
 offk:∀ b,kv.ownBlock=some b->S b
 pub:∀ b,S b->b<w.heap.size
abbrev agH(h:Hp)(kv:Value):Value:=agR h.most h.next kv (qM h.fin)
abbrev arH(h:Hp)(kv:Value):Array Value:=arR h.most h.next kv (qM h.fin)
theorem RPx.ext{S S':Nat->Prop}{w w':World}{kv:Value}{h:Hp}{L:List (Pc × Value)}{O:List Nat}(m:RPx S w kv h L)(f:Fr O w w')(hO:∀ x∈O,¬ S x)(hS:∀ b,S b->S' b)(hp:∀ b,S' b->b<w'.heap.size):RPx S' w' kv h L:=
 ⟨(m.kp.fr f hO (fun b hb hm=>hO b hm (m.offk b hb))).mono hS,m.kept,fun b hb=>hS b (m.offk b hb),hp⟩
def qki(w:World)(m n f:Int)(kv:Value)(l:List Pc)(s3 s4:Value)(wr:World):Prop:=
 ∃ k:Nat,k<=l.length/\s4 = .int .i64 k/\s3 = .int .i64 (zK (early n) ahead l k)/\Fr [] w wr/\Blk wr w.heap.size 39 (arR m n kv f)
theorem qmf(S:Nat->Prop)(w:World)(m n f:Int)(kv:Value)(L:List (Pc × Value))(h:Kp 162 S w kv L)(hl:L.length<=64) :
  Calls Tryz.prog 145 #[agR m n kv f] w fun e w'=>e = .returned (.int .i64 (kQ n (L.map (·.1))))/\Fr [] w w':=by
 obtain⟨KA,KC,rfl,hKn,hKc⟩:=h.form;have K:=hI h;have hrd:kQ n (L.map (·.1))=zK (early n) ahead (L.map (·.1)) L.length:=by unfold kQ;rw [List.length_map]
 rw [hrd];clear h hrd;go_enter Tryz.func145,Tryz.ntmps145;go_wp2
 go_loopw [3,4] (fun s3 s4 wr=>qki w m n f (.slice KA L.length KC) (L.map (·.1)) s3 s4 wr) (fun _ s4 _=>L.length - (intOf s4).toNat);case atStart=>exact⟨0,zw,rfl,rfl,(Fr.refl _ _).alloc _,Blk.new _ _ _⟩
 case round=>
  obtain⟨k,hk,rfl,rfl,fk,bx⟩:=hrel;rw [List.length_map] at hk;have hbd:=yP (early n) ahead (L.map (·.1)) k;have hsucc:=xy (early n) ahead (L.map (·.1)) k;obtain⟨c0,c1,c2,c3⟩:=cells4 bx;have Bx:=hI bx;have Fk:=hI fk;by_cases hlt:k<L.length
  ·obtain⟨b,_,x,hv,hx,d0,d1,hby⟩:=(K.out.fr fk zs zs).at_ hlt
   injection hv with hv _ hc;subst hv hc;rw [xK L k x hx] at hsucc;obtain⟨A,c,hxv,_,_⟩:=hby.form;rw [hxv] at d1;have x0:=Grew.cell c1;have x1:=Grew.cell c2;have x2:=Grew.cell d0;have hei:early n x.1=decide (x.1.at_<=n):=rfl;clear bx fk hx hxv hby;generalize zK (early n) ahead (L.map (·.1)) k=bb at *
   obtain⟨hb0,hb1⟩:=hbd;by_cases hi:x.1.at_<=n
   ·have hi1:decide (x.1.at_<=n)=true:=by simpa using hi
    rw [hei,hi1] at hsucc;clear hei;by_cases hb2:bb<0
    ·have e2:decide (bb<0)=true:=by simpa using hb2
     rw [e2] at hsucc;have HS:=hI hsucc;clear hsucc;go_upto_region 5 with fail
     refine qg zk zk ?_;repeat (go_big_quiet_step (fail))
     refine wpQuiet_nil ?_;intro W1 f1;go_wp2_with fail
     go_roundw;case rel=>
      have e:=HS.out;simp at e;exact⟨k+1,zv,by go_num,by rw [e],Fk.out.trans f1 zs,Bx.out.fr f1 zs⟩
     case measure=>simp [intOf];omega
    ·have e2:decide (bb<0)=false:=by simpa using hb2
     have hb3:0<=bb:=zw;have hb4:bb.toNat<L.length:=zw;have hb5:bb<(L.length:Int):=zw;obtain⟨_,_,y,hv,hy,d2,d3,hby⟩:=(K.out.fr Fk.out zs zs).at_ hb4;injection hv with hv _ hc;injection hv with hv;injection hv with hv _ _;subst hv hc;rw [e2,xK L _ y hy] at hsucc;have x3:=Grew.cell d2;have hah:ahead x.1 y.1=decide (x.1.at_<y.1.at_):=rfl;clear hy hby;by_cases hj:x.1.at_<y.1.at_
     ·have hj1:decide (x.1.at_<y.1.at_)=true:=by simpa using hj
      rw [hah,hj1] at hsucc;have HS:=hI hsucc;clear hsucc hah;go_upto_region 5 with fail
      refine qg zk zk ?_;repeat (go_big_quiet_step (fail))
      refine wpQuiet_nil ?_;intro W1 f1;go_wp2_with fail
      go_roundw;case rel=>
       have e:=HS.out;simp at e;exact⟨k+1,zv,by go_num,by rw [e],Fk.out.trans f1 zs,Bx.out.fr f1 zs⟩
      case measure=>simp [intOf];omega
     ·have hj1:decide (x.1.at_<y.1.at_)=false:=by simpa using hj
      rw [hah,hj1] at hsucc;have HS:=hI hsucc;clear hsucc hah;go_upto_region 5 with fail
      refine qg zk zk ?_;repeat (go_big_quiet_step (fail))
      refine wpQuiet_nil ?_;intro W1 f1;go_wp2_with fail
      go_roundw;case rel=>
       have e:=HS.out;simp at e;exact⟨k+1,zv,by go_num,by rw [e],Fk.out.trans f1 zs,Bx.out.fr f1 zs⟩
      case measure=>simp [intOf];omega
   ·have hi1:decide (x.1.at_<=n)=false:=by simpa using hi
    rw [hei,hi1] at hsucc;have HS:=hI hsucc;clear hsucc hei;go_upto_region 5 with fail
    refine qg zk zk ?_;repeat (go_big_quiet_step (fail))
    refine wpQuiet_nil ?_;intro W1 f1;go_wp2_with fail
    go_roundw;case rel=>
     have e:=HS.out;simp at e;exact⟨k+1,zv,by go_num,by rw [e],Fk.out.trans f1 zs,Bx.out.fr f1 zs⟩
    case measure=>simp [intOf];omega
  ·obtain rfl:L.length=k:=zw
   clear hsucc bx fk;go_wp2
   go_ret;exact⟨rfl,Fk.out⟩
def qmg(w:World)(ar:Array Value)(l:List Pc)(s3 s4:Value)(wr:World):Prop:=
 ∃ k:Nat,k<=l.length/\s4 = .int .i64 k/\s3 = .int .i64 (zU (l.take k))/\Fr [] w wr/\Blk wr w.heap.size 39 ar
theorem rheld(S:Nat->Prop)(w:World)(m n f:Int)(kv:Value)(L:List (Pc × Value))(h:Kp 162 S w kv L)(hl:L.length<=64)(hpc:∀ x∈L,x.1.d.length<=64) :
  Calls Tryz.prog 102 #[agR m n kv f] w fun e w'=>e = .returned (.int .i64 (zU (L.map (·.1))))/\Fr [] w w':=by
 obtain⟨KA,KC,rfl,hKn,hKc⟩:=h.form;have K:=hI h;have hb:∀ k,0<=zU ((L.map (·.1)).take k)/\zU ((L.map (·.1)).take k)<=4096:=fun k=>by
  have h1:=qem ((L.map (·.1)).take k) (fun p hp=>by obtain⟨x,hx,rfl⟩:=List.mem_map.1 (List.mem_of_mem_take hp);exact hpc x hx);have h2:((L.map (·.1)).take k).length<=64:=zv;omega
 have HB:=hI hb;have HPC:=hI hpc;clear h hb hpc;go_enter Tryz.func102,Tryz.ntmps102;go_wp2
 go_loopw [3,4] (fun s3 s4 wr=>qmg w (arR m n (.slice KA L.length KC) f) (L.map (·.1)) s3 s4 wr) (fun _ s4 _=>L.length - (intOf s4).toNat);case atStart=>exact⟨0,zw,rfl,rfl,(Fr.refl _ _).alloc _,Blk.new _ _ _⟩
 case round=>
  obtain⟨k,hk,rfl,rfl,fk,bx⟩:=hrel;rw [List.length_map] at hk;obtain⟨hb0,hb1⟩:=HB.out k;obtain⟨c0,c1,c2,c3⟩:=cells4 bx;by_cases hlt:k<L.length
  ·obtain⟨b,_,x,hv,hx,d0,d1,hby⟩:=(K.out.fr fk zs zs).at_ hlt
   injection hv with hv _ hc;subst hv hc;obtain⟨A,c,hxv,_,_⟩:=hby.form;rw [hxv] at d1;have hx64:=HPC.out x (List.mem_of_getElem? hx);have hs:zU ((L.map (·.1)).take (k+1))=zU ((L.map (·.1)).take k)+x.1.d.length:=by
    rw [List.take_add_one];have:(L.map (·.1))[k]?=some x.1:=(by simp [hx]);rw [this];exact qby _ _
   have HS:=hI hs;have Fk:=hI fk;have Bx:=hI bx;clear hs hx hxv hby fk bx;generalize zU ((L.map (·.1)).take k)=sm at *
   go_wp2
   go_roundw;case rel=>exact⟨k+1,zv,by go_num,by rw [HS.out],Fk.out,Bx.out⟩
   case measure=>simp [intOf];omega
  ·obtain rfl:L.length=k:=zw
   have Fk:=hI fk;clear fk bx;go_wp2
   go_ret;exact⟨qbq (by rw [List.take_of_length_le zs]),Fk.out⟩
end Go.Proofs.YtmgdbbbdhkfdmaaGreat
