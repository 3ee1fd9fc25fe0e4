import Derived.Test.YtmgdbbbdhkfdmaaGreatYC2
import Derived.Laws.OwnMore
import Derived.RangeFuncNested
import Derived.RangeFuncBound
import Derived.RangeFuncCalls
import Derived.RangeFuncLeaves
import Derived.Shelf.Abstract
import Derived.Shelf.RegionOpen
import Derived.OwnWalkIn
import Derived.TacticsInMore
import Derived.LoopNIn
import Derived.LoopIn
import Derived.Deep.DeepCutAuto
import Derived.Deep.RegionLaw
import Derived.Test.YtmgdbbbdhkfdmaaGreatYC0
set_option linter.unusedSimpArgs false
set_option linter.unusedVariables false
set_option maxHeartbeats 40000000
namespace Go.Proofs.YtmgdbbbdhkfdmaaGreat
set_option maxRecDepth 100000
open Go.RowKit
abbrev hpa(m n:Int)(kv ev:Value):Array Value:=#[.int .i64 m, .int .i64 n,kv,ev, .bool true]
theorem jZ(b o k:Nat):(⟨b,o,none⟩:Addr).add k=⟨b,o+k,none⟩:=by unfold Addr.add;split <;> simp_all
theorem take_any(S:Nat->Prop)(w:World)(g:Nat)(m n:Int)(kv ev:Value)(out:List Int)(oA:Option Addr)(oc:Nat)(p:Pc)(dv:Value)
  (hb:Blk w g 115 (hpa m n kv ev)) (ho:w.ownsRow 0 5 1 (.slice oA out.length oc) out.length (kE out)) (hp:Byt S w dv p.d) (hS:∀ b,S b->b<w.heap.size)
  (h0:0<=p.at_) (h1:p.at_<=n) (h2:n<=4611686018427387968) (h3:p.d.length<=64) (h4:out.length<=100000) :
  Calls Tryz.prog 128 #[ptr g, .slice oA out.length oc,agp p.at_ dv] w fun e w'=>∃ A c,e = .returned (.slice A (out++(qQ n p).1).length c) /\
   w'.ownsRow 0 5 1 (.slice A (out++(qQ n p).1).length c) (out++(qQ n p).1).length (kE (out++(qQ n p).1)) /\
   Fr (g::ob (.slice oA out.length oc)) w w'/\Blk w' g 115 (hpa m (qQ n p).2 kv ev) /\
   (∀ b,(Value.slice A (out++(qQ n p).1).length c).ownBlock=some b->(Value.slice oA out.length oc).ownBlock=some b\/(w.heap.size<=b/\b<w'.heap.size)):=by
 have c1:w.cell? ⟨g,1,none⟩=some (.int .i64 n):=by simpa using hb.cell 1
 have z1:=hb.frozen 1;have hg:=hb.lt;obtain⟨A,c,rfl,hnc,hcm⟩:=hp.form;unfold qQ Pc.beh;by_cases hle:p.at_+(p.d.length:Int)<=n
 ·rw [if_pos hle]
  have H:=hI ho;have HB:=hI hb;clear ho hb;go_enter Tryz.func128,Tryz.ntmps128;go_wp2_with fail
  have bn:=Blk.new w 134 #[.int .i64 p.at_, .slice A p.d.length c];have q0:=Grew.cell (w:=w.alloc (bxp p.at_ (.slice A p.d.length c))) (a:=⟨w.heap.size,0,none⟩) (bn.cell 0);have q1:=Grew.cell (w:=w.alloc (bxp p.at_ (.slice A p.d.length c))) (a:=⟨w.heap.size,1,none⟩) (bn.cell 1);have q2:=Grew.cell (kH c1 (bxp p.at_ (.slice A p.d.length c)));refine qg zk zk ?_;repeat (go_big_quiet_step ((go_at_call 127;exact qG (zW p.at_ A p.d.length c _ h0 zw zw))))
  refine wpQuiet_nil ?_;intro W1 f1;go_wp2_with fail
  go_ret;have F:Fr [] w W1:=((Fr.refl _ _).alloc _).trans f1 zs;refine⟨oA,oc,zs,?_,F.mono zs,HB.out.fr F zs,?_⟩
  ·simpa using qA H.out F zs
  ·intro b hb
   exact .inl (by simpa using hb)
 ·rw [if_neg hle]
  obtain⟨b,o,rfl,hSb,_⟩:=hp.at_ (k:=0) zw;obtain⟨k,hk⟩:∃ k:Nat,n - p.at_=(k:Int):=⟨(n - p.at_).toNat,zw⟩;have hkn:k<p.d.length:=zw;have H:=hI ho;have HB:=hI hb;have HP:=hI hp;have hck:¬ c=k:=zw;clear ho hb hp;go_enter Tryz.func128,Tryz.ntmps128;go_wp2_with fail
  have bn:=Blk.new w 134 #[.int .i64 p.at_, .slice (some ⟨b,o,none⟩) p.d.length c];have q0:=Grew.cell (w:=w.alloc (bxp p.at_ (.slice (some ⟨b,o,none⟩) p.d.length c))) (a:=⟨w.heap.size,0,none⟩) (bn.cell 0);have q1:=Grew.cell (w:=w.alloc (bxp p.at_ (.slice (some ⟨b,o,none⟩) p.d.length c))) (a:=⟨w.heap.size,1,none⟩) (bn.cell 1);have q2:=Grew.cell (kH c1 (bxp p.at_ (.slice (some ⟨b,o,none⟩) p.d.length c)));have hle':n<p.at_+(p.d.length:Int):=zw;refine qg zk zk ?_;repeat (go_big_quiet_step ((go_at_call 127;exact qG (zW p.at_ _ p.d.length c _ h0 zw zw))))
  refine wpQuiet_nil ?_;intro W1 f1;have e0:=ql f1 (bn.cell 0);have e1:=ql f1 (bn.cell 1);have e2:=ql f1 (kH c1 (bxp p.at_ (.slice (some ⟨b,o,none⟩) p.d.length c)));have F1:Fr [] w W1:=((Fr.refl _ _).alloc _).trans f1 zs;have Hs:=hI F1.size;have Hbn:=hI bn;have Hf1:=hI f1;clear q0 q1 q2 bn f1;go_wp2_with fail
  have hw:IntKind.i64.wrap (k:Int)=(k:Int):=IntWalk.i64_in _ zw;have hk0:(0:Int)<=(k:Int):=zw;have hk1:(k:Int)<=(p.d.length:Int):=zw;have hk2:(p.d.length:Int)<=(c:Int):=zw;go_still_tail 11,zk
  change wpList Tryz.prog _ _ _ _ W1.drew;obtain⟨i0,hi,hz0,hz1,hz2⟩:=info_parts vM;have hcut:=(HP.out.fr F1 zs).cut (k:=k) zw;rw [if_neg hck] at hcut;have hob:∀ x,(Value.slice oA out.length oc).ownBlock=some x->x≠w.heap.size/\x≠g:=fun x hx=>by
   have h5:=kG H.out hx;refine⟨zw,?_⟩;rintro rfl;exact own_ne H.out HB.out zd hx
  have hl:out.length+(p.d.drop k).length<=maxLen:=by unfold maxLen;simp;omega
  have hl2:(out.length+(p.d.drop k).length) * 1<=140737488355328:=zv;have ho1:=qA H.out F1 zs;have hbw:b<w.heap.size:=hS b hSb;have hbo:(Value.slice oA out.length oc).ownBlock≠some b\/True := .inr trivial;have Hl:=hI hl;have Hl2:=hI hl2;have Hcut:=hI hcut;have Hob:=hI hob;clear hl hl2 hcut hob;simp only [Option.map_some] at Hcut;obtain⟨N,hN⟩:∃ N,out.length+(p.d.drop k).length=N:=⟨_,rfl⟩;have HN:=hI hN;clear hN;refine qE _ rfl (.tmp 15) (.tmp 25) 30 rfl 5 i0 (.int .u8 0) 1 1 Tryz.underlying30 hi hz0 hz1 hz2 rfl zd (.slice oA out.length oc) out.length (kE out) rfl ho1 S _ (p.d.drop k).length (kE (p.d.drop k)) rfl ?_ (ji _) Hl.out Hl2.out N HN.out ?_
  ·have:=Hcut.out.fr ((Fr.refl [] W1).drew) zs
   rw [jZ] at this;exact this
  intro A' c' W2 h5 h6 h7;rw [vJ] at h5;have f2:Fr (ob (.slice oA out.length oc)) W1 W2:=((Fr.refl (ob (.slice oA out.length oc)) W1).drew).trans h6 (fun x hx => .inl hx);have bn2:=(Hbn.out.fr Hf1.out zs).fr f2 (fun hm=>(Hob.out _ (qo.1 hm)).1 rfl);have hb2:=(HB.out.fr F1 zs).fr f2 (fun hm=>(Hob.out _ (qo.1 hm)).2 rfl);have F2:Fr (g::ob (.slice oA out.length oc)) w W2:=(F1.mono zs).trans f2 (fun x hx => .inl (List.mem_cons_of_mem _ hx));have m0:W2.cell? ⟨w.heap.size,0,none⟩=some (.int .i64 p.at_):=bn2.cell 0;have m1:W2.cell? ⟨w.heap.size,1,none⟩=some (.slice (some ⟨b,o,none⟩) p.d.length c):=bn2.cell 1;have m2:W2.cell? ⟨g,1,none⟩=some (.int .i64 n):=hb2.cell 1;have m3:W2.frozen? ⟨g,1,none⟩=false:=hb2.frozen 1;have m4:=hb2.lt;have H5:=hI h5;have H7:=hI h7;have HB2:=hI hb2;have HF2:=hI F2;clear h5 h6 h7 hb2 F2 f2 bn2 F1 ho1 hw hk0 hk1 hk2 e0 e1 e2 z1 c1;go_wp2_with fail
  refine (qbz p.at_ _ p.d.length c _ h0 zw zw).mono ?_;rintro e w3 ⟨rfl,rfl⟩;go_wp2_with fail
  go_ret;have ek:(n - p.at_).toNat=k:=zw;dsimp only;rw [ek];have hN2:(out++p.d.drop k).length=N:=by rw [List.length_append];exact HN.out
  rw [hN2];have F3:=(HF2.out.setCell (p:=⟨g,1,none⟩) (.inl zs) (.int .i64 (p.at_+p.d.length))).alloc (bxp p.at_ (.slice (some ⟨b,o,none⟩) p.d.length c));have hgb:∀ x,(Value.slice A' N c').ownBlock=some x->x≠g:=fun x hx=>by
   rintro rfl;exact own_ne H5.out HB2.out zd hx
  refine⟨A',c',rfl,?_,F3,?_,fun x hx=>?_⟩
  ·exact qA (qA H5.out ((Fr.refl [g] W2).setCell (p:=⟨g,1,none⟩) (.inl zs) _) (fun x hx=>by simpa using hgb x hx)) ((Fr.refl [] _).alloc _) zs
  ·have:=(HB2.out.qO 1 (.int .i64 (p.at_+p.d.length))).alloc (bxp p.at_ (.slice (some ⟨b,o,none⟩) p.d.length c))
   simpa using this
  ·rcases H7.out x hx with h8|h8
   ·exact .inl h8
   ·refine .inr ⟨?_,?_⟩
    ·have:=Hs.out
     have h9:W1.heap.size<=x:=h8.1;omega
    ·have h9:x<W2.heap.size:=h8.2
     simp [World.setCell];omega
end Go.Proofs.YtmgdbbbdhkfdmaaGreat
namespace Go.Proofs.YtmgdbbbdhkfdmaaGreat
set_option maxRecDepth 100000
open Go.RowKit
theorem qch{g c n:Nat}{e:TypeId}{size:Nat}{xs:List Value}:∀(zs:List Value) (j:Nat) (w:World),w.ownsRow 0 e size (.slice (some ⟨g,0,none⟩) n c) n xs->n * size<=j->(w.setCells g j zs).ownsRow 0 e size (.slice (some ⟨g,0,none⟩) n c) n xs
 | [],_,_,h,_=>h
 | z::zs,j,w,h,hj=>by
  rw [World.setCells];refine qch zs (j+1) _ ?_ zw;have:=h.stored j z;rw [List.set_eq_of_length_le (by have:=h.1;omega)] at this;exact this.1
theorem qml{w:World}{g c n k:Nat}{e:TypeId}{size:Nat}{xs:List Value}(h:w.ownsRow 0 e size (.slice (some ⟨g,0,none⟩) n c) n xs)(hk:k<=n):w.ownsRow 0 e size (.slice (some ⟨g,0,none⟩) k c) k (xs.take (k * size)):=by
 rcases h.2 with ⟨h',_⟩|⟨g',cap',cur,h',hb,hg,hnc,hcm,hs,ht⟩
 ·simp at h'
 ·simp only [Value.slice.injEq,Option.some.injEq,Addr.mk.injEq,and_true,true_and] at h'
  obtain⟨rfl,rfl⟩:=h';have hm:k * size<=n * size:=Nat.mul_le_mul_right _ hk;exact⟨by rw [List.length_take,h.1];exact Nat.min_eq_left hm, .inr ⟨g,c,cur,rfl,hb,hg,zw,hcm,hs,by rw [<- ht,List.take_take,Nat.min_eq_left hm]⟩⟩
theorem qkk{w:World}{g c n:Nat}{e:TypeId}{size:Nat}{xs:List Value}(h:w.ownsRow 0 e size (.slice (some ⟨g,0,none⟩) n c) n xs)(j:Nat)(hj:j<c * size):(w.cell? ⟨g,j,none⟩).isSome=true:=by
 rcases h.2 with ⟨h',_⟩|⟨g',cap',cur,h',_,hg,_,_,hs,_⟩
 ·simp at h'
 ·simp only [Value.slice.injEq,Option.some.injEq,Addr.mk.injEq,and_true,true_and] at h'
  obtain⟨rfl,rfl⟩:=h';rw [cell_of_row w g j cur e (0,0) hg];simp [show j<cur.size by omega]
theorem yI{P:Program}{w:World}(t ty e:TypeId)(z:Value)(ht:P.underlying t=some (.slice e))(hv:∀ w,(zeroValue e).run P w = .ok z w)(zs:List Value)(hz:(Builtin.zeroCells z.cells 1).toList=zs)(hzl:zs.length=2)(h1:∀ u∈zs,u.oneCell'=true)
  {g c n:Nat} {xs:List Value} (h:w.ownsRow 0 e 2 (.slice (some ⟨g,0,none⟩) n c) n xs) (hc:n+1<=c) (c':Nat) :
  ∃ w',(Builtin.clear_ #[t] ty #[.slice (some ⟨g,n * 2,none⟩) 1 c']).run P w = .ok (.tuple #[]) w'/\w'.ownsRow 0 e 2 (.slice (some ⟨g,0,none⟩) n c) n xs/\Fr [g] w w':=by
 have hst:=run_storeCells_cells (P:=P) g (n * 2) zs 0 w (fun j hj=>qkk h _ zw) (fun j _=>h.frozenAt _) h1;simp only [Nat.add_zero] at hst;refine⟨w.setCells g (n * 2) zs,?_,qch zs (n * 2) w h (Nat.le_refl _),vC g zs (n * 2) w⟩;simp [Builtin.clear_,run_underlying ht,hv,hz,hst,Result.andThen]
theorem del_any(S:Nat->Prop)(w:World)(kb c i m:Nat)(L:List (Pc × Value))(hL:L.length=i+1+m)(h:Kp 134 S w (.slice (some ⟨kb,0,none⟩) L.length c) L)(hk:¬ S kb)(hm:L.length<=1000000) :
  Calls Tryz.prog 143 #[.slice (some ⟨kb,0,none⟩) (i+1+m) c, .int .i64 i, .int .i64 (i+1)] w fun e w'=>e = .returned (.slice (some ⟨kb,0,none⟩) (i+m) c) /\
   Kp 134 S w' (.slice (some ⟨kb,0,none⟩) (i+m) c) (L.eraseIdx i)/\Fr [kb] w w':=by
 obtain⟨i0,hi,hz0,hz1,hz2⟩:=info_parts qeo;obtain⟨hnc,hcm⟩:i+1+m<=c/\c<=maxLen:=by
  obtain⟨A,c',hv,h1,h2⟩:=h.form;injection hv with _ _ hc;subst hc;omega
 have hzv:∀ w,(zeroValue 134).run Tryz.prog w = .ok (.agg #[.int .i64 0, .slice none 0 0]) w:=fun w=>by kernel_rfl
 have hn1:i+1+m<=1000000:=zw;have ho:=h.own;rw [hL] at ho;have hpre:w.ownsRow 0 134 2 (.slice (some ⟨kb,0,none⟩) i c) i ((pcs L).take (i * 2)):=qml ho zw;have HL:=hI hL;have H:=hI h;have Hpre:=hI hpre;have Ho:=hI ho;unfold maxLen at hcm;clear hL h hpre ho;by_cases hcj:c=i+1
 ·obtain rfl:m=0:=zw
  subst hcj;simp only [Nat.add_zero,Int.natCast_zero,Int.add_zero] at *
  go_enter Tryz.func143,Tryz.ntmps143;go_wp2_with fail
  have k0:(0:Int)<=(i:Int):=zw;have k1':(i:Int)<=(i:Int)+1:=zw;have k1'':(i:Int)+1<=(i:Int)+1:=zw;have k1:(i:Int)<=((i+1:Nat):Int):=zw;have k2:(0:Int)<=(i:Int)+1:=zw;have k3:((i:Int)+1)<=(i:Int)+1:=zw;have k4:(i:Int)+1<=((i+1:Nat):Int):=zw;have k5:((i:Int)+1).toNat=i+1:=zw;have k6:i<=i+1:=zw;have k7:i+1<=i+1:=zw;go_still_tail 6,zk
  have hone:∀ u∈(pcs L).drop ((i+1) * 2),u.oneCell'=true:=fun u hu=>H.out.one u (List.mem_of_mem_drop hu);have hnl:((pcs L).drop ((i+1) * 2)).length=0 * 2:=by rw [List.length_drop,qen,HL.out];omega
  refine wpList_append_fits_any w.drew rfl (.tmp 22) (.tmp 25) 112 rfl 0 134 i0 2 Tryz.underlying112 hi hz1 kb i (i+1) ((pcs L).take (i * 2)) rfl Hpre.out (some ⟨kb,0,none⟩) 0 0 ((pcs L).drop ((i+1) * 2)) rfl hnl zs ?_ hone zw ?_
  ·intro ad he j u hj
   have h0:((pcs L).drop ((i+1) * 2)).length=0:=zw;rw [List.eq_nil_of_length_eq_zero h0] at hj;simp at hj
  intro w2 h5 h6;have ed:(pcs L).take (i * 2)++(pcs L).drop ((i+1) * 2)=pcs (L.eraseIdx i):=by
   rw [yG,yH,yQ,List.eraseIdx_eq_take_drop_succ]
  rw [ed] at h5;simp only [Nat.add_zero] at h5;have f2:Fr [kb] w w2:=⟨h6.os,h6.tape,h6.output,h6.size,fun x hx hn=>h6.block x hx (by simpa using hn)⟩;obtain⟨w3,hrun,h7,h8⟩:=yI (P:=Tryz.prog) 112 0 134 (.agg #[.int .i64 0, .slice none 0 0]) Tryz.underlying112 hzv [.int .i64 0, .slice none 0 0] zk rfl zd h5 zw 1;have H7:=hI h7;have F3:=hI (f2.trans h8 zs);have Hone:=hI hone;have Hnl:=hI hnl;have Hed:=hI ed;clear h5 h6 f2 hone hnl ed h7 h8;have k8:i<=i+1:=zw;have k9:(i:Int)<=(i:Int)+1:=zw;have k10:i+1 - (i)=1:=zw;have k11:((i:Int)+1).toNat=i+1:=zw;have k12:((i:Int)).toNat=i:=zw;have k13:¬ i+1=i:=zw;go_wp2_with fail
  go_ret;exact⟨rfl,⟨by rw [show (L.eraseIdx i).length=i by rw [List.length_eraseIdx];have:=HL.out;split <;> omega];exact H7.out,fun x hx=>(H.out.byt x (List.mem_of_mem_eraseIdx hx)).fr F3.out (by simpa using hk)⟩,F3.out⟩
 ·go_enter Tryz.func143,Tryz.ntmps143
  go_wp2_with fail
  have k0:(0:Int)<=(i:Int):=zw;have k1:(i:Int)<=(c:Int):=zw;have k2:(0:Int)<=(i:Int)+1:=zw;have k3:((i:Int)+1)<=(i:Int)+1+(m:Int):=zw;have k4:(i:Int)+1+(m:Int)<=(c:Int):=zw;have k5:((i:Int)+1).toNat=i+1:=zw;have k6:i<=c:=zw;have k7:i+1<=i+1+m:=zw;go_still_tail 6,zk
  have hone:∀ u∈(pcs L).drop ((i+1) * 2),u.oneCell'=true:=fun u hu=>H.out.one u (List.mem_of_mem_drop hu);have hnl:((pcs L).drop ((i+1) * 2)).length=m * 2:=by rw [List.length_drop,qen,HL.out];omega
  refine wpList_append_fits_any w.drew rfl (.tmp 22) (.tmp 25) 112 rfl 0 134 i0 2 Tryz.underlying112 hi hz1 kb i c ((pcs L).take (i * 2)) rfl Hpre.out (some ⟨kb,(i+1) * 2,none⟩) m (c - (i+1)) ((pcs L).drop ((i+1) * 2)) rfl hnl zs ?_ hone zw ?_
  ·intro ad he j u hj
   injection he with he;subst he;have h3:=Sl.kW (S:=fun _=>True) Ho.out (fun _ _=>trivial);obtain⟨_,A',c',hv,_,_,hu⟩:=h3;obtain⟨b',o',hA,_,hcl⟩:=hu zw;subst hA;injection hv with hv _ _;injection hv with hv;injection hv with hb ho _;subst hb ho;rw [jZ];rw [List.getElem?_drop] at hj;have:=hcl _ u hj
   rwa [Nat.zero_add] at this
  intro w2 h5 h6;have ed:(pcs L).take (i * 2)++(pcs L).drop ((i+1) * 2)=pcs (L.eraseIdx i):=by
   rw [yG,yH,yQ,List.eraseIdx_eq_take_drop_succ]
  rw [ed] at h5;have f2:Fr [kb] w w2:=⟨h6.os,h6.tape,h6.output,h6.size,fun x hx hn=>h6.block x hx (by simpa using hn)⟩;obtain⟨w3,hrun,h7,h8⟩:=yI (P:=Tryz.prog) 112 0 134 (.agg #[.int .i64 0, .slice none 0 0]) Tryz.underlying112 hzv [.int .i64 0, .slice none 0 0] zk rfl zd h5 zw (c - (i+m));have H7:=hI h7;have F3:=hI (f2.trans h8 zs);have Hone:=hI hone;have Hnl:=hI hnl;have Hed:=hI ed;clear h5 h6 f2 hone hnl ed h7 h8;have k8:i+m<=c:=zw;have k9:(i:Int)+(m:Int)<=(i:Int)+1+(m:Int):=zw;have k10:i+1+m - (i+m)=1:=zw;have k11:((i:Int)+1+(m:Int)).toNat=i+1+m:=zw;have k12:((i:Int)+(m:Int)).toNat=i+m:=zw;have k13:¬ c=i+m:=zw;go_wp2_with fail
  go_ret;exact⟨rfl,⟨by rw [show (L.eraseIdx i).length=i+m by rw [List.length_eraseIdx];have:=HL.out;split <;> omega];exact H7.out,fun x hx=>(H.out.byt x (List.mem_of_mem_eraseIdx hx)).fr F3.out (by simpa using hk)⟩,F3.out⟩
end Go.Proofs.YtmgdbbbdhkfdmaaGreat
namespace Go.Proofs.YtmgdbbbdhkfdmaaGreat
set_option maxRecDepth 100000
open Go.RowKit Go.Shelf
attribute [local go_sem] Oper.semAt_some
def klen(g:Nat)(w:World):Nat:=match w.cell? ⟨g,2,none⟩ with|some (.slice _ n _)=>n|_=>0
structure Seen(S:Nat->Prop)(g hb:Nat)(m n:Int)(kv ev:Value)(L:List (Pc × Value))(W:World):Prop where
 blk:Blk W g 115 (hpa m n kv ev)
 kp:Kp 134 S W kv L
 box:W.cell? ⟨hb,0,none⟩=some (ptr g)
 pub:∀ b,S b->b<W.heap.size
 offg:¬ S g
 pc:∀ x∈L,0<=x.1.at_/\x.1.at_<=4611686018427387904/\1<=x.1.d.length/\x.1.d.length<=64
 n0:0<=n
 n1:n<=4611686018427387968
 len:L.length<=64
theorem qaz(L:List (Pc × Value))(i:Nat):(L.eraseIdx i).map (·.1)=(L.map (·.1)).eraseIdx i:=by
 rw [List.eraseIdx_eq_take_drop_succ,List.eraseIdx_eq_take_drop_succ,List.map_append,List.map_take,List.map_drop]
theorem qci(k:Nat)(n:Int)(l:List Pc)(h:kQ n l<0):qX k n l=(n,l,[]):=by
 cases k with
 | zero=>rfl
 | succ k=>unfold qX;rw [if_pos h]
theorem qcj(k:Nat)(n:Int)(l:List Pc)(i:Nat)(p:Pc)(h:kQ n l=i)(hp:l.getD i default=p) :
  qX (k+1) n l=((qX k (qQ n p).2 (l.eraseIdx i)).1,(qX k (qQ n p).2 (l.eraseIdx i)).2.1,(qQ n p).1++(qX k (qQ n p).2 (l.eraseIdx i)).2.2):=by
 rw [qX,if_neg zw,h];simp only [Int.toNat_natCast,hp]
theorem qiz(is:Pc->Bool)(lt:Pc->Pc->Bool)(l:List Pc):∀(k i:Nat),zK is lt l k=i->is (l.getD i default)=true
 | 0,i,h=>by simp only [zK] at h;omega
 | k+1,i,h=>by
  rw [xy] at h;split at h
  ·rename_i hc
   have:k=i:=zw;subst this;simp only [Bool.and_eq_true] at hc;exact hc.1
  ·exact qiz is lt l k i h
theorem qck(n:Int)(l:List Pc)(i:Nat)(h:kQ n l=i):(l.getD i default).at_<=n:=by
 have:=qiz _ _ _ _ _ h;simpa [early] using this
theorem qja{S:Nat->Prop}{g hb:Nat}{m n:Int}{kv ev:Value}{L:List (Pc × Value)}{W:World}(h:Seen S g hb m n kv ev L W):klen g W=L.length:=by
 have h1:W.cell? ⟨g,2,none⟩=some kv:=by simpa using h.blk.cell 2
 obtain⟨A,c,rfl,_⟩:=h.kp.form;unfold klen;rw [h1]
theorem qkl{S:Nat->Prop}{w W1:World}{b2:Nat}(hp:∀ b,S b->b<w.heap.size)(hz:w.heap.size<=W1.heap.size)(h2:W1.drew.heap.size<=b2):¬ S b2:=fun hs=>by
 have h1:=hp _ hs;have h3:W1.heap.size<=b2:=h2;omega
theorem step3{g hb b2:Nat}{m n:Int}{kv ev:Value}{W1 w2 w3:World}(BG:Blk W1 g 115 (hpa m n kv ev))(qb:W1.cell? ⟨hb,0,none⟩=some (ptr g))(f2:Fr [] W1.drew w2)(f3:Fr [b2] w2 w3)(h2:W1.drew.heap.size<=b2) :
  w3.cell? ⟨g,2,none⟩=some kv/\w3.frozen? ⟨g,2,none⟩=false/\w3.cell? ⟨hb,0,none⟩=some (ptr g)/\Fr [] W1 w3/\g<w3.heap.size:=by
 have h2':W1.heap.size<=b2:=h2;have f13:Fr [] W1 w3:=((Fr.refl [] W1).drew.trans f2 zs).trans f3 (by intro x hx;simp at hx;subst hx;exact .inr h2');have B3:=BG.fr f13 zs;exact⟨by simpa using B3.cell 2,B3.frozen 2,ql f13 qb,f13,B3.lt⟩
theorem qhi(S:Nat->Prop)(l g hb:Nat)(m:Int)(ev:Value)(J:Int->Value->List (Pc × Value)->List Int->World->Prop)
  (hR:∀ n kv L out W,J n kv L out W->Seen S g hb m n kv ev L W)
  (hJ:∀ n kv L out W W3 kv3 i,J n kv L out W->Fr [] W W3->Kp 134 S W3 kv3 (L.eraseIdx i)->(∀ b,kv3.ownBlock=some b->W.heap.size<=b)->J n kv3 (L.eraseIdx i) out (W3.setCell ⟨g,2,none⟩ kv3))
  (hJ2:∀ n kv L out W W',J n kv L out W->Fr [] W W'->J n kv L out W')
  (hY:∀ n kv L out W (p:Pc) A c kv1 L1 W1,J n kv1 L1 out W1->L1.length=L.length+1->J n kv L out W->Byt S W (.slice A p.d.length c) p.d->0<=p.at_->p.at_<=n->p.at_<=4611686018427387904->p.d.length<=64->YieldAt Fence.wide 3 Tryz.prog l #[agp p.at_ (.slice A p.d.length c)] W fun e W'=>
   e = .returned (.bool true)/\J (qQ n p).2 kv L (out++(qQ n p).1) W')
  (n0:Int) (kv0:Value) (L0:List (Pc × Value)) (out0:List Int) (W0:World) (h0:J n0 kv0 L0 out0 W0) :
  Calls Tryz.prog 140 #[.func (.yield l) #[] #[], .pointer (some ⟨hb,0,none⟩)] W0 fun e W'=>(∃ v,e = .returned v) /\
   ∃ kv' L',J (qX L0.length n0 (L0.map (·.1))).1 kv' L' (out0++(qX L0.length n0 (L0.map (·.1))).2.2) W'/\L'.map (·.1)=(qX L0.length n0 (L0.map (·.1))).2.1:=by
 generalize hD:qX L0.length n0 (L0.map (·.1))=D;have HD:=hI hD;clear hD;go_enter Tryz.func140,Tryz.ntmps140;go_wp2_with fail
 go_loopw [3] (fun _ wr=>∃ n kv L out,J n kv L out wr/\(qX L.length n (L.map (·.1))).1=D.1/\(qX L.length n (L.map (·.1))).2.1=D.2.1/\out++(qX L.length n (L.map (·.1))).2.2=out0++D.2.2) (fun _ wr=>klen g wr);case atStart=>exact⟨n0,kv0,L0,out0,h0,by rw [HD.out],by rw [HD.out],by rw [HD.out]⟩
 case round=>
  obtain⟨n,kv,L,out,hj,hd⟩:=hrel;have HDD:=hI hd;have Hj:=hI hj;have hs:=hR _ _ _ _ _ hj;have Hs:=hI hs;have c1:wr.cell? ⟨g,1,none⟩=some (.int .i64 n):=by simpa using hs.blk.cell 1
  have c2:wr.cell? ⟨g,2,none⟩=some kv:=by simpa using hs.blk.cell 2
  have cb:=hs.box;have hf:=qfv S wr g hb n cb c1 kv L hs.kp (by have:=hs.len;omega);have Hf:=hI hf;have hbd:=yE n (L.map (·.1));have hre:zK (early n) ahead (L.map (·.1)) L.length=kQ n (L.map (·.1)):=by unfold kQ;rw [List.length_map]
  rw [List.length_map] at hbd;rw [hre] at Hf;have HR:=hI hR;have HJ:=hI hJ;have HJ2:=hI hJ2;have HY:=hI hY;clear hre hd hj hs hf hR hJ hJ2 hY;generalize hr:kQ n (L.map (·.1))=r at *
  have Hr:=hI hr;clear hr;obtain⟨r0,r1⟩:=hbd;by_cases hr0:r<0
  ·go_wp2_with (go_at_call 130;refine Hf.out.mono ?_;rintro e w1 ⟨rfl,f1⟩)
   refine bodyPost_ret (results_none rfl _ _ _) rfl ⟨⟨_,rfl⟩,?_⟩;obtain⟨hd1,hd2,hd3⟩:=HDD.out;have hs:=qci L.length n (L.map (·.1)) (by rw [Hr.out];exact hr0);rw [hs] at hd1 hd2 hd3;refine⟨kv,L,?_,hd2⟩;rw [<- hd1,<- hd3,List.append_nil];exact HJ2.out _ _ _ _ _ _ Hj.out f1
  ·obtain⟨i,rfl⟩:∃ i:Nat,r=i:=⟨r.toNat,zw⟩
   have hiL:i<L.length:=zw;obtain⟨m0,hm0⟩:∃ m0,L.length=i+1+m0:=⟨L.length - i - 1,zw⟩;obtain⟨kb,kc,x,rfl,hx,c3,c4,hbyt⟩:=Hs.out.kp.at_ hiL;obtain⟨A,dc,hxv,_,_⟩:=hbyt.form;rw [hxv] at c4;have hpc:=Hs.out.pc x (List.mem_of_getElem? hx);have Hx:=hI hx;have Hxv:=hI hxv;have Hbyt:=hI hbyt;have Hm0:=hI hm0;have hcl:∀ W,Fr [] wr W->Calls Tryz.prog 87 #[.slice (some ⟨kb,0,none⟩) L.length kc] W fun e w'=>∃ b2 c2,e = .returned (.slice (some ⟨b2,0,none⟩) (i+1+m0) c2)/\Kp 134 S w' (.slice (some ⟨b2,0,none⟩) L.length c2) L/\Fr [] W w'/\W.heap.size<=b2:=fun W f=>
    (qca W (Hs.out.kp.fr f zs zs) (by have:=Hs.out.len;omega)).mono fun e w' ⟨A2,c2,he,hk,hf,hb⟩=>by
     obtain⟨b2,c2',x2,hv,_⟩:=hk.at_ hiL;injection hv with hv1 _ _;subst hv1;rw [Hm0.out] at he;exact⟨b2,c2,he,hk,hf,hb b2 rfl⟩
   have Hcl:=hI hcl;have hdl:∀ W b2 c2,Kp 134 S W (.slice (some ⟨b2,0,none⟩) L.length c2) L->¬ S b2->Calls Tryz.prog 143 #[.slice (some ⟨b2,0,none⟩) (i+1+m0) c2, .int .i64 i, .int .i64 (i+1)] W fun e w'=>e = .returned (.slice (some ⟨b2,0,none⟩) (i+m0) c2) /\
     Kp 134 S w' (.slice (some ⟨b2,0,none⟩) (i+m0) c2) (L.eraseIdx i)/\Fr [b2] W w':=fun W b2 c2 hk hn=>del_any S W b2 c2 i m0 L Hm0.out hk hn (by have:=Hs.out.len;omega)
   have Hdl:=hI hdl;have Hpc:=hI hpc;have hg2:=Hs.out.blk.lt;have hhb:=World.block_lt_of_cell? wr _ cb;have hLs:L.length<=64:=Hs.out.len;dsimp only at hhb;clear hcl hdl hpc hm0 hx hxv hbyt r0 hr0;go_wp2_with (go_at_call 130;refine Hf.out.mono ?_;rintro e w1 ⟨rfl,f1⟩;have d2:=ql f1 c2;have db:=ql f1 cb;have d3:=ql f1 c3;have d4:=ql f1 c4)
   have hg3:g<w1.heap.size:=by have:=f1.size;omega
   have hhb3:hb<w1.heap.size:=by have:=f1.size;omega
   have F1:=hI f1;have fA:Fr [] wr (w1.alloc (bxp x.1.at_ (.slice A x.1.d.length dc))):=f1.alloc _;have bA:=Blk.new w1 134 #[.int .i64 x.1.at_, .slice A x.1.d.length dc];have q2:=kH d2 (bxp x.1.at_ (.slice A x.1.d.length dc));have qb:=kH db (bxp x.1.at_ (.slice A x.1.d.length dc));have hbb:w1.heap.size≠g:=zw;have bg:=Hs.out.blk.fr fA zs;clear f1 d2 db d3 d4 c1 c2 c3 c4 cb;generalize w1.alloc (bxp x.1.at_ (.slice A x.1.d.length dc))=W1 at *
   have FA:=hI fA;have BA:=hI bA;have BG:=hI bg;clear fA bA bg;have hwr:IntKind.i64.wrap ((i:Int)+1)=(i:Int)+1:=IntWalk.i64_in _ zw;have Hpub:=hI Hs.out.pub;have hz1:wr.heap.size<=W1.heap.size:=FA.out.size
   go_region_with (first
    | (go_at_call 87;(with_reducible refine (Hcl.out _ (FA.out.drew)).mono ?_);rintro e w2 ⟨b2,c2,rfl,k2,f2,h2⟩;have q2':w2.cell? ⟨g,2,none⟩=_:=ql (w:=W1.drew) f2 q2;have qb':w2.cell? ⟨hb,0,none⟩=_:=ql (w:=W1.drew) f2 qb;have hnS:=qkl Hpub.out hz1 h2;have K2:=hI k2;have F2:=hI f2;clear k2 f2)|(go_at_call 143;(with_reducible refine (Hdl.out _ b2 c2 K2.out hnS).mono ?_);rintro e w3 ⟨rfl,k3,f3⟩;obtain⟨q3,z3,qb3,f13,hg4⟩:=step3 BG.out qb F2.out f3 h2;have K3:=hI k3;have F3:=hI f13;clear k3 f3 f13))
   all_goals
    have hj4:=HJ.out n _ L out wr w3 (.slice (some ⟨b2,0,none⟩) (i+m0) c2) i Hj.out (FA.out.trans F3.out zs) K3.out (fun b hb=>by
     have h5:b2=b:=(by simpa [Value.ownBlock] using hb);have h6:W1.heap.size<=b2:=h2;omega)
    have ba3:=BA.out.fr F3.out zs;have ba4:=ba3.far (p:=⟨g,2,none⟩) hbb (.slice (some ⟨b2,0,none⟩) (i+m0) c2);have hb4:=((Hbyt.out.fr (FA.out.trans F3.out zs) zs).fr ((Fr.refl [g] w3).setCell (p:=⟨g,2,none⟩) (.inl zs) (.slice (some ⟨b2,0,none⟩) (i+m0) c2)) (by simpa using Hs.out.offg));rw [Hxv.out] at hb4;generalize w3.setCell ⟨g,2,none⟩ (.slice (some ⟨b2,0,none⟩) (i+m0) c2)=W4 at *
    clear F3 z3 q3 qb3 K3 hg4 q2' qb' K2 F2 hnS h2 ba3;have p0:W4.cell? ⟨w1.heap.size,0,none⟩=some (.int .i64 x.1.at_):=ba4.cell 0;have p1:W4.cell? ⟨w1.heap.size,1,none⟩=some (.slice A x.1.d.length dc):=ba4.cell 1;have hg5:(L.map (·.1)).getD i default=x.1:=xK L i x Hx.out;have hle:x.1.at_<=n:=by
     have:=qck n (L.map (·.1)) i Hr.out
     rwa [hg5] at this
    obtain⟨fn,tmps,assign,body,hy,hRd⟩:=HY.out n _ _ out W4 x.1 A dc _ L wr Hj.out (by rw [List.length_eraseIdx];split <;> omega) hj4 hb4 Hpc.out.1 hle Hpc.out.2.1 Hpc.out.2.2.2;have Hg5:=hI hg5;have HRd:=hI hRd;clear hg5 hle hj4 hb4 hRd;go_upto_region 4 with fail
    refine (wpIn_wide (n:=4)).1 ?_
    gi_wp2
    refine HRd.out.mono ?_;rintro e W5 ⟨rfl,hj5⟩;have Hj5:=hI hj5;clear hj5
    gi_wp2
    go_wp2_with fail
    go_roundw;case rel=>
     obtain⟨hd1,hd2,hd3⟩:=HDD.out;obtain⟨k,hk⟩:∃ k,L.length=k+1:=⟨L.length - 1,zw⟩;have hgo:=qcj k n (L.map (·.1)) i x.1 Hr.out Hg5.out;rw [hk,hgo] at hd1 hd2 hd3;have hle:(L.eraseIdx i).length=k:=(by rw [List.length_eraseIdx];split <;> omega);refine⟨_,_,_,_,Hj5.out,?_⟩;rw [hle,qaz];exact⟨hd1,hd2,by rw [List.append_assoc];exact hd3⟩
    case measure=>
     rw [qja (HR.out _ _ _ _ _ Hj5.out),qja Hs.out,List.length_eraseIdx];split <;> omega
end Go.Proofs.YtmgdbbbdhkfdmaaGreat
namespace Go.Proofs.YtmgdbbbdhkfdmaaGreat
set_option maxRecDepth 100000
open Go.RowKit
def jw(S:Nat->Prop)(w:World)(g:Nat)(kv:Value)(h':Hp)(out:List Int)(err:Int)(e:Ending)(w':World):Prop:=
 ∃ S' kv' A c,e = .returned (.tuple #[.slice A out.length c, .int .i64 err])/\Ext w S S'/\Byt S' w' (.slice A out.length c) out/\HP S' w' g kv' h'/\Fr (g::ob kv) w w'/\(∀ b,kv'.ownBlock=some b->kv.ownBlock=some b\/w.heap.size<=b)
theorem jO{S:Nat->Prop}{w w':World}{g:Nat}{kv:Value}{h:Hp}(m:HP S w g kv h)(f:Fr [] w w')(err:Int):jw S w g kv h [] err (.returned (.tuple #[.slice none 0 0, .int .i64 err])) w':=by
 obtain⟨ev,L,m⟩:=m;exact⟨S,kv,none,0,rfl,Ext.refl _ _,Byt.nil,⟨ev,L,m.fr f zs zs zs⟩,f.mono zs,fun b hb => .inl hb⟩
theorem qkm{S:Nat->Prop}{W:World}{g hb ob':Nat}{kv ev ov:Value}{h:Hp}{L:List (Pc × Value)}{dA:Option Addr}{n dc:Nat}{d:List Int}(m:HPx S W g kv ev h L)(bh:Blk W hb 72 #[ptr g])(bo:Blk W ob' 30 #[ov])(dd:W.ownsRow 0 5 1 (.slice dA n dc) n (kE d)) :
  ∀ W' W2,Fr [] W W'->Fr (ob kv) W' W2->W2.cell? ⟨g,2,none⟩=some kv/\W2.frozen? ⟨g,2,none⟩=false/\W2.cell? ⟨hb,0,none⟩=some (ptr g)/\g<W2.heap.size /\
   (Blk W2 g 115 #[.int .i64 h.most, .int .i64 h.next,kv,ev, .bool true]/\Blk W2 ob' 30 #[ov]/\W2.ownsRow 0 5 1 (.slice dA n dc) n (kE d)/\Fr (ob kv) W W2/\ob'≠g):=by
 intro W' W2 f f2;have F:Fr (ob kv) W W2:=(f.mono zs).trans f2 (fun x hx => .inl hx);have n1:g∉ob kv:=fun hm=>own_ne m.kp.own m.blk zd (qo.1 hm);have n2:hb∉ob kv:=fun hm=>own_ne m.kp.own bh zd (qo.1 hm);have n3:ob'∉ob kv:=fun hm=>own_ne m.kp.own bo zd (qo.1 hm);have B:=m.blk.fr F n1;refine⟨by simpa using B.cell 2,B.frozen 2,(bh.fr F n2).cell 0,B.lt,B,bo.fr F n3,qA dd F (fun b hb' hm=>jR m.kp.own dd zd (qo.1 hm) hb'),F,kP bo m.blk zd⟩
theorem qmm{S:Nat->Prop}{w W:World}{g:Nat}{kv kv' ev:Value}{h:Hp}{L:List (Pc × Value)}{a:Int}{d:List Int}{A:Option Addr}{c:Nat}(m:HPx S w g kv ev h L)
  (hk:W.ownsRow 0 134 2 kv' (L.length+1) (pcs L++[.int .i64 a, .slice A d.length c])) (hd:W.ownsRow 0 5 1 (.slice A d.length c) d.length (kE d)) (hb:Blk W g 115 #[.int .i64 h.most, .int .i64 h.next,kv',ev, .bool true])
  (F:Fr (g::ob kv) w W) (fd:∀ b,(Value.slice A d.length c).ownBlock=some b->w.heap.size<=b) (fk:∀ b,kv'.ownBlock=some b->kv.ownBlock=some b\/w.heap.size<=b) :
  jw S w g kv { h with kept:=h.kept++[⟨a,d⟩] } [] 0 (.returned (.tuple #[.slice none 0 0, .int .i64 0])) W:=by
 have hO:∀ x∈g::ob kv,¬ S x:=by
  intro x hx;rcases List.mem_cons.1 hx with rfl|hx
  ·exact m.offg
  ·exact m.offk x (qo.1 hx)
 have hdat:Byt (fun b=>S b\/(Value.slice A d.length c).ownBlock=some b) W (.slice A d.length c) d:=Sl.kW hd (fun b h => .inr h);refine⟨fun b=>S b\/(Value.slice A d.length c).ownBlock=some b,kv',none,0,rfl,⟨fun b h => .inl h,fun b h=>h.imp id (fd b)⟩,Byt.nil,⟨ev,L++[(⟨a,d⟩, .slice A d.length c)],hb,⟨?_,?_⟩,?_,?_,?_,?_,?_⟩,F,fk⟩
 ·rw [List.length_append,<- yQ]
  exact hk
 ·intro x hx
  rcases List.mem_append.1 hx with hx|hx
  ·exact ((m.kp.byt x hx).fr F hO).mono fun b h => .inl h
  ·rw [List.mem_singleton] at hx
   subst hx;exact hdat
 ·simp [m.kept]
 ·rcases m.fin with h1|⟨fa,fb,h1,h2,h3,h4⟩
  ·exact .inl h1
  ·exact .inr ⟨fa,fb,h1,h2, .inl h3,(F.cell (p:=⟨fb,0,none⟩) (m.pub fb h3) (fun hm=>hO fb hm h3)).trans h4⟩
 ·intro b hb'
  rcases hb' with h1|h1
  ·exact Nat.lt_of_lt_of_le (m.pub b h1) F.size
  ·exact kG hd h1
 ·rintro (h1|h1)
  ·exact m.offg h1
  ·exact own_ne hd hb zd h1
 ·intro b hb' hs
  rcases hs with h1|h1
  ·rcases fk b hb' with h2|h2
   ·exact m.offk b h2 h1
   ·have:=m.pub b h1
    omega
  ·exact jR hk hd zd hb' h1
theorem cut_fr{P:Program}{c:Code}{Q:Exit->Act->World->Prop}{a:Act}{w:World}(F:Option Addr->Nat->Act)(R:Option Addr->Nat->World->Prop)
  (h1:∀ K:Act->World->Prop,(∀ A n wx,R A n wx->K (F A n) wx)->c.wp P (Exit.then K Q) a w) (h2:∀ A n wx,R A n wx->Q .normal (F A n) wx):c.wp P Q a w:=
 wp_mono (h1 (fun a' w'=>Q .normal a' w') h2) fun e a' w' h=>by cases e <;> exact h
def AppRel(W:World)(g:Nat)(ev:Value)(KA:Option Addr)(KC n:Nat)(h:Hp)(xs:List Value)(ob':Nat)(dA:Option Addr)(dc:Nat)(d:List Int)(KA':Option Addr)(KC':Nat)(wx:World):Prop:=
 ∃ W8,wx=W8.setCell ⟨g,2,none⟩ (.slice KA' (n+1) KC')/\W8.ownsRow 0 134 2 (.slice KA' (n+1) KC') (n+1) xs/\Blk W8 g 115 #[.int .i64 h.most, .int .i64 h.next, .slice KA n KC,ev, .bool true] /\
  Blk W8 ob' 30 #[.slice none 0 0]/\W8.ownsRow 0 5 1 (.slice dA d.length dc) d.length (kE d)/\Fr (ob (.slice KA n KC)) W W8/\∀ b,(Value.slice KA' (n+1) KC').ownBlock=some b->(Value.slice KA n KC).ownBlock=some b\/(W.heap.size<=b/\b<W8.heap.size)
set_option maxRecDepth 100000 in
theorem qmn{S:Nat->Prop}{w:World}{g:Nat}{kv:Value}{h:Hp}(m:HP S w g kv h)(a:Int)(dv:Value)(d:List Int)(T:Nat->Prop)(hd:Byt T w dv d)(hl:d.length<=1000000)(h0:a<0) :
  Calls Tryz.prog 117 #[ptr g, .int .i64 a,dv] w (jw S w g kv h [] 2):=by
 have M:=hI m;obtain⟨ev,L,m⟩:=m;obtain⟨A,c,rfl,hn,hcm⟩:=hd.form;have c4:=m.cells.2.2.2.2;have hg:=m.blk.lt;have hcl:∀ W,Fr [] w W->Calls Tryz.prog 40 #[.slice A d.length c] W _:=fun W f=>kZ W (hd.fr f zs) hl;have Hcl:=hI hcl;have f0:Fr [] w ((w.alloc (.cells #[ptr g] 72)).alloc (.cells #[.slice none 0 0] 30)):=((Fr.refl _ _).alloc _).alloc _;have bo:=Blk.new (w.alloc (.cells #[ptr g] 72)) 30 #[.slice none 0 0];have bh:=(Blk.new w 72 #[ptr g]).alloc (.cells #[.slice none 0 0] 30);have BO:=hI bo;have BH:=hI bh;have M0:=hI m;clear hcl m hd bo bh;go_enter Tryz.func117,Tryz.ntmps117;go_wp2_with fail
 refine qP 0 rfl ?_;go_wp2_with fail
 refine (Hcl.out _ f0).mono ?_;rintro e w1 ⟨A1,c1,rfl,own1,f1,fb1⟩;have F1:Fr [] w w1:=f0.trans f1 zs;have b4:=ql F1 c4;have bh1:=BH.out.fr f1 zs;have bo1:Blk w1 (w.heap.size+1) 30 #[.slice none 0 0]:=by simpa using BO.out.fr f1 zs
 have bh0:w1.cell? ⟨w.heap.size,0,none⟩=some (ptr g):=bh1.cell 0;have bo0:w1.cell? ⟨w.heap.size+1,0,none⟩=some (.slice none 0 0):=by simpa using bo1.cell 0
 have bof:w1.frozen? ⟨w.heap.size+1,0,none⟩=false:=by simpa using bo1.frozen 0
 have sz1:w.heap.size+1<w1.heap.size:=by have:=f1.size;simp at this;omega
 have sz2:w.heap.size<w1.heap.size:=zw;have hg1:g<w1.heap.size:=zw;have HF1:=hI F1;have HO1:=hI own1;have HB1:=hI fb1;have Bh1:=hI bh1;have Bo1:=hI bo1;clear f0 f1 F1 own1 fb1 c4 bh1 bo1;go_wp2_with (go_at_call 86;refine (jb ?_).mono ?_;(first|exact b4|exact kH b4 _|assumption);rintro e w' ⟨rfl,rfl⟩)
 apply wp_goto;refine ja _ _ ?_;go_wp2
 rw [Exit.noGoto_ret];have hF:Fr [] w ((w1.setCell ⟨w.heap.size+1,0,none⟩ (.slice none 0 0)).alloc (bxp a (.slice A1 d.length c1))):=(HF1.out.setCell (p:=⟨w.heap.size+1,0,none⟩) (.inr zs) (.slice none 0 0)).alloc (bxp a (.slice A1 d.length c1));have hB:=(Bo1.out.qO 0 (.slice none 0 0)).alloc (bxp a (.slice A1 d.length c1));have hres:World.cell? ((w1.setCell ⟨w.heap.size+1,0,none⟩ (.slice none 0 0)).alloc (bxp a (.slice A1 d.length c1))) ⟨w.heap.size+1,0,none⟩=some (.slice none 0 0):=(hB.cell 0).trans zs;clear hB;generalize (w1.setCell ⟨w.heap.size+1,0,none⟩ (.slice none 0 0)).alloc (bxp a (.slice A1 d.length c1))=Wf at *
 refine bodyPost_ret (v := .tuple #[.slice none 0 0, .int .i64 2]) (by simp [results,Tryz.results117,go_sem,hres]) rfl ?_;exact jO M.out hF _
set_option maxRecDepth 100000 in
theorem qmo{S:Nat->Prop}{w:World}{g:Nat}{kv:Value}{h:Hp}(m:HP S w g kv h)(a:Int)(dv:Value)(d:List Int)(T:Nat->Prop)(hd:Byt T w dv d)(hl:d.length<=1000000)(h0:4611686018427387904<a) :
  Calls Tryz.prog 117 #[ptr g, .int .i64 a,dv] w (jw S w g kv h [] 2):=by
 have M:=hI m;obtain⟨ev,L,m⟩:=m;obtain⟨A,c,rfl,hn,hcm⟩:=hd.form;have c4:=m.cells.2.2.2.2;have hg:=m.blk.lt;have hcl:∀ W,Fr [] w W->Calls Tryz.prog 40 #[.slice A d.length c] W _:=fun W f=>kZ W (hd.fr f zs) hl;have Hcl:=hI hcl;have f0:Fr [] w ((w.alloc (.cells #[ptr g] 72)).alloc (.cells #[.slice none 0 0] 30)):=((Fr.refl _ _).alloc _).alloc _;have bo:=Blk.new (w.alloc (.cells #[ptr g] 72)) 30 #[.slice none 0 0];have bh:=(Blk.new w 72 #[ptr g]).alloc (.cells #[.slice none 0 0] 30);have BO:=hI bo;have BH:=hI bh;have M0:=hI m;clear hcl m hd bo bh;go_enter Tryz.func117,Tryz.ntmps117;go_wp2_with fail
 refine qP 0 rfl ?_;go_wp2_with fail
 refine (Hcl.out _ f0).mono ?_;rintro e w1 ⟨A1,c1,rfl,own1,f1,fb1⟩;have F1:Fr [] w w1:=f0.trans f1 zs;have b4:=ql F1 c4;have bh1:=BH.out.fr f1 zs;have bo1:Blk w1 (w.heap.size+1) 30 #[.slice none 0 0]:=by simpa using BO.out.fr f1 zs
 have bh0:w1.cell? ⟨w.heap.size,0,none⟩=some (ptr g):=bh1.cell 0;have bo0:w1.cell? ⟨w.heap.size+1,0,none⟩=some (.slice none 0 0):=by simpa using bo1.cell 0
 have bof:w1.frozen? ⟨w.heap.size+1,0,none⟩=false:=by simpa using bo1.frozen 0
 have sz1:w.heap.size+1<w1.heap.size:=by have:=f1.size;simp at this;omega
 have sz2:w.heap.size<w1.heap.size:=zw;have hg1:g<w1.heap.size:=zw;have HF1:=hI F1;have HO1:=hI own1;have HB1:=hI fb1;have Bh1:=hI bh1;have Bo1:=hI bo1;clear f0 f1 F1 own1 fb1 c4 bh1 bo1;go_wp2_with (go_at_call 86;refine (jb ?_).mono ?_;(first|exact b4|exact kH b4 _|assumption);rintro e w' ⟨rfl,rfl⟩)
 apply wp_goto;refine ja _ _ ?_;go_wp2
 rw [Exit.noGoto_ret];have hF:Fr [] w ((w1.setCell ⟨w.heap.size+1,0,none⟩ (.slice none 0 0)).alloc (bxp a (.slice A1 d.length c1))):=(HF1.out.setCell (p:=⟨w.heap.size+1,0,none⟩) (.inr zs) (.slice none 0 0)).alloc (bxp a (.slice A1 d.length c1));have hB:=(Bo1.out.qO 0 (.slice none 0 0)).alloc (bxp a (.slice A1 d.length c1));have hres:World.cell? ((w1.setCell ⟨w.heap.size+1,0,none⟩ (.slice none 0 0)).alloc (bxp a (.slice A1 d.length c1))) ⟨w.heap.size+1,0,none⟩=some (.slice none 0 0):=(hB.cell 0).trans zs;clear hB;generalize (w1.setCell ⟨w.heap.size+1,0,none⟩ (.slice none 0 0)).alloc (bxp a (.slice A1 d.length c1))=Wf at *
 refine bodyPost_ret (v := .tuple #[.slice none 0 0, .int .i64 2]) (by simp [results,Tryz.results117,go_sem,hres]) rfl ?_;exact jO M.out hF _
set_option maxRecDepth 100000 in
theorem qmp{S:Nat->Prop}{w:World}{g:Nat}{kv:Value}{h:Hp}(m:HP S w g kv h)(a:Int)(dv:Value)(d:List Int)(T:Nat->Prop)(hd:Byt T w dv d)(hl:d.length<=1000000)(h0:0<=a)(h1:a<=4611686018427387904)(h2:d.length<1) :
  Calls Tryz.prog 117 #[ptr g, .int .i64 a,dv] w (jw S w g kv h [] 2):=by
 have M:=hI m;obtain⟨ev,L,m⟩:=m;obtain⟨A,c,rfl,hn,hcm⟩:=hd.form;have c4:=m.cells.2.2.2.2;have hg:=m.blk.lt;have hcl:∀ W,Fr [] w W->Calls Tryz.prog 40 #[.slice A d.length c] W _:=fun W f=>kZ W (hd.fr f zs) hl;have Hcl:=hI hcl;have f0:Fr [] w ((w.alloc (.cells #[ptr g] 72)).alloc (.cells #[.slice none 0 0] 30)):=((Fr.refl _ _).alloc _).alloc _;have bo:=Blk.new (w.alloc (.cells #[ptr g] 72)) 30 #[.slice none 0 0];have bh:=(Blk.new w 72 #[ptr g]).alloc (.cells #[.slice none 0 0] 30);have BO:=hI bo;have BH:=hI bh;have M0:=hI m;clear hcl m hd bo bh;go_enter Tryz.func117,Tryz.ntmps117;go_wp2_with fail
 refine qP 0 rfl ?_;go_wp2_with fail
 refine (Hcl.out _ f0).mono ?_;rintro e w1 ⟨A1,c1,rfl,own1,f1,fb1⟩;have F1:Fr [] w w1:=f0.trans f1 zs;have b4:=ql F1 c4;have bh1:=BH.out.fr f1 zs;have bo1:Blk w1 (w.heap.size+1) 30 #[.slice none 0 0]:=by simpa using BO.out.fr f1 zs
 have bh0:w1.cell? ⟨w.heap.size,0,none⟩=some (ptr g):=bh1.cell 0;have bo0:w1.cell? ⟨w.heap.size+1,0,none⟩=some (.slice none 0 0):=by simpa using bo1.cell 0
 have bof:w1.frozen? ⟨w.heap.size+1,0,none⟩=false:=by simpa using bo1.frozen 0
 have sz1:w.heap.size+1<w1.heap.size:=by have:=f1.size;simp at this;omega
 have sz2:w.heap.size<w1.heap.size:=zw;have hg1:g<w1.heap.size:=zw;have HF1:=hI F1;have HO1:=hI own1;have HB1:=hI fb1;have Bh1:=hI bh1;have Bo1:=hI bo1;clear f0 f1 F1 own1 fb1 c4 bh1 bo1;go_wp2_with (go_at_call 86;refine (jb ?_).mono ?_;(first|exact b4|exact kH b4 _|assumption);rintro e w' ⟨rfl,rfl⟩)
 apply wp_goto;refine ja _ _ ?_;go_wp2
 rw [Exit.noGoto_ret];have hF:Fr [] w ((w1.setCell ⟨w.heap.size+1,0,none⟩ (.slice none 0 0)).alloc (bxp a (.slice A1 d.length c1))):=(HF1.out.setCell (p:=⟨w.heap.size+1,0,none⟩) (.inr zs) (.slice none 0 0)).alloc (bxp a (.slice A1 d.length c1));have hB:=(Bo1.out.qO 0 (.slice none 0 0)).alloc (bxp a (.slice A1 d.length c1));have hres:World.cell? ((w1.setCell ⟨w.heap.size+1,0,none⟩ (.slice none 0 0)).alloc (bxp a (.slice A1 d.length c1))) ⟨w.heap.size+1,0,none⟩=some (.slice none 0 0):=(hB.cell 0).trans zs;clear hB;generalize (w1.setCell ⟨w.heap.size+1,0,none⟩ (.slice none 0 0)).alloc (bxp a (.slice A1 d.length c1))=Wf at *
 refine bodyPost_ret (v := .tuple #[.slice none 0 0, .int .i64 2]) (by simp [results,Tryz.results117,go_sem,hres]) rfl ?_;exact jO M.out hF _
set_option maxRecDepth 100000 in
theorem qmq{S:Nat->Prop}{w:World}{g:Nat}{kv:Value}{h:Hp}(m:HP S w g kv h)(a:Int)(dv:Value)(d:List Int)(T:Nat->Prop)(hd:Byt T w dv d)(hl:d.length<=1000000)(h0:0<=a)(h1:a<=4611686018427387904)(h2:1<=d.length)(h3:64<d.length) :
  Calls Tryz.prog 117 #[ptr g, .int .i64 a,dv] w (jw S w g kv h [] 2):=by
 have M:=hI m;obtain⟨ev,L,m⟩:=m;obtain⟨A,c,rfl,hn,hcm⟩:=hd.form;have c4:=m.cells.2.2.2.2;have hg:=m.blk.lt;have hcl:∀ W,Fr [] w W->Calls Tryz.prog 40 #[.slice A d.length c] W _:=fun W f=>kZ W (hd.fr f zs) hl;have Hcl:=hI hcl;have f0:Fr [] w ((w.alloc (.cells #[ptr g] 72)).alloc (.cells #[.slice none 0 0] 30)):=((Fr.refl _ _).alloc _).alloc _;have bo:=Blk.new (w.alloc (.cells #[ptr g] 72)) 30 #[.slice none 0 0];have bh:=(Blk.new w 72 #[ptr g]).alloc (.cells #[.slice none 0 0] 30);have BO:=hI bo;have BH:=hI bh;have M0:=hI m;clear hcl m hd bo bh;go_enter Tryz.func117,Tryz.ntmps117;go_wp2_with fail
 refine qP 0 rfl ?_;go_wp2_with fail
 refine (Hcl.out _ f0).mono ?_;rintro e w1 ⟨A1,c1,rfl,own1,f1,fb1⟩;have F1:Fr [] w w1:=f0.trans f1 zs;have b4:=ql F1 c4;have bh1:=BH.out.fr f1 zs;have bo1:Blk w1 (w.heap.size+1) 30 #[.slice none 0 0]:=by simpa using BO.out.fr f1 zs
 have bh0:w1.cell? ⟨w.heap.size,0,none⟩=some (ptr g):=bh1.cell 0;have bo0:w1.cell? ⟨w.heap.size+1,0,none⟩=some (.slice none 0 0):=by simpa using bo1.cell 0
 have bof:w1.frozen? ⟨w.heap.size+1,0,none⟩=false:=by simpa using bo1.frozen 0
 have sz1:w.heap.size+1<w1.heap.size:=by have:=f1.size;simp at this;omega
 have sz2:w.heap.size<w1.heap.size:=zw;have hg1:g<w1.heap.size:=zw;have HF1:=hI F1;have HO1:=hI own1;have HB1:=hI fb1;have Bh1:=hI bh1;have Bo1:=hI bo1;clear f0 f1 F1 own1 fb1 c4 bh1 bo1;go_wp2_with (go_at_call 86;refine (jb ?_).mono ?_;(first|exact b4|exact kH b4 _|assumption);rintro e w' ⟨rfl,rfl⟩)
 apply wp_goto;refine ja _ _ ?_;go_wp2
 rw [Exit.noGoto_ret];have hF:Fr [] w ((w1.setCell ⟨w.heap.size+1,0,none⟩ (.slice none 0 0)).alloc (bxp a (.slice A1 d.length c1))):=(HF1.out.setCell (p:=⟨w.heap.size+1,0,none⟩) (.inr zs) (.slice none 0 0)).alloc (bxp a (.slice A1 d.length c1));have hB:=(Bo1.out.qO 0 (.slice none 0 0)).alloc (bxp a (.slice A1 d.length c1));have hres:World.cell? ((w1.setCell ⟨w.heap.size+1,0,none⟩ (.slice none 0 0)).alloc (bxp a (.slice A1 d.length c1))) ⟨w.heap.size+1,0,none⟩=some (.slice none 0 0):=(hB.cell 0).trans zs;clear hB;generalize (w1.setCell ⟨w.heap.size+1,0,none⟩ (.slice none 0 0)).alloc (bxp a (.slice A1 d.length c1))=Wf at *
 refine bodyPost_ret (v := .tuple #[.slice none 0 0, .int .i64 2]) (by simp [results,Tryz.results117,go_sem,hres]) rfl ?_;exact jO M.out hF _
end Go.Proofs.YtmgdbbbdhkfdmaaGreat
namespace Go.Proofs.YtmgdbbbdhkfdmaaGreat
set_option maxRecDepth 100000
open Go.RowKit Go.Deep Go.Shelf
set_option maxRecDepth 100000 in
theorem qmr{S:Nat->Prop}{w:World}{g:Nat}{kv:Value}{h:Hp}(m:HP S w g kv h)(a:Int)(dv:Value)(d:List Int)(T:Nat->Prop)(hd:Byt T w dv d)(hl:d.length<=1000000)(h0:0<=a)(h1:a<=4611686018427387904)(h2:1<=d.length)(h3:d.length<=64)(h4:past h.fin (a+d.length)=true) :
  Calls Tryz.prog 117 #[ptr g, .int .i64 a,dv] w (jw S w g kv h [] 250):=by
 have M:=hI m;obtain⟨ev,L,m⟩:=m;obtain⟨A,c,rfl,hn,hcm⟩:=hd.form;have c4:=m.cells.2.2.2.2;have hg:=m.blk.lt;have hcl:∀ W,Fr [] w W->Calls Tryz.prog 40 #[.slice A d.length c] W _:=fun W f=>kZ W (hd.fr f zs) hl;have Hcl:=hI hcl;have f0:Fr [] w ((w.alloc (.cells #[ptr g] 72)).alloc (.cells #[.slice none 0 0] 30)):=((Fr.refl _ _).alloc _).alloc _;have bo:=Blk.new (w.alloc (.cells #[ptr g] 72)) 30 #[.slice none 0 0];have bh:=(Blk.new w 72 #[ptr g]).alloc (.cells #[.slice none 0 0] 30);have BO:=hI bo;have BH:=hI bh;have M0:=hI m;clear hcl m hd bo bh;have HP:=hI h4;clear h4;go_enter Tryz.func117,Tryz.ntmps117;go_wp2_with fail
 refine qP 0 rfl ?_;go_wp2_with fail
 refine (Hcl.out _ f0).mono ?_;rintro e w1 ⟨A1,c1,rfl,own1,f1,fb1⟩;have F1:Fr [] w w1:=f0.trans f1 zs;have b4:=ql F1 c4;have bh1:=BH.out.fr f1 zs;have bo1:Blk w1 (w.heap.size+1) 30 #[.slice none 0 0]:=by simpa using BO.out.fr f1 zs
 have bh0:w1.cell? ⟨w.heap.size,0,none⟩=some (ptr g):=bh1.cell 0;have bo0:w1.cell? ⟨w.heap.size+1,0,none⟩=some (.slice none 0 0):=by simpa using bo1.cell 0
 have bof:w1.frozen? ⟨w.heap.size+1,0,none⟩=false:=by simpa using bo1.frozen 0
 have sz1:w.heap.size+1<w1.heap.size:=by have:=f1.size;simp at this;omega
 have sz2:w.heap.size<w1.heap.size:=zw;have hg1:g<w1.heap.size:=zw;have HF1:=hI F1;have HO1:=hI own1;have HB1:=hI fb1;have Bh1:=hI bh1;have Bo1:=hI bo1;clear f0 f1 F1 own1 fb1 c4 bh1 bo1;go_upto_region 7 with (go_at_call 86;refine (jb ?_).mono ?_;(first|exact b4|exact kH b4 _|assumption);rintro e w' ⟨rfl,rfl⟩)
 have fp:Fr [] w1 (w1.alloc (bxp a (.slice A1 d.length c1))):=(Fr.refl _ _).alloc _;have pb:=Blk.new w1 134 #[.int .i64 a, .slice A1 d.length c1];have szp:w1.heap.size<(w1.alloc (bxp a (.slice A1 d.length c1))).heap.size:=zs;generalize w1.alloc (bxp a (.slice A1 d.length c1))=W1 at *
 have FP:=hI fp;have PB:=hI pb;clear fp pb bh0 bo0 bof b4 hn;go_cut [47] (fun s47 wx=>s47 = .bool (past h.fin (a+d.length))/\Fr [] W1 wx);case first=>
  have qh:=ql FP.out (show w1.cell? ⟨w.heap.size,0,none⟩=some (ptr g) from Bh1.out.cell 0);have q3:=ql (HF1.out.trans FP.out zs) M0.out.cells.2.2.2.1;have p0:=PB.out.cell 0;have p1:=PB.out.cell 1;have x0:=Grew.cell qh;have x1:=Grew.cell q3;have x2:=Grew.cell p0;have x3:=Grew.cell p1;have hbeh:∀ p:Grew W1,Calls Tryz.prog 127 #[agp a (.slice A1 d.length c1)] p.W fun e w''=>e = .returned (.int .i64 (a+d.length))/\∃ q:Grew W1,w''=q.W:=fun p=>qG (zW a A1 d.length c1 _ h0 zw zw);have HBH:=hI hbeh;have hfin:=M0.out.fin;clear qh q3 p0 p1 hbeh;rcases hfin with ⟨e1,rfl⟩|⟨fa,fb,e1,rfl,e3,e4⟩
  ·have e5:past h.fin (a+d.length)=false:=by unfold past;rw [e1]
   have E5:=hI e5;clear e1 e5;refine qg zk zk ?_;repeat (go_big_quiet_step ((go_at_call 127;exact HBH.out _)))
   refine wpQuiet_nil ?_;intro W2 f2;go_wp2_with fail
   go_meet;exact⟨by rw [E5.out],f2⟩
  ·have e5:past h.fin (a+d.length)=decide (fa<a+d.length):=by unfold past;rw [e1]
   have E5:=hI e5;have x4:=Grew.cell (ql (HF1.out.trans FP.out zs) e4);clear e1 e5 e4;refine qg zk zk ?_;repeat (go_big_quiet_step ((go_at_call 127;exact HBH.out _)))
   refine wpQuiet_nil ?_;intro W2 f2;go_wp2_with fail
   go_meet;exact⟨by rw [E5.out],f2⟩
 case rest=>
  obtain⟨rfl,f2⟩:=hcut;generalize wc=W2 at *
  have F2:=hI ((HF1.out.trans FP.out zs).trans f2 zs);have Bh2:=hI (Bh1.out.fr (FP.out.trans f2 zs) zs);have Bo2:=hI (Bo1.out.fr (FP.out.trans f2 zs) zs);have Pb2:=hI (PB.out.fr f2 zs);have M2:=hI (M0.out.fr F2.out zs zs zs);have D2:=hI (qA HO1.out (FP.out.trans f2 zs) zs);clear f2;have xbh:W2.cell? ⟨w.heap.size,0,none⟩=some (ptr g):=Bh2.out.cell 0;have xbo:W2.cell? ⟨w.heap.size+1,0,none⟩=some (.slice none 0 0):=Bo2.out.cell 0;have xbof:=Bo2.out.frozen 0;have xp0:W2.cell? ⟨w1.heap.size,0,none⟩=some (.int .i64 a):=Pb2.out.cell 0;have xp1:W2.cell? ⟨w1.heap.size,1,none⟩=some (.slice A1 d.length c1):=Pb2.out.cell 1;obtain⟨xc0,xc1,xc2,xc3,xc4⟩:=M2.out.cells;have xsp:=Pb2.out.lt;have xsh:=Bh2.out.lt;have xso:=Bo2.out.lt;have xsg:=M2.out.blk.lt;rw [HP.out];go_wp2_with fail
  apply wp_goto;refine ja _ _ ?_;go_wp2
  rw [Exit.noGoto_ret];have hF:Fr [] w (W2.setCell ⟨w.heap.size+1,0,none⟩ (.slice none 0 0)):=F2.out.setCell (p:=⟨w.heap.size+1,0,none⟩) (.inr zs) (.slice none 0 0);have hB:=Bo2.out.qO 0 (.slice none 0 0);have hres:World.cell? (W2.setCell ⟨w.heap.size+1,0,none⟩ (.slice none 0 0)) ⟨w.heap.size+1,0,none⟩=some (.slice none 0 0):=(hB.cell 0).trans zs;clear hB;generalize W2.setCell ⟨w.heap.size+1,0,none⟩ (.slice none 0 0)=Wf at *
  refine bodyPost_ret (v := .tuple #[.slice none 0 0, .int .i64 250]) (by simp [results,Tryz.results117,go_sem,hres]) rfl ?_;exact jO M.out hF _
end Go.Proofs.YtmgdbbbdhkfdmaaGreat
namespace Go.Proofs.YtmgdbbbdhkfdmaaGreat
set_option maxRecDepth 100000
open Go.RowKit Go.Deep Go.Shelf
set_option maxRecDepth 100000 in
theorem put_low{S:Nat->Prop}{w:World}{g:Nat}{kv:Value}{h:Hp}(m:HP S w g kv h)(a:Int)(dv:Value)(d:List Int)(T:Nat->Prop)(hd:Byt T w dv d)(hl:d.length<=1000000)(h0:0<=a)(h1:a<=4611686018427387904)(h2:1<=d.length)(h3:d.length<=64)(h4:past h.fin (a+d.length)=false)(h5:a+d.length<=h.next) :
  Calls Tryz.prog 117 #[ptr g, .int .i64 a,dv] w (jw S w g kv h [] 0):=by
 have M:=hI m;obtain⟨ev,L,m⟩:=m;obtain⟨A,c,rfl,hn,hcm⟩:=hd.form;have c4:=m.cells.2.2.2.2;have hg:=m.blk.lt;have hcl:∀ W,Fr [] w W->Calls Tryz.prog 40 #[.slice A d.length c] W _:=fun W f=>kZ W (hd.fr f zs) hl;have Hcl:=hI hcl;have f0:Fr [] w ((w.alloc (.cells #[ptr g] 72)).alloc (.cells #[.slice none 0 0] 30)):=((Fr.refl _ _).alloc _).alloc _;have bo:=Blk.new (w.alloc (.cells #[ptr g] 72)) 30 #[.slice none 0 0];have bh:=(Blk.new w 72 #[ptr g]).alloc (.cells #[.slice none 0 0] 30);have BO:=hI bo;have BH:=hI bh;have M0:=hI m;clear hcl m hd bo bh;have HP:=hI h4;have h6:a<h.next:=zw;clear h4;go_enter Tryz.func117,Tryz.ntmps117;go_wp2_with fail
 refine qP 0 rfl ?_;go_wp2_with fail
 refine (Hcl.out _ f0).mono ?_;rintro e w1 ⟨A1,c1,rfl,own1,f1,fb1⟩;have F1:Fr [] w w1:=f0.trans f1 zs;have b4:=ql F1 c4;have bh1:=BH.out.fr f1 zs;have bo1:Blk w1 (w.heap.size+1) 30 #[.slice none 0 0]:=by simpa using BO.out.fr f1 zs
 have bh0:w1.cell? ⟨w.heap.size,0,none⟩=some (ptr g):=bh1.cell 0;have bo0:w1.cell? ⟨w.heap.size+1,0,none⟩=some (.slice none 0 0):=by simpa using bo1.cell 0
 have bof:w1.frozen? ⟨w.heap.size+1,0,none⟩=false:=by simpa using bo1.frozen 0
 have sz1:w.heap.size+1<w1.heap.size:=by have:=f1.size;simp at this;omega
 have sz2:w.heap.size<w1.heap.size:=zw;have hg1:g<w1.heap.size:=zw;have HF1:=hI F1;have HO1:=hI own1;have HB1:=hI fb1;have Bh1:=hI bh1;have Bo1:=hI bo1;clear f0 f1 F1 own1 fb1 c4 bh1 bo1;go_upto_region 7 with (go_at_call 86;refine (jb ?_).mono ?_;(first|exact b4|exact kH b4 _|assumption);rintro e w' ⟨rfl,rfl⟩)
 have fp:Fr [] w1 (w1.alloc (bxp a (.slice A1 d.length c1))):=(Fr.refl _ _).alloc _;have pb:=Blk.new w1 134 #[.int .i64 a, .slice A1 d.length c1];have szp:w1.heap.size<(w1.alloc (bxp a (.slice A1 d.length c1))).heap.size:=zs;generalize w1.alloc (bxp a (.slice A1 d.length c1))=W1 at *
 have FP:=hI fp;have PB:=hI pb;clear fp pb bh0 bo0 bof b4 hn;go_cut [47] (fun s47 wx=>s47 = .bool (past h.fin (a+d.length))/\Fr [] W1 wx);case first=>
  have qh:=ql FP.out (show w1.cell? ⟨w.heap.size,0,none⟩=some (ptr g) from Bh1.out.cell 0);have q3:=ql (HF1.out.trans FP.out zs) M0.out.cells.2.2.2.1;have p0:=PB.out.cell 0;have p1:=PB.out.cell 1;have x0:=Grew.cell qh;have x1:=Grew.cell q3;have x2:=Grew.cell p0;have x3:=Grew.cell p1;have hbeh:∀ p:Grew W1,Calls Tryz.prog 127 #[agp a (.slice A1 d.length c1)] p.W fun e w''=>e = .returned (.int .i64 (a+d.length))/\∃ q:Grew W1,w''=q.W:=fun p=>qG (zW a A1 d.length c1 _ h0 zw zw);have HBH:=hI hbeh;have hfin:=M0.out.fin;clear qh q3 p0 p1 hbeh;rcases hfin with ⟨e1,rfl⟩|⟨fa,fb,e1,rfl,e3,e4⟩
  ·have e5:past h.fin (a+d.length)=false:=by unfold past;rw [e1]
   have E5:=hI e5;clear e1 e5;refine qg zk zk ?_;repeat (go_big_quiet_step ((go_at_call 127;exact HBH.out _)))
   refine wpQuiet_nil ?_;intro W2 f2;go_wp2_with fail
   go_meet;exact⟨by rw [E5.out],f2⟩
  ·have e5:past h.fin (a+d.length)=decide (fa<a+d.length):=by unfold past;rw [e1]
   have E5:=hI e5;have x4:=Grew.cell (ql (HF1.out.trans FP.out zs) e4);clear e1 e5 e4;refine qg zk zk ?_;repeat (go_big_quiet_step ((go_at_call 127;exact HBH.out _)))
   refine wpQuiet_nil ?_;intro W2 f2;go_wp2_with fail
   go_meet;exact⟨by rw [E5.out],f2⟩
 case rest=>
  obtain⟨rfl,f2⟩:=hcut;generalize wc=W2 at *
  have F2:=hI ((HF1.out.trans FP.out zs).trans f2 zs);have Bh2:=hI (Bh1.out.fr (FP.out.trans f2 zs) zs);have Bo2:=hI (Bo1.out.fr (FP.out.trans f2 zs) zs);have Pb2:=hI (PB.out.fr f2 zs);have M2:=hI (M0.out.fr F2.out zs zs zs);have D2:=hI (qA HO1.out (FP.out.trans f2 zs) zs);clear f2;have xbh:W2.cell? ⟨w.heap.size,0,none⟩=some (ptr g):=Bh2.out.cell 0;have xbo:W2.cell? ⟨w.heap.size+1,0,none⟩=some (.slice none 0 0):=Bo2.out.cell 0;have xbof:=Bo2.out.frozen 0;have xp0:W2.cell? ⟨w1.heap.size,0,none⟩=some (.int .i64 a):=Pb2.out.cell 0;have xp1:W2.cell? ⟨w1.heap.size,1,none⟩=some (.slice A1 d.length c1):=Pb2.out.cell 1;obtain⟨xc0,xc1,xc2,xc3,xc4⟩:=M2.out.cells;have xsp:=Pb2.out.lt;have xsh:=Bh2.out.lt;have xso:=Bo2.out.lt;have xsg:=M2.out.blk.lt;rw [HP.out];go_upto_region 8 with fail
  have y0:=Grew.cell xbh;have y1:=Grew.cell xc1;have y2:=Grew.cell xp0;have y3:=Grew.cell xp1;have y4:=Grew.cell xc0;have y5:=Grew.cell xc2;have hbeh:∀ p:Grew W2,Calls Tryz.prog 127 #[agp a (.slice A1 d.length c1)] p.W fun e w''=>e = .returned (.int .i64 (a+d.length))/\∃ q:Grew W2,w''=q.W:=fun p=>qG (zW a A1 d.length c1 _ h0 zw zw);have HBH:=hI hbeh;clear hbeh;refine qg zk zk ?_;repeat (go_big_quiet_step ((go_at_call 127;exact HBH.out _)))
  refine wpQuiet_nil ?_;intro W3 f3;have F3:=hI (F2.out.trans f3 zs);have Bh3:=hI (Bh2.out.fr f3 zs);have Bo3:=hI (Bo2.out.fr f3 zs);have Pb3:=hI (Pb2.out.fr f3 zs);have M3:=hI (M2.out.fr f3 zs zs zs);have D3:=hI (qA D2.out f3 zs);clear y0 y1 y2 y3 y4 y5 xbh xbo xbof xp0 xp1 xc0 xc1 xc2 xc3 xc4 xsp xsh xso xsg f3;have xbh:W3.cell? ⟨w.heap.size,0,none⟩=some (ptr g):=Bh3.out.cell 0;have xbo:W3.cell? ⟨w.heap.size+1,0,none⟩=some (.slice none 0 0):=Bo3.out.cell 0;have xbof:=Bo3.out.frozen 0;have xp0:W3.cell? ⟨w1.heap.size,0,none⟩=some (.int .i64 a):=Pb3.out.cell 0;have xp1:W3.cell? ⟨w1.heap.size,1,none⟩=some (.slice A1 d.length c1):=Pb3.out.cell 1;obtain⟨xc0,xc1,xc2,xc3,xc4⟩:=M3.out.cells;have xsp:=Pb3.out.lt;have xsh:=Bh3.out.lt;have xso:=Bo3.out.lt;have xsg:=M3.out.blk.lt;go_wp2_with fail
  have y0:=Grew.cell xbh;have y1:=Grew.cell xc1;have y2:=Grew.cell xp0;have y3:=Grew.cell xp1;have y4:=Grew.cell xc0;have y5:=Grew.cell xc2;refine qg zk zk ?_;repeat (go_big_quiet_step (fail))
  refine wpQuiet_nil ?_;intro W4 f4;have F4:=hI (F3.out.trans f4 zs);have Bh4:=hI (Bh3.out.fr f4 zs);have Bo4:=hI (Bo3.out.fr f4 zs);have Pb4:=hI (Pb3.out.fr f4 zs);have M4:=hI (M3.out.fr f4 zs zs zs);have D4:=hI (qA D3.out f4 zs);clear y0 y1 y2 y3 y4 y5 xbh xbo xbof xp0 xp1 xc0 xc1 xc2 xc3 xc4 xsp xsh xso xsg f4;have xbh:W4.cell? ⟨w.heap.size,0,none⟩=some (ptr g):=Bh4.out.cell 0;have xbo:W4.cell? ⟨w.heap.size+1,0,none⟩=some (.slice none 0 0):=Bo4.out.cell 0;have xbof:=Bo4.out.frozen 0;have xp0:W4.cell? ⟨w1.heap.size,0,none⟩=some (.int .i64 a):=Pb4.out.cell 0;have xp1:W4.cell? ⟨w1.heap.size,1,none⟩=some (.slice A1 d.length c1):=Pb4.out.cell 1;obtain⟨xc0,xc1,xc2,xc3,xc4⟩:=M4.out.cells;have xsp:=Pb4.out.lt;have xsh:=Bh4.out.lt;have xso:=Bo4.out.lt;have xsg:=M4.out.blk.lt;go_wp2_with fail
  have hF:Fr [] w (W4.setCell ⟨w.heap.size+1,0,none⟩ (.slice none 0 0)):=F4.out.setCell (p:=⟨w.heap.size+1,0,none⟩) (.inr zs) (.slice none 0 0);have hB:=Bo4.out.qO 0 (.slice none 0 0);have hres:World.cell? (W4.setCell ⟨w.heap.size+1,0,none⟩ (.slice none 0 0)) ⟨w.heap.size+1,0,none⟩=some (.slice none 0 0):=(hB.cell 0).trans zs;clear hB;generalize W4.setCell ⟨w.heap.size+1,0,none⟩ (.slice none 0 0)=Wf at *
  refine bodyPost_ret (v := .tuple #[.slice none 0 0, .int .i64 0]) (by simp [results,Tryz.results117,go_sem,hres]) rfl ?_;exact jO M.out hF _
end Go.Proofs.YtmgdbbbdhkfdmaaGreat
