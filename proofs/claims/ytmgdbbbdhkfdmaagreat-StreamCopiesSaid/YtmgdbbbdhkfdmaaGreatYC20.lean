import Derived.Test.YtmgdbbbdhkfdmaaGreatYC19
import Derived.Deep.DeepCutAuto
import Derived.Test.YtmgdbbbdhkfdmaaGreatYC2
import Derived.Test.YtmgdbbbdhkfdmaaGreatYC3
import Derived.Test.YtmgdbbbdhkfdmaaGreatYC4
import Derived.Test.YtmgdbbbdhkfdmaaGreatYC10
import Derived.Test.YtmgdbbbdhkfdmaaGreatYC18
import Derived.Test.YtmgdbbbdhkfdmaaGreatYC0
set_option linter.unusedSimpArgs false
set_option linter.unusedVariables false
set_option maxHeartbeats 40000000
namespace Go.Proofs.YtmgdbbbdhkfdmaaGreat
set_option maxRecDepth 100000
open Go.RowKit Go.Deep
theorem qdx{S:Nat->Prop}{w w':World}{H:Hd}{x:St}{n:Int}(m:SI S w' H x)(f:Fr H.own w w'):xq S w H (x,[],n) (.returned (.tuple #[.slice none 0 0, .int .i64 n])) w':=⟨_,rfl,kJ m f⟩
theorem qjj{S:Nat->Prop}{w w1 w2:World}{H H1:Hd}{y:St}{R:St × List Prt}{v:Value}{n:Int}(lk:Hd.like w H H1)(f1:Fr H.own w w1)(h:qcu S w1 H1 (.slice none 0 0) [] R (.returned v) w2):xq S w H (R.1,R.2,n) (.returned (.tuple #[v, .int .i64 n])) w2:=by
 have:=qcx (r:=(y,[])) (R:=R) rfl (Ext.refl w S) lk zb f1 h;rw [List.nil_append] at this;exact⟨_,rfl,this⟩
theorem SI.qik{S:Nat->Prop}{w:World}{H:Hd}{x:St}(m:SI S w H x):SI S (w.setCell ⟨H.g,11,none⟩ (.bool true)) H { x with closing:=true }:=
 m.set ((Fr.refl [H.g] w).setCell (p:=⟨H.g,11,none⟩) (.inl zs) _) (by simpa using m.blk.qO 11 (.bool true)) rfl rfl rfl rfl rfl
theorem qbi(x:St)(h:xE x=true):jE x=(x,[],260):=by unfold jE;rw [if_pos h]
theorem qdy(x:St)(h:xE x=false):jE x=((qU { x with closing:=true }).1,(qU { x with closing:=true }).2,0):=by unfold jE;rw [if_neg (by simp [h])]
theorem qns{S:Nat->Prop}{w:World}{H:Hd}{x:St}(m:SI S w H x)(ok:OkS x):Calls Tryz.prog 32 #[ptr H.g] w (xq S w H (jE x)):=by
 have vo:=qbi x;have vg:=qdy x;have c16:=(qm m.blk).c16;have hov:=qji m;generalize jE x=r at *
 have M:=hI m;have OK:=hI ok;have HO:=hI hov;have VO:=hI vo;have VG:=hI vg;clear m ok hov vo vg;go_enter Tryz.func32,Tryz.ntmps32;go_wp2_with fail
 refine (jY H.g H.gw w c16).mono ?_;rintro e w' ⟨rfl,rfl⟩;go_wp2_with fail
 refine HO.out.mono ?_;rintro e w1 ⟨rfl,f1⟩;generalize hb:xE x=b at *
 have F1:=hI f1;have m1:=M.out.fr f1;have c11:=(qm m1.blk).c11;have z11:=m1.blk.frozen 11;have M1:=hI m1;clear m1 f1 c16;rcases Bool.eq_false_or_eq_true b with rfl|rfl
 ·go_wp2_with fail
  go_ret2
  rw [VO.out zt];exact qdx M1.out (F1.out.mono zs)
 ·go_wp2_with fail
  have m2:=M1.out.qik;have f2:Fr [H.g] w1 (w1.setCell ⟨H.g,11,none⟩ (.bool true)):=(Fr.refl [H.g] w1).setCell (p:=⟨H.g,11,none⟩) (.inl zs) _;generalize w1.setCell ⟨H.g,11,none⟩ (.bool true)=w2 at *
  refine (xI m2 ⟨OK.out.hi,OK.out.hu,OK.out.hw,OK.out.hc,OK.out.hm,OK.out.hl,OK.out.n0,OK.out.n1,OK.out.s0,OK.out.s1⟩ Pr.nil zb zs).mono ?_;rintro e w3 ⟨S3,v3,L3,rfl,hp3⟩;have hc:=qjj (n:=0) (y:=x) (Hd.like.rfl' w H) ((F1.out.mono zs).trans (f2.mono (O':=H.own) zh) (fun y hy => .inl hy)) (⟨S3,v3,L3,rfl,hp3⟩:qcu S w2 H (.slice none 0 0) [] (qU { x with closing:=true }) (.returned v3) w3);have HC:=hI hc;clear hp3 hc m2 f2 c11 z11;go_wp2_with fail
  go_ret2
  rw [VG.out zt];exact HC.out
section
variable {S:Nat->Prop} {w w':World} {H:Hd} {x:St}
theorem SI.setb(m:SI S w H x){b:List Int}{bv':Value}(ha:0<=x.win.a)(hm:x.win.a<=x.all.length)(own:w'.ownsRow 0 5 1 bv' (kw x++b).length (kE (kw x++b)))(f:Fr (ob H.bv) w w')(n:∀ y,bv'.ownBlock=some y->H.bv.ownBlock=some y\/(w.heap.size<=y/\y<w'.heap.size))(z:Int)(hz:z=(x.all++b).length) :
  SI S ((w'.setCell ⟨H.g,14,none⟩ bv').setCell ⟨H.g,7,none⟩ (.int .i64 z)) ⟨H.g,H.gw,H.gc,H.gh,bv',H.uv,H.kv⟩ { x with all:=x.all++b }/\Hd.like w H ⟨H.g,H.gw,H.gc,H.gh,bv',H.uv,H.kv⟩/\Fr H.own w ((w'.setCell ⟨H.g,14,none⟩ bv').setCell ⟨H.g,7,none⟩ (.int .i64 z)):=by
 subst hz;have hO:∀ y∈ob H.bv,¬ S y:=fun y hy=>m.nS y (.inr (.inr (.inr (.inl hy))));have ng:H.g∉ob H.bv:=fun hm=>m.qfx _ hm rfl;have hb:∀ {b:Nat} {t:TypeId} {cs:Array Value},Blk w b t cs->5≠t->b∉ob H.bv:=fun B h1 hm=>own_ne m.buf B h1 (qo.1 hm);have hk:∀ y∈H.gh::ob H.kv,y∉ob H.bv:=fun y hy hm=>by
  obtain⟨ev,L,n⟩:=m.hp;rcases List.mem_cons.1 hy with rfl|h
  ·exact own_ne m.buf n.blk zd (qo.1 hm)
  ·exact jR m.buf n.kp.own zd (qo.1 hm) (qo.1 h)
 have hp1:=m.hp.ext' f (Ext.refl w S) hO hk (fun b hb=>Nat.lt_of_lt_of_le (HP.zA m.hp b hb) f.size);have B1:=m.blk.fr f ng;have f3:Fr [H.g] w' ((w'.setCell ⟨H.g,14,none⟩ bv').setCell ⟨H.g,7,none⟩ (.int .i64 (x.all++b).length)):=((Fr.refl [H.g] w').setCell (p:=⟨H.g,14,none⟩) (.inl zs) _).setCell (p:=⟨H.g,7,none⟩) (.inl zs) _;have hO3:∀ y∈[H.g],¬ S y:=fun y hy=>by simp at hy;subst hy;exact m.nS _ (.inl rfl)
 have hbu:kw { x with all:=x.all++b }=kw x++b:=by
  unfold kw;rw [List.drop_append_of_le_length (by show x.win.a.toNat<=_;omega)]
 refine⟨⟨(B1.qO 14 bv').qO 7 (.int .i64 (x.all++b).length),Blk.fr (Blk.fr m.win f (hb m.win zd)) f3 (by simpa using m.qeq),Blk.fr (Blk.fr m.clk f (hb m.clk zd)) f3 (by simpa using m.xR),hp1.ext' f3 (Ext.refl w' S) hO3 (fun y hy=>by simpa using m.ne_h y hy) (fun b hb=>Nat.lt_of_lt_of_le (HP.zA hp1 b hb) f3.size),
  by rw [hbu];exact qA own f3 (fun b hb=>by simp;rintro rfl;exact own_ne own B1 zd hb),qA (qA m.unr f (fun b hb hm=>m.bu b hm (qo.2 hb))) f3 (fun b hb=>by simpa using m.qer b (qo.2 hb)),fun y hy=>?_,fun y hy hu=>?_⟩,⟨rfl,rfl,rfl,rfl,fun b hb=>?_⟩,?_⟩
 ·rcases hy with h|h|h|h|h
  ·exact m.nS y (.inl h)
  ·exact m.nS y (.inr (.inl h))
  ·exact m.nS y (.inr (.inr (.inl h)))
  ·rcases n y (qo.1 h) with h1|h1
   ·exact hO y (qo.2 h1)
   ·intro hs;have:=HP.zA m.hp y hs;omega
  ·exact m.nS y (.inr (.inr (.inr (.inr h))))
 ·rcases n y (qo.1 hy) with h1|h1
  ·exact m.bu y (qo.2 h1) hu
  ·have:=kG m.unr (qo.1 hu);omega
 ·simp only [Hd.own,List.mem_cons,List.mem_append] at hb |-
  rcases hb with h|h|h|h|h|h|h
  ·exact .inl (.inl h)
  ·exact .inl (.inr (.inl h))
  ·exact .inl (.inr (.inr (.inl h)))
  ·exact .inl (.inr (.inr (.inr (.inl h))))
  ·exact .inl (.inr (.inr (.inr (.inr (.inl h)))))
  ·rcases n b (qo.1 h) with h1|h1
   ·exact .inl (.inr (.inr (.inr (.inr (.inr (.inl (qo.2 h1)))))))
   ·exact .inr h1.1
  ·exact .inl (.inr (.inr (.inr (.inr (.inr (.inr h))))))
 ·exact (f.mono (fun y hy=>by simp only [Hd.own,List.mem_cons,List.mem_append];exact .inr (.inr (.inr (.inr (.inr (.inl hy))))))).trans (f3.mono (O':=H.own) zh) (fun y hy => .inl hy)
end
theorem qbj(x:St)(b:List Int)(h:xE x=true):zZ x b=(x,[],260):=by unfold zZ;rw [if_pos h]
theorem qbk(x:St)(b:List Int)(h:xE x=false)(h2:4096 - (x.all.length - x.win.a)<(b.length:Int)):zZ x b=(x,[],3):=by unfold zZ;rw [if_neg (by simp [h]),if_pos h2]
theorem qdz(x:St)(b:List Int)(h:xE x=false)(h2:¬ 4096 - (x.all.length - x.win.a)<(b.length:Int)):zZ x b=((qU { x with all:=x.all++b }).1,(qU { x with all:=x.all++b }).2,0):=by unfold zZ;rw [if_neg (by simp [h]),if_neg h2]
theorem qgv{S:Nat->Prop}{w:World}{H:Hd}{x:St}(m:SI S w H x)(ok:OkS x)(b:List Int)(hal:x.all.length<=990000)(A:Option Addr)(c:Nat)(T:Nat->Prop)(hd:Byt T w (.slice A b.length c) b) :
  Calls Tryz.prog 17 #[ptr H.g, .slice A b.length c] w (xq S w H (zZ x b)):=by
 have vo:=qbj x b;have vl:=qbk x b;have vg:=qdz x b;have c16:=(qm m.blk).c16;have hov:=qji m;obtain⟨bA,bc,hbv,hbq,_⟩:=qY m.buf;have hbl0:((kw x).length:Int)=x.all.length - x.win.a:=by unfold kw;rw [List.length_drop];have:=Win.Inv.bd ok.hw;have:=ok.hm;omega
 generalize hbl:(kw x).length=bl at *
 have HBL:=hI hbl0;have HBQ:=hI hbl;clear hbl0 hbl;have hcap:b.length<=maxLen:=by obtain⟨_,_,_,h1,h2⟩:=hd.form;omega
 unfold maxLen at hcap;generalize zZ x b=r at *
 have M:=hI m;have OK:=hI ok;have HO:=hI hov;have VO:=hI vo;have VL:=hI vl;have VG:=hI vg;have HD:=hI hd;clear m ok hov vo vg vl hd;go_enter Tryz.func17,Tryz.ntmps17;go_wp2_with fail
 refine (jY H.g H.gw w c16).mono ?_;rintro e w' ⟨rfl,rfl⟩;go_wp2_with fail
 refine HO.out.mono ?_;rintro e w1 ⟨rfl,f1⟩;generalize hov:xE x=o at *
 have F1:=hI f1;have m1:=M.out.fr f1;have c14:=(qm m1.blk).c14;have c7:=(qm m1.blk).c7;rw [hbv] at c14;have z14:=m1.blk.frozen 14;have z7:=m1.blk.frozen 7;have hlt:=m1.blk.lt;have M1:=hI m1;have HBV:=hI hbv;clear m1 f1 c16 hbv;rcases Bool.eq_false_or_eq_true o with rfl|rfl
 ·go_wp2_with fail
  go_ret2
  rw [VO.out zt];exact qdx M1.out (F1.out.mono zs)
 ·have hwr:IntKind.i64.wrap (4096 - (bl:Int))=4096 - (bl:Int):=IntWalk.i64_in _ (by have:=HBL.out;have:=OK.out.hl;have:=Win.Inv.bd OK.out.hw;omega)
  by_cases hlo:4096 - (bl:Int)<(b.length:Int)
  ·have hd0:decide (4096 - (bl:Int)<(b.length:Int))=true:=by simpa using hlo
   have hd1:decide ((b.length:Int) > 4096 - (bl:Int))=true:=by simpa using hlo
   go_wp2_with fail
   go_ret2
   rw [VL.out zt (by have:=HBL.out;omega)];exact qdx M1.out (F1.out.mono zs)
  ·have hd0:decide (4096 - (bl:Int)<(b.length:Int))=false:=by simpa using hlo
   have hd1:decide ((b.length:Int) > 4096 - (bl:Int))=false:=by simpa using hlo
   have hw7:IntKind.i64.wrap ((x.all.length:Int)+(b.length:Int))=((x.all.length:Int)+(b.length:Int)):=IntWalk.i64_in _ zw;obtain⟨i0,hi0,hz0,hz1,hz2⟩:=info_parts vM;have HOwn:Hid (w1.ownsRow 0 5 1 (.slice bA bl bc) bl (kE (kw x))):=hI (by rw [<- HBV.out,<- HBQ.out];exact M1.out.buf);have HLM:Hid (bl+b.length<=maxLen):=hI (by unfold maxLen;have:=HBL.out;have:=Win.Inv.bd OK.out.hw;omega);have HLB:Hid ((bl+b.length) * 1<=140737488355328):=hI (by have:=HBL.out;have:=Win.Inv.bd OK.out.hw;omega);go_upto_region 8 with (at_builtin;refine qE _ rfl (.tmp 26) (.tmp 27) 30 rfl 5 i0 (.int .u8 0) 1 1 Tryz.underlying30 hi0 hz0 hz1 hz2 rfl zd (.slice bA bl bc) bl (kE (kw x)) zr HOwn.out T (.slice A b.length c) b.length (kE b) zr (HD.out.fr F1.out zs) (ji _) HLM.out HLB.out (bl+b.length) rfl ?_;intro A7 c7' W7 h10 h11 h12;have B7:=M1.out.blk.fr h11 (by rw [<- HBV.out];exact fun hm=>M1.out.qfx _ hm rfl);have z14':=B7.frozen 14;have z7':=B7.frozen 7;have c14':=(qm B7).c14;have c7:=(qm B7).c7;have hlt':=B7.lt;have H10:=hI h10;have H11:=hI h11;have H12:=hI h12;clear h10 h11 h12 B7)
   go_upto_region 9 with fail
   have hown:W7.ownsRow 0 5 1 (.slice A7 (bl+b.length) c7') (kw x++b).length (kE (kw x++b)):=by
    have h:=H10.out;rw [vJ] at h
    rwa [List.length_append,HBQ.out]
   have hset:=M1.out.setb (b:=b) (bv' := .slice A7 (bl+b.length) c7') (by have:=Win.Inv.bd OK.out.hw;omega) (by have:=Win.Inv.bd OK.out.hw;have:=OK.out.hm;omega) hown (by rw [HBV.out];exact H11.out) (by rw [HBV.out];exact H12.out) ((x.all.length:Int)+b.length) zs;generalize ((W7.setCell ⟨H.g,14,none⟩ (.slice A7 (bl+b.length) c7')).setCell ⟨H.g,7,none⟩ (.int .i64 ((x.all.length:Int)+b.length)))=w8 at *
   obtain⟨m8,lk8,f8⟩:=hset;have hse:=xI m8 (⟨OK.out.hi,OK.out.hu,OK.out.hw,OK.out.hc,by have:=OK.out.hm;simp;omega,by have:=Win.Inv.bd OK.out.hw;have:=HBL.out;simp;omega,OK.out.n0,OK.out.n1,OK.out.s0,OK.out.s1⟩:OkS { x with all:=x.all++b }) Pr.nil zb zs;dsimp only at hse;have HSE:=hI hse;have LK8:Hid (Hd.like w H ⟨H.g,H.gw,H.gc,H.gh, .slice A7 (bl+b.length) c7',H.uv,H.kv⟩):=hI (Hd.like.trans (Hd.like.rfl' w H) F1.out.size lk8);have F8:Hid (Fr H.own w w8):=hI ((F1.out.mono zs).trans f8 (fun y hy => .inl hy));clear hse m8 lk8 f8 hown c14 c14' z14 z7 z14' z7' c7;go_wp2_with fail
   refine HSE.out.mono ?_;rintro e w9 ⟨S3,v3,L3,rfl,hp3⟩;have hc:=qjj (n:=0) (y:=x) LK8.out F8.out (⟨S3,v3,L3,rfl,hp3⟩:qcu S w8 _ (.slice none 0 0) [] (qU { x with all:=x.all++b }) (.returned v3) w9);have HC:=hI hc;clear hp3 hc;go_wp2_with fail
   go_ret2
   rw [VG.out zt (by have:=HBL.out;omega)];exact HC.out
def yf(S:Nat->Prop)(w:World)(H:Hd)(r:St × List Int × List Prt)(e:Ending)(w':World):Prop:=
 ∃ S' H' v L,e = .returned (.tuple #[H.uv,v])/\L.map (·.1)=r.2.2/\Ext w S S'/\Hd.like w H H'/\SI S' w' H' r.1/\Pr S' w' v L/\(∀ b∈ob v,w.heap.size<=b/\¬ S' b)/\Fr [H.g] w w'/\Byt (fun b=>b∈ob H.uv) w' H.uv r.2.1/\(∀ b∈ob H.uv,b∉H'.own)
theorem SI.told{S:Nat->Prop}{w:World}{H:Hd}{x:St}(m:SI S w H x) :
  SI S (w.setCell ⟨H.g,15,none⟩ (.slice none 0 0)) ⟨H.g,H.gw,H.gc,H.gh,H.bv, .slice none 0 0,H.kv⟩ { x with unread:=[] }/\Hd.like w H ⟨H.g,H.gw,H.gc,H.gh,H.bv, .slice none 0 0,H.kv⟩/\Fr [H.g] w (w.setCell ⟨H.g,15,none⟩ (.slice none 0 0)) /\
  (∀ b∈ob H.uv,b∉(⟨H.g,H.gw,H.gc,H.gh,H.bv, .slice none 0 0,H.kv⟩:Hd).own):=by
 have f3:Fr [H.g] w (w.setCell ⟨H.g,15,none⟩ (.slice none 0 0)):=(Fr.refl [H.g] w).setCell (p:=⟨H.g,15,none⟩) (.inl zs) _;have hO3:∀ y∈[H.g],¬ S y:=fun y hy=>by simp at hy;subst hy;exact m.nS _ (.inl rfl)
 have h0:∀ y,y∉ob (.slice none 0 0):=zb;refine⟨⟨m.blk.qO 15 (.slice none 0 0),Blk.fr m.win f3 (by simpa using m.qeq),Blk.fr m.clk f3 (by simpa using m.xR),m.hp.ext' f3 (Ext.refl w S) hO3 (fun y hy=>by simpa using m.ne_h y hy) (fun b hb=>Nat.lt_of_lt_of_le (HP.zA m.hp b hb) f3.size),
  qA m.buf f3 (fun b hb=>by simpa using m.qfx b (qo.2 hb)),World.ownsRow_nil _ 0 5 1,fun y hy=>?_,fun y hy hu=>h0 y hu⟩,⟨rfl,rfl,rfl,rfl,fun b hb=>?_⟩,f3,fun b hb hm=>?_⟩
 ·rcases hy with h|h|h|h|h
  ·exact m.nS y (.inl h)
  ·exact m.nS y (.inr (.inl h))
  ·exact m.nS y (.inr (.inr (.inl h)))
  ·exact m.nS y (.inr (.inr (.inr (.inl h))))
  ·exact absurd h (h0 y)
 ·simp only [Hd.own,List.mem_cons,List.mem_append] at hb |-
  rcases hb with h|h|h|h|h|h|h
  ·exact .inl (.inl h)
  ·exact .inl (.inr (.inl h))
  ·exact .inl (.inr (.inr (.inl h)))
  ·exact .inl (.inr (.inr (.inr (.inl h))))
  ·exact .inl (.inr (.inr (.inr (.inr (.inl h)))))
  ·exact .inl (.inr (.inr (.inr (.inr (.inr (.inl h))))))
  ·exact absurd h (h0 b)
 ·have hu:=qo.1 hb
  simp only [Hd.own,List.mem_cons,List.mem_append] at hm;obtain⟨ev,L,n⟩:=m.hp;rcases hm with h|h|h|h|h|h|h
  ·exact m.qer b hb h
  ·subst h;exact own_ne m.unr m.win zd hu
  ·subst h;exact own_ne m.unr m.clk zd hu
  ·subst h;exact own_ne m.unr n.blk zd hu
  ·exact jR m.unr n.kp.own zd hu (qo.1 h)
  ·exact m.bu b h hb
  ·exact h0 b h
theorem qea(x:St)(h:x.shown=0/\x.at_=4/\0<qK { x with unread:=[] }):zV x=(shows { x with unread:=[] },x.unread,[qJ { x with unread:=[] }]):=by unfold zV;dsimp only;rw [if_pos h]
theorem qgw(x:St)(h:¬ (x.shown=0/\x.at_=4/\0<qK { x with unread:=[] })):zV x=({ x with unread:=[] },x.unread,[]):=by unfold zV;dsimp only;rw [if_neg h]
theorem qfj{S:Nat->Prop}{w w2 w3:World}{H H2:Hd}{x:St}(m:SI S w H x)(m2:SI S w2 H2 { x with unread:=[] })(lk:Hd.like w H H2)(f:Fr [H.g] w w2)(n:∀ b∈ob H.uv,b∉H2.own)(f3:Fr [] w2 w3) :
  yf S w H ({ x with unread:=[] },x.unread,[]) (.returned (.tuple #[H.uv, .slice none 0 0])) w3:=
 ⟨S,H2,_,[],rfl,rfl,Ext.refl w S,lk,m2.fr f3,Pr.nil,zb,f.trans f3 zs,(Byt.fr (Sl.kW m.unr (fun b hb=>qo.2 hb)) f (fun y hy hm=>by simp at hy;subst hy;exact m.qer _ hm rfl)).fr f3 zs,n⟩
theorem qnt{S S4:Nat->Prop}{w w2 w3 w4:World}{H H2:Hd}{x:St}{A4:Option Addr}{c4:Nat}(m:SI S w H x)(lk:Hd.like w H H2)(f:Fr [H.g] w w2)(n:∀ b∈ob H.uv,b∉H2.own)(f3:Fr [] w2 w3)(x4:Ext w3 S S4)
  (by4:Byt S4 w4 (.slice A4 (qJ { x with unread:=[] }).d.length c4) (qJ { x with unread:=[] }).d) (m4:SI S4 w4 H2 (shows { x with unread:=[] })) (f4:Fr [H2.g] w3 w4) :
  yf S w H (shows { x with unread:=[] },x.unread,[qJ { x with unread:=[] }]) (.returned (.tuple #[H.uv, .slice (some ⟨w4.heap.size,0,none⟩) 1 1])) (w4.alloc (.cells #[.int .i64 (qJ { x with unread:=[] }).flags, .int .u32 (qJ { x with unread:=[] }).seq, .int .u32 (qJ { x with unread:=[] }).ack, .int .u16 (qJ { x with unread:=[] }).win, .slice A4 (qJ { x with unread:=[] }).d.length c4] 49)):=by
 have hz:w.heap.size<=w3.heap.size:=Nat.le_trans f.size f3.size;have hz4:=f4.size;rw [lk.g] at f4;have ff:Fr [H.g] w (w4.alloc (.cells #[.int .i64 (qJ { x with unread:=[] }).flags, .int .u32 (qJ { x with unread:=[] }).seq, .int .u32 (qJ { x with unread:=[] }).ack, .int .u16 (qJ { x with unread:=[] }).win, .slice A4 (qJ { x with unread:=[] }).d.length c4] 49)):=((f.trans f3 zs).trans f4 (fun y hy => .inl hy)).alloc _;have hp:∀ b,S4 b->b<w4.heap.size:=HP.zA m4.hp;refine⟨S4,H2,_,[(qJ { x with unread:=[] }, .slice A4 _ c4)],rfl,rfl,kM x4 hz,lk,m4.fr ((Fr.refl [] w4).alloc _),qcg by4,?_,ff,Byt.fr (Sl.kW m.unr (fun b hb=>qo.2 hb)) ff (fun y hy hm=>by simp at hy;subst hy;exact m.qer _ hm rfl),n⟩;intro b hb;simp [ob,Value.ownBlock] at hb;subst hb;exact⟨zw,fun hs=>by have:=hp _ hs;omega⟩
theorem qfk{S:Nat->Prop}{w:World}{H:Hd}{x:St}(m:SI S w H x)(ok:OkS x):Calls Tryz.prog 18 #[ptr H.g] w (yf S w H (zV x)):=by
 have vy:=qea x;have vn:=qgw x;obtain⟨uA,uc,huv,_,_⟩:=qY m.unr;have cs:=qm m.blk;have c16:=cs.c16;have c15:=cs.c15;have c24:=cs.c24;have c0:=cs.c0;have z15:=m.blk.frozen 15;have hlt:=m.blk.lt;rw [huv] at c15;generalize zV x=r at *
 have M:=hI m;have OK:=hI ok;have VY:=hI vy;have VN:=hI vn;have HUV:=hI huv;have hset:=m.told;have HN:=hI hset.2.2.2;clear m ok vy vn huv cs;go_enter Tryz.func18,Tryz.ntmps18;go_wp2_with fail
 refine (jY H.g H.gw w c16).mono ?_;rintro e w' ⟨rfl,rfl⟩;go_upto_region 5 with fail
 generalize w.setCell ⟨H.g,15,none⟩ (.slice none 0 0)=w2 at *
 obtain⟨m2,lk2,f2,n2⟩:=hset;have ok2:OkS { x with unread:=[] }:=⟨OK.out.hi,zs,OK.out.hw,OK.out.hc,OK.out.hm,OK.out.hl,OK.out.n0,OK.out.n1,OK.out.s0,OK.out.s1⟩;have hroom:=qes m2 OK.out.hi zs;have hans:=vG m2 OK.out.hi zs (by have:=Win.Inv.bd OK.out.hw;show 0<=x.win.m;omega) (by have:=OK.out.hm;have:=OK.out.hl;show x.win.m<=_;omega);have c24:w2.cell? ⟨H.g,24,none⟩=some (.int .i64 x.shown):=(qm m2.blk).c24;have c0:w2.cell? ⟨H.g,0,none⟩=some (.int .i64 x.at_):=(qm m2.blk).c0;have hlt2:=m2.blk.lt;dsimp only at hroom hans;have M2:=hI m2;have LK2:=hI lk2;have F2:=hI f2;have HR:=hI hroom;have HANS:=hI hans;generalize hrv:qK { x with unread:=[] }=rv at *
 clear m2 lk2 f2 n2 hroom hans c15 c16 z15;have HRV:=hI hrv;clear hrv;by_cases h24:x.shown=0
 ·rw [h24] at c24
  by_cases h4:x.at_=4
  ·rw [h4] at c0
   go_wp2_with fail
   refine HR.out.mono ?_;rintro e w3 ⟨rfl,f3⟩;by_cases hrp:0<rv
   ·have hd0:decide (0<rv)=true:=by simpa using hrp
    have hd1:decide (rv > 0)=true:=(by simpa using hrp);have HANS2:=hI (vG (M2.out.fr f3) OK.out.hi zs (by have:=Win.Inv.bd OK.out.hw;show 0<=x.win.m;omega) (by have:=OK.out.hm;have:=OK.out.hl;show x.win.m<=_;omega));have F3:=hI f3;clear f3 c0 c24;go_wp2_with fail
    refine HANS2.out.mono ?_;rintro e w4 ⟨S4,A4,c4,rfl,x4,by4,m4,f4⟩;have hrd:=qnt M.out LK2.out F2.out HN.out F3.out x4 by4 m4 f4;have HRD:=hI hrd;clear x4 by4 m4 f4 hrd;go_wp2_with fail
    go_ret2
    rw [VY.out ⟨h24,h4,hrp⟩,<- HUV.out];exact HRD.out
   ·have hd0:decide (0<rv)=false:=by simpa using hrp
    have hd1:decide (rv > 0)=false:=(by simpa using hrp);go_wp2_with fail
    go_ret2
    rw [VN.out (fun h=>by have:=h.2.2;omega),<- HUV.out];exact qfj M.out M2.out LK2.out F2.out HN.out f3
  ·have hd0:decide (x.at_=4)=false:=by simpa using h4
   have hd1:(x.at_ == 4)=false:=by simpa using h4
   go_wp2_with fail
   go_ret2
   rw [VN.out (fun h=>h4 h.2.1),<- HUV.out];exact qfj M.out M2.out LK2.out F2.out HN.out (Fr.refl _ _)
 ·have hd0:decide (x.shown=0)=false:=by simpa using h24
  have hd1:(x.shown == 0)=false:=by simpa using h24
  go_wp2_with fail
  go_ret2
  rw [VN.out (fun h=>h24 h.1),<- HUV.out];exact qfj M.out M2.out LK2.out F2.out HN.out (Fr.refl _ _)
abbrev zeroA:Array Value:=#[.int .i64 0, .bool false, .int .u32 0, .int .i64 0, .int .i64 0, .int .i64 0, .int .i64 0, .int .i64 0, .int .i64 0, .int .i64 0, .int .i64 0, .bool false, .bool false,
 .int .u32 0, .slice none 0 0, .slice none 0 0, .pointer none, .pointer none, .pointer none, .bool false, .bool false, .int .i64 0, .int .i64 0, .int .i64 0, .int .i64 0]
def Sz(w:World)(g:Nat):Prop:=Blk w g 74 zeroA
theorem Sz.c16{w:World}{g:Nat}(m:Sz w g):w.cell? ⟨g,16,none⟩=some (.pointer none):=by simpa using Blk.cell m 16
abbrev yA:Array Value:=#[.int .i64 0, .bool false, .int .u32 0, .int .i64 0, .int .i64 0, .int .i64 0, .int .i64 0, .int .i64 0, .int .i64 0, .int .i64 0, .int .i64 0, .bool false, .bool false]
abbrev arN(isn:Int)(a b c:Value)(n:Int):Array Value:=#[.int .i64 n, .bool false, .int .u32 0, .int .i64 0, .int .i64 0, .int .i64 0, .int .i64 0, .int .i64 0, .int .i64 0, .int .i64 0, .int .i64 0, .bool false, .bool false, .int .u32 isn, .slice none 0 0, .slice none 0 0,a,b,c, .bool false, .bool false, .int .i64 0, .int .i64 0, .int .i64 0, .int .i64 0]
def NewPost(S:Nat->Prop)(w:World)(r:St × List Prt)(e:Ending)(w':World):Prop:=
 ∃ S' H v L,e = .returned (.tuple #[ptr H.g,v])/\L.map (·.1)=r.2/\Ext w S S'/\SI S' w' H r.1/\Pr S' w' v L/\(∀ b∈ob v,w.heap.size<=b/\¬ S' b)/\Fr [] w w'/\(∀ b∈H.own,w.heap.size<=b)
theorem qil(S:Nat->Prop)(isn:Int)(calls:Bool)(w:World)(hp:∀ b,S b->b<w.heap.size):Calls Tryz.prog 8 #[.int .u32 isn, .bool calls] w (NewPost S w (jf isn calls)):=by
 have HPu:=hI hp;clear hp;go_enter Tryz.func8,Tryz.ntmps8;go_wp2_with fail
 refine (Win.new_win w).mono ?_;rintro e w1 ⟨rfl,f1,m1,z1⟩;go_upto_region 2 with fail
 have hgw:w.heap.size<w1.heap.size:=z1;have f2:Fr [] w1 (w1.alloc (.cells (arN isn (ptr w.heap.size) (.pointer none) (.pointer none) 0) 74)):=(Fr.refl [] w1).alloc _;have b2:Blk (w1.alloc (.cells (arN isn (ptr w.heap.size) (.pointer none) (.pointer none) 0) 74)) w1.heap.size 74 (arN isn (ptr w.heap.size) (.pointer none) (.pointer none) 0):=Blk.new w1 _ _;have hz2:w1.heap.size<(w1.alloc (.cells (arN isn (ptr w.heap.size) (.pointer none) (.pointer none) 0) 74)).heap.size:=zs;have W2:=hI (Blk.fr m1 f2 zs);have F2:=hI (f1.trans f2 zs);have B2:=hI b2;clear m1 f1 f2 b2 z1;generalize w1.alloc (.cells (arN isn (ptr w.heap.size) (.pointer none) (.pointer none) 0) 74)=w2 at *
 generalize hg:w1.heap.size=g at *
 clear hg;go_wp2_with fail
 refine (Rto.new_clk 2 1 32 8 w2 zw zw zw zw zw zw).mono ?_;rintro e w3 ⟨gc,rfl,hgc,f3,C3,_⟩;have b3:=B2.out.fr f3 zs;have z17:w3.frozen? ⟨g,17,none⟩=false:=b3.frozen 17;have d17:w3.cell? ⟨g,17,none⟩=some (.pointer none):=by simpa using b3.cell 17
 have hl3:=b3.lt;have B3:=hI b3;have CC3:=hI C3;have F3:=hI f3;clear b3 C3 f3;go_upto_region 3 with fail
 have f4:Fr [g] w3 (w3.setCell ⟨g,17,none⟩ (ptr gc)):=(Fr.refl [g] w3).setCell (p:=⟨g,17,none⟩) (.inl zs) _;have b4:Blk (w3.setCell ⟨g,17,none⟩ (ptr gc)) g 74 (arN isn (ptr w.heap.size) (ptr gc) (.pointer none) 0):=by simpa using B3.out.qO 17 (ptr gc)
 generalize w3.setCell ⟨g,17,none⟩ (ptr gc)=w4 at *
 have F4:=hI f4;have B4:=hI b4;clear f4 b4 z17 d17 hl3;have F24:Hid (Fr [g] w2 w4):=hI ((F3.out.mono zs).trans F4.out (fun y hy => .inl hy));have FW4:Hid (Fr [] w w4):=hI (F2.out.trans F24.out (fun y hy => .inr (by simp at hy;omega)));have W4:Hid (Win.Win w4 w.heap.size ⟨0,0,0,0⟩ true):=hI (Blk.fr W2.out F24.out zv);have C4:Hid (Rto.Clk w4 gc (Rto.xC 2 1 32 8)):=hI (Blk.fr CC3.out F4.out zv);go_wp2_with fail
 refine (new_hp S 8 w4 zw zw (fun b hb=>by have:=HPu.out b hb;have:=FW4.out.size;omega)).mono ?_;rintro e w5 ⟨rfl,f5,h5,z5⟩;have b5:=B4.out.fr f5 zs;have z18:w5.frozen? ⟨g,18,none⟩=false:=b5.frozen 18;have d18:w5.cell? ⟨g,18,none⟩=some (.pointer none):=by simpa using b5.cell 18
 have z0:w5.frozen? ⟨g,0,none⟩=false:=b5.frozen 0;have d0:w5.cell? ⟨g,0,none⟩=some (.int .i64 0):=by simpa using b5.cell 0
 have hl5:=b5.lt;have hg4:=B4.out.lt;have B5:=hI b5;have H5:=hI h5;have F5:=hI f5;clear b5 h5 f5;generalize hgh:w4.heap.size=gh at *
 go_upto_region 5 with fail
 have f6:Fr [g] w5 ((w5.setCell ⟨g,18,none⟩ (ptr gh)).setCell ⟨g,0,none⟩ (.int .i64 1)):=((Fr.refl [g] w5).setCell (p:=⟨g,18,none⟩) (.inl zs) _).setCell (p:=⟨g,0,none⟩) (.inl zs) _;have b6:Blk ((w5.setCell ⟨g,18,none⟩ (ptr gh)).setCell ⟨g,0,none⟩ (.int .i64 1)) g 74 (arN isn (ptr w.heap.size) (ptr gc) (ptr gh) 1):=by simpa using (B5.out.qO 18 (ptr gh)).qO 0 (.int .i64 1)
 generalize (w5.setCell ⟨g,18,none⟩ (ptr gh)).setCell ⟨g,0,none⟩ (.int .i64 1)=w6 at *
 have hwg:w.heap.size<g:=zw;have hnS:∀ y,w.heap.size<=y->¬ S y:=fun y hy hs=>by have:=HPu.out y hs;omega
 have F56:Fr [g] w4 w6:=(F5.out.mono zs).trans f6 (fun y hy => .inl hy);have m6:SI S w6 ⟨g,w.heap.size,gc,gh, .slice none 0 0, .slice none 0 0, .slice none 0 0⟩ (jq isn 1):=by
  refine⟨b6,Blk.fr W4.out F56 zv,Blk.fr C4.out F56 zv,H5.out.ext' f6 (Ext.refl w5 S) (fun y hy=>by simp at hy;subst hy;exact hnS _ zw) (fun y hy=>by simp [ob,Value.ownBlock] at hy;simp;omega) (fun b hb=>by have:=HPu.out b hb;have:=FW4.out.size;have:=F56.size;omega),World.ownsRow_nil _ 0 5 1,World.ownsRow_nil _ 0 5 1,fun y hy=>?_,zb⟩;simp [ob,Value.ownBlock] at hy;rcases hy with rfl|rfl|rfl
  ·exact hnS _ zw
  ·exact hnS _ zw
  ·exact hnS _ zw
 have FW6:Fr [] w w6:=FW4.out.trans F56 (fun y hy => .inr (by simp at hy;omega));have HOWN:Hid (∀ b∈(⟨g,w.heap.size,gc,gh, .slice none 0 0, .slice none 0 0, .slice none 0 0⟩:Hd).own,w.heap.size<=b):=hI (fun b hb=>by
  have:=FW4.out.size;simp [Hd.own,ob,Value.ownBlock] at hb;rcases hb with rfl|rfl|rfl|rfl <;> omega)
 have M6:=hI m6;have FF6:=hI FW6;clear z18 d18 z0 d0 m6 FW6 F56 f6 b6 B5 H5 F5 W4 C4 F24 F4 B4 F3 B3 CC3 W2 F2 B2;cases calls
 ·go_wp2_with fail
  go_ret2
  have hv:jf isn false=(jq isn 1,[]):=rfl;rw [hv];exact⟨S,_,_,[],rfl,rfl,Ext.refl w S,M6.out,Pr.nil,zb,FF6.out,HOWN.out⟩
 ·have z0:w6.frozen? ⟨g,0,none⟩=false:=M6.out.blk.frozen 0
  have d0:w6.cell? ⟨g,0,none⟩=some (.int .i64 1):=(qm M6.out.blk).c0;have hl6:g<w6.heap.size:=M6.out.blk.lt;have hiN:Inv (xC 8):=qah zw zw;have hcN:Rto.Inv (Rto.xC 2 1 32 8):=Rto.qah zw zw zw zw zw zw;go_wp2_with fail
  have f7:Fr [g] w6 (w6.setCell ⟨g,0,none⟩ (.int .i64 2)):=(Fr.refl [g] w6).setCell (p:=⟨g,0,none⟩) (.inl zs) _;have m7:=M6.out.set (w':=w6.setCell ⟨g,0,none⟩ (.int .i64 2)) (x':=jq isn 2) f7 (by have h:=M6.out.blk.qO 0 (.int .i64 2);exact h) rfl rfl rfl rfl rfl;generalize w6.setCell ⟨g,0,none⟩ (.int .i64 2)=w7 at *
  refine (qax m7 hiN (by simp [jq])).mono ?_;have hv:jf isn true=(qF (shows (jq isn 2)),[zg (jq isn 2)]):=rfl;have HV:=hI hv;clear hv;generalize hpp:zg (jq isn 2)=p at *
  rintro e w8 ⟨S8,A8,c8,rfl,x8,by8,m8,f8⟩;have m9:=m8.fr ((Fr.refl [] w8).alloc (.cells (arP p (.slice A8 p.d.length c8)) 49));have p9:=qcg by8;have hz8:w.heap.size<=w7.heap.size:=by have:=FF6.out.size;have:=f7.size;omega
  have X8:Hid (Ext w S S8):=hI (kM x8 hz8);have F8:Hid (Fr [] w w8):=hI ((FF6.out.trans f7 (fun y hy => .inr (by simp at hy;omega))).trans f8 (fun y hy => .inr (by simp at hy;omega)));have HWS:Hid (w6.heap.size<=w8.heap.size):=hI (Nat.le_trans f7.size f8.size);have hp8:∀ b,S8 b->b<w8.heap.size:=HP.zA m8.hp;have HP8:=hI hp8;have P9:=hI p9;have M9:=hI m9;clear x8 by8 m8 f8 m7 f7 hp8 p9 m9 z0 d0;go_wp2_with fail
  refine (jy M9.out hcN (some ⟨w8.heap.size,0,none⟩) 1 1).mono ?_;rintro e wa ⟨rfl,ma,fa⟩;have MA:=hI ma;have FA:=hI fa;clear ma fa;go_wp2_with fail
  go_ret2
  rw [HV.out];have hcw:gc<w8.heap.size:=by
   have h1:=M6.out.lt gc zh;have h2:w6.heap.size<=w8.heap.size:=by
    have:=HWS.out;omega
   omega
  exact⟨S8,_,_,[(p, .slice A8 p.d.length c8)],rfl,rfl,X8.out,MA.out,P9.out.fr FA.out (fun y hy=>by simp at hy;subst hy;exact M9.out.nS _ (.inr (.inr (.inl rfl)))) (fun b hb=>by simp [ob,Value.ownBlock] at hb;subst hb;simp;omega) (fun _ h=>h),fun b hb=>by
   simp [ob,Value.ownBlock] at hb;subst hb;exact⟨F8.out.size,fun hs=>by have:=HP8.out _ hs;omega⟩,(F8.out.alloc _).trans FA.out (fun y hy => .inr (by simp at hy;subst hy;exact HOWN.out _ zh)),HOWN.out⟩
theorem SI.keep{S S':Nat->Prop}{w w':World}{H:Hd}{x:St}{O:List Nat}(m:SI S w H x)(f:Fr O w w')(hO:∀ y∈O,y∉H.own)(hS:∀ y∈O,¬ S y)(e:Ext w S S')(hp:∀ b,S' b->b<w'.heap.size):SI S' w' H x:=by
 have hm:∀ y,y∈H.own->y∉O:=fun y hy ho=>hO y ho hy;have hmem:∀ {y},(y=H.g\/y=H.gw\/y=H.gc\/y=H.gh\/y∈ob H.kv\/y∈ob H.bv\/y∈ob H.uv)->y∉O:=fun {y} hy=>hm y (by
  simp only [Hd.own,List.mem_cons,List.mem_append];rcases hy with h|h|h|h|h|h|h <;> simp [h])
 refine⟨m.blk.fr f (hmem zs),Blk.fr m.win f (hmem zs),Blk.fr m.clk f (hmem zs),m.hp.ext' f e hS (fun y hy=>hmem (by rcases List.mem_cons.1 hy with h|h <;> simp [h])) hp,
  qA m.buf f (fun b hb=>hmem (by simp [qo.2 hb])),qA m.unr f (fun b hb=>hmem (by simp [qo.2 hb])),fun y hy hs=>?_,m.bu⟩
 rcases e.2 y hs with h|h
 ·exact m.nS y hy h
 ·have:=m.lt y (by
   simp only [Hd.own,List.mem_cons,List.mem_append];rcases hy with h|h|h|h|h <;> simp [h])
  omega
structure Duo(S:Nat->Prop)(w:World)(Ha Hb:Hd)(xa xb:St):Prop where
 a:SI S w Ha xa
 b:SI S w Hb xb
 ap:∀ y∈Ha.own,y∉Hb.own
section
variable {S S':Nat->Prop} {w w':World} {Ha Ha' Hb:Hd} {xa xa' xb:St} {O:List Nat}
theorem Duo.symm(d:Duo S w Ha Hb xa xb):Duo S w Hb Ha xb xa:=⟨d.b,d.a,fun y hb ha=>d.ap y ha hb⟩
theorem Duo.pub(d:Duo S w Ha Hb xa xb):∀ b,S b->b<w.heap.size:=HP.zA d.a.hp
theorem Duo.fr(d:Duo S w Ha Hb xa xb)(f:Fr [] w w'):Duo S w' Ha Hb xa xb:=⟨d.a.fr f,d.b.fr f,d.ap⟩
theorem Duo.turn(d:Duo S w Ha Hb xa xb)(f:Fr Ha.own w w')(e:Ext w S S')(lk:Hd.like w Ha Ha')(m:SI S' w' Ha' xa'):Duo S' w' Ha' Hb xa' xb:=
 ⟨m,d.b.keep f (fun y hy=>d.ap y hy) (fun y hy=>d.a.off y hy) e (HP.zA m.hp),fun y hy hb=>by
  rcases lk.own y hy with h|h
  ·exact d.ap y h hb
  ·have:=d.b.lt y hb;omega⟩
theorem Duo.call{r:St × List Prt}{v:Value}(d:Duo S w Ha Hb xa xb)(h:zS S w Ha r (.returned v) w') :
  ∃ S' Ha' L,L.map (·.1)=r.2/\Ext w S S'/\Hd.like w Ha Ha'/\Duo S' w' Ha' Hb r.1 xb/\Pr S' w' v L/\(∀ b∈ob v,w.heap.size<=b/\¬ S' b)/\Fr Ha.own w w':=by
 obtain⟨S',Ha',v',L,he,hL,e,lk,m,p,n,f⟩:=h;injection he with he;subst he;exact⟨S',Ha',L,hL,e,lk,d.turn f e lk m,p,n,f⟩
end
theorem qnu:∀(L:List (Prt × Value)) (i:Nat) (x:Prt × Value),L[i]?=some x->(prs L)[i * 5]?=some (.int .i64 x.1.flags)/\(prs L)[i * 5+1]?=some (.int .u32 x.1.seq)/\(prs L)[i * 5+2]?=some (.int .u32 x.1.ack)/\(prs L)[i * 5+3]?=some (.int .u16 x.1.win)/\(prs L)[i * 5+4]?=some x.2
 | [],i,x,h=>by simp at h
 | y::L,0,x,h=>by
  simp at h;subst h;exact⟨rfl,rfl,rfl,rfl,rfl⟩
 | y::L,i+1,x,h=>by
  simp at h;have:=qnu L i x h;rw [show (i+1) * 5=i * 5+1+1+1+1+1 by omega];simp only [prs,show ∀ j,j+1+1+1+1+1+1=(j+1)+1+1+1+1+1 from fun _=>rfl,show ∀ j,j+1+1+1+1+1+2=(j+2)+1+1+1+1+1 from fun _=>rfl,show ∀ j,j+1+1+1+1+1+3=(j+3)+1+1+1+1+1 from fun _=>rfl,show ∀ j,j+1+1+1+1+1+4=(j+4)+1+1+1+1+1 from fun _=>rfl,List.getElem?_cons_succ];exact this
structure PAt(S:Nat->Prop)(w:World)(v:Value)(n:Nat)(i:Nat)(p:Prt)(b:Nat)(A:Option Addr)(c:Nat):Prop where
 c0:w.cell? ⟨b,i * 5,none⟩=some (.int .i64 p.flags)
 c1:w.cell? ⟨b,i * 5+1,none⟩=some (.int .u32 p.seq)
 c2:w.cell? ⟨b,i * 5+2,none⟩=some (.int .u32 p.ack)
 c3:w.cell? ⟨b,i * 5+3,none⟩=some (.int .u16 p.win)
 c4:w.cell? ⟨b,i * 5+4,none⟩=some (.slice A p.d.length c)
 byt:Byt S w (.slice A p.d.length c) p.d
theorem Pr.at_{S:Nat->Prop}{w:World}{v:Value}{L:List (Prt × Value)}(h:Pr S w v L){i:Nat}{p:Prt}(hi:(L.map (·.1))[i]?=some p):∃ b k A c,v = .slice (some ⟨b,0,none⟩) L.length k/\i<L.length/\L.length<=k/\k<=maxLen/\PAt S w v L.length i p b A c:=by
 rw [List.getElem?_map] at hi;obtain⟨x,hx,hp⟩:=Option.map_eq_some_iff.1 hi;subst hp;have hlt:i<L.length:=(List.getElem?_eq_some_iff.1 hx).1;have hs:=Sl.kW (S:=fun _=>True) h.own (fun _ _=>trivial);obtain⟨_,A',c',hv,h1,h2,hu⟩:=hs;rcases h.own.2 with ⟨rfl,h0⟩|⟨g,cap,cur,rfl,_,hg,_⟩
 ·omega
 ·obtain⟨b,o,hA,_,hc⟩:=hu zw
  subst hA;injection hv with hv _ hc';subst hc';injection hv with hv;injection hv with hb ho _;subst hb ho;obtain⟨q0,q1,q2,q3,q4⟩:=qnu L i x hx;have hby:=h.byt x (List.mem_of_getElem? hx);obtain⟨A,c,hxv,_,_⟩:=hby.form;rw [hxv] at q4 hby;have z:∀ j u,(prs L)[j]?=some u->w.cell? ⟨g,j,none⟩=some u:=fun j u h=>by have:=hc j u h;rwa [Nat.zero_add] at this
  exact⟨g,cap,A,c,rfl,hlt,h1,h2,⟨z _ _ q0,z _ _ q1,z _ _ q2,z _ _ q3,z _ _ q4,hby⟩⟩
theorem Pr.one_{S:Nat->Prop}{w:World}{v:Value}{L:List (Prt × Value)}{p:Prt}(h:Pr S w v L)(hL:L.map (·.1)=[p]):∃ b k A c,v = .slice (some ⟨b,0,none⟩) 1 k/\1<=k/\k<=maxLen /\
  w.cell? ⟨b,0,none⟩=some (.int .i64 p.flags)/\w.cell? ⟨b,1,none⟩=some (.int .u32 p.seq)/\w.cell? ⟨b,2,none⟩=some (.int .u32 p.ack)/\w.cell? ⟨b,3,none⟩=some (.int .u16 p.win)/\w.cell? ⟨b,4,none⟩=some (.slice A p.d.length c)/\Byt S w (.slice A p.d.length c) p.d:=by
 have hl:L.length=1:=by have:=congrArg List.length hL;simpa using this
 obtain⟨b,k,A,c,hv,_,h1,h2,q⟩:=h.at_ (i:=0) (p:=p) (by rw [hL];rfl);rw [hl] at hv h1;exact⟨b,k,A,c,hv,h1,h2,by simpa using q.c0,by simpa using q.c1,by simpa using q.c2,by simpa using q.c3,by simpa using q.c4,q.byt⟩
theorem Pr.none_{S:Nat->Prop}{w:World}{v:Value}{L:List (Prt × Value)}(h:Pr S w v L)(hL:L.map (·.1)=[]):∃ A k,v = .slice A 0 k:=by
 have hl:L.length=0:=by have:=congrArg List.length hL;simpa using this
 obtain⟨A,k,hv,_⟩:=qY h.own;exact⟨A,k,by rw [hv,hl]⟩
def DPost(S:Nat->Prop)(w:World)(Ha Hb:Hd)(xb:St)(r:St × List Prt × Int)(e:Ending)(w':World):Prop:=
 ∃ v S' Ha' L,e = .returned (.tuple #[v, .int .i64 r.2.2])/\L.map (·.1)=r.2.1/\Ext w S S'/\Hd.like w Ha Ha'/\Duo S' w' Ha' Hb r.1 xb/\Pr S' w' v L/\(∀ b∈ob v,w.heap.size<=b/\¬ S' b)/\Fr Ha.own w w'
theorem Duo.calls{S:Nat->Prop}{w w':World}{Ha Hb:Hd}{xa xb:St}{r:St × List Prt × Int}{e:Ending}(d:Duo S w Ha Hb xa xb)(h:xq S w Ha r e w'):DPost S w Ha Hb xb r e w':=by
 obtain⟨v,he,h⟩:=h;obtain⟨S',Ha',L,hL,x,lk,d',p,n,f⟩:=d.call h;exact⟨v,S',Ha',L,he,hL,x,lk,d',p,n,f⟩
theorem qap{S:Nat->Prop}{w:World}{Ha Hb:Hd}{xa xb:St}(d:Duo S w Ha Hb xa xb)(ok:Ok xa)(p:Prt)(hw:0<=p.win/\p.win<65536)(A:Option Addr)(c:Nat)(hd:Byt S w (.slice A p.d.length c) p.d) :
  Calls Tryz.prog 16 #[ptr Ha.g,agP p (.slice A p.d.length c)] w (DPost S w Ha Hb xb (zF xa p)):=
 (qfi d.a ok p hw.1 hw.2 A c S hd (fun b hb=>⟨fun hm=>d.a.off b hm hb,d.pub b hb⟩)).mono fun _ _ h=>d.calls h
theorem qlj{S:Nat->Prop}{w:World}{Ha Hb:Hd}{xa xb:St}(d:Duo S w Ha Hb xa xb)(ok:Ok xa)(b:List Int)(hal:xa.all.length<=990000)(A:Option Addr)(c:Nat)(T:Nat->Prop)(hd:Byt T w (.slice A b.length c) b) :
  Calls Tryz.prog 17 #[ptr Ha.g, .slice A b.length c] w (DPost S w Ha Hb xb (zZ xa b)):=
 (qgv d.a ok.s b hal A c T hd).mono fun _ _ h=>d.calls h
def xG(p:Prt):Bool:=decide (0<=p.flags) && (decide (p.flags<=15) && decide (p.d.length<=64))
theorem qnv(w:World)(p:Prt)(A:Option Addr)(dc:Nat):Calls Tryz.prog 28 #[agP p (.slice A p.d.length dc)] w fun e w'=>e = .returned (.bool (xG p))/\Fr [] w w':=by
 have f0:Fr [] w (w.alloc (.cells (arP p (.slice A p.d.length dc)) 49)):=(Fr.refl [] w).alloc _;have b0:Blk (w.alloc (.cells (arP p (.slice A p.d.length dc)) 49)) w.heap.size 49 (arP p (.slice A p.d.length dc)):=Blk.new w _ _;have c0:=b0.cell 0;have c4:=b0.cell 4;simp only [arP,List.getElem?_toArray,List.getElem?_cons_zero,List.getElem?_cons_succ] at c0 c4;have hr:xG p=(decide (0<=p.flags) && (decide (p.flags<=15) && decide (p.d.length<=64))):=rfl;generalize xG p=rv at *
 have HR:=hI hr;clear hr b0;by_cases h1:0<=p.flags
 ·by_cases h2:p.flags<=15
  ·by_cases h3:p.d.length<=64
   ·have hv:rv=true:=by rw [HR.out];simp [h1,h2,h3]
    have d3:decide ((p.d.length:Int)<=64)=true:=decide_eq_true zw;subst hv;clear HR;go_enter Tryz.func28,Tryz.ntmps28;go_wp2_with fail
    go_ret;exact⟨rfl,f0⟩
   ·have hv:rv=false:=by rw [HR.out];simp [h3]
    have d3:decide ((p.d.length:Int)<=64)=false:=decide_eq_false zw;subst hv;clear HR;go_enter Tryz.func28,Tryz.ntmps28;go_wp2_with fail
    go_ret;exact⟨rfl,f0⟩
  ·have hv:rv=false:=by rw [HR.out];simp [h2]
   subst hv;clear HR;go_enter Tryz.func28,Tryz.ntmps28;go_wp2_with fail
   go_ret;exact⟨rfl,f0⟩
 ·have hv:rv=false:=by rw [HR.out];simp [h1]
  subst hv;clear HR;go_enter Tryz.func28,Tryz.ntmps28;go_wp2_with fail
  go_ret;exact⟨rfl,f0⟩
theorem qeb{S1 S2:Nat->Prop}{w:World}{va vb:Value}{La Lb:List (Prt × Value)}(pa:Pr S1 w va La)(pb:Pr S2 w vb Lb)(h:La.map (·.1)=Lb.map (·.1)) :
  Calls Tryz.prog 30 #[va,vb] w fun e w'=>e = .returned (.bool true)/\Fr [] w w':=by
 have hl:Lb.length=La.length:=by have:=congrArg List.length h;simpa using this.symm
 obtain⟨A,ca,rfl,hca1,hca2⟩:=qY pa.own;obtain⟨B,cb,rfl,hcb1,hcb2⟩:=qY pb.own;rw [hl] at hcb1 |-
 have PA:=hI pa;have PB:=hI pb;have HH:=hI h;have HL:=hI hl;generalize hn:La.length=n at *
 have HN:=hI hn;unfold maxLen at hca2 hcb2;clear pa pb h hl hn;go_enter Tryz.func30,Tryz.ntmps30;go_wp2_with fail
 go_loopw [5] (fun s5 wr=>∃ k:Nat,k<=n/\s5 = .int .i64 k/\Fr [] w wr) (fun s5 _=>n - (intOf s5).toNat);case atStart=>exact⟨0,zw,rfl,Fr.refl _ _⟩
 case round=>
  obtain⟨k,hk,rfl,fw⟩:=hrel;by_cases hlt:k<n
  ·obtain⟨p,hp⟩:∃ p,(La.map (·.1))[k]?=some p:=⟨_,List.getElem?_eq_getElem (by rw [List.length_map,HN.out];exact hlt)⟩
   obtain⟨b1,k1,A1,c1,hv1,i1,i2,i3,q1⟩:=(PA.out.fr fw zs zs (fun _ h=>h)).at_ hp;obtain⟨b2,k2,A2,c2,hv2,j1,j2,j3,q2⟩:=(PB.out.fr fw zs zs (fun _ h=>h)).at_ (by rw [<- HH.out];exact hp);injection hv1 with hv1 e1 e2;injection hv2 with hv2 e3 e4;subst hv1 hv2;clear e1 e2 e3 e4;have s1:=fun m:Nat=>(q1.byt.fr ((Fr.refl [] wr).drewN m) zs).string (P:=Tryz.prog) 30 5 Tryz.underlying30 Tryz.underlying5 9 Tryz.underlying9;have s2:=fun m:Nat=>(q2.byt.fr ((Fr.refl [] wr).drewN m) zs).string (P:=Tryz.prog) 30 5 Tryz.underlying30 Tryz.underlying5 9 Tryz.underlying9;obtain⟨x0,x1,x2,x3,x4,r1⟩:=q1;obtain⟨y0,y1,y2,y3,y4,r2⟩:=q2;have dk:decide ((k:Int)<(n:Int))=true:=by simpa using hlt
   clear r1 r2 i1 i2 i3 j1 j2 j3 PA PB HL HN HH;generalize strOfNums p.d=str at *
   generalize p.d.length=dl at *
   have FW:=hI fw;clear hp fw;go_upto_region 6 with fail
   go_quiet (fail)
   go_wp2_with fail
   go_roundw;case rel=>exact⟨k+1,zw,by go_num,by first|exact FW.out.drewN _|exact FW.out.trans (by assumption) zs⟩
   case measure=>simp [intOf];omega
  ·obtain rfl:n=k:=zw
   go_wp2_with fail
   go_ret;exact⟨rfl,fw⟩
theorem qgx:∀(k:Nat) (x:St),(zQ k x).2.length<=k
 | 0,x=>Nat.le_refl _
 | k+1,x=>by
  by_cases h:0<zG x
  ·rw [xw k x h]
   have:=qgx k (zO x).1;simp only [List.length_cons];omega
  ·rw [jT _ x h]
   simp
theorem qlk(x:St):(qU x).2.length<=x.all.length+1:=by
 by_cases h:x.at_=4
 ·rw [jC x h]
  have:=qgx x.all.length x;have h2:(zi (zQ x.all.length x).1).2.length<=1:=by unfold zi;split <;> simp
  simp only [List.length_append];omega
 ·rw [jD x h]
  simp
theorem Pr.cat{S:Nat->Prop}{w w':World}{v v1 v2:Value}{L1 L2:List (Prt × Value)}(own:w'.ownsRow 0 49 5 v (L1.length+L2.length) (prs L1++prs L2))(h1:Pr S w v1 L1)(h2:Pr S w v2 L2)(f:Fr [] w w'):Pr S w' v (L1++L2):=by
 refine⟨by rw [List.length_append,<- qet];exact own,fun x hx=>?_⟩;rcases List.mem_append.1 hx with h|h
 ·exact (h1.byt x h).fr f zs
 ·exact (h2.byt x h).fr f zs
theorem ecome{S:Nat->Prop}{w:World}{x:St}{av uv kv:Value}(m:RE S w x av uv kv)(ok:Ok x)(ou:OkU x)(bk:x.broken=true->x.at_=5)(p:Prt)(f0:0<=p.flags)(f1:p.flags<=15)(s0:0<=p.seq)(s1:p.seq<4294967296)(k0:0<=p.ack)(k1:p.ack<4294967296)(r0:0<=p.win)(r1:p.win<65536)(hdl:p.d.length<=100)
  (DA:Option Addr) (dc:Nat) (T:Nat->Prop) (hd:Byt T w (.slice DA p.d.length dc) p.d) (hT:∀ b,T b->b<w.heap.size):Calls Tryz.prog 29 #[agE x av uv kv,agP p (.slice DA p.d.length dc)] w (EL S w ((qU (qV x p).1).1,(qV x p).2++(qU (qV x p).1).2)):=by
 have o1:=m.qN;have hcl:=qdv x p;have okY:=Ok.comes ok p hdl;have ouY:=ou.kqt (Kqt.comes x p).1 s0 s1;have bkY:=qgo bk p;have hco:=fun W (g:Fr [] w W)=>ecomes (m.fr g) ok ou p f0 f1 s0 s1 k0 k1 r0 r1 hdl DA dc T (hd.fr g zs) (fun b hb=>Nat.lt_of_lt_of_le (hT b hb) g.size);obtain⟨pf,ps,pk,pw,pd⟩:=p;dsimp only at hdl hd hco |-
 obtain⟨l0,b0⟩:=Lo.yx w (arE x av uv kv) #[.int .i64 pf, .int .u32 ps, .int .u32 pk, .int .u16 pw, .slice DA pd.length dc];generalize qV x ⟨pf,ps,pk,pw,pd⟩=Y at *
 obtain⟨y,Yl⟩:=Y;dsimp only at hcl okY ouY bkY hco |-
 have hsl:=qlk y;have hsn:=yU y;have hes:=fun (S1:Nat->Prop) (W:World) (a1 u1 k1:Value) (m1:RE S1 W y a1 u1 k1)=>qib m1 okY.s ouY bkY;have hyl:=okY.s.hl;generalize qU y=R at *
 have HCO:=hI hco;have HES:=hI hes;have HSN:=hI hsn;have HLE:Hid (Yl.length<=1/\R.2.length<=1000001):=hI ⟨hcl,zw⟩;have L0:=hI l0;have B0:=hI b0;have NS0:Hid (∀ b,S b->b<w.heap.size):=hI m.pub;clear hco hes l0 b0 m ok ou bk okY ouY bkY hcl hsl hsn hyl hd hT f0 f1 s0 s1 k0 k1 r0 r1 hdl;go_enter Tryz.func29,Tryz.ntmps29;go_upto_region 1 with fail
 generalize ((w.alloc (.cells (arE x av uv kv) 41)).alloc (.cells #[.int .i64 pf, .int .u32 ps, .int .u32 pk, .int .u16 pw, .slice DA pd.length dc] 49)).alloc (.cells qy 41)=w1 at *
 have L1:Hid (∀ W,Fr [] w1 W->Lo w W w.heap.size (w.heap.size+1+1) (arE x av uv kv)):=hI (fun W f=>L0.out.grow f);have B1:Hid (∀ W,Fr [] w1 W->Blk W (w.heap.size+1) 49 #[.int .i64 pf, .int .u32 ps, .int .u32 pk, .int .u16 pw, .slice DA pd.length dc]):=hI (fun W f=>B0.out.fr f zs);clear L0 B0;go_upto_region 2 with (first
   | ((with_reducible refine qj 41 (.tmp 2) ?_);refine qf rfl 41 (.tmp 2) rfl w.heap.size 41 (arE x av uv kv) _ rfl (L1.out _ zf).s Tryz.underlying41 rfl zk ?_)|((with_reducible refine qj 49 (.tmp 3) ?_);refine qf rfl 49 (.tmp 3) rfl (w.heap.size+1) 49 #[.int .i64 pf, .int .u32 ps, .int .u32 pk, .int .u16 pw, .slice DA pd.length dc] _ rfl (B1.out _ zf) Tryz.underlying49 rfl zk ?_)|(go_at_call 70;refine (HCO.out _ (L1.out _ (Fr.refl _ _)).f).mono ?_;rintro e w5 ⟨S1,a1,u1,k1,v1,Lc,rfl,hLc,x1,m1,p1,f5⟩;have o2:=m1.qN)|((with_reducible refine qi 41 (.tmp 6) ?_);refine qc rfl 41 (.tmp 6) (.tmp 13) rfl w5.heap.size 41 qy (arE y a1 u1 k1) rfl rfl (Blk.new w5 41 qy) rfl zk zq ?_;intro w6 B6 F6))
 have hpub:=m1.pub;have NSB6:Hid (¬ S1 w5.heap.size):=hI (fun hs=>by have:=hpub _ hs;omega);have OB6:Hid (∀ b∈ob v1,b≠w5.heap.size):=hI (fun b hb=>by have:=kG p1.own (qo.1 hb);omega);have hob1:∀ b∈ob v1,b<w5.heap.size:=fun b hb=>kG p1.own (qo.1 hb);have fa:Fr [] w5 (w5.alloc (.cells qy 41)):=(Fr.refl [] w5).alloc _;have M6:=hI ((m1.fr fa).far F6 (fun hs=>by have:=hpub _ hs;omega));have P6:=hI ((p1.fr fa zs zs (fun _ h=>h)).fr F6 (fun z hz hs=>by simp at hz;subst hz;have:=hpub _ hs;omega) (fun b hb hm=>by simp at hm;have:=hob1 b hb;omega) (fun _ h=>h));have LL5:=L1.out _ f5;have L6:Hid (Lo w w6 w.heap.size (w.heap.size+1+1) (arE x av uv kv)):=hI ((LL5.grow fa).far F6 (by have:=LL5.f.size;omega) (by have:=LL5.s.lt;omega) (by have:=LL5.r.lt;omega));have X6:Hid (Ext w S S1):=hI (kM x1 (by first|exact (L1.out _ (Fr.refl _ _)).f.size|exact Nat.le_refl _));have N6:Hid (w.heap.size+1+1<w5.heap.size):=hI LL5.r.lt;have NSR:Hid (¬ S1 (w.heap.size+1+1)):=hI (fun hs=>(x1.2 _ hs).elim (fun h=>by have:=NS0.out _ h;omega) (fun h=>by have:=(L1.out _ (Fr.refl _ _)).r.lt;omega));have OBR:Hid (∀ b∈ob v1,b≠w.heap.size+1+1):=hI (fun b hb=>by rintro rfl;exact own_ne p1.own LL5.r zd (qo.1 hb));have HLc:=hI hLc;have HES6:Hid (∀ W,Fr [] w6 W->Calls Tryz.prog 71 #[agE y a1 u1 k1] W (vS S1 W R a1 u1 k1)):=hI (fun W f=>HES.out S1 W a1 u1 k1 (M6.out.fr f));obtain⟨A1,c1,rfl,hc1,hc2⟩:=qY p1.own;have hLcl:Hid (Lc.length=Yl.length):=hI (by have:=congrArg List.length hLc;simpa using this);have V6:Hid (∀ W,Fr [] w6 W->Blk W w5.heap.size 41 (arE y a1 u1 k1)):=hI (fun W f=>B6.fr f zs)
 generalize w5.heap.size=b6 at *
 clear hpub hob1 fa LL5 m1 p1 x1 f5 B6 F6 hLc HCO HES L1 B1 hc1 hc2;go_upto_region 3 with (first
   | ((with_reducible refine qj 41 (.tmp 6) ?_);refine qf rfl 41 (.tmp 6) rfl b6 41 (arE y a1 u1 k1) _ rfl (V6.out _ zf) Tryz.underlying41 rfl zk ?_)|(go_at_call 71;refine (HES6.out _ (Fr.refl _ _)).mono ?_;rintro e w8 ⟨v2,Ls,rfl,hLs,p2,f8⟩)|((with_reducible refine qi 41 (.tmp 6) ?_);refine qc rfl 41 (.tmp 6) (.tmp 18) rfl b6 41 (arE y a1 u1 k1) (arE R.1 a1 u1 k1) rfl rfl (V6.out _ f8) rfl zk zq ?_;intro w9 B9 F9))
 have p9:=p2.fr F9 (fun z hz hs=>by simp at hz;subst hz;exact NSB6.out hs) (fun b hb hm=>by simp at hm;subst hm;exact own_ne p2.own (V6.out _ f8) zd (qo.1 hb)) (fun _ h=>h);have q9:=(P6.out.fr f8 zs zs (fun _ h=>h)).fr F9 (fun z hz hs=>by simp at hz;subst hz;exact NSB6.out hs) (fun b hb hm=>by simp at hm;exact OB6.out b hb hm) (fun _ h=>h);have m9:=((M6.out.fr f8).far F9 NSB6.out).to_ (y:=R.1) HSN.out.1 HSN.out.2.1 HSN.out.2.2;have L9:=hI ((L6.out.grow f8).far F9 (by have:=N6.out;omega) (by have:=N6.out;omega) (by have:=N6.out;omega));have V9:=hI B9;obtain⟨A2,c2,rfl,hc3,hc4⟩:=qY p2.own;have hLsl:Hid (Ls.length=R.2.length):=hI (by have:=congrArg List.length hLs;simpa using this);have OBR2:Hid (∀ b∈ob (.slice A2 Ls.length c2),b≠w.heap.size+1+1):=hI (fun b hb=>by rintro rfl;exact own_ne p9.own L9.out.r zd (qo.1 hb));have HL12:Hid (Lc.map (·.1)++Ls.map (·.1)=Yl++R.2):=hI (by rw [HLc.out,hLs]);have HN1:Hid (Lc.length<=1/\Ls.length<=1000001):=hI (by have:=HLE.out;have:=hLcl.out;have:=hLsl.out;omega);have Q9:=hI q9;have P9:=hI p9;have M9:=hI m9;clear p2 f8 F9 B9 p9 q9 m9 hLs hLsl hLcl hc3 hc4 HLE HSN P6 M6 V6 L6 HES6 HLc;go_cut [5] (fun sl wx=>∃ L,L.map (·.1)=Yl++R.2/\RE S1 wx R.1 a1 u1 k1/\Pr S1 wx sl L/\Blk wx (w.heap.size+1+1) 41 (arE R.1 a1 u1 k1)/\Fr [w.heap.size+1+1] w9 wx);case first=>
  obtain⟨i0,hi0,hz0,hz1,hz2⟩:=info_parts jI;refine wp_region_held_drew (S:=fun W=>Fr [w.heap.size+1+1] w9 W) zk (Fr.refl _ w9).drew (fun hH=>?_);have fd:Fr [] w9 w9.drew:=(Fr.refl [] w9).drew;generalize w9.drew=wd at *
  refine Held.take 0 rfl zk zk zk (fun _ _ _ h=>h) (Held.yc rfl 41 (.tmp 6) rfl b6 41 (arE R.1 a1 u1 k1) _ rfl (fun _ hs=>V9.out.fr hs (by have:=N6.out;simp;omega)) Tryz.underlying41 rfl zk) hH ?_;try simp only [Act.put,zqA,zqB,zqC]
  refine Held.take 1 (v := .slice A1 Lc.length c1) rfl zk zk zk (fun _ _ _ h=>h) (Or.inl ⟨rfl,fun (W:World) hs=>by go_simp⟩) hH ?_;try simp only [Act.put,zqA,zqB,zqC]
  refine Held.take 3 (v := .slice A2 Ls.length c2) rfl zk zk zk (fun _ _ _ h=>h) (Or.inl ⟨rfl,fun (W:World) hs=>by go_simp⟩) hH ?_;try simp only [Act.put,zqA,zqB,zqC]
  refine Held.one (i:=2) zk rfl (fun K hK=>?_);refine zn _ zr (.const (.slice none 0 0)) (.tmp 21) 27 zr 49 i0 (.agg #[.int .i64 0, .int .u32 0, .int .u32 0, .int .u16 0, .slice none 0 0]) 5 48 Tryz.underlying27 hi0 hz0 hz1 hz2 zr zd (.slice none 0 0) 0 [] zr (World.ownsRow_nil _ 0 49 5) (fun _=>True) (.slice A1 Lc.length c1) Lc.length (prs Lc) zr (Sl.kW (Q9.out.fr fd zs zs (fun _ h=>h)).own (fun _ _=>trivial)) Q9.out.one (by unfold maxLen;have:=HN1.out;omega) (by have:=HN1.out;omega) Lc.length (Nat.zero_add _) ?_;intro A3 c3 wa g1 g2 g3;refine hK.out _ _ ((fd.trans g2 zb).mono zs) (fun hA=>?_);clear hK K;try simp only [Act.put,zqA,zqB,zqC]
  have fa:Fr [] w9 wa:=fd.trans g2 zb;clear hH;refine Held.one (i:=4) zk rfl (fun K hK=>?_);refine zn _ zr (.tmp 22) (.tmp 23) 27 zr 49 i0 (.agg #[.int .i64 0, .int .u32 0, .int .u32 0, .int .u16 0, .slice none 0 0]) 5 48 Tryz.underlying27 hi0 hz0 hz1 hz2 zr zd (.slice A3 Lc.length c3) Lc.length ([]++prs Lc) zr g1 (fun _=>True) (.slice A2 Ls.length c2) Ls.length (prs Ls) zr (Sl.kW (P9.out.fr fa zs zs (fun _ h=>h)).own (fun _ _=>trivial)) P9.out.one (by unfold maxLen;have:=HN1.out;omega) (by have:=HN1.out;omega) (Lc.length+Ls.length) rfl ?_;intro A4 c4 wb g4 g5 g6;refine hK.out _ _ ((fa.trans g5 (fun b hb=>by rcases g3 b (qo.1 hb) with h|h;(simp [Value.ownBlock] at h);exact .inr (Nat.le_trans fd.size h.1))).mono zs) (fun hB=>?_);clear hK K;try simp only [Act.put,zqA,zqB,zqC]
  have fb:Fr [] w9 wb:=fa.trans g5 (fun b hb=>by rcases g3 b (qo.1 hb) with h|h;(simp [Value.ownBlock] at h);exact .inr (Nat.le_trans fd.size h.1));clear hA;have pc:Pr S1 wb (.slice A4 (Lc.length+Ls.length) c4) (Lc++Ls):=Pr.cat (by rw [List.nil_append] at g4;exact g4) Q9.out P9.out fb;have obc:∀ b∈ob (.slice A4 (Lc.length+Ls.length) c4),w9.heap.size<=b:=fun b hb=>by
   rcases g6 b (qo.1 hb) with h|h
   ·rcases g3 b h with h1|h1
    ·simp [Value.ownBlock] at h1
    ·exact Nat.le_trans fd.size h1.1
   ·exact Nat.le_trans fa.size h.1
  refine Held.one (i:=5) zk rfl (fun K hK=>?_);refine Held.vY rfl 41 (.tmp 4) (.tmp 20) rfl (w.heap.size+1+1) 41 qy (arE R.1 a1 u1 k1) rfl rfl (L9.out.r.fr fb zs) rfl zk zq ?_;intro wz Bz Fz;refine hK.out _ _ (hB.trans Fz (fun z hz => .inl hz)) (fun hC=>?_);clear hK K;try simp only [Act.put,zqA,zqB,zqC]
  refine Held.take 6 (v := .slice A4 (Lc.length+Ls.length) c4) rfl zk zk zk (fun _ _ _ h=>h) (Or.inl ⟨rfl,fun (W:World) hs=>by go_simp⟩) hC ?_;try simp only [Act.put,zqA,zqB,zqC]
  refine Held.done zk ?_;go_wp2_with fail
  go_meet;have hrl:=L9.out.r.lt;exact⟨Lc++Ls,by rw [List.map_append];exact HL12.out,(M9.out.fr fb).far Fz NSR.out,pc.fr Fz (fun z hz hs=>by simp at hz;subst hz;exact NSR.out hs) (fun b hb hm=>by simp at hm;have:=obc b hb;omega) (fun _ h=>h),Bz,hC⟩
 case rest=>
  obtain⟨L,hL,mz,pz,Bz,Fz⟩:=hcut;have FW:=(L9.out).res Fz;refine ‹∀(a:Act) (w:World),Code.wp Tryz.prog Code.ret _ a w->_› _ _ (wp_ret ?_);try simp only [Exit.then]
  change bodyPost Tryz.prog _ _ .ret _ _;refine bodyPost_ret (qx 4 41 ⟨w.heap.size+1+1,0,none⟩ _ 5 u5 zr zr (qw Bz) zr) zr ?_;exact⟨S1,a1,u1,k1,_,L,rfl,hL,X6.out,mz,pz,FW⟩
end Go.Proofs.YtmgdbbbdhkfdmaaGreat
