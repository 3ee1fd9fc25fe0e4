import Derived.Test.YtmgdbbbdhkfdmaaGreatYS13
import Derived.Deep.DeepCutAuto
set_option linter.unusedSimpArgs false
set_option linter.unusedVariables false
namespace Go.Proofs.YtmgdbbbdhkfdmaaGreat
set_option maxRecDepth 100000
open Go.RowKit Go.Deep
theorem rapp_post{S:Nat→Prop}{w W W2:World}{kv:Value}{h:Hp}{L:List (Pc × Value)}{a:Int}{d:List Int}{KA DA:Option Addr}{N KC DC:Nat}(r:RPx S w kv h L)(F:Fr [] w W)(F2:Fr [w.heap.size+1] W W2)(hN:L.length+1=N)
  (hk:W.ownsRow 0 162 2 (.slice KA N KC) N (pcs L++[.int .i64 a, .slice DA d.length DC])) (hd:W.ownsRow 0 5 1 (.slice DA d.length DC) d.length (byts d)) (b1:Blk W (w.heap.size+1) 39 (arR 0 0 (.slice none 0 0) 0))
  (fd:∀ b,(Value.slice DA d.length DC).ownBlock=some b→w.heap.size≤b) (fk:∀ b,(Value.slice KA N KC).ownBlock=some b→w.heap.size≤b) :
  RPutPost S w { h with kept:=h.kept++[⟨a,d⟩] } [] 0 (.returned (.tuple #[agR h.most h.next (.slice KA N KC) (finI h.fin), .slice none 0 0, .int .i64 0])) W2:=by
 have f:Fr [] w W2:=F.trans F2 (by intro x hx;simp at hx;subst hx;exact .inr (by omega))
 have hd2:=own_fr hd F2 (fun b hb=>by simp;rintro rfl;exact own_ne hd b1 (by decide) hb)
 have hk2:=own_fr hk F2 (fun b hb=>by simp;rintro rfl;exact own_ne hk b1 (by decide) hb)
 have hdat:Byt (fun b=>S b∨(Value.slice DA d.length DC).ownBlock=some b∨(Value.slice KA N KC).ownBlock=some b) W2 (.slice DA d.length DC) d:=Sl.of_own hd2 (fun b h => .inr (.inl h))
 refine⟨fun b=>S b∨(Value.slice DA d.length DC).ownBlock=some b∨(Value.slice KA N KC).ownBlock=some b, .slice KA N KC,none,0,L++[(⟨a,d⟩, .slice DA d.length DC)],rfl,⟨fun b h => .inl h,?_⟩,Byt.nil,⟨⟨?_,?_⟩,by simp [r.kept],fun b hb => .inr (.inr hb),?_⟩,f⟩
 ·rintro b (h|h|h)
  ·exact .inl h
  ·exact .inr (fd b h)
  ·exact .inr (fk b h)
 ·rw [List.length_append,← pcs_app]
  subst hN
  exact hk2
 ·intro x hx
  rcases List.mem_append.1 hx with hx|hx
  ·exact ((r.kp.byt x hx).fr f (by simp)).mono fun b h => .inl h
  ·rw [List.mem_singleton] at hx
   subst hx
   exact hdat
 ·rintro b (h|h|h)
  ·exact Nat.lt_of_lt_of_le (r.pub b h) f.size
  ·exact own_lt hd2 h
  ·exact own_lt hk2 h
theorem fresh_of{v:Value}{k n:Nat}(h:∀ b,v.ownBlock=some b→(Value.slice none 0 0).ownBlock=some b∨(k≤b∧b<n)):∀ b,v.ownBlock=some b→k≤b:=fun b hb=>by
 rcases h b hb with h|h
 ·simp [Value.ownBlock] at h
 ·exact h.1
theorem rapp_facts{w wr w8 wa w10:World}{a0 a1 f:Int}{kv:Value}{z:Array Value}{A8 A9 A10:Option Addr}{n C8 m C9 N C10:Nat}{xs bs ys:List Value}(Fk:Fr [] w wr)(F8:Fr [] wr w8)(F9:Fr [] wr wa)
  (hK:wa.ownsRow 0 162 2 (.slice A8 n C8) n xs) (hD:wa.ownsRow 0 5 1 (.slice A9 m C9) m bs) (n8:∀ b,(Value.slice A8 n C8).ownBlock=some b→(Value.slice none 0 0).ownBlock=some b∨(wr.heap.size≤b∧b<w8.heap.size))
  (n9:∀ b,(Value.slice A9 m C9).ownBlock=some b→w8.heap.size≤b) (bx:Blk wr w.heap.size 39 (arR a0 a1 kv f)) (bz:Blk wr (w.heap.size+1) 39 z)
  (h16:w10.ownsRow 0 162 2 (.slice A10 N C10) N ys) (h17:Fr (ob (.slice A8 n C8)) wa w10) (n10:∀ b,(Value.slice A10 N C10).ownBlock=some b→(Value.slice A8 n C8).ownBlock=some b∨(wa.heap.size≤b∧b<w10.heap.size)) :
  w10.cell? ⟨w.heap.size,0,none⟩=some (.int .i64 a0)∧w10.cell? ⟨w.heap.size,1,none⟩=some (.int .i64 a1)∧w10.cell? ⟨w.heap.size,2,none⟩=some kv∧w10.cell? ⟨w.heap.size,3,none⟩=some (.int .i64 f)∧w10.frozen? ⟨w.heap.size,2,none⟩=false∧w.heap.size<w10.heap.size ∧
  (Fr [] w (w10.setCell ⟨w.heap.size,2,none⟩ (.slice A10 N C10))∧(w10.setCell ⟨w.heap.size,2,none⟩ (.slice A10 N C10)).ownsRow 0 162 2 (.slice A10 N C10) N ys∧(w10.setCell ⟨w.heap.size,2,none⟩ (.slice A10 N C10)).ownsRow 0 5 1 (.slice A9 m C9) m bs ∧
   Blk (w10.setCell ⟨w.heap.size,2,none⟩ (.slice A10 N C10)) (w.heap.size+1) 39 z∧(∀ b,(Value.slice A9 m C9).ownBlock=some b→w.heap.size≤b)∧(∀ b,(Value.slice A10 N C10).ownBlock=some b→w.heap.size≤b)):=by
 have s1:w.heap.size≤wr.heap.size:=Fk.size
 have s2:wr.heap.size≤w8.heap.size:=F8.size
 have s3:wr.heap.size≤wa.heap.size:=F9.size
 have m8:∀ b,(Value.slice A8 n C8).ownBlock=some b→wr.heap.size≤b:=fun b hb=>by
  rcases n8 b hb with h|h
  ·simp [Value.ownBlock] at h
  ·exact h.1
 have f:Fr [] wr w10:=F9.trans h17 (fun x hx => .inr (m8 x (mem_ob.1 hx)))
 have bx':=bx.fr f (by simp)
 have bz':=bz.fr f (by simp)
 obtain⟨c0,c1,c2,c3⟩:=cells4 bx'
 have fs:Fr [w.heap.size] w10 (w10.setCell ⟨w.heap.size,2,none⟩ (.slice A10 N C10)):=(Fr.refl _ _).setCell (p:=⟨w.heap.size,2,none⟩) (.inl (by simp)) _
 refine⟨c0,c1,c2,c3,bx'.frozen 2,bx'.lt,?_,?_,?_,bz'.fr fs (by simp),fun b hb=>by have:=n9 b hb;omega,fun b hb=>?_⟩
 ·exact (Fk.trans f (by simp)).trans fs (by simp)
 ·exact own_fr h16 fs (fun b hb=>by simp;rintro rfl;exact own_ne h16 bx' (by decide) hb)
 ·have hD':=own_fr hD h17 (fun b hb hm=>own_ne2 hK hD (by decide) (mem_ob.1 hm) hb)
  exact own_fr hD' fs (fun b hb=>by simp;rintro rfl;exact own_ne hD' bx' (by decide) hb)
 ·rcases n10 b hb with h|h
  ·have:=m8 b h
   omega
  ·omega
set_option maxRecDepth 100000 in
set_option maxHeartbeats 2000000 in
theorem rput_app{S:Nat→Prop}{w:World}{kv:Value}{h:Hp}{L:List (Pc × Value)}(r:RPx S w kv h L)(a:Int)(dv:Value)(d:List Int)(T:Nat→Prop)(hd:Byt T w dv d)(hl:d.length≤1000000)(hL:L.length≤64)(h0:0≤a)(h1:a≤4611686018427387904)(h2:1≤d.length)(h3:d.length≤64)(h4:finI h.fin<0∨(0≤finI h.fin∧a+(d.length:Int)≤finI h.fin))(h5:h.next<a)(hany:h.kept.any (longer a d.length)=false)(hm:(L.length:Int)<h.most) :
  Calls Tryz.prog 137 #[agH h kv, .int .i64 a,dv] w (RPutPost S w { h with kept:=h.kept++[⟨a,d⟩] } [] 0):=by
 obtain⟨KA,KC,rfl,hKn,hKc⟩:=r.kp.form
 obtain⟨DA,DC,rfl,hdn,hdc⟩:=hd.form
 have r:=hI r
 have hd:=hI hd
 have b0:=(Blk.new w 39 (arR h.most h.next (.slice KA L.length KC) (finI h.fin))).alloc (.cells (arR 0 0 (.slice none 0 0) 0) 39)
 have b1:Blk ((w.alloc (.cells (arR h.most h.next (.slice KA L.length KC) (finI h.fin)) 39)).alloc (.cells (arR 0 0 (.slice none 0 0) 0) 39)) (w.heap.size+1) 39 (arR 0 0 (.slice none 0 0) 0):=by simpa using Blk.new (w.alloc (.cells (arR h.most h.next (.slice KA L.length KC) (finI h.fin)) 39)) 39 (arR 0 0 (.slice none 0 0) 0)
 have f0:Fr [] w ((w.alloc (.cells (arR h.most h.next (.slice KA L.length KC) (finI h.fin)) 39)).alloc (.cells (arR 0 0 (.slice none 0 0) 0) 39)):=((Fr.refl _ _).alloc _).alloc _
 have B0:=hI b0
 have B1:=hI b1
 have F0:=hI f0
 clear b0 b1 f0
 rw [r.out.kept] at hany
 have HANY:=hI hany
 clear hany
 rcases h4 with h4|⟨h4,h4b⟩
 all_goals
  go_enter Tryz.func137,Tryz.ntmps137
  go_wp2
  go_loopw [16] (fun s16 wr=>RLoopRel w (arR h.most h.next (.slice KA L.length KC) (finI h.fin)) a d.length (L.map (·.1)) s16 wr) (fun s16 _=>L.length - (intOf s16).toNat)
  case atStart=>exact⟨0,by omega,rfl,rfl,F0.out,B0.out,B1.out⟩
  case round=>
   obtain⟨k,hk,rfl,hany,fk,bx,bz⟩:=hrel
   rw [List.length_map] at hk
   obtain⟨c0,c1,c2,c3⟩:=cells4 bx
   have HA:=hI hany
   clear hany
   have Fk:=hI fk
   have Bx:=hI bx
   have Bz:=hI bz
   by_cases hlt:k<L.length
   ·obtain⟨b,_,x,hv,hx,d0,d1,hby⟩:=(r.out.kp.fr fk (by simp) (by simp)).at_ hlt
    injection hv with hv _ hc
    subst hv hc
    obtain⟨A,c,hxv,_,_⟩:=hby.form
    rw [hxv] at d1
    have hg:(L.map (·.1))[k]?=some x.1:=by simp [hx]
    have hov:longer a d.length x.1=((x.1.at_ == a) && decide (d.length≤x.1.d.length)):=rfl
    have HG:=hI hg
    have HO:=hI hov
    clear hov hg hx hxv hby fk bx bz
    have hl1:=World.block_lt_of_cell? wr _ d0
    cases hat:(x.1.at_ == a)
    ·go_wp2_with fail
     go_roundw
     case rel=>exact⟨k+1,by simp;omega,by go_num,by rw [any_take _ _ _ _ HG.out,HA.out,HO.out];simp [hat],Fk.out,Bx.out,Bz.out⟩
     case measure=>simp [intOf];omega
    ·by_cases hdl:d.length≤x.1.d.length
     ·have hyes:(L.map (·.1)).any (longer a d.length)=true:=List.any_eq_true.2 ⟨x.1,List.mem_of_getElem? HG.out,by rw [HO.out];simp [hat,hdl]⟩
      have hno:(L.map (·.1)).any (longer a d.length)=false:=HANY.out
      rw [hyes] at hno
      cases hno
     ·go_wp2_with fail
      go_roundw
      case rel=>exact⟨k+1,by simp;omega,by go_num,by rw [any_take _ _ _ _ HG.out,HA.out,HO.out];simp [hdl],Fk.out,Bx.out,Bz.out⟩
      case measure=>simp [intOf];omega
   ·obtain rfl:L.length=k:=by omega
    have hno:(L.map (·.1)).any (longer a d.length)=false:=by
     have:=HA.out
     rwa [List.take_of_length_le (by simp)] at this
    clear fk bx bz
    clear hno
    obtain⟨i1,hi1,hzA,hzB,hzC⟩:=info_parts info_rpc
    obtain⟨i0,hi0,hz0,hz1,hz2⟩:=info_parts info_u8
    have kpw:=r.out.kp.fr Fk.out (by simp) (by simp)
    have HS1:Hid (Sl (fun _=>True) wr 2 (.slice KA L.length KC) L.length (pcs L)):=hI (Sl.of_own kpw.own (fun _ _=>trivial))
    have HOne:=hI kpw.one
    have HBy:Hid (Byt T wr (.slice DA d.length DC) d):=hI (hd.out.fr Fk.out (by simp))
    clear kpw
    have HLm1:Hid (0+L.length≤maxLen):=hI (by unfold maxLen;omega)
    have HLb1:Hid ((0+L.length) * 32≤140737488355328):=hI (by omega)
    have HLm2:Hid (0+d.length≤maxLen):=hI (by unfold maxLen;omega)
    have HLb2:Hid ((0+d.length) * 1≤140737488355328):=hI (by omega)
    obtain⟨N,hN⟩:∃ N,L.length+1=N:=⟨_,rfl⟩
    have HN:=hI hN
    clear hN
    have HLm3:Hid (L.length+1≤maxLen):=hI (by unfold maxLen;omega)
    have HLb3:Hid ((L.length+1) * 32≤140737488355328):=hI (by omega)
    go_wp2_with (first
     | (at_builtin;refine wpList_append_sl _ rfl (.const (.slice none 0 0)) (.tmp 135) 37 rfl 162 i1 (.agg #[.int .i64 0, .slice none 0 0]) 2 32 Tryz.underlying37 hi1 hzA hzB hzC rfl (by decide) (.slice none 0 0) 0 [] (by rfl) (World.ownsRow_nil _ 0 162 2) (fun _=>True) (.slice KA L.length KC) L.length (pcs L) (by rfl) HS1.out HOne.out HLm1.out HLb1.out L.length (by omega) ?_;intro A8 C8 w8 h10 h11 h12;have f8:Fr [] wr w8:=(by simpa [ob,Value.ownBlock] using h11);have F8:=hI f8;have HB8:Hid (Byt T w8 (.slice DA d.length DC) d):=hI (HBy.out.fr f8 (by simp));have H10:=hI h10;have H12:=hI h12;clear h10 h11 h12 f8)
     | (at_builtin;refine wpList_append_sl _ rfl (.const (.slice none 0 0)) (.tmp 138) 30 rfl 5 i0 (.int .u8 0) 1 1 Tryz.underlying30 hi0 hz0 hz1 hz2 rfl (by decide) (.slice none 0 0) 0 [] (by rfl) (World.ownsRow_nil _ 0 5 1) T (.slice DA d.length DC) d.length (byts d) (by rfl) HB8.out (byts_one _) HLm2.out HLb2.out d.length (by omega) ?_;intro A9 C9 w9 h13 h14 h15;have f9:Fr [] w8 w9:=(by simpa [ob,Value.ownBlock] using h14);have F9:=hI ((F8.out.trans f9 (by simp)).alloc (.cells #[.int .i64 a, .slice A9 d.length C9] 162));have HK9:=hI (own_fr (own_fr H10.out f9 (by simp)) ((Fr.refl [] w9).alloc (.cells #[.int .i64 a, .slice A9 d.length C9] 162)) (by simp));have HD9:=hI (own_fr h13 ((Fr.refl [] w9).alloc (.cells #[.int .i64 a, .slice A9 d.length C9] 162)) (by simp));have HS9:Hid (Sl (fun _=>True) (w9.alloc (.cells #[.int .i64 a, .slice A9 d.length C9] 162)) 2 (.slice (some ⟨w9.heap.size,0,none⟩) 1 1) 1 [.int .i64 a, .slice A9 d.length C9]):=hI (Sl.of_own (World.ownsRow_lit (base:=0) (e:=162) (size:=2) w9 #[.int .i64 a, .slice A9 d.length C9] 1 (Nat.zero_le _) (by unfold maxLen;omega) rfl) (fun _ _=>trivial));have one2:∀ u∈([.int .i64 a, .slice A9 d.length C9]:List Value),u.oneCell'=true:=(by intro u hu;simp at hu;rcases hu with rfl|rfl <;> rfl);have H15:=hI (fresh_of h15);have hs9:w8.heap.size≤w9.heap.size:=f9.size;clear h13 h14 h15 f9)
     | (at_builtin;refine wpList_append_sl _ rfl (.tmp 136) (.tmp 141) 37 rfl 162 i1 (.agg #[.int .i64 0, .slice none 0 0]) 2 32 Tryz.underlying37 hi1 hzA hzB hzC rfl (by decide) (.slice A8 L.length C8) L.length ([]++pcs L) (by rfl) HK9.out (fun _=>True) (.slice (some ⟨w9.heap.size,0,none⟩) 1 1) 1 [.int .i64 a, .slice A9 d.length C9] (by rfl) HS9.out one2 HLm3.out HLb3.out N HN.out ?_;intro A10 C10 w10 h16 h17 h18;have hRP:=rapp_facts Fk.out F8.out F9.out HK9.out HD9.out H12.out H15.out Bx.out Bz.out h16 h17 h18;obtain⟨q0,q1,q2,q3,q4,q5,hx⟩:=hRP;have HX:=hI hx;clear h16 h17 h18 hx)
     | ((with_reducible refine gate_store 39 (.tmp 6) ?_);refine wpList_store_blk rfl 39 (.tmp 6) (.tmp 144) rfl (w.heap.size+1) 39 (arR 0 0 (.slice none 0 0) 0) (arR h.most h.next (.slice A10 N C10) (finI h.fin)) rfl rfl HX.out.2.2.2.1 rfl (by kernel_rfl) (by simp [Value.oneCell']) ?_;intro w2 B3 F3))
    obtain⟨r0,r1,r2,r3⟩:=cells4 B3
    refine bodyPost_ret (v := .tuple #[agR h.most h.next (.slice A10 N C10) (finI h.fin), .slice none 0 0, .int .i64 0]) (by simp [results,Tryz.results137,go_sem,r0,r1,r2,r3]) rfl ?_
    exact rapp_post r.out HX.out.1 F3 HN.out HX.out.2.1 HX.out.2.2.1 HX.out.2.2.2.1 HX.out.2.2.2.2.1 HX.out.2.2.2.2.2
end Go.Proofs.YtmgdbbbdhkfdmaaGreat
namespace Go.Proofs.YtmgdbbbdhkfdmaaGreat
set_option maxRecDepth 100000
open Go.RowKit
theorem rput_any{S:Nat→Prop}{w:World}{kv:Value}{h:Hp}{L:List (Pc × Value)}(r:RPx S w kv h L)(hi:Inv h)(a:Int)(dv:Value)(d:List Int)(T:Nat→Prop)(hd:Byt T w dv d)(hl:d.length≤1000000) :
  Calls Tryz.prog 137 #[agH h kv, .int .i64 a,dv] w (RPutPost S w (putV h a d).1 (putV h a d).2.1 (putV h a d).2.2):=by
 have hlen:h.kept.length≤64:=by have:=hi.len;have:=hi.m1;omega
 have hkl:h.kept.length=L.length:=by rw [r.kept,List.length_map]
 have hL:L.length≤64:=by omega
 unfold putV
 by_cases h0:a<0
 ·rw [if_pos (.inl h0)]
  exact rput_arg0 r a dv d T hd hl hL h0
 by_cases h1:4611686018427387904<a
 ·rw [if_pos (.inr (.inl h1))]
  exact rput_arg1 r a dv d T hd hl hL h1
 by_cases h2:d.length<1
 ·rw [if_pos (.inr (.inr (.inl h2)))]
  exact rput_arg2 r a dv d T hd hl hL (by omega) (by omega) h2
 by_cases h3:64<d.length
 ·rw [if_pos (.inr (.inr (.inr h3)))]
  exact rput_arg3 r a dv d T hd hl hL (by omega) (by omega) (by omega) h3
 rw [if_neg (by omega)]
 by_cases h4:past h.fin (a+d.length)=true
 ·rw [if_pos h4]
  obtain⟨e,he,hlt⟩:∃ e,h.fin=some e∧e<a+d.length:=by
   cases hf:h.fin with
   | none=>simp [past,hf] at h4
   | some e=>exact⟨e,rfl,by simpa [past,hf] using h4⟩
  have hf:=hi.fin e he
  have ef:finI h.fin=e:=by rw [he];rfl
  exact rput_past r a dv d T hd hl hL (by omega) (by omega) (by omega) (by omega) (by omega) (by omega)
 rw [if_neg h4]
 have h4':finI h.fin<0∨(0≤finI h.fin∧a+(d.length:Int)≤finI h.fin):=by
  cases hf:h.fin with
  | none=>exact .inl (by simp [finI])
  | some e=>
   have:=hi.fin e hf
   refine .inr ⟨by simp only [finI];omega,?_⟩
   simp [past,hf] at h4
   simp only [finI]
   omega
 by_cases h5:a+d.length≤h.next
 ·rw [if_pos h5]
  exact rput_low r a dv d T hd hl hL (by omega) (by omega) (by omega) (by omega) h4' h5
 rw [if_neg h5]
 by_cases h6:a≤h.next
 ·rw [if_pos h6]
  exact rput_tell r hi a dv d T hd (by omega) (by omega) (by omega) (by omega) h4' (by omega) h6 _ rfl
 rw [if_neg h6]
 by_cases h7:h.kept.any (longer a d.length)=true
 ·rw [if_pos h7]
  exact rput_longer r a dv d T hd hl hL (by omega) (by omega) (by omega) (by omega) h4' (by omega) h7
 rw [if_neg h7]
 have h7':h.kept.any (longer a d.length)=false:=by simpa using h7
 by_cases h8:h.most≤h.kept.length
 ·rw [if_pos h8]
  exact rput_full r a dv d T hd hl hL (by omega) (by omega) (by omega) (by omega) h4' (by omega) h7' (by omega)
 rw [if_neg h8]
 exact rput_app r a dv d T hd hl hL (by omega) (by omega) (by omega) (by omega) h4' (by omega) h7' (by omega)
end Go.Proofs.YtmgdbbbdhkfdmaaGreat
