import Derived.Test.YtmgdbbbdhkfdmaaGreatYC12
import Derived.Test.YtmgdbbbdhkfdmaaGreatYC6
import Derived.Deep.DeepCutAuto
import Derived.Deep.RegionLaw
import Derived.Test.YtmgdbbbdhkfdmaaGreatYC0
set_option linter.unusedSimpArgs false
set_option linter.unusedVariables false
set_option maxHeartbeats 40000000
namespace Go.Proofs.YtmgdbbbdhkfdmaaGreat
set_option maxRecDepth 100000
open Go.RowKit Go.Deep Go.Shelf
theorem qgj:(Tryz.prog.info? 162).map (fun i=>(i.zero,i.size,i.bytes))=some (some (.agg #[.int .i64 0, .slice none 0 0]),2,32):=zk
theorem qjf{P:Program}{c:Code}{Q:Exit->Act->World->Prop}{a:Act}{w:World}(F:Option Addr->Nat->Option Addr->Nat->Act)(R:Option Addr->Nat->World->Prop)
  (h1:∀ K:Act->World->Prop,(∀ A0 n0 A n wx,R A n wx->K (F A0 n0 A n) wx)->c.wp P (Exit.then K Q) a w) (h2:∀ A0 n0 A n wx,R A n wx->Q .normal (F A0 n0 A n) wx):c.wp P Q a w:=
 wp_mono (h1 (fun a' w'=>Q .normal a' w') h2) fun e a' w' h=>by cases e <;> exact h
def qjg(g:Nat)(w:World):Nat:=match w.cell? ⟨g,2,none⟩ with|some (.slice _ n _)=>n|_=>0
structure yM(S:Nat->Prop)(w:World)(hb2:Nat)(ar:Array Value)(m f:Int)(nx:Int)(kv:Value)(L:List (Pc × Value))(out:List Int)(A:Option Addr)(c:Nat)(wr:World):Prop where
 own:wr.ownsRow 0 5 1 (.slice A out.length c) out.length (kE out)
 new:∀ b,(Value.slice A out.length c).ownBlock=some b->w.heap.size<=b
 kp:Kp 162 S wr kv L
 kn:∀ b,kv.ownBlock=some b->S b\/w.heap.size<=b
 fr:Fr [] w wr
 b0:Blk wr w.heap.size 39 ar
 b1:Blk wr (w.heap.size+1) 39 (arR 0 0 (.slice none 0 0) 0)
 b2:Blk wr hb2 39 (arR m nx kv f)
 n0:0<=nx
 n1:nx<=4611686018427387968
 pc:∀ x∈L,0<=x.1.at_/\x.1.at_<=4611686018427387904/\1<=x.1.d.length/\x.1.d.length<=64
 len:L.length<=64
 ol:out.length+64 * L.length<=4160
def qgk(S:Nat->Prop)(w:World)(hb2:Nat)(ar:Array Value)(m f:Int)(D:Int × List Pc × List Int)(s11:Value)(wr:World):Prop:=
 ∃ nx kv L out A c,s11 = .slice A out.length c/\yM S w hb2 ar m f nx kv L out A c wr/\(qX L.length nx (L.map (·.1))).1=D.1/\(qX L.length nx (L.map (·.1))).2.1=D.2.1/\out++(qX L.length nx (L.map (·.1))).2.2=D.2.2
theorem qgl{S:Nat->Prop}{W:World}{kb kc i:Nat}{L:List (Pc × Value)}(h:Kp 162 S W (.slice (some ⟨kb,0,none⟩) L.length kc) L)(hi:i<L.length) :
  Sl (fun _=>True) W 2 (.slice (some ⟨kb,0,none⟩) i kc) i (pcs (L.take i)) /\
  Sl (fun _=>True) W 2 (.slice (if kc=i+1 then some ⟨kb,0,none⟩ else some ⟨kb,(i+1) * 2,none⟩) (L.length - (i+1)) (kc - (i+1))) (L.length - (i+1)) (pcs (L.drop (i+1))):=by
 have hs:=Sl.kW (S:=fun _=>True) h.own (fun _ _=>trivial);refine⟨?_,?_⟩
 ·have:=hs.take (k:=i) zw
  rwa [yG] at this
 ·have:=hs.cut (k:=i+1) zw
  rw [yH] at this;simpa [jZ] using this
theorem jA(L:List (Pc × Value))(i m:Nat)(h:L.length=i+1+m):(L.eraseIdx i).length=i+m:=by
 rw [List.length_eraseIdx];split <;> omega
def qng(W:World)(hb2 i m:Nat)(L:List (Pc × Value))(KA':Option Addr)(KC':Nat)(wx:World):Prop:=
 ∃ W8,wx=W8.setCell ⟨hb2,2,none⟩ (.slice KA' (i+m) KC')/\W8.ownsRow 0 162 2 (.slice KA' (i+m) KC') (i+m) (pcs (L.eraseIdx i))/\Fr [] W W8/\∀ b,(Value.slice KA' (i+m) KC').ownBlock=some b->W.heap.size<=b
section
variable {S:Nat->Prop} {w:World} {hb2:Nat} {ar:Array Value} {m f nx:Int} {kv:Value} {L:List (Pc × Value)} {out:List Int} {A:Option Addr} {c:Nat} {wr:World}
theorem yM.ext(h:yM S w hb2 ar m f nx kv L out A c wr){W:World}(g:Fr [] wr W):yM S w hb2 ar m f nx kv L out A c W:=
 ⟨qA h.own g zs,h.new,h.kp.fr g zs zs,h.kn,h.fr.trans g zs,h.b0.fr g zs,h.b1.fr g zs,h.b2.fr g zs,h.n0,h.n1,h.pc,h.len,h.ol⟩
theorem yM.klen(h:yM S w hb2 ar m f nx kv L out A c wr):qjg hb2 wr=L.length:=by
 have h1:=(cells4 h.b2).2.2.1;obtain⟨A,c,rfl,_⟩:=h.kp.form;unfold qjg;rw [h1]
theorem yM.cut(t:yM S w hb2 ar m f nx kv L out A c wr)(hg:w.heap.size+1<hb2)(hp:∀ b,S b->b<w.heap.size){i m0:Nat}(hl:L.length=i+1+m0){W9:World}{KA:Option Addr}{KC:Nat}(f9:Fr [] wr W9)
  (ho:W9.ownsRow 0 162 2 (.slice KA (i+m0) KC) (i+m0) (pcs (L.eraseIdx i))) (n9:∀ b,(Value.slice KA (i+m0) KC).ownBlock=some b->wr.heap.size<=b) :
  yM S w hb2 ar m f nx (.slice KA (i+m0) KC) (L.eraseIdx i) out A c (W9.setCell ⟨hb2,2,none⟩ (.slice KA (i+m0) KC)):=by
 have t9:=t.ext f9;have fs:Fr [hb2] W9 (W9.setCell ⟨hb2,2,none⟩ (.slice KA (i+m0) KC)):=(Fr.refl _ _).setCell (p:=⟨hb2,2,none⟩) (.inl zs) _;have hs:=jA L i m0 hl;refine⟨qA t9.own fs (fun b hb=>by simp;rintro rfl;exact own_ne t9.own t9.b2 zd hb),t.new,⟨by rw [hs];exact qA ho fs (fun b hb=>by simp;rintro rfl;exact own_ne ho t9.b2 zd hb),fun x hx=>(t9.kp.byt x (List.mem_of_mem_eraseIdx hx)).fr fs (fun y hy hS=>by simp at hy;subst hy;have:=hp _ hS;omega)⟩,
  fun b hb => .inr (Nat.le_trans t.fr.size (n9 b hb)),t9.fr.trans fs (by intro x hx;simp at hx;subst hx;exact .inr zw),t9.b0.fr fs zv,t9.b1.fr fs zv,by simpa using t9.b2.qO 2 (.slice KA (i+m0) KC),t.n0,t.n1,fun x hx=>t.pc x (List.mem_of_mem_eraseIdx hx),?_,?_⟩
 ·have:=t.len
  omega
 ·have:=t.ol
  omega
theorem yM.next(t:yM S w hb2 ar m f nx kv L out A c wr)(hg:w.heap.size+1<hb2)(hp:∀ b,S b->b<w.heap.size){nx':Int}(h0:0<=nx')(h1:nx'<=4611686018427387968){W:World}(fs:Fr [hb2] wr W)(B:Blk W hb2 39 (arR m nx' kv f)) :
  yM S w hb2 ar m f nx' kv L out A c W:=
 ⟨qA t.own fs (fun b hb=>by simp;rintro rfl;exact own_ne t.own t.b2 zd hb),t.new,t.kp.fr fs (fun y hy hS=>by simp at hy;subst hy;have:=hp _ hS;omega) (fun b hb=>by simp;rintro rfl;exact own_ne t.kp.own t.b2 zd hb),
  t.kn,t.fr.trans fs (by intro x hx;simp at hx;subst hx;exact .inr zw),t.b0.fr fs zv,t.b1.fr fs zv,B,h0,h1,t.pc,t.len,t.ol⟩
theorem yM.app(t:yM S w hb2 ar m f nx kv L out A c wr)(hp:∀ b,S b->b<w.heap.size){o2:List Int}{N c':Nat}{A':Option Addr}{W:World}(fs:Fr (ob (.slice A out.length c)) wr W)
  (own:W.ownsRow 0 5 1 (.slice A' N c') N (kE out++kE o2)) (hN:out.length+o2.length=N) (nw:∀ b,(Value.slice A' N c').ownBlock=some b->(Value.slice A out.length c).ownBlock=some b\/(wr.heap.size<=b/\b<W.heap.size)) (hol:out.length+o2.length+64 * L.length<=4160) :
  .slice A' N c'=Value.slice A' (out++o2).length c'/\yM S w hb2 ar m f nx kv L (out++o2) A' c' W:=by
 have hl:(out++o2).length=N:=by rw [List.length_append];exact hN
 have no:∀ {g:Nat} {cs:Array Value},Blk wr g 39 cs->g∉ob (.slice A out.length c):=fun hb hm=>own_ne t.own hb zd (qo.1 hm);refine⟨by rw [hl],⟨by rw [hl,<- vJ];exact own,?_,t.kp.fr fs (fun y hy hS=>?_) (fun b hb hm=>jR t.kp.own t.own zd hb (qo.1 hm)),t.kn,t.fr.trans fs (fun x hx => .inr (t.new x (qo.1 hx))),t.b0.fr fs (no t.b0),t.b1.fr fs (no t.b1),t.b2.fr fs (no t.b2),t.n0,t.n1,t.pc,t.len,by rw [hl];omega⟩⟩
 ·rw [hl]
  intro b hb;rcases nw b hb with h|h
  ·exact t.new b h
  ·exact Nat.le_trans t.fr.size h.1
 ·have:=hp _ hS
  have:=t.new y (qo.1 hy);omega
theorem qhy{kv0:Value}{L0:List (Pc × Value)}{h:Hp}{D:Int × List Pc × List Int}{w2:World}(r:RPx S w kv0 h L0)(t:yM S w hb2 ar h.most (qM h.fin) nx kv L out A c wr)
  (F3:Fr [w.heap.size+1] wr w2) (e1:nx=D.1) (e2:L.map (·.1)=D.2.1) (e3:out=D.2.2) :
  jk S w { h with next:=D.1,kept:=D.2.1 } D.2.2 0 (.returned (.tuple #[agR h.most nx kv (qM h.fin), .slice A out.length c, .int .i64 0])) w2:=by
 subst e1 e3;have f:Fr [] w w2:=t.fr.trans F3 (by intro x hx;simp at hx;subst hx;exact .inr zw);have ho:w2.ownsRow 0 5 1 (.slice A D.2.2.length c) D.2.2.length (kE D.2.2):=qA t.own F3 (fun b hb=>by simp;rintro rfl;exact own_ne t.own t.b1 zd hb);have hk:Kp 162 S w2 kv L:=t.kp.fr F3 (fun x hx hs=>by simp at hx;subst hx;have:=r.pub _ hs;omega) (fun b hb=>by simp;rintro rfl;exact own_ne t.kp.own t.b1 zd hb);refine⟨fun b=>S b\/kv.ownBlock=some b\/(Value.slice A D.2.2.length c).ownBlock=some b,kv,A,c,L,rfl,⟨fun b hb => .inl hb,?_⟩,Sl.kW ho (fun b hb => .inr (.inr hb)),⟨hk.mono fun b hb => .inl hb,e2.symm,fun b hb => .inr (.inl hb),?_⟩,f⟩
 ·rintro b (hb|hb|hb)
  ·exact .inl hb
  ·exact t.kn b hb
  ·exact .inr (t.new b hb)
 ·rintro b (hb|hb|hb)
  ·exact Nat.lt_of_lt_of_le (r.pub b hb) f.size
  ·exact kG hk.own hb
  ·exact kG ho hb
end
set_option maxRecDepth 100000 in
theorem qlb{S:Nat->Prop}{w:World}{kv:Value}{h:Hp}{L:List (Pc × Value)}(r:RPx S w kv h L)(hi:Inv h)(a:Int)(dv:Value)(d:List Int)(T:Nat->Prop)(hd:Byt T w dv d)
  (h0:0<=a) (h1:a<=4611686018427387904) (h2:1<=d.length) (h3:d.length<=64) (h4:qM h.fin<0\/(0<=qM h.fin/\a+(d.length:Int)<=qM h.fin)) (h5:h.next<a+d.length) (h6:a<=h.next) (D:Int × List Pc × List Int)
  (hD:qX h.kept.length (a+d.length) h.kept=D) :
  Calls Tryz.prog 137 #[agH h kv, .int .i64 a,dv] w (jk S w { h with next:=D.1,kept:=D.2.1 } (d.drop (h.next - a).toNat++D.2.2) 0):=by
 obtain⟨KA,KC,rfl,hKn,hKc⟩:=r.kp.form;obtain⟨DA,DC,rfl,hdn,hdc⟩:=hd.form;have hL:L.length<=64:=by
  have:=hi.len;have:=hi.m1;have e:h.kept.length=L.length:=by rw [r.kept,List.length_map]
  omega
 have HI:=hI hi;have hn1:=hi.n1;have hn0:=hi.n0;have r:=hI r;have hd:=hI hd;have hD:=hI hD;have b0:=(Blk.new w 39 (arR h.most h.next (.slice KA L.length KC) (qM h.fin))).alloc (.cells (arR 0 0 (.slice none 0 0) 0) 39);have b1:Blk ((w.alloc (.cells (arR h.most h.next (.slice KA L.length KC) (qM h.fin)) 39)).alloc (.cells (arR 0 0 (.slice none 0 0) 0) 39)) (w.heap.size+1) 39 (arR 0 0 (.slice none 0 0) 0):=by simpa using Blk.new (w.alloc (.cells (arR h.most h.next (.slice KA L.length KC) (qM h.fin)) 39)) 39 (arR 0 0 (.slice none 0 0) 0)
 have f0:Fr [] w ((w.alloc (.cells (arR h.most h.next (.slice KA L.length KC) (qM h.fin)) 39)).alloc (.cells (arR 0 0 (.slice none 0 0) 0) 39)):=((Fr.refl _ _).alloc _).alloc _;have B0:=hI b0;have B1:=hI b1;have F0:=hI f0;have hto:qQ h.next ⟨a,d⟩=(d.drop (h.next - a).toNat,a+d.length):=by
  unfold qQ Pc.beh;rw [if_neg (by dsimp only;omega)]
 have HTO:=hI hto;have ht:=rtold T ((w.alloc (.cells (arR h.most h.next (.slice KA L.length KC) (qM h.fin)) 39)).alloc (.cells (arR 0 0 (.slice none 0 0) 0) 39)) h.most h.next (qM h.fin) (.slice KA L.length KC) ⟨a,d⟩ (.slice DA d.length DC) (hd.out.fr f0 zs) KA L.length KC rfl h0 h6 hn1 h3;unfold qfy at ht;rw [hto] at ht;have HT:=hI ht;clear b0 b1 f0 ht hto;rcases h4 with h4|⟨h4,h4b⟩;all_goals
  go_enter Tryz.func137,Tryz.ntmps137;go_wp2_with fail
  refine HT.out.mono ?_;rintro e w1 ⟨A1,c1,rfl,own1,new1,f1⟩;have F1:=hI (F0.out.trans f1 zs);have X0:=hI (B0.out.fr f1 zs);have X1:=hI (B1.out.fr f1 zs);have N1:=hI (show ∀ b,(Value.slice A1 (d.drop (h.next - a).toNat).length c1).ownBlock=some b->w.heap.size<=b from fun b hb=>by have:=new1 b hb;simp at this;omega);have Own1:=hI own1;have hol:(d.drop (h.next - a).toNat).length<=64:=zv;generalize hq:d.drop (h.next - a).toNat=o1 at *
  have HQ:=hI hq;clear f1 new1 own1 hq;go_wp2_with ((with_reducible refine qi 39 (.tmp 10) ?_);refine qc rfl 39 (.tmp 10) (.tmp 63) rfl w1.heap.size 39 (arR 0 0 (.slice none 0 0) 0) (arR h.most (a+d.length) (.slice KA L.length KC) (qM h.fin)) rfl rfl (Blk.new w1 39 _) rfl zk zo ?_;intro w2 B3 F3)
  have ne0:w.heap.size≠w1.heap.size:=by have:=X1.out.lt;omega
  have ne1:w.heap.size+1≠w1.heap.size:=by have:=X1.out.lt;omega
  have fw:Fr [] w w2:=(F1.out.alloc _).trans F3 (by simp;have:=F1.out.size;omega);have hT:yM S w w1.heap.size (arR h.most h.next (.slice KA L.length KC) (qM h.fin)) h.most (qM h.fin) (a+d.length) (.slice KA L.length KC) L o1 A1 c1 w2:=by
   refine⟨qA (qA Own1.out ((Fr.refl [] w1).alloc _) zs) F3 (fun b hb=>by simp;have:=kG Own1.out hb;omega),N1.out,r.out.kp.fr fw zs zs,fun b hb => .inl (r.out.offk b hb),fw,(X0.out.alloc _).fr F3 (by simpa using ne0),(X1.out.alloc _).fr F3 (by simpa using ne1),B3,zw,zw,?_,hL,zw⟩;intro x hx;exact HI.out.pc x.1 (by rw [r.out.kept];exact List.mem_map_of_mem hx)
  have hR:qgk S w w1.heap.size (arR h.most h.next (.slice KA L.length KC) (qM h.fin)) h.most (qM h.fin) (D.1,D.2.1,o1++D.2.2) (.slice A1 o1.length c1) w2:=by
   have hDD:=hD.out;have hk:=r.out.kept;have hkl:h.kept.length=L.length:=by rw [hk,List.length_map]
   rw [hkl,hk] at hDD;exact⟨_,_,L,_,_,_,rfl,hT,by rw [hDD],by rw [hDD],by rw [hDD]⟩
  have HR:=hI hR;have hg1:w.heap.size+1<w1.heap.size:=X1.out.lt;clear B3 F3 fw hT hR F1 X0 X1 N1 Own1 B0 B1 F0 HTO HT;generalize hhb:w1.heap.size=hb2 at *
  generalize hOO:(D.1,D.2.1,o1++D.2.2)=DD at *
  go_loopw [11] (fun s11 wr=>qgk S w hb2 (arR h.most h.next (.slice KA L.length KC) (qM h.fin)) h.most (qM h.fin) DD s11 wr) (fun _ wr=>qjg hb2 wr);case atStart=>exact HR.out
  case round=>
   clear HR;obtain⟨nx,kv2,L2,out,A2,c2,rfl,ht,hd1,hd2,hd3⟩:=hrel;obtain⟨KA2,KC2,rfl,hKn2,hKc2⟩:=ht.kp.form;obtain⟨x0,x1,x2,x3⟩:=cells4 ht.b2;have hlt0:=ht.b0.lt;have hlt1:=ht.b1.lt;have hlt2:=ht.b2.lt;have hrd:=qmf S wr h.most nx (qM h.fin) (.slice KA2 L2.length KC2) L2 ht.kp ht.len;have HRD:=hI hrd;have hbd:=yE nx (L2.map (·.1));rw [List.length_map] at hbd;have hL2:=ht.len;have HT:=hI ht;have HD1:=hI hd1;have HD2:=hI hd2;have HD3:=hI hd3;clear ht hd1 hd2 hd3 hrd;generalize hrr:kQ nx (L2.map (·.1))=rr at *
   have Hrr:=hI hrr;clear hrr;go_wp2_with fail
   refine HRD.out.mono ?_;rintro e W1 ⟨rfl,f1⟩;have T1:=hI (HT.out.ext f1);have x0:=ql f1 x0;have x1:=ql f1 x1;have x2:=ql f1 x2;have x3:=ql f1 x3;have hlt0:=T1.out.b0.lt;have hlt1:=T1.out.b1.lt;have hlt2:=T1.out.b2.lt;have K1:=hI (show qjg hb2 wr=L2.length from HT.out.klen);clear f1 HRD HT;by_cases hneg:rr<0
   ·go_wp2_with ((with_reducible refine qi 39 (.tmp 6) ?_);refine qc rfl 39 (.tmp 6) (.tmp 97) rfl (w.heap.size+1) 39 (arR 0 0 (.slice none 0 0) 0) (arR h.most nx (.slice KA2 L2.length KC2) (qM h.fin)) rfl rfl T1.out.b1 rfl zk zo ?_;intro w2 B3 F3)
    obtain⟨r0,r1,r2,r3⟩:=cells4 B3;have hs:=qci L2.length nx (L2.map (·.1)) (by rw [Hrr.out];exact hneg);have e1:=HD1.out;have e2:=HD2.out;have e3:=HD3.out;rw [hs] at e1 e2 e3;have hpost:=qhy r.out T1.out F3 e1 e2 (by simpa using e3);rw [<- hOO,<- HQ.out] at hpost;refine bodyPost_ret (v := .tuple #[agR h.most nx (.slice KA2 L2.length KC2) (qM h.fin), .slice A2 out.length c2, .int .i64 0]) (by simp [results,Tryz.results137,go_sem,r0,r1,r2,r3]) rfl ?_;rw [HQ.out] at *
    exact hpost
   ·obtain⟨i,rfl⟩:∃ i:Nat,rr=i:=⟨rr.toNat,zw⟩
    have hiL:i<L2.length:=zw;have hrd2:=qmf S W1 h.most nx (qM h.fin) (.slice KA2 L2.length KC2) L2 T1.out.kp T1.out.len;rw [Hrr.out] at hrd2;have HRD2:=hI hrd2;clear hrd2;go_wp2_with fail
    refine HRD2.out.mono ?_;rintro e W2 ⟨rfl,f2⟩;have T2:=hI (T1.out.ext f2);clear x0 x1 x2 x3 f2 HRD2 T1;obtain⟨kb,kc,x,hv,hx,c3,c4,hbyt⟩:=T2.out.kp.at_ hiL;injection hv with hv _ hc;subst hv hc;obtain⟨xA,xc,hxv,_,_⟩:=hbyt.form;rw [hxv] at c4;obtain⟨x0,x1,x2,x3⟩:=cells4 T2.out.b2;have hlt0:=T2.out.b0.lt;have hlt1:=T2.out.b1.lt;have hlt2:=T2.out.b2.lt;have hpc:=T2.out.pc x (List.mem_of_getElem? hx);have Hx:=hI hx;have Hxv:=hI hxv;have Hbyt:=hI hbyt;obtain⟨m0,hm0⟩:∃ m0,L2.length=i+1+m0:=⟨L2.length - i - 1,zw⟩;have Hm0:=hI hm0;clear hx hxv hbyt hm0;go_wp2_with ((with_reducible refine qi 162 (.tmp 13) ?_);refine qc rfl 162 (.tmp 13) (.tmp 74) rfl W2.heap.size 162 #[.int .i64 0, .slice none 0 0] #[.int .i64 x.1.at_, .slice xA x.1.d.length xc] rfl rfl (Blk.new W2 162 _) rfl zk zo ?_;intro W3 B3 F3)
    have fw3:Fr [] W2 W3:=((Fr.refl [] W2).alloc _).trans F3 zs;have T3:=hI (T2.out.ext fw3);have PB:=hI B3;have npb:W2.heap.size≠hb2:=zw;generalize hpb:W2.heap.size=pb at *
    clear x0 x1 x2 x3 c3 c4 B3 F3 fw3 T2;obtain⟨x0,x1,x2,x3⟩:=cells4 T3.out.b2;have hlt0:=T3.out.b0.lt;have hlt1:=T3.out.b1.lt;have hlt2:=T3.out.b2.lt;have hfz:=T3.out.b2.frozen 2;obtain⟨hkc1,hkc2⟩:L2.length<=KC2/\KC2<=maxLen:=by
     obtain⟨_,c',hv,h1,h2⟩:=T3.out.kp.form;injection hv with _ _ hc;subst hc;exact⟨h1,h2⟩
    unfold maxLen at hkc2;obtain⟨i1,hi1,hzA,hzB,hzC⟩:=info_parts qgj;obtain⟨i0,hi0,hz0,hz1,hz2⟩:=info_parts vM;have hsl:∀ W,Fr [] W3 W->Sl (fun _=>True) W 2 (.slice (some ⟨kb,0,none⟩) i KC2) i (pcs (L2.take i)):=fun W f=>(qgl (T3.out.kp.fr f zs zs) hiL).1;have hm0:=Hm0.out;have hsm:L2.length - (i+1)=m0:=zw;have hst:∀ W,Fr [] W3 W->Sl (fun _=>True) W 2 (.slice (if KC2=i+1 then some ⟨kb,0,none⟩ else some ⟨kb,(i+1) * 2,none⟩) m0 (KC2 - (i+1))) m0 (pcs (L2.drop (i+1))):=fun W f=>by
     have:=(qgl (T3.out.kp.fr f zs zs) hiL).2
     rwa [hsm] at this
    have HP1:=hI (hsl W3.drew (Fr.refl [] W3).drew);have HST:=hI hst;have hone:∀ u∈pcs L2,u.oneCell'=true:=T3.out.kp.one;have HOne1:Hid (∀ u∈pcs (L2.take i),u.oneCell'=true):=hI (fun u hu=>hone u (by rw [<- yG] at hu;exact List.mem_of_mem_take hu));have HOne2:Hid (∀ u∈pcs (L2.drop (i+1)),u.oneCell'=true):=hI (fun u hu=>hone u (by rw [<- yH] at hu;exact List.mem_of_mem_drop hu));have HLm1:Hid (0+i<=maxLen):=hI (by unfold maxLen;omega);have HLb1:Hid ((0+i) * 32<=140737488355328):=hI zw;have HLm2:Hid (i+m0<=maxLen):=hI (by unfold maxLen;omega);have HLb2:Hid ((i+m0) * 32<=140737488355328):=hI zw;have HED:Hid (([]++pcs (L2.take i))++pcs (L2.drop (i+1))=pcs (L2.eraseIdx i)):=hI (by rw [List.nil_append,yQ,List.eraseIdx_eq_take_drop_succ]);rw [hm0] at x2;have k0:(0:Int)<=(i:Int):=zw;have k1:(i:Int)<=(KC2:Int):=zw;have k2:(0:Int)<=(i:Int)+1:=zw;have k3:((i:Int)+1)<=(i:Int)+1+(m0:Int):=zw;have k4:(i:Int)+1+(m0:Int)<=(KC2:Int):=zw;have k5:((i:Int)+1).toNat=i+1:=zw;have k6:i<=KC2:=zw;have k7:i+1<=i+1+m0:=zw;have k8:IntKind.i64.wrap ((i:Int)+1)=(i:Int)+1:=IntWalk.i64_in _ zw;have HM1:Hid (∀ W8:World,Fr (ob (.slice none 0 0)) W3.drew W8->W8.cell? ⟨hb2,2,none⟩=some (.slice (some ⟨kb,0,none⟩) (i+1+m0) KC2)/\hb2<W8.heap.size /\
      Sl (fun _=>True) W8 2 (.slice (if KC2=i+1 then some ⟨kb,0,none⟩ else some ⟨kb,(i+1) * 2,none⟩) m0 (KC2 - (i+1))) m0 (pcs (L2.drop (i+1)))):=hI (fun W8 f8=>by
     have f38:Fr [] W3 W8:=(Fr.refl [] W3).drew.trans f8 zb;exact⟨ql f38 x2,(T3.out.ext f38).b2.lt,HST.out W8 f38⟩)
    have HM2:Hid (∀(W8:World) (KA8:Option Addr) (KC8:Nat) (W9:World),Fr (ob (.slice none 0 0)) W3.drew W8->(∀ b,(Value.slice KA8 i KC8).ownBlock=some b->(Value.slice none 0 0).ownBlock=some b\/(W3.drew.heap.size<=b/\b<W8.heap.size))->Fr (ob (.slice KA8 i KC8)) W8 W9 ->
      W9.cell? ⟨hb2,2,none⟩=some (.slice (some ⟨kb,0,none⟩) (i+1+m0) KC2)/\W9.frozen? ⟨hb2,2,none⟩=false/\hb2<W9.heap.size/\Fr [] W3 W9):=hI (fun W8 KA8 KC8 W9 f8 n8 f9=>by
     have f39:Fr [] W3 W9:=((Fr.refl [] W3).drew.trans f8 zb).trans f9 (fun x hx => .inr (by
      rcases n8 x (qo.1 hx) with h|h
      ·simp [Value.ownBlock] at h
      ·exact h.1))
     exact⟨ql f39 x2,(T3.out.ext f39).b2.frozen 2,(T3.out.ext f39).b2.lt,f39⟩)
    have HM3:Hid (∀(W8:World) (KA8:Option Addr) (KC8:Nat) (KA9:Option Addr) (KC9:Nat) (W9:World),(∀ b,(Value.slice KA8 i KC8).ownBlock=some b->(Value.slice none 0 0).ownBlock=some b\/(W3.drew.heap.size<=b/\b<W8.heap.size))->Fr (ob (.slice none 0 0)) W3.drew W8 ->
      (∀ b,(Value.slice KA9 (i+m0) KC9).ownBlock=some b->(Value.slice KA8 i KC8).ownBlock=some b\/(W8.heap.size<=b/\b<W9.heap.size))->∀ b,(Value.slice KA9 (i+m0) KC9).ownBlock=some b->W3.heap.size<=b):=hI (fun W8 KA8 KC8 KA9 KC9 W9 n8 f8 n9 b hb=>by
     have hsz:W3.heap.size<=W8.heap.size:=f8.size;rcases n9 b hb with h|h
     ·rcases n8 b h with h'|h'
      ·simp [Value.ownBlock] at h'
      ·exact h'.1
     ·omega)
    have HN2:Hid (i+m0=i+m0):=hI rfl;have HN1:Hid (0+i=i):=hI zw;clear hsl hst hone hm0 hsm;by_cases hcj:KC2=i+1
    ·simp only [if_pos hcj] at HM1
     have hcj':(KC2=i+1)=True:=eq_true hcj;clear hcj;refine qjf ?_ (qng W3 hb2 i m0 L2) ?_ ?_;rotate_left
     ·intro K hK
      go_region_law (first
       | ((refine zn _ zr (.const (.slice none 0 0)) (.tmp 78) 37 zr 162 i1 (.agg #[.int .i64 0, .slice none 0 0]) 2 32 Tryz.underlying37 hi1 hzA hzB hzC zr zd (.slice none 0 0) 0 [] zr (World.ownsRow_nil _ 0 162 2) (fun _=>True) (.slice (some ⟨kb,0,none⟩) i KC2) i (pcs (L2.take i)) zr HP1.out HOne1.out HLm1.out HLb1.out i HN1.out ?_);intro KA8 KC8 W8 h10 h11 h12;obtain⟨q1,q2,q3⟩:=HM1.out _ h11;have H10:=hI h10;have H11:=hI h11;have H12:=hI h12;have Q3:=hI q3;clear h10 h11 h12 q3)|((refine zn _ zr (.tmp 79) (.tmp 84) 37 zr 162 i1 (.agg #[.int .i64 0, .slice none 0 0]) 2 32 Tryz.underlying37 hi1 hzA hzB hzC zr zd (.slice KA8 i KC8) i ([]++pcs (L2.take i)) zr H10.out (fun _=>True) _ m0 (pcs (L2.drop (i+1))) zr Q3.out HOne2.out HLm2.out HLb2.out (i+m0) HN2.out ?_);intro KA9 KC9 W9 h13 h14 h15;obtain⟨q4,q5,q6,q7⟩:=HM2.out _ _ _ _ H11.out H12.out h14;have H13:=hI h13;have H15:=hI h15;have Q7:=hI q7;clear h13 h14 h15 q7))
      all_goals (refine hK KA8 KC8 KA9 KC9 _ ⟨_,rfl,by rw [<- HED.out];exact H13.out,Q7.out,HM3.out _ _ _ _ _ _ H12.out H11.out H15.out⟩)
     ·rintro KA8 KC8 KA9 KC9 _ ⟨W9,rfl,ho9,f9,n9⟩
      have t4:=T3.out.cut hg1 r.out.pub Hm0.out f9 ho9 n9;have pb4:=(PB.out.fr f9 zs).far (p:=⟨hb2,2,none⟩) npb (.slice KA9 (i+m0) KC9);have hby4:Byt S (W9.setCell ⟨hb2,2,none⟩ (.slice KA9 (i+m0) KC9)) (.slice xA x.1.d.length xc) x.1.d:=by
       have:=((T3.out.ext f9).kp.byt x (List.mem_of_getElem? Hx.out)).fr ((Fr.refl [hb2] W9).setCell (p:=⟨hb2,2,none⟩) (.inl zs) (.slice KA9 (i+m0) KC9)) (fun y hy hS=>by simp at hy;subst hy;have:=r.out.pub _ hS;omega)
       rwa [Hxv.out] at this
      generalize W9.setCell ⟨hb2,2,none⟩ (.slice KA9 (i+m0) KC9)=W4 at *
      clear x0 x1 x2 x3 hlt0 hlt1 hlt2 hfz HM1 HM2 HM3 HST HP1 k0 k1 k2 k3 k4 k5 k6 k7 k8 HN1 HN2 HLm1 HLm2 HLb1 HLb2 HOne1 HOne2 HED hi1 hzA hzB hzC ho9 f9 n9;have T4:=hI t4;clear t4;obtain⟨x0,x1,x2,x3⟩:=cells4 T4.out.b2;have hlt0:=T4.out.b0.lt;have hlt1:=T4.out.b1.lt;have hlt2:=T4.out.b2.lt;have p0:W4.cell? ⟨pb,0,none⟩=some (.int .i64 x.1.at_):=pb4.cell 0;have p1:W4.cell? ⟨pb,1,none⟩=some (.slice xA x.1.d.length xc):=pb4.cell 1;have hpblt:=pb4.lt;have hg5:(L2.map (·.1)).getD i default=x.1:=xK L2 i x Hx.out;have hle:x.1.at_<=nx:=by
       have:=qck nx (L2.map (·.1)) i Hrr.out
       rwa [hg5] at this
      have hto:=rtold S W4 h.most nx (qM h.fin) (.slice KA9 (i+m0) KC9) x.1 (.slice xA x.1.d.length xc) hby4 KA9 (i+m0) KC9 rfl hpc.1 hle T4.out.n1 hpc.2.2.2;have htb:=qbr nx x.1 T4.out.n0 T4.out.n1 ⟨hpc.2.1,hpc.2.2.2⟩;have htl:(qQ nx x.1).1.length<=64:=by
       unfold qQ;split
       ·simp
       ·simp;omega
      have hgo:∀ k,qX (k+1) nx (L2.map (·.1))=_:=fun k=>qcj k nx (L2.map (·.1)) i x.1 Hrr.out hg5;have hol2:=T4.out.ol;rw [jA L2 i m0 Hm0.out] at hol2;have HOL:Hid (out.length+(qQ nx x.1).1.length+64 * (L2.eraseIdx i).length<=4160):=hI (by
       have:=T3.out.ol;rw [jA L2 i m0 Hm0.out];have:=Hm0.out;omega)
      have HLM:Hid (out.length+(qQ nx x.1).1.length<=maxLen):=hI (by unfold maxLen;omega);have HLB:Hid ((out.length+(qQ nx x.1).1.length) * 1<=140737488355328):=hI zw;have HTO:=hI hto;have HGO:=hI hgo;clear hto hgo hby4 pb4 hg5;generalize hnx2:(qQ nx x.1).2=nx2 at *
      generalize ho2:(qQ nx x.1).1=o2 at *
      go_wp2_with fail
      refine HTO.out.mono ?_;rintro e w5 ⟨A5,c5,rfl,own5,new5,f5⟩;rw [ho2] at own5 new5;simp only [hnx2,ho2];have t5:=T4.out.ext f5;have T5:=hI t5;have Own5:=hI own5;clear own5 new5 f5 t5 x0 x1 x2 x3 p0 p1 hpblt hlt0 hlt1 hlt2 T4 HTO hol2;have hlt0:=T5.out.b0.lt;have hlt1:=T5.out.b1.lt;have hlt2:=T5.out.b2.lt;go_wp2_with (first
       | ((with_reducible refine qi 39 (.tmp 14) ?_);refine qc rfl 39 (.tmp 14) (.tmp 91) rfl w5.heap.size 39 (arR 0 0 (.slice none 0 0) 0) (arR h.most nx2 (.slice KA9 (i+m0) KC9) (qM h.fin)) rfl rfl (Blk.new w5 39 _) rfl zk zo ?_;intro w6 b6 f6;obtain⟨y0,y1,y2,y3⟩:=cells4 b6;have hlt6:=b6.lt;have hw56:Fr [] w5 w6:=((Fr.refl [] w5).alloc _).trans f6 zs;have T6:=hI (T5.out.ext hw56);have Own6:=hI (qA Own5.out hw56 zs);clear b6 f6 hw56)|((with_reducible refine qi 39 (.tmp 10) ?_);refine qc rfl 39 (.tmp 10) (.tmp 93) rfl hb2 39 (arR h.most nx (.slice KA9 (i+m0) KC9) (qM h.fin)) (arR h.most nx2 (.slice KA9 (i+m0) KC9) (qM h.fin)) rfl rfl T6.out.b2 rfl zk zo ?_;intro w7 b7 f7;have T7:=hI (T6.out.next hg1 r.out.pub htb.1 htb.2.1 f7 b7);have Own7:=hI (qA Own6.out f7 (fun b hb=>by simp;rintro rfl;exact own_ne Own6.out T6.out.b2 zd hb));clear b7 f7 y0 y1 y2 y3 hlt6)|(at_builtin;refine qE _ rfl (.tmp 94) (.tmp 95) 30 rfl 5 i0 (.int .u8 0) 1 1 Tryz.underlying30 hi0 hz0 hz1 hz2 rfl zd (.slice A2 out.length c2) out.length (kE out) zr T7.out.own (fun _=>True) (.slice A5 o2.length c5) o2.length (kE o2) zr (Sl.kW Own7.out (fun _ _=>trivial)) (ji _) HLM.out HLB.out (out.length+o2.length) rfl ?_;intro A8 c8 w8 h10 h11 h12;have T8:=hI (T7.out.app r.out.pub h11 h10 rfl h12 HOL.out);clear h10 h11 h12))
      go_roundw;case rel=>
       obtain⟨e8,t8⟩:=T8.out;have e1:=HD1.out;have e2:=HD2.out;have e3:=HD3.out;rw [Hm0.out,show i+1+m0=(i+m0)+1 by omega,HGO.out,<- qaz] at e1 e2 e3;refine⟨nx2,_,L2.eraseIdx i,out++o2,A8,c8,e8,t8,?_,?_,?_⟩
       ·rw [jA L2 i m0 Hm0.out]
        exact e1
       ·rw [jA L2 i m0 Hm0.out]
        exact e2
       ·rw [jA L2 i m0 Hm0.out,List.append_assoc]
        exact e3
      case measure=>
       rw [T8.out.2.klen,K1.out,jA L2 i m0 Hm0.out,Hm0.out];omega
    ·simp only [if_neg hcj] at HM1
     refine qjf ?_ (qng W3 hb2 i m0 L2) ?_ ?_;rotate_left
     ·intro K hK
      go_region_law (first
       | ((refine zn _ zr (.const (.slice none 0 0)) (.tmp 78) 37 zr 162 i1 (.agg #[.int .i64 0, .slice none 0 0]) 2 32 Tryz.underlying37 hi1 hzA hzB hzC zr zd (.slice none 0 0) 0 [] zr (World.ownsRow_nil _ 0 162 2) (fun _=>True) (.slice (some ⟨kb,0,none⟩) i KC2) i (pcs (L2.take i)) zr HP1.out HOne1.out HLm1.out HLb1.out i HN1.out ?_);intro KA8 KC8 W8 h10 h11 h12;obtain⟨q1,q2,q3⟩:=HM1.out _ h11;have H10:=hI h10;have H11:=hI h11;have H12:=hI h12;have Q3:=hI q3;clear h10 h11 h12 q3)|((refine zn _ zr (.tmp 79) (.tmp 84) 37 zr 162 i1 (.agg #[.int .i64 0, .slice none 0 0]) 2 32 Tryz.underlying37 hi1 hzA hzB hzC zr zd (.slice KA8 i KC8) i ([]++pcs (L2.take i)) zr H10.out (fun _=>True) _ m0 (pcs (L2.drop (i+1))) zr Q3.out HOne2.out HLm2.out HLb2.out (i+m0) HN2.out ?_);intro KA9 KC9 W9 h13 h14 h15;obtain⟨q4,q5,q6,q7⟩:=HM2.out _ _ _ _ H11.out H12.out h14;have H13:=hI h13;have H15:=hI h15;have Q7:=hI q7;clear h13 h14 h15 q7))
      all_goals (refine hK KA8 KC8 KA9 KC9 _ ⟨_,rfl,by rw [<- HED.out];exact H13.out,Q7.out,HM3.out _ _ _ _ _ _ H12.out H11.out H15.out⟩)
     ·rintro KA8 KC8 KA9 KC9 _ ⟨W9,rfl,ho9,f9,n9⟩
      have t4:=T3.out.cut hg1 r.out.pub Hm0.out f9 ho9 n9;have pb4:=(PB.out.fr f9 zs).far (p:=⟨hb2,2,none⟩) npb (.slice KA9 (i+m0) KC9);have hby4:Byt S (W9.setCell ⟨hb2,2,none⟩ (.slice KA9 (i+m0) KC9)) (.slice xA x.1.d.length xc) x.1.d:=by
       have:=((T3.out.ext f9).kp.byt x (List.mem_of_getElem? Hx.out)).fr ((Fr.refl [hb2] W9).setCell (p:=⟨hb2,2,none⟩) (.inl zs) (.slice KA9 (i+m0) KC9)) (fun y hy hS=>by simp at hy;subst hy;have:=r.out.pub _ hS;omega)
       rwa [Hxv.out] at this
      generalize W9.setCell ⟨hb2,2,none⟩ (.slice KA9 (i+m0) KC9)=W4 at *
      clear x0 x1 x2 x3 hlt0 hlt1 hlt2 hfz HM1 HM2 HM3 HST HP1 k0 k1 k2 k3 k4 k5 k6 k7 k8 HN1 HN2 HLm1 HLm2 HLb1 HLb2 HOne1 HOne2 HED hi1 hzA hzB hzC ho9 f9 n9;have T4:=hI t4;clear t4;obtain⟨x0,x1,x2,x3⟩:=cells4 T4.out.b2;have hlt0:=T4.out.b0.lt;have hlt1:=T4.out.b1.lt;have hlt2:=T4.out.b2.lt;have p0:W4.cell? ⟨pb,0,none⟩=some (.int .i64 x.1.at_):=pb4.cell 0;have p1:W4.cell? ⟨pb,1,none⟩=some (.slice xA x.1.d.length xc):=pb4.cell 1;have hpblt:=pb4.lt;have hg5:(L2.map (·.1)).getD i default=x.1:=xK L2 i x Hx.out;have hle:x.1.at_<=nx:=by
       have:=qck nx (L2.map (·.1)) i Hrr.out
       rwa [hg5] at this
      have hto:=rtold S W4 h.most nx (qM h.fin) (.slice KA9 (i+m0) KC9) x.1 (.slice xA x.1.d.length xc) hby4 KA9 (i+m0) KC9 rfl hpc.1 hle T4.out.n1 hpc.2.2.2;have htb:=qbr nx x.1 T4.out.n0 T4.out.n1 ⟨hpc.2.1,hpc.2.2.2⟩;have htl:(qQ nx x.1).1.length<=64:=by
       unfold qQ;split
       ·simp
       ·simp;omega
      have hgo:∀ k,qX (k+1) nx (L2.map (·.1))=_:=fun k=>qcj k nx (L2.map (·.1)) i x.1 Hrr.out hg5;have hol2:=T4.out.ol;rw [jA L2 i m0 Hm0.out] at hol2;have HOL:Hid (out.length+(qQ nx x.1).1.length+64 * (L2.eraseIdx i).length<=4160):=hI (by
       have:=T3.out.ol;rw [jA L2 i m0 Hm0.out];have:=Hm0.out;omega)
      have HLM:Hid (out.length+(qQ nx x.1).1.length<=maxLen):=hI (by unfold maxLen;omega);have HLB:Hid ((out.length+(qQ nx x.1).1.length) * 1<=140737488355328):=hI zw;have HTO:=hI hto;have HGO:=hI hgo;clear hto hgo hby4 pb4 hg5;generalize hnx2:(qQ nx x.1).2=nx2 at *
      generalize ho2:(qQ nx x.1).1=o2 at *
      go_wp2_with fail
      refine HTO.out.mono ?_;rintro e w5 ⟨A5,c5,rfl,own5,new5,f5⟩;rw [ho2] at own5 new5;simp only [hnx2,ho2];have t5:=T4.out.ext f5;have T5:=hI t5;have Own5:=hI own5;clear own5 new5 f5 t5 x0 x1 x2 x3 p0 p1 hpblt hlt0 hlt1 hlt2 T4 HTO hol2;have hlt0:=T5.out.b0.lt;have hlt1:=T5.out.b1.lt;have hlt2:=T5.out.b2.lt;go_wp2_with (first
       | ((with_reducible refine qi 39 (.tmp 14) ?_);refine qc rfl 39 (.tmp 14) (.tmp 91) rfl w5.heap.size 39 (arR 0 0 (.slice none 0 0) 0) (arR h.most nx2 (.slice KA9 (i+m0) KC9) (qM h.fin)) rfl rfl (Blk.new w5 39 _) rfl zk zo ?_;intro w6 b6 f6;obtain⟨y0,y1,y2,y3⟩:=cells4 b6;have hlt6:=b6.lt;have hw56:Fr [] w5 w6:=((Fr.refl [] w5).alloc _).trans f6 zs;have T6:=hI (T5.out.ext hw56);have Own6:=hI (qA Own5.out hw56 zs);clear b6 f6 hw56)|((with_reducible refine qi 39 (.tmp 10) ?_);refine qc rfl 39 (.tmp 10) (.tmp 93) rfl hb2 39 (arR h.most nx (.slice KA9 (i+m0) KC9) (qM h.fin)) (arR h.most nx2 (.slice KA9 (i+m0) KC9) (qM h.fin)) rfl rfl T6.out.b2 rfl zk zo ?_;intro w7 b7 f7;have T7:=hI (T6.out.next hg1 r.out.pub htb.1 htb.2.1 f7 b7);have Own7:=hI (qA Own6.out f7 (fun b hb=>by simp;rintro rfl;exact own_ne Own6.out T6.out.b2 zd hb));clear b7 f7 y0 y1 y2 y3 hlt6)|(at_builtin;refine qE _ rfl (.tmp 94) (.tmp 95) 30 rfl 5 i0 (.int .u8 0) 1 1 Tryz.underlying30 hi0 hz0 hz1 hz2 rfl zd (.slice A2 out.length c2) out.length (kE out) zr T7.out.own (fun _=>True) (.slice A5 o2.length c5) o2.length (kE o2) zr (Sl.kW Own7.out (fun _ _=>trivial)) (ji _) HLM.out HLB.out (out.length+o2.length) rfl ?_;intro A8 c8 w8 h10 h11 h12;have T8:=hI (T7.out.app r.out.pub h11 h10 rfl h12 HOL.out);clear h10 h11 h12))
      go_roundw;case rel=>
       obtain⟨e8,t8⟩:=T8.out;have e1:=HD1.out;have e2:=HD2.out;have e3:=HD3.out;rw [Hm0.out,show i+1+m0=(i+m0)+1 by omega,HGO.out,<- qaz] at e1 e2 e3;refine⟨nx2,_,L2.eraseIdx i,out++o2,A8,c8,e8,t8,?_,?_,?_⟩
       ·rw [jA L2 i m0 Hm0.out]
        exact e1
       ·rw [jA L2 i m0 Hm0.out]
        exact e2
       ·rw [jA L2 i m0 Hm0.out,List.append_assoc]
        exact e3
      case measure=>
       rw [T8.out.2.klen,K1.out,jA L2 i m0 Hm0.out,Hm0.out];omega
end Go.Proofs.YtmgdbbbdhkfdmaaGreat
namespace Go.Proofs.YtmgdbbbdhkfdmaaGreat
set_option maxRecDepth 100000
open Go.RowKit Go.Deep
theorem qlc{S:Nat->Prop}{w W W2:World}{kv:Value}{h:Hp}{L:List (Pc × Value)}{a:Int}{d:List Int}{KA DA:Option Addr}{N KC DC:Nat}(r:RPx S w kv h L)(F:Fr [] w W)(F2:Fr [w.heap.size+1] W W2)(hN:L.length+1=N)
  (hk:W.ownsRow 0 162 2 (.slice KA N KC) N (pcs L++[.int .i64 a, .slice DA d.length DC])) (hd:W.ownsRow 0 5 1 (.slice DA d.length DC) d.length (kE d)) (b1:Blk W (w.heap.size+1) 39 (arR 0 0 (.slice none 0 0) 0))
  (fd:∀ b,(Value.slice DA d.length DC).ownBlock=some b->w.heap.size<=b) (fk:∀ b,(Value.slice KA N KC).ownBlock=some b->w.heap.size<=b) :
  jk S w { h with kept:=h.kept++[⟨a,d⟩] } [] 0 (.returned (.tuple #[agR h.most h.next (.slice KA N KC) (qM h.fin), .slice none 0 0, .int .i64 0])) W2:=by
 have f:Fr [] w W2:=F.trans F2 (by intro x hx;simp at hx;subst hx;exact .inr zw);have hd2:=qA hd F2 (fun b hb=>by simp;rintro rfl;exact own_ne hd b1 zd hb);have hk2:=qA hk F2 (fun b hb=>by simp;rintro rfl;exact own_ne hk b1 zd hb);have hdat:Byt (fun b=>S b\/(Value.slice DA d.length DC).ownBlock=some b\/(Value.slice KA N KC).ownBlock=some b) W2 (.slice DA d.length DC) d:=Sl.kW hd2 (fun b h => .inr (.inl h));refine⟨fun b=>S b\/(Value.slice DA d.length DC).ownBlock=some b\/(Value.slice KA N KC).ownBlock=some b, .slice KA N KC,none,0,L++[(⟨a,d⟩, .slice DA d.length DC)],rfl,⟨fun b h => .inl h,?_⟩,Byt.nil,⟨⟨?_,?_⟩,by simp [r.kept],fun b hb => .inr (.inr hb),?_⟩,f⟩
 ·rintro b (h|h|h)
  ·exact .inl h
  ·exact .inr (fd b h)
  ·exact .inr (fk b h)
 ·rw [List.length_append,<- yQ]
  subst hN;exact hk2
 ·intro x hx
  rcases List.mem_append.1 hx with hx|hx
  ·exact ((r.kp.byt x hx).fr f zs).mono fun b h => .inl h
  ·rw [List.mem_singleton] at hx
   subst hx;exact hdat
 ·rintro b (h|h|h)
  ·exact Nat.lt_of_lt_of_le (r.pub b h) f.size
  ·exact kG hd2 h
  ·exact kG hk2 h
theorem qnh{v:Value}{k n:Nat}(h:∀ b,v.ownBlock=some b->(Value.slice none 0 0).ownBlock=some b\/(k<=b/\b<n)):∀ b,v.ownBlock=some b->k<=b:=fun b hb=>by
 rcases h b hb with h|h
 ·simp [Value.ownBlock] at h
 ·exact h.1
theorem qhz{w wr w8 wa w10:World}{a0 a1 f:Int}{kv:Value}{z:Array Value}{A8 A9 A10:Option Addr}{n C8 m C9 N C10:Nat}{xs bs ys:List Value}(Fk:Fr [] w wr)(F8:Fr [] wr w8)(F9:Fr [] wr wa)
  (hK:wa.ownsRow 0 162 2 (.slice A8 n C8) n xs) (hD:wa.ownsRow 0 5 1 (.slice A9 m C9) m bs) (n8:∀ b,(Value.slice A8 n C8).ownBlock=some b->(Value.slice none 0 0).ownBlock=some b\/(wr.heap.size<=b/\b<w8.heap.size))
  (n9:∀ b,(Value.slice A9 m C9).ownBlock=some b->w8.heap.size<=b) (bx:Blk wr w.heap.size 39 (arR a0 a1 kv f)) (bz:Blk wr (w.heap.size+1) 39 z)
  (h16:w10.ownsRow 0 162 2 (.slice A10 N C10) N ys) (h17:Fr (ob (.slice A8 n C8)) wa w10) (n10:∀ b,(Value.slice A10 N C10).ownBlock=some b->(Value.slice A8 n C8).ownBlock=some b\/(wa.heap.size<=b/\b<w10.heap.size)) :
  w10.cell? ⟨w.heap.size,0,none⟩=some (.int .i64 a0)/\w10.cell? ⟨w.heap.size,1,none⟩=some (.int .i64 a1)/\w10.cell? ⟨w.heap.size,2,none⟩=some kv/\w10.cell? ⟨w.heap.size,3,none⟩=some (.int .i64 f)/\w10.frozen? ⟨w.heap.size,2,none⟩=false/\w.heap.size<w10.heap.size /\
  (Fr [] w (w10.setCell ⟨w.heap.size,2,none⟩ (.slice A10 N C10))/\(w10.setCell ⟨w.heap.size,2,none⟩ (.slice A10 N C10)).ownsRow 0 162 2 (.slice A10 N C10) N ys/\(w10.setCell ⟨w.heap.size,2,none⟩ (.slice A10 N C10)).ownsRow 0 5 1 (.slice A9 m C9) m bs /\
   Blk (w10.setCell ⟨w.heap.size,2,none⟩ (.slice A10 N C10)) (w.heap.size+1) 39 z/\(∀ b,(Value.slice A9 m C9).ownBlock=some b->w.heap.size<=b)/\(∀ b,(Value.slice A10 N C10).ownBlock=some b->w.heap.size<=b)):=by
 have s1:w.heap.size<=wr.heap.size:=Fk.size;have s2:wr.heap.size<=w8.heap.size:=F8.size;have s3:wr.heap.size<=wa.heap.size:=F9.size;have m8:∀ b,(Value.slice A8 n C8).ownBlock=some b->wr.heap.size<=b:=fun b hb=>by
  rcases n8 b hb with h|h
  ·simp [Value.ownBlock] at h
  ·exact h.1
 have f:Fr [] wr w10:=F9.trans h17 (fun x hx => .inr (m8 x (qo.1 hx)));have bx':=bx.fr f zs;have bz':=bz.fr f zs;obtain⟨c0,c1,c2,c3⟩:=cells4 bx';have fs:Fr [w.heap.size] w10 (w10.setCell ⟨w.heap.size,2,none⟩ (.slice A10 N C10)):=(Fr.refl _ _).setCell (p:=⟨w.heap.size,2,none⟩) (.inl zs) _;refine⟨c0,c1,c2,c3,bx'.frozen 2,bx'.lt,?_,?_,?_,bz'.fr fs zs,fun b hb=>by have:=n9 b hb;omega,fun b hb=>?_⟩
 ·exact (Fk.trans f zs).trans fs zs
 ·exact qA h16 fs (fun b hb=>by simp;rintro rfl;exact own_ne h16 bx' zd hb)
 ·have hD':=qA hD h17 (fun b hb hm=>jR hK hD zd (qo.1 hm) hb)
  exact qA hD' fs (fun b hb=>by simp;rintro rfl;exact own_ne hD' bx' zd hb)
 ·rcases n10 b hb with h|h
  ·have:=m8 b h
   omega
  ·omega
set_option maxRecDepth 100000 in
theorem qni{S:Nat->Prop}{w:World}{kv:Value}{h:Hp}{L:List (Pc × Value)}(r:RPx S w kv h L)(a:Int)(dv:Value)(d:List Int)(T:Nat->Prop)(hd:Byt T w dv d)(hl:d.length<=1000000)(hL:L.length<=64)(h0:0<=a)(h1:a<=4611686018427387904)(h2:1<=d.length)(h3:d.length<=64)(h4:qM h.fin<0\/(0<=qM h.fin/\a+(d.length:Int)<=qM h.fin))(h5:h.next<a)(hany:h.kept.any (longer a d.length)=false)(hm:(L.length:Int)<h.most) :
  Calls Tryz.prog 137 #[agH h kv, .int .i64 a,dv] w (jk S w { h with kept:=h.kept++[⟨a,d⟩] } [] 0):=by
 obtain⟨KA,KC,rfl,hKn,hKc⟩:=r.kp.form;obtain⟨DA,DC,rfl,hdn,hdc⟩:=hd.form;have r:=hI r;have hd:=hI hd;have b0:=(Blk.new w 39 (arR h.most h.next (.slice KA L.length KC) (qM h.fin))).alloc (.cells (arR 0 0 (.slice none 0 0) 0) 39);have b1:Blk ((w.alloc (.cells (arR h.most h.next (.slice KA L.length KC) (qM h.fin)) 39)).alloc (.cells (arR 0 0 (.slice none 0 0) 0) 39)) (w.heap.size+1) 39 (arR 0 0 (.slice none 0 0) 0):=by simpa using Blk.new (w.alloc (.cells (arR h.most h.next (.slice KA L.length KC) (qM h.fin)) 39)) 39 (arR 0 0 (.slice none 0 0) 0)
 have f0:Fr [] w ((w.alloc (.cells (arR h.most h.next (.slice KA L.length KC) (qM h.fin)) 39)).alloc (.cells (arR 0 0 (.slice none 0 0) 0) 39)):=((Fr.refl _ _).alloc _).alloc _;have B0:=hI b0;have B1:=hI b1;have F0:=hI f0;clear b0 b1 f0;rw [r.out.kept] at hany;have HANY:=hI hany;clear hany;rcases h4 with h4|⟨h4,h4b⟩;all_goals
  go_enter Tryz.func137,Tryz.ntmps137;go_wp2
  go_loopw [16] (fun s16 wr=>qcs w (arR h.most h.next (.slice KA L.length KC) (qM h.fin)) a d.length (L.map (·.1)) s16 wr) (fun s16 _=>L.length - (intOf s16).toNat);case atStart=>exact⟨0,zw,rfl,rfl,F0.out,B0.out,B1.out⟩
  case round=>
   obtain⟨k,hk,rfl,hany,fk,bx,bz⟩:=hrel;rw [List.length_map] at hk;obtain⟨c0,c1,c2,c3⟩:=cells4 bx;have HA:=hI hany;clear hany;have Fk:=hI fk;have Bx:=hI bx;have Bz:=hI bz;by_cases hlt:k<L.length
   ·obtain⟨b,_,x,hv,hx,d0,d1,hby⟩:=(r.out.kp.fr fk zs zs).at_ hlt
    injection hv with hv _ hc;subst hv hc;obtain⟨A,c,hxv,_,_⟩:=hby.form;rw [hxv] at d1;have hg:(L.map (·.1))[k]?=some x.1:=(by simp [hx]);have hov:longer a d.length x.1=((x.1.at_ == a) && decide (d.length<=x.1.d.length)):=rfl;have HG:=hI hg;have HO:=hI hov;clear hov hg hx hxv hby fk bx bz;have hl1:=World.block_lt_of_cell? wr _ d0;cases hat:(x.1.at_ == a)
    ·go_wp2_with fail
     go_roundw;case rel=>exact⟨k+1,zv,by go_num,by rw [vN _ _ _ _ HG.out,HA.out,HO.out];simp [hat],Fk.out,Bx.out,Bz.out⟩
     case measure=>simp [intOf];omega
    ·by_cases hdl:d.length<=x.1.d.length
     ·have hyes:(L.map (·.1)).any (longer a d.length)=true:=List.any_eq_true.2 ⟨x.1,List.mem_of_getElem? HG.out,by rw [HO.out];simp [hat,hdl]⟩
      have hno:(L.map (·.1)).any (longer a d.length)=false:=HANY.out;rw [hyes] at hno;cases hno
     ·go_wp2_with fail
      go_roundw;case rel=>exact⟨k+1,zv,by go_num,by rw [vN _ _ _ _ HG.out,HA.out,HO.out];simp [hdl],Fk.out,Bx.out,Bz.out⟩
      case measure=>simp [intOf];omega
   ·obtain rfl:L.length=k:=zw
    have hno:(L.map (·.1)).any (longer a d.length)=false:=by
     have:=HA.out
     rwa [List.take_of_length_le zs] at this
    clear fk bx bz;clear hno;obtain⟨i1,hi1,hzA,hzB,hzC⟩:=info_parts qgj;obtain⟨i0,hi0,hz0,hz1,hz2⟩:=info_parts vM;have kpw:=r.out.kp.fr Fk.out zs zs;have HS1:Hid (Sl (fun _=>True) wr 2 (.slice KA L.length KC) L.length (pcs L)):=hI (Sl.kW kpw.own (fun _ _=>trivial));have HOne:=hI kpw.one;have HBy:Hid (Byt T wr (.slice DA d.length DC) d):=hI (hd.out.fr Fk.out zs);clear kpw;have HLm1:Hid (0+L.length<=maxLen):=hI (by unfold maxLen;omega);have HLb1:Hid ((0+L.length) * 32<=140737488355328):=hI zw;have HLm2:Hid (0+d.length<=maxLen):=hI (by unfold maxLen;omega);have HLb2:Hid ((0+d.length) * 1<=140737488355328):=hI zw;obtain⟨N,hN⟩:∃ N,L.length+1=N:=⟨_,rfl⟩;have HN:=hI hN;clear hN;have HLm3:Hid (L.length+1<=maxLen):=hI (by unfold maxLen;omega);have HLb3:Hid ((L.length+1) * 32<=140737488355328):=hI zw;go_wp2_with (first
     | (at_builtin;refine qE _ rfl (.const (.slice none 0 0)) (.tmp 135) 37 rfl 162 i1 (.agg #[.int .i64 0, .slice none 0 0]) 2 32 Tryz.underlying37 hi1 hzA hzB hzC rfl zd (.slice none 0 0) 0 [] zr (World.ownsRow_nil _ 0 162 2) (fun _=>True) (.slice KA L.length KC) L.length (pcs L) zr HS1.out HOne.out HLm1.out HLb1.out L.length zw ?_;intro A8 C8 w8 h10 h11 h12;have f8:Fr [] wr w8:=(by simpa [ob,Value.ownBlock] using h11);have F8:=hI f8;have HB8:Hid (Byt T w8 (.slice DA d.length DC) d):=hI (HBy.out.fr f8 zs);have H10:=hI h10;have H12:=hI h12;clear h10 h11 h12 f8)|(at_builtin;refine qE _ rfl (.const (.slice none 0 0)) (.tmp 138) 30 rfl 5 i0 (.int .u8 0) 1 1 Tryz.underlying30 hi0 hz0 hz1 hz2 rfl zd (.slice none 0 0) 0 [] zr (World.ownsRow_nil _ 0 5 1) T (.slice DA d.length DC) d.length (kE d) zr HB8.out (ji _) HLm2.out HLb2.out d.length zw ?_;intro A9 C9 w9 h13 h14 h15;have f9:Fr [] w8 w9:=(by simpa [ob,Value.ownBlock] using h14);have F9:=hI ((F8.out.trans f9 zs).alloc (.cells #[.int .i64 a, .slice A9 d.length C9] 162));have HK9:=hI (qA (qA H10.out f9 zs) ((Fr.refl [] w9).alloc (.cells #[.int .i64 a, .slice A9 d.length C9] 162)) zs);have HD9:=hI (qA h13 ((Fr.refl [] w9).alloc (.cells #[.int .i64 a, .slice A9 d.length C9] 162)) zs);have HS9:Hid (Sl (fun _=>True) (w9.alloc (.cells #[.int .i64 a, .slice A9 d.length C9] 162)) 2 (.slice (some ⟨w9.heap.size,0,none⟩) 1 1) 1 [.int .i64 a, .slice A9 d.length C9]):=hI (Sl.kW (World.ownsRow_lit (base:=0) (e:=162) (size:=2) w9 #[.int .i64 a, .slice A9 d.length C9] 1 (Nat.zero_le _) (by unfold maxLen;omega) rfl) (fun _ _=>trivial));have one2:∀ u∈([.int .i64 a, .slice A9 d.length C9]:List Value),u.oneCell'=true:=(by intro u hu;simp at hu;rcases hu with rfl|rfl <;> rfl);have H15:=hI (qnh h15);have hs9:w8.heap.size<=w9.heap.size:=f9.size;clear h13 h14 h15 f9)|(at_builtin;refine qE _ rfl (.tmp 136) (.tmp 141) 37 rfl 162 i1 (.agg #[.int .i64 0, .slice none 0 0]) 2 32 Tryz.underlying37 hi1 hzA hzB hzC rfl zd (.slice A8 L.length C8) L.length ([]++pcs L) zr HK9.out (fun _=>True) (.slice (some ⟨w9.heap.size,0,none⟩) 1 1) 1 [.int .i64 a, .slice A9 d.length C9] zr HS9.out one2 HLm3.out HLb3.out N HN.out ?_;intro A10 C10 w10 h16 h17 h18;have hRP:=qhz Fk.out F8.out F9.out HK9.out HD9.out H12.out H15.out Bx.out Bz.out h16 h17 h18;obtain⟨q0,q1,q2,q3,q4,q5,hx⟩:=hRP;have HX:=hI hx;clear h16 h17 h18 hx)|((with_reducible refine qi 39 (.tmp 6) ?_);refine qc rfl 39 (.tmp 6) (.tmp 144) rfl (w.heap.size+1) 39 (arR 0 0 (.slice none 0 0) 0) (arR h.most h.next (.slice A10 N C10) (qM h.fin)) rfl rfl HX.out.2.2.2.1 rfl zk zo ?_;intro w2 B3 F3))
    obtain⟨r0,r1,r2,r3⟩:=cells4 B3;refine bodyPost_ret (v := .tuple #[agR h.most h.next (.slice A10 N C10) (qM h.fin), .slice none 0 0, .int .i64 0]) (by simp [results,Tryz.results137,go_sem,r0,r1,r2,r3]) rfl ?_;exact qlc r.out HX.out.1 F3 HN.out HX.out.2.1 HX.out.2.2.1 HX.out.2.2.2.1 HX.out.2.2.2.2.1 HX.out.2.2.2.2.2
end Go.Proofs.YtmgdbbbdhkfdmaaGreat
namespace Go.Proofs.YtmgdbbbdhkfdmaaGreat
set_option maxRecDepth 100000
open Go.RowKit
theorem qnj{S:Nat->Prop}{w:World}{kv:Value}{h:Hp}{L:List (Pc × Value)}(r:RPx S w kv h L)(hi:Inv h)(a:Int)(dv:Value)(d:List Int)(T:Nat->Prop)(hd:Byt T w dv d)(hl:d.length<=1000000) :
  Calls Tryz.prog 137 #[agH h kv, .int .i64 a,dv] w (jk S w (jS h a d).1 (jS h a d).2.1 (jS h a d).2.2):=by
 have hlen:h.kept.length<=64:=by have:=hi.len;have:=hi.m1;omega
 have hkl:h.kept.length=L.length:=by rw [r.kept,List.length_map]
 have hL:L.length<=64:=zw;unfold jS;by_cases h0:a<0
 ·rw [if_pos (.inl h0)]
  exact qkv r a dv d T hd hl hL h0
 by_cases h1:4611686018427387904<a
 ·rw [if_pos (.inr (.inl h1))]
  exact qkw r a dv d T hd hl hL h1
 by_cases h2:d.length<1
 ·rw [if_pos (.inr (.inr (.inl h2)))]
  exact qkx r a dv d T hd hl hL zw zw h2
 by_cases h3:64<d.length
 ·rw [if_pos (.inr (.inr (.inr h3)))]
  exact qky r a dv d T hd hl hL zw zw zw h3
 rw [if_neg zw];by_cases h4:past h.fin (a+d.length)=true
 ·rw [if_pos h4]
  obtain⟨e,he,hlt⟩:∃ e,h.fin=some e/\e<a+d.length:=by
   cases hf:h.fin with
   | none=>simp [past,hf] at h4
   | some e=>exact⟨e,rfl,by simpa [past,hf] using h4⟩
  have hf:=hi.fin e he;have ef:qM h.fin=e:=by rw [he];rfl
  exact qkz r a dv d T hd hl hL zw zw zw zw zw zw
 rw [if_neg h4];have h4':qM h.fin<0\/(0<=qM h.fin/\a+(d.length:Int)<=qM h.fin):=by
  cases hf:h.fin with
  | none=>exact .inl (by simp [qM])
  | some e=>
   have:=hi.fin e hf;refine .inr ⟨by simp only [qM];omega,?_⟩;simp [past,hf] at h4;simp only [qM];omega
 by_cases h5:a+d.length<=h.next
 ·rw [if_pos h5]
  exact qnf r a dv d T hd hl hL zw zw zw zw h4' h5
 rw [if_neg h5];by_cases h6:a<=h.next
 ·rw [if_pos h6]
  exact qlb r hi a dv d T hd zw zw zw zw h4' zw h6 _ rfl
 rw [if_neg h6];by_cases h7:h.kept.any (longer a d.length)=true
 ·rw [if_pos h7]
  exact qgi r a dv d T hd hl hL zw zw zw zw h4' zw h7
 rw [if_neg h7];have h7':h.kept.any (longer a d.length)=false:=by simpa using h7
 by_cases h8:h.most<=h.kept.length
 ·rw [if_pos h8]
  exact qla r a dv d T hd hl hL zw zw zw zw h4' zw h7' zw
 rw [if_neg h8];exact qni r a dv d T hd hl hL zw zw zw zw h4' zw h7' zw
end Go.Proofs.YtmgdbbbdhkfdmaaGreat
