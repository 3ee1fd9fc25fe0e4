import Derived.Test.YtmgdbbbdhkfdmaaGreatYC3
import Derived.Test.YtmgdbbbdhkfdmaaGreatYC8
import Derived.Deep.DeepCutAuto
import Derived.Test.YtmgdbbbdhkfdmaaGreatYC0
set_option linter.unusedSimpArgs false
set_option linter.unusedVariables false
set_option maxHeartbeats 40000000
namespace Go.Proofs.YtmgdbbbdhkfdmaaGreat
set_option maxRecDepth 100000
open Go.RowKit Go.Deep
structure OkU(x:St):Prop where
 i0:0<=x.isn
 i1:x.isn<4294967296
 p0:0<=x.peer
 p1:x.peer<4294967296
structure EC(w:World)(b:Nat)(x:St)(av uv kv:Value):Prop where
 c0:w.cell? ⟨b,0,none⟩=some (.int .u32 x.isn)
 c1:w.cell? ⟨b,1,none⟩=some (.int .u32 x.peer)
 c2:w.cell? ⟨b,2,none⟩=some (.int .i64 x.at_)
 c3:w.cell? ⟨b,3,none⟩=some (.bool x.broken)
 c4:w.cell? ⟨b,4,none⟩=some av
 c5:w.cell? ⟨b,5,none⟩=some uv
 c6:w.cell? ⟨b,6,none⟩=some (.int .i64 x.win.a)
 c7:w.cell? ⟨b,7,none⟩=some (.int .i64 x.win.s)
 c8:w.cell? ⟨b,8,none⟩=some (.int .i64 x.win.m)
 c9:w.cell? ⟨b,9,none⟩=some (.int .i64 x.win.l)
 c10:w.cell? ⟨b,10,none⟩=some (.int .i64 x.clk.f)
 c11:w.cell? ⟨b,11,none⟩=some (.int .i64 x.clk.l)
 c12:w.cell? ⟨b,12,none⟩=some (.int .i64 x.clk.m)
 c13:w.cell? ⟨b,13,none⟩=some (.int .i64 x.clk.t)
 c14:w.cell? ⟨b,14,none⟩=some (.bool x.clk.is)
 c15:w.cell? ⟨b,15,none⟩=some (.int .i64 x.clk.tm)
 c16:w.cell? ⟨b,16,none⟩=some (.int .i64 x.clk.sp)
 c17:w.cell? ⟨b,17,none⟩=some (.int .i64 x.clk.wt)
 c18:w.cell? ⟨b,18,none⟩=some (.int .i64 x.clk.si)
 c19:w.cell? ⟨b,19,none⟩=some (.int .i64 x.clk.tr)
 c20:w.cell? ⟨b,20,none⟩=some (.bool x.clk.rn)
 c21:w.cell? ⟨b,21,none⟩=some (.int .i64 x.heap.most)
 c22:w.cell? ⟨b,22,none⟩=some (.int .i64 x.heap.next)
 c23:w.cell? ⟨b,23,none⟩=some kv
 c24:w.cell? ⟨b,24,none⟩=some (.int .i64 (qM x.heap.fin))
 c25:w.cell? ⟨b,25,none⟩=some (.bool x.closing)
 c26:w.cell? ⟨b,26,none⟩=some (.bool x.fin)
 c27:w.cell? ⟨b,27,none⟩=some (.bool x.qp)
 c28:w.cell? ⟨b,28,none⟩=some (.bool x.ended)
 c29:w.cell? ⟨b,29,none⟩=some (.int .i64 x.now)
 c30:w.cell? ⟨b,30,none⟩=some (.int .i64 x.since)
 c31:w.cell? ⟨b,31,none⟩=some (.int .i64 x.timed)
 c32:w.cell? ⟨b,32,none⟩=some (.int .i64 x.shown)
theorem jK{w:World}{b:Nat}{t:TypeId}{x:St}{av uv kv:Value}(h:Blk w b t (arE x av uv kv)):EC w b x av uv kv:=
 ⟨h.cell 0,h.cell 1,h.cell 2,h.cell 3,h.cell 4,h.cell 5,h.cell 6,h.cell 7,h.cell 8,h.cell 9,h.cell 10,h.cell 11,h.cell 12,h.cell 13,h.cell 14,h.cell 15,h.cell 16,h.cell 17,h.cell 18,h.cell 19,h.cell 20,h.cell 21,h.cell 22,h.cell 23,h.cell 24,h.cell 25,h.cell 26,h.cell 27,h.cell 28,h.cell 29,h.cell 30,h.cell 31,h.cell 32⟩
theorem qam{S:Nat->Prop}{w:World}{x:St}{av uv kv:Value}(_m:RE S w x av uv kv)(ok:OkS x)(ou:OkU x):Calls Tryz.prog 66 #[agE x av uv kv] w fun e w'=>e = .returned (.int .u32 (ku x))/\Fr [] w w':=by
 have f0:Fr [] w (w.alloc (.cells (arE x av uv kv) 41)):=(Fr.refl [] w).alloc _;have b0:=Blk.new w 41 (arE x av uv kv);have hn0:=ok.hi.n0;have hn1:=ok.hi.n1;have ho:=qav x.ended;have hA:∀ W,Calls Tryz.prog 103 #[.int .u32 x.peer, .int .i64 (1+x.heap.next+one x.ended)] W _:=fun W=>vO x.peer (1+x.heap.next+one x.ended) W ou.p0 ou.p1 zw zw;have h1:IntKind.i64.wrap (1+x.heap.next)=1+x.heap.next:=IntWalk.i64_in _ zw;have h2:IntKind.i64.wrap (1+x.heap.next+one x.ended)=1+x.heap.next+one x.ended:=IntWalk.i64_in _ zw;have HA:=hI hA;clear hA ok ou _m;go_enter Tryz.func66,Tryz.ntmps66;go_wp2_with fail
 generalize w.alloc (.cells (arE x av uv kv) 41)=w1 at *
 have c:=jK b0;have y0:=Grew.cell c.c1;have y1:=Grew.cell c.c22;have y2:=Grew.cell c.c28;have hA':∀ p:Grew w1,Calls Tryz.prog 103 #[.int .u32 x.peer, .int .i64 (1+x.heap.next+one x.ended)] p.W fun e w'=>e = .returned (.int .u32 (add32 x.peer (1+x.heap.next+one x.ended)))/\∃ q:Grew w1,w'=q.W:=fun p=>kN (HA.out p.W);have hF:∀ p:Grew w1,Calls Tryz.prog 82 #[.bool x.ended] p.W fun e w'=>e = .returned (.int .i64 (one x.ended))/\∃ q:Grew w1,w'=q.W:=fun p=>kN (qce _ _);have HA':=hI hA';have HF:=hI hF;clear hF hA' c b0 hn0 hn1 ho;refine qg zk zk ?_;repeat (go_big_quiet_step (first|(go_at_call 103;exact HA'.out _)|(go_at_call 82;exact HF.out _)))
 refine wpQuiet_nil ?_;intro W1 f1;go_wp2_with fail
 go_ret;exact⟨rfl,f0.trans f1 zs⟩
theorem qjb{S:Nat->Prop}{w:World}{x:St}{av uv kv:Value}(m:RE S w x av uv kv)(ok:OkS x):Calls Tryz.prog 65 #[agE x av uv kv] w fun e w'=>e = .returned (.int .i64 (qK x))/\Fr [] w w':=by
 have f0:Fr [] w (w.alloc (.cells (arE x av uv kv) 41)):=(Fr.refl [] w).alloc _;have b0:=Blk.new w 41 (arE x av uv kv);have hs:=qaw x.heap ok.hi;have hu:=ok.hu;have hR:(Win.xg 1024 (min 1024 ((x.unread.length:Int)+zU x.heap.kept))).1=qK x:=rfl;have h1:IntKind.i64.wrap ((x.unread.length:Int)+zU x.heap.kept)=(x.unread.length:Int)+zU x.heap.kept:=IntWalk.i64_in _ zw;obtain⟨uA,uc,rfl,_,_⟩:=m.bu.form;have m1:=m.fr f0;obtain⟨L,r⟩:=m1.hp;have hl:=ok.hi.len;have hpc:∀ x∈L,x.1.d.length<=64:=fun q hq=>(ok.hi.pc q.1 (by rw [r.kept];exact List.mem_map_of_mem hq)).2.2.2;have hL:L.length<=64:=by
  have:=ok.hi.m1;have e:x.heap.kept.length=L.length:=by rw [r.kept,List.length_map]
  omega
 have hk:zU (L.map (·.1))=zU x.heap.kept:=by rw [r.kept]
 have hH:∀ W,Fr [] (w.alloc (.cells (arE x av (.slice uA x.unread.length uc) kv) 41)) W->Calls Tryz.prog 102 #[agR x.heap.most x.heap.next kv (qM x.heap.fin)] W fun e w'=>e = .returned (.int .i64 (zU x.heap.kept))/\Fr [] W w':=fun W f=>by
  have:=rheld S W x.heap.most x.heap.next (qM x.heap.fin) kv L (r.kp.fr f zs zs) hL hpc;rw [hk] at this;exact this
 have hO:∀ W,Calls Tryz.prog 101 #[.int .i64 1024, .int .i64 (min 1024 ((x.unread.length:Int)+zU x.heap.kept))] W _:=fun W=>Win.qhg _ _ W;generalize (Win.xg 1024 (min 1024 ((x.unread.length:Int)+zU x.heap.kept))).2=o2 at *
 rw [hR] at hO;generalize qK x=rv at *
 have HH:=hI hH;have HO:=hI hO;clear hH hO hR hs hu ok hl hpc hL hk r m m1;go_enter Tryz.func65,Tryz.ntmps65;go_wp2_with fail
 generalize w.alloc (.cells (arE x av (.slice uA x.unread.length uc) kv) 41)=w1 at *
 have c:=jK b0;have y5:=Grew.cell c.c5;have y21:=Grew.cell c.c21;have y22:=Grew.cell c.c22;have y23:=Grew.cell c.c23;have y24:=Grew.cell c.c24;have hH':∀ p:Grew w1,Calls Tryz.prog 102 #[agR x.heap.most x.heap.next kv (qM x.heap.fin)] p.W fun e w'=>e = .returned (.int .i64 (zU x.heap.kept))/\∃ q:Grew w1,w'=q.W:=fun p=>qG (HH.out p.W p.fr);have hO':∀ p:Grew w1,Calls Tryz.prog 101 #[.int .i64 1024, .int .i64 (min 1024 ((x.unread.length:Int)+zU x.heap.kept))] p.W fun e w'=>e = .returned (.tuple #[.int .i64 rv, .int .i64 o2])/\∃ q:Grew w1,w'=q.W:=fun p=>kN (HO.out p.W);have HH':=hI hH';have HO':=hI hO';clear hH' hO' c b0;refine qg zk zk ?_;repeat (go_big_quiet_step (first|(go_at_call 102;exact HH'.out _)|(go_at_call 101;exact HO'.out _)))
 refine wpQuiet_nil ?_;intro W1 f1;go_wp2_with fail
 go_ret;exact⟨rfl,f0.trans f1 zs⟩
theorem qex{S:Nat->Prop}{w:World}{x:St}{av uv kv:Value}(m:RE S w x av uv kv):Calls Tryz.prog 67 #[agE x av uv kv] w fun e w'=>e = .returned (.bool (kT x))/\Fr [] w w':=by
 have f0:Fr [] w (w.alloc (.cells (arE x av uv kv) 41)):=(Fr.refl [] w).alloc _;have b0:=Blk.new w 41 (arE x av uv kv);obtain⟨aA,ac,rfl,_,_⟩:=m.ba.form;have hz0:∀ W,Calls Tryz.prog 104 #[Win.agW x.win] W fun e w'=>e = .returned (.bool (Win.zeroV x.win))/\Fr [] W w':=fun W=>Win.rzero x.win W;by_cases h4:x.at_=4
 ·cases hA:decide (x.win.a<x.win.m) <;> cases hfi:x.fin <;> cases hac:x.qp <;> cases hz:Win.zeroV x.win <;> cases hl:decide (x.win.a<(x.all.length:Int))
  all_goals
   rw [hz] at hz0;have HZ:=hI hz0;have H4:=hI h4;have HA:=hI hA;have HFI:=hI hfi;have HAC:=hI hac;have HZZ:=hI hz;have HL:=hI hl;clear hz0 m;go_enter Tryz.func67,Tryz.ntmps67;go_wp2_with (go_at_call 104;refine (HZ.out _).mono ?_;rintro e w5 ⟨rfl,f5⟩;have B5:=(b0.fr ((Fr.refl [] _).alloc (.cells #[.int .i64 x.win.a, .int .i64 x.win.s, .int .i64 x.win.m, .int .i64 x.win.l] 32)) zs).fr f5 zs;have u4:w5.cell? ⟨w.heap.size,4,none⟩=some (.slice aA x.all.length ac):=B5.cell 4;have C5:=(Blk.new (w.alloc (.cells (arE x (.slice aA x.all.length ac) uv kv) 41)) 32 #[.int .i64 x.win.a, .int .i64 x.win.s, .int .i64 x.win.m, .int .i64 x.win.l]).fr f5 zs;rw [World.size_alloc] at C5;have u0:w5.cell? ⟨w.heap.size+1,0,none⟩=some (.int .i64 x.win.a):=C5.cell 0;clear B5 C5)
   go_ret;have hv:kT x=(4 == 2 || (4 == 3 || (4 == 4 && (decide (x.win.a<x.win.m) || (x.fin && !x.qp || Win.zeroV x.win && decide (x.win.a<(x.all.length:Int))))))):=by unfold kT;rw [H4.out];rfl
   rw [HA.out,HFI.out,HAC.out,HZZ.out,HL.out] at hv;rw [hv];first|exact⟨rfl,(f0.alloc _).trans f5 zs⟩|exact⟨rfl,f0.alloc _⟩
 ·by_cases h2:x.at_=2
  ·have H2:=hI h2
   clear hz0 m;go_enter Tryz.func67,Tryz.ntmps67;go_wp2_with fail
   go_ret;exact⟨by unfold kT;rw [H2.out];rfl,f0.alloc _⟩
  ·by_cases h3:x.at_=3
   ·have H3:=hI h3
    clear hz0 m;go_enter Tryz.func67,Tryz.ntmps67;go_wp2_with fail
    go_ret;exact⟨by unfold kT;rw [H3.out];rfl,f0.alloc _⟩
   ·clear hz0 m
    go_enter Tryz.func67,Tryz.ntmps67;go_wp2_with fail
    go_ret;exact⟨by unfold kT;rw [show (x.at_ == 4)=false by simpa using h4];simp,f0.alloc _⟩
section
variable {P:Program} {fn:Func} {tmps:Array Value} {w:World}
theorem kF(r:Tmp)(t:TypeId)(a:Addr)(v:Value)(hf:fn.results=#[.cell r t])(hp:tmps.getD r undef = .pointer (some a))(hl:(loadVar t a).run P w = .ok v w):(results fn tmps).run P w = .ok v w:=by
 have hp':tmps[r]?.getD undef = .pointer (some a):=by simpa using hp
 unfold results;rw [hf];simp [hp',hl,Sem.run_bind,Sem.run_pure,Result.andThen_ok,asAddr]
theorem qx(r:Tmp)(t:TypeId)(a:Addr)(v:Value)(k:Tmp)(u:Value)(hf:fn.results=#[.cell r t, .tmp k])(hp:tmps.getD r undef = .pointer (some a))(hl:(loadVar t a).run P w = .ok v w)(hk:tmps.getD k undef=u):(results fn tmps).run P w = .ok (.tuple #[v,u]) w:=by
 subst hk;have hp':tmps[r]?.getD undef = .pointer (some a):=by simpa using hp
 unfold results;rw [hf];simp [hp',hl,Sem.run_bind,Sem.run_pure,Result.andThen_ok,asAddr]
theorem kR(r:Tmp)(t:TypeId)(a:Addr)(v:Value)(k k2:Tmp)(u u2:Value)(hf:fn.results=#[.cell r t, .tmp k, .tmp k2])(hp:tmps.getD r undef = .pointer (some a))(hl:(loadVar t a).run P w = .ok v w)(hk:tmps.getD k undef=u)(hk2:tmps.getD k2 undef=u2):(results fn tmps).run P w = .ok (.tuple #[v,u,u2]) w:=by
 subst hk hk2;have hp':tmps[r]?.getD undef = .pointer (some a):=by simpa using hp
 unfold results;rw [hf];simp [hp',hl,Sem.run_bind,Sem.run_pure,Result.andThen_ok,asAddr]
theorem qhm(r:Tmp)(t:TypeId)(a:Addr)(v:Value)(r2:Tmp)(t2:TypeId)(a2:Addr)(v2:Value)(hf:fn.results=#[.cell r t, .cell r2 t2])(hp:tmps.getD r undef = .pointer (some a))(hl:(loadVar t a).run P w = .ok v w)
  (hp2:tmps.getD r2 undef = .pointer (some a2)) (hl2:(loadVar t2 a2).run P w = .ok v2 w):(results fn tmps).run P w = .ok (.tuple #[v,v2]) w:=by
 have hp':tmps[r]?.getD undef = .pointer (some a):=by simpa using hp
 have hp2':tmps[r2]?.getD undef = .pointer (some a2):=by simpa using hp2
 unfold results;rw [hf];simp [hp',hl,hp2',hl2,Sem.run_bind,Sem.run_pure,Result.andThen_ok,asAddr]
theorem xY(ty:TypeId)(b:Nat)(t:TypeId)(cs:Array Value)(d:TypeDesc)(hB:Blk w b t cs)(hu:P.underlying ty=some d)(hd:d.isRow=true)(hi:(P.info? ty).map (·.size)=some cs.size):(loadVar ty ⟨b,0,none⟩).run P w = .ok (.agg cs) w:=by
 have:=run_loadVar_mid (P:=P) w b 0 ty cs.toList d (fun j v hj=>by rw [Nat.zero_add,Blk.cell hB j];simpa using hj) hu hd (by simpa using hi);simpa using this
end
theorem qw{w:World}{b:Nat}{x:St}{av uv kv:Value}(B:Blk w b 41 (arE x av uv kv)):(loadVar 41 ⟨b,0,none⟩).run Tryz.prog w = .ok (agE x av uv kv) w:=xY 41 b 41 _ _ B Tryz.underlying41 rfl zk
section
variable {P:Program} {ops:Array Oper} {rest:List Oper} {op:Oper} {a:Act} {w:World} {Q:Exit->Act->World->Prop}
theorem qI(hgd:op.guard=none)(ty:TypeId)(x y:Operand)(ho:op.op = .store ty x y)(b o:Nat)(t:TypeId)(cs cells cs':Array Value)
  (hx:a.eval x = .pointer (some ⟨b,o,none⟩)) (hy:a.eval y = .agg cells) (hB:Blk w b t cs) (hs:o+cells.size<=cs.size) (hi:(P.info? ty).map (·.size)=some cells.size) (h1:cells.all (·.oneCell')=true)
  (he:(cs.toList.take o++cells.toList++cs.toList.drop (o+cells.size)).toArray=cs')
  (h:∀ w',Blk w' b t cs'->Fr [b] w w'->wpList P ops Q rest (a.put op.dst undef) w'):wpList P ops Q (op::rest) a w:=by
 refine wpList_store_mid hgd ty x y ho b o cells hx hy (fun j hj=>?_) hi h1 (h _ ?_ (vC b _ o w))
 ·have hc:=Blk.cell hB (o+j)
  refine⟨?_,?_⟩
  ·rw [hc]
   simp [show o+j<cs.size from by omega]
  ·exact Blk.frozen hB (o+j)
 ·have:=vI b t cells.toList o w cs.toList (by simpa using hB) zv
  subst he;simpa using this
theorem qC(hgd:op.guard=none)(ty:TypeId)(x:Operand)(ho:op.op = .load ty x)(b o:Nat)(t:TypeId)(cs cells:Array Value)(d:TypeDesc)
  (hx:a.eval x = .pointer (some ⟨b,o,none⟩)) (hB:Blk w b t cs) (hc:(cs.toList.drop o).take cells.size=cells.toList) (hu:P.underlying ty=some d) (hd:d.isRow=true) (hi:(P.info? ty).map (·.size)=some cells.size)
  (h:wpList P ops Q rest (a.put op.dst (.agg cells)) w):wpList P ops Q (op::rest) a w:=by
 refine wpList_load_mid hgd ty x ho b o hx cells.toList d (fun j v hj=>?_) hu hd (by simpa using hi) (by simpa using h);rw [Blk.cell hB (o+j)];have h1:(cells.toList)[j]?=some v:=hj;rw [<- hc] at h1;have h2:j<cells.size:=by
  have:=(List.getElem?_eq_some_iff.1 hj).1;simpa using this
 rw [List.getElem?_take_of_lt h2,List.getElem?_drop] at h1;simpa using h1
end
section
variable {P:Program} {ops:Array Oper} {rest:List Oper} {o:Oper} {a:Act} {C:World->Prop} {Q:Act->Prop}
theorem kC{d:Option Tmp}{t:TypeId}{pos:String}{af:Array Edge}{gd:Option (Nat × Bool)}(ty:TypeId)(x:Operand)(h:wpQuiet P ops C Q (⟨d, .load ty x,t,pos,af,gd⟩::rest) a):wpQuiet P ops C Q (⟨d, .load ty x,t,pos,af,gd⟩::rest) a:=h
theorem qH{op:Oper}(hgd:op.guard=none)(ty:TypeId)(x:Operand)(ho:op.op = .load ty x)(b:Nat)(t:TypeId)(cs:Array Value)(d:TypeDesc)
  (hx:a.eval x = .pointer (some ⟨b,0,none⟩)) (hB:∀ w,C w->Blk w b t cs) (hu:P.underlying ty=some d) (hd:d.isRow=true) (hi:(P.info? ty).map (·.size)=some cs.size)
  (h:wpQuiet P ops C Q rest (a.put op.dst (.agg cs))):wpQuiet P ops C Q (op::rest) a:=by
 refine BigFrame.wpQuiet_want (by simp [Region.wanted,hgd]) (fun K hK=>⟨.agg cs,fun w hw=>?_,hK _ h⟩);unfold Oper.quietAt execOp;have hl:(Instr.loadAt ty (.pointer (some ⟨b,0,none⟩))).run P w = .ok (.agg cs) w:=by
  simp only [Instr.loadAt,Instr.sureAddr,Sem.run_bind,Sem.run_pure,Result.andThen_ok,xY ty b t cs d (hB w hw) hu hd hi]
 simp only [ho,hx,hl,Sem.run_bind,Sem.run_pure,Result.andThen_ok];exact⟨rfl,rfl⟩
end
abbrev qy:Array Value:=#[.int .u32 0, .int .u32 0, .int .i64 0, .bool false, .slice none 0 0, .slice none 0 0, .int .i64 0, .int .i64 0, .int .i64 0, .int .i64 0, .int .i64 0, .int .i64 0, .int .i64 0, .int .i64 0, .bool false, .int .i64 0, .int .i64 0, .int .i64 0, .int .i64 0, .int .i64 0, .bool false, .int .i64 0, .int .i64 0, .slice none 0 0, .int .i64 0, .bool false, .bool false, .bool false, .bool false, .int .i64 0, .int .i64 0, .int .i64 0, .int .i64 0]
abbrev ckZ:Array Value:=#[.int .i64 0, .int .i64 0, .int .i64 0, .int .i64 0, .bool false, .int .i64 0, .int .i64 0, .int .i64 0, .int .i64 0, .int .i64 0, .bool false]
abbrev arC(c:Rto.Ck):Array Value:=#[.int .i64 c.f, .int .i64 c.l, .int .i64 c.m, .int .i64 c.t, .bool c.is, .int .i64 c.tm, .int .i64 c.sp, .int .i64 c.wt, .int .i64 c.si, .int .i64 c.tr, .bool c.rn]
abbrev arW(x:Win.Wn):Array Value:=#[.int .i64 x.a, .int .i64 x.s, .int .i64 x.m, .int .i64 x.l]
theorem RE.forms{S:Nat->Prop}{w:World}{x:St}{av uv kv:Value}(m:RE S w x av uv kv):(∃ A c,av = .slice A x.all.length c/\x.all.length<=c/\c<=maxLen)/\(∃ A c,uv = .slice A x.unread.length c/\x.unread.length<=c/\c<=maxLen)/\(∃ A n c,kv = .slice A n c):=by
 obtain⟨A0,c0,h0,h1,h2⟩:=m.ba.form;obtain⟨A1,c1,g0,g1,g2⟩:=m.bu.form;obtain⟨L,r⟩:=m.hp;obtain⟨A2,c2,e2,_⟩:=r.kp.form;exact⟨⟨_,_,h0,h1,h2⟩,⟨_,_,g0,g1,g2⟩,⟨_,_,_,e2⟩⟩
structure Lo(w W:World)(bs br:Nat)(cs:Array Value):Prop where
 f:Fr [] w W
 s:Blk W bs 41 cs
 r:Blk W br 41 qy
 n1:w.heap.size<=bs
 n2:w.heap.size<=br
 n3:bs≠br
section
variable {w W W':World} {bs br:Nat} {cs cs':Array Value}
theorem Lo.grow(l:Lo w W bs br cs)(g:Fr [] W W'):Lo w W' bs br cs:=⟨l.f.trans g zs,l.s.fr g zs,l.r.fr g zs,l.n1,l.n2,l.n3⟩
theorem Lo.set(l:Lo w W bs br cs)(g:Fr [bs] W W')(B:Blk W' bs 41 cs'):Lo w W' bs br cs':=⟨l.f.trans g (fun y hy => .inr (by simp at hy;subst hy;exact l.n1)),B,l.r.fr g (by simpa using l.n3.symm),l.n1,l.n2,l.n3⟩
theorem Lo.cell(l:Lo w W bs br cs)(i:Nat)(u:Value):Lo w (W.setCell ⟨bs,i,none⟩ u) bs br (cs.setIfInBounds i u):=l.set ((Fr.refl [bs] W).setCell (p:=⟨bs,i,none⟩) (.inl zs) u) (l.s.qO i u)
theorem Lo.far(l:Lo w W bs br cs){b:Nat}(g:Fr [b] W W')(h:w.heap.size<=b)(h1:b≠bs)(h2:b≠br):Lo w W' bs br cs:=⟨l.f.trans g (fun y hy => .inr (by simp at hy;subst hy;exact h)),l.s.fr g (by simpa using Ne.symm h1),l.r.fr g (by simpa using Ne.symm h2),l.n1,l.n2,l.n3⟩
theorem Lo.res(l:Lo w W bs br cs){W':World}(g:Fr [br] W W'):Fr [] w W':=l.f.trans g (fun y hy => .inr (by simp at hy;subst hy;exact l.n2))
theorem Lo.start(w:World)(cs:Array Value):Lo w ((w.alloc (.cells cs 41)).alloc (.cells qy 41)) w.heap.size (w.heap.size+1) cs:=by
 have b2:=Blk.new (w.alloc (.cells cs 41)) 41 qy;rw [World.size_alloc] at b2;exact⟨((Fr.refl [] w).alloc _).alloc _,(Blk.new w 41 cs).fr ((Fr.refl [] _).alloc _) zs,b2,Nat.le_refl _,Nat.le_succ _,zw⟩
end
theorem qkq(x:St)(c:Rto.Ck):kT { x with clk:=c }=kT x:=rfl
theorem qbg{S:Nat->Prop}{w:World}{x:St}{av uv kv:Value}(m:RE S w x av uv kv)(h:kT x=x.clk.rn):Calls Tryz.prog 27 #[agE x av uv kv] w fun e w'=>e = .returned (agE x av uv kv)/\Fr [] w w':=by
 obtain⟨⟨aA,ac,rfl,_,_⟩,⟨uA,uc,rfl,_,_⟩,⟨kA,kn,kc,rfl⟩⟩:=m.forms;have hw:=fun W (f:Fr [] w W)=>qex (m.fr f);have l1:=Lo.start w (arE x (.slice aA x.all.length ac) (.slice uA x.unread.length uc) (.slice kA kn kc));clear m;cases hr:x.clk.rn;all_goals
  rw [h,hr] at hw;have HW:=hI hw;have HR:=hI hr;have L1:=hI l1;clear h hw l1;go_enter Tryz.func27,Tryz.ntmps27;go_upto_region 1 with fail
  generalize (w.alloc (.cells (arE x (.slice aA x.all.length ac) (.slice uA x.unread.length uc) (.slice kA kn kc)) 41)).alloc (.cells qy 41)=w1 at *
  have LB:Hid (∀ W,Fr [] w1 W->Lo w W w.heap.size (w.heap.size+1) (arE x (.slice aA x.all.length ac) (.slice uA x.unread.length uc) (.slice kA kn kc))):=hI (fun W f=>L1.out.grow f);go_wp2_with (first
   | ((with_reducible refine qj 41 (.tmp 1) ?_);refine qf rfl 41 (.tmp 1) rfl w.heap.size 41 (arE x (.slice aA x.all.length ac) (.slice uA x.unread.length uc) (.slice kA kn kc)) _ rfl (LB.out _ zf).s Tryz.underlying41 rfl zk ?_)|((with_reducible refine qi 41 (.tmp 2) ?_);refine qc rfl 41 (.tmp 2) (.tmp 35) rfl (w.heap.size+1) 41 qy (arE x (.slice aA x.all.length ac) (.slice uA x.unread.length uc) (.slice kA kn kc)) rfl rfl (LB.out _ zf).r rfl zk zo ?_;intro w7 B7 F7)|(go_at_call 67;refine (HW.out _ (LB.out _ zf).f).mono ?_;rintro e w5 ⟨rfl,f5'⟩;have f5:Fr [] w1 w5:=Fr.trans (show Fr [] w1 _ by first|exact Fr.refl _ _|assumption) f5' zs;clear f5';have r5:w5.cell? ⟨w.heap.size,20,none⟩=some (.bool x.clk.rn):=(LB.out _ f5).s.cell 20))
  refine bodyPost_ret (kF 2 41 ⟨w.heap.size+1,0,none⟩ _ zr zr (qw B7)) zr ?_;exact⟨rfl,(LB.out _ f5).res F7⟩
theorem qey{S:Nat->Prop}{w:World}{x:St}{av uv kv:Value}(m:RE S w x av uv kv)(h:kT x=true)(hr:x.clk.rn=false):Calls Tryz.prog 27 #[agE x av uv kv] w fun e w'=>e = .returned (agE { x with clk:=(Rto.jW x.clk x.now).1 } av uv kv)/\Fr [] w w':=by
 obtain⟨⟨aA,ac,rfl,_,_⟩,⟨uA,uc,rfl,_,_⟩,⟨kA,kn,kc,rfl⟩⟩:=m.forms;have hw:=fun W (f:Fr [] w W)=>qex (m.fr f);have l1:=Lo.start w (arE x (.slice aA x.all.length ac) (.slice uA x.unread.length uc) (.slice kA kn kc));have hS:=fun W=>Rto.rstart x.clk x.now W;have hw2:=fun W (f:Fr [] w W)=>qex ((m.to_ (y:={ x with clk:=(Rto.jW x.clk x.now).1 }) rfl rfl rfl).fr f);generalize Rto.jW x.clk x.now=sv at *
 obtain⟨ck,er⟩:=sv;obtain⟨f0,l0,m0,t0,is0,tm0,sp0,wt0,si0,tr0,rn0⟩:=ck;dsimp only at *
 rw [qkq,h] at hw2;rw [h] at hw;have HW:=hI hw;have HW2:=hI hw2;have HS:=hI hS;have L1:=hI l1;have HR:=hI hr;clear m hw hw2 hS l1 h;go_enter Tryz.func27,Tryz.ntmps27;go_upto_region 1 with fail
 generalize (w.alloc (.cells (arE x (.slice aA x.all.length ac) (.slice uA x.unread.length uc) (.slice kA kn kc)) 41)).alloc (.cells qy 41)=w1 at *
 have LB:Hid (∀ W,Fr [] w1 W->Lo w W w.heap.size (w.heap.size+1) (arE x (.slice aA x.all.length ac) (.slice uA x.unread.length uc) (.slice kA kn kc))):=hI (fun W f=>L1.out.grow f);go_upto_region 2 with (first
   | ((with_reducible refine qj 41 (.tmp 1) ?_);refine qf rfl 41 (.tmp 1) rfl w.heap.size 41 (arE x (.slice aA x.all.length ac) (.slice uA x.unread.length uc) (.slice kA kn kc)) _ rfl (LB.out _ zf).s Tryz.underlying41 rfl zk ?_)|(go_at_call 67;refine (HW.out _ (LB.out _ zf).f).mono ?_;rintro e w5 ⟨rfl,f5⟩;have r5:w5.cell? ⟨w.heap.size,20,none⟩=some (.bool x.clk.rn):=(LB.out _ f5).s.cell 20;have n5:w5.cell? ⟨w.heap.size,29,none⟩=some (.int .i64 x.now):=(LB.out _ f5).s.cell 29))
 have LC:Hid (∀ W,Fr [] w5 W->Lo w W w.heap.size (w.heap.size+1) (arE x (.slice aA x.all.length ac) (.slice uA x.unread.length uc) (.slice kA kn kc))):=hI (fun W f=>(LB.out _ f5).grow f);go_upto_region 3 with (first
   | ((with_reducible refine qj 36 (.tmp 14) ?_);refine qC rfl 36 (.tmp 14) rfl w.heap.size 10 41 (arE x (.slice aA x.all.length ac) (.slice uA x.unread.length uc) (.slice kA kn kc)) (arC x.clk) _ rfl (LC.out _ zf).s rfl Tryz.underlying36 rfl zk ?_)|(go_at_call 68;refine (HS.out _).mono ?_;rintro e w6 ⟨rfl,f6⟩)|((with_reducible refine qi 36 (.tmp 3) ?_);refine qc rfl 36 (.tmp 3) (.tmp 19) rfl w6.heap.size 36 ckZ #[.int .i64 f0, .int .i64 l0, .int .i64 m0, .int .i64 t0, .bool is0, .int .i64 tm0, .int .i64 sp0, .int .i64 wt0, .int .i64 si0, .int .i64 tr0, .bool rn0] rfl rfl (Blk.new w6 36 ckZ) rfl zk zo ?_;intro w7 B7 F7))
 have L7:Lo w w7 w.heap.size (w.heap.size+1) (arE x (.slice aA x.all.length ac) (.slice uA x.unread.length uc) (.slice kA kn kc)):=(LC.out _ (f6.alloc (.cells ckZ 36))).far F7 (by have:=(LC.out _ f6).f.size;omega) (by have:=(LC.out _ f6).s.lt;omega) (by have:=(LC.out _ f6).r.lt;omega);have L7':=hI L7;have B7':=hI B7;clear L7 B7 F7 r5 n5;go_upto_region 4 with (first
   | ((with_reducible refine qj 36 (.tmp 3) ?_);refine qf rfl 36 (.tmp 3) rfl w6.heap.size 36 #[.int .i64 f0, .int .i64 l0, .int .i64 m0, .int .i64 t0, .bool is0, .int .i64 tm0, .int .i64 sp0, .int .i64 wt0, .int .i64 si0, .int .i64 tr0, .bool rn0] _ rfl B7'.out Tryz.underlying36 rfl zk ?_)|((with_reducible refine qi 36 (.tmp 22) ?_);refine qI rfl 36 (.tmp 22) (.tmp 21) rfl w.heap.size 10 41 (arE x (.slice aA x.all.length ac) (.slice uA x.unread.length uc) (.slice kA kn kc)) #[.int .i64 f0, .int .i64 l0, .int .i64 m0, .int .i64 t0, .bool is0, .int .i64 tm0, .int .i64 sp0, .int .i64 wt0, .int .i64 si0, .int .i64 tr0, .bool rn0] (arE { x with clk:=⟨f0,l0,m0,t0,is0,tm0,sp0,wt0,si0,tr0,rn0⟩ } (.slice aA x.all.length ac) (.slice uA x.unread.length uc) (.slice kA kn kc)) rfl rfl L7'.out.s zs zk zo rfl ?_;intro w8 B8 F8))
 have L8:Hid (∀ W,Fr [] w8 W->Lo w W w.heap.size (w.heap.size+1) (arE { x with clk:=⟨f0,l0,m0,t0,is0,tm0,sp0,wt0,si0,tr0,rn0⟩ } (.slice aA x.all.length ac) (.slice uA x.unread.length uc) (.slice kA kn kc))):=hI (fun W f=>(L7'.out.set F8 B8).grow f);clear B8 F8;go_wp2_with (first
   | ((with_reducible refine qj 41 (.tmp 1) ?_);refine qf rfl 41 (.tmp 1) rfl w.heap.size 41 (arE { x with clk:=⟨f0,l0,m0,t0,is0,tm0,sp0,wt0,si0,tr0,rn0⟩ } (.slice aA x.all.length ac) (.slice uA x.unread.length uc) (.slice kA kn kc)) _ rfl (L8.out _ zf).s Tryz.underlying41 rfl zk ?_)|((with_reducible refine qi 41 (.tmp 2) ?_);refine qc rfl 41 (.tmp 2) (.tmp 35) rfl (w.heap.size+1) 41 qy (arE { x with clk:=⟨f0,l0,m0,t0,is0,tm0,sp0,wt0,si0,tr0,rn0⟩ } (.slice aA x.all.length ac) (.slice uA x.unread.length uc) (.slice kA kn kc)) rfl rfl (L8.out _ zf).r rfl zk zo ?_;intro w9 B9 F9)|(go_at_call 67;refine (HW2.out _ (L8.out _ zf).f).mono ?_;rintro e wa ⟨rfl,fa⟩))
 refine bodyPost_ret (kF 2 41 ⟨w.heap.size+1,0,none⟩ _ zr zr (qw B9)) zr ?_;exact⟨rfl,(L8.out _ fa).res F9⟩
theorem qgc{S:Nat->Prop}{w:World}{x:St}{av uv kv:Value}(m:RE S w x av uv kv)(h:kT x=false)(hr:x.clk.rn=true)(hc:Rto.Inv x.clk):Calls Tryz.prog 27 #[agE x av uv kv] w fun e w'=>e = .returned (agE { x with clk:=Rto.qW x.clk } av uv kv)/\Fr [] w w':=by
 obtain⟨⟨aA,ac,rfl,_,_⟩,⟨uA,uc,rfl,_,_⟩,⟨kA,kn,kc,rfl⟩⟩:=m.forms;have hw:=fun W (f:Fr [] w W)=>qex (m.fr f);have l1:=Lo.start w (arE x (.slice aA x.all.length ac) (.slice uA x.unread.length uc) (.slice kA kn kc));have hS:=fun W=>Rto.qiw x.clk W hc;generalize Rto.qW x.clk=ck at *
 obtain⟨f0,l0,m0,t0,is0,tm0,sp0,wt0,si0,tr0,rn0⟩:=ck;rw [h] at hw;have HW:=hI hw;have HS:=hI hS;have L1:=hI l1;have HR:=hI hr;clear m hw hS l1 h hc;go_enter Tryz.func27,Tryz.ntmps27;go_upto_region 1 with fail
 generalize (w.alloc (.cells (arE x (.slice aA x.all.length ac) (.slice uA x.unread.length uc) (.slice kA kn kc)) 41)).alloc (.cells qy 41)=w1 at *
 have LB:Hid (∀ W,Fr [] w1 W->Lo w W w.heap.size (w.heap.size+1) (arE x (.slice aA x.all.length ac) (.slice uA x.unread.length uc) (.slice kA kn kc))):=hI (fun W f=>L1.out.grow f);go_upto_region 4 with (first
   | ((with_reducible refine qj 41 (.tmp 1) ?_);refine qf rfl 41 (.tmp 1) rfl w.heap.size 41 (arE x (.slice aA x.all.length ac) (.slice uA x.unread.length uc) (.slice kA kn kc)) _ rfl (LB.out _ zf).s Tryz.underlying41 rfl zk ?_)|(go_at_call 67;refine (HW.out _ (LB.out _ zf).f).mono ?_;rintro e w5 ⟨rfl,f5⟩))
 have LC:Hid (∀ W,Fr [] w5 W->Lo w W w.heap.size (w.heap.size+1) (arE x (.slice aA x.all.length ac) (.slice uA x.unread.length uc) (.slice kA kn kc))):=hI (fun W f=>(LB.out _ f5).grow f);go_upto_region 5 with (first
   | ((with_reducible refine qj 41 (.tmp 1) ?_);refine qf rfl 41 (.tmp 1) rfl w.heap.size 41 (arE x (.slice aA x.all.length ac) (.slice uA x.unread.length uc) (.slice kA kn kc)) _ rfl (LC.out _ zf).s Tryz.underlying41 rfl zk ?_)|(go_at_call 67;refine (HW.out _ (LC.out _ zf).f).mono ?_;rintro e w6 ⟨rfl,f6⟩;have r6:w6.cell? ⟨w.heap.size,20,none⟩=some (.bool x.clk.rn):=(LC.out _ f6).s.cell 20))
 have LD:Hid (∀ W,Fr [] w6 W->Lo w W w.heap.size (w.heap.size+1) (arE x (.slice aA x.all.length ac) (.slice uA x.unread.length uc) (.slice kA kn kc))):=hI (fun W f=>(LC.out _ f6).grow f);clear r6;go_upto_region 6 with (first
   | ((with_reducible refine qj 36 (.tmp 31) ?_);refine qC rfl 36 (.tmp 31) rfl w.heap.size 10 41 (arE x (.slice aA x.all.length ac) (.slice uA x.unread.length uc) (.slice kA kn kc)) (arC x.clk) _ rfl (LD.out _ zf).s rfl Tryz.underlying36 rfl zk ?_)|(go_at_call 69;refine (HS.out _).mono ?_;rintro e w7 ⟨rfl,f7⟩)|((with_reducible refine qi 36 (.tmp 34) ?_);refine qI rfl 36 (.tmp 34) (.tmp 33) rfl w.heap.size 10 41 (arE x (.slice aA x.all.length ac) (.slice uA x.unread.length uc) (.slice kA kn kc)) #[.int .i64 f0, .int .i64 l0, .int .i64 m0, .int .i64 t0, .bool is0, .int .i64 tm0, .int .i64 sp0, .int .i64 wt0, .int .i64 si0, .int .i64 tr0, .bool rn0] (arE { x with clk:=⟨f0,l0,m0,t0,is0,tm0,sp0,wt0,si0,tr0,rn0⟩ } (.slice aA x.all.length ac) (.slice uA x.unread.length uc) (.slice kA kn kc)) rfl rfl (LD.out _ f7).s zs zk zo rfl ?_;intro w8 B8 F8))
 have L8:Hid (∀ W,Fr [] w8 W->Lo w W w.heap.size (w.heap.size+1) (arE { x with clk:=⟨f0,l0,m0,t0,is0,tm0,sp0,wt0,si0,tr0,rn0⟩ } (.slice aA x.all.length ac) (.slice uA x.unread.length uc) (.slice kA kn kc))):=hI (fun W f=>((LD.out _ f7).set F8 B8).grow f);clear B8 F8;go_wp2_with (first
   | ((with_reducible refine qj 41 (.tmp 1) ?_);refine qf rfl 41 (.tmp 1) rfl w.heap.size 41 (arE { x with clk:=⟨f0,l0,m0,t0,is0,tm0,sp0,wt0,si0,tr0,rn0⟩ } (.slice aA x.all.length ac) (.slice uA x.unread.length uc) (.slice kA kn kc)) _ rfl (L8.out _ zf).s Tryz.underlying41 rfl zk ?_)|((with_reducible refine qi 41 (.tmp 2) ?_);refine qc rfl 41 (.tmp 2) (.tmp 35) rfl (w.heap.size+1) 41 qy (arE { x with clk:=⟨f0,l0,m0,t0,is0,tm0,sp0,wt0,si0,tr0,rn0⟩ } (.slice aA x.all.length ac) (.slice uA x.unread.length uc) (.slice kA kn kc)) rfl rfl (L8.out _ zf).r rfl zk zo ?_;intro w9 B9 F9))
 refine bodyPost_ret (kF 2 41 ⟨w.heap.size+1,0,none⟩ _ zr zr (qw B9)) zr ?_;exact⟨rfl,(L8.out _ (Fr.refl _ _)).res F9⟩
theorem jL{S:Nat->Prop}{w:World}{x:St}{av uv kv:Value}(m:RE S w x av uv kv)(hc:Rto.Inv x.clk):Calls Tryz.prog 27 #[agE x av uv kv] w fun e w'=>e = .returned (agE (qF x) av uv kv)/\Fr [] w w':=by
 unfold qF;rcases Bool.eq_false_or_eq_true (kT x) with h|h <;> rcases Bool.eq_false_or_eq_true x.clk.rn with hr|hr
 ·rw [h,hr];exact qbg m (by rw [h,hr])
 ·rw [h,hr];exact qey m h hr
 ·rw [h,hr];exact qgc m h hr hc
 ·rw [h,hr];exact qbg m (by rw [h,hr])
end Go.Proofs.YtmgdbbbdhkfdmaaGreat
namespace Go.Proofs.YtmgdbbbdhkfdmaaGreat.Lay
set_option maxRecDepth 100000
open Go.RowKit Go.Deep
inductive Src where
 | fix (r:Nat)
 | new (i:Nat)
structure En where
 src:Src
 t:TypeId
 V:Array Value
 j:Option Nat
def En.idx(e:En):List Nat:=(match e.src with | .fix _=>[] | .new i=>[i])++(match e.j with|none=>[]|some j=>[j])
def En.loc(β:Nat->Nat)(e:En):Nat:=match e.src with | .fix r=>r | .new i=>β i
def En.live(s:Array Bool)(e:En):Prop:=match e.src with | .fix _=>True | .new i=>s.getD i false=true
def En.done(s:Array Bool)(e:En):Prop:=match e.j with|none=>True|some j=>s.getD j false=true
def En.far(n:Nat)(β:Nat->Nat)(e:En):Prop:=match e.src with | .fix r=>r<n | .new i=>n<=β i
structure En.Ok(P:Program)(ops:Array Oper)(A:(Nat->Nat)->Act)(e:En):Prop where
 made:∀ i,e.src = .new i->∃ o c0,ops[i]?=some o/\eff o=true/\c0.size=e.V.size/\(e.j=none->c0=e.V) /\
  ∀(a:Act) (w:World),(∀ t,Operand.tmp t∈o.op.operands->∃ β,a.tmps.getD t undef=(A β).tmps.getD t undef)->(execOp a.eval o).run P w = .ok (.value (xJ w.heap.size o)) (w.alloc (.cells c0 e.t))
 stored:∀ j,e.j=some j->∃ o ty p v,ops[j]?=some o/\o.dst=none/\o.op = .store ty (.tmp p) (.tmp v)/\(P.info? ty).map (·.size)=some e.V.size/\e.V.all (·.oneCell')=true /\
  (∀ β,(A β).tmps.getD p undef = .pointer (some ⟨e.loc β,0,none⟩))/\(∀ β,(A β).tmps.getD v undef = .agg e.V)/\∀ i,e.src = .new i->∃ ed∈o.after,Region.binds .any ed=true/\ed.on=i
def backB(ops:Array Oper):Bool:=(List.range ops.size).all fun i=>match ops[i]? with
 | some o=>o.after.all fun e=>!Region.binds .any e || decide (e.on<i)
 | none=>true
theorem qcn{ops:Array Oper}(h:backB ops=true){s:Array Bool}(hs:s.size=ops.size)(hr:Region.ready .any ops s=[]):∀ n i,i<n->i<ops.size->s.getD i false=true
 | 0,_,h,_=>by omega
 | n+1,i,_,hi=>by
  cases hv:s.getD i false with
  | true=>rfl
  | false=>
   exfalso;have hm:i∈Region.ready .any ops s:=by
    refine mem_ready.2 ⟨?_,ops[i],Array.getElem?_eq_getElem hi,fun e he hb=>?_⟩
    ·have:i<s.size:=zw
     simp [this] at hv |-
     exact hv
    ·have h1:=List.all_eq_true.1 h i (List.mem_range.2 hi)
     rw [Array.getElem?_eq_getElem hi] at h1;have h2:=Array.all_eq_true_iff_forall_mem.1 h1 e he;simp only [hb,Bool.not_true,Bool.false_or,decide_eq_true_eq] at h2;exact qcn h hs hr n e.on zw zw
   rw [hr] at hm;cases hm
def effIn(ops:Array Oper)(ix:List Nat):Bool:=(List.range ops.size).all fun i=>match ops[i]? with
 | some o=>!eff o || ix.contains i
 | none=>true
theorem qhn{ops:Array Oper}{ix:List Nat}(h:effIn ops ix=true){i:Nat}{o:Oper}(hi:ops[i]?=some o)(he:eff o=true):i∈ix:=by
 have h1:i<ops.size:=(Array.getElem?_eq_some_iff.1 hi).1;have h3:=List.all_eq_true.1 h i (List.mem_range.2 h1);simp only [hi,he,Bool.not_true,Bool.false_or] at h3;simpa using h3
structure Tab(T:List En)(n0 n:Nat)(β:Nat->Nat)(s:Array Bool)(w:World):Prop where
 sz:s.size=n
 far:∀ e∈T,e.live s->e.far n0 β
 blk:∀ e∈T,e.live s->∃ cs,Blk w (e.loc β) e.t cs/\cs.size=e.V.size/\(e.done s->cs=e.V)
 ne:∀ e∈T,∀ e'∈T,e≠e'->e.live s->e'.live s->e.loc β≠e'.loc β
 dl:∀ e∈T,∀ j,e.j=some j->s.getD j false=true->e.live s
theorem zT{s:Array Bool}{e:En}{k:Nat}(h:e.src ≠ .new k):e.live (s.setIfInBounds k true)↔e.live s:=by
 unfold En.live;cases hs:e.src with
 | fix r=>exact Iff.rfl
 | new i=>
  have:k≠i:=fun e'=>h (by rw [hs,e']);simp [Array.getElem?_setIfInBounds_ne this]
theorem qan{s:Array Bool}{e:En}{k:Nat}(h:e.j≠some k):e.done (s.setIfInBounds k true)↔e.done s:=by
 unfold En.done;cases hs:e.j with
 | none=>exact Iff.rfl
 | some i=>
  have:k≠i:=fun e'=>h (by rw [hs,e']);simp [Array.getElem?_setIfInBounds_ne this]
theorem yw{β:Nat->Nat}{e:En}{k m:Nat}(h:e.src ≠ .new k):e.loc (upd β k m)=e.loc β:=by
 unfold En.loc;cases hs:e.src with
 | fix r=>rfl
 | new i=>exact upd_ne β m (fun e'=>h (by rw [hs,e']))
theorem qjc{β:Nat->Nat}{e:En}{k m n0:Nat}(h:e.src ≠ .new k):e.far n0 (upd β k m)↔e.far n0 β:=by
 unfold En.far;cases hs:e.src with
 | fix r=>exact Iff.rfl
 | new i=>simp only [upd_ne β m (fun e':i=k=>h (by rw [hs,e']))]
theorem qez{e:En}{k:Nat}(h:e.src = .new k):k∈e.idx:=by unfold En.idx;rw [h];simp
theorem idx_j{e:En}{k:Nat}(h:e.j=some k):k∈e.idx:=by unfold En.idx;rw [h];simp
theorem qdq{e:En}{k:Nat}(h:k∈e.idx):e.src = .new k\/e.j=some k:=by
 unfold En.idx at h;rcases List.mem_append.1 h with h|h
 ·cases hs:e.src with
  | fix r=>rw [hs] at h;cases h
  | new i=>rw [hs] at h;simp at h;exact .inl (by rw [h])
 ·cases hs:e.j with
  | none=>rw [hs] at h;cases h
  | some i=>rw [hs] at h;simp at h;exact .inr (by rw [h])
section
variable {P:Program} {l:List Oper} {Q:Exit->Act->World->Prop} {A:(Nat->Nat)->Act} {T:List En} {R:List Nat} {w0:World}
theorem qdh{id:Nat}{a:Act}(hm:P.follows .mixedOrders=true)(T:List En)(R:List Nat)(A:(Nat->Nat)->Act)
  (hd:dstB l.toArray=true) (he:effB .any l.toArray=true) (hb:backB l.toArray=true) (hx:effIn l.toArray (T.flatMap En.idx)=true)
  (hB:∀ β,Region.lexB .any (jF β l)=true)
  (hU:∀ e∈T,∀ e'∈T,∀ k,k∈e.idx->k∈e'.idx->e=e') (hN:∀ e∈T,∀ i,e.src = .new i->e.j≠some i) (hL:∀ e∈T,∀ i∈e.idx,i<l.length)
  (hF:∀ e∈T,∀ r,e.src = .fix r->r∈R/\r<w0.heap.size/\∃ cs,Blk w0 r e.t cs/\cs.size=e.V.size/\e.j≠none)
  (hFF:∀ e∈T,∀ e'∈T,e≠e'->∀ r r',e.src = .fix r->e'.src = .fix r'->r≠r')
  (hQ:∀ β W,Fr R w0 W->(∀ e∈T,Blk W (e.loc β) e.t e.V/\e.far w0.heap.size β)->Q .normal (A β) W)
  (hO:∀ e∈T,e.Ok P l.toArray A)
  (hI:∀(i:Nat) (o:Oper) (d:Nat),l.toArray[i]?=some o->eff o=false->yl o=true->o.dst=some d->∀ β β',(A β).tmps.getD d undef=(A β').tmps.getD d undef)
  (h:∀ β X,Cl X->wpQuiet P (jF β l) (fun W=>Fr R w0 W/\X W) (fun a'=>a'=A β) (lays β l 0) a):(Code.region id l.toArray true).wp P Q a w0:=by
 refine wp_region_any hm ?_;have hsz:(Array.replicate l.toArray.size false).size=l.toArray.size:=zs;have hf0:∀ i,(Array.replicate l.toArray.size false).getD i false=false:=fun i=>by
  rw [Array.getD_eq_getD_getElem?,Array.getElem?_replicate];split <;> rfl
 refine vw (md := .any) (C:=fun W=>Fr R w0 W) (A:=A) (J:=fun β s W=>Tab T w0.heap.size l.toArray.size β s W) hd he hI ?_ ?_ ?_ ?_ l.toArray.size _ a _ (fun _=>0) (Fr.refl R w0).drew ?_ ?_
 ·intro β s w w' hc hj f
  refine⟨hj.sz,hj.far,fun e hT hl=>?_,hj.ne,hj.dl⟩;obtain⟨cs,h1,h2,h3⟩:=hj.blk e hT hl;exact⟨cs,h1.fr f zs,h2,h3⟩
 ·intro β s w i o ho hef hj
  have hni:∀ e∈T,i∉e.idx->(e.src ≠ .new i/\e.j≠some i):=fun e _ hn=>⟨fun h=>hn (qez h),fun h=>hn (idx_j h)⟩;have hno:∀ e∈T,i∉e.idx:=fun e hT hmm=>by
   have hk:=hO e hT;rcases qdq hmm with h|h
   ·obtain⟨o',c0,ho',hef',_⟩:=hk.made i h
    have:o'=o:=by
     have e1:some o'=some o:=ho'.symm.trans ho;injection e1
    subst this;rw [hef'] at hef;cases hef
   ·obtain⟨o',ty,p,v,ho',_,hop,_⟩:=hk.stored i h
    have:o'=o:=by
     have e1:some o'=some o:=ho'.symm.trans ho;injection e1
    subst this;unfold eff at hef;rw [hop] at hef;cases hef
  refine⟨by simp [hj.sz],fun e hT hl=>?_,fun e hT hl=>?_,fun e hT e' hT' hne hl hl'=>?_,fun e hT j hjj hl=>?_⟩;rotate_left 3
  ·refine (zT (hni e hT (hno e hT)).1).2 (hj.dl e hT j hjj ?_)
   rwa [getD_set_ne false (fun e'=>(hni e hT (hno e hT)).2 (by rw [hjj,e']))] at hl
  ·exact hj.far e hT ((zT (hni e hT (hno e hT)).1).1 hl)
  ·obtain⟨cs,h1,h2,h3⟩:=hj.blk e hT ((zT (hni e hT (hno e hT)).1).1 hl)
   exact⟨cs,h1,h2,fun hdn=>h3 ((qan (hni e hT (hno e hT)).2).1 hdn)⟩
  ·exact hj.ne e hT e' hT' hne ((zT (hni e hT (hno e hT)).1).1 hl) ((zT (hni e' hT' (hno e' hT')).1).1 hl')
 ·intro β s w a i o ho hef hi hc hj hsl
  obtain⟨hun,o2,ho2,hall⟩:=mem_ready.1 hi;have:o2=o:=by
   have e1:some o2=some o:=ho2.symm.trans ho;injection e1
  subst this;have hmem:=qhn hx ho hef;obtain⟨e,hT,hei⟩:=List.mem_flatMap.1 hmem;have hoth:∀ e'∈T,e'≠e->e'.src ≠ .new i/\e'.j≠some i:=fun e' hT' hne=>⟨fun h=>hne (hU e' hT' e hT i (qez h) hei),fun h=>hne (hU e' hT' e hT i (idx_j h) hei)⟩;have hk:=hO e hT;have hn0:w0.heap.size<=w.heap.size:=hc.size;have htr:(s.setIfInBounds i true).getD i false=true:=by
   have h1:i<l.toArray.size:=(Array.getElem?_eq_some_iff.1 ho).1;have:i<s.size:=by rw [hj.sz];exact h1
   simp [this]
  rcases qdq hei with hs|hs
  ·obtain⟨o',c0,ho',_,hc0,hc1,hr⟩:=hk.made i hs
   have:o'=o2:=by
    have e1:some o'=some o2:=ho'.symm.trans ho;injection e1
   subst this;have hrun:=hr a w (fun t ht=>⟨β,hsl β (Agree.rfl' s β) t ht⟩);have fal:Fr [] w (w.alloc (.cells c0 e.t)):=(Fr.refl [] w).alloc _;have hji:=hN e hT i hs;have hdn:e.done (s.setIfInBounds i true)↔e.done s:=qan hji;have hnd:e.j≠none->¬ e.done s:=fun hne hdd=>by
    unfold En.done at hdd;cases hjj:e.j with
    | none=>exact hne hjj
    | some j=>
     rw [hjj] at hdd;have:=hj.dl e hT j hjj hdd;unfold En.live at this;rw [hs] at this;dsimp only at this;rw [qei hun] at this;cases this
   refine⟨_,_,hrun, .inl rfl,hc.trans fal zs,by simp [hj.sz],fun e' hT' hl=>?_,fun e' hT' hl=>?_,fun e1 hT1 e2 hT2 hne hl1 hl2=>?_,fun e' hT' j hjj hl=>?_⟩;rotate_left 3
   ·by_cases hee:e'=e
    ·subst hee
     unfold En.live;rw [hs];exact htr
    ·refine (zT (hoth e' hT' hee).1).2 (hj.dl e' hT' j hjj ?_)
     rwa [getD_set_ne false (fun e''=>(hoth e' hT' hee).2 (by rw [hjj,e'']))] at hl
   ·by_cases hee:e'=e
    ·subst hee
     unfold En.far;rw [hs];simp only [upd_same];exact hn0
    ·exact (qjc (hoth e' hT' hee).1).2 (hj.far e' hT' ((zT (hoth e' hT' hee).1).1 hl))
   ·by_cases hee:e'=e
    ·subst hee
     refine⟨c0,?_,hc0,fun hdd=>?_⟩
     ·unfold En.loc
      rw [hs];simp only [upd_same];exact Blk.new w e'.t c0
     ·by_cases hjn:e'.j=none
      ·exact hc1 hjn
      ·exact absurd (hdn.1 hdd) (hnd hjn)
    ·obtain⟨cs,h1,h2,h3⟩:=hj.blk e' hT' ((zT (hoth e' hT' hee).1).1 hl)
     rw [yw (hoth e' hT' hee).1];exact⟨cs,h1.fr fal zs,h2,fun hdd=>h3 ((qan (hoth e' hT' hee).2).1 hdd)⟩
   ·have hlt:∀ e'∈T,e'≠e->e'.live (s.setIfInBounds i true)->e'.loc (upd β i w.heap.size)<w.heap.size:=fun e' hT' hee hl=>by
     obtain⟨cs,h1,_⟩:=hj.blk e' hT' ((zT (hoth e' hT' hee).1).1 hl);rw [yw (hoth e' hT' hee).1];exact h1.lt
    have hme:e.loc (upd β i w.heap.size)=w.heap.size:=(by unfold En.loc;rw [hs];simp only [upd_same]);by_cases h1:e1=e
    ·subst h1
     have:=hlt e2 hT2 (Ne.symm hne) hl2;omega
    ·by_cases h2:e2=e
     ·subst h2
      have:=hlt e1 hT1 hne hl1;omega
     ·rw [yw (hoth e1 hT1 h1).1,yw (hoth e2 hT2 h2).1]
      exact hj.ne e1 hT1 e2 hT2 hne ((zT (hoth e1 hT1 h1).1).1 hl1) ((zT (hoth e2 hT2 h2).1).1 hl2)
  ·obtain⟨o',ty,p,v,ho',hdst,hop,hinf,hone,hp,hv,hed⟩:=hk.stored i hs
   have:o'=o2:=by
    have e1:some o'=some o2:=ho'.symm.trans ho;injection e1
   subst this;have hsi:∀ e'∈T,e'.src ≠ .new i:=fun e' hT' h=>by
    by_cases hee:e'=e
    ·subst hee;exact hN e' hT' i h hs
    ·exact (hoth e' hT' hee).1 h
   have hlv:e.live s:=by
    unfold En.live;cases hsr:e.src with
    | fix r=>trivial
    | new k=>
     obtain⟨ed,hed1,hed2,hed3⟩:=hed k hsr;have:=hall ed hed1 hed2;rw [hed3] at this;exact this
   obtain⟨cs,hb1,hb2,hb3⟩:=hj.blk e hT hlv;have hep:a.eval (.tmp p) = .pointer (some ⟨e.loc β,0,none⟩):=by
    have:=hsl β (Agree.rfl' s β) p (by rw [hop];simp [Op.operands]);rw [hp β] at this;exact this
   have hev:a.eval (.tmp v) = .agg e.V:=by
    have:=hsl β (Agree.rfl' s β) v (by rw [hop];simp [Op.operands]);rw [hv β] at this;exact this
   have hth:w.there (e.loc β) 0 e.V.size:=fun j hj'=>by
    have hcc:=Blk.cell hb1 j;refine⟨?_,?_⟩
    ·rw [Nat.zero_add,hcc]
     simp [show j<cs.size from by omega]
    ·rw [Nat.zero_add]
     exact Blk.frozen hb1 j
   have hrun:(execOp a.eval o').run P w = .ok .skip (w.setCells (e.loc β) 0 e.V.toList):=by
    unfold execOp;simp only [hop,hep,hev,run_storeAt_mid w (e.loc β) 0 ty e.V hth hinf hone,Sem.run_bind,Sem.run_pure,Result.andThen_ok]
   have hfs:Fr [e.loc β] w (w.setCells (e.loc β) 0 e.V.toList):=vC _ _ _ _;have hbs:Blk (w.setCells (e.loc β) 0 e.V.toList) (e.loc β) e.t e.V:=by
    have:=vI (e.loc β) e.t e.V.toList 0 w cs.toList (by simpa using hb1) zv;have e2:cs.toList.take 0++e.V.toList++cs.toList.drop (0+e.V.toList.length)=e.V.toList:=by
     rw [List.drop_of_length_le zv];simp
    rw [e2] at this;simpa using this
   refine⟨_,_,hrun, .inr ⟨rfl,hdst⟩,?_,by simp [hj.sz],fun e' hT' hl=>?_,fun e' hT' hl=>?_,fun e1 hT1 e2 hT2 hne hl1 hl2=>?_,fun e' hT' j hjj hl=>?_⟩;rotate_left 4
   ·refine (zT (hsi e' hT')).2 ?_
    by_cases hee:e'=e
    ·subst hee;exact hlv
    ·refine hj.dl e' hT' j hjj ?_
     rwa [getD_set_ne false (fun e''=>(hoth e' hT' hee).2 (by rw [hjj,e'']))] at hl
   ·refine hc.trans hfs (fun y hy=>?_)
    simp at hy;subst hy;have hfar:=hj.far e hT hlv;unfold En.far at hfar;cases hsr:e.src with
    | fix r=>exact .inl (by have:=(hF e hT r hsr).1;unfold En.loc;rw [hsr];exact this)
    | new k=>rw [hsr] at hfar;exact .inr (by unfold En.loc;rw [hsr];exact hfar)
   ·exact (qjc (hsi e' hT')).2 (hj.far e' hT' ((zT (hsi e' hT')).1 hl))
   ·rw [yw (hsi e' hT')]
    by_cases hee:e'=e
    ·subst hee
     exact⟨e'.V,hbs,rfl,fun _=>rfl⟩
    ·obtain⟨cs',h1,h2,h3⟩:=hj.blk e' hT' ((zT (hsi e' hT')).1 hl)
     refine⟨cs',h1.fr hfs ?_,h2,fun hdd=>h3 ((qan (hoth e' hT' hee).2).1 hdd)⟩;simp;exact hj.ne e' hT' e hT hee ((zT (hsi e' hT')).1 hl) hlv
   ·rw [yw (hsi e1 hT1),yw (hsi e2 hT2)]
    exact hj.ne e1 hT1 e2 hT2 hne ((zT (hsi e1 hT1)).1 hl1) ((zT (hsi e2 hT2)).1 hl2)
 ·intro β s w hc hj hr
  have hal:=qcn hb (by rw [hj.sz]) hr l.toArray.size;refine hQ β w hc (fun e hT=>?_);have hix:∀ k∈e.idx,s.getD k false=true:=fun k hk=>by
   have h1:=hL e hT k hk;have h2:k<l.toArray.size:=by simpa using h1
   exact hal k h2 h2
  have hlv:e.live s:=by
   unfold En.live;cases hsr:e.src with
   | fix r=>trivial
   | new k=>exact hix k (qez hsr)
  have hdn:e.done s:=by
   unfold En.done;cases hsr:e.j with
   | none=>trivial
   | some k=>exact hix k (idx_j hsr)
  obtain⟨cs,h1,_,h3⟩:=hj.blk e hT hlv;rw [h3 hdn] at h1;exact⟨h1,hj.far e hT hlv⟩
 ·refine⟨hsz,fun e hT hl=>?_,fun e hT hl=>?_,fun e hT e' hT' hne hl hl'=>?_,fun e hT j hjj hl=>by rw [hf0] at hl;cases hl⟩
  ·unfold En.live at hl
   unfold En.far;cases hsr:e.src with
   | fix r=>exact (hF e hT r hsr).2.1
   | new k=>rw [hsr] at hl;dsimp only at hl;rw [hf0] at hl;cases hl
  ·unfold En.live at hl
   cases hsr:e.src with
   | fix r=>
    obtain⟨_,_,cs,h1,h2,h3⟩:=hF e hT r hsr;refine⟨cs,by unfold En.loc;rw [hsr];exact h1,h2,fun hdd=>?_⟩;unfold En.done at hdd;cases hjj:e.j with
    | none=>exact absurd hjj h3
    | some j=>rw [hjj] at hdd;dsimp only at hdd;rw [hf0] at hdd;cases hdd
   | new k=>rw [hsr] at hl;dsimp only at hl;rw [hf0] at hl;cases hl
  ·unfold En.live at hl hl'
   cases hsr:e.src with
   | fix r=>
    cases hsr':e'.src with
    | fix r'=>unfold En.loc;rw [hsr,hsr'];exact hFF e hT e' hT' hne r r' hsr hsr'
    | new k=>rw [hsr'] at hl';dsimp only at hl';rw [hf0] at hl';cases hl'
   | new k=>rw [hsr] at hl;dsimp only at hl;rw [hf0] at hl;cases hl
 ·intro β' _ X hX
  have:=hB β';simp only [Region.lexB,Bool.and_eq_true] at this;have h1:=wpAnyQ_lex (md := .any) (C:=fun W=>Fr R w0 W/\X W) this.1 (lays β' l 0) 0 (Array.replicate (jF β' l).size false) a (by simp [jF]) (by have h2:=this.2;rw [qar] at h2 |-;simpa [qaf] using h2) (h β' X hX);rw [qar,qaf] at h1;simpa using h1
end
end Go.Proofs.YtmgdbbbdhkfdmaaGreat.Lay
namespace Go.Proofs.YtmgdbbbdhkfdmaaGreat.Lay
set_option maxRecDepth 100000
open Go.RowKit Go.Deep
structure GX(R:List Nat)(w:World)(X:World->Prop) where
 W:World
 fr:Fr R w W
 hx:X W
section
variable {R:List Nat} {w:World} {X:World->Prop}
theorem GX.cell{a:Addr}{v:Value}(h:w.cell? a=some v)(hn:a.block∉R)(p:GX R w X):p.W.cell? a=some v:=
 (p.fr.cell (World.block_lt_of_cell? w a h) hn).trans h
theorem GX.call(hX:Cl X){P:Program}{f:FuncId}{args:Array Value}{p:GX R w X}{v:Value}
  (h:Calls P f args p.W fun e w'=>e = .returned v/\Fr [] p.W w'):Calls P f args p.W fun e w''=>e = .returned v/\∃ q:GX R w X,w''=q.W:=
 h.mono fun _ _ ⟨he,hf⟩=>⟨he,⟨_,p.fr.trans hf zs,hX _ _ p.hx hf⟩,rfl⟩
theorem GX.same{P:Program}{f:FuncId}{args:Array Value}{p:GX R w X}{v:Value}
  (h:Calls P f args p.W fun e w'=>e = .returned v/\p.W=w'):Calls P f args p.W fun e w''=>e = .returned v/\∃ q:GX R w X,w''=q.W:=
 h.mono fun _ _ ⟨he,hf⟩=>⟨he,p,hf.symm⟩
end
section
variable {P:Program} {ops:Array Oper} {A:(Nat->Nat)->Act}
theorem yJ{r j p v:Nat}{t ty:TypeId}{V:Array Value}{o:Oper}(ho:ops[j]?=some o)(hd:o.dst=none)(hop:o.op = .store ty (.tmp p) (.tmp v))(hi:(P.info? ty).map (·.size)=some V.size)(h1:V.all (·.oneCell')=true)
  (hp:∀ β,(A β).tmps.getD p undef = .pointer (some ⟨r,0,none⟩)) (hv:∀ β,(A β).tmps.getD v undef = .agg V):En.Ok P ops A ⟨.fix r,t,V,some j⟩:=
 ⟨fun i h=>(by cases h),fun j' h=>by
  injection h with h;subst h;exact⟨o,ty,p,v,ho,hd,hop,hi,h1,hp,hv,fun i h=>(by cases h)⟩⟩
theorem xk{i j p v:Nat}{t ty:TypeId}{V c0:Array Value}{o oi:Oper}(hoi:ops[i]?=some oi)(hopi:oi.op = .alloc t)(hz:∀ w,(Instr.alloc t true (.tuple #[])).run P w = .ok (.pointer (some ⟨w.heap.size,0,none⟩)) (w.alloc (.cells c0 t)))(hc:c0.size=V.size)
  (ho:ops[j]?=some o) (hd:o.dst=none) (hop:o.op = .store ty (.tmp p) (.tmp v)) (hi:(P.info? ty).map (·.size)=some V.size) (h1:V.all (·.oneCell')=true)
  (hp:∀ β,(A β).tmps.getD p undef = .pointer (some ⟨β i,0,none⟩)) (hv:∀ β,(A β).tmps.getD v undef = .agg V) (hw:o.after.any (fun ed=>Region.binds .any ed && ed.on == i)=true):En.Ok P ops A ⟨.new i,t,V,some j⟩:=
 ⟨fun i' h=>by
  injection h with h;subst h;refine⟨oi,c0,hoi,by unfold eff;rw [hopi],hc,fun h=>(by cases h),fun a w _=>?_⟩;unfold execOp xJ;simp only [hopi,hz,Sem.run_bind,Sem.run_pure,Result.andThen_ok],fun j' h=>by
  injection h with h;subst h;refine⟨o,ty,p,v,ho,hd,hop,hi,h1,hp,hv,fun i' h=>?_⟩;injection h with h;subst h;obtain⟨e,he,hb⟩:=Array.any_eq_true'.1 hw;simp only [Bool.and_eq_true,beq_iff_eq] at hb;exact⟨e,he,hb.1,hb.2⟩⟩
theorem xZ{i s:Nat}{t ts:TypeId}{V:Array Value}{oi:Oper}(hoi:ops[i]?=some oi)(hopi:oi.op = .buildSlice ts 1 #[(0, .tmp s)])
  (hz:∀ w,(Instr.buildSlice ts 1 #[(0, .agg V)]).run P w = .ok (.slice (some ⟨w.heap.size,0,none⟩) 1 1) (w.alloc (.cells V t))) (hv:∀ β,(A β).tmps.getD s undef = .agg V):En.Ok P ops A ⟨.new i,t,V,none⟩:=
 ⟨fun i' h=>by
  injection h with h;subst h;refine⟨oi,V,hoi,by unfold eff;rw [hopi],rfl,fun _=>rfl,fun a w hs=>?_⟩;obtain⟨β,hb⟩:=hs s (by rw [hopi];simp [Op.operands]);rw [hv β] at hb;have he:a.eval (.tmp s) = .agg V:=hb;unfold execOp xJ;simp [hopi,he,hz,Sem.run_bind,Sem.run_pure,Result.andThen_ok],fun j' h=>(by cases h)⟩
end
def qmx(l:List Oper):List Nat:=l.filterMap fun o=>if !eff o && yl o then o.dst else none
def qho(A:(Nat->Nat)->Act):List Nat->Prop
 | []=>True
 | d::r=>(∀ β β',(A β).tmps.getD d undef=(A β').tmps.getD d undef)/\qho A r
theorem qco{A:(Nat->Nat)->Act}:∀ {ds:List Nat},qho A ds->∀ d∈ds,∀ β β',(A β).tmps.getD d undef=(A β').tmps.getD d undef
 | [],_,d,h=>by cases h
 | x::r,hs,d,h=>by
  rcases List.mem_cons.1 h with rfl|h
  ·exact hs.1
  ·exact qco hs.2 d h
def AllOk(P:Program)(ops:Array Oper)(A:(Nat->Nat)->Act):List En->Prop
 | []=>True
 | e::r=>e.Ok P ops A/\AllOk P ops A r
theorem qdr{P:Program}{ops:Array Oper}{A:(Nat->Nat)->Act}:∀ {T:List En},AllOk P ops A T->∀ e∈T,e.Ok P ops A
 | [],_,e,h=>by cases h
 | x::r,hs,e,h=>by
  rcases List.mem_cons.1 h with rfl|h
  ·exact hs.1
  ·exact qdr hs.2 e h
def idxB(T:List En):Bool:=decide (T.flatMap En.idx).Nodup
theorem qcp:∀ {T:List En},(T.flatMap En.idx).Nodup->(∀ e∈T,∀ e'∈T,∀ k,k∈e.idx->k∈e'.idx->e=e')/\∀ e∈T,e.idx.Nodup
 | [],_=>⟨fun e h=>(by cases h),fun e h=>(by cases h)⟩
 | x::r,h=>by
  rw [List.flatMap_cons,List.nodup_append] at h;obtain⟨h1,h2,h3⟩:=h;obtain⟨g1,g2⟩:=qcp h2;have hmem:∀ e∈r,∀ k,k∈e.idx->k∈r.flatMap En.idx:=fun e he k hk=>List.mem_flatMap.2 ⟨e,he,hk⟩;refine⟨fun e he e' he' k hk hk'=>?_,fun e he=>?_⟩
  ·rcases List.mem_cons.1 he with rfl|he
   ·rcases List.mem_cons.1 he' with rfl|he'
    ·rfl
    ·exact absurd rfl (h3 k hk k (hmem e' he' k hk'))
   ·rcases List.mem_cons.1 he' with he''|he'
    ·rw [he''] at hk'
     exact absurd rfl (h3 k hk' k (hmem e he k hk))
    ·exact g1 e he e' he' k hk hk'
  ·rcases List.mem_cons.1 he with rfl|he
   ·exact h1
   ·exact g2 e he
def fixOk(R:List Nat)(w:World):List En->Prop
 | []=>True
 | e::r=>(match e.src with | .fix b=>b∈R/\∃ cs,Blk w b e.t cs/\cs.size=e.V.size/\e.j≠none/\(∀ e'∈r,e'.src ≠ .fix b) | .new _=>True)/\fixOk R w r
theorem qds{R:List Nat}{w:World}:∀ {T:List En},fixOk R w T->(∀ e∈T,∀ b,e.src = .fix b->b∈R/\b<w.heap.size/\∃ cs,Blk w b e.t cs/\cs.size=e.V.size/\e.j≠none)/\∀ e∈T,∀ e'∈T,e≠e'->∀ b b',e.src = .fix b->e'.src = .fix b'->b≠b'
 | [],_=>⟨fun e h=>(by cases h),fun e h=>(by cases h)⟩
 | x::r,h=>by
  obtain⟨h1,h2⟩:=h;obtain⟨g1,g2⟩:=qds h2;refine⟨fun e he b hb=>?_,fun e he e' he' hne b b' hb hb'=>?_⟩
  ·rcases List.mem_cons.1 he with rfl|he
   ·rw [hb] at h1
    obtain⟨q1,cs,q2,q3,q4,_⟩:=h1;exact⟨q1,q2.lt,cs,q2,q3,q4⟩
   ·exact g1 e he b hb
  ·rcases List.mem_cons.1 he with rfl|he
   ·rcases List.mem_cons.1 he' with rfl|he'
    ·exact absurd rfl hne
    ·rw [hb] at h1
     obtain⟨_,cs,_,_,_,q5⟩:=h1;rintro rfl;exact q5 e' he' hb'
   ·rcases List.mem_cons.1 he' with he''|he'
    ·rw [he''] at hb'
     rw [hb'] at h1;obtain⟨_,cs,_,_,_,q5⟩:=h1;rintro rfl;exact q5 e he hb
    ·exact g2 e he e' he' hne b b' hb hb'
def Laid(n:Nat)(β:Nat->Nat)(W:World):List En->Prop
 | []=>True
 | e::r=>(Blk W (e.loc β) e.t e.V/\e.far n β)/\Laid n β W r
theorem qjd{n:Nat}{β:Nat->Nat}{W:World}:∀ {T:List En},(∀ e∈T,Blk W (e.loc β) e.t e.V/\e.far n β)->Laid n β W T
 | [],_=>trivial
 | e::r,h=>⟨h e zs,qjd (fun e' he=>h e' (by simp [he]))⟩
def lenB(l:List Oper)(T:List En):Bool:=(T.flatMap En.idx).all fun i=>decide (i<l.length)
def allB(l:List Oper)(T:List En):Bool:=dstB l.toArray && effB .any l.toArray && backB l.toArray && effIn l.toArray (T.flatMap En.idx) && idxB T && lenB l T
theorem yK{P:Program}{ops:Array Oper}{C C':World->Prop}{Q:Act->Prop}(h0:∀ w,¬ C' w):∀(l:List Oper) (a:Act),wpQuiet P ops C Q l a->wpQuiet P ops C' Q l a
 | [],_,h=>h
 | o::r,a,h=>by
  unfold wpQuiet at h |-
  split at h
  ·rename_i hw
   rw [if_pos hw];obtain⟨v,_,h2⟩:=h;exact⟨v,fun w hw=>absurd hw (h0 w),yK h0 r _ h2⟩
  ·rename_i hw
   rw [if_neg hw];exact yK h0 r _ h
theorem kK{P:Program}{l:List Oper}{Q:Exit->Act->World->Prop}{w:World}{id:Nat}{a:Act}(T:List En)(R:List Nat)(ds:List Nat)(hm:P.follows .mixedOrders=true)
  (ha:allB l T=true) (hB:∀ β,Region.lexB .any (jF β l)=true) (hds:qmx l=ds) (hF:fixOk R w T)
  (hh:∃ A:(Nat->Nat)->Act,(∀ β X,Cl X->Inhabited (GX R w X)->wpQuiet P (jF β l) (fun W=>∃ p:GX R w X,W=p.W) (fun a'=>a'=A β) (lays β l 0) a) /\
   AllOk P l.toArray A T/\qho A ds/\∀ β W,Fr R w W->Laid w.heap.size β W T->Q .normal (A β) W):(Code.region id l.toArray true).wp P Q a w:=by
 obtain⟨A,h,hO,hI,hQ⟩:=hh;unfold allB idxB at ha;simp only [Bool.and_eq_true,decide_eq_true_eq] at ha;obtain⟨⟨⟨⟨⟨a1,a2⟩,a3⟩,a4⟩,a5⟩,a6⟩:=ha;obtain⟨u1,u2⟩:=qcp a5;obtain⟨f1,f2⟩:=qds hF;refine qdh hm T R A a1 a2 a3 a4 hB u1 (fun e he i hi hj=>?_) (fun e he i hi=>?_) f1 f2 (fun β W f hl=>hQ β W f (qjd hl)) (qdr hO) (fun i o d ho hef hmc hd=>?_) (fun β X hX=>?_)
 ·have:=u2 e he
  unfold En.idx at this;rw [hi,hj] at this;simp at this
 ·have:=List.all_eq_true.1 a6 i (List.mem_flatMap.2 ⟨e,he,hi⟩)
  simpa using this
 ·refine qco hI d ?_
  rw [<- hds];unfold qmx;refine List.mem_filterMap.2 ⟨o,?_,by simp [hef,hmc,hd]⟩;have h1:l[i]?=some o:=by simpa using ho
  exact List.mem_of_getElem? h1
 ·have:=show wpQuiet P (jF β l) (fun W=>∃ p:GX R w X,W=p.W) (fun a'=>a'=A β) (lays β l 0) a by
   by_cases hne:∃ W,Fr R w W/\X W
   ·obtain⟨W,h1,h2⟩:=hne
    exact h β X hX ⟨⟨W,h1,h2⟩⟩
   ·exact yK (fun W ⟨p,_⟩=>hne ⟨p.W,p.fr,p.hx⟩) _ _ (h β (fun _=>True) (fun _ _ _ _=>trivial) ⟨⟨w,Fr.refl _ _,trivial⟩⟩)
  have e:(fun W=>∃ p:GX R w X,W=p.W)=(fun W=>Fr R w W/\X W):=by
   funext W;apply propext;constructor
   ·rintro⟨p,rfl⟩
    exact⟨p.fr,p.hx⟩
   ·rintro⟨h1,h2⟩
    exact⟨⟨W,h1,h2⟩,rfl⟩
  rw [e] at this;exact this
end Go.Proofs.YtmgdbbbdhkfdmaaGreat.Lay
namespace Go.Proofs.YtmgdbbbdhkfdmaaGreat
set_option maxRecDepth 100000
open Go.RowKit Go.Deep
theorem qkr{w:World}{b:Nat}{p:Prt}{dv:Value}(B:Blk w b 49 #[.int .i64 p.flags, .int .u32 p.seq, .int .u32 p.ack, .int .u16 p.win,dv]):(loadVar 49 ⟨b,0,none⟩).run Tryz.prog w = .ok (agP p dv) w:=xY 49 b 49 _ _ B Tryz.underlying49 rfl zk
theorem OkS.qhp{x:St}(ok:OkS x):OkS (shows x):=⟨ok.hi,ok.hu,ok.hw,ok.hc,ok.hm,ok.hl,ok.n0,ok.n1,ok.s0,ok.s1⟩
theorem qbh{S:Nat->Prop}{w:World}{x:St}{av uv kv:Value}(m:RE S w x av uv kv)(ok:OkS x)(ou:OkU x)(f a:Int)(h0:0<=a)(h1:a<=4611686018427387904)(DA:Option Addr)(dn dc:Nat)(d:List Int) :
  Calls Tryz.prog 81 #[agE x av uv kv, .int .i64 f, .int .i64 a, .slice DA dn dc] w fun e w'=>e = .returned (.tuple #[agE (shows x) av uv kv,agP (kz x f a d) (.slice DA dn dc)])/\Fr [] w w':=by
 obtain⟨⟨aA,ac,rfl,_,_⟩,⟨uA,uc,rfl,_,_⟩,⟨kA,kn,kc,rfl⟩⟩:=m.forms;have hr:=fun W (g:Fr [] w W)=>qjb (m.fr g) ok;have l0:=(Lo.start w (arE x (.slice aA x.all.length ac) (.slice uA x.unread.length uc) (.slice kA kn kc))).grow ((Fr.refl [] _).alloc (.cells zJ 49));have b0:=Blk.new ((w.alloc (.cells (arE x (.slice aA x.all.length ac) (.slice uA x.unread.length uc) (.slice kA kn kc)) 41)).alloc (.cells qy 41)) 49 zJ;rw [World.size_alloc,World.size_alloc] at b0;have haw:=fun W (g:Fr [] w W)=>qam ((m.to_ (y:=shows x) rfl rfl rfl).fr g) ok.qhp ⟨ou.i0,ou.i1,ou.p0,ou.p1⟩;have hadd:=fun W=>vO x.isn (1+a) W ou.i0 ou.i1 zw zw;have hpv:kz x f a d=⟨f,add32 x.isn (1+a),ku x,qK x,d⟩:=rfl;have hsv:shows x={ x with shown:=qK x }:=rfl;have haa:ku (shows x)=ku x:=rfl;have hrb:=qal x;have hwr:IntKind.i64.wrap (1+a)=1+a:=IntWalk.i64_in _ zw;have hw16:IntKind.u16.wrap (qK x)=qK x:=by rw [qcc];omega
 rw [haa] at haw;rw [hpv];clear hpv;rw [hsv] at haw |-
 clear hsv haa;generalize add32 x.isn (1+a)=sq at *
 generalize ku x=aw at *
 generalize qK x=rv at *
 have HRm:=hI hr;have HAw:=hI haw;have HAd:=hI hadd;have L0:=hI l0;have B0:=hI b0;clear hr haw hadd l0 b0 m ok ou h0 h1;go_enter Tryz.func81,Tryz.ntmps81;go_upto_region 1 with fail
 generalize ((w.alloc (.cells (arE x (.slice aA x.all.length ac) (.slice uA x.unread.length uc) (.slice kA kn kc)) 41)).alloc (.cells qy 41)).alloc (.cells zJ 49)=w1 at *
 have LB:Hid (∀ W,Fr [] w1 W->Lo w W w.heap.size (w.heap.size+1) (arE x (.slice aA x.all.length ac) (.slice uA x.unread.length uc) (.slice kA kn kc))):=hI (fun W f=>L0.out.grow f);go_upto_region 2 with (first
   | ((with_reducible refine qj 41 (.tmp 4) ?_);refine qf rfl 41 (.tmp 4) rfl w.heap.size 41 (arE x (.slice aA x.all.length ac) (.slice uA x.unread.length uc) (.slice kA kn kc)) _ rfl (LB.out _ zf).s Tryz.underlying41 rfl zk ?_)|(go_at_call 65;refine (HRm.out _ (LB.out _ (Fr.refl _ _)).f).mono ?_;rintro e w5 ⟨rfl,f5⟩;have c5:w5.cell? ⟨w.heap.size,32,none⟩=some (.int .i64 x.shown):=(LB.out _ f5).s.cell 32;have z5:=(LB.out _ f5).s.frozen 32;have hl5:=(LB.out _ f5).s.lt))
 have l2:Lo w (w5.setCell ⟨w.heap.size,32,none⟩ (.int .i64 rv)) w.heap.size (w.heap.size+1) (arE { x with shown:=rv } (.slice aA x.all.length ac) (.slice uA x.unread.length uc) (.slice kA kn kc)):=(LB.out _ f5).cell 32 (.int .i64 rv);have b2:Blk (w5.setCell ⟨w.heap.size,32,none⟩ (.int .i64 rv)) (w.heap.size+1+1) 49 zJ:=(B0.out.fr f5 zs).far zv _;generalize w5.setCell ⟨w.heap.size,32,none⟩ (.int .i64 rv)=w2 at *
 clear c5 z5 hl5;have c:=jK l2.s;have hb1:=l2.s.lt;have hR:∀ i,(⟨w.heap.size,i,none⟩:Addr).block∉[w.heap.size+1,w.heap.size+1+1]:=fun i=>by simp;omega
 refine Lay.kK [⟨.fix (w.heap.size+1),41,arE { x with shown:=rv } (.slice aA x.all.length ac) (.slice uA x.unread.length uc) (.slice kA kn kc),some 14⟩,⟨.fix (w.heap.size+1+1),49,#[.int .i64 f, .int .u32 sq, .int .u32 aw, .int .u16 rv, .slice DA dn dc],some 15⟩] [w.heap.size+1,w.heap.size+1+1] [19,21] zk zk (fun β=>by kernel_rfl) rfl ⟨⟨zs,_,l2.r,rfl,zs,zs⟩,⟨zs,_,b2,rfl,zs,zs⟩,trivial⟩ ?hh;apply Exists.intro;refine⟨?h,?hO,?hI,?hQ⟩;case h=>
  intro β X hX hN;have g0:∀ p:Lay.GX [w.heap.size+1,w.heap.size+1+1] w2 X,p.W.cell? ⟨w.heap.size,0,none⟩=some (.int .u32 x.isn):=Lay.GX.cell c.c0 (hR _);have g32:∀ p:Lay.GX [w.heap.size+1,w.heap.size+1+1] w2 X,p.W.cell? ⟨w.heap.size,32,none⟩=some (.int .i64 rv):=Lay.GX.cell c.c32 (hR _);have gb:Hid (∀ p:Lay.GX [w.heap.size+1,w.heap.size+1+1] w2 X,Blk p.W w.heap.size 41 (arE { x with shown:=rv } (.slice aA x.all.length ac) (.slice uA x.unread.length uc) (.slice kA kn kc))):=hI (fun p=>l2.s.fr p.fr (hR 0));have gf:Hid (∀ p:Lay.GX [w.heap.size+1,w.heap.size+1+1] w2 X,Fr [] w p.W):=hI (fun p=>l2.f.trans p.fr (fun y hy=>by simp at hy;rcases hy with rfl|rfl <;> right <;> omega));have hA':Hid (∀ p:Lay.GX [w.heap.size+1,w.heap.size+1+1] w2 X,Calls Tryz.prog 103 #[.int .u32 x.isn, .int .i64 (1+a)] p.W fun e w'=>e = .returned (.int .u32 sq)/\∃ q:Lay.GX [w.heap.size+1,w.heap.size+1+1] w2 X,w'=q.W):=hI (fun p=>Lay.GX.same (HAd.out p.W));have hW':Hid (∀ p:Lay.GX [w.heap.size+1,w.heap.size+1+1] w2 X,Calls Tryz.prog 66 #[agE { x with shown:=rv } (.slice aA x.all.length ac) (.slice uA x.unread.length uc) (.slice kA kn kc)] p.W fun e w'=>e = .returned (.int .u32 aw)/\∃ q:Lay.GX [w.heap.size+1,w.heap.size+1+1] w2 X,w'=q.W):=hI (fun p=>Lay.GX.call hX (HAw.out p.W (gf.out p)));simp only [Lay.jF,Lay.lays,Lay.lay,Lay.eff,Lay.xJ,if_true,if_false,Bool.false_eq_true,reduceIte];repeat (first
   | ((with_reducible refine kC 41 (.tmp 4) ?_);refine qH rfl 41 (.tmp 4) rfl w.heap.size 41 (arE { x with shown:=rv } (.slice aA x.all.length ac) (.slice uA x.unread.length uc) (.slice kA kn kc)) _ rfl (fun W hW=>by obtain⟨p,rfl⟩:=hW;exact gb.out p) Tryz.underlying41 rfl zk ?_;simp only [Act.put,zqA,zqB,zqC])
   | go_big_quiet_step (first|(go_at_call 103;exact hA'.out _)|(go_at_call 66;exact hW'.out _)))
  exact wpQuiet_nil rfl
 case hO=>exact⟨Lay.yJ rfl rfl rfl zk zo (fun β=>rfl) (fun β=>rfl),Lay.yJ rfl rfl rfl zk zo (fun β=>rfl) (fun β=>rfl),trivial⟩
 case hI=>exact⟨fun _ _=>rfl,fun _ _=>rfl,trivial⟩
 case hQ=>
  intro β W hf hl;obtain⟨⟨B1,_⟩,⟨B2,_⟩,_⟩:=hl;have F1:Fr [] w W:=l2.f.trans hf (fun y hy=>by simp at hy;rcases hy with rfl|rfl <;> right <;> omega);go_wp2_with fail
  refine bodyPost_ret (qhm 8 41 ⟨w.heap.size+1,0,none⟩ _ 9 49 ⟨w.heap.size+1+1,0,none⟩ _ zr zr (qw B1) zr (qkr (p:=⟨f,sq,aw,rv,d⟩) B2)) zr ?_;exact⟨rfl,F1⟩
end Go.Proofs.YtmgdbbbdhkfdmaaGreat
